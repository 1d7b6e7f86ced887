/-
  Texts of the proofs of this seat, part 7. No condition.
-/
import Derived.Test.YtpoohdjiocpcfaaGreatMF
set_option linter.unusedVariables false
set_option linter.unusedSimpArgs false
/-
  Chapter 22: EditValid. No condition.
-/
namespace Go.Eng
open Go.Proofs
attribute [local simp] runL stepL evalG evalOp opLV constLV putEnv dstOk upd upds Res.plain Res.cond Res.fail evalBin evalUn seqQ blockQ argsEnv lookL lookH RetIs memless freshL evalPick evalMin bval bok evalLen evalIn strip whenC guardOps guardC slotsOf
  runM foldS stepI stepM maskE wrIn lk renO lookN evalCall evalCallee optAll resLV resObj retLV retObj retsLV retsObj evalLoad evalIndexAddr evalField solid cellsD_agg cellsD_int cellsD_bool cellsD_str cellsD_sl cellsD_ro cellsD_fn cellsL_agg cellsL_dagg cellsL_int cellsL_bool cellsL_str cellsL_sl cellsL_fn cellsL_ow cellsL_bx cellsL_lfn cellsL_nl takeL takeD mkAgg allD eqD eqDs kindsAre kindIs LObj.live TK.isNone TK.agg TK.isBool TK.isStr TK.isStruct Op.operands Call.operands
  evalBuildSlice evalAppend elemsOf evalStore evalBuild fillL lookupF putL evalSlice bound evalConv elemsS freezes frozen loadR
  mkEnv_at mkObs_at close_d close_agg close_ow close_bx close_fn close_nl touch_d touch_agg touch_ow touch_bx touch_fn touch_nl ren_d ren_agg ren_bx ren_rp ren_ow ren_fn ren_nl ren_junk retQ_ret retQ2_ret condQ_bool Nm.d Df.d Ed.d nmsD dfsD strsD edsD retC_ret nm_eq df_eq take_map_len take_map_app
  nm_t nm_d nm_td df_t df_d df_td str_t str_d str_td ed_t ed_d ed_td
  evalAppendIn evalCut evalClear evalCopy evalMake evalWrap evalCap evalNil isNilC lenL isInp gorc
  mapOf findD keyEq keyOk evalMakeMap evalRange zeroD zeroDV argsG shutG outN lenv retG0_ret retG0_normal retG1_ret renO close_mp touch_mp ren_mp optAll_d optAll_d' touch_ds cellsL_mp cellsD_mp cellsL_dmp

/-- The five lists of a statement. -/
def five5 (a L1 L2 t : List Ed) : List (List Ed) := [a, L1, L2, t, []]
theorem turned_needs (l : List Int) (b : Int) : (allNeeds (turnedL (madeL l) b)).length ≤ 36 := by
  have h := flat_le (f := Ed.needs) (l := turnedL (madeL l) b) fun x hx => (made_mem (turned_mem.1 hx)).1
  have := madeL_len l
  rw [turned_len] at h
  unfold allNeeds; omega
theorem five_ok {l : List Int} {L1 L2 : List Ed} {b : Int} (h1 : SpB (madeL l) L1) (h2 : SpB L1 L2) {x : List Ed} (hx : x ∈ five5 (madeL l) L1 L2 (turnedL (madeL l) b)) : small x ∧ (allNeeds x).length ≤ 1000 ∧ x.length ≤ 1000 := by
  have q := lists_b h1 h2
  simp only [five5, List.mem_cons, List.not_mem_nil, or_false] at hx
  rcases hx with rfl | rfl | rfl | rfl | rfl
  · exact ⟨made_small l, by have := made_needs l; omega, by have := madeL_len l; omega⟩
  · exact ⟨fun e he => by have := q.part1 e he; omega, by have := q.need1; omega, by have := q.len1; omega⟩
  · exact ⟨fun e he => by have := q.part2 e he; omega, by have := q.need2; omega, by have := q.len2; omega⟩
  · refine ⟨fun e he => by have := made_mem (turned_mem.1 he); omega, by have := turned_needs l b; omega, ?_⟩
    rw [turned_len]
    have := madeL_len l; omega
  · exact ⟨fun e he => (by cases he), by simp [allNeeds], by simp⟩
theorem five_valid {l : List Int} {L1 L2 : List Ed} {b : Int} {i : Nat} (hi : i < 5) (h : i % 3 = 0) : (validV ((five5 (madeL l) L1 L2 (turnedL (madeL l) b))[i]'hi)).2 = 0 := by
  rcases (by omega : i = 0 ∨ i = 3) with rfl | rfl
  · show (validV (madeL l)).2 = 0
    rw [made_valid]
  · show (validV (turnedL (madeL l) b)).2 = 0
    rw [turned_valid]

/-- culprit/culpritlaw22.EditValid -/
theorem EditValid_ok (l : List Int) (how b : Int) (hr : ∀ n ∈ l, -9223372036854775808 ≤ n ∧ n ≤ 9223372036854775807) (q1 : -9223372036854775808 ≤ b) (q2 : b ≤ 9223372036854775807) (q3 : -9223372036854775808 ≤ how) (q4 : how ≤ 9223372036854775807) : Ok Tryz.prog 3 [.sl (l.map I64), I64 how, I64 b] ⟨.d (.bool true), true⟩ := by
  refine Ok.ret Tryz.func3 (by kernel_rfl) (c := _) rfl Tryz.ntmps3 (by simp) Tryz.results3 (by intro _ h; cases h) fun w0 X hp => ?_
  refine LWp.seq ?_
  refine LWp.reg hT hW (fun _ => none) (fun _ => ⟨rfl, fun _ h => h⟩) ?_
  simp
  refine LWp.seq ?_
  refine LWp.regRel hT hW 16 (fun r => (∃ L1 L2 : List Ed, SpB (madeL l) L1 ∧ SpB L1 L2 ∧ r.v = .d (.sl [edsD (madeL l), edsD L1, edsD L2, edsD (turnedL (madeL l) b), .sl []])) ∧ r.fresh = false) false ⟨.d (.sl [edsD (madeL l), edsD (madeL l), edsD (madeL l), edsD (turnedL (madeL l) b), .sl []]), false⟩ ⟨⟨⟨madeL l, madeL l, SpB.refl _, SpB.refl _, rfl⟩, rfl⟩, rfl⟩ (fun | 99 => none | _ => none) (by intro d; first | exact ⟨rfl, fun _ h => h⟩ | (split <;> exact ⟨rfl, fun _ h => h⟩)) (by kernel_rfl) fun r1 hr1 => ?_
  obtain ⟨v1, f1⟩ := r1
  obtain ⟨⟨L1, L2, hL1, hL2, hv⟩, hf⟩ := hr1
  dsimp only at hv hf
  obtain ⟨A, hA⟩ : ∃ A, A = five5 (madeL l) L1 L2 (turnedL (madeL l) b) := ⟨_, rfl⟩
  have hA5 : A.length = 5 := by rw [hA]; rfl
  have hok : ∀ x ∈ A, small x ∧ (allNeeds x).length ≤ 1000 ∧ x.length ≤ 1000 := fun x hx => five_ok hL1 hL2 (hA ▸ hx)
  have hvd : ∀ (i : Nat) (h : i < A.length), i % 3 = 0 → (validV A[i]).2 = 0 := by subst hA; exact fun i h hm => five_valid h hm
  have hAd : [edsD (madeL l), edsD L1, edsD L2, edsD (turnedL (madeL l) b), .sl []] = A.map edsD := by rw [hA]; rfl
  have hlo := lists_ok l how b hr q1 q2 q3 q4
  rw [hAd] at hv
  subst hv; subst hf
  simp
  refine ⟨by simpa using hlo, ?_⟩
  refine LWp.seq ?_
  refine LWp.seq ?_
  refine LWp.reg hT hW (fun _ => none) (fun _ => ⟨rfl, fun _ h => h⟩) ?_
  simp
  refine LWp.block ?_
  refine LWp.loopW (ι := Nat) (fun i => mkEnv [(7, .d (.sl (A.map edsD))), (8, .d (I64 i))]) (fun i => mkObs []) (fun i => i ≤ A.length) (fun i => A.length - i) 0 (Weak.to [7, 8] [] (by decide) (by decide) (by simp [hp]) (by simp) (by simp)) (by simp) fun i hi3 => ?_
  refine LWp.seq ?_
  refine LWp.seq ?_
  refine LWp.reg hT hW (fun _ => none) (fun _ => ⟨rfl, fun _ h => h⟩) ?_
  simp
  refine LWp.iff ?_
  simp
  refine ⟨fun h3 => ?_, fun h3 => ?_⟩
  · refine LWp.skip ?_
    simp
    refine LWp.seq ?_
    refine LWp.block ?_
    refine LWp.seq ?_
    have hxo := hok _ (List.getElem_mem h3)
    have hev := EValid_ok A[i] hxo.1
    have hrv := Valid_ok A[i] hxo.1 (by omega)
    refine LWp.reg hT hW (fun | 28 => some <| .plain ⟨.tup [.d (I64 (validV A[i]).1), .d (I64 (validV A[i]).2)], true⟩ | _ => none) (by intro d; first | exact ⟨rfl, fun _ h => h⟩ | (split <;> exact ⟨rfl, fun _ h => h⟩)) ?_
    simp [evalExtract, h3]
    refine ⟨by simpa using hev, ?_⟩
    refine LWp.seq ?_
    refine LWp.reg hT hW (fun | 36 => some <| .plain ⟨.tup [.d (I64 (validV A[i]).1), .d (I64 (validV A[i]).2)], true⟩ | _ => none) (by intro d; first | exact ⟨rfl, fun _ h => h⟩ | (split <;> exact ⟨rfl, fun _ h => h⟩)) ?_
    simp [evalExtract, h3]
    refine ⟨by simpa using hrv, ?_⟩
    refine LWp.seq ?_
    have hkey : (((i : Int).tmod 3 = 0) ∧ ¬ (validV A[i]).2 = 0) = False := by
      simp only [eq_iff_iff, iff_false, not_and, Decidable.not_not]
      intro ht
      rw [Int.tmod_eq_emod_of_nonneg (by omega)] at ht
      exact hvd i h3 (by omega)
    refine LWp.reg hT hW (fun _ => none) (fun _ => ⟨rfl, fun _ h => h⟩) ?_
    simp
    refine LWp.iff ?_
    simp [hkey]
    intro h7
    refine LWp.skip ?_
    simp
    refine LWp.reg hT hW (fun _ => none) (fun _ => ⟨rfl, fun _ h => h⟩) ?_
    simp
    refine ⟨by omega, ?_⟩
    refine loopQ.mk (i + 1) (Weak.to [7, 8] [] (by decide) (by decide) (by simp [hp]) (by simp) (by simp)) ?_ ?_
    · omega
    · omega
  · refine LWp.exit ?_
    simp
    refine LWp.seq ?_
    refine LWp.reg hT hW (fun | 56 => some <| .plain ⟨.d (.bool true), true⟩ | _ => none) (by intro d; first | exact ⟨rfl, fun _ h => h⟩ | (split <;> exact ⟨rfl, fun _ h => h⟩)) ?_
    simp
    refine ⟨lives_ok, ?_⟩
    refine LWp.ret ?_
    simp

end Go.Eng

/-
  Chapter 22: EditFinds. No condition.
-/
namespace Go.Eng
open Go.Proofs
attribute [local simp] runL stepL evalG evalOp opLV constLV putEnv dstOk upd upds Res.plain Res.cond Res.fail evalBin evalUn seqQ blockQ argsEnv lookL lookH RetIs memless freshL evalPick evalMin bval bok evalLen evalIn strip whenC guardOps guardC slotsOf
  runM foldS stepI stepM maskE wrIn lk renO lookN evalCall evalCallee optAll resLV resObj retLV retObj retsLV retsObj evalLoad evalIndexAddr evalField solid cellsD_agg cellsD_int cellsD_bool cellsD_str cellsD_sl cellsD_ro cellsD_fn cellsL_agg cellsL_dagg cellsL_int cellsL_bool cellsL_str cellsL_sl cellsL_fn cellsL_ow cellsL_bx cellsL_lfn cellsL_nl takeL takeD mkAgg allD eqD eqDs kindsAre kindIs LObj.live TK.isNone TK.agg TK.isBool TK.isStr TK.isStruct Op.operands Call.operands
  evalBuildSlice evalAppend elemsOf evalStore evalBuild fillL lookupF putL evalSlice bound evalConv elemsS freezes frozen loadR
  mkEnv_at mkObs_at close_d close_agg close_ow close_bx close_fn close_nl touch_d touch_agg touch_ow touch_bx touch_fn touch_nl ren_d ren_agg ren_bx ren_rp ren_ow ren_fn ren_nl ren_junk retQ_ret retQ2_ret condQ_bool Nm.d Df.d Ed.d nmsD dfsD strsD edsD retC_ret nm_eq df_eq take_map_len take_map_app
  nm_t nm_d nm_td df_t df_d df_td str_t str_d str_td ed_t ed_d ed_td
  evalAppendIn evalCut evalClear evalCopy evalMake evalWrap evalCap evalNil isNilC lenL isInp gorc
  mapOf findD keyEq keyOk evalMakeMap evalRange zeroD zeroDV argsG shutG outN lenv retG0_ret retG0_normal retG1_ret renO close_mp touch_mp ren_mp optAll_d optAll_d' touch_ds cellsL_mp cellsD_mp cellsL_dmp

theorem five_len {l : List Int} {L1 L2 : List Ed} {b : Int} (h1 : SpB (madeL l) L1) (h2 : SpB L1 L2) {x : List Ed} (hx : x ∈ five5 (madeL l) L1 L2 (turnedL (madeL l) b)) : x.length ≤ 140 := by
  have q := lists_b h1 h2
  have := madeL_len l
  simp only [five5, List.mem_cons, List.not_mem_nil, or_false] at hx
  rcases hx with rfl | rfl | rfl | rfl | rfl
  · omega
  · have := q.len1; omega
  · exact q.len2
  · rw [turned_len]; omega
  · simp
theorem same_true (a : List Nm) : Ok Tryz.prog 19 [nmsD a, nmsD a] ⟨.d (.bool true), true⟩ := by
  have := SameNames_ok a a
  rwa [decide_eq_true rfl] at this

set_option maxRecDepth 10000
set_option maxHeartbeats 1000000

/-- culprit/culpritlaw22.EditFinds -/
theorem EditFinds_ok (l : List Int) (how b bits : Int) (hr : ∀ n ∈ l, -9223372036854775808 ≤ n ∧ n ≤ 9223372036854775807) (q1 : -9223372036854775808 ≤ how ∧ how ≤ 9223372036854775807) (q2 : -9223372036854775808 ≤ b ∧ b ≤ 9223372036854775807) (q3 : -9223372036854775808 ≤ bits ∧ bits ≤ 9223372036854775807) : Ok Tryz.prog 4 [.sl (l.map I64), I64 how, I64 b, I64 bits] ⟨.d (.bool true), true⟩ := by
  refine Ok.ret Tryz.func4 (by kernel_rfl) (c := _) rfl Tryz.ntmps4 (by simp) Tryz.results4 (by intro _ h; cases h) fun w0 X hp => ?_
  refine LWp.seq ?_
  refine LWp.reg hT hW (fun _ => none) (fun _ => ⟨rfl, fun _ h => h⟩) ?_
  simp
  refine LWp.seq ?_
  refine LWp.regRel hT hW 23 (fun r => (∃ L1 L2 : List Ed, SpB (madeL l) L1 ∧ SpB L1 L2 ∧ r.v = .d (.sl [edsD (madeL l), edsD L1, edsD L2, edsD (turnedL (madeL l) b), .sl []])) ∧ r.fresh = false) false ⟨.d (.sl [edsD (madeL l), edsD (madeL l), edsD (madeL l), edsD (turnedL (madeL l) b), .sl []]), false⟩ ⟨⟨⟨madeL l, madeL l, SpB.refl _, SpB.refl _, rfl⟩, rfl⟩, rfl⟩ (fun | 99 => none | _ => none) (by intro d; first | exact ⟨rfl, fun _ h => h⟩ | (split <;> exact ⟨rfl, fun _ h => h⟩)) (by kernel_rfl) fun r1 hr1 => ?_
  obtain ⟨v1, f1⟩ := r1
  obtain ⟨⟨L1, L2, hL1, hL2, hv⟩, hf⟩ := hr1
  dsimp only at hv hf
  obtain ⟨A, hA⟩ : ∃ A, A = five5 (madeL l) L1 L2 (turnedL (madeL l) b) := ⟨_, rfl⟩
  have hok : ∀ x ∈ A, small x ∧ (allNeeds x).length ≤ 1000 ∧ x.length ≤ 140 := fun x hx => ⟨(five_ok hL1 hL2 (hA ▸ hx)).1, (five_ok hL1 hL2 (hA ▸ hx)).2.1, five_len hL1 hL2 (hA ▸ hx)⟩
  have hAl : A.length = 5 := by rw [hA]; rfl
  have hAd : [edsD (madeL l), edsD L1, edsD L2, edsD (turnedL (madeL l) b), .sl []] = A.map edsD := by rw [hA]; rfl
  have hlo := lists_ok l how b hr q2.1 q2.2 q1.1 q1.2
  rw [hAd] at hv
  subst hv; subst hf
  simp
  refine ⟨by simpa using hlo, ?_⟩
  clear hA
  refine LWp.seq ?_
  refine LWp.seq ?_
  refine LWp.reg hT hW (fun _ => none) (fun _ => ⟨rfl, fun _ h => h⟩) ?_
  simp
  refine LWp.block ?_
  refine LWp.loopW (ι := Nat) (fun i => mkEnv [(2, .d (I64 b)), (3, .d (I64 bits)), (9, .d (.sl (A.map edsD))), (10, .d (I64 i))]) (fun i => mkObs []) (fun i => i ≤ A.length) (fun i => A.length - i) 0 (Weak.to [2, 3, 9, 10] [] (by decide) (by decide) (by simp [hp]) (by simp) (by simp)) (by simp) fun i hi3 => ?_
  refine LWp.seq ?_
  refine LWp.seq ?_
  refine LWp.reg hT hW (fun _ => none) (fun _ => ⟨rfl, fun _ h => h⟩) ?_
  simp
  refine LWp.iff ?_
  simp
  refine ⟨fun h3 => ?_, fun h3 => ?_⟩
  · refine LWp.skip ?_
    simp
    refine LWp.seq ?_
    refine LWp.block ?_
    refine LWp.seq ?_
    have hAi := hok _ (List.getElem_mem h3)
    obtain ⟨S, hS⟩ : ∃ S, S = namesV A[i] bits b := ⟨_, rfl⟩
    have hS6 : S.length = 6 := by rw [hS]; rfl
    have hSl : ∀ x ∈ S, x.length ≤ 400 := fun x hx => by have := namesV_len (hS ▸ hx); omega
    have hSn := names_ok A[i] bits b (by omega) q2.1 q2.2 q3.1 q3.2
    rw [← hS] at hSn
    clear hS
    refine LWp.reg hT hW (fun | 36 => some <| .plain ⟨.d (.sl (S.map nmsD)), false⟩ | _ => none) (by intro d; first | exact ⟨rfl, fun _ h => h⟩ | (split <;> exact ⟨rfl, fun _ h => h⟩)) ?_
    simp [h3]
    refine ⟨hSn, ?_⟩
    refine LWp.seq ?_
    refine LWp.seq ?_
    refine LWp.reg hT hW (fun _ => none) (fun _ => ⟨rfl, fun _ h => h⟩) ?_
    simp
    refine LWp.block ?_
    refine LWp.loopW (ι := Nat) (fun k => mkEnv [(2, .d (I64 b)), (3, .d (I64 bits)), (9, .d (.sl (A.map edsD))), (10, .d (I64 i)), (11, .d (.sl (S.map nmsD))), (12, .d (I64 k))]) (fun k => mkObs []) (fun k => k ≤ S.length) (fun k => S.length - k) 0 (Weak.to [2, 3, 9, 10, 11, 12] [] (by decide) (by decide) (by simp [hp]) (by simp) (by simp)) (by simp) fun k hi7 => ?_
    refine LWp.seq ?_
    refine LWp.seq ?_
    refine LWp.reg hT hW (fun _ => none) (fun _ => ⟨rfl, fun _ h => h⟩) ?_
    simp
    refine LWp.iff ?_
    simp
    refine ⟨fun h7 => ?_, fun h7 => ?_⟩
    · refine LWp.skip ?_
      simp
      refine LWp.seq ?_
      refine LWp.block ?_
      refine LWp.seq ?_
      have hSk := hSl _ (List.getElem_mem h7)
      obtain ⟨c1, c2, hc⟩ : ∃ c1 c2, closureV A[i] S[k] = (c1, c2) := ⟨_, _, rfl⟩
      have hc1 := (EClosure_ok A[i] S[k] (by omega) (by omega)).own2_d
      have hc2 := Closure_ok A[i] S[k] (by omega) (by omega)
      rw [hc] at hc1 hc2
      refine LWp.regAny hT hW hMixed (lk [[], [], [0, 1], [0, 1, 2], [], [], [4, 5], [4, 5, 6], [0, 1, 2, 3, 4, 5, 6, 7], [0, 1, 2, 3, 4, 5, 6, 7, 8], [0, 1, 2, 3, 4, 5, 6, 7, 8, 9], [0, 1, 2, 3, 4, 5, 6, 7, 8, 9], [0, 1, 2, 3, 4, 5, 6, 7, 8, 9, 10], [0, 1, 2, 3, 4, 5, 6, 7, 8, 9, 10, 11, 12]]) (lk [[], [], [], [], [], [], [], [], [], [], [], [], [], []]) (lk [[], [], [], [], [], [], [], [], [52], [], [], [], [], []]) (by kernel_rfl) (fun | 52 => some <| .plain ⟨.tup [.d (nmsD c1), .d (I64 c2)], true⟩ | _ => none) (by intro d; first | exact ⟨rfl, fun _ h => h⟩ | (split <;> exact ⟨rfl, fun _ h => h⟩)) ?_
      simp [evalExtract, h3, h7]
      refine ⟨hc1, ?_⟩
      refine LWp.seq ?_
      refine LWp.regAny hT hW hMixed (lk [[], [], [0, 1], [0, 1, 2], [], [], [4, 5], [4, 5, 6], [0, 1, 2, 3, 4, 5, 6, 7], [0, 1, 2, 3, 4, 5, 6, 7, 8], [0, 1, 2, 3, 4, 5, 6, 7, 8, 9], [0, 1, 2, 3, 4, 5, 6, 7, 8, 9], [0, 1, 2, 3, 4, 5, 6, 7, 8, 9, 10], [0, 1, 2, 3, 4, 5, 6, 7, 8, 9, 10, 11, 12]]) (lk [[], [], [], [], [], [], [], [], [], [], [], [], [], []]) (lk [[], [], [], [], [], [], [], [], [64], [], [], [], [], []]) (by kernel_rfl) (fun | 64 => some <| .plain ⟨.tup [.d (nmsD c1), .d (I64 c2)], false⟩ | _ => none) (by intro d; first | exact ⟨rfl, fun _ h => h⟩ | (split <;> exact ⟨rfl, fun _ h => h⟩)) ?_
      simp [evalExtract, h3, h7]
      refine ⟨hc2, ?_⟩
      refine LWp.seq ?_
      have hso : S[k].length ≤ 1000000 := by omega
      refine LWp.regAny hT hW hMixed (lk [[], [], [0, 1], [0, 1, 2], [0, 1, 2, 3], [0, 1, 2, 3], [0, 1, 2, 3, 4, 5], [0, 1, 2, 3, 4, 5, 6], [0, 1, 2, 3, 4, 5, 6, 7], [0, 1, 2, 3, 4, 5, 6, 7, 8], [0, 1, 2, 3, 4, 5, 6, 7, 8, 9], [0, 1, 2, 3, 4, 5, 6, 7, 8, 9], [0, 1, 2, 3, 4, 5, 6, 7, 8, 9, 10, 11], [0, 1, 2, 3, 4, 5, 6, 7, 8, 9, 10, 11, 12], [0, 1, 2, 3, 4, 5, 6, 7, 8, 9], [0, 1, 2, 3, 4, 5, 6, 7, 8, 9], [0, 1, 2, 3, 4, 5, 6, 7, 8, 9, 14, 15], [0, 1, 2, 3, 4, 5, 6, 7, 8, 9, 14, 15, 16], [0, 1, 2, 3, 4, 5, 6, 7, 8, 9, 10, 11, 12, 13, 14, 15, 16, 17], [0, 1, 2, 3, 4, 5, 6, 7, 8, 9], [0, 1, 2, 3, 4, 5, 6, 7, 8, 9], [0, 1, 2, 3, 4, 5, 6, 7, 8, 9, 19, 20], [0, 1, 2, 3, 4, 5, 6, 7, 8, 9, 19, 20, 21], [0, 1, 2, 3, 4, 5, 6, 7, 8, 9], [0, 1, 2, 3, 4, 5, 6, 7, 8, 9], [0, 1, 2, 3, 4, 5, 6, 7, 8, 9, 23, 24], [0, 1, 2, 3, 4, 5, 6, 7, 8, 9, 23, 24, 25], [0, 1, 2, 3, 4, 5, 6, 7, 8, 9, 10, 11, 12, 13, 14, 15, 16, 17, 18, 19, 20, 21, 22, 23, 24, 25, 26], [0, 1, 2, 3, 4, 5, 6, 7, 8, 9, 10, 11, 12, 13, 14, 15, 16, 17, 18, 19, 20, 21, 22, 23, 24, 25, 26, 27], [0, 1, 2, 3, 4, 5, 6, 7, 8, 9, 10, 11, 12, 13, 14, 15, 16, 17, 18, 19, 20, 21, 22, 23, 24, 25, 26, 27, 28], [0, 1, 2, 3, 4, 5, 6, 7, 8, 9, 10, 11, 12, 13, 14, 15, 16, 17, 18, 19, 20, 21, 22, 23, 24, 25, 26, 27, 28, 29], [0, 1, 2, 3, 4, 5, 6, 7, 8, 9, 10, 11, 12, 13, 14, 15, 16, 17, 18, 19, 20, 21, 22, 23, 24, 25, 26, 27, 28, 29, 30], [0, 1, 2, 3, 4, 5, 6, 7, 8, 9, 10, 11, 12, 13, 14, 15, 16, 17, 18, 19, 20, 21, 22, 23, 24, 25, 26, 27, 28, 29, 30], [0, 1, 2, 3, 4, 5, 6, 7, 8, 9, 10, 11, 12, 13, 14, 15, 16, 17, 18, 19, 20, 21, 22, 23, 24, 25, 26, 27, 28, 29, 30, 31, 32], [0, 1, 2, 3, 4, 5, 6, 7, 8, 9, 10, 11, 12, 13, 14, 15, 16, 17, 18, 19, 20, 21, 22, 23, 24, 25, 26, 27, 28, 29, 30, 31, 32, 33], [0, 1, 2, 3, 4, 5, 6, 7, 8, 9, 10, 11, 12, 13, 14, 15, 16, 17, 18, 19, 20, 21, 22, 23, 24, 25, 26, 27, 28, 29, 30, 31, 32, 33, 34], [0, 1, 2, 3, 4, 5, 6, 7, 8, 9, 10, 11, 12, 13, 14, 15, 16, 17, 18, 19, 20, 21, 22, 23, 24, 25, 26, 27, 28, 29, 30], [0, 1, 2, 3, 4, 5, 6, 7, 8, 9, 10, 11, 12, 13, 14, 15, 16, 17, 18, 19, 20, 21, 22, 23, 24, 25, 26, 27, 28, 29, 30], [0, 1, 2, 3, 4, 5, 6, 7, 8, 9, 10, 11, 12, 13, 14, 15, 16, 17, 18, 19, 20, 21, 22, 23, 24, 25, 26, 27, 28, 29, 30, 36, 37], [0, 1, 2, 3, 4, 5, 6, 7, 8, 9, 10, 11, 12, 13, 14, 15, 16, 17, 18, 19, 20, 21, 22, 23, 24, 25, 26, 27, 28, 29, 30, 36, 37, 38], [0, 1, 2, 3, 4, 5, 6, 7, 8, 9, 10, 11, 12, 13, 14, 15, 16, 17, 18, 19, 20, 21, 22, 23, 24, 25, 26, 27, 28, 29, 30, 31, 32, 33, 34, 35, 36, 37, 38, 39], [0, 1, 2, 3, 4, 5, 6, 7, 8, 9, 10, 11, 12, 13, 14, 15, 16, 17, 18, 19, 20, 21, 22, 23, 24, 25, 26, 27, 28, 29, 30, 31, 32, 33, 34, 35, 36, 37, 38, 39, 40], [0, 1, 2, 3, 4, 5, 6, 7, 8, 9, 10, 11, 12, 13, 14, 15, 16, 17, 18, 19, 20, 21, 22, 23, 24, 25, 26, 27, 28, 29, 30, 31, 32, 33, 34, 35, 36, 37, 38, 39, 40, 41], [0, 1, 2, 3, 4, 5, 6, 7, 8, 9, 10, 11, 12, 13, 14, 15, 16, 17, 18, 19, 20, 21, 22, 23, 24, 25, 26, 27, 28, 29, 30, 31, 32, 33, 34, 35, 36, 37, 38, 39, 40, 41, 42]]) (lk [[], [], [], [], [], [], [], [], [], [], [], [], [], [], [], [], [], [], [], [85], [85], [85], [85], [85], [85], [85], [85], [], [], [], [], [], [], [], [], [], [102], [102], [102], [102], [], [], [], []]) (lk [[], [], [], [], [], [], [73], [], [], [], [], [], [], [], [], [], [], [], [85], [], [], [], [], [], [], [], [], [94], [], [], [], [], [], [], [], [102], [], [], [], [], [107], [108], [], []]) (by kernel_rfl) (fun | 73 => some <| .plain ⟨.d (.bool true), true⟩ | 85 => some <| .plain ⟨.d (.bool (closedB A[i] S[k])), true⟩ | 94 => some <| .plain ⟨.d (.bool (closedB A[i] S[k])), true⟩ | 102 => some <| .plain ⟨.d (nmsD (sortN S[k])), true⟩ | 107 => some <| .plain ⟨.d (nmsD (sortN S[k])), true⟩ | 108 => some <| .plain ⟨.d (.bool true), true⟩ | _ => none) (by intro d; first | exact ⟨rfl, fun _ h => h⟩ | (split <;> exact ⟨rfl, fun _ h => h⟩)) ?_
      simp [h3, h7]
      refine ⟨⟨⟨⟨⟨⟨same_true c1, EClosed_ok _ _⟩, Closed_ok _ _ (by omega) (by omega)⟩, (ESort_ok _ (by omega)).own_d⟩, Sort_ok _ hso⟩, same_true _⟩, ?_⟩
      refine LWp.iff ?_
      simp
      refine LWp.skip ?_
      simp
      refine LWp.reg hT hW (fun _ => none) (fun _ => ⟨rfl, fun _ h => h⟩) ?_
      simp
      refine ⟨by omega, ?_⟩
      refine loopQ.mk (k + 1) (Weak.to [2, 3, 9, 10, 11, 12] [] (by decide) (by decide) (by simp [hp]) (by simp) (by simp)) ?_ ?_
      · omega
      · omega
    · refine LWp.exit ?_
      simp
      refine LWp.seq ?_
      have hS2 : 2 < S.length := by omega
      have hS2i : (2 : Int) < (S.length : Int) := by omega
      obtain ⟨n9, hn9⟩ : ∃ n9, n9 = around (S[2].length : Int) 9 := ⟨_, rfl⟩
      have hS2l := hSl _ (List.getElem_mem hS2)
      refine LWp.reg hT hW (fun | 115 => some <| .plain ⟨.d (I64 n9), true⟩ | _ => none) (by intro d; first | exact ⟨rfl, fun _ h => h⟩ | (split <;> exact ⟨rfl, fun _ h => h⟩)) ?_
      simp [hS2, hS2i]
      refine ⟨by rw [hn9]; exact Around_ok _ 9 (by omega) (by omega) (by decide), ?_⟩
      refine LWp.seq ?_
      refine LWp.reg hT hW (fun _ => none) (fun _ => ⟨rfl, fun _ h => h⟩) ?_
      simp
      refine LWp.block ?_
      refine LWp.loopW (ι := Nat) (fun k => mkEnv [(2, .d (I64 b)), (3, .d (I64 bits)), (9, .d (.sl (A.map edsD))), (10, .d (I64 i)), (11, .d (.sl (S.map nmsD))), (17, .d (I64 n9)), (18, .d (I64 k))]) (fun k => mkObs []) (fun k => k ≤ S[2].length) (fun k => S[2].length - k) 0 (Weak.to [2, 3, 9, 10, 11, 17, 18] [] (by decide) (by decide) (by simp [hp]) (by simp) (by simp)) (by simp) fun k hi15 => ?_
      refine LWp.seq ?_
      refine LWp.seq ?_
      refine LWp.reg hT hW (fun _ => none) (fun _ => ⟨rfl, fun _ h => h⟩) ?_
      simp [hS2, hS2i]
      refine LWp.iff ?_
      simp
      refine ⟨fun _ h15 => ?_, fun h15 => ?_⟩
      · refine LWp.skip ?_
        simp
        refine LWp.seq ?_
        refine LWp.block ?_
        refine LWp.seq ?_
        refine LWp.seq ?_
        refine LWp.regAny hT hW hMixed (lk [[], [], [0, 1], [0, 1, 2], [], [4], [4, 5], [], [4, 5, 6, 7], [4, 5, 6, 7, 8], [0, 1, 2, 3, 4, 5, 6, 7, 8, 9], [], [], [11, 12], [11, 12, 13], [], [15], [15, 16], [], [15, 16, 17, 18], [15, 16, 17, 18, 19], [0, 1, 2, 3, 4, 5, 6, 7, 8, 9, 10, 11, 12, 13, 14, 15, 16, 17, 18, 19, 20], [0, 1, 2, 3, 4, 5, 6, 7, 8, 9, 10, 11, 12, 13, 14, 15, 16, 17, 18, 19, 20, 21]]) (lk [[], [], [], [], [], [], [], [], [], [], [], [139], [139], [139], [139], [139], [139], [139], [139], [139], [139], [], []]) (lk [[], [], [], [], [], [], [], [], [], [], [139], [], [], [], [], [], [], [], [], [], [], [150], []]) (by kernel_rfl) (fun | 139 => some <| .plain ⟨.d (I64 (findI A[i] S[2][k])), true⟩ | 150 => some <| .plain ⟨.d (I64 (findI A[i] S[2][k])), true⟩ | _ => none) (by intro d; first | exact ⟨rfl, fun _ h => h⟩ | (split <;> exact ⟨rfl, fun _ h => h⟩)) ?_
        simp [h3, hS2, hS2i, h15]
        refine ⟨⟨EFind_ok _ _, Find_ok _ _⟩, ?_⟩
        refine LWp.iff ?_
        simp
        refine LWp.skip ?_
        simp
        refine LWp.seq ?_
        refine LWp.reg hT hW (fun _ => none) (fun _ => ⟨rfl, fun _ h => h⟩) ?_
        simp
        refine LWp.block ?_
        refine LWp.loopW (ι := Nat) (fun j => mkEnv [(2, .d (I64 b)), (3, .d (I64 bits)), (9, .d (.sl (A.map edsD))), (10, .d (I64 i)), (11, .d (.sl (S.map nmsD))), (17, .d (I64 n9)), (18, .d (I64 k)), (19, .d (I64 j))]) (fun j => mkObs []) (fun j => j ≤ S[2].length) (fun j => S[2].length - j) 0 (Weak.to [2, 3, 9, 10, 11, 17, 18, 19] [] (by decide) (by decide) (by simp [hp]) (by simp) (by simp)) (by simp) fun j hi20 => ?_
        refine LWp.seq ?_
        refine LWp.seq ?_
        refine LWp.reg hT hW (fun _ => none) (fun _ => ⟨rfl, fun _ h => h⟩) ?_
        simp [hS2, hS2i]
        refine LWp.iff ?_
        simp
        refine ⟨fun _ h20 => ?_, fun h20 => ?_⟩
        · refine LWp.skip ?_
          simp
          refine LWp.seq ?_
          refine LWp.block ?_
          refine LWp.seq ?_
          refine LWp.regAny hT hW hMixed (lk [[], [], [0, 1], [0, 1, 2], [], [4], [4, 5], [], [4, 5, 6, 7], [4, 5, 6, 7, 8], [], [10], [10, 11], [], [10, 11, 12, 13], [10, 11, 12, 13, 14], [0, 1, 2, 3, 4, 5, 6, 7, 8, 9, 10, 11, 12, 13, 14, 15], [], [], [17, 18], [17, 18, 19], [], [21], [21, 22], [], [21, 22, 23, 24], [21, 22, 23, 24, 25], [], [27], [27, 28], [], [27, 28, 29, 30], [27, 28, 29, 30, 31], [0, 1, 2, 3, 4, 5, 6, 7, 8, 9, 10, 11, 12, 13, 14, 15, 16, 17, 18, 19, 20, 21, 22, 23, 24, 25, 26, 27, 28, 29, 30, 31, 32], [0, 1, 2, 3, 4, 5, 6, 7, 8, 9, 10, 11, 12, 13, 14, 15, 16, 17, 18, 19, 20, 21, 22, 23, 24, 25, 26, 27, 28, 29, 30, 31, 32, 33]]) (lk [[], [], [], [], [], [], [], [], [], [], [], [], [], [], [], [], [], [181], [181], [181], [181], [181], [181], [181], [181], [181], [181], [181], [181], [181], [181], [181], [181], [], []]) (lk [[], [], [], [], [], [], [], [], [], [], [], [], [], [], [], [], [181], [], [], [], [], [], [], [], [], [], [], [], [], [], [], [], [], [198], []]) (by kernel_rfl) (fun | 181 => some <| .plain ⟨.d (.bool (decide (S[2][k] ∈ aboveL A[i] S[2][j]))), true⟩ | 198 => some <| .plain ⟨.d (.bool (decide (S[2][k] ∈ aboveL A[i] S[2][j]))), true⟩ | _ => none) (by intro d; first | exact ⟨rfl, fun _ h => h⟩ | (split <;> exact ⟨rfl, fun _ h => h⟩)) ?_
          simp [h3, hS2, hS2i, h15, h20]
          refine ⟨⟨EBefore_ok _ _ _, Before_ok _ _ _ (by omega)⟩, ?_⟩
          refine LWp.iff ?_
          simp
          refine LWp.skip ?_
          simp
          refine LWp.reg hT hW (fun _ => none) (fun _ => ⟨rfl, fun _ h => h⟩) ?_
          simp
          refine ⟨by omega, ?_⟩
          refine loopQ.mk (j + 1) (Weak.to [2, 3, 9, 10, 11, 17, 18, 19] [] (by decide) (by decide) (by simp [hp]) (by simp) (by simp)) ?_ ?_
          · omega
          · omega
        · refine LWp.exit ?_
          simp
          refine LWp.reg hT hW (fun _ => none) (fun _ => ⟨rfl, fun _ h => h⟩) ?_
          simp
          refine ⟨by omega, ?_⟩
          refine loopQ.mk (k + 1) (Weak.to [2, 3, 9, 10, 11, 17, 18] [] (by decide) (by decide) (by simp [hp]) (by simp) (by simp)) ?_ ?_
          · omega
          · omega
      · refine LWp.exit ?_
        simp
        refine LWp.reg hT hW (fun _ => none) (fun _ => ⟨rfl, fun _ h => h⟩) ?_
        simp
        refine ⟨by omega, ?_⟩
        refine loopQ.mk (i + 1) (Weak.to [2, 3, 9, 10] [] (by decide) (by decide) (by simp [hp]) (by simp) (by simp)) ?_ ?_
        · omega
        · omega
  · refine LWp.exit ?_
    simp
    refine LWp.seq ?_
    refine LWp.reg hT hW (fun | 200 => some <| .plain ⟨.d (.bool true), true⟩ | _ => none) (by intro d; first | exact ⟨rfl, fun _ h => h⟩ | (split <;> exact ⟨rfl, fun _ h => h⟩)) ?_
    simp
    refine ⟨lives_ok, ?_⟩
    refine LWp.ret ?_
    simp

end Go.Eng

/-
  Chapter 22: EditPrograms. No condition.
-/
namespace Go.Eng
open Go.Proofs
attribute [local simp] runL stepL evalG evalOp opLV constLV putEnv dstOk upd upds Res.plain Res.cond Res.fail evalBin evalUn seqQ blockQ argsEnv lookL lookH RetIs memless freshL evalPick evalMin bval bok evalLen evalIn strip whenC guardOps guardC slotsOf
  runM foldS stepI stepM maskE wrIn lk renO lookN evalCall evalCallee optAll resLV resObj retLV retObj retsLV retsObj evalLoad evalIndexAddr evalField solid cellsD_agg cellsD_int cellsD_bool cellsD_str cellsD_sl cellsD_ro cellsD_fn cellsL_agg cellsL_dagg cellsL_int cellsL_bool cellsL_str cellsL_sl cellsL_fn cellsL_ow cellsL_bx cellsL_lfn cellsL_nl takeL takeD mkAgg allD eqD eqDs kindsAre kindIs LObj.live TK.isNone TK.agg TK.isBool TK.isStr TK.isStruct Op.operands Call.operands
  evalBuildSlice evalAppend elemsOf evalStore evalBuild fillL lookupF putL evalSlice bound evalConv elemsS freezes frozen loadR
  mkEnv_at mkObs_at close_d close_agg close_ow close_bx close_fn close_nl touch_d touch_agg touch_ow touch_bx touch_fn touch_nl ren_d ren_agg ren_bx ren_rp ren_ow ren_fn ren_nl ren_junk retQ_ret retQ2_ret condQ_bool Nm.d Df.d Ed.d nmsD dfsD strsD edsD retC_ret nm_eq df_eq take_map_len take_map_app
  nm_t nm_d nm_td df_t df_d df_td str_t str_d str_td ed_t ed_d ed_td
  evalAppendIn evalCut evalClear evalCopy evalMake evalWrap evalCap evalNil isNilC lenL isInp gorc
  mapOf findD keyEq keyOk evalMakeMap evalRange zeroD zeroDV argsG shutG outN lenv retG0_ret retG0_normal retG1_ret renO close_mp touch_mp ren_mp optAll_d optAll_d' touch_ds cellsL_mp cellsD_mp cellsL_dmp

theorem same_dtrue (a : List Df) : Ok Tryz.prog 34 [dfsD a, dfsD a] ⟨.d (.bool true), true⟩ := by
  have := SameDefs_ok a a
  rwa [decide_eq_true rfl] at this
theorem nodup_len : ∀ {x y : List Nm}, x.Nodup → (∀ n ∈ x, n ∈ y) → x.length ≤ y.length
  | [], _, _, _ => Nat.zero_le _
  | a :: t, y, hx, hs => by
    have hx' := List.nodup_cons.1 hx
    have ha := hs a (by simp)
    have ih := nodup_len (x := t) (y := y.erase a) hx'.2 fun n hn => (List.mem_erase_of_ne (by intro e; subst e; exact hx'.1 hn)).2 (hs n (by simp [hn]))
    rw [List.length_erase_of_mem ha] at ih
    have := List.length_pos_of_mem ha
    simp only [List.length_cons]; omega
theorem closure_len {l : List Ed} {S : List Nm} : (closureV l S).1.length ≤ l.length := by
  unfold closureV
  split
  · simp
  · rename_i h
    have hc : closedB l (S ++ S.flatMap (aboveL l)) = true := by simpa using h
    have := nodup_len (sortN_nodup (S ++ S.flatMap (aboveL l))) (y := l.map Ed.name) fun n hn => found_iff.1 ((closedB_iff.1 hc n (((sortN_spec _).2 n).1 hn)).1)
    simpa using this

/-- culprit/culpritlaw22.EditPrograms -/
theorem EditPrograms_ok (l : List Int) (how b bits base : Int) (hr : ∀ n ∈ l, -9223372036854775808 ≤ n ∧ n ≤ 9223372036854775807) (q1 : -9223372036854775808 ≤ how ∧ how ≤ 9223372036854775807) (q2 : -9223372036854775808 ≤ b ∧ b ≤ 9223372036854775807) (q3 : -9223372036854775808 ≤ bits ∧ bits ≤ 9223372036854775807) (q4 : -9223372036854775808 ≤ base ∧ base ≤ 9223372036854775807) : Ok Tryz.prog 5 [.sl (l.map I64), I64 how, I64 b, I64 bits, I64 base] ⟨.d (.bool true), true⟩ := by
  refine Ok.ret Tryz.func5 (by kernel_rfl) (c := _) rfl Tryz.ntmps5 (by simp) Tryz.results5 (by intro _ h; cases h) fun w0 X hp => ?_
  refine LWp.seq ?_
  refine LWp.reg hT hW (fun _ => none) (fun _ => ⟨rfl, fun _ h => h⟩) ?_
  simp
  refine LWp.seq ?_
  refine LWp.regRel hT hW 30 (fun r => (∃ L1 L2 : List Ed, SpB (madeL l) L1 ∧ SpB L1 L2 ∧ r.v = .d (.sl [edsD (madeL l), edsD L1, edsD L2, edsD (turnedL (madeL l) b), .sl []])) ∧ r.fresh = false) false ⟨.d (.sl [edsD (madeL l), edsD (madeL l), edsD (madeL l), edsD (turnedL (madeL l) b), .sl []]), false⟩ ⟨⟨⟨madeL l, madeL l, SpB.refl _, SpB.refl _, rfl⟩, rfl⟩, rfl⟩ (fun | 99 => none | _ => none) (by intro d; first | exact ⟨rfl, fun _ h => h⟩ | (split <;> exact ⟨rfl, fun _ h => h⟩)) (by kernel_rfl) fun r1 hr1 => ?_
  obtain ⟨v1, f1⟩ := r1
  obtain ⟨⟨L1, L2, hL1, hL2, hv⟩, hf⟩ := hr1
  dsimp only at hv hf
  obtain ⟨A, hA⟩ : ∃ A, A = five5 (madeL l) L1 L2 (turnedL (madeL l) b) := ⟨_, rfl⟩
  have hok : ∀ x ∈ A, small x ∧ (allNeeds x).length ≤ 1000 ∧ x.length ≤ 140 := fun x hx => ⟨(five_ok hL1 hL2 (hA ▸ hx)).1, (five_ok hL1 hL2 (hA ▸ hx)).2.1, five_len hL1 hL2 (hA ▸ hx)⟩
  have hAl : A.length = 5 := by rw [hA]; rfl
  have hAd : [edsD (madeL l), edsD L1, edsD L2, edsD (turnedL (madeL l) b), .sl []] = A.map edsD := by rw [hA]; rfl
  have hlo := lists_ok l how b hr q2.1 q2.2 q1.1 q1.2
  rw [hAd] at hv
  subst hv; subst hf
  simp
  refine ⟨by simpa using hlo, ?_⟩
  clear hA
  refine LWp.seq ?_
  obtain ⟨B1, hB1⟩ : ∃ B, B = baseL base := ⟨_, rfl⟩
  obtain ⟨B2, hB2⟩ : ∃ B, B = baseL bits := ⟨_, rfl⟩
  have e1 := Base_own base q4.1 q4.2
  have e2 := Base_ok base q4.1 q4.2
  have e3 := Base_ok bits q3.1 q3.2
  have z1 := baseL_len base
  have z2 := baseL_len bits
  rw [← hB1] at e1 e2 z1
  rw [← hB2] at e3 z2
  have htk : List.take (B1.length + B2.length) (B1.map Df.d ++ B2.map Df.d) = B1.map Df.d ++ B2.map Df.d := List.take_of_length_le (by simp)
  obtain ⟨Bs, hBs⟩ : ∃ Bs, Bs = [B1, B1 ++ B2, []] := ⟨_, rfl⟩
  have hBn : Bs.length ≤ 3 := by rw [hBs]; simp
  have hBl : ∀ x ∈ Bs, x.length ≤ 10 := fun x hx => by
    rw [hBs] at hx
    simp only [List.mem_cons, List.not_mem_nil, or_false] at hx
    rcases hx with rfl | rfl | rfl
    · omega
    · simp; omega
    · simp
  refine LWp.reg hT hW (fun | 32 => some <| .plain ⟨.d (dfsD B1), true⟩ | 34 => some <| .plain ⟨.own 2 (B1.map Df.d), true⟩ | 36 => some <| .plain ⟨.d (dfsD B2), true⟩ | _ => none) (by intro d; first | exact ⟨rfl, fun _ h => h⟩ | (split <;> exact ⟨rfl, fun _ h => h⟩)) ?_
  simp [(show [0, 1, 2] = List.range 3 from rfl)]
  refine ⟨⟨⟨⟨e2, e1⟩, e3⟩, by omega⟩, ?_⟩
  refine LWp.weak (Weak.close 12 (x := .sl (Bs.map dfsD)) (by simp [hBs, htk])) ?_
  clear hBs
  refine LWp.seq ?_
  refine LWp.seq ?_
  refine LWp.reg hT hW (fun _ => none) (fun _ => ⟨rfl, fun _ h => h⟩) ?_
  simp
  refine LWp.block ?_
  refine LWp.loopW (ι := Nat) (fun i => mkEnv [(2, .d (I64 b)), (3, .d (I64 bits)), (11, .d (.sl (A.map edsD))), (12, .d (.sl (Bs.map dfsD))), (13, .d (I64 i))]) (fun i => mkObs []) (fun i => i ≤ A.length) (fun i => A.length - i) 0 (Weak.to [2, 3, 11, 12, 13] [] (by decide) (by decide) (by simp [hp]) (by simp) (by simp)) (by simp) fun i hi4 => ?_
  refine LWp.seq ?_
  refine LWp.seq ?_
  refine LWp.reg hT hW (fun _ => none) (fun _ => ⟨rfl, fun _ h => h⟩) ?_
  simp
  refine LWp.iff ?_
  simp
  refine ⟨fun h4 => ?_, fun h4 => ?_⟩
  · refine LWp.skip ?_
    simp
    refine LWp.seq ?_
    refine LWp.block ?_
    refine LWp.seq ?_
    have hAi := hok _ (List.getElem_mem h4)
    obtain ⟨S, hS⟩ : ∃ S, S = namesV A[i] bits b := ⟨_, rfl⟩
    have hS6 : S.length = 6 := by rw [hS]; rfl
    have hSl : ∀ x ∈ S, x.length ≤ 400 := fun x hx => by have := namesV_len (hS ▸ hx); omega
    have hSn := names_own A[i] bits b (by omega) q2.1 q2.2 q3.1 q3.2
    rw [← hS] at hSn
    clear hS
    have hS0 : 0 < S.length := by omega
    have hSk := hSl _ (List.getElem_mem hS0)
    have hcl := closure_len (l := A[i]) (S := S[0])
    obtain ⟨c1, c2, hc⟩ : ∃ c1 c2, closureV A[i] S[0] = (c1, c2) := ⟨_, _, rfl⟩
    have hc2 := Closure_ok A[i] S[0] (by omega) (by omega)
    rw [hc] at hc2 hcl
    dsimp only at hc2 hcl
    refine LWp.reg hT hW (fun | 51 => some <| .plain ⟨.own 1 (S.map nmsD), false⟩ | _ => none) (by intro d; first | exact ⟨rfl, fun _ h => h⟩ | (split <;> exact ⟨rfl, fun _ h => h⟩)) ?_
    simp [h4]
    refine ⟨hSn, ?_⟩
    refine LWp.seq ?_
    refine LWp.regAny hT hW hMixed (lk [[], [], [0, 1], [0, 1, 2], [], [4], [4, 5], [0, 1, 2, 3, 4, 5, 6], [0, 1, 2, 3, 4, 5, 6, 7], [0, 1, 2, 3, 4, 5, 6, 7, 8], [0, 1, 2, 3, 4, 5, 6, 7, 8], [0, 1, 2, 3, 4, 5, 6, 7, 8, 9], [0, 1, 2, 3, 4, 5, 6, 7, 8, 9, 10, 11]]) (lk [[], [], [], [], [], [], [], [], [], [], [], [], []]) (lk [[], [], [], [], [], [], [], [60], [], [], [], [], []]) (by kernel_rfl) (fun | 60 => some <| .plain ⟨.tup [.d (nmsD c1), .d (I64 c2)], false⟩ | _ => none) (by intro d; first | exact ⟨rfl, fun _ h => h⟩ | (split <;> exact ⟨rfl, fun _ h => h⟩)) ?_
    simp [evalExtract, h4, hS0]
    refine ⟨hc2, ?_⟩
    refine LWp.seq ?_
    refine LWp.seq ?_
    refine LWp.reg hT hW (fun _ => none) (fun _ => ⟨rfl, fun _ h => h⟩) ?_
    simp
    refine LWp.iff ?_
    simp
    refine ⟨fun h8 => ?_, fun h8 => ?_⟩
    · refine LWp.reg hT hW (fun _ => none) (fun _ => ⟨rfl, fun _ h => h⟩) ?_
      simp
      refine ⟨by omega, ?_⟩
      have ht7 : List.take 7 (S.map nmsD ++ [.sl (c1.map Nm.d)]) = S.map nmsD ++ [.sl (c1.map Nm.d)] := List.take_of_length_le (by simp [hS6])
      obtain ⟨U, hU⟩ : ∃ U, U = S ++ [c1] := ⟨_, rfl⟩
      have hUn : U.length ≤ 7 := by rw [hU]; simp; omega
      have hUl : ∀ x ∈ U, x.length ≤ 1000 := fun x hx => by
        rw [hU] at hx
        rcases List.mem_append.1 hx with hx | hx
        · have := hSl x hx; omega
        · rw [List.mem_singleton.1 hx]; omega
      refine LWp.weak (Weak.close 14 (x := .sl (U.map nmsD)) (by simp [hU, hS6, ht7])) ?_
      refine LWp.seq ?_
      refine LWp.reg hT hW (fun _ => none) (fun _ => ⟨rfl, fun _ h => h⟩) ?_
      simp
      refine LWp.block ?_
      refine LWp.loopW (ι := Nat) (fun k => mkEnv [(2, .d (I64 b)), (3, .d (I64 bits)), (11, .d (.sl (A.map edsD))), (12, .d (.sl (Bs.map dfsD))), (13, .d (I64 i)), (14, .d (.sl (U.map nmsD))), (17, .d (I64 k))]) (fun k => mkObs []) (fun k => k ≤ U.length) (fun k => U.length - k) 0 (Weak.to [2, 3, 11, 12, 13, 14, 17] [] (by decide) (by decide) (by simp [hp]) (by simp) (by simp)) (by simp) fun k hi11 => ?_
      refine LWp.seq ?_
      refine LWp.seq ?_
      refine LWp.reg hT hW (fun _ => none) (fun _ => ⟨rfl, fun _ h => h⟩) ?_
      simp
      refine LWp.iff ?_
      simp
      refine ⟨fun h11 => ?_, fun h11 => ?_⟩
      · refine LWp.skip ?_
        simp
        refine LWp.seq ?_
        refine LWp.block ?_
        refine LWp.seq ?_
        have hUk := hUl _ (List.getElem_mem h11)
        obtain ⟨o1, o2, ho⟩ : ∃ o1 o2, orderV A[i] U[k] = (o1, o2) := ⟨_, _, rfl⟩
        have ho1 := (EOrder_ok A[i] U[k] hAi.1 (by omega)).own2_d
        have ho2 := Order_ok A[i] U[k] hAi.1 (by omega) (by omega)
        rw [ho] at ho1 ho2
        refine LWp.regAny hT hW hMixed (lk [[], [], [0, 1], [0, 1, 2], [], [], [4, 5], [4, 5, 6], [0, 1, 2, 3, 4, 5, 6, 7], [0, 1, 2, 3, 4, 5, 6, 7, 8], [0, 1, 2, 3, 4, 5, 6, 7, 8, 9], [0, 1, 2, 3, 4, 5, 6, 7, 8, 9], [0, 1, 2, 3, 4, 5, 6, 7, 8, 9, 10], [0, 1, 2, 3, 4, 5, 6, 7, 8, 9, 10, 11, 12]]) (lk [[], [], [], [], [], [], [], [], [], [], [], [], [], []]) (lk [[], [], [], [], [], [], [], [], [84], [], [], [], [], []]) (by kernel_rfl) (fun | 84 => some <| .plain ⟨.tup [.d (nmsD o1), .d (I64 o2)], true⟩ | _ => none) (by intro d; first | exact ⟨rfl, fun _ h => h⟩ | (split <;> exact ⟨rfl, fun _ h => h⟩)) ?_
        simp [evalExtract, h4, h11]
        refine ⟨ho1, ?_⟩
        refine LWp.seq ?_
        refine LWp.regAny hT hW hMixed (lk [[], [], [0, 1], [0, 1, 2], [], [], [4, 5], [4, 5, 6], [0, 1, 2, 3, 4, 5, 6, 7], [0, 1, 2, 3, 4, 5, 6, 7, 8], [0, 1, 2, 3, 4, 5, 6, 7, 8, 9], [0, 1, 2, 3, 4, 5, 6, 7, 8, 9], [0, 1, 2, 3, 4, 5, 6, 7, 8, 9, 10], [0, 1, 2, 3, 4, 5, 6, 7, 8, 9, 10, 11, 12]]) (lk [[], [], [], [], [], [], [], [], [], [], [], [], [], []]) (lk [[], [], [], [], [], [], [], [], [96], [], [], [], [], []]) (by kernel_rfl) (fun | 96 => some <| .plain ⟨.tup [.d (nmsD o1), .d (I64 o2)], true⟩ | _ => none) (by intro d; first | exact ⟨rfl, fun _ h => h⟩ | (split <;> exact ⟨rfl, fun _ h => h⟩)) ?_
        simp [evalExtract, h4, h11]
        refine ⟨ho2, ?_⟩
        refine LWp.seq ?_
        refine LWp.seq ?_
        refine LWp.reg hT hW (fun | 105 => some <| .plain ⟨.d (.bool true), true⟩ | _ => none) (by intro d; first | exact ⟨rfl, fun _ h => h⟩ | (split <;> exact ⟨rfl, fun _ h => h⟩)) ?_
        simp
        refine ⟨same_true o1, ?_⟩
        refine LWp.iff ?_
        simp
        refine LWp.skip ?_
        simp
        refine LWp.seq ?_
        refine LWp.reg hT hW (fun _ => none) (fun _ => ⟨rfl, fun _ h => h⟩) ?_
        simp
        refine LWp.block ?_
        refine LWp.loopW (ι := Nat) (fun j => mkEnv [(2, .d (I64 b)), (3, .d (I64 bits)), (11, .d (.sl (A.map edsD))), (12, .d (.sl (Bs.map dfsD))), (13, .d (I64 i)), (14, .d (.sl (U.map nmsD))), (17, .d (I64 k)), (22, .d (I64 j))]) (fun j => mkObs []) (fun j => j ≤ Bs.length) (fun j => Bs.length - j) 0 (Weak.to [2, 3, 11, 12, 13, 14, 17, 22] [] (by decide) (by decide) (by simp [hp]) (by simp) (by simp)) (by simp) fun j hi18 => ?_
        refine LWp.seq ?_
        refine LWp.seq ?_
        refine LWp.reg hT hW (fun _ => none) (fun _ => ⟨rfl, fun _ h => h⟩) ?_
        simp
        refine LWp.iff ?_
        simp
        refine ⟨fun h18 => ?_, fun h18 => ?_⟩
        · refine LWp.skip ?_
          simp
          refine LWp.seq ?_
          refine LWp.block ?_
          refine LWp.seq ?_
          have hBj := hBl _ (List.getElem_mem h18)
          obtain ⟨p1, p2, hpv⟩ : ∃ p1 p2, programV Bs[j] A[i] U[k] = (p1, p2) := ⟨_, _, rfl⟩
          have hp1 := EProgram_ok Bs[j] A[i] U[k] hAi.1 (by omega) (by omega)
          have hp2 := Program_ok Bs[j] A[i] U[k] hAi.1 (by omega) (by omega) (by omega)
          rw [hpv] at hp1 hp2
          refine LWp.regAny hT hW hMixed (lk [[], [], [0, 1], [0, 1, 2], [], [], [4, 5], [4, 5, 6], [], [], [8, 9], [8, 9, 10], [0, 1, 2, 3, 4, 5, 6, 7, 8, 9, 10, 11], [0, 1, 2, 3, 4, 5, 6, 7, 8, 9, 10, 11, 12], [0, 1, 2, 3, 4, 5, 6, 7, 8, 9, 10, 11, 12, 13], [0, 1, 2, 3, 4, 5, 6, 7, 8, 9, 10, 11, 12, 13], [0, 1, 2, 3, 4, 5, 6, 7, 8, 9, 10, 11, 12, 13, 14], [0, 1, 2, 3, 4, 5, 6, 7, 8, 9, 10, 11, 12, 13, 14, 15, 16]]) (lk [[], [], [], [], [], [], [], [], [], [], [], [], [], [], [], [], [], []]) (lk [[], [], [], [], [], [], [], [], [], [], [], [], [127], [], [], [], [], []]) (by kernel_rfl) (fun | 127 => some <| .plain ⟨.tup [.d (dfsD p1), .d (I64 p2)], true⟩ | _ => none) (by intro d; first | exact ⟨rfl, fun _ h => h⟩ | (split <;> exact ⟨rfl, fun _ h => h⟩)) ?_
          simp [evalExtract, h4, h11, h18]
          refine ⟨hp1, ?_⟩
          refine LWp.seq ?_
          refine LWp.regAny hT hW hMixed (lk [[], [], [0, 1], [0, 1, 2], [], [], [4, 5], [4, 5, 6], [], [], [8, 9], [8, 9, 10], [0, 1, 2, 3, 4, 5, 6, 7, 8, 9, 10, 11], [0, 1, 2, 3, 4, 5, 6, 7, 8, 9, 10, 11, 12], [0, 1, 2, 3, 4, 5, 6, 7, 8, 9, 10, 11, 12, 13], [0, 1, 2, 3, 4, 5, 6, 7, 8, 9, 10, 11, 12, 13], [0, 1, 2, 3, 4, 5, 6, 7, 8, 9, 10, 11, 12, 13, 14], [0, 1, 2, 3, 4, 5, 6, 7, 8, 9, 10, 11, 12, 13, 14, 15, 16]]) (lk [[], [], [], [], [], [], [], [], [], [], [], [], [], [], [], [], [], []]) (lk [[], [], [], [], [], [], [], [], [], [], [], [], [143], [], [], [], [], []]) (by kernel_rfl) (fun | 143 => some <| .plain ⟨.tup [.d (dfsD p1), .d (I64 p2)], false⟩ | _ => none) (by intro d; first | exact ⟨rfl, fun _ h => h⟩ | (split <;> exact ⟨rfl, fun _ h => h⟩)) ?_
          simp [evalExtract, h4, h11, h18]
          refine ⟨hp2, ?_⟩
          refine LWp.seq ?_
          refine LWp.reg hT hW (fun | 152 => some <| .plain ⟨.d (.bool true), true⟩ | _ => none) (by intro d; first | exact ⟨rfl, fun _ h => h⟩ | (split <;> exact ⟨rfl, fun _ h => h⟩)) ?_
          simp
          refine ⟨same_dtrue p1, ?_⟩
          refine LWp.iff ?_
          simp
          refine LWp.skip ?_
          simp
          refine LWp.reg hT hW (fun _ => none) (fun _ => ⟨rfl, fun _ h => h⟩) ?_
          simp
          refine ⟨by omega, ?_⟩
          refine loopQ.mk (j + 1) (Weak.to [2, 3, 11, 12, 13, 14, 17, 22] [] (by decide) (by decide) (by simp [hp]) (by simp) (by simp)) ?_ ?_
          · omega
          · omega
        · refine LWp.exit ?_
          simp
          refine LWp.reg hT hW (fun _ => none) (fun _ => ⟨rfl, fun _ h => h⟩) ?_
          simp
          refine ⟨by omega, ?_⟩
          refine loopQ.mk (k + 1) (Weak.to [2, 3, 11, 12, 13, 14, 17] [] (by decide) (by decide) (by simp [hp]) (by simp) (by simp)) ?_ ?_
          · omega
          · omega
      · refine LWp.exit ?_
        simp
        refine LWp.reg hT hW (fun _ => none) (fun _ => ⟨rfl, fun _ h => h⟩) ?_
        simp
        refine ⟨by omega, ?_⟩
        refine loopQ.mk (i + 1) (Weak.to [2, 3, 11, 12, 13] [] (by decide) (by decide) (by simp [hp]) (by simp) (by simp)) ?_ ?_
        · omega
        · omega
    · obtain ⟨U, hU⟩ : ∃ U, U = S := ⟨_, rfl⟩
      have ht6 : List.take 6 (S.map nmsD) = S.map nmsD := List.take_of_length_le (by simp [hS6])
      have hUn : U.length ≤ 7 := by rw [hU]; omega
      have hUl : ∀ x ∈ U, x.length ≤ 1000 := fun x hx => by have := hSl x (hU ▸ hx); omega
      refine LWp.weak (Weak.close 14 (x := .sl (U.map nmsD)) (by simp [hU, hS6, ht6])) ?_
      refine LWp.skip ?_
      simp
      refine LWp.seq ?_
      refine LWp.reg hT hW (fun _ => none) (fun _ => ⟨rfl, fun _ h => h⟩) ?_
      simp
      refine LWp.block ?_
      refine LWp.loopW (ι := Nat) (fun k => mkEnv [(2, .d (I64 b)), (3, .d (I64 bits)), (11, .d (.sl (A.map edsD))), (12, .d (.sl (Bs.map dfsD))), (13, .d (I64 i)), (14, .d (.sl (U.map nmsD))), (17, .d (I64 k))]) (fun k => mkObs []) (fun k => k ≤ U.length) (fun k => U.length - k) 0 (Weak.to [2, 3, 11, 12, 13, 14, 17] [] (by decide) (by decide) (by simp [hp]) (by simp) (by simp)) (by simp) fun k hi11 => ?_
      refine LWp.seq ?_
      refine LWp.seq ?_
      refine LWp.reg hT hW (fun _ => none) (fun _ => ⟨rfl, fun _ h => h⟩) ?_
      simp
      refine LWp.iff ?_
      simp
      refine ⟨fun h11 => ?_, fun h11 => ?_⟩
      · refine LWp.skip ?_
        simp
        refine LWp.seq ?_
        refine LWp.block ?_
        refine LWp.seq ?_
        have hUk := hUl _ (List.getElem_mem h11)
        obtain ⟨o1, o2, ho⟩ : ∃ o1 o2, orderV A[i] U[k] = (o1, o2) := ⟨_, _, rfl⟩
        have ho1 := (EOrder_ok A[i] U[k] hAi.1 (by omega)).own2_d
        have ho2 := Order_ok A[i] U[k] hAi.1 (by omega) (by omega)
        rw [ho] at ho1 ho2
        refine LWp.regAny hT hW hMixed (lk [[], [], [0, 1], [0, 1, 2], [], [], [4, 5], [4, 5, 6], [0, 1, 2, 3, 4, 5, 6, 7], [0, 1, 2, 3, 4, 5, 6, 7, 8], [0, 1, 2, 3, 4, 5, 6, 7, 8, 9], [0, 1, 2, 3, 4, 5, 6, 7, 8, 9], [0, 1, 2, 3, 4, 5, 6, 7, 8, 9, 10], [0, 1, 2, 3, 4, 5, 6, 7, 8, 9, 10, 11, 12]]) (lk [[], [], [], [], [], [], [], [], [], [], [], [], [], []]) (lk [[], [], [], [], [], [], [], [], [84], [], [], [], [], []]) (by kernel_rfl) (fun | 84 => some <| .plain ⟨.tup [.d (nmsD o1), .d (I64 o2)], true⟩ | _ => none) (by intro d; first | exact ⟨rfl, fun _ h => h⟩ | (split <;> exact ⟨rfl, fun _ h => h⟩)) ?_
        simp [evalExtract, h4, h11]
        refine ⟨ho1, ?_⟩
        refine LWp.seq ?_
        refine LWp.regAny hT hW hMixed (lk [[], [], [0, 1], [0, 1, 2], [], [], [4, 5], [4, 5, 6], [0, 1, 2, 3, 4, 5, 6, 7], [0, 1, 2, 3, 4, 5, 6, 7, 8], [0, 1, 2, 3, 4, 5, 6, 7, 8, 9], [0, 1, 2, 3, 4, 5, 6, 7, 8, 9], [0, 1, 2, 3, 4, 5, 6, 7, 8, 9, 10], [0, 1, 2, 3, 4, 5, 6, 7, 8, 9, 10, 11, 12]]) (lk [[], [], [], [], [], [], [], [], [], [], [], [], [], []]) (lk [[], [], [], [], [], [], [], [], [96], [], [], [], [], []]) (by kernel_rfl) (fun | 96 => some <| .plain ⟨.tup [.d (nmsD o1), .d (I64 o2)], true⟩ | _ => none) (by intro d; first | exact ⟨rfl, fun _ h => h⟩ | (split <;> exact ⟨rfl, fun _ h => h⟩)) ?_
        simp [evalExtract, h4, h11]
        refine ⟨ho2, ?_⟩
        refine LWp.seq ?_
        refine LWp.seq ?_
        refine LWp.reg hT hW (fun | 105 => some <| .plain ⟨.d (.bool true), true⟩ | _ => none) (by intro d; first | exact ⟨rfl, fun _ h => h⟩ | (split <;> exact ⟨rfl, fun _ h => h⟩)) ?_
        simp
        refine ⟨same_true o1, ?_⟩
        refine LWp.iff ?_
        simp
        refine LWp.skip ?_
        simp
        refine LWp.seq ?_
        refine LWp.reg hT hW (fun _ => none) (fun _ => ⟨rfl, fun _ h => h⟩) ?_
        simp
        refine LWp.block ?_
        refine LWp.loopW (ι := Nat) (fun j => mkEnv [(2, .d (I64 b)), (3, .d (I64 bits)), (11, .d (.sl (A.map edsD))), (12, .d (.sl (Bs.map dfsD))), (13, .d (I64 i)), (14, .d (.sl (U.map nmsD))), (17, .d (I64 k)), (22, .d (I64 j))]) (fun j => mkObs []) (fun j => j ≤ Bs.length) (fun j => Bs.length - j) 0 (Weak.to [2, 3, 11, 12, 13, 14, 17, 22] [] (by decide) (by decide) (by simp [hp]) (by simp) (by simp)) (by simp) fun j hi18 => ?_
        refine LWp.seq ?_
        refine LWp.seq ?_
        refine LWp.reg hT hW (fun _ => none) (fun _ => ⟨rfl, fun _ h => h⟩) ?_
        simp
        refine LWp.iff ?_
        simp
        refine ⟨fun h18 => ?_, fun h18 => ?_⟩
        · refine LWp.skip ?_
          simp
          refine LWp.seq ?_
          refine LWp.block ?_
          refine LWp.seq ?_
          have hBj := hBl _ (List.getElem_mem h18)
          obtain ⟨p1, p2, hpv⟩ : ∃ p1 p2, programV Bs[j] A[i] U[k] = (p1, p2) := ⟨_, _, rfl⟩
          have hp1 := EProgram_ok Bs[j] A[i] U[k] hAi.1 (by omega) (by omega)
          have hp2 := Program_ok Bs[j] A[i] U[k] hAi.1 (by omega) (by omega) (by omega)
          rw [hpv] at hp1 hp2
          refine LWp.regAny hT hW hMixed (lk [[], [], [0, 1], [0, 1, 2], [], [], [4, 5], [4, 5, 6], [], [], [8, 9], [8, 9, 10], [0, 1, 2, 3, 4, 5, 6, 7, 8, 9, 10, 11], [0, 1, 2, 3, 4, 5, 6, 7, 8, 9, 10, 11, 12], [0, 1, 2, 3, 4, 5, 6, 7, 8, 9, 10, 11, 12, 13], [0, 1, 2, 3, 4, 5, 6, 7, 8, 9, 10, 11, 12, 13], [0, 1, 2, 3, 4, 5, 6, 7, 8, 9, 10, 11, 12, 13, 14], [0, 1, 2, 3, 4, 5, 6, 7, 8, 9, 10, 11, 12, 13, 14, 15, 16]]) (lk [[], [], [], [], [], [], [], [], [], [], [], [], [], [], [], [], [], []]) (lk [[], [], [], [], [], [], [], [], [], [], [], [], [127], [], [], [], [], []]) (by kernel_rfl) (fun | 127 => some <| .plain ⟨.tup [.d (dfsD p1), .d (I64 p2)], true⟩ | _ => none) (by intro d; first | exact ⟨rfl, fun _ h => h⟩ | (split <;> exact ⟨rfl, fun _ h => h⟩)) ?_
          simp [evalExtract, h4, h11, h18]
          refine ⟨hp1, ?_⟩
          refine LWp.seq ?_
          refine LWp.regAny hT hW hMixed (lk [[], [], [0, 1], [0, 1, 2], [], [], [4, 5], [4, 5, 6], [], [], [8, 9], [8, 9, 10], [0, 1, 2, 3, 4, 5, 6, 7, 8, 9, 10, 11], [0, 1, 2, 3, 4, 5, 6, 7, 8, 9, 10, 11, 12], [0, 1, 2, 3, 4, 5, 6, 7, 8, 9, 10, 11, 12, 13], [0, 1, 2, 3, 4, 5, 6, 7, 8, 9, 10, 11, 12, 13], [0, 1, 2, 3, 4, 5, 6, 7, 8, 9, 10, 11, 12, 13, 14], [0, 1, 2, 3, 4, 5, 6, 7, 8, 9, 10, 11, 12, 13, 14, 15, 16]]) (lk [[], [], [], [], [], [], [], [], [], [], [], [], [], [], [], [], [], []]) (lk [[], [], [], [], [], [], [], [], [], [], [], [], [143], [], [], [], [], []]) (by kernel_rfl) (fun | 143 => some <| .plain ⟨.tup [.d (dfsD p1), .d (I64 p2)], false⟩ | _ => none) (by intro d; first | exact ⟨rfl, fun _ h => h⟩ | (split <;> exact ⟨rfl, fun _ h => h⟩)) ?_
          simp [evalExtract, h4, h11, h18]
          refine ⟨hp2, ?_⟩
          refine LWp.seq ?_
          refine LWp.reg hT hW (fun | 152 => some <| .plain ⟨.d (.bool true), true⟩ | _ => none) (by intro d; first | exact ⟨rfl, fun _ h => h⟩ | (split <;> exact ⟨rfl, fun _ h => h⟩)) ?_
          simp
          refine ⟨same_dtrue p1, ?_⟩
          refine LWp.iff ?_
          simp
          refine LWp.skip ?_
          simp
          refine LWp.reg hT hW (fun _ => none) (fun _ => ⟨rfl, fun _ h => h⟩) ?_
          simp
          refine ⟨by omega, ?_⟩
          refine loopQ.mk (j + 1) (Weak.to [2, 3, 11, 12, 13, 14, 17, 22] [] (by decide) (by decide) (by simp [hp]) (by simp) (by simp)) ?_ ?_
          · omega
          · omega
        · refine LWp.exit ?_
          simp
          refine LWp.reg hT hW (fun _ => none) (fun _ => ⟨rfl, fun _ h => h⟩) ?_
          simp
          refine ⟨by omega, ?_⟩
          refine loopQ.mk (k + 1) (Weak.to [2, 3, 11, 12, 13, 14, 17] [] (by decide) (by decide) (by simp [hp]) (by simp) (by simp)) ?_ ?_
          · omega
          · omega
      · refine LWp.exit ?_
        simp
        refine LWp.reg hT hW (fun _ => none) (fun _ => ⟨rfl, fun _ h => h⟩) ?_
        simp
        refine ⟨by omega, ?_⟩
        refine loopQ.mk (i + 1) (Weak.to [2, 3, 11, 12, 13] [] (by decide) (by decide) (by simp [hp]) (by simp) (by simp)) ?_ ?_
        · omega
        · omega
  · refine LWp.exit ?_
    simp
    refine LWp.seq ?_
    refine LWp.reg hT hW (fun | 155 => some <| .plain ⟨.d (.bool true), true⟩ | _ => none) (by intro d; first | exact ⟨rfl, fun _ h => h⟩ | (split <;> exact ⟨rfl, fun _ h => h⟩)) ?_
    simp
    refine ⟨lives_ok, ?_⟩
    refine LWp.ret ?_
    simp

end Go.Eng
