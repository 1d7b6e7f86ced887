/-
  Texts of the proofs of this seat, part 7. No condition.
-/
import Derived.Test.YtpoohdjiocpcfaaGreatMF
set_option linter.unusedVariables false
set_option linter.unusedSimpArgs false
/-
  Chapter 22: EditValid. No condition.
-/
namespace Go.Eng
open Go.Proofs
attribute [local simp] runL stepL evalG evalOp opLV constLV putEnv dstOk upd upds Res.plain Res.cond Res.fail evalBin evalUn seqQ blockQ argsEnv lookL lookH RetIs memless freshL evalPick evalMin bval bok evalLen evalIn strip whenC guardOps guardC slotsOf
  runM foldS stepI stepM maskE wrIn lk renO lookN evalCall evalCallee optAll resLV resObj retLV retObj retsLV retsObj evalLoad evalIndexAddr evalField solid cellsD_agg cellsD_int cellsD_bool cellsD_str cellsD_sl cellsD_ro cellsD_fn cellsL_agg cellsL_dagg cellsL_int cellsL_bool cellsL_str cellsL_sl cellsL_fn cellsL_ow cellsL_bx cellsL_lfn cellsL_nl takeL takeD mkAgg allD eqD eqDs kindsAre kindIs LObj.live TK.isNone TK.agg TK.isBool TK.isStr TK.isStruct Op.operands Call.operands
  evalBuildSlice evalAppend elemsOf evalStore evalBuild fillL lookupF putL evalSlice bound evalConv elemsS freezes frozen loadR
  mkEnv_at mkObs_at close_d close_agg close_ow close_bx close_fn close_nl touch_d touch_agg touch_ow touch_bx touch_fn touch_nl ren_d ren_agg ren_bx ren_rp ren_ow ren_fn ren_nl ren_junk retQ_ret retQ2_ret condQ_bool Nm.d Df.d Ed.d nmsD dfsD strsD edsD retC_ret nm_eq df_eq take_map_len take_map_app
  nm_t nm_d nm_td df_t df_d df_td str_t str_d str_td ed_t ed_d ed_td
  evalAppendIn evalCut evalClear evalCopy evalMake evalWrap evalCap evalNil isNilC lenL isInp gorc
  mapOf findD keyEq keyOk evalMakeMap evalRange zeroD zeroDV argsG shutG outN lenv retG0_ret retG0_normal retG1_ret renO close_mp touch_mp ren_mp optAll_d optAll_d' touch_ds cellsL_mp cellsD_mp cellsL_dmp

/-- The five lists of a statement. -/
def five5 (a L1 L2 t : List Ed) : List (List Ed) := [a, L1, L2, t, []]
theorem turned_needs (l : List Int) (b : Int) : (allNeeds (turnedL (madeL l) b)).length ≤ 36 := by
  have h := flat_le (f := Ed.needs) (l := turnedL (madeL l) b) fun x hx => (made_mem (turned_mem.1 hx)).1
  have := madeL_len l
  rw [turned_len] at h
  unfold allNeeds; omega
theorem five_ok {l : List Int} {L1 L2 : List Ed} {b : Int} (h1 : SpB (madeL l) L1) (h2 : SpB L1 L2) {x : List Ed} (hx : x ∈ five5 (madeL l) L1 L2 (turnedL (madeL l) b)) : small x ∧ (allNeeds x).length ≤ 1000 ∧ x.length ≤ 1000 := by
  have q := lists_b h1 h2
  simp only [five5, List.mem_cons, List.not_mem_nil, or_false] at hx
  rcases hx with rfl | rfl | rfl | rfl | rfl
  · exact ⟨made_small l, by have := made_needs l; omega, by have := madeL_len l; omega⟩
  · exact ⟨fun e he => by have := q.part1 e he; omega, by have := q.need1; omega, by have := q.len1; omega⟩
  · exact ⟨fun e he => by have := q.part2 e he; omega, by have := q.need2; omega, by have := q.len2; omega⟩
  · refine ⟨fun e he => by have := made_mem (turned_mem.1 he); omega, by have := turned_needs l b; omega, ?_⟩
    rw [turned_len]
    have := madeL_len l; omega
  · exact ⟨fun e he => (by cases he), by simp [allNeeds], by simp⟩
theorem five_valid {l : List Int} {L1 L2 : List Ed} {b : Int} {i : Nat} (hi : i < 5) (h : i % 3 = 0) : (validV ((five5 (madeL l) L1 L2 (turnedL (madeL l) b))[i]'hi)).2 = 0 := by
  rcases (by omega : i = 0 ∨ i = 3) with rfl | rfl
  · show (validV (madeL l)).2 = 0
    rw [made_valid]
  · show (validV (turnedL (madeL l) b)).2 = 0
    rw [turned_valid]

/-- culprit/culpritlaw22.EditValid -/
theorem EditValid_ok (l : List Int) (how b : Int) (hr : ∀ n ∈ l, -9223372036854775808 ≤ n ∧ n ≤ 9223372036854775807) (q1 : -9223372036854775808 ≤ b) (q2 : b ≤ 9223372036854775807) (q3 : -9223372036854775808 ≤ how) (q4 : how ≤ 9223372036854775807) : Ok Tryz.prog 3 [.sl (l.map I64), I64 how, I64 b] ⟨.d (.bool true), true⟩ := by
  refine Ok.ret Tryz.func3 (by kernel_rfl) (c := _) rfl Tryz.ntmps3 (by simp) Tryz.results3 (by intro _ h; cases h) fun w0 X hp => ?_
  refine LWp.seq ?_
  refine LWp.reg hT hW (fun _ => none) (fun _ => ⟨rfl, fun _ h => h⟩) ?_
  simp
  refine LWp.seq ?_
  refine LWp.regRel hT hW 16 (fun r => (∃ L1 L2 : List Ed, SpB (madeL l) L1 ∧ SpB L1 L2 ∧ r.v = .d (.sl [edsD (madeL l), edsD L1, edsD L2, edsD (turnedL (madeL l) b), .sl []])) ∧ r.fresh = false) false ⟨.d (.sl [edsD (madeL l), edsD (madeL l), edsD (madeL l), edsD (turnedL (madeL l) b), .sl []]), false⟩ ⟨⟨⟨madeL l, madeL l, SpB.refl _, SpB.refl _, rfl⟩, rfl⟩, rfl⟩ (fun | 99 => none | _ => none) (by intro d; first | exact ⟨rfl, fun _ h => h⟩ | (split <;> exact ⟨rfl, fun _ h => h⟩)) (by kernel_rfl) fun r1 hr1 => ?_
  obtain ⟨v1, f1⟩ := r1
  obtain ⟨⟨L1, L2, hL1, hL2, hv⟩, hf⟩ := hr1
  dsimp only at hv hf
  obtain ⟨A, hA⟩ : ∃ A, A = five5 (madeL l) L1 L2 (turnedL (madeL l) b) := ⟨_, rfl⟩
  have hA5 : A.length = 5 := by rw [hA]; rfl
  have hok : ∀ x ∈ A, small x ∧ (allNeeds x).length ≤ 1000 ∧ x.length ≤ 1000 := fun x hx => five_ok hL1 hL2 (hA ▸ hx)
  have hvd : ∀ (i : Nat) (h : i < A.length), i % 3 = 0 → (validV A[i]).2 = 0 := by subst hA; exact fun i h hm => five_valid h hm
  have hAd : [edsD (madeL l), edsD L1, edsD L2, edsD (turnedL (madeL l) b), .sl []] = A.map edsD := by rw [hA]; rfl
  have hlo := lists_ok l how b hr q1 q2 q3 q4
  rw [hAd] at hv
  subst hv; subst hf
  simp
  refine ⟨by simpa using hlo, ?_⟩
  refine LWp.seq ?_
  refine LWp.seq ?_
  refine LWp.reg hT hW (fun _ => none) (fun _ => ⟨rfl, fun _ h => h⟩) ?_
  simp
  refine LWp.block ?_
  refine LWp.loopW (ι := Nat) (fun i => mkEnv [(7, .d (.sl (A.map edsD))), (8, .d (I64 i))]) (fun i => mkObs []) (fun i => i ≤ A.length) (fun i => A.length - i) 0 (Weak.to [7, 8] [] (by decide) (by decide) (by simp [hp]) (by simp) (by simp)) (by simp) fun i hi3 => ?_
  refine LWp.seq ?_
  refine LWp.seq ?_
  refine LWp.reg hT hW (fun _ => none) (fun _ => ⟨rfl, fun _ h => h⟩) ?_
  simp
  refine LWp.iff ?_
  simp
  refine ⟨fun h3 => ?_, fun h3 => ?_⟩
  · refine LWp.skip ?_
    simp
    refine LWp.seq ?_
    refine LWp.block ?_
    refine LWp.seq ?_
    have hxo := hok _ (List.getElem_mem h3)
    have hev := EValid_ok A[i] hxo.1
    have hrv := Valid_ok A[i] hxo.1 (by omega)
    refine LWp.reg hT hW (fun | 28 => some <| .plain ⟨.tup [.d (I64 (validV A[i]).1), .d (I64 (validV A[i]).2)], true⟩ | _ => none) (by intro d; first | exact ⟨rfl, fun _ h => h⟩ | (split <;> exact ⟨rfl, fun _ h => h⟩)) ?_
    simp [evalExtract, h3]
    refine ⟨by simpa using hev, ?_⟩
    refine LWp.seq ?_
    refine LWp.reg hT hW (fun | 36 => some <| .plain ⟨.tup [.d (I64 (validV A[i]).1), .d (I64 (validV A[i]).2)], true⟩ | _ => none) (by intro d; first | exact ⟨rfl, fun _ h => h⟩ | (split <;> exact ⟨rfl, fun _ h => h⟩)) ?_
    simp [evalExtract, h3]
    refine ⟨by simpa using hrv, ?_⟩
    refine LWp.seq ?_
    have hkey : (((i : Int).tmod 3 = 0) ∧ ¬ (validV A[i]).2 = 0) = False := by
      simp only [eq_iff_iff, iff_false, not_and, Decidable.not_not]
      intro ht
      rw [Int.tmod_eq_emod_of_nonneg (by omega)] at ht
      exact hvd i h3 (by omega)
    refine LWp.reg hT hW (fun _ => none) (fun _ => ⟨rfl, fun _ h => h⟩) ?_
    simp
    refine LWp.iff ?_
    simp [hkey]
    intro h7
    refine LWp.skip ?_
    simp
    refine LWp.reg hT hW (fun _ => none) (fun _ => ⟨rfl, fun _ h => h⟩) ?_
    simp
    refine ⟨by omega, ?_⟩
    refine loopQ.mk (i + 1) (Weak.to [7, 8] [] (by decide) (by decide) (by simp [hp]) (by simp) (by simp)) ?_ ?_
    · omega
    · omega
  · refine LWp.exit ?_
    simp
    refine LWp.seq ?_
    refine LWp.reg hT hW (fun | 56 => some <| .plain ⟨.d (.bool true), true⟩ | _ => none) (by intro d; first | exact ⟨rfl, fun _ h => h⟩ | (split <;> exact ⟨rfl, fun _ h => h⟩)) ?_
    simp
    refine ⟨lives_ok, ?_⟩
    refine LWp.ret ?_
    simp

end Go.Eng

/-
  Chapter 22: EditFinds. No condition.
-/
namespace Go.Eng
open Go.Proofs
attribute [local simp] runL stepL evalG evalOp opLV constLV putEnv dstOk upd upds Res.plain Res.cond Res.fail evalBin evalUn seqQ blockQ argsEnv lookL lookH RetIs memless freshL evalPick evalMin bval bok evalLen evalIn strip whenC guardOps guardC slotsOf
  runM foldS stepI stepM maskE wrIn lk renO lookN evalCall evalCallee optAll resLV resObj retLV retObj retsLV retsObj evalLoad evalIndexAddr evalField solid cellsD_agg cellsD_int cellsD_bool cellsD_str cellsD_sl cellsD_ro cellsD_fn cellsL_agg cellsL_dagg cellsL_int cellsL_bool cellsL_str cellsL_sl cellsL_fn cellsL_ow cellsL_bx cellsL_lfn cellsL_nl takeL takeD mkAgg allD eqD eqDs kindsAre kindIs LObj.live TK.isNone TK.agg TK.isBool TK.isStr TK.isStruct Op.operands Call.operands
  evalBuildSlice evalAppend elemsOf evalStore evalBuild fillL lookupF putL evalSlice bound evalConv elemsS freezes frozen loadR
  mkEnv_at mkObs_at close_d close_agg close_ow close_bx close_fn close_nl touch_d touch_agg touch_ow touch_bx touch_fn touch_nl ren_d ren_agg ren_bx ren_rp ren_ow ren_fn ren_nl ren_junk retQ_ret retQ2_ret condQ_bool Nm.d Df.d Ed.d nmsD dfsD strsD edsD retC_ret nm_eq df_eq take_map_len take_map_app
  nm_t nm_d nm_td df_t df_d df_td str_t str_d str_td ed_t ed_d ed_td
  evalAppendIn evalCut evalClear evalCopy evalMake evalWrap evalCap evalNil isNilC lenL isInp gorc
  mapOf findD keyEq keyOk evalMakeMap evalRange zeroD zeroDV argsG shutG outN lenv retG0_ret retG0_normal retG1_ret renO close_mp touch_mp ren_mp optAll_d optAll_d' touch_ds cellsL_mp cellsD_mp cellsL_dmp

theorem five_len {l : List Int} {L1 L2 : List Ed} {b : Int} (h1 : SpB (madeL l) L1) (h2 : SpB L1 L2) {x : List Ed} (hx : x ∈ five5 (madeL l) L1 L2 (turnedL (madeL l) b)) : x.length ≤ 140 := by
  have q := lists_b h1 h2
  have := madeL_len l
  simp only [five5, List.mem_cons, List.not_mem_nil, or_false] at hx
  rcases hx with rfl | rfl | rfl | rfl | rfl
  · omega
  · have := q.len1; omega
  · exact q.len2
  · rw [turned_len]; omega
  · simp
theorem same_true (a : List Nm) : Ok Tryz.prog 19 [nmsD a, nmsD a] ⟨.d (.bool true), true⟩ := by
  have := SameNames_ok a a
  rwa [decide_eq_true rfl] at this

set_option maxRecDepth 10000
set_option maxHeartbeats 1000000

/-- culprit/culpritlaw22.EditFinds -/
theorem EditFinds_ok (l : List Int) (how b bits : Int) (hr : ∀ n ∈ l, -9223372036854775808 ≤ n ∧ n ≤ 9223372036854775807) (q1 : -9223372036854775808 ≤ how ∧ how ≤ 9223372036854775807) (q2 : -9223372036854775808 ≤ b ∧ b ≤ 9223372036854775807) (q3 : -9223372036854775808 ≤ bits ∧ bits ≤ 9223372036854775807) : Ok Tryz.prog 4 [.sl (l.map I64), I64 how, I64 b, I64 bits] ⟨.d (.bool true), true⟩ := by
  refine Ok.ret Tryz.func4 (by kernel_rfl) (c := _) rfl Tryz.ntmps4 (by simp) Tryz.results4 (by intro _ h; cases h) fun w0 X hp => ?_
  refine LWp.seq ?_
  refine LWp.reg hT hW (fun _ => none) (fun _ => ⟨rfl, fun _ h => h⟩) ?_
  simp
  refine LWp.seq ?_
  refine LWp.regRel hT hW 23 (fun r => (∃ L1 L2 : List Ed, SpB (madeL l) L1 ∧ SpB L1 L2 ∧ r.v = .d (.sl [edsD (madeL l), edsD L1, edsD L2, edsD (turnedL (madeL l) b), .sl []])) ∧ r.fresh = false) false ⟨.d (.sl [edsD (madeL l), edsD (madeL l), edsD (madeL l), edsD (turnedL (madeL l) b), .sl []]), false⟩ ⟨⟨⟨madeL l, madeL l, SpB.refl _, SpB.refl _, rfl⟩, rfl⟩, rfl⟩ (fun | 99 => none | _ => none) (by intro d; first | exact ⟨rfl, fun _ h => h⟩ | (split <;> exact ⟨rfl, fun _ h => h⟩)) (by kernel_rfl) fun r1 hr1 => ?_
  obtain ⟨v1, f1⟩ := r1
  obtain ⟨⟨L1, L2, hL1, hL2, hv⟩, hf⟩ := hr1
  dsimp only at hv hf
  obtain ⟨A, hA⟩ : ∃ A, A = five5 (madeL l) L1 L2 (turnedL (madeL l) b) := ⟨_, rfl⟩
  have hok : ∀ x ∈ A, small x ∧ (allNeeds x).length ≤ 1000 ∧ x.length ≤ 140 := fun x hx => ⟨(five_ok hL1 hL2 (hA ▸ hx)).1, (five_ok hL1 hL2 (hA ▸ hx)).2.1, five_len hL1 hL2 (hA ▸ hx)⟩
  have hAl : A.length = 5 := by rw [hA]; rfl
  have hAd : [edsD (madeL l), edsD L1, edsD L2, edsD (turnedL (madeL l) b), .sl []] = A.map edsD := by rw [hA]; rfl
  have hlo := lists_ok l how b hr q2.1 q2.2 q1.1 q1.2
  rw [hAd] at hv
  subst hv; subst hf
  simp
  refine ⟨by simpa using hlo, ?_⟩
  clear hA
  refine LWp.seq ?_
  refine LWp.seq ?_
  refine LWp.reg hT hW (fun _ => none) (fun _ => ⟨rfl, fun _ h => h⟩) ?_
  simp
  refine LWp.block ?_
  refine LWp.loopW (ι := Nat) (fun i => mkEnv [(2, .d (I64 b)), (3, .d (I64 bits)), (9, .d (.sl (A.map edsD))), (10, .d (I64 i))]) (fun i => mkObs []) (fun i => i ≤ A.length) (fun i => A.length - i) 0 (Weak.to [2, 3, 9, 10] [] (by decide) (by decide) (by simp [hp]) (by simp) (by simp)) (by simp) fun i hi3 => ?_
  refine LWp.seq ?_
  refine LWp.seq ?_
  refine LWp.reg hT hW (fun _ => none) (fun _ => ⟨rfl, fun _ h => h⟩) ?_
  simp
  refine LWp.iff ?_
  simp
  refine ⟨fun h3 => ?_, fun h3 => ?_⟩
  · refine LWp.skip ?_
    simp
    refine LWp.seq ?_
    refine LWp.block ?_
    refine LWp.seq ?_
    have hAi := hok _ (List.getElem_mem h3)
    obtain ⟨S, hS⟩ : ∃ S, S = namesV A[i] bits b := ⟨_, rfl⟩
    have hS6 : S.length = 6 := by rw [hS]; rfl
    have hSl : ∀ x ∈ S, x.length ≤ 400 := fun x hx => by have := namesV_len (hS ▸ hx); omega
    have hSn := names_ok A[i] bits b (by omega) q2.1 q2.2 q3.1 q3.2
    rw [← hS] at hSn
    clear hS
    refine LWp.reg hT hW (fun | 36 => some <| .plain ⟨.d (.sl (S.map nmsD)), false⟩ | _ => none) (by intro d; first | exact ⟨rfl, fun _ h => h⟩ | (split <;> exact ⟨rfl, fun _ h => h⟩)) ?_
    simp [h3]
    refine ⟨hSn, ?_⟩
    refine LWp.seq ?_
    refine LWp.seq ?_
    refine LWp.reg hT hW (fun _ => none) (fun _ => ⟨rfl, fun _ h => h⟩) ?_
    simp
    refine LWp.block ?_
    refine LWp.loopW (ι := Nat) (fun k => mkEnv [(2, .d (I64 b)), (3, .d (I64 bits)), (9, .d (.sl (A.map edsD))), (10, .d (I64 i)), (11, .d (.sl (S.map nmsD))), (12, .d (I64 k))]) (fun k => mkObs []) (fun k => k ≤ S.length) (fun k => S.length - k) 0 (Weak.to [2, 3, 9, 10, 11, 12] [] (by decide) (by decide) (by simp [hp]) (by simp) (by simp)) (by simp) fun k hi7 => ?_
    refine LWp.seq ?_
    refine LWp.seq ?_
    refine LWp.reg hT hW (fun _ => none) (fun _ => ⟨rfl, fun _ h => h⟩) ?_
    simp
    refine LWp.iff ?_
    simp
    refine ⟨fun h7 => ?_, fun h7 => ?_⟩
    · refine LWp.skip ?_
      simp
      refine LWp.seq ?_
      refine LWp.block ?_
      refine LWp.seq ?_
      have hSk := hSl _ (List.getElem_mem h7)
      obtain ⟨c1, c2, hc⟩ : ∃ c1 c2, closureV A[i] S[k] = (c1, c2) := ⟨_, _, rfl⟩
      have hc1 := (EClosure_ok A[i] S[k] (by omega) (by omega)).own2_d
      have hc2 := Closure_ok A[i] S[k] (by omega) (by omega)
      rw [hc] at hc1 hc2
      refine LWp.regAny hT hW hMixed (lk [[], [], [0, 1], [0, 1, 2], [], [], [4, 5], [4, 5, 6], [0, 1, 2, 3, 4, 5, 6, 7], [0, 1, 2, 3, 4, 5, 6, 7, 8], [0, 1, 2, 3, 4, 5, 6, 7, 8, 9], [0, 1, 2, 3, 4, 5, 6, 7, 8, 9], [0, 1, 2, 3, 4, 5, 6, 7, 8, 9, 10], [0, 1, 2, 3, 4, 5, 6, 7, 8, 9, 10, 11, 12]]) (lk [[], [], [], [], [], [], [], [], [], [], [], [], [], []]) (lk [[], [], [], [], [], [], [], [], [52], [], [], [], [], []]) (by kernel_rfl) (fun | 52 => some <| .plain ⟨.tup [.d (nmsD c1), .d (I64 c2)], true⟩ | _ => none) (by intro d; first | exact ⟨rfl, fun _ h => h⟩ | (split <;> exact ⟨rfl, fun _ h => h⟩)) ?_
      simp [evalExtract, h3, h7]
      refine ⟨hc1, ?_⟩
      refine LWp.seq ?_
      refine LWp.regAny hT hW hMixed (lk [[], [], [0, 1], [0, 1, 2], [], [], [4, 5], [4, 5, 6], [0, 1, 2, 3, 4, 5, 6, 7], [0, 1, 2, 3, 4, 5, 6, 7, 8], [0, 1, 2, 3, 4, 5, 6, 7, 8, 9], [0, 1, 2, 3, 4, 5, 6, 7, 8, 9], [0, 1, 2, 3, 4, 5, 6, 7, 8, 9, 10], [0, 1, 2, 3, 4, 5, 6, 7, 8, 9, 10, 11, 12]]) (lk [[], [], [], [], [], [], [], [], [], [], [], [], [], []]) (lk [[], [], [], [], [], [], [], [], [64], [], [], [], [], []]) (by kernel_rfl) (fun | 64 => some <| .plain ⟨.tup [.d (nmsD c1), .d (I64 c2)], false⟩ | _ => none) (by intro d; first | exact ⟨rfl, fun _ h => h⟩ | (split <;> exact ⟨rfl, fun _ h => h⟩)) ?_
      simp [evalExtract, h3, h7]
      refine ⟨hc2, ?_⟩
      refine LWp.seq ?_
      have hso : S[k].length ≤ 1000000 := by omega
      refine LWp.regAny hT hW hMixed (lk [[], [], [0, 1], [0, 1, 2], [0, 1, 2, 3], [0, 1, 2, 3], [0, 1, 2, 3, 4, 5], [0, 1, 2, 3, 4, 5, 6], [0, 1, 2, 3, 4, 5, 6, 7], [0, 1, 2, 3, 4, 5, 6, 7, 8], [0, 1, 2, 3, 4, 5, 6, 7, 8, 9], [0, 1, 2, 3, 4, 5, 6, 7, 8, 9], [0, 1, 2, 3, 4, 5, 6, 7, 8, 9, 10, 11], [0, 1, 2, 3, 4, 5, 6, 7, 8, 9, 10, 11, 12], [0, 1, 2, 3, 4, 5, 6, 7, 8, 9], [0, 1, 2, 3, 4, 5, 6, 7, 8, 9], [0, 1, 2, 3, 4, 5, 6, 7, 8, 9, 14, 15], [0, 1, 2, 3, 4, 5, 6, 7, 8, 9, 14, 15, 16], [0, 1, 2, 3, 4, 5, 6, 7, 8, 9, 10, 11, 12, 13, 14, 15, 16, 17], [0, 1, 2, 3, 4, 5, 6, 7, 8, 9], [0, 1, 2, 3, 4, 5, 6, 7, 8, 9], [0, 1, 2, 3, 4, 5, 6, 7, 8, 9, 19, 20], [0, 1, 2, 3, 4, 5, 6, 7, 8, 9, 19, 20, 21], [0, 1, 2, 3, 4, 5, 6, 7, 8, 9], [0, 1, 2, 3, 4, 5, 6, 7, 8, 9], [0, 1, 2, 3, 4, 5, 6, 7, 8, 9, 23, 24], [0, 1, 2, 3, 4, 5, 6, 7, 8, 9, 23, 24, 25], [0, 1, 2, 3, 4, 5, 6, 7, 8, 9, 10, 11, 12, 13, 14, 15, 16, 17, 18, 19, 20, 21, 22, 23, 24, 25, 26], [0, 1, 2, 3, 4, 5, 6, 7, 8, 9, 10, 11, 12, 13, 14, 15, 16, 17, 18, 19, 20, 21, 22, 23, 24, 25, 26, 27], [0, 1, 2, 3, 4, 5, 6, 7, 8, 9, 10, 11, 12, 13, 14, 15, 16, 17, 18, 19, 20, 21, 22, 23, 24, 25, 26, 27, 28], [0, 1, 2, 3, 4, 5, 6, 7, 8, 9, 10, 11, 12, 13, 14, 15, 16, 17, 18, 19, 20, 21, 22, 23, 24, 25, 26, 27, 28, 29], [0, 1, 2, 3, 4, 5, 6, 7, 8, 9, 10, 11, 12, 13, 14, 15, 16, 17, 18, 19, 20, 21, 22, 23, 24, 25, 26, 27, 28, 29, 30], [0, 1, 2, 3, 4, 5, 6, 7, 8, 9, 10, 11, 12, 13, 14, 15, 16, 17, 18, 19, 20, 21, 22, 23, 24, 25, 26, 27, 28, 29, 30], [0, 1, 2, 3, 4, 5, 6, 7, 8, 9, 10, 11, 12, 13, 14, 15, 16, 17, 18, 19, 20, 21, 22, 23, 24, 25, 26, 27, 28, 29, 30, 31, 32], [0, 1, 2, 3, 4, 5, 6, 7, 8, 9, 10, 11, 12, 13, 14, 15, 16, 17, 18, 19, 20, 21, 22, 23, 24, 25, 26, 27, 28, 29, 30, 31, 32, 33], [0, 1, 2, 3, 4, 5, 6, 7, 8, 9, 10, 11, 12, 13, 14, 15, 16, 17, 18, 19, 20, 21, 22, 23, 24, 25, 26, 27, 28, 29, 30, 31, 32, 33, 34], [0, 1, 2, 3, 4, 5, 6, 7, 8, 9, 10, 11, 12, 13, 14, 15, 16, 17, 18, 19, 20, 21, 22, 23, 24, 25, 26, 27, 28, 29, 30], [0, 1, 2, 3, 4, 5, 6, 7, 8, 9, 10, 11, 12, 13, 14, 15, 16, 17, 18, 19, 20, 21, 22, 23, 24, 25, 26, 27, 28, 29, 30], [0, 1, 2, 3, 4, 5, 6, 7, 8, 9, 10, 11, 12, 13, 14, 15, 16, 17, 18, 19, 20, 21, 22, 23, 24, 25, 26, 27, 28, 29, 30, 36, 37], [0, 1, 2, 3, 4, 5, 6, 7, 8, 9, 10, 11, 12, 13, 14, 15, 16, 17, 18, 19, 20, 21, 22, 23, 24, 25, 26, 27, 28, 29, 30, 36, 37, 38], [0, 1, 2, 3, 4, 5, 6, 7, 8, 9, 10, 11, 12, 13, 14, 15, 16, 17, 18, 19, 20, 21, 22, 23, 24, 25, 26, 27, 28, 29, 30, 31, 32, 33, 34, 35, 36, 37, 38, 39], [0, 1, 2, 3, 4, 5, 6, 7, 8, 9, 10, 11, 12, 13, 14, 15, 16, 17, 18, 19, 20, 21, 22, 23, 24, 25, 26, 27, 28, 29, 30, 31, 32, 33, 34, 35, 36, 37, 38, 39, 40], [0, 1, 2, 3, 4, 5, 6, 7, 8, 9, 10, 11, 12, 13, 14, 15, 16, 17, 18, 19, 20, 21, 22, 23, 24, 25, 26, 27, 28, 29, 30, 31, 32, 33, 34, 35, 36, 37, 38, 39, 40, 41], [0, 1, 2, 3, 4, 5, 6, 7, 8, 9, 10, 11, 12, 13, 14, 15, 16, 17, 18, 19, 20, 21, 22, 23, 24, 25, 26, 27, 28, 29, 30, 31, 32, 33, 34, 35, 36, 37, 38, 39, 40, 41, 42]]) (lk [[], [], [], [], [], [], [], [], [], [], [], [], [], [], [], [], [], [], [], [85], [85], [85], [85], [85], [85], [85], [85], [], [], [], [], [], [], [], [], [], [102], [102], [102], [102], [], [], [], []]) (lk [[], [], [], [], [], [], [73], [], [], [], [], [], [], [], [], [], [], [], [85], [], [], [], [], [], [], [], [], [94], [], [], [], [], [], [], [], [102], [], [], [], [], [107], [108], [], []]) (by kernel_rfl) (fun | 73 => some <| .plain ⟨.d (.bool true), true⟩ | 85 => some <| .plain ⟨.d (.bool (closedB A[i] S[k])), true⟩ | 94 => some <| .plain ⟨.d (.bool (closedB A[i] S[k])), true⟩ | 102 => some <| .plain ⟨.d (nmsD (sortN S[k])), true⟩ | 107 => some <| .plain ⟨.d (nmsD (sortN S[k])), true⟩ | 108 => some <| .plain ⟨.d (.bool true), true⟩ | _ => none) (by intro d; first | exact ⟨rfl, fun _ h => h⟩ | (split <;> exact ⟨rfl, fun _ h => h⟩)) ?_
      simp [h3, h7]
      refine ⟨⟨⟨⟨⟨⟨same_true c1, EClosed_ok _ _⟩, Closed_ok _ _ (by omega) (by omega)⟩, (ESort_ok _ (by omega)).own_d⟩, Sort_ok _ hso⟩, same_true _⟩, ?_⟩
      refine LWp.iff ?_
      simp
      refine LWp.skip ?_
      simp
      refine LWp.reg hT hW (fun _ => none) (fun _ => ⟨rfl, fun _ h => h⟩) ?_
      simp
      refine ⟨by omega, ?_⟩
      refine loopQ.mk (k + 1) (Weak.to [2, 3, 9, 10, 11, 12] [] (by decide) (by decide) (by simp [hp]) (by simp) (by simp)) ?_ ?_
      · omega
      · omega
    · refine LWp.exit ?_
      simp
      refine LWp.seq ?_
      have hS2 : 2 < S.length := by omega
      have hS2i : (2 : Int) < (S.length : Int) := by omega
      obtain ⟨n9, hn9⟩ : ∃ n9, n9 = around (S[2].length : Int) 9 := ⟨_, rfl⟩
      have hS2l := hSl _ (List.getElem_mem hS2)
      refine LWp.reg hT hW (fun | 115 => some <| .plain ⟨.d (I64 n9), true⟩ | _ => none) (by intro d; first | exact ⟨rfl, fun _ h => h⟩ | (split <;> exact ⟨rfl, fun _ h => h⟩)) ?_
      simp [hS2, hS2i]
      refine ⟨by rw [hn9]; exact Around_ok _ 9 (by omega) (by omega) (by decide), ?_⟩
      refine LWp.seq ?_
      refine LWp.reg hT hW (fun _ => none) (fun _ => ⟨rfl, fun _ h => h⟩) ?_
      simp
      refine LWp.block ?_
      refine LWp.loopW (ι := Nat) (fun k => mkEnv [(2, .d (I64 b)), (3, .d (I64 bits)), (9, .d (.sl (A.map edsD))), (10, .d (I64 i)), (11, .d (.sl (S.map nmsD))), (17, .d (I64 n9)), (18, .d (I64 k))]) (fun k => mkObs []) (fun k => k ≤ S[2].length) (fun k => S[2].length - k) 0 (Weak.to [2, 3, 9, 10, 11, 17, 18] [] (by decide) (by decide) (by simp [hp]) (by simp) (by simp)) (by simp) fun k hi15 => ?_
      refine LWp.seq ?_
      refine LWp.seq ?_
      refine LWp.reg hT hW (fun _ => none) (fun _ => ⟨rfl, fun _ h => h⟩) ?_
      simp [hS2, hS2i]
      refine LWp.iff ?_
      simp
      refine ⟨fun _ h15 => ?_, fun h15 => ?_⟩
      · refine LWp.skip ?_
        simp
        refine LWp.seq ?_
        refine LWp.block ?_
        refine LWp.seq ?_
        refine LWp.seq ?_
        refine LWp.regAny hT hW hMixed (lk [[], [], [0, 1], [0, 1, 2], [], [4], [4, 5], [], [4, 5, 6, 7], [4, 5, 6, 7, 8], [0, 1, 2, 3, 4, 5, 6, 7, 8, 9], [], [], [11, 12], [11, 12, 13], [], [15], [15, 16], [], [15, 16, 17, 18], [15, 16, 17, 18, 19], [0, 1, 2, 3, 4, 5, 6, 7, 8, 9, 10, 11, 12, 13, 14, 15, 16, 17, 18, 19, 20], [0, 1, 2, 3, 4, 5, 6, 7, 8, 9, 10, 11, 12, 13, 14, 15, 16, 17, 18, 19, 20, 21]]) (lk [[], [], [], [], [], [], [], [], [], [], [], [139], [139], [139], [139], [139], [139], [139], [139], [139], [139], [], []]) (lk [[], [], [], [], [], [], [], [], [], [], [139], [], [], [], [], [], [], [], [], [], [], [150], []]) (by kernel_rfl) (fun | 139 => some <| .plain ⟨.d (I64 (findI A[i] S[2][k])), true⟩ | 150 => some <| .plain ⟨.d (I64 (findI A[i] S[2][k])), true⟩ | _ => none) (by intro d; first | exact ⟨rfl, fun _ h => h⟩ | (split <;> exact ⟨rfl, fun _ h => h⟩)) ?_
        simp [h3, hS2, hS2i, h15]
        refine ⟨⟨EFind_ok _ _, Find_ok _ _⟩, ?_⟩
        refine LWp.iff ?_
        simp
        refine LWp.skip ?_
        simp
        refine LWp.seq ?_
        refine LWp.reg hT hW (fun _ => none) (fun _ => ⟨rfl, fun _ h => h⟩) ?_
        simp
        refine LWp.block ?_
        refine LWp.loopW (ι := Nat) (fun j => mkEnv [(2, .d (I64 b)), (3, .d (I64 bits)), (9, .d (.sl (A.map edsD))), (10, .d (I64 i)), (11, .d (.sl (S.map nmsD))), (17, .d (I64 n9)), (18, .d (I64 k)), (19, .d (I64 j))]) (fun j => mkObs []) (fun j => j ≤ S[2].length) (fun j => S[2].length - j) 0 (Weak.to [2, 3, 9, 10, 11, 17, 18, 19] [] (by decide) (by decide) (by simp [hp]) (by simp) (by simp)) (by simp) fun j hi20 => ?_
        refine LWp.seq ?_
        refine LWp.seq ?_
        refine LWp.reg hT hW (fun _ => none) (fun _ => ⟨rfl, fun _ h => h⟩) ?_
        simp [hS2, hS2i]
        refine LWp.iff ?_
        simp
        refine ⟨fun _ h20 => ?_, fun h20 => ?_⟩
        · refine LWp.skip ?_
          simp
          refine LWp.seq ?_
          refine LWp.block ?_
          refine LWp.seq ?_
          refine LWp.regAny hT hW hMixed (lk [[], [], [0, 1], [0, 1, 2], [], [4], [4, 5], [], [4, 5, 6, 7], [4, 5, 6, 7, 8], [], [10], [10, 11], [], [10, 11, 12, 13], [10, 11, 12, 13, 14], [0, 1, 2, 3, 4, 5, 6, 7, 8, 9, 10, 11, 12, 13, 14, 15], [], [], [17, 18], [17, 18, 19], [], [21], [21, 22], [], [21, 22, 23, 24], [21, 22, 23, 24, 25], [], [27], [27, 28], [], [27, 28, 29, 30], [27, 28, 29, 30, 31], [0, 1, 2, 3, 4, 5, 6, 7, 8, 9, 10, 11, 12, 13, 14, 15, 16, 17, 18, 19, 20, 21, 22, 23, 24, 25, 26, 27, 28, 29, 30, 31, 32], [0, 1, 2, 3, 4, 5, 6, 7, 8, 9, 10, 11, 12, 13, 14, 15, 16, 17, 18, 19, 20, 21, 22, 23, 24, 25, 26, 27, 28, 29, 30, 31, 32, 33]]) (lk [[], [], [], [], [], [], [], [], [], [], [], [], [], [], [], [], [], [181], [181], [181], [181], [181], [181], [181], [181], [181], [181], [181], [181], [181], [181], [181], [181], [], []]) (lk [[], [], [], [], [], [], [], [], [], [], [], [], [], [], [], [], [181], [], [], [], [], [], [], [], [], [], [], [], [], [], [], [], [], [198], []]) (by kernel_rfl) (fun | 181 => some <| .plain ⟨.d (.bool (decide (S[2][k] ∈ aboveL A[i] S[2][j]))), true⟩ | 198 => some <| .plain ⟨.d (.bool (decide (S[2][k] ∈ aboveL A[i] S[2][j]))), true⟩ | _ => none) (by intro d; first | exact ⟨rfl, fun _ h => h⟩ | (split <;> exact ⟨rfl, fun _ h => h⟩)) ?_
          simp [h3, hS2, hS2i, h15, h20]
          refine ⟨⟨EBefore_ok _ _ _, Before_ok _ _ _ (by omega)⟩, ?_⟩
          refine LWp.iff ?_
          simp
          refine LWp.skip ?_
          simp
          refine LWp.reg hT hW (fun _ => none) (fun _ => ⟨rfl, fun _ h => h⟩) ?_
          simp
          refine ⟨by omega, ?_⟩
          refine loopQ.mk (j + 1) (Weak.to [2, 3, 9, 10, 11, 17, 18, 19] [] (by decide) (by decide) (by simp [hp]) (by simp) (by simp)) ?_ ?_
          · omega
          · omega
        · refine LWp.exit ?_
          simp
          refine LWp.reg hT hW (fun _ => none) (fun _ => ⟨rfl, fun _ h => h⟩) ?_
          simp
          refine ⟨by omega, ?_⟩
          refine loopQ.mk (k + 1) (Weak.to [2, 3, 9, 10, 11, 17, 18] [] (by decide) (by decide) (by simp [hp]) (by simp) (by simp)) ?_ ?_
          · omega
          · omega
      · refine LWp.exit ?_
        simp
        refine LWp.reg hT hW (fun _ => none) (fun _ => ⟨rfl, fun _ h => h⟩) ?_
        simp
        refine ⟨by omega, ?_⟩
        refine loopQ.mk (i + 1) (Weak.to [2, 3, 9, 10] [] (by decide) (by decide) (by simp [hp]) (by simp) (by simp)) ?_ ?_
        · omega
        · omega
  · refine LWp.exit ?_
    simp
    refine LWp.seq ?_
    refine LWp.reg hT hW (fun | 200 => some <| .plain ⟨.d (.bool true), true⟩ | _ => none) (by intro d; first | exact ⟨rfl, fun _ h => h⟩ | (split <;> exact ⟨rfl, fun _ h => h⟩)) ?_
    simp
    refine ⟨lives_ok, ?_⟩
    refine LWp.ret ?_
    simp

end Go.Eng
