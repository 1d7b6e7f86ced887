/-
  Texts of the proof of EditMeaning, part 7. No condition.
-/
import Derived.Test.YtpoohdjiocpcfaaGreatMF
set_option linter.unusedVariables false
set_option linter.unusedSimpArgs false
/-
  Chapter 22: EditClosed. No condition.
-/
namespace Go.Eng
open Go.Proofs
attribute [local simp] runL stepL evalG evalOp opLV constLV putEnv dstOk upd upds Res.plain Res.cond Res.fail evalBin evalUn seqQ blockQ argsEnv lookL lookH RetIs memless freshL evalPick evalMin bval bok evalLen evalIn strip whenC guardOps guardC slotsOf
  runM foldS stepI stepM maskE wrIn lk renO lookN evalCall evalCallee optAll resLV resObj retLV retObj retsLV retsObj evalLoad evalIndexAddr evalField solid cellsD_agg cellsD_int cellsD_bool cellsD_str cellsD_sl cellsD_ro cellsD_fn cellsL_agg cellsL_dagg cellsL_int cellsL_bool cellsL_str cellsL_sl cellsL_fn cellsL_ow cellsL_bx cellsL_lfn cellsL_nl takeL takeD mkAgg allD eqD eqDs kindsAre kindIs LObj.live TK.isNone TK.agg TK.isBool TK.isStr TK.isStruct Op.operands Call.operands
  evalBuildSlice evalAppend elemsOf evalStore evalBuild fillL lookupF putL evalSlice bound evalConv elemsS freezes frozen loadR
  mkEnv_at mkObs_at close_d close_agg close_ow close_bx close_fn close_nl touch_d touch_agg touch_ow touch_bx touch_fn touch_nl ren_d ren_agg ren_bx ren_rp ren_ow ren_fn ren_nl ren_junk retQ_ret retQ2_ret condQ_bool Nm.d Df.d Ed.d nmsD dfsD strsD edsD retC_ret nm_eq df_eq take_map_len take_map_app
  nm_t nm_d nm_td df_t df_d df_td str_t str_d str_td ed_t ed_d ed_td
  evalAppendIn evalCut evalClear evalCopy evalMake evalWrap evalCap evalNil isNilC lenL isInp gorc
  mapOf findD keyEq keyOk evalMakeMap evalRange zeroD zeroDV argsG shutG outN lenv retG0_ret retG0_normal retG1_ret renO close_mp touch_mp ren_mp optAll_d optAll_d' touch_ds cellsL_mp cellsD_mp cellsL_dmp

theorem all_in {x y : List Nm} (h : ∀ n ∈ x, n ∈ y) : (x.all fun n => decide (n ∈ y)) = true := List.all_eq_true.2 fun n hn => decide_eq_true (h n hn)
theorem clo_len {l : List Ed} (h : (validV l).2 = 0) {S : List Nm} (hS : ∀ n ∈ S, n ∈ l.map Ed.name) : (cloN l S).length ≤ S.length + S.length * (2 * (allNeeds l).length) := by
  have hf : ∀ T : List Nm, (T.flatMap (aboveL l)).length ≤ T.length * (2 * (allNeeds l).length) := fun T => flat_le fun n _ => by have := aboveL_len l n; omega
  have h1 := sortN_len (S ++ S.flatMap (aboveL l))
  have h2 := hf S
  unfold cloN
  rw [List.length_append] at h1
  omega

/-- culprit/culpritlaw22.EditClosed -/
theorem EditClosed_ok (l : List Int) (one two : Int) (hr : ∀ n ∈ l, -9223372036854775808 ≤ n ∧ n ≤ 9223372036854775807) (q1 : -9223372036854775808 ≤ one ∧ one ≤ 9223372036854775807) (q2 : -9223372036854775808 ≤ two ∧ two ≤ 9223372036854775807) : Ok Tryz.prog 6 [.sl (l.map I64), I64 one, I64 two] ⟨.d (.bool true), true⟩ := by
  refine Ok.ret Tryz.func6 (by kernel_rfl) (c := _) rfl Tryz.ntmps6 (by simp) Tryz.results6 (by intro _ h; cases h) fun w0 X hp => ?_
  have hal := madeL_len l
  have han := made_needs l
  have has := made_small l
  have hmo := Made_ok l hr
  have hv : (validV (madeL l)).2 = 0 := by rw [made_valid]
  obtain ⟨a, haa⟩ : ∃ a, a = madeL l := ⟨_, rfl⟩
  rw [← haa] at hal han has hmo hv
  clear haa
  obtain ⟨S1, hS1⟩ : ∃ S, S = someN a one := ⟨_, rfl⟩
  obtain ⟨S2, hS2⟩ : ∃ S, S = someN a two := ⟨_, rfl⟩
  have s1 := Some_ok a one (by omega) q1.1 q1.2
  have s2 := Some_ok a two (by omega) q2.1 q2.2
  have l1 := someN_len a one
  have l2 := someN_len a two
  have u1 : ∀ n ∈ S1, n ∈ a.map Ed.name := fun n hn => someN_sub (hS1 ▸ hn)
  have u2 : ∀ n ∈ S2, n ∈ a.map Ed.name := fun n hn => someN_sub (hS2 ▸ hn)
  rw [← hS1] at s1 l1
  rw [← hS2] at s2 l2
  have c1 := (EClosure_ok a S1 (by omega) (by omega)).own2_d
  have c2 := (EClosure_ok a S2 (by omega) (by omega)).own2_d
  rw [closureV_ok hv u1] at c1
  rw [closureV_ok hv u2] at c2
  have x1 := closure_closed hv u1
  have x2 := closure_closed hv u2
  have b1 := clo_len hv u1
  have b2 := clo_len hv u2
  have m1 : ∀ n ∈ S1, n ∈ cloN a S1 := fun n hn => mem_cloN.2 (.inl hn)
  have least : ∀ z, closedB a z = true → (∀ n ∈ S1, n ∈ z) → ∀ n ∈ cloN a S1, n ∈ z := fun z h1 h2 n hn => cloN_least h1 h2 hn
  obtain ⟨x, hx⟩ : ∃ x, x = cloN a S1 := ⟨_, rfl⟩
  obtain ⟨y, hy⟩ : ∃ y, y = cloN a S2 := ⟨_, rfl⟩
  rw [← hx] at c1 x1 b1 m1 least
  rw [← hy] at c2 x2 b2
  clear hx hy hS1 hS2
  have k1 : S1.length * (2 * (allNeeds a).length) ≤ 6 * 72 := Nat.mul_le_mul (by omega) (by omega)
  have k2 : S2.length * (2 * (allNeeds a).length) ≤ 6 * 72 := Nat.mul_le_mul (by omega) (by omega)
  have e1 := EClosed_ok a x
  have e2 := EClosed_ok a y
  rw [x1] at e1
  rw [x2] at e2
  have w1 := within_ok S1 x
  rw [all_in m1] at w1
  refine LWp.seq ?_
  refine LWp.reg hT hW (fun _ => none) (fun _ => ⟨rfl, fun _ h => h⟩) ?_
  simp
  refine LWp.seq ?_
  refine LWp.reg hT hW (fun | 17 => some <| .plain ⟨.d (edsD a), false⟩ | _ => none) (by intro d; first | exact ⟨rfl, fun _ h => h⟩ | (split <;> exact ⟨rfl, fun _ h => h⟩)) ?_
  simp
  refine ⟨hmo, ?_⟩
  refine LWp.seq ?_
  refine LWp.reg hT hW (fun | 22 => some <| .plain ⟨.d (nmsD S1), true⟩ | 23 => some <| .plain ⟨.tup [.d (nmsD x), .d (I64 0)], true⟩ | _ => none) (by intro d; first | exact ⟨rfl, fun _ h => h⟩ | (split <;> exact ⟨rfl, fun _ h => h⟩)) ?_
  simp [evalExtract]
  refine ⟨⟨s1, c1⟩, ?_⟩
  refine LWp.seq ?_
  refine LWp.reg hT hW (fun | 30 => some <| .plain ⟨.d (nmsD S2), true⟩ | 31 => some <| .plain ⟨.tup [.d (nmsD y), .d (I64 0)], true⟩ | _ => none) (by intro d; first | exact ⟨rfl, fun _ h => h⟩ | (split <;> exact ⟨rfl, fun _ h => h⟩)) ?_
  simp [evalExtract]
  refine ⟨⟨s2, c2⟩, ?_⟩
  refine LWp.seq ?_
  refine LWp.seq ?_
  refine LWp.reg hT hW (fun | 43 => some <| .plain ⟨.d (.bool true), true⟩ | 49 => some <| .plain ⟨.d (.bool true), true⟩ | 55 => some <| .plain ⟨.d (nmsD S1), true⟩ | 57 => some <| .plain ⟨.d (.bool true), true⟩ | _ => none) (by intro d; first | exact ⟨rfl, fun _ h => h⟩ | (split <;> exact ⟨rfl, fun _ h => h⟩)) ?_
  simp
  refine ⟨⟨⟨⟨e1, e2⟩, s1⟩, w1⟩, ?_⟩
  refine LWp.iff ?_
  simp
  refine LWp.skip ?_
  simp
  refine LWp.seq ?_
  refine LWp.reg hT hW (fun _ => none) (fun _ => ⟨rfl, fun _ h => h⟩) ?_
  simp
  refine LWp.seq ?_
  refine LWp.seq ?_
  refine LWp.reg hT hW (fun _ => none) (fun _ => ⟨rfl, fun _ h => h⟩) ?_
  simp
  refine LWp.block ?_
  refine LWp.loopW (ι := Nat × List Nm) (fun ⟨i, acc⟩ => mkEnv [(1, .d (I64 one)), (7, .d (edsD a)), (8, .d (nmsD x)), (10, .d (nmsD y)), (12, .ow 12 0 acc.length), (13, .d (I64 i))]) (fun ⟨i, acc⟩ => mkObs [(12, .row false 2 (acc.map Nm.d))]) (fun ⟨i, acc⟩ => i ≤ x.length ∧ acc.length ≤ i ∧ acc = (x.take i).filter fun n => decide (n ∈ y)) (fun ⟨i, acc⟩ => x.length - i) (0, []) (Weak.to [1, 7, 8, 10, 12, 13] [(12, 12)] (by decide) (by decide) (by simp [hp]) (by simp) (by simp)) (by simp) fun ⟨i, acc⟩ hi8 => ?_
  refine LWp.seq ?_
  refine LWp.seq ?_
  refine LWp.reg hT hW (fun _ => none) (fun _ => ⟨rfl, fun _ h => h⟩) ?_
  simp
  refine LWp.iff ?_
  simp
  refine ⟨fun h8 => ?_, fun h8 => ?_⟩
  · refine LWp.skip ?_
    simp
    refine LWp.seq ?_
    refine LWp.block ?_
    refine LWp.seq ?_
    refine LWp.reg hT hW (fun | 71 => some <| .plain ⟨.d (.bool (decide (x[i] ∈ y))), true⟩ | _ => none) (by intro d; first | exact ⟨rfl, fun _ h => h⟩ | (split <;> exact ⟨rfl, fun _ h => h⟩)) ?_
    simp [h8]
    refine ⟨Has_ok y _, ?_⟩
    refine LWp.iff ?_
    simp
    refine ⟨fun h10 => ?_, fun h10 => ?_⟩
    · refine LWp.reg hT hW (fun _ => none) (fun _ => ⟨rfl, fun _ h => h⟩) ?_
      simp [h8]
      refine ⟨by have := hi8.2.1; omega, ?_⟩
      refine LWp.reg hT hW (fun _ => none) (fun _ => ⟨rfl, fun _ h => h⟩) ?_
      simp
      refine ⟨by omega, ?_⟩
      refine loopQ.mk (i + 1, acc ++ [x[i]]) (Weak.to [1, 7, 8, 10, 12, 13] [(78, 12)] (by decide) (by decide) (by simp [hp]) (by simp) (by simp)) ?_ ?_
      · refine ⟨h8, by have := hi8.2.1; simp; omega, ?_⟩
        dsimp only
        rw [filter_take_succ h8, ← hi8.2.2]; simp [h10]
      · omega
    · refine LWp.skip ?_
      simp
      refine LWp.reg hT hW (fun _ => none) (fun _ => ⟨rfl, fun _ h => h⟩) ?_
      simp
      refine ⟨by omega, ?_⟩
      refine loopQ.mk (i + 1, acc) (Weak.to [1, 7, 8, 10, 12, 13] [(12, 12)] (by decide) (by decide) (by simp [hp]) (by simp) (by simp)) ?_ ?_
      · refine ⟨h8, by have := hi8.2.1; dsimp only; omega, ?_⟩
        dsimp only
        rw [filter_take_succ h8, ← hi8.2.2]; simp [h10]
      · omega
  · refine LWp.exit ?_
    simp
    refine LWp.seq ?_
    refine LWp.seq ?_
    have hac : acc = x.filter fun n => decide (n ∈ y) := by rw [hi8.2.2, List.take_of_length_le (by omega)]
    have e3 := EClosed_ok a acc
    have e4 := EClosed_ok a (x ++ y)
    rw [closed_app x1 x2] at e4
    rw [show closedB a acc = true by rw [hac]; exact closed_common x1 x2] at e3
    refine LWp.reg hT hW (fun | 81 => some <| .plain ⟨.d (.bool true), true⟩ | 90 => some <| .plain ⟨.d (.bool true), true⟩ | _ => none) (by intro d; first | exact ⟨rfl, fun _ h => h⟩ | (split <;> exact ⟨rfl, fun _ h => h⟩)) ?_
    simp
    refine ⟨⟨⟨⟨e3, by omega⟩, by omega⟩, by rw [List.take_of_length_le (by simp)]; simpa using e4⟩, ?_⟩
    refine LWp.iff ?_
    simp
    refine LWp.skip ?_
    simp
    refine LWp.seq ?_
    refine LWp.seq ?_
    refine LWp.reg hT hW (fun _ => none) (fun _ => ⟨rfl, fun _ h => h⟩) ?_
    simp
    refine LWp.block ?_
    refine LWp.loopW (ι := Nat) (fun s => mkEnv [(1, .d (I64 one)), (7, .d (edsD a)), (8, .d (nmsD x)), (14, .d (I64 s))]) (fun s => mkObs []) (fun s => s ≤ 64) (fun s => 64 - s) 0 (Weak.to [1, 7, 8, 14] [] (by decide) (by decide) (by simp [hp]) (by simp) (by simp)) (by simp) fun s hi15 => ?_
    refine LWp.seq ?_
    refine LWp.seq ?_
    have hif : (if (6 : Int) < (a.length : Int) then (6 : Int) else (a.length : Int)) = (a.length : Int) := if_neg (by omega)
    have hmw := u64_nat (k := a.length) (by omega)
    have hk64 : min a.length 64 = a.length := by omega
    refine LWp.reg hT hW (fun _ => none) (fun _ => ⟨rfl, fun _ h => h⟩) ?_
    simp [hif, hmw, IntKind.bits, hk64]
    refine LWp.iff ?_
    simp
    refine ⟨fun h15 _ => ?_, fun h15 => ?_⟩
    · refine LWp.skip ?_
      simp
      refine LWp.seq ?_
      refine LWp.block ?_
      refine LWp.seq ?_
      obtain ⟨z, hz⟩ : ∃ z, z = someN a (s : Int) := ⟨_, rfl⟩
      have sz := Some_ok a (s : Int) (by omega) (by omega) (by omega)
      rw [← hz] at sz
      refine LWp.reg hT hW (fun | 108 => some <| .plain ⟨.d (nmsD z), true⟩ | _ => none) (by intro d; first | exact ⟨rfl, fun _ h => h⟩ | (split <;> exact ⟨rfl, fun _ h => h⟩)) ?_
      simp
      refine ⟨sz, ?_⟩
      refine LWp.seq ?_
      have hkey : closedB a z = true → (S1.all fun n => decide (n ∈ z)) = true → (x.all fun n => decide (n ∈ z)) = true := fun h1 h2 => all_in (least z h1 fun n hn => by simpa using List.all_eq_true.1 h2 n hn)
      refine LWp.reg hT hW (fun | 111 => some <| .plain ⟨.d (.bool (closedB a z)), true⟩ | 115 => some <| .plain ⟨.d (nmsD S1), true⟩ | 117 => some <| .plain ⟨.d (.bool (S1.all fun n => decide (n ∈ z))), true⟩ | 122 => some <| .plain ⟨.d (.bool (x.all fun n => decide (n ∈ z))), true⟩ | _ => none) (by intro d; first | exact ⟨rfl, fun _ h => h⟩ | (split <;> exact ⟨rfl, fun _ h => h⟩)) ?_
      simp
      refine ⟨⟨⟨⟨EClosed_ok a z, fun _ => s1⟩, fun _ => within_ok S1 z⟩, fun _ _ => within_ok x z⟩, ?_⟩
      refine LWp.iff ?_
      simp
      refine ⟨fun g1 g2 n hn hz => absurd (least z g1 g2 n hn) hz, fun h18 => ?_⟩
      refine LWp.skip ?_
      simp
      refine LWp.reg hT hW (fun _ => none) (fun _ => ⟨rfl, fun _ h => h⟩) ?_
      simp
      refine ⟨by omega, ?_⟩
      refine loopQ.mk (s + 1) (Weak.to [1, 7, 8, 14] [] (by decide) (by decide) (by simp [hp]) (by simp) (by simp)) ?_ ?_
      · omega
      · omega
    · refine LWp.exit ?_
      simp
      refine LWp.seq ?_
      refine LWp.reg hT hW (fun | 125 => some <| .plain ⟨.d (.bool true), true⟩ | _ => none) (by intro d; first | exact ⟨rfl, fun _ h => h⟩ | (split <;> exact ⟨rfl, fun _ h => h⟩)) ?_
      simp
      refine ⟨lives_ok, ?_⟩
      refine LWp.ret ?_
      simp

end Go.Eng

/-
  Chapter 22: which edit touches a definition last; EditMeaning. No condition.
-/
namespace Go.Eng
open Go.Proofs
attribute [local simp] runL stepL evalG evalOp opLV constLV putEnv dstOk upd upds Res.plain Res.cond Res.fail evalBin evalUn seqQ blockQ argsEnv lookL lookH RetIs memless freshL evalPick evalMin bval bok evalLen evalIn strip whenC guardOps guardC slotsOf
  runM foldS stepI stepM maskE wrIn lk renO lookN evalCall evalCallee optAll resLV resObj retLV retObj retsLV retsObj evalLoad evalIndexAddr evalField solid cellsD_agg cellsD_int cellsD_bool cellsD_str cellsD_sl cellsD_ro cellsD_fn cellsL_agg cellsL_dagg cellsL_int cellsL_bool cellsL_str cellsL_sl cellsL_fn cellsL_ow cellsL_bx cellsL_lfn cellsL_nl takeL takeD mkAgg allD eqD eqDs kindsAre kindIs LObj.live TK.isNone TK.agg TK.isBool TK.isStr TK.isStruct Op.operands Call.operands
  evalBuildSlice evalAppend elemsOf evalStore evalBuild fillL lookupF putL evalSlice bound evalConv elemsS freezes frozen loadR
  mkEnv_at mkObs_at close_d close_agg close_ow close_bx close_fn close_nl touch_d touch_agg touch_ow touch_bx touch_fn touch_nl ren_d ren_agg ren_bx ren_rp ren_ow ren_fn ren_nl ren_junk retQ_ret retQ2_ret condQ_bool Nm.d Df.d Ed.d nmsD dfsD strsD edsD retC_ret nm_eq df_eq take_map_len take_map_app
  nm_t nm_d nm_td df_t df_d df_td str_t str_d str_td ed_t ed_d ed_td
  evalAppendIn evalCut evalClear evalCopy evalMake evalWrap evalCap evalNil isNilC lenL isInp gorc
  mapOf findD keyEq keyOk evalMakeMap evalRange zeroD zeroDV argsG shutG outN lenv retG0_ret retG0_normal retG1_ret renO close_mp touch_mp ren_mp optAll_d optAll_d' touch_ds cellsL_mp cellsD_mp cellsL_dmp

theorem samen (a : List Nm) : Ok Tryz.prog 19 [nmsD a, nmsD a] ⟨.d (.bool true), true⟩ := by
  have := SameNames_ok a a
  rwa [decide_eq_true rfl] at this
theorem samed (a : List Df) : Ok Tryz.prog 34 [dfsD a, dfsD a] ⟨.d (.bool true), true⟩ := by
  have := SameDefs_ok a a
  rwa [decide_eq_true rfl] at this
theorem turned_needs2 (l : List Int) (b : Int) : (allNeeds (turnedL (madeL l) b)).length ≤ 36 := by
  have h := flat_le (f := Ed.needs) (l := turnedL (madeL l) b) fun x hx => (made_mem (turned_mem.1 hx)).1
  have := madeL_len l
  rw [turned_len] at h
  unfold allNeeds; omega
theorem topsL_succ {l : List Ed} {set : List Nm} {s : Str} {i : Nat} (h : i < l.length) : topsL l set s (i + 1) = topsL l set s i ++ if topE l set s l[i] = true then [i] else [] := by
  unfold topsL
  rw [List.range_succ, List.filter_append]
  congr 1
  simp [h, List.filter_cons]
theorem topsL_pre {l : List Ed} {set : List Nm} {s : Str} {i n : Nat} (h : i ≤ n) : topsL l set s i <+: topsL l set s n := by
  unfold topsL
  obtain ⟨d, rfl⟩ : ∃ d, n = i + d := ⟨n - i, by omega⟩
  rw [List.range_add, List.filter_append]
  exact List.prefix_append _ _
theorem last_two {l : List Ed} {set : List Nm} {s : Str} {i k : Nat} (h : i < l.length) (h1 : topsL l set s i = [k]) (h2 : topE l set s l[i] = true) : lastV l set s = -2 := by
  have hp := topsL_pre (l := l) (set := set) (s := s) (i := i + 1) (n := l.length) h
  rw [topsL_succ h, h1, if_pos h2] at hp
  obtain ⟨t, ht⟩ := hp
  unfold lastV
  rw [← ht]
  rfl
/-- What is known of the edits that were looked at. -/
def TopsAt (l : List Ed) (set : List Nm) (s : Str) (i : Nat) (out : Int) : Prop := (topsL l set s i = [] ∧ out = -1) ∨ ∃ k : Nat, topsL l set s i = [k] ∧ out = (k : Int)
theorem TopsAt.skip {l : List Ed} {set : List Nm} {s : Str} {i : Nat} {out : Int} (h : TopsAt l set s i out) (hi : i < l.length) (ht : topE l set s l[i] = false) : TopsAt l set s (i + 1) out := by
  have e : topsL l set s (i + 1) = topsL l set s i := by rw [topsL_succ hi, if_neg (by rw [ht]; simp), List.append_nil]
  unfold TopsAt
  rw [e]; exact h
theorem TopsAt.take {l : List Ed} {set : List Nm} {s : Str} {i : Nat} {out : Int} (h : TopsAt l set s i out) (hi : i < l.length) (ht : topE l set s l[i] = true) (ho : out < 0) : TopsAt l set s (i + 1) i := by
  rcases h with ⟨h1, _⟩ | ⟨k, _, h2⟩
  · exact .inr ⟨i, by rw [topsL_succ hi, h1, if_pos ht]; rfl, rfl⟩
  · omega

set_option maxRecDepth 10000
set_option maxHeartbeats 1000000

/-- culprit/culpritlaw22.last -/
theorem last_ok (l : List Ed) (set : List Nm) (s : Str) (hs : small l) (hl : l.length ≤ 1000000) : Ok Tryz.prog 40 [edsD l, nmsD set, .str s] ⟨.d (I64 (lastV l set s)), true⟩ := by
  refine Ok.ret Tryz.func40 (by kernel_rfl) (c := _) rfl Tryz.ntmps40 (by simp) Tryz.results40 (by intro _ h; cases h) fun w0 X hp => ?_
  refine LWp.seq ?_
  refine LWp.reg hT hW (fun _ => none) (fun _ => ⟨rfl, fun _ h => h⟩) ?_
  simp
  refine LWp.seq ?_
  refine LWp.reg hT hW (fun _ => none) (fun _ => ⟨rfl, fun _ h => h⟩) ?_
  simp
  refine LWp.seq ?_
  refine LWp.seq ?_
  refine LWp.reg hT hW (fun _ => none) (fun _ => ⟨rfl, fun _ h => h⟩) ?_
  simp
  refine LWp.block ?_
  refine LWp.loopW (ι := Nat × Int) (fun ⟨i, out⟩ => mkEnv [(0, .d (edsD l)), (1, .d (nmsD set)), (2, .d (.str s)), (7, .d (I64 out)), (8, .d (I64 i))]) (fun ⟨i, out⟩ => mkObs []) (fun ⟨i, out⟩ => i ≤ l.length ∧ TopsAt l set s i out) (fun ⟨i, out⟩ => l.length - i) (0, -1) (Weak.to [0, 1, 2, 7, 8] [] (by decide) (by decide) (by simp [hp]) (by simp) (by simp)) (⟨Nat.zero_le _, .inl ⟨by simp [topsL], rfl⟩⟩) fun ⟨i, out⟩ hi3 => ?_
  refine LWp.seq ?_
  refine LWp.seq ?_
  refine LWp.reg hT hW (fun _ => none) (fun _ => ⟨rfl, fun _ h => h⟩) ?_
  simp
  refine LWp.iff ?_
  simp
  refine ⟨fun h3 => ?_, fun h3 => ?_⟩
  · refine LWp.skip ?_
    simp
    refine LWp.seq ?_
    refine LWp.block ?_
    refine LWp.seq ?_
    refine LWp.seq ?_
    have hsi := hs _ (List.getElem_mem h3)
    refine LWp.reg hT hW (fun | 23 => some <| .plain ⟨.d (.bool (decide (l[i].name ∈ set))), true⟩ | 30 => some <| .plain ⟨.d (strsD (touches l[i])), true⟩ | 32 => some <| .plain ⟨.d (.bool (decide (s ∈ touches l[i]))), true⟩ | _ => none) (by intro d; first | exact ⟨rfl, fun _ h => h⟩ | (split <;> exact ⟨rfl, fun _ h => h⟩)) ?_
    simp [h3]
    refine ⟨⟨⟨Has_ok _ _, by intros; exact Touches_ok _ hsi.1 hsi.2⟩, by intros; exact In_ok _ _⟩, ?_⟩
    refine LWp.iff ?_
    simp
    refine ⟨fun h5 => ?_, fun h5a h5b => ?_⟩
    · refine LWp.exit ?_
      simp
      refine LWp.reg hT hW (fun _ => none) (fun _ => ⟨rfl, fun _ h => h⟩) ?_
      simp
      refine ⟨by omega, ?_⟩
      refine loopQ.mk (i + 1, out) (Weak.to [0, 1, 2, 7, 8] [] (by decide) (by decide) (by simp [hp]) (by simp) (by simp)) ?_ ?_
      · exact ⟨h3, hi3.2.skip h3 (by rcases h5 with q | q <;> simp [topE, inTouch, q])⟩
      · omega
    · refine LWp.skip ?_
      simp
      refine LWp.seq ?_
      refine LWp.reg hT hW (fun _ => none) (fun _ => ⟨rfl, fun _ h => h⟩) ?_
      simp
      refine LWp.seq ?_
      refine LWp.seq ?_
      refine LWp.reg hT hW (fun _ => none) (fun _ => ⟨rfl, fun _ h => h⟩) ?_
      simp
      refine LWp.block ?_
      refine LWp.loopW (ι := Nat × Bool) (fun ⟨k, top⟩ => mkEnv [(0, .d (edsD l)), (1, .d (nmsD set)), (2, .d (.str s)), (7, .d (I64 out)), (8, .d (I64 i)), (9, .d (.bool top)), (10, .d (I64 k))]) (fun ⟨k, top⟩ => mkObs []) (fun ⟨k, top⟩ => k ≤ l.length ∧ top = !(l.take k).any fun f => inTouch set s f && decide (l[i].name ∈ aboveL l f.name)) (fun ⟨k, top⟩ => l.length - k) (0, true) (Weak.to [0, 1, 2, 7, 8, 9, 10] [] (by decide) (by decide) (by simp [hp]) (by simp) (by simp)) (by simp) fun ⟨k, top⟩ hi8 => ?_
      refine LWp.seq ?_
      refine LWp.seq ?_
      refine LWp.reg hT hW (fun _ => none) (fun _ => ⟨rfl, fun _ h => h⟩) ?_
      simp
      refine LWp.iff ?_
      simp
      refine ⟨fun h8 => ?_, fun h8 => ?_⟩
      · refine LWp.skip ?_
        simp
        refine LWp.seq ?_
        refine LWp.block ?_
        refine LWp.seq ?_
        have hsk := hs _ (List.getElem_mem h8)
        refine LWp.regAny hT hW hMixed (lk [[], [], [], [1, 2], [1, 2, 3], [1, 2, 3, 4], [0, 1, 2, 3, 4, 5], [0, 1, 2, 3, 4, 5, 6], [0, 1, 2, 3, 4, 5, 6, 7], [0, 1, 2, 3, 4, 5, 6, 7], [0, 1, 2, 3, 4, 5, 6, 7, 8, 9], [0, 1, 2, 3, 4, 5, 6, 7, 8, 9, 10], [0, 1, 2, 3, 4, 5, 6, 7, 8, 9, 10, 11], [0, 1, 2, 3, 4, 5, 6, 7], [0, 1, 2, 3, 4, 5, 6, 7, 8, 9, 10, 11, 12, 13], [0, 1, 2, 3, 4, 5, 6, 7, 8, 9, 10, 11, 12, 13, 14], [0, 1, 2, 3, 4, 5, 6, 7, 8, 9, 10, 11, 12, 13, 14, 15], [0, 1, 2, 3, 4, 5, 6, 7, 8, 9, 10, 11, 12, 13, 14, 15, 16], [0, 1, 2, 3, 4, 5, 6, 7, 8, 9, 10, 11, 12, 13, 14, 15, 16], [0, 1, 2, 3, 4, 5, 6, 7, 8, 9, 10, 11, 12, 13, 14, 15, 16], [0, 1, 2, 3, 4, 5, 6, 7, 8, 9, 10, 11, 12, 13, 14, 15, 16, 18, 19], [0, 1, 2, 3, 4, 5, 6, 7, 8, 9, 10, 11, 12, 13, 14, 15, 16, 18, 19, 20], [0, 1, 2, 3, 4, 5, 6, 7, 8, 9, 10, 11, 12, 13, 14, 15, 16, 18, 19, 20, 21], [0, 1, 2, 3, 4, 5, 6, 7, 8, 9, 10, 11, 12, 13, 14, 15, 16], [0, 1, 2, 3, 4, 5, 6, 7, 8, 9, 10, 11, 12, 13, 14, 15, 16], [0, 1, 2, 3, 4, 5, 6, 7, 8, 9, 10, 11, 12, 13, 14, 15, 16, 23, 24], [0, 1, 2, 3, 4, 5, 6, 7, 8, 9, 10, 11, 12, 13, 14, 15, 16, 23, 24, 25], [0, 1, 2, 3, 4, 5, 6, 7, 8, 9, 10, 11, 12, 13, 14, 15, 16, 23, 24, 25, 26], [0, 1, 2, 3, 4, 5, 6, 7, 8, 9, 10, 11, 12, 13, 14, 15, 16, 17, 18, 19, 20, 21, 22, 23, 24, 25, 26, 27], [0, 1, 2, 3, 4, 5, 6, 7, 8, 9, 10, 11, 12, 13, 14, 15, 16, 17, 18, 19, 20, 21, 22, 23, 24, 25, 26, 27, 28]]) (lk [[], [], [], [], [], [], [], [], [], [], [], [], [], [53], [], [], [], [], [], [], [], [], [], [], [], [], [], [], [], []]) (lk [[], [], [], [], [], [], [47], [], [], [], [], [], [53], [], [55], [], [], [], [], [], [], [], [], [], [], [], [], [], [69], []]) (by kernel_rfl) (fun | 47 => some <| .plain ⟨.d (.bool (decide (l[k].name ∈ set))), true⟩ | 53 => some <| .plain ⟨.d (strsD (touches l[k])), true⟩ | 55 => some <| .plain ⟨.d (.bool (decide (s ∈ touches l[k]))), true⟩ | 69 => some <| .plain ⟨.d (.bool (decide (l[i].name ∈ aboveL l l[k].name))), true⟩ | _ => none) (by intro d; first | exact ⟨rfl, fun _ h => h⟩ | (split <;> exact ⟨rfl, fun _ h => h⟩)) ?_
        simp [h3, h8]
        refine ⟨⟨⟨⟨Has_ok _ _, by intros; exact Touches_ok _ hsk.1 hsk.2⟩, by intros; exact In_ok _ _⟩, by intros; exact EBefore_ok _ _ _⟩, ?_⟩
        refine LWp.iff ?_
        simp
        refine ⟨fun z1 z2 z3 => ?_, fun h10 => ?_⟩
        · refine LWp.reg hT hW (fun _ => none) (fun _ => ⟨rfl, fun _ h => h⟩) ?_
          simp
          refine LWp.reg hT hW (fun _ => none) (fun _ => ⟨rfl, fun _ h => h⟩) ?_
          simp
          refine ⟨by omega, ?_⟩
          refine loopQ.mk (k + 1, false) (Weak.to [0, 1, 2, 7, 8, 9, 10] [] (by decide) (by decide) (by simp [hp]) (by simp) (by simp)) ?_ ?_
          · refine ⟨h8, ?_⟩
            dsimp only
            rw [List.take_succ_eq_append_getElem h8, List.any_append]
            simp [inTouch, z1, z2, z3]
          · omega
        · refine LWp.skip ?_
          simp
          refine LWp.reg hT hW (fun _ => none) (fun _ => ⟨rfl, fun _ h => h⟩) ?_
          simp
          refine ⟨by omega, ?_⟩
          refine loopQ.mk (k + 1, top) (Weak.to [0, 1, 2, 7, 8, 9, 10] [] (by decide) (by decide) (by simp [hp]) (by simp) (by simp)) ?_ ?_
          · refine ⟨h8, ?_⟩
            dsimp only
            rw [List.take_succ_eq_append_getElem h8, List.any_append, hi8.2]
            simp [inTouch]
            intros
            by_cases w1 : l[k].name ∈ set
            · by_cases w2 : s ∈ touches l[k]
              · exact .inr (h10 w1 w2)
              · exact .inl (.inr w2)
            · exact .inl (.inl w1)
          · omega
      · refine LWp.exit ?_
        simp
        refine LWp.seq ?_
        refine LWp.seq ?_
        have htop : topE l set s l[i] = top := by
          have := hi8.2
          rw [List.take_of_length_le (by omega)] at this
          rw [this]
          unfold topE
          simp [inTouch, h5a, h5b]
        refine LWp.reg hT hW (fun _ => none) (fun _ => ⟨rfl, fun _ h => h⟩) ?_
        simp
        refine LWp.iff ?_
        simp
        refine ⟨fun h12a h12b => ?_, fun h12 => ?_⟩
        · refine LWp.seq ?_
          refine LWp.reg hT hW (fun _ => none) (fun _ => ⟨rfl, fun _ h => h⟩) ?_
          simp
          refine LWp.ret ?_
          simp
          rcases hi3.2 with ⟨_, h⟩ | ⟨k', h, _⟩
          · omega
          · exact (last_two h3 h (by rw [htop, h12a])).symm
        · refine LWp.skip ?_
          simp
          refine LWp.seq ?_
          refine LWp.reg hT hW (fun _ => none) (fun _ => ⟨rfl, fun _ h => h⟩) ?_
          simp
          refine LWp.iff ?_
          simp
          refine ⟨fun h14 => ?_, fun h14 => ?_⟩
          · refine LWp.reg hT hW (fun _ => none) (fun _ => ⟨rfl, fun _ h => h⟩) ?_
            simp
            refine LWp.reg hT hW (fun _ => none) (fun _ => ⟨rfl, fun _ h => h⟩) ?_
            simp
            refine ⟨by omega, ?_⟩
            refine loopQ.mk (i + 1, (i : Int)) (Weak.to [0, 1, 2, 7, 8] [] (by decide) (by decide) (by simp [hp]) (by simp) (by simp)) ?_ ?_
            · exact ⟨h3, hi3.2.take h3 (by rw [htop, h14]) (by have := h12 h14; omega)⟩
            · omega
          · refine LWp.skip ?_
            simp
            refine LWp.reg hT hW (fun _ => none) (fun _ => ⟨rfl, fun _ h => h⟩) ?_
            simp
            refine ⟨by omega, ?_⟩
            refine loopQ.mk (i + 1, out) (Weak.to [0, 1, 2, 7, 8] [] (by decide) (by decide) (by simp [hp]) (by simp) (by simp)) ?_ ?_
            · exact ⟨h3, hi3.2.skip h3 (by rw [htop, h14])⟩
            · omega
  · refine LWp.exit ?_
    simp
    refine LWp.seq ?_
    refine LWp.reg hT hW (fun _ => none) (fun _ => ⟨rfl, fun _ h => h⟩) ?_
    simp
    refine LWp.ret ?_
    simp
    have e : i = l.length := by have := hi3.1; omega
    rcases hi3.2 with ⟨h1, h2⟩ | ⟨k', h1, h2⟩
    · rw [e] at h1; simp [lastV, h1, h2]
    · rw [e] at h1; simp [lastV, h1, h2]

theorem rev_take {D : List Df} {i : Nat} (h : i < D.length) : D.reverse.take (i + 1) = D.reverse.take i ++ [D[D.length - 1 - i]'(by omega)] := by
  rw [List.take_succ_eq_append_getElem (by simpa using h), List.getElem_reverse]
/-- The texts' names in the statement. -/
def fiveS : List Str := [[97], [98], [99], [100], [97, 97]]

/-- culprit/culpritlaw22.EditMeaning -/
theorem EditMeaning_ok (l : List Int) (base bits turn : Int) (hr : ∀ n ∈ l, -9223372036854775808 ≤ n ∧ n ≤ 9223372036854775807) (q1 : -9223372036854775808 ≤ base ∧ base ≤ 9223372036854775807) (q2 : -9223372036854775808 ≤ bits ∧ bits ≤ 9223372036854775807) (q3 : -9223372036854775808 ≤ turn ∧ turn ≤ 9223372036854775807) : Ok Tryz.prog 7 [.sl (l.map I64), I64 base, I64 bits, I64 turn] ⟨.d (.bool true), true⟩ := by
  refine Ok.ret Tryz.func7 (by kernel_rfl) (c := _) rfl Tryz.ntmps7 (by simp) Tryz.results7 (by intro _ h; cases h) fun w0 X hp => ?_
  have hal := madeL_len l
  have han := made_needs l
  have has := made_small l
  have hmo := Made_ok l hr
  have hv : (validV (madeL l)).2 = 0 := by rw [made_valid]
  have hvb : (validV (turnedL (madeL l) turn)).2 = 0 := by rw [turned_valid]
  have htu := Turned_ok (madeL l) turn (by omega) q3.1 q3.2
  have hbl := turned_len (madeL l) turn
  have hsame : SameEds (madeL l) (turnedL (madeL l) turn) := ⟨valid_nodup hv, valid_nodup hvb, fun e => turned_mem.symm⟩
  have hbn := turned_needs2 l turn
  obtain ⟨a, haa⟩ : ∃ a, a = madeL l := ⟨_, rfl⟩
  rw [← haa] at hal han has hmo hv hvb htu hbl hsame hbn
  clear haa
  obtain ⟨b, hbb⟩ : ∃ b, b = turnedL a turn := ⟨_, rfl⟩
  rw [← hbb] at hvb htu hbl hsame hbn
  have hbs : small b := fun e he => has e ((hsame.mem e).2 he)
  clear hbb
  have hD := Base_ok base q1.1 q1.2
  have hDn := baseL_nodup base
  have hDl := baseL_len base
  obtain ⟨D, hDD⟩ : ∃ D, D = baseL base := ⟨_, rfl⟩
  rw [← hDD] at hD hDn hDl
  clear hDD
  have hRn : (D.reverse.map Df.name).Nodup := by rw [List.map_reverse]; exact List.pairwise_reverse.2 (hDn.imp fun h e => h e.symm)
  obtain ⟨S, hS⟩ : ∃ S, S = someN a bits := ⟨_, rfl⟩
  have s1 := Some_ok a bits (by omega) q2.1 q2.2
  have l1 := someN_len a bits
  have u1 : ∀ n ∈ S, n ∈ a.map Ed.name := fun n hn => someN_sub (hS ▸ hn)
  rw [← hS] at s1 l1
  clear hS
  have u2 : ∀ n ∈ S, n ∈ b.map Ed.name := fun n hn => hsame.names.1 (u1 n hn)
  have c1 := (EClosure_ok a S (by omega) (by omega)).own2_d
  have c2 := (EClosure_ok b S (by omega) (by omega)).own2_d
  rw [closureV_ok hv u1] at c1
  rw [closureV_ok hvb u2, ← hsame.clo] at c2
  have hset := closure_closed hv u1
  have b1 := clo_len hv u1
  have k1 : S.length * (2 * (allNeeds a).length) ≤ 6 * 72 := Nat.mul_le_mul (by omega) (by omega)
  have hsn : sortN (cloN a S) = cloN a S := rising_eq Nm.sto (sortN_spec _).1 (sortN_spec _).1 (sortN_spec _).2
  obtain ⟨set, hse⟩ : ∃ set, set = cloN a S := ⟨_, rfl⟩
  rw [← hse] at c1 c2 hset b1 hsn
  clear hse
  have hsetb : closedB b set = true := by rw [← hsame.closed]; exact hset
  have hmm : ∀ n, n ∈ set ↔ n ∈ set ++ set := fun n => by simp
  have o1 := (EOrder_ok a set has (by omega)).own2_d
  have o2 := (EOrder_ok b (set ++ set) hbs (by simp; omega)).own2_d
  rw [show orderV a set = (orderN a set, 0) by simp [orderV, hv, hset]] at o1
  rw [show orderV b (set ++ set) = (orderN a set, 0) by simp [orderV, hvb, closed_app hsetb hsetb, ← hsame.order, ← order_mem hmm]] at o2
  have hxf : ∀ n ∈ orderN a set, 0 ≤ findI a n := fun n hn => (closedB_iff.1 hset n ((mem_orderN hv hset).1 hn)).1
  have hxl : (orderN a set).length = set.length := by rw [(orderN_perm hv hset).length_eq, hsn]
  have hxm : ∀ n, n ∈ set ↔ n ∈ orderN a set := fun n => (mem_orderN hv hset).symm
  have hch := orderN_chain a set
  have p1 := EProgram_ok D a set has (by omega) (by omega)
  obtain ⟨R, hR⟩ : ∃ R, R = D.reverse := ⟨_, rfl⟩
  have hRl : R.length = D.length := by rw [hR]; simp
  have hRm : ∀ d, d ∈ D ↔ d ∈ R := fun d => by rw [hR]; simp
  rw [← hR] at hRn
  have p2 := EProgram_ok R b (orderN a set) hbs (by omega) (by omega)
  rw [← program_same hsame hv hvb hDn hRn hRm hxm hset] at p2
  have wx := within_ok set (orderN a set)
  rw [all_in fun n hn => (hxm n).1 hn] at wx
  obtain ⟨L, hL1, hL2⟩ := baseD_rep hDn
  have hprog : ∃ p j, programV D a set = (p, j) ∧ (j = 0 ∨ j = 14) ∧ (j = 0 → ∀ s, (lastV a set s = -1 ∧ textOf p s = textOf D s) ∨ ∃ k, ∃ hk : k < a.length, lastV a set s = (k : Int) ∧ textOf p s = textOf a[k].puts s) := by
    have e := programV_ok hv hL1 hset
    split at e
    · exact ⟨_, _, e, .inr rfl, fun h => by cases h⟩
    · rename_i hnc
      refine ⟨_, _, e, .inl rfl, fun _ s => ?_⟩
      have := last_text hv hset (by simpa using hnc) hL2.ri s
      rwa [textOf_same (rising_names hL2.ri) hDn (fun d => (hL2.mem d).symm) s] at this
  obtain ⟨p, j, hpj, hj, hlast⟩ := hprog
  rw [hpj] at p1 p2
  obtain ⟨x, hx⟩ : ∃ x, x = orderN a set := ⟨_, rfl⟩
  rw [← hx] at o1 o2 hxf hxl hch p2 wx
  clear hx hpj hsame hmm hxm hsn hL1 hL2
  refine LWp.seq ?_
  refine LWp.reg hT hW (fun _ => none) (fun _ => ⟨rfl, fun _ h => h⟩) ?_
  simp
  refine LWp.seq ?_
  refine LWp.reg hT hW (fun | 33 => some <| .plain ⟨.d (edsD a), false⟩ | _ => none) (by intro d; first | exact ⟨rfl, fun _ h => h⟩ | (split <;> exact ⟨rfl, fun _ h => h⟩)) ?_
  simp
  refine ⟨hmo, ?_⟩
  refine LWp.seq ?_
  refine LWp.reg hT hW (fun | 36 => some <| .plain ⟨.d (edsD b), false⟩ | _ => none) (by intro d; first | exact ⟨rfl, fun _ h => h⟩ | (split <;> exact ⟨rfl, fun _ h => h⟩)) ?_
  simp
  refine ⟨htu, ?_⟩
  refine LWp.seq ?_
  refine LWp.reg hT hW (fun | 38 => some <| .plain ⟨.d (dfsD D), true⟩ | _ => none) (by intro d; first | exact ⟨rfl, fun _ h => h⟩ | (split <;> exact ⟨rfl, fun _ h => h⟩)) ?_
  simp
  refine ⟨hD, ?_⟩
  refine LWp.seq ?_
  refine LWp.reg hT hW (fun _ => none) (fun _ => ⟨rfl, fun _ h => h⟩) ?_
  simp
  refine LWp.seq ?_
  refine LWp.seq ?_
  refine LWp.reg hT hW (fun _ => none) (fun _ => ⟨rfl, fun _ h => h⟩) ?_
  simp
  refine LWp.block ?_
  refine LWp.loopW (ι := Nat × List Df) (fun ⟨i, acc⟩ => mkEnv [(2, .d (I64 bits)), (9, .d (edsD a)), (10, .d (edsD b)), (11, .d (dfsD D)), (12, .ow 12 0 acc.length), (13, .d (I64 i))]) (fun ⟨i, acc⟩ => mkObs [(12, .row false 2 (acc.map Df.d))]) (fun ⟨i, acc⟩ => i ≤ D.length ∧ acc.length = i ∧ acc = D.reverse.take i) (fun ⟨i, acc⟩ => D.length - i) (0, []) (Weak.to [2, 9, 10, 11, 12, 13] [(12, 12)] (by decide) (by decide) (by simp [hp]) (by simp) (by simp)) (by simp) fun ⟨i, acc⟩ hi6 => ?_
  refine LWp.seq ?_
  refine LWp.seq ?_
  refine LWp.reg hT hW (fun _ => none) (fun _ => ⟨rfl, fun _ h => h⟩) ?_
  simp
  refine LWp.iff ?_
  simp
  refine ⟨fun h6 => ?_, fun h6 => ?_⟩
  · refine LWp.skip ?_
    simp
    refine LWp.seq ?_
    refine LWp.block ?_
    have hri : D.length - 1 - i < D.length := by omega
    have hrn : ((D.length : Int) - 1 - (i : Int)).toNat = D.length - 1 - i := by omega
    refine LWp.reg hT hW (fun _ => none) (fun _ => ⟨rfl, fun _ h => h⟩) ?_
    simp [hrn, hri]
    refine ⟨by have := hi6.2.1; omega, ?_⟩
    refine LWp.reg hT hW (fun _ => none) (fun _ => ⟨rfl, fun _ h => h⟩) ?_
    simp
    refine ⟨by omega, ?_⟩
    refine loopQ.mk (i + 1, acc ++ [D[D.length - 1 - i]]) (Weak.to [2, 9, 10, 11, 12, 13] [(55, 12)] (by decide) (by decide) (by simp [hp]) (by simp) (by simp)) ?_ ?_
    · refine ⟨h6, by simp [hi6.2.1], ?_⟩
      dsimp only
      rw [rev_take h6, ← hi6.2.2]
    · omega
  · refine LWp.exit ?_
    simp
    refine LWp.seq ?_
    have hac : acc = D.reverse := by rw [hi6.2.2, List.take_of_length_le (by simp; omega)]
    refine LWp.weak (Weak.close 12 (x := dfsD acc) (by simp)) ?_
    rw [hac, ← hR]
    refine LWp.reg hT hW (fun | 60 => some <| .plain ⟨.d (nmsD S), true⟩ | 61 => some <| .plain ⟨.tup [.d (nmsD set), .d (I64 0)], true⟩ | _ => none) (by intro d; first | exact ⟨rfl, fun _ h => h⟩ | (split <;> exact ⟨rfl, fun _ h => h⟩)) ?_
    simp [evalExtract]
    refine ⟨⟨s1, c1⟩, ?_⟩
    refine LWp.seq ?_
    refine LWp.reg hT hW (fun | 68 => some <| .plain ⟨.d (nmsD S), true⟩ | 69 => some <| .plain ⟨.tup [.d (nmsD set), .d (I64 0)], true⟩ | _ => none) (by intro d; first | exact ⟨rfl, fun _ h => h⟩ | (split <;> exact ⟨rfl, fun _ h => h⟩)) ?_
    simp [evalExtract]
    refine ⟨⟨s1, c2⟩, ?_⟩
    refine LWp.seq ?_
    refine LWp.reg hT hW (fun | 75 => some <| .plain ⟨.tup [.d (nmsD x), .d (I64 0)], true⟩ | _ => none) (by intro d; first | exact ⟨rfl, fun _ h => h⟩ | (split <;> exact ⟨rfl, fun _ h => h⟩)) ?_
    simp [evalExtract]
    refine ⟨o1, ?_⟩
    refine LWp.seq ?_
    refine LWp.reg hT hW (fun | 85 => some <| .plain ⟨.tup [.d (nmsD x), .d (I64 0)], true⟩ | _ => none) (by intro d; first | exact ⟨rfl, fun _ h => h⟩ | (split <;> exact ⟨rfl, fun _ h => h⟩)) ?_
    simp [evalExtract]
    refine ⟨⟨⟨by omega, by omega⟩, by rw [List.take_of_length_le (by simp)]; simpa using o2⟩, ?_⟩
    refine LWp.seq ?_
    refine LWp.seq ?_
    refine LWp.reg hT hW (fun | 105 => some <| .plain ⟨.d (.bool true), true⟩ | 111 => some <| .plain ⟨.d (.bool true), true⟩ | 124 => some <| .plain ⟨.d (.bool true), true⟩ | _ => none) (by intro d; first | exact ⟨rfl, fun _ h => h⟩ | (split <;> exact ⟨rfl, fun _ h => h⟩)) ?_
    simp [hxl]
    refine ⟨⟨⟨samen set, samen x⟩, wx⟩, ?_⟩
    refine LWp.iff ?_
    simp
    refine LWp.skip ?_
    simp
    refine LWp.seq ?_
    refine LWp.seq ?_
    refine LWp.reg hT hW (fun _ => none) (fun _ => ⟨rfl, fun _ h => h⟩) ?_
    simp
    refine LWp.block ?_
    refine LWp.loopW (ι := Nat) (fun i => mkEnv [(9, .d (edsD a)), (10, .d (edsD b)), (11, .d (dfsD D)), (12, .d (dfsD R)), (14, .d (nmsD set)), (18, .d (nmsD x)), (22, .d (I64 i))]) (fun i => mkObs []) (fun i => i ≤ x.length) (fun i => x.length - i) 0 (Weak.to [9, 10, 11, 12, 14, 18, 22] [] (by decide) (by decide) (by simp [hp]) (by simp) (by simp)) (by simp) fun i hi16 => ?_
    refine LWp.seq ?_
    refine LWp.seq ?_
    refine LWp.reg hT hW (fun _ => none) (fun _ => ⟨rfl, fun _ h => h⟩) ?_
    simp
    refine LWp.iff ?_
    simp
    refine ⟨fun h16 => ?_, fun h16 => ?_⟩
    · refine LWp.skip ?_
      simp
      refine LWp.seq ?_
      refine LWp.block ?_
      refine LWp.seq ?_
      obtain ⟨k0, hk0, hfe, hee⟩ := edAt_of (hxf x[i] (List.getElem_mem h16))
      have hfi := EFind_ok a x[i]
      rw [hfe] at hfi
      have hne : needsOf a x[i] = a[k0].needs := by
        unfold findI at hfe
        unfold needsOf
        cases q : find? a x[i] with
        | none => rw [q] at hfe; simp at hfe
        | some m =>
          rw [q] at hfe
          have : m = k0 := by have h0 : (m : Int) = (k0 : Int) := hfe; omega
          subst this
          simp [hk0]
      have wn := within_ok a[k0].needs (x.take i)
      rw [all_in fun m hm => hch i h16 m (by rw [hne]; exact hm)] at wn
      refine LWp.reg hT hW (fun | 138 => some <| .plain ⟨.d (I64 k0), true⟩ | _ => none) (by intro d; first | exact ⟨rfl, fun _ h => h⟩ | (split <;> exact ⟨rfl, fun _ h => h⟩)) ?_
      simp [h16]
      refine ⟨hfi, ?_⟩
      refine LWp.seq ?_
      refine LWp.seq ?_
      refine LWp.reg hT hW (fun _ => none) (fun _ => ⟨rfl, fun _ h => h⟩) ?_
      simp [(show ¬ a.length ≤ k0 by omega)]
      refine LWp.iff ?_
      simp [(show ¬ (k0 : Int) < 0 by omega)]
      refine LWp.skip ?_
      simp
      refine LWp.seq ?_
      refine LWp.regAny hT hW hMixed (lk [[], [], [0, 1], [0, 1, 2], [0, 1, 2, 3], [], [], [5, 6], [0, 1, 2, 3, 4, 5, 6, 7], [0, 1, 2, 3, 4, 5, 6, 7, 8]]) (lk [[], [], [], [], [], [], [], [], [], []]) (lk [[], [], [], [], [], [], [], [], [155], []]) (by kernel_rfl) (fun | 155 => some <| .plain ⟨.d (.bool true), true⟩ | _ => none) (by intro d; first | exact ⟨rfl, fun _ h => h⟩ | (split <;> exact ⟨rfl, fun _ h => h⟩)) ?_
      simp [hk0]
      refine ⟨⟨by omega, by simpa [nmsD] using wn⟩, ?_⟩
      refine LWp.iff ?_
      simp
      refine LWp.skip ?_
      simp
      refine LWp.reg hT hW (fun _ => none) (fun _ => ⟨rfl, fun _ h => h⟩) ?_
      simp
      refine ⟨by omega, ?_⟩
      refine loopQ.mk (i + 1) (Weak.to [9, 10, 11, 12, 14, 18, 22] [] (by decide) (by decide) (by simp [hp]) (by simp) (by simp)) ?_ ?_
      · omega
      · omega
    · refine LWp.exit ?_
      simp
      refine LWp.seq ?_
      refine LWp.reg hT hW (fun | 161 => some <| .plain ⟨.tup [.d (dfsD p), .d (I64 j)], true⟩ | _ => none) (by intro d; first | exact ⟨rfl, fun _ h => h⟩ | (split <;> exact ⟨rfl, fun _ h => h⟩)) ?_
      simp [evalExtract]
      refine ⟨p1, ?_⟩
      refine LWp.seq ?_
      refine LWp.reg hT hW (fun | 168 => some <| .plain ⟨.tup [.d (dfsD p), .d (I64 j)], true⟩ | _ => none) (by intro d; first | exact ⟨rfl, fun _ h => h⟩ | (split <;> exact ⟨rfl, fun _ h => h⟩)) ?_
      simp [evalExtract]
      refine ⟨p2, ?_⟩
      refine LWp.seq ?_
      refine LWp.seq ?_
      refine LWp.reg hT hW (fun | 177 => some <| .plain ⟨.d (.bool true), true⟩ | _ => none) (by intro d; first | exact ⟨rfl, fun _ h => h⟩ | (split <;> exact ⟨rfl, fun _ h => h⟩)) ?_
      simp
      refine ⟨samed p, ?_⟩
      refine LWp.iff ?_
      simp
      refine LWp.skip ?_
      simp
      refine LWp.seq ?_
      refine LWp.reg hT hW (fun _ => none) (fun _ => ⟨rfl, fun _ h => h⟩) ?_
      simp [(show [0, 1, 2, 3, 4] = List.range 5 from rfl)]
      refine LWp.weak (Weak.close 28 (x := strsD fiveS) (by simp [fiveS])) ?_
      refine LWp.seq ?_
      refine LWp.seq ?_
      refine LWp.reg hT hW (fun _ => none) (fun _ => ⟨rfl, fun _ h => h⟩) ?_
      simp
      refine LWp.block ?_
      refine LWp.loopW (ι := Nat) (fun i => mkEnv [(9, .d (edsD a)), (11, .d (dfsD D)), (14, .d (nmsD set)), (24, .d (dfsD p)), (25, .d (I64 j)), (28, .d (strsD fiveS)), (29, .d (I64 i))]) (fun i => mkObs []) (fun i => i ≤ 5) (fun i => 5 - i) 0 (Weak.to [9, 11, 14, 24, 25, 28, 29] [] (by decide) (by decide) (by simp [hp]) (by simp) (by simp)) (by simp) fun i hi29 => ?_
      refine LWp.seq ?_
      refine LWp.seq ?_
      have h5 : fiveS.length = 5 := rfl
      refine LWp.reg hT hW (fun _ => none) (fun _ => ⟨rfl, fun _ h => h⟩) ?_
      simp [h5]
      refine LWp.iff ?_
      simp
      refine ⟨fun h29 hj0 => ?_, fun h29 => ?_⟩
      · refine LWp.skip ?_
        simp
        refine LWp.seq ?_
        refine LWp.block ?_
        refine LWp.seq ?_
        have hi5 : i < fiveS.length := by rw [h5]; omega
        obtain ⟨s, hs⟩ : ∃ s, s = fiveS[i] := ⟨_, rfl⟩
        have hls := last_ok a set s has (by omega)
        have hts := text_ok D s
        have htp := text_ok p s
        have hla := hlast hj0 s
        have hl2 : ¬ lastV a set s = -2 := by
          rcases hla with ⟨h, _⟩ | ⟨k, _, h, _⟩ <;> omega
        refine LWp.reg hT hW (fun | 197 => some <| .plain ⟨.d (I64 (lastV a set s)), true⟩ | _ => none) (by intro d; first | exact ⟨rfl, fun _ h => h⟩ | (split <;> exact ⟨rfl, fun _ h => h⟩)) ?_
        simp [hi5, ← hs]
        refine ⟨hls, ?_⟩
        refine LWp.seq ?_
        refine LWp.reg hT hW (fun | 203 => some <| .plain ⟨.d (.str (textOf D s)), true⟩ | _ => none) (by intro d; first | exact ⟨rfl, fun _ h => h⟩ | (split <;> exact ⟨rfl, fun _ h => h⟩)) ?_
        simp [hi5, ← hs]
        refine ⟨hts, ?_⟩
        refine LWp.seq ?_
        refine LWp.seq ?_
        refine LWp.reg hT hW (fun _ => none) (fun _ => ⟨rfl, fun _ h => h⟩) ?_
        simp [hl2]
        refine LWp.iff ?_
        simp
        refine LWp.skip ?_
        simp
        refine LWp.seq ?_
        refine LWp.seq ?_
        refine LWp.reg hT hW (fun _ => none) (fun _ => ⟨rfl, fun _ h => h⟩) ?_
        simp
        refine LWp.iff ?_
        simp
        refine ⟨fun h35 => ?_, fun h35 => ?_⟩
        · obtain ⟨k, hk, hlk, htx⟩ : ∃ k, ∃ hk : k < a.length, lastV a set s = (k : Int) ∧ textOf p s = textOf a[k].puts s := by
            rcases hla with ⟨h, _⟩ | h
            · omega
            · exact h
          have htk := text_ok a[k].puts s
          refine LWp.regAny hT hW hMixed (lk [[], [], [0, 1], [0, 1, 2], [0, 1, 2, 3], [], [], [5, 6], [5, 6, 7], [0, 1, 2, 3, 4, 5, 6, 7, 8], [0, 1, 2, 3, 4, 5, 6, 7, 8, 9]]) (lk [[], [], [], [], [], [], [], [], [], [], []]) (lk [[], [], [], [], [], [], [], [], [], [217], []]) (by kernel_rfl) (fun | 217 => some <| .plain ⟨.d (.str (textOf a[k].puts s)), true⟩ | _ => none) (by intro d; first | exact ⟨rfl, fun _ h => h⟩ | (split <;> exact ⟨rfl, fun _ h => h⟩)) ?_
          simp [hlk, hk, hi5, ← hs]
          refine ⟨htk, ?_⟩
          refine LWp.seq ?_
          refine LWp.reg hT hW (fun | 223 => some <| .plain ⟨.d (.str (textOf p s)), true⟩ | _ => none) (by intro d; first | exact ⟨rfl, fun _ h => h⟩ | (split <;> exact ⟨rfl, fun _ h => h⟩)) ?_
          simp [hi5, ← hs, htx]
          refine ⟨by rw [← htx]; exact htp, ?_⟩
          refine LWp.iff ?_
          simp
          refine LWp.skip ?_
          simp
          refine LWp.reg hT hW (fun _ => none) (fun _ => ⟨rfl, fun _ h => h⟩) ?_
          simp
          refine ⟨by omega, ?_⟩
          refine loopQ.mk (i + 1) (Weak.to [9, 11, 14, 24, 25, 28, 29] [] (by decide) (by decide) (by simp [hp]) (by simp) (by simp)) ?_ ?_
          · omega
          · omega
        · have htx : textOf p s = textOf D s := by
            rcases hla with ⟨_, h⟩ | ⟨k, _, h, _⟩
            · exact h
            · omega
          refine LWp.skip ?_
          simp
          refine LWp.seq ?_
          refine LWp.reg hT hW (fun | 223 => some <| .plain ⟨.d (.str (textOf p s)), true⟩ | _ => none) (by intro d; first | exact ⟨rfl, fun _ h => h⟩ | (split <;> exact ⟨rfl, fun _ h => h⟩)) ?_
          simp [hi5, ← hs, htx]
          refine ⟨by rw [← htx]; exact htp, ?_⟩
          refine LWp.iff ?_
          simp
          refine LWp.skip ?_
          simp
          refine LWp.reg hT hW (fun _ => none) (fun _ => ⟨rfl, fun _ h => h⟩) ?_
          simp
          refine ⟨by omega, ?_⟩
          refine loopQ.mk (i + 1) (Weak.to [9, 11, 14, 24, 25, 28, 29] [] (by decide) (by decide) (by simp [hp]) (by simp) (by simp)) ?_ ?_
          · omega
          · omega
      · refine LWp.exit ?_
        simp
        refine LWp.seq ?_
        refine LWp.reg hT hW (fun | 233 => some <| .plain ⟨.d (.bool true), true⟩ | _ => none) (by intro d; first | exact ⟨rfl, fun _ h => h⟩ | (split <;> exact ⟨rfl, fun _ h => h⟩)) ?_
        simp
        refine ⟨fun _ => lives_ok, ?_⟩
        refine LWp.ret ?_
        simp [hj]

end Go.Eng
