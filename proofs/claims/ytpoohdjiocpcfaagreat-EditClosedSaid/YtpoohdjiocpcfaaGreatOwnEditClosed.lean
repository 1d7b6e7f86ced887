/-
  Texts of the proof of EditClosed, part 7. No condition.
-/
import Derived.Test.YtpoohdjiocpcfaaGreatMF
set_option linter.unusedVariables false
set_option linter.unusedSimpArgs false
/-
  Chapter 22: EditClosed. No condition.
-/
namespace Go.Eng
open Go.Proofs
attribute [local simp] runL stepL evalG evalOp opLV constLV putEnv dstOk upd upds Res.plain Res.cond Res.fail evalBin evalUn seqQ blockQ argsEnv lookL lookH RetIs memless freshL evalPick evalMin bval bok evalLen evalIn strip whenC guardOps guardC slotsOf
  runM foldS stepI stepM maskE wrIn lk renO lookN evalCall evalCallee optAll resLV resObj retLV retObj retsLV retsObj evalLoad evalIndexAddr evalField solid cellsD_agg cellsD_int cellsD_bool cellsD_str cellsD_sl cellsD_ro cellsD_fn cellsL_agg cellsL_dagg cellsL_int cellsL_bool cellsL_str cellsL_sl cellsL_fn cellsL_ow cellsL_bx cellsL_lfn cellsL_nl takeL takeD mkAgg allD eqD eqDs kindsAre kindIs LObj.live TK.isNone TK.agg TK.isBool TK.isStr TK.isStruct Op.operands Call.operands
  evalBuildSlice evalAppend elemsOf evalStore evalBuild fillL lookupF putL evalSlice bound evalConv elemsS freezes frozen loadR
  mkEnv_at mkObs_at close_d close_agg close_ow close_bx close_fn close_nl touch_d touch_agg touch_ow touch_bx touch_fn touch_nl ren_d ren_agg ren_bx ren_rp ren_ow ren_fn ren_nl ren_junk retQ_ret retQ2_ret condQ_bool Nm.d Df.d Ed.d nmsD dfsD strsD edsD retC_ret nm_eq df_eq take_map_len take_map_app
  nm_t nm_d nm_td df_t df_d df_td str_t str_d str_td ed_t ed_d ed_td
  evalAppendIn evalCut evalClear evalCopy evalMake evalWrap evalCap evalNil isNilC lenL isInp gorc
  mapOf findD keyEq keyOk evalMakeMap evalRange zeroD zeroDV argsG shutG outN lenv retG0_ret retG0_normal retG1_ret renO close_mp touch_mp ren_mp optAll_d optAll_d' touch_ds cellsL_mp cellsD_mp cellsL_dmp

theorem all_in {x y : List Nm} (h : ∀ n ∈ x, n ∈ y) : (x.all fun n => decide (n ∈ y)) = true := List.all_eq_true.2 fun n hn => decide_eq_true (h n hn)
theorem clo_len {l : List Ed} (h : (validV l).2 = 0) {S : List Nm} (hS : ∀ n ∈ S, n ∈ l.map Ed.name) : (cloN l S).length ≤ S.length + S.length * (2 * (allNeeds l).length) := by
  have hf : ∀ T : List Nm, (T.flatMap (aboveL l)).length ≤ T.length * (2 * (allNeeds l).length) := fun T => flat_le fun n _ => by have := aboveL_len l n; omega
  have h1 := sortN_len (S ++ S.flatMap (aboveL l))
  have h2 := hf S
  unfold cloN
  rw [List.length_append] at h1
  omega

/-- culprit/culpritlaw22.EditClosed -/
theorem EditClosed_ok (l : List Int) (one two : Int) (hr : ∀ n ∈ l, -9223372036854775808 ≤ n ∧ n ≤ 9223372036854775807) (q1 : -9223372036854775808 ≤ one ∧ one ≤ 9223372036854775807) (q2 : -9223372036854775808 ≤ two ∧ two ≤ 9223372036854775807) : Ok Tryz.prog 6 [.sl (l.map I64), I64 one, I64 two] ⟨.d (.bool true), true⟩ := by
  refine Ok.ret Tryz.func6 (by kernel_rfl) (c := _) rfl Tryz.ntmps6 (by simp) Tryz.results6 (by intro _ h; cases h) fun w0 X hp => ?_
  have hal := madeL_len l
  have han := made_needs l
  have has := made_small l
  have hmo := Made_ok l hr
  have hv : (validV (madeL l)).2 = 0 := by rw [made_valid]
  obtain ⟨a, haa⟩ : ∃ a, a = madeL l := ⟨_, rfl⟩
  rw [← haa] at hal han has hmo hv
  clear haa
  obtain ⟨S1, hS1⟩ : ∃ S, S = someN a one := ⟨_, rfl⟩
  obtain ⟨S2, hS2⟩ : ∃ S, S = someN a two := ⟨_, rfl⟩
  have s1 := Some_ok a one (by omega) q1.1 q1.2
  have s2 := Some_ok a two (by omega) q2.1 q2.2
  have l1 := someN_len a one
  have l2 := someN_len a two
  have u1 : ∀ n ∈ S1, n ∈ a.map Ed.name := fun n hn => someN_sub (hS1 ▸ hn)
  have u2 : ∀ n ∈ S2, n ∈ a.map Ed.name := fun n hn => someN_sub (hS2 ▸ hn)
  rw [← hS1] at s1 l1
  rw [← hS2] at s2 l2
  have c1 := (EClosure_ok a S1 (by omega) (by omega)).own2_d
  have c2 := (EClosure_ok a S2 (by omega) (by omega)).own2_d
  rw [closureV_ok hv u1] at c1
  rw [closureV_ok hv u2] at c2
  have x1 := closure_closed hv u1
  have x2 := closure_closed hv u2
  have b1 := clo_len hv u1
  have b2 := clo_len hv u2
  have m1 : ∀ n ∈ S1, n ∈ cloN a S1 := fun n hn => mem_cloN.2 (.inl hn)
  have least : ∀ z, closedB a z = true → (∀ n ∈ S1, n ∈ z) → ∀ n ∈ cloN a S1, n ∈ z := fun z h1 h2 n hn => cloN_least h1 h2 hn
  obtain ⟨x, hx⟩ : ∃ x, x = cloN a S1 := ⟨_, rfl⟩
  obtain ⟨y, hy⟩ : ∃ y, y = cloN a S2 := ⟨_, rfl⟩
  rw [← hx] at c1 x1 b1 m1 least
  rw [← hy] at c2 x2 b2
  clear hx hy hS1 hS2
  have k1 : S1.length * (2 * (allNeeds a).length) ≤ 6 * 72 := Nat.mul_le_mul (by omega) (by omega)
  have k2 : S2.length * (2 * (allNeeds a).length) ≤ 6 * 72 := Nat.mul_le_mul (by omega) (by omega)
  have e1 := EClosed_ok a x
  have e2 := EClosed_ok a y
  rw [x1] at e1
  rw [x2] at e2
  have w1 := within_ok S1 x
  rw [all_in m1] at w1
  refine LWp.seq ?_
  refine LWp.reg hT hW (fun _ => none) (fun _ => ⟨rfl, fun _ h => h⟩) ?_
  simp
  refine LWp.seq ?_
  refine LWp.reg hT hW (fun | 17 => some <| .plain ⟨.d (edsD a), false⟩ | _ => none) (by intro d; first | exact ⟨rfl, fun _ h => h⟩ | (split <;> exact ⟨rfl, fun _ h => h⟩)) ?_
  simp
  refine ⟨hmo, ?_⟩
  refine LWp.seq ?_
  refine LWp.reg hT hW (fun | 22 => some <| .plain ⟨.d (nmsD S1), true⟩ | 23 => some <| .plain ⟨.tup [.d (nmsD x), .d (I64 0)], true⟩ | _ => none) (by intro d; first | exact ⟨rfl, fun _ h => h⟩ | (split <;> exact ⟨rfl, fun _ h => h⟩)) ?_
  simp [evalExtract]
  refine ⟨⟨s1, c1⟩, ?_⟩
  refine LWp.seq ?_
  refine LWp.reg hT hW (fun | 30 => some <| .plain ⟨.d (nmsD S2), true⟩ | 31 => some <| .plain ⟨.tup [.d (nmsD y), .d (I64 0)], true⟩ | _ => none) (by intro d; first | exact ⟨rfl, fun _ h => h⟩ | (split <;> exact ⟨rfl, fun _ h => h⟩)) ?_
  simp [evalExtract]
  refine ⟨⟨s2, c2⟩, ?_⟩
  refine LWp.seq ?_
  refine LWp.seq ?_
  refine LWp.reg hT hW (fun | 43 => some <| .plain ⟨.d (.bool true), true⟩ | 49 => some <| .plain ⟨.d (.bool true), true⟩ | 55 => some <| .plain ⟨.d (nmsD S1), true⟩ | 57 => some <| .plain ⟨.d (.bool true), true⟩ | _ => none) (by intro d; first | exact ⟨rfl, fun _ h => h⟩ | (split <;> exact ⟨rfl, fun _ h => h⟩)) ?_
  simp
  refine ⟨⟨⟨⟨e1, e2⟩, s1⟩, w1⟩, ?_⟩
  refine LWp.iff ?_
  simp
  refine LWp.skip ?_
  simp
  refine LWp.seq ?_
  refine LWp.reg hT hW (fun _ => none) (fun _ => ⟨rfl, fun _ h => h⟩) ?_
  simp
  refine LWp.seq ?_
  refine LWp.seq ?_
  refine LWp.reg hT hW (fun _ => none) (fun _ => ⟨rfl, fun _ h => h⟩) ?_
  simp
  refine LWp.block ?_
  refine LWp.loopW (ι := Nat × List Nm) (fun ⟨i, acc⟩ => mkEnv [(1, .d (I64 one)), (7, .d (edsD a)), (8, .d (nmsD x)), (10, .d (nmsD y)), (12, .ow 12 0 acc.length), (13, .d (I64 i))]) (fun ⟨i, acc⟩ => mkObs [(12, .row false 2 (acc.map Nm.d))]) (fun ⟨i, acc⟩ => i ≤ x.length ∧ acc.length ≤ i ∧ acc = (x.take i).filter fun n => decide (n ∈ y)) (fun ⟨i, acc⟩ => x.length - i) (0, []) (Weak.to [1, 7, 8, 10, 12, 13] [(12, 12)] (by decide) (by decide) (by simp [hp]) (by simp) (by simp)) (by simp) fun ⟨i, acc⟩ hi8 => ?_
  refine LWp.seq ?_
  refine LWp.seq ?_
  refine LWp.reg hT hW (fun _ => none) (fun _ => ⟨rfl, fun _ h => h⟩) ?_
  simp
  refine LWp.iff ?_
  simp
  refine ⟨fun h8 => ?_, fun h8 => ?_⟩
  · refine LWp.skip ?_
    simp
    refine LWp.seq ?_
    refine LWp.block ?_
    refine LWp.seq ?_
    refine LWp.reg hT hW (fun | 71 => some <| .plain ⟨.d (.bool (decide (x[i] ∈ y))), true⟩ | _ => none) (by intro d; first | exact ⟨rfl, fun _ h => h⟩ | (split <;> exact ⟨rfl, fun _ h => h⟩)) ?_
    simp [h8]
    refine ⟨Has_ok y _, ?_⟩
    refine LWp.iff ?_
    simp
    refine ⟨fun h10 => ?_, fun h10 => ?_⟩
    · refine LWp.reg hT hW (fun _ => none) (fun _ => ⟨rfl, fun _ h => h⟩) ?_
      simp [h8]
      refine ⟨by have := hi8.2.1; omega, ?_⟩
      refine LWp.reg hT hW (fun _ => none) (fun _ => ⟨rfl, fun _ h => h⟩) ?_
      simp
      refine ⟨by omega, ?_⟩
      refine loopQ.mk (i + 1, acc ++ [x[i]]) (Weak.to [1, 7, 8, 10, 12, 13] [(78, 12)] (by decide) (by decide) (by simp [hp]) (by simp) (by simp)) ?_ ?_
      · refine ⟨h8, by have := hi8.2.1; simp; omega, ?_⟩
        dsimp only
        rw [filter_take_succ h8, ← hi8.2.2]; simp [h10]
      · omega
    · refine LWp.skip ?_
      simp
      refine LWp.reg hT hW (fun _ => none) (fun _ => ⟨rfl, fun _ h => h⟩) ?_
      simp
      refine ⟨by omega, ?_⟩
      refine loopQ.mk (i + 1, acc) (Weak.to [1, 7, 8, 10, 12, 13] [(12, 12)] (by decide) (by decide) (by simp [hp]) (by simp) (by simp)) ?_ ?_
      · refine ⟨h8, by have := hi8.2.1; dsimp only; omega, ?_⟩
        dsimp only
        rw [filter_take_succ h8, ← hi8.2.2]; simp [h10]
      · omega
  · refine LWp.exit ?_
    simp
    refine LWp.seq ?_
    refine LWp.seq ?_
    have hac : acc = x.filter fun n => decide (n ∈ y) := by rw [hi8.2.2, List.take_of_length_le (by omega)]
    have e3 := EClosed_ok a acc
    have e4 := EClosed_ok a (x ++ y)
    rw [closed_app x1 x2] at e4
    rw [show closedB a acc = true by rw [hac]; exact closed_common x1 x2] at e3
    refine LWp.reg hT hW (fun | 81 => some <| .plain ⟨.d (.bool true), true⟩ | 90 => some <| .plain ⟨.d (.bool true), true⟩ | _ => none) (by intro d; first | exact ⟨rfl, fun _ h => h⟩ | (split <;> exact ⟨rfl, fun _ h => h⟩)) ?_
    simp
    refine ⟨⟨⟨⟨e3, by omega⟩, by omega⟩, by rw [List.take_of_length_le (by simp)]; simpa using e4⟩, ?_⟩
    refine LWp.iff ?_
    simp
    refine LWp.skip ?_
    simp
    refine LWp.seq ?_
    refine LWp.seq ?_
    refine LWp.reg hT hW (fun _ => none) (fun _ => ⟨rfl, fun _ h => h⟩) ?_
    simp
    refine LWp.block ?_
    refine LWp.loopW (ι := Nat) (fun s => mkEnv [(1, .d (I64 one)), (7, .d (edsD a)), (8, .d (nmsD x)), (14, .d (I64 s))]) (fun s => mkObs []) (fun s => s ≤ 64) (fun s => 64 - s) 0 (Weak.to [1, 7, 8, 14] [] (by decide) (by decide) (by simp [hp]) (by simp) (by simp)) (by simp) fun s hi15 => ?_
    refine LWp.seq ?_
    refine LWp.seq ?_
    have hif : (if (6 : Int) < (a.length : Int) then (6 : Int) else (a.length : Int)) = (a.length : Int) := if_neg (by omega)
    have hmw := u64_nat (k := a.length) (by omega)
    have hk64 : min a.length 64 = a.length := by omega
    refine LWp.reg hT hW (fun _ => none) (fun _ => ⟨rfl, fun _ h => h⟩) ?_
    simp [hif, hmw, IntKind.bits, hk64]
    refine LWp.iff ?_
    simp
    refine ⟨fun h15 _ => ?_, fun h15 => ?_⟩
    · refine LWp.skip ?_
      simp
      refine LWp.seq ?_
      refine LWp.block ?_
      refine LWp.seq ?_
      obtain ⟨z, hz⟩ : ∃ z, z = someN a (s : Int) := ⟨_, rfl⟩
      have sz := Some_ok a (s : Int) (by omega) (by omega) (by omega)
      rw [← hz] at sz
      refine LWp.reg hT hW (fun | 108 => some <| .plain ⟨.d (nmsD z), true⟩ | _ => none) (by intro d; first | exact ⟨rfl, fun _ h => h⟩ | (split <;> exact ⟨rfl, fun _ h => h⟩)) ?_
      simp
      refine ⟨sz, ?_⟩
      refine LWp.seq ?_
      have hkey : closedB a z = true → (S1.all fun n => decide (n ∈ z)) = true → (x.all fun n => decide (n ∈ z)) = true := fun h1 h2 => all_in (least z h1 fun n hn => by simpa using List.all_eq_true.1 h2 n hn)
      refine LWp.reg hT hW (fun | 111 => some <| .plain ⟨.d (.bool (closedB a z)), true⟩ | 115 => some <| .plain ⟨.d (nmsD S1), true⟩ | 117 => some <| .plain ⟨.d (.bool (S1.all fun n => decide (n ∈ z))), true⟩ | 122 => some <| .plain ⟨.d (.bool (x.all fun n => decide (n ∈ z))), true⟩ | _ => none) (by intro d; first | exact ⟨rfl, fun _ h => h⟩ | (split <;> exact ⟨rfl, fun _ h => h⟩)) ?_
      simp
      refine ⟨⟨⟨⟨EClosed_ok a z, fun _ => s1⟩, fun _ => within_ok S1 z⟩, fun _ _ => within_ok x z⟩, ?_⟩
      refine LWp.iff ?_
      simp
      refine ⟨fun g1 g2 n hn hz => absurd (least z g1 g2 n hn) hz, fun h18 => ?_⟩
      refine LWp.skip ?_
      simp
      refine LWp.reg hT hW (fun _ => none) (fun _ => ⟨rfl, fun _ h => h⟩) ?_
      simp
      refine ⟨by omega, ?_⟩
      refine loopQ.mk (s + 1) (Weak.to [1, 7, 8, 14] [] (by decide) (by decide) (by simp [hp]) (by simp) (by simp)) ?_ ?_
      · omega
      · omega
    · refine LWp.exit ?_
      simp
      refine LWp.seq ?_
      refine LWp.reg hT hW (fun | 125 => some <| .plain ⟨.d (.bool true), true⟩ | _ => none) (by intro d; first | exact ⟨rfl, fun _ h => h⟩ | (split <;> exact ⟨rfl, fun _ h => h⟩)) ?_
      simp
      refine ⟨lives_ok, ?_⟩
      refine LWp.ret ?_
      simp

end Go.Eng
