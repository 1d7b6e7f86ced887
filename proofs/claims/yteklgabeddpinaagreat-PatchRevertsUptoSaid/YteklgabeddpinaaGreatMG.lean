/-
  Texts of the proofs of this seat, part 7. No condition.
-/
import Derived.Test.YteklgabeddpinaaGreatMF
set_option linter.unusedVariables false
set_option linter.unusedSimpArgs false
namespace Go.Eng
open Go.Proofs
attribute [local simp] runL stepL evalG evalOp opLV constLV putEnv dstOk upd upds Res.plain Res.cond Res.fail evalBin evalUn seqQ blockQ argsEnv lookL lookH RetIs memless freshL evalPick evalMin bval bok evalLen evalIn strip whenC guardOps guardC slotsOf
  runM foldS stepI stepM maskE wrIn lk renO lookN evalCall evalCallee optAll resLV resObj retLV retObj retsLV retsObj evalLoad evalIndexAddr evalField solid cellsD_agg cellsD_int cellsD_bool cellsD_str cellsD_sl cellsD_ro cellsD_fn cellsL_agg cellsL_dagg cellsL_int cellsL_bool cellsL_str cellsL_sl cellsL_fn cellsL_ow cellsL_bx cellsL_lfn cellsL_nl takeL takeD mkAgg allD eqD eqDs kindsAre kindIs LObj.live TK.isNone TK.agg TK.isBool TK.isStr TK.isStruct Op.operands Call.operands
  evalBuildSlice evalAppend elemsOf evalStore evalBuild fillL lookupF putL evalSlice bound evalConv elemsS freezes frozen loadR
  mkEnv_at mkObs_at close_d close_agg close_ow close_bx close_fn close_nl touch_d touch_agg touch_ow touch_bx touch_fn touch_nl ren_d ren_agg ren_bx ren_rp ren_ow ren_fn ren_nl ren_junk retQ_ret retQ2_ret condQ_bool Nm.d Df.d Ed.d nmsD dfsD strsD edsD retC_ret nm_eq df_eq take_map_len take_map_app
  nm_t nm_d nm_td df_t df_d df_td str_t str_d str_td ed_t ed_d ed_td
  evalAppendIn evalCut evalClear evalCopy evalMake evalWrap evalCap evalNil isNilC lenL isInp gorc
  mapOf findD keyEq keyOk evalMakeMap evalRange zeroD zeroDV argsG shutG outN lenv retG0_ret retG0_normal retG1_ret renO close_mp touch_mp ren_mp optAll_d optAll_d' touch_ds cellsL_mp cellsD_mp cellsL_dmp
  evalMapSet evalPtr TK.isPtr evalToArr firstL retN_ret retsQ rvarL close_bm touch_bm ren_bm cellsD_bm cellsL_bm cellsL_lbm
theorem Order_ok (l : List Ed) (set : List Nm) (hs : small l) (hn : (allNeeds l).length ≤ 1100000) (hl : set.length ≤ 1100000) : Ok Tryz.prog 117 [edsD l, nmsD set] ⟨.tup [.d (nmsD (orderV l set).1), .d (I64 (orderV l set).2)], true⟩ := by
  refine Ok.two Tryz.func117 (by kernel_rfl) (c := _) rfl Tryz.ntmps117 (by simp) Tryz.results117 rfl fun w0 X hp => ?_
  refine LWp.seq ?_
  refine LWp.rz hT hW ?_
  simp
  refine LWp.seq ?_
  refine LWp.ro hT hW (fun | 13 => some <| .plain ⟨.tup [.d (I64 (validV l).1), .d (I64 (validV l).2)], true⟩ | _ => none) ?_
  simp [evalExtract]
  refine ⟨Valid_ok l hs hn, ?_⟩
  refine LWp.seq ?_
  refine LWp.seq ?_
  refine LWp.rz hT hW ?_
  simp
  refine LWp.iff ?_
  simp
  refine ⟨fun h2 => ?_, fun h2 => ?_⟩
  · refine LWp.seq ?_
    refine LWp.rz hT hW ?_
    simp
    refine LWp.ret ?_
    simp [orderV, h2]
  · refine LWp.skip ?_
    simp
    refine LWp.seq ?_
    refine LWp.seq ?_
    refine LWp.ro hT hW (fun | 21 => some <| .plain ⟨.d (.bool (closedB l set)), true⟩ | _ => none) ?_
    simp
    refine ⟨Closed_ok l set hn (by omega), ?_⟩
    refine LWp.iff ?_
    simp
    refine ⟨fun h4 => ?_, fun h4 => ?_⟩
    · refine LWp.seq ?_
      refine LWp.rz hT hW ?_
      simp
      refine LWp.ret ?_
      simp [orderV, h2, h4]
    · refine LWp.skip ?_
      simp
      refine LWp.seq ?_
      have hal := sortN_len set
      refine LWp.ro hT hW (fun | 24 => some <| .plain ⟨.d (nmsD (sortN set)), true⟩ | _ => none) ?_
      simp
      refine ⟨Sort_ok set hl, ?_⟩
      refine LWp.seq ?_
      refine LWp.rz hT hW ?_
      simp
      refine LWp.seq ?_
      refine LWp.block ?_
      refine LWp.loopW (ι := List Nm) (fun out => mkEnv [(0, .d (edsD l)), (8, .d (nmsD (sortN set))), (9, .ow 9 0 out.length)]) (fun out => mkObs [(9, .row false 2 (out.map Nm.d))]) (fun out => OrdI l set out) (fun out => (sortN set).length - out.length) [] (Weak.to [0, 8, 9] [(9, 9)] (by decide) (by decide) (by simp [hp]) (by simp) (by simp)) (OrdI.start (by simpa using h4)) fun out hi8 => ?_
      refine LWp.seq ?_
      refine LWp.seq ?_
      refine LWp.rz hT hW ?_
      simp
      refine LWp.iff ?_
      simp
      refine ⟨fun h8 => ?_, fun h8 => ?_⟩
      · refine LWp.skip ?_
        simp
        refine LWp.block ?_
        refine LWp.seq ?_
        refine LWp.rz hT hW ?_
        simp
        refine LWp.block ?_
        refine LWp.loopW (ι := Nat) (fun i => mkEnv [(0, .d (edsD l)), (8, .d (nmsD (sortN set))), (9, .ow 9 0 out.length), (10, .d (I64 i))]) (fun i => mkObs [(9, .row false 2 (out.map Nm.d))]) (fun i => i ≤ (sortN set).length ∧ ∀ (j : Nat) (h : j < (sortN set).length), j < i → (sortN set)[j] ∈ out ∨ readyN l out (sortN set)[j] = false) (fun i => (sortN set).length - i) 0 (Weak.to [0, 8, 9, 10] [(9, 9)] (by decide) (by decide) (by simp [hp]) (by simp) (by simp)) (⟨Nat.zero_le _, fun j _ h => absurd h (Nat.not_lt_zero _)⟩) fun i hi10 => ?_
        refine LWp.seq ?_
        refine LWp.seq ?_
        refine LWp.rz hT hW ?_
        simp
        refine LWp.iff ?_
        simp
        refine ⟨fun h10 => ?_, fun h10 => ?_⟩
        · refine LWp.skip ?_
          simp
          refine LWp.seq ?_
          refine LWp.block ?_
          refine LWp.seq ?_
          refine LWp.ro hT hW (fun | 41 => some <| .plain ⟨.d (.bool (decide ((sortN set)[i] ∈ out))), true⟩ | 49 => some <| .plain ⟨.d (nmsD (needsOf l (sortN set)[i])), false⟩ | 51 => some <| .plain ⟨.d (.bool (readyN l out (sortN set)[i])), true⟩ | _ => none) ?_
          simp [h10]
          refine ⟨⟨⟨Has_ok out _, by intros; exact Needs_ok l _⟩, by intros; exact ready_ok _ out⟩, ?_⟩
          refine LWp.iff ?_
          simp
          refine ⟨fun h12a h12b => ?_, fun h12 => ?_⟩
          · refine LWp.seq ?_
            refine LWp.rz hT hW ?_
            simp [h10]
            refine ⟨by omega, ?_⟩
            refine LWp.exit ?_
            simp
            refine loopQ.mk (out ++ [(sortN set)[i]]) (Weak.to [0, 8, 9] [(59, 9)] (by decide) (by decide) (by simp [hp]) (by simp) (by simp)) ?_ ?_
            · exact hi8.step h10 h12a h12b hi10.2
            · simp; omega
          · refine LWp.skip ?_
            simp
            refine LWp.rz hT hW ?_
            simp
            refine ⟨by omega, ?_⟩
            refine loopQ.mk (i + 1) (Weak.to [0, 8, 9, 10] [(9, 9)] (by decide) (by decide) (by simp [hp]) (by simp) (by simp)) ?_ ?_
            · refine ⟨h10, fun j hj hji => ?_⟩
              by_cases e : j = i
              · subst e
                by_cases q : (sortN set)[j] ∈ out
                · exact .inl q
                · exact .inr (h12 q)
              · exact hi10.2 j hj (by omega)
            · omega
        · have hF : False := hi8.found (valid_acyc (by simpa using h2)) h8 fun j hj => hi10.2 j hj (by omega)
          refine LWp.exit ?_
          simp
          refine loopQ.mk out (Weak.to [0, 8, 9] [(9, 9)] (by decide) (by decide) (by simp [hp]) (by simp) (by simp)) ?_ ?_
          · exact hF.elim
          · exact hF.elim
      · refine LWp.exit ?_
        simp
        refine LWp.seq ?_
        refine LWp.rz hT hW ?_
        simp
        refine LWp.ret ?_
        simp [orderV, h2, h4, ← hi8.done (by omega)]
theorem Shared_ok (l : List Ed) (a b : Nm) (hs : small l) (hn : (allNeeds l).length ≤ 1100000) : Ok Tryz.prog 83 [edsD l, a.d, b.d] ⟨.d (strsD (sharedL l a b)), true⟩ := by
  refine Ok.ret Tryz.func83 (by kernel_rfl) (c := _) rfl Tryz.ntmps83 (by simp) Tryz.results83 (by intro _ h; cases h) fun w0 X hp => ?_
  refine LWp.seq ?_
  refine LWp.rz hT hW ?_
  simp
  refine LWp.seq ?_
  refine LWp.ro hT hW (fun | 15 => some <| .plain ⟨.d (I64 (findI l a)), true⟩ | _ => none) ?_
  simp
  refine ⟨Find_ok l a, ?_⟩
  refine LWp.seq ?_
  refine LWp.ro hT hW (fun | 18 => some <| .plain ⟨.d (I64 (findI l b)), true⟩ | _ => none) ?_
  simp
  refine ⟨Find_ok l b, ?_⟩
  refine LWp.seq ?_
  refine LWp.seq ?_
  refine LWp.ro hT hW (fun | 34 => some <| .plain ⟨.d (.bool (decide (a ∈ aboveL l b))), true⟩ | 40 => some <| .plain ⟨.d (.bool (decide (b ∈ aboveL l a))), true⟩ | _ => none) ?_
  simp
  refine ⟨⟨by intros; exact Before_ok l a b hn, by intros; exact Before_ok l b a hn⟩, ?_⟩
  refine LWp.iff ?_
  simp
  refine ⟨fun h3 => ?_, fun g1 g2 g3 g4 g5 => ?_⟩
  · refine LWp.seq ?_
    refine LWp.rz hT hW ?_
    simp
    refine LWp.ret ?_
    have e : sharedL l a b = [] := by unfold sharedL; rw [if_pos (by rcases h3 with (((h | h) | h) | h) | h <;> simp [h])]
    simp [e]
  · refine LWp.skip ?_
    simp
    refine LWp.seq ?_
    refine LWp.rz hT hW ?_
    simp
    refine LWp.seq ?_
    obtain ⟨i, hi, fa, ea⟩ := edAt_of (show 0 ≤ findI l a by omega)
    obtain ⟨j, hj, fb, eb⟩ := edAt_of (show 0 ≤ findI l b by omega)
    refine LWp.ro hT hW (fun | 46 => some <| .plain ⟨.d (strsD (touches l[i])), true⟩ | _ => none) ?_
    simp [fa, hi]
    refine ⟨Touches_ok _ (hs _ (List.getElem_mem hi)).1 (hs _ (List.getElem_mem hi)).2, ?_⟩
    refine LWp.seq ?_
    refine LWp.ro hT hW (fun | 51 => some <| .plain ⟨.d (strsD (touches l[j])), true⟩ | _ => none) ?_
    simp [fb, hj]
    refine ⟨Touches_ok _ (hs _ (List.getElem_mem hj)).1 (hs _ (List.getElem_mem hj)).2, ?_⟩
    refine LWp.seq ?_
    refine LWp.seq ?_
    refine LWp.rz hT hW ?_
    simp
    refine LWp.block ?_
    refine LWp.loopW (ι := Nat × List Str) (fun ⟨q, acc⟩ => mkEnv [(9, .ow 9 0 acc.length), (10, .d (strsD (touches l[i]))), (11, .d (strsD (touches l[j]))), (12, .d (I64 q))]) (fun ⟨q, acc⟩ => mkObs [(9, .row false 1 (acc.map .str))]) (fun ⟨q, acc⟩ => q ≤ (touches l[i]).length ∧ acc.length ≤ q ∧ acc = ((touches l[i]).take q).filter fun s => decide (s ∈ touches l[j])) (fun ⟨q, acc⟩ => (touches l[i]).length - q) (0, []) (Weak.to [9, 10, 11, 12] [(9, 9)] (by decide) (by decide) (by simp [hp]) (by simp) (by simp)) (by simp) fun ⟨q, acc⟩ hi9 => ?_
    refine LWp.seq ?_
    refine LWp.seq ?_
    have htl := touches_len (hs _ (List.getElem_mem hi)).1 (hs _ (List.getElem_mem hi)).2
    refine LWp.rz hT hW ?_
    simp
    refine LWp.iff ?_
    simp
    refine ⟨fun h9 => ?_, fun h9 => ?_⟩
    · refine LWp.skip ?_
      simp
      refine LWp.seq ?_
      refine LWp.block ?_
      refine LWp.seq ?_
      refine LWp.ro hT hW (fun | 63 => some <| .plain ⟨.d (.bool (decide ((touches l[i])[q] ∈ touches l[j]))), true⟩ | _ => none) ?_
      simp [h9]
      refine ⟨In_ok _ _, ?_⟩
      refine LWp.iff ?_
      simp
      refine ⟨fun h11 => ?_, fun h11 => ?_⟩
      · refine LWp.rz hT hW ?_
        simp [h9]
        refine ⟨by have := hi9.2.1; omega, ?_⟩
        refine LWp.rz hT hW ?_
        simp
        refine ⟨by omega, ?_⟩
        refine loopQ.mk (q + 1, acc ++ [(touches l[i])[q]]) (Weak.to [9, 10, 11, 12] [(70, 9)] (by decide) (by decide) (by simp [hp]) (by simp) (by simp)) ?_ ?_
        · refine ⟨h9, by have := hi9.2.1; simp; omega, ?_⟩
          dsimp only
          rw [filter_take_succ h9, ← hi9.2.2]; simp [h11]
        · omega
      · refine LWp.skip ?_
        simp
        refine LWp.rz hT hW ?_
        simp
        refine ⟨by omega, ?_⟩
        refine loopQ.mk (q + 1, acc) (Weak.to [9, 10, 11, 12] [(9, 9)] (by decide) (by decide) (by simp [hp]) (by simp) (by simp)) ?_ ?_
        · refine ⟨h9, by have := hi9.2.1; dsimp only; omega, ?_⟩
          dsimp only
          rw [filter_take_succ h9, ← hi9.2.2]; simp [h11]
        · omega
    · refine LWp.exit ?_
      simp
      refine LWp.seq ?_
      refine LWp.rz hT hW ?_
      simp
      refine LWp.ret ?_
      have e : sharedL l a b = (touches l[i]).filter fun s => decide (s ∈ touches l[j]) := by unfold sharedL; rw [if_neg (by simp only [not_or]; exact ⟨by omega, by omega, g3, g4, g5⟩), ea, eb]
      have e2 : acc = sharedL l a b := by rw [e, hi9.2.2, List.take_of_length_le (by omega)]
      simp [e2]
set_option maxRecDepth 10000
theorem Clash_ok (l : List Ed) (set : List Nm) (a b : Nm) (hs : small l) (hn : (allNeeds l).length ≤ 1100000) (hset : ∀ c ∈ set, 0 ≤ findI l c) (hsl : set.length ≤ 1100000) : Ok Tryz.prog 46 [edsD l, nmsD set, a.d, b.d] ⟨.d (.bool (clashB l set a b)), true⟩ := by
  refine Ok.ret Tryz.func46 (by kernel_rfl) (c := _) rfl Tryz.ntmps46 (by simp) Tryz.results46 (by intro _ h; cases h) fun w0 X hp => ?_
  have hlen := sharedL_len hs a b
  refine LWp.seq ?_
  refine LWp.rz hT hW ?_
  simp
  refine LWp.seq ?_
  refine LWp.ro hT hW (fun | 17 => some <| .plain ⟨.d (strsD (sharedL l a b)), true⟩ | _ => none) ?_
  simp
  refine ⟨Shared_ok l a b hs hn, ?_⟩
  refine LWp.seq ?_
  refine LWp.seq ?_
  refine LWp.rz hT hW ?_
  simp
  refine LWp.block ?_
  refine LWp.loopW (ι := Nat) (fun i => mkEnv [(0, .d (edsD l)), (1, .d (nmsD set)), (6, .bx 6 0), (7, .bx 7 0), (9, .d (strsD (sharedL l a b))), (10, .d (I64 i))]) (fun i => mkObs [(6, .box false [.d (I64 a.who), .d (I64 a.seq)]), (7, .box false [.d (I64 b.who), .d (I64 b.seq)])]) (fun i => i ≤ (sharedL l a b).length ∧ Pre (fun s => !set.any (resolvedB l s a b)) (sharedL l a b) i) (fun i => (sharedL l a b).length - i) 0 (Weak.to [0, 1, 6, 7, 9, 10] [(6, 6), (7, 7)] (by decide) (by decide) (by simp [hp]) (by simp) (by simp)) (⟨Nat.zero_le _, Pre.zero⟩) fun i hi3 => ?_
  refine LWp.seq ?_
  refine LWp.seq ?_
  refine LWp.rz hT hW ?_
  simp
  refine LWp.iff ?_
  simp
  refine ⟨fun h3 => ?_, fun h3 => ?_⟩
  · refine LWp.skip ?_
    simp
    refine LWp.seq ?_
    refine LWp.block ?_
    refine LWp.seq ?_
    refine LWp.rz hT hW ?_
    simp
    refine LWp.seq ?_
    refine LWp.seq ?_
    refine LWp.rz hT hW ?_
    simp
    refine LWp.block ?_
    refine LWp.loopW (ι := Nat × Bool) (fun ⟨k, r⟩ => mkEnv [(0, .d (edsD l)), (1, .d (nmsD set)), (6, .bx 6 0), (7, .bx 7 0), (9, .d (strsD (sharedL l a b))), (10, .d (I64 i)), (11, .d (.bool r)), (12, .d (I64 k))]) (fun ⟨k, r⟩ => mkObs [(6, .box false [.d (I64 a.who), .d (I64 a.seq)]), (7, .box false [.d (I64 b.who), .d (I64 b.seq)])]) (fun ⟨k, r⟩ => k ≤ set.length ∧ r = (set.take k).any (resolvedB l (sharedL l a b)[i] a b)) (fun ⟨k, r⟩ => set.length - k) (0, false) (Weak.to [0, 1, 6, 7, 9, 10, 11, 12] [(6, 6), (7, 7)] (by decide) (by decide) (by simp [hp]) (by simp) (by simp)) (by simp) fun ⟨k, r⟩ hi7 => ?_
    refine LWp.seq ?_
    refine LWp.seq ?_
    refine LWp.rz hT hW ?_
    simp
    refine LWp.iff ?_
    simp
    refine ⟨fun h7 => ?_, fun h7 => ?_⟩
    · refine LWp.skip ?_
      simp
      refine LWp.seq ?_
      refine LWp.block ?_
      refine LWp.seq ?_
      refine LWp.ro hT hW (fun | 35 => some <| .plain ⟨.d (I64 (findI l set[k])), true⟩ | _ => none) ?_
      simp [h7]
      refine ⟨Find_ok l _, ?_⟩
      obtain ⟨i0, hi0, fc, ec⟩ := edAt_of (hset _ (List.getElem_mem h7))
      have hmx : (if (i0 : Int) < 0 then (0 : Int) else (i0 : Int)) = (i0 : Int) := if_neg (by omega)
      refine LWp.regAny hT hW hMixed (lk [[],[0],[0,1],[0,1,2],[0,1,2,3],[0,1,2,3,4],[0,1,2,3,4],[0,1,2,3,4,6],[0,1,2,3,4,5,6,7],[0,1,2,3,4,5,6,7,8],[0,1,2,3,4,5,6,7,8,9],[0,1,2,3,4],[0,1,2,3,4],[0,1,2,3,4,11,12],[0,1,2,3,4,11,12,13],[0,1,2,3,4,5,6,7,8,9,10,11,12,13,14],[0,1,2,3,4,5,6,7,8,9,10,11,12,13,14,15],[0,1,2,3,4,5,6,7,8,9,10,11,12,13,14,15,16],[0,1,2,3,4,5,6,7,8,9,10,11,12,13,14,15,16,17],[0,1,2,3,4,5,6,7,8,9,10,11,12,13,14,15,16,17],[0,1,2,3,4,5,6,7,8,9,10,11,12,13,14,15,16,17],[0,1,2,3,4,5,6,7,8,9,10,11,12,13,14,15,16,17],[0,1,2,3,4,5,6,7,8,9,10,11,12,13,14,15,16,17,20,21],[0,1,2,3,4,5,6,7,8,9,10,11,12,13,14,15,16,17,20,21,22],[0,1,2,3,4,5,6,7,8,9,10,11,12,13,14,15,16,17,18,19,20,21,22,23],[0,1,2,3,4,5,6,7,8,9,10,11,12,13,14,15,16,17,18,19,20,21,22,23,24],[0,1,2,3,4,5,6,7,8,9,10,11,12,13,14,15,16,17,18,19,20,21,22,23,24,25],[0,1,2,3,4,5,6,7,8,9,10,11,12,13,14,15,16,17,18,19,20,21,22,23,24,25,26],[0,1,2,3,4,5,6,7,8,9,10,11,12,13,14,15,16,17,18,19,20,21,22,23,24,25,26],[0,1,2,3,4,5,6,7,8,9,10,11,12,13,14,15,16,17,18,19,20,21,22,23,24,25,26],[0,1,2,3,4,5,6,7,8,9,10,11,12,13,14,15,16,17,18,19,20,21,22,23,24,25,26],[0,1,2,3,4,5,6,7,8,9,10,11,12,13,14,15,16,17,18,19,20,21,22,23,24,25,26,29,30],[0,1,2,3,4,5,6,7,8,9,10,11,12,13,14,15,16,17,18,19,20,21,22,23,24,25,26,29,30,31],[0,1,2,3,4,5,6,7,8,9,10,11,12,13,14,15,16,17,18,19,20,21,22,23,24,25,26,27,28,29,30,31,32],[0,1,2,3,4,5,6,7,8,9,10,11,12,13,14,15,16,17,18,19,20,21,22,23,24,25,26,27,28,29,30,31,32,33],[0,1,2,3,4,5,6,7,8,9,10,11,12,13,14,15,16,17,18,19,20,21,22,23,24,25,26,27,28,29,30,31,32,33,34],[0,1,2,3,4,5,6,7,8,9,10,11,12,13,14,15,16,17,18,19,20,21,22,23,24,25,26,27,28,29,30,31,32,33,34,35]]) (lk [[],[],[],[],[],[],[],[],[],[],[],[46],[46],[46],[46],[],[],[],[],[],[],[],[],[],[],[],[],[],[],[],[],[],[],[],[],[],[]]) (lk [[],[],[],[],[],[],[],[],[],[],[46],[],[],[],[],[51],[],[],[],[],[],[],[],[],[60],[],[],[],[],[],[],[],[],[69],[],[],[]]) (by kernel_rfl) (fun | 46 => some <| .plain ⟨.d (strsD (touches l[i0])), true⟩ | 51 => some <| .plain ⟨.d (.bool (decide ((sharedL l a b)[i] ∈ touches l[i0]))), true⟩ | 60 => some <| .plain ⟨.d (.bool (decide (a ∈ aboveL l set[k]))), true⟩ | 69 => some <| .plain ⟨.d (.bool (decide (b ∈ aboveL l set[k]))), true⟩ | _ => none) (by intro d; first | exact ⟨rfl, fun _ h => h⟩ | (split <;> exact ⟨rfl, fun _ h => h⟩)) ?_
      simp [fc, hmx, hi0, h3, h7]
      refine ⟨⟨⟨⟨⟨⟨fun _ => Touches_ok _ (hs _ (List.getElem_mem hi0)).1 (hs _ (List.getElem_mem hi0)).2, fun _ => In_ok _ _⟩, fun _ _ => Before_ok l a _ hn⟩, fun z1 z2 => ⟨z1, z2⟩⟩, fun _ _ _ => Before_ok l b _ hn⟩, fun z1 z2 z3 => ⟨z1, z2, z3⟩⟩, ?_⟩
      refine LWp.rz hT hW ?_
      simp
      refine ⟨by omega, ?_⟩
      refine loopQ.mk (k + 1, r || resolvedB l (sharedL l a b)[i] a b set[k]) (Weak.to [0, 1, 6, 7, 9, 10, 11, 12] [(6, 6), (7, 7)] (by decide) (by decide) (by simp [hp]) (by simp [resolvedB, ec]) (by simp)) ?_ ?_
      · refine ⟨h7, ?_⟩
        dsimp only
        rw [List.take_succ_eq_append_getElem h7, List.any_append, ← hi7.2]
        simp
      · omega
    · refine LWp.exit ?_
      simp
      refine LWp.seq ?_
      have hr : r = set.any (resolvedB l (sharedL l a b)[i] a b) := by rw [hi7.2, List.take_of_length_le (by omega)]
      refine LWp.rz hT hW ?_
      simp
      refine LWp.iff ?_
      simp
      refine ⟨fun h11 => ?_, fun h11 => ?_⟩
      · refine LWp.seq ?_
        refine LWp.rz hT hW ?_
        simp
        refine LWp.ret ?_
        simp
        exact List.any_eq_true.2 ⟨_, List.getElem_mem h3, by rw [hr] at h11; simpa using h11⟩
      · refine LWp.skip ?_
        simp
        refine LWp.rz hT hW ?_
        simp
        refine ⟨by omega, ?_⟩
        refine loopQ.mk (i + 1) (Weak.to [0, 1, 6, 7, 9, 10] [(6, 6), (7, 7)] (by decide) (by decide) (by simp [hp]) (by simp) (by simp)) ?_ ?_
        · refine ⟨h3, hi3.2.succ h3 ?_⟩
          rw [hr] at h11
          simpa using h11
        · omega
  · refine LWp.exit ?_
    simp
    refine LWp.seq ?_
    refine LWp.rz hT hW ?_
    simp
    refine LWp.ret ?_
    simp
    exact hi3.2.any h3
theorem dropD_len (L : List Df) (s : Str) : (dropD L s).length ≤ L.length := List.length_filter_le _ _
theorem putD_len (L : List Df) (d : Df) : (putD L d).length ≤ L.length + 1 := by
  have := dropD_len L d.name
  unfold putD
  rw [insAt_length]; omega
theorem Done_ok (L : List Df) (e : Ed) (hL : L.length ≤ 100000) (b1 : e.puts.length ≤ 100000) (b2 : e.drops.length ≤ 100000) : Ok Tryz.prog 45 [dfsD L, e.d] ⟨.d (dfsD (doneD L e)), false⟩ := by
  refine Ok.ret Tryz.func45 (by kernel_rfl) (c := _) rfl Tryz.ntmps45 (by simp) Tryz.results45 (by intro _ h; cases h) fun w0 X hp => ?_
  refine LWp.seq ?_
  refine LWp.rz hT hW ?_
  simp
  refine LWp.seq ?_
  refine LWp.seq ?_
  refine LWp.rz hT hW ?_
  simp
  refine LWp.block ?_
  refine LWp.loopW (ι := Nat × List Df) (fun ⟨i, M⟩ => mkEnv [(0, .d (dfsD M)), (3, .bx 3 0), (5, .d (I64 i))]) (fun ⟨i, M⟩ => mkObs [(3, .box false ((cellsD e.d).map .d))]) (fun ⟨i, M⟩ => i ≤ e.puts.length ∧ M.length ≤ L.length + i ∧ M = (e.puts.take i).foldl putD L) (fun ⟨i, M⟩ => e.puts.length - i) (0, L) (Weak.to [0, 3, 5] [(3, 3)] (by decide) (by decide) (by simp [hp]) (by simp) (by simp)) (by simp) fun ⟨i, M⟩ hi2 => ?_
  refine LWp.seq ?_
  refine LWp.seq ?_
  refine LWp.rz hT hW ?_
  simp
  refine LWp.iff ?_
  simp
  refine ⟨fun h2 => ?_, fun h2 => ?_⟩
  · refine LWp.skip ?_
    simp
    refine LWp.seq ?_
    refine LWp.block ?_
    refine LWp.ro hT hW (fun | 20 => some <| .plain ⟨.d (dfsD (putD M e.puts[i])), true⟩ | _ => none) ?_
    simp [h2]
    refine ⟨Put_ok M _ (by have := hi2.2.1; omega), ?_⟩
    refine LWp.rz hT hW ?_
    simp
    refine ⟨by omega, ?_⟩
    refine loopQ.mk (i + 1, putD M e.puts[i]) (Weak.to [0, 3, 5] [(3, 3)] (by decide) (by decide) (by simp [hp]) (by simp) (by simp)) ?_ ?_
    · refine ⟨h2, by have := putD_len M e.puts[i]; have := hi2.2.1; dsimp only; omega, ?_⟩
      dsimp only
      rw [List.take_succ_eq_append_getElem h2, List.foldl_append, ← hi2.2.2]
      rfl
    · omega
  · refine LWp.exit ?_
    simp
    refine LWp.seq ?_
    refine LWp.seq ?_
    refine LWp.rz hT hW ?_
    simp
    refine LWp.block ?_
    refine LWp.loopW (ι := Nat × List Df) (fun ⟨k, N⟩ => mkEnv [(0, .d (dfsD N)), (3, .bx 3 0), (6, .d (I64 k))]) (fun ⟨k, N⟩ => mkObs [(3, .box false ((cellsD e.d).map .d))]) (fun ⟨k, N⟩ => k ≤ e.drops.length ∧ N.length ≤ M.length ∧ N = (e.drops.take k).foldl dropD M) (fun ⟨k, N⟩ => e.drops.length - k) (0, M) (Weak.to [0, 3, 6] [(3, 3)] (by decide) (by decide) (by simp [hp]) (by simp) (by simp)) (by simp) fun ⟨k, N⟩ hi6 => ?_
    refine LWp.seq ?_
    refine LWp.seq ?_
    refine LWp.rz hT hW ?_
    simp
    refine LWp.iff ?_
    simp
    refine ⟨fun h6 => ?_, fun h6 => ?_⟩
    · refine LWp.skip ?_
      simp
      refine LWp.seq ?_
      refine LWp.block ?_
      refine LWp.ro hT hW (fun | 34 => some <| .plain ⟨.d (dfsD (dropD N e.drops[k])), true⟩ | _ => none) ?_
      simp [h6]
      refine ⟨Drop_ok N _ (by have := hi6.2.1; have := hi2.2.1; omega), ?_⟩
      refine LWp.rz hT hW ?_
      simp
      refine ⟨by omega, ?_⟩
      refine loopQ.mk (k + 1, dropD N e.drops[k]) (Weak.to [0, 3, 6] [(3, 3)] (by decide) (by decide) (by simp [hp]) (by simp) (by simp)) ?_ ?_
      · refine ⟨h6, by have := dropD_len N e.drops[k]; have := hi6.2.1; dsimp only; omega, ?_⟩
        dsimp only
        rw [List.take_succ_eq_append_getElem h6, List.foldl_append, ← hi6.2.2]
        rfl
      · omega
    · refine LWp.exit ?_
      simp
      refine LWp.seq ?_
      refine LWp.rz hT hW ?_
      simp
      refine LWp.ret ?_
      have e1 : N = doneD L e := by
        have h1 := hi2.2.2
        have h2 := hi6.2.2
        rw [List.take_of_length_le (by omega)] at h1 h2
        rw [h2, h1]; rfl
      simp [e1]
open Go.Proofs
theorem i64_range (x : Int) : -9223372036854775808 ≤ IntKind.i64.wrap x ∧ IntKind.i64.wrap x ≤ 9223372036854775807 := by
  unfold IntKind.wrap
  simp [IntKind.bits, IntKind.signed]
  split <;> omega
def baseTo (n : Int) : Nat → List Df
  | 0 => []
  | i + 1 => baseTo n i ++ if ((around n 1024).fdiv (2 ^ ((i + (around n 7).toNat) % 5))).tmod 2 = 1 then [defD (((i + (around n 7).toNat) % 5 : Nat) : Int) (IntKind.i64.wrap (n + (((i + (around n 7).toNat) % 5 : Nat) : Int)))] else []
def baseL (n : Int) : List Df := baseTo n 5
theorem baseTo_len (n : Int) : ∀ i, (baseTo n i).length ≤ i
  | 0 => Nat.le_refl _
  | i + 1 => by
    have := baseTo_len n i
    simp only [baseTo, List.length_append]
    split <;> simp <;> omega
theorem baseL_len (n : Int) : (baseL n).length ≤ 5 := baseTo_len n 5
theorem Base_own (n : Int) (h1 : -9223372036854775808 ≤ n) (h2 : n ≤ 9223372036854775807) : Ok Tryz.prog 17 [I64 n] ⟨.own 2 ((baseL n).map Df.d), true⟩ := by
  refine Ok.ret Tryz.func17 (by kernel_rfl) (c := _) rfl Tryz.ntmps17 (by simp) Tryz.results17 (by intro _ h; cases h) fun w0 X hp => ?_
  obtain ⟨z1, z2⟩ := around_lt n 7 (by decide)
  obtain ⟨a0, ha0⟩ : ∃ a0 : Nat, (a0 : Int) = around n 7 := ⟨(around n 7).toNat, by omega⟩
  have hat : (around n 7).toNat = a0 := by omega
  refine LWp.seq ?_
  refine LWp.rz hT hW ?_
  simp
  refine LWp.seq ?_
  refine LWp.rz hT hW ?_
  simp
  refine LWp.seq ?_
  refine LWp.seq ?_
  refine LWp.rz hT hW ?_
  simp
  refine LWp.block ?_
  refine LWp.loopW (ι := Nat) (fun i => mkEnv [(0, .d (I64 n)), (3, .ow 3 0 (baseTo n i).length), (4, .d (I64 i))]) (fun i => mkObs [(3, .row false 2 ((baseTo n i).map Df.d))]) (fun i => i ≤ 5) (fun i => 5 - i) 0 (Weak.to [0, 3, 4] [(3, 3)] (by decide) (by decide) (by simp [hp]) (by simp [baseTo]) (by simp [baseTo])) (by simp) fun i hi3 => ?_
  refine LWp.seq ?_
  refine LWp.seq ?_
  refine LWp.rz hT hW ?_
  simp
  refine LWp.iff ?_
  simp
  refine ⟨fun h3 => ?_, fun h3 => ?_⟩
  · refine LWp.skip ?_
    simp
    refine LWp.seq ?_
    refine LWp.block ?_
    refine LWp.seq ?_
    obtain ⟨k0, hk0⟩ : ∃ k0, k0 = (i + a0) % 5 := ⟨_, rfl⟩
    have hkm : ((i : Int) + (a0 : Int)).tmod 5 = (k0 : Int) := by rw [hk0]; rfl
    have hk5 : k0 < 5 := by rw [hk0]; exact Nat.mod_lt _ (by decide)
    have hkw := u64_nat (k := k0) (by omega)
    have hk64 : min k0 64 = k0 := by omega
    have hbl := baseTo_len n i
    have hbe : baseTo n (i + 1) = baseTo n i ++ if ((around n 1024).fdiv (2 ^ k0)).tmod 2 = 1 then [defD (k0 : Int) (IntKind.i64.wrap (n + k0))] else [] := by rw [baseTo, hat, ← hk0]
    refine LWp.ro hT hW (fun | 12 => some <| .plain ⟨.d (I64 a0), true⟩ | _ => none) ?_
    simp [hkm]
    refine ⟨⟨by rw [ha0]; exact Around_ok n 7 h1 h2 (by decide), by omega⟩, ?_⟩
    refine LWp.seq ?_
    refine LWp.ro hT hW (fun | 16 => some <| .plain ⟨.d (I64 (around n 1024)), true⟩ | _ => none) ?_
    simp [hkw, IntKind.bits, hk64]
    refine ⟨Around_ok n 1024 h1 h2 (by decide), ?_⟩
    refine LWp.iff ?_
    simp
    refine ⟨fun h6 => ?_, fun h6 => ?_⟩
    · have hbn : baseTo n (i + 1) = baseTo n i ++ [defD (k0 : Int) (IntKind.i64.wrap (n + k0))] := by rw [hbe, if_pos h6]
      obtain ⟨w1, w2⟩ := i64_range (n + k0)
      refine LWp.ro hT hW (fun | 26 => some .wrap | 27 => some <| .plain ⟨.d (defD (k0 : Int) (IntKind.i64.wrap (n + k0))).d, true⟩ | _ => none) ?_
      simp
      refine ⟨⟨by simpa [Df.d] using def_ok (k0 : Int) (IntKind.i64.wrap (n + k0)) (by omega) (by omega) w1 w2, by omega⟩, ?_⟩
      refine LWp.rz hT hW ?_
      simp
      refine ⟨by omega, ?_⟩
      refine loopQ.mk (i + 1) (Weak.to [0, 3, 4] [(29, 3)] (by decide) (by decide) (by simp [hp]) (by simp [hbn]) (by simp [hbn])) ?_ ?_
      · omega
      · omega
    · have hbn : baseTo n (i + 1) = baseTo n i := by rw [hbe, if_neg h6, List.append_nil]
      refine LWp.skip ?_
      simp
      refine LWp.rz hT hW ?_
      simp
      refine ⟨by omega, ?_⟩
      refine loopQ.mk (i + 1) (Weak.to [0, 3, 4] [(3, 3)] (by decide) (by decide) (by simp [hp]) (by simp [hbn]) (by simp [hbn])) ?_ ?_
      · omega
      · omega
  · refine LWp.exit ?_
    simp
    refine LWp.seq ?_
    refine LWp.rz hT hW ?_
    simp
    refine LWp.ret ?_
    have hi5 : i = 5 := by omega
    subst hi5
    simp [baseL]
theorem Base_ok (n : Int) (h1 : -9223372036854775808 ≤ n) (h2 : n ≤ 9223372036854775807) : Ok Tryz.prog 17 [I64 n] ⟨.d (dfsD (baseL n)), true⟩ := (Base_own n h1 h2).own_d
theorem baseD_next {base L : List Df} {i : Nat} (h : i < base.length) (e : (dropD L base[i].name).length = L.length) : baseD L (base.drop i) = baseD (putD L base[i]) (base.drop (i + 1)) := by
  rw [List.drop_eq_getElem_cons h]
  simp [baseD, dropD_same.1 e]
theorem baseD_twice {base L : List Df} {i : Nat} (h : i < base.length) (e : (dropD L base[i].name).length ≠ L.length) : baseD L (base.drop i) = none := by
  rw [List.drop_eq_getElem_cons h]
  have : (L.any fun x => decide (x.name = base[i].name)) = true := by
    cases q : L.any fun x => decide (x.name = base[i].name) with
    | true => rfl
    | false => exact absurd (dropD_same.2 q) e
  simp [baseD, this]
theorem puts_len : ∀ (ps : List Df) (L : List Df), (ps.foldl putD L).length ≤ L.length + ps.length
  | [], L => by simp
  | d :: ps, L => by
    have := puts_len ps (putD L d)
    have := putD_len L d
    simp only [List.foldl_cons, List.length_cons]; omega
theorem drops_len : ∀ (ds : List Str) (L : List Df), (ds.foldl dropD L).length ≤ L.length
  | [], L => Nat.le_refl _
  | d :: ds, L => Nat.le_trans (drops_len ds (dropD L d)) (dropD_len L d)
theorem doneD_len (L : List Df) (e : Ed) : (doneD L e).length ≤ L.length + e.puts.length := Nat.le_trans (drops_len _ _) (puts_len _ _)
theorem Program_ok (base : List Df) (l : List Ed) (set : List Nm) (hs : small l) (hn : (allNeeds l).length ≤ 1100000) (hb : base.length ≤ 1000) (hl : set.length ≤ 1000) : Ok Tryz.prog 72 [dfsD base, edsD l, nmsD set] ⟨.tup [.d (dfsD (programV base l set).1), .d (I64 (programV base l set).2)], false⟩ := by
  refine Ok.two Tryz.func72 (by kernel_rfl) (c := _) rfl Tryz.ntmps72 (by simp) Tryz.results72 rfl fun w0 X hp => ?_
  refine LWp.seq ?_
  refine LWp.rz hT hW ?_
  simp
  refine LWp.seq ?_
  refine LWp.ro hT hW (fun | 19 => some <| .plain ⟨.tup [.d (I64 (validV l).1), .d (I64 (validV l).2)], true⟩ | _ => none) ?_
  simp [evalExtract]
  refine ⟨Valid_ok l hs hn, ?_⟩
  refine LWp.seq ?_
  refine LWp.seq ?_
  refine LWp.rz hT hW ?_
  simp
  refine LWp.iff ?_
  simp
  refine ⟨fun h2 => ?_, fun h2 => ?_⟩
  · refine LWp.seq ?_
    refine LWp.rz hT hW ?_
    simp
    refine LWp.ret ?_
    have e : programV base l set = ([], (validV l).2) := by unfold programV; rw [if_pos h2]
    simp [e]
  · have hv0 : (validV l).2 = 0 := by simpa using h2
    refine LWp.skip ?_
    simp
    refine LWp.seq ?_
    refine LWp.rz hT hW ?_
    simp
    refine LWp.weak (Weak.close 10 (x := dfsD []) (by simp)) ?_
    refine LWp.seq ?_
    refine LWp.seq ?_
    refine LWp.rz hT hW ?_
    simp
    refine LWp.block ?_
    refine LWp.loopW (ι := Nat × List Df) (fun ⟨i, L⟩ => mkEnv [(0, .d (dfsD base)), (1, .d (edsD l)), (2, .d (nmsD set)), (10, .d (dfsD L)), (11, .d (I64 i))]) (fun ⟨i, L⟩ => mkObs []) (fun ⟨i, L⟩ => i ≤ base.length ∧ L.length ≤ i ∧ baseD [] base = baseD L (base.drop i)) (fun ⟨i, L⟩ => base.length - i) (0, []) (Weak.to [0, 1, 2, 10, 11] [] (by decide) (by decide) (by simp [hp]) (by simp) (by simp)) (by simp) fun ⟨i, L⟩ hi6 => ?_
    refine LWp.seq ?_
    refine LWp.seq ?_
    refine LWp.rz hT hW ?_
    simp
    refine LWp.iff ?_
    simp
    refine ⟨fun h6 => ?_, fun h6 => ?_⟩
    · refine LWp.skip ?_
      simp
      refine LWp.seq ?_
      refine LWp.block ?_
      refine LWp.seq ?_
      refine LWp.seq ?_
      refine LWp.ro hT hW (fun | 37 => some <| .plain ⟨.d (dfsD (dropD L base[i].name)), true⟩ | _ => none) ?_
      simp [h6]
      refine ⟨Drop_ok L _ (by have := hi6.2.1; omega), ?_⟩
      refine LWp.iff ?_
      simp
      refine ⟨fun h8 => ?_, fun h8 => ?_⟩
      · refine LWp.seq ?_
        refine LWp.rz hT hW ?_
        simp
        refine LWp.ret ?_
        have e : programV base l set = ([], 7) := by unfold programV; rw [if_neg (by simpa using hv0), hi6.2.2, baseD_twice h6 (by omega)]
        simp [e]
      · refine LWp.skip ?_
        simp
        refine LWp.ro hT hW (fun | 47 => some <| .plain ⟨.d (dfsD (putD L base[i])), true⟩ | _ => none) ?_
        simp [h6]
        refine ⟨Put_ok L _ (by have := hi6.2.1; omega), ?_⟩
        refine LWp.rz hT hW ?_
        simp
        refine ⟨by omega, ?_⟩
        refine loopQ.mk (i + 1, putD L base[i]) (Weak.to [0, 1, 2, 10, 11] [] (by decide) (by decide) (by simp [hp]) (by simp) (by simp)) ?_ ?_
        · refine ⟨h6, by have := putD_len L base[i]; have := hi6.2.1; dsimp only; omega, ?_⟩
          dsimp only
          rw [hi6.2.2, baseD_next h6 (by omega)]
        · omega
    · refine LWp.exit ?_
      simp
      refine LWp.seq ?_
      have hbs : baseD [] base = some L := by rw [hi6.2.2, List.drop_eq_nil_of_le (by omega)]; rfl
      refine LWp.ro hT hW (fun | 51 => some <| .plain ⟨.tup [.d (nmsD (orderV l set).1), .d (I64 (orderV l set).2)], true⟩ | _ => none) ?_
      simp [evalExtract]
      refine ⟨Order_ok l set hs hn (by omega), ?_⟩
      refine LWp.seq ?_
      refine LWp.seq ?_
      refine LWp.rz hT hW ?_
      simp
      refine LWp.iff ?_
      simp
      refine ⟨fun h12 => ?_, fun h12 => ?_⟩
      · refine LWp.seq ?_
        refine LWp.rz hT hW ?_
        simp
        refine LWp.ret ?_
        have e : programV base l set = ([], (orderV l set).2) := by
          have h0 : closedB l set = false := by
            cases q : closedB l set with
            | false => rfl
            | true => simp [orderV, hv0, q] at h12
          unfold programV
          rw [if_neg (by simpa using hv0), hbs]
          simp [h0, orderV, hv0]
        simp [e]
      · have hcl : closedB l set = true := by
          cases q : closedB l set with
          | true => rfl
          | false => simp [orderV, hv0, q] at h12
        have hov : orderV l set = (orderN l set, 0) := by simp [orderV, hv0, hcl]
        obtain ⟨names, hnames⟩ : ∃ names, names = orderN l set := ⟨_, rfl⟩
        have hnl : names.length ≤ 1000 := by rw [hnames]; exact Nat.le_trans (orderN_len l set) hl
        have hfound : ∀ n ∈ names, 0 ≤ findI l n := fun n hn => (closedB_iff.1 hcl n (orderN_sub hn (by rw [← hnames]))).1
        rw [hov, ← hnames]
        refine LWp.skip ?_
        simp
        refine LWp.seq ?_
        refine LWp.seq ?_
        refine LWp.rz hT hW ?_
        simp
        refine LWp.block ?_
        refine LWp.loopW (ι := Nat) (fun j => mkEnv [(1, .d (edsD l)), (2, .d (nmsD set)), (10, .d (dfsD L)), (12, .d (nmsD names)), (14, .d (I64 j))]) (fun j => mkObs []) (fun j => j ≤ names.length ∧ NoClash l set names j) (fun j => names.length - j) 0 (Weak.to [1, 2, 10, 12, 14] [] (by decide) (by decide) (by simp [hp]) (by simp) (by simp)) (⟨Nat.zero_le _, fun _ h => absurd h (Nat.not_lt_zero _)⟩) fun j hi15 => ?_
        refine LWp.seq ?_
        refine LWp.seq ?_
        refine LWp.rz hT hW ?_
        simp
        refine LWp.iff ?_
        simp
        refine ⟨fun h15 => ?_, fun h15 => ?_⟩
        · refine LWp.skip ?_
          simp
          refine LWp.seq ?_
          refine LWp.block ?_
          refine LWp.seq ?_
          refine LWp.rz hT hW ?_
          simp
          refine LWp.block ?_
          refine LWp.loopW (ι := Nat) (fun k => mkEnv [(1, .d (edsD l)), (2, .d (nmsD set)), (10, .d (dfsD L)), (12, .d (nmsD names)), (14, .d (I64 j)), (15, .d (I64 k))]) (fun k => mkObs []) (fun k => k ≤ j ∧ Pre (fun a => clashB l set a names[j]) names k) (fun k => j - k) 0 (Weak.to [1, 2, 10, 12, 14, 15] [] (by decide) (by decide) (by simp [hp]) (by simp) (by simp)) (⟨Nat.zero_le _, Pre.zero⟩) fun k hi18 => ?_
          refine LWp.seq ?_
          refine LWp.seq ?_
          refine LWp.rz hT hW ?_
          simp
          refine LWp.iff ?_
          simp
          refine ⟨fun h18 => ?_, fun h18 => ?_⟩
          · refine LWp.skip ?_
            simp
            refine LWp.seq ?_
            refine LWp.block ?_
            refine LWp.seq ?_
            have hkn : k < names.length := by omega
            refine LWp.regAny hT hW hMixed (lk [[],[],[],[],[2,3],[2,3,4],[],[],[6,7],[6,7,8],[0,1,2,3,4,5,6,7,8,9]]) (lk [[],[],[],[],[],[],[],[],[],[],[]]) (lk [[],[],[],[],[],[],[],[],[],[],[78]]) (by kernel_rfl) (fun | 78 => some <| .plain ⟨.d (.bool (clashB l set names[k] names[j])), true⟩ | _ => none) (by intro d; first | exact ⟨rfl, fun _ h => h⟩ | (split <;> exact ⟨rfl, fun _ h => h⟩)) ?_
            simp [h15, hkn]
            refine ⟨by rw [clashB_comm]; exact Clash_ok l set _ _ hs hn (fun c hc => (closedB_iff.1 hcl c hc).1) (by omega), ?_⟩
            refine LWp.iff ?_
            simp
            refine ⟨fun h20 => ?_, fun h20 => ?_⟩
            · refine LWp.seq ?_
              refine LWp.rz hT hW ?_
              simp
              refine LWp.ret ?_
              have hc : clashAny l set (orderN l set) = true := by rw [← hnames]; exact clashAny_yes h15 (by omega) h20
              have e : programV base l set = ([], 14) := by unfold programV; rw [if_neg (by simpa using hv0), hbs]; simp [hcl, hc]
              simp [e]
            · refine LWp.skip ?_
              simp
              refine LWp.rz hT hW ?_
              simp
              refine ⟨by omega, ?_⟩
              refine loopQ.mk (k + 1) (Weak.to [1, 2, 10, 12, 14, 15] [] (by decide) (by decide) (by simp [hp]) (by simp) (by simp)) ?_ ?_
              · exact ⟨h18, hi18.2.succ (by omega) (by simpa using h20)⟩
              · omega
          · refine LWp.exit ?_
            simp
            refine LWp.rz hT hW ?_
            simp
            refine ⟨by omega, ?_⟩
            refine loopQ.mk (j + 1) (Weak.to [1, 2, 10, 12, 14] [] (by decide) (by decide) (by simp [hp]) (by simp) (by simp)) ?_ ?_
            · exact ⟨h15, hi15.2.step h15 (fun q hq hqj => hi18.2 q hq (by omega))⟩
            · omega
        · refine LWp.exit ?_
          simp
          refine LWp.seq ?_
          refine LWp.seq ?_
          refine LWp.rz hT hW ?_
          simp
          refine LWp.block ?_
          refine LWp.loopW (ι := Nat × List Df) (fun ⟨q, M⟩ => mkEnv [(1, .d (edsD l)), (10, .d (dfsD M)), (12, .d (nmsD names)), (16, .d (I64 q))]) (fun ⟨q, M⟩ => mkObs []) (fun ⟨q, M⟩ => q ≤ names.length ∧ M.length ≤ base.length + q * 24 ∧ M = madeOf l (names.take q) L) (fun ⟨q, M⟩ => names.length - q) (0, L) (Weak.to [1, 10, 12, 16] [] (by decide) (by decide) (by simp [hp]) (by simp) (by simp)) (⟨Nat.zero_le _, by have := hi6.2.1; simp; omega, rfl⟩) fun ⟨q, M⟩ hi23 => ?_
          refine LWp.seq ?_
          refine LWp.seq ?_
          refine LWp.rz hT hW ?_
          simp
          refine LWp.iff ?_
          simp
          refine ⟨fun h23 => ?_, fun h23 => ?_⟩
          · refine LWp.skip ?_
            simp
            refine LWp.seq ?_
            refine LWp.block ?_
            obtain ⟨i0, hi0, hfe, hee⟩ := edAt_of (hfound names[q] (List.getElem_mem h23))
            have hpl := proper_len (errE_zero ((valid_err hv0).2 i0 hi0)).1
            have hmx : (if (i0 : Int) < 0 then (0 : Int) else (i0 : Int)) = (i0 : Int) := if_neg (by omega)
            have hq24 : q * 24 ≤ 1000 * 24 := Nat.mul_le_mul_right _ (by omega)
            refine LWp.ro hT hW (fun | 92 => some <| .plain ⟨.d (I64 i0), true⟩ | 96 => some <| .plain ⟨.d (dfsD (doneD M l[i0])), false⟩ | _ => none) ?_
            simp [h23, hmx, hi0]
            refine ⟨⟨by rw [← hfe]; exact Find_ok l names[q], Done_ok M l[i0] (by have := hi23.2.1; omega) (by omega) (by omega)⟩, ?_⟩
            refine LWp.rz hT hW ?_
            simp
            refine ⟨by omega, ?_⟩
            refine loopQ.mk (q + 1, doneD M l[i0]) (Weak.to [1, 10, 12, 16] [] (by decide) (by decide) (by simp [hp]) (by simp) (by simp)) ?_ ?_
            · refine ⟨h23, by have := doneD_len M l[i0]; have := hi23.2.1; dsimp only; omega, ?_⟩
              dsimp only
              rw [List.take_succ_eq_append_getElem h23, madeOf_snoc, ← hi23.2.2, hee]
            · omega
          · refine LWp.exit ?_
            simp
            refine LWp.seq ?_
            refine LWp.rz hT hW ?_
            simp
            refine LWp.ret ?_
            have hnc : clashAny l set (orderN l set) = false := by rw [← hnames]; exact clashAny_no (by have := hi15.1; rw [show names.length = j by omega]; exact hi15.2)
            have e : programV base l set = (M, 0) := by
              rw [programV_ok hv0 hbs hcl, hnc, hi23.2.2, List.take_of_length_le (by omega), hnames]
              rfl
            simp [e]
end Go.Eng
namespace Go.Eng
open Go.Proofs
attribute [local simp] runL stepL evalG evalOp opLV constLV putEnv dstOk upd upds Res.plain Res.cond Res.fail evalBin evalUn seqQ blockQ argsEnv lookL lookH RetIs memless freshL evalPick evalMin bval bok evalLen evalIn strip whenC guardOps guardC slotsOf
  runM foldS stepI stepM maskE wrIn lk renO lookN evalCall evalCallee optAll resLV resObj retLV retObj retsLV retsObj evalLoad evalIndexAddr evalField solid cellsD_agg cellsD_int cellsD_bool cellsD_str cellsD_sl cellsD_ro cellsD_fn cellsL_agg cellsL_dagg cellsL_int cellsL_bool cellsL_str cellsL_sl cellsL_fn cellsL_ow cellsL_bx cellsL_lfn cellsL_nl takeL takeD mkAgg allD eqD eqDs kindsAre kindIs LObj.live TK.isNone TK.agg TK.isBool TK.isStr TK.isStruct Op.operands Call.operands
  evalBuildSlice evalAppend elemsOf evalStore evalBuild fillL lookupF putL evalSlice bound evalConv elemsS freezes frozen loadR
  mkEnv_at mkObs_at close_d close_agg close_ow close_bx close_fn close_nl touch_d touch_agg touch_ow touch_bx touch_fn touch_nl ren_d ren_agg ren_bx ren_rp ren_ow ren_fn ren_nl ren_junk retQ_ret retQ2_ret condQ_bool Nm.d Df.d Ed.d nmsD dfsD strsD edsD retC_ret nm_eq df_eq take_map_len take_map_app
  nm_t nm_d nm_td df_t df_d df_td str_t str_d str_td ed_t ed_d ed_td
  evalAppendIn evalCut evalClear evalCopy evalMake evalWrap evalCap evalNil isNilC lenL isInp gorc
  mapOf findD keyEq keyOk evalMakeMap evalRange zeroD zeroDV argsG shutG outN lenv retG0_ret retG0_normal retG1_ret renO close_mp touch_mp ren_mp optAll_d optAll_d' touch_ds cellsL_mp cellsD_mp cellsL_dmp
  evalMapSet evalPtr TK.isPtr evalToArr firstL retN_ret retsQ rvarL close_bm touch_bm ren_bm cellsD_bm cellsL_bm cellsL_lbm
attribute [local simp] cutQ_normal cutQ_ret cutQ_exit
def Ed.small (e : Ed) : Prop := e.puts.length ≤ 1100000 ∧ e.drops.length ≤ 1100000
theorem setStep_len (out : List Str) (s : Str) : (setStep out s).length ≤ out.length + 1 := by
  unfold setStep; split
  · omega
  · rw [insAt_length]; omega
theorem setS_len (l : List Str) : (setS l).length ≤ l.length := by
  have key : ∀ (l out : List Str), (l.foldl setStep out).length ≤ out.length + l.length := by
    intro l
    induction l with
    | nil => intro out; simp
    | cons a l ih => intro out; have := ih (setStep out a); have := setStep_len out a; simp only [List.foldl_cons, List.length_cons]; omega
  have := key l []
  simpa [setS] using this
theorem tchN_len {e : Ed} (h : e.small) : (tchN e).length ≤ 2200000 := by
  have h1 := setS_len (touches e)
  have h2 := touches_len h.1 h.2
  unfold tchN; omega
def commonL (a b : Ed) : List Str := (tchN a).filter fun s => decide (s ∈ tchN b)
theorem commonL_nil {a b : Ed} : commonL a b = [] ↔ meetB a b = false := by
  unfold commonL meetB
  rw [List.filter_eq_nil_iff, List.any_eq_false]
theorem row_ins_str {acc : List Str} {k : Nat} {x : Str} (h : k ≤ acc.length) : List.take (k + 1) (List.take k (List.take k (List.map DV.str acc)) ++ [DV.str x]) ++ List.take (acc.length - k) (List.drop k (List.map DV.str acc)) = List.map DV.str (insAt k x acc) := row_ins h rfl
theorem row_end_str {acc : List Str} {x : Str} : List.take (acc.length + 1) (List.map DV.str acc ++ [DV.str x]) = List.map DV.str (insAt acc.length x acc) := by
  rw [List.take_of_length_le (by simp)]
  simp [insAt]
theorem set_step_at {out : List Str} {s : Str} {k : Nat} (h : Rising bless out) (hk : k ≤ out.length) (h1 : ∀ (j : Nat) (hj : j < out.length), j < k → bless out[j] s = true) (h2 : ∀ hj : k < out.length, bless out[k] s = false) (hne : ∀ hj : k < out.length, out[k] ≠ s) : insAt k s out = setStep out s := by
  refine set_at h hk h1 h2 fun hm => ?_
  by_cases q : k < out.length
  · exact hne q ((set_there h q h1 (h2 q)).2 hm)
  · obtain ⟨j, hj, e⟩ := List.getElem_of_mem hm
    have := h1 j hj (by omega)
    rw [e] at this
    have := bless_sto.irrefl s
    simp_all
theorem Touches23_ok (e : Ed) (hs : e.small) : Ok Tryz.prog 12 [e.d] ⟨.d (strsD (tchN e)), true⟩ := by
  have hlen := touches_len hs.1 hs.2
  unfold tchN
  generalize hq : touches e = l at *
  refine Ok.ret Tryz.func12 (by kernel_rfl) (c := _) rfl Tryz.ntmps12 (by simp) Tryz.results12 (by intro _ h; cases h) fun w0 X hp => ?_
  refine LWp.seq ?_
  refine LWp.rz hT hW ?_
  simp
  refine LWp.seq ?_
  refine LWp.ro hT hW (fun | 8 => some <| .plain ⟨.d (strsD l), true⟩ | _ => none) ?_
  simp
  refine ⟨hq ▸ Touches_ok e hs.1 hs.2, ?_⟩
  refine LWp.seq ?_
  refine LWp.rz hT hW ?_
  simp
  refine LWp.seq ?_
  refine LWp.seq ?_
  refine LWp.rz hT hW ?_
  simp
  refine LWp.block ?_
  refine LWp.loopW (ι := Nat × List Str) (fun ⟨i, acc⟩ => mkEnv [(3, .d (strsD l)), (4, .ow 4 0 acc.length), (5, .d (I64 i))]) (fun ⟨i, acc⟩ => mkObs [(4, .row false 1 (acc.map DV.str))]) (fun ⟨i, acc⟩ => i ≤ l.length ∧ acc.length ≤ i ∧ acc = setS (l.take i)) (fun ⟨i, acc⟩ => l.length - i) (0, []) (Weak.to [3, 4, 5] [(4, 4)] (by decide) (by decide) (by simp [hp]) (by simp) (by simp)) (by simp [setS]) fun ⟨i, acc⟩ hi4 => ?_
  refine LWp.seq ?_
  refine LWp.seq ?_
  refine LWp.rz hT hW ?_
  simp
  refine LWp.iff ?_
  simp
  refine ⟨fun h4 => ?_, fun h4 => ?_⟩
  · refine LWp.skip ?_
    simp
    refine LWp.seq ?_
    refine LWp.block ?_
    refine LWp.seq ?_
    refine LWp.rz hT hW ?_
    simp
    refine LWp.seqCut (ι := Nat) (fun k => mkEnv [(3, .d (strsD l)), (4, .ow 4 0 acc.length), (5, .d (I64 i)), (6, .d (I64 k))]) (fun k => mkObs [(4, .row false 1 (acc.map DV.str))]) (fun k => k ≤ acc.length ∧ (∀ (j : Nat) (hj : j < acc.length), j < k → bless acc[j] l[i] = true) ∧ ∀ hj : k < acc.length, bless acc[k] l[i] = false) ?_ fun k hc9 => ?_
    · refine LWp.block ?_
      refine LWp.loopW (ι := Nat) (fun k => mkEnv [(3, .d (strsD l)), (4, .ow 4 0 acc.length), (5, .d (I64 i)), (6, .d (I64 k))]) (fun k => mkObs [(4, .row false 1 (acc.map DV.str))]) (fun k => k ≤ acc.length ∧ ∀ (j : Nat) (hj : j < acc.length), j < k → bless acc[j] l[i] = true) (fun k => acc.length - k) 0 (Weak.to [3, 4, 5, 6] [(4, 4)] (by decide) (by decide) (by simp [hp]) (by simp) (by simp)) (⟨Nat.zero_le _, fun j _ h => absurd h (Nat.not_lt_zero _)⟩) fun k hi7 => ?_
      refine LWp.seq ?_
      refine LWp.seq ?_
      rcases (by omega : acc.length ≤ k ∨ k < acc.length) with hk | hk
      · refine LWp.regAny hT hW hMixed (lk [[],[],[1],[0,1,2],[0,1,2,3],[0,1,2,3,4],[0,1,2,3,4],[0,1,2,3,4,5,6],[0,1,2,3,4,5,6,7],[0,1,2,3,4],[0,1,2,3,4],[0,1,2,3,4,9,10],[0,1,2,3,4,9,10,11],[0,1,2,3,4,5,6,7,8,9,10,11,12],[0,1,2,3,4,5,6,7,8,9,10,11,12,13]]) (lk [[],[],[],[],[],[],[],[],[],[],[],[],[],[],[]]) (lk [[],[],[],[],[],[],[],[],[],[],[],[],[],[],[]]) (by kernel_rfl) (fun _ => none) (fun _ => ⟨rfl, fun _ h => h⟩) ?_
        simp [Nat.not_lt.2 hk, h4]
        refine LWp.iff ?_
        simp [Nat.not_lt.2 hk, h4]
        refine LWp.exit ?_
        simp
        refine cutQ.mk k (Weak.to [3, 4, 5, 6] [(4, 4)] (by decide) (by decide) (by simp [hp]) (by simp) (by simp)) ?_
        exact ⟨hi7.1, hi7.2, fun hj => absurd hj (Nat.not_lt.2 hk)⟩
      · refine LWp.regAny hT hW hMixed (lk [[],[],[1],[0,1,2],[0,1,2,3],[0,1,2,3,4],[0,1,2,3,4],[0,1,2,3,4,5,6],[0,1,2,3,4,5,6,7],[0,1,2,3,4],[0,1,2,3,4],[0,1,2,3,4,9,10],[0,1,2,3,4,9,10,11],[0,1,2,3,4,5,6,7,8,9,10,11,12],[0,1,2,3,4,5,6,7,8,9,10,11,12,13]]) (lk [[],[],[],[],[],[],[],[],[],[],[],[],[],[],[]]) (lk [[],[],[],[],[],[],[],[],[],[],[],[],[],[],[]]) (by kernel_rfl) (fun _ => none) (fun _ => ⟨rfl, fun _ h => h⟩) ?_
        simp [hk, h4]
        refine LWp.iff ?_
        simp
        refine ⟨fun h7 => ?_, fun h7 => ?_⟩
        · refine LWp.skip ?_
          simp
          refine LWp.block ?_
          refine LWp.rz hT hW ?_
          simp
          refine ⟨by omega, ?_⟩
          refine loopQ.mk (k + 1) (Weak.to [3, 4, 5, 6] [(4, 4)] (by decide) (by decide) (by simp [hp]) (by simp) (by simp)) ?_ ?_
          · refine ⟨hk, fun j hj hjk => ?_⟩
            by_cases e : j = k
            · subst e; exact h7
            · exact hi7.2 j hj (by omega)
          · omega
        · refine LWp.exit ?_
          simp
          refine cutQ.mk k (Weak.to [3, 4, 5, 6] [(4, 4)] (by decide) (by decide) (by simp [hp]) (by simp) (by simp)) ?_
          exact ⟨hi7.1, hi7.2, fun _ => by simpa [bless] using h7⟩
    · refine LWp.seq ?_
      rcases (by omega : k = acc.length ∨ k < acc.length) with q9 | q9
      · refine LWp.regAny hT hW hMixed (lk [[],[],[1],[0,1,2],[0,1,2,3],[0,1,2,3,4],[0,1,2,3,4],[0,1,2,3,4,5,6],[0,1,2,3,4,5,6,7],[0,1,2,3,4],[0,1,2,3,4],[0,1,2,3,4,9,10],[0,1,2,3,4,9,10,11],[0,1,2,3,4,5,6,7,8,9,10,11,12],[0,1,2,3,4,5,6,7,8,9,10,11,12,13]]) (lk [[],[],[],[],[],[],[],[],[],[],[],[],[],[],[]]) (lk [[],[],[],[],[],[],[],[],[],[],[],[],[],[],[]]) (by kernel_rfl) (fun _ => none) (fun _ => ⟨rfl, fun _ h => h⟩) ?_
        simp [h4, q9]
        have hr : Rising bless acc := by rw [hi4.2.2]; exact (setS_spec _).1
        refine LWp.iff ?_
        simp [h4, q9]
        refine LWp.regAny hT hW hMixed (lk [[],[],[],[1,2],[0,1,2,3],[],[],[5,6],[5,6,7],[5,6,7,8],[0,1,2,3,4,5,6,7,8,9],[],[],[11,12],[0,1,2,3,4,5,6,7,8,9,10,11,12,13],[0,1,2,3,4,5,6,7,8,9,10,11,12,13,14]]) (lk [[56],[47,56],[47,56],[47,56],[56],[47,51],[47,51],[47,51],[47,51],[47,51],[],[47,51,56,57],[47,51,56,57],[47,51,56,57],[],[]]) (lk [[47],[],[],[],[47,51],[],[],[],[],[56],[51,57],[],[],[],[57,61],[]]) (by kernel_rfl) (fun _ => none) (fun _ => ⟨rfl, fun _ h => h⟩) ?_
        simp [h4]
        refine ⟨by have := hi4.2.1; have := hc9.1; omega, ?_⟩
        refine LWp.rz hT hW ?_
        simp
        refine ⟨by omega, ?_⟩
        refine loopQ.mk (i + 1, insAt k l[i] acc) (Weak.to [3, 4, 5] [(61, 4)] (by decide) (by decide) (by simp [hp]) (by simp [q9, insAt_length]) (by simp [q9, row_end_str])) ?_ ?_
        · refine ⟨h4, by have := hi4.2.1; dsimp only; rw [insAt_length]; omega, ?_⟩
          dsimp only
          rw [setS_take h4, ← hi4.2.2]
          exact set_step_at hr hc9.1 hc9.2.1 hc9.2.2 fun hj => absurd hj (by omega)
        · omega
      · have hr : Rising bless acc := by rw [hi4.2.2]; exact (setS_spec _).1
        refine LWp.regAny hT hW hMixed (lk [[],[],[1],[0,1,2],[0,1,2,3],[0,1,2,3,4],[0,1,2,3,4],[0,1,2,3,4,5,6],[0,1,2,3,4,5,6,7],[0,1,2,3,4],[0,1,2,3,4],[0,1,2,3,4,9,10],[0,1,2,3,4,9,10,11],[0,1,2,3,4,5,6,7,8,9,10,11,12],[0,1,2,3,4,5,6,7,8,9,10,11,12,13]]) (lk [[],[],[],[],[],[],[],[],[],[],[],[],[],[],[]]) (lk [[],[],[],[],[],[],[],[],[],[],[],[],[],[],[]]) (by kernel_rfl) (fun _ => none) (fun _ => ⟨rfl, fun _ h => h⟩) ?_
        simp [h4, q9]
        refine LWp.iff ?_
        simp
        refine ⟨fun h9 => ?_, fun h9 g9 => ?_⟩
        · refine LWp.regAny hT hW hMixed (lk [[],[],[],[1,2],[0,1,2,3],[],[],[5,6],[5,6,7],[5,6,7,8],[0,1,2,3,4,5,6,7,8,9],[],[],[11,12],[0,1,2,3,4,5,6,7,8,9,10,11,12,13],[0,1,2,3,4,5,6,7,8,9,10,11,12,13,14]]) (lk [[56],[47,56],[47,56],[47,56],[56],[47,51],[47,51],[47,51],[47,51],[47,51],[],[47,51,56,57],[47,51,56,57],[47,51,56,57],[],[]]) (lk [[47],[],[],[],[47,51],[],[],[],[],[56],[51,57],[],[],[],[57,61],[]]) (by kernel_rfl) (fun _ => none) (fun _ => ⟨rfl, fun _ h => h⟩) ?_
          simp [h4]
          refine ⟨by have := hi4.2.1; have := hc9.1; omega, ?_⟩
          refine LWp.rz hT hW ?_
          simp
          refine ⟨by omega, ?_⟩
          refine loopQ.mk (i + 1, insAt k l[i] acc) (Weak.to [3, 4, 5] [(61, 4)] (by decide) (by decide) (by simp [hp]) (by simp [insAt_length, Nat.min_eq_left hc9.1, show k + 1 + (acc.length - k) = acc.length + 1 by omega]) (by simp [Nat.min_eq_left hc9.1, ← row_ins_str hc9.1])) ?_ ?_
          · refine ⟨h4, by have := hi4.2.1; dsimp only; rw [insAt_length]; omega, ?_⟩
            dsimp only
            rw [setS_take h4, ← hi4.2.2]
            exact set_step_at hr hc9.1 hc9.2.1 hc9.2.2 fun hj => by rcases h9 with h9 | h9; exact absurd h9 (by omega); exact h9
          · omega
        · refine LWp.skip ?_
          simp
          refine LWp.rz hT hW ?_
          simp
          refine ⟨by omega, ?_⟩
          refine loopQ.mk (i + 1, acc) (Weak.to [3, 4, 5] [(4, 4)] (by decide) (by decide) (by simp [hp]) (by simp) (by simp)) ?_ ?_
          · refine ⟨h4, by have := hi4.2.1; dsimp only; omega, ?_⟩
            dsimp only
            rw [setS_take h4, ← hi4.2.2]
            unfold setStep
            rw [if_pos ((set_there hr q9 hc9.2.1 (hc9.2.2 q9)).1 g9)]
          · omega
  · refine LWp.exit ?_
    simp
    refine LWp.seq ?_
    refine LWp.rz hT hW ?_
    simp
    refine LWp.ret ?_
    have e : acc = setS l := by rw [hi4.2.2, List.take_of_length_le (by omega)]
    simp [← e]
theorem Common_ok (a b : Ed) (ha : a.small) (hb : b.small) : Ok Tryz.prog 56 [a.d, b.d] ⟨.d (strsD (commonL a b)), true⟩ := by
  have hla := tchN_len ha
  unfold commonL
  refine Ok.ret Tryz.func56 (by kernel_rfl) (c := _) rfl Tryz.ntmps56 (by simp) Tryz.results56 (by intro _ h; cases h) fun w0 X hp => ?_
  refine LWp.seq ?_
  refine LWp.rz hT hW ?_
  simp
  refine LWp.seq ?_
  refine LWp.ro hT hW (fun | 10 => some <| .plain ⟨.d (strsD (tchN a)), true⟩ | _ => none) ?_
  simp
  refine ⟨Touches23_ok a ha, ?_⟩
  refine LWp.seq ?_
  refine LWp.ro hT hW (fun | 12 => some <| .plain ⟨.d (strsD (tchN b)), true⟩ | _ => none) ?_
  simp
  refine ⟨Touches23_ok b hb, ?_⟩
  refine LWp.seq ?_
  refine LWp.rz hT hW ?_
  simp
  refine LWp.seq ?_
  refine LWp.seq ?_
  refine LWp.rz hT hW ?_
  simp
  refine LWp.block ?_
  refine LWp.loopW (ι := Nat × List Str) (fun ⟨q, acc⟩ => mkEnv [(7, .ow 7 0 acc.length), (5, .d (strsD (tchN a))), (6, .d (strsD (tchN b))), (8, .d (I64 q))]) (fun ⟨q, acc⟩ => mkObs [(7, .row false 1 (acc.map .str))]) (fun ⟨q, acc⟩ => q ≤ (tchN a).length ∧ acc.length ≤ q ∧ acc = ((tchN a).take q).filter fun s => decide (s ∈ tchN b)) (fun ⟨q, acc⟩ => (tchN a).length - q) (0, []) (Weak.to [7, 5, 6, 8] [(7, 7)] (by decide) (by decide) (by simp [hp]) (by simp) (by simp)) (by simp) fun ⟨q, acc⟩ hi5 => ?_
  refine LWp.seq ?_
  refine LWp.seq ?_
  refine LWp.rz hT hW ?_
  simp
  refine LWp.iff ?_
  simp
  refine ⟨fun h5 => ?_, fun h5 => ?_⟩
  · refine LWp.skip ?_
    simp
    refine LWp.seq ?_
    refine LWp.block ?_
    refine LWp.seq ?_
    refine LWp.ro hT hW (fun | 24 => some <| .plain ⟨.d (.bool (decide ((tchN a)[q] ∈ tchN b))), true⟩ | _ => none) ?_
    simp [h5]
    refine ⟨In_ok _ _, ?_⟩
    refine LWp.iff ?_
    simp
    refine ⟨fun h7 => ?_, fun h7 => ?_⟩
    · refine LWp.rz hT hW ?_
      simp [h5]
      refine ⟨by have := hi5.2.1; omega, ?_⟩
      refine LWp.rz hT hW ?_
      simp
      refine ⟨by omega, ?_⟩
      refine loopQ.mk (q + 1, acc ++ [(tchN a)[q]]) (Weak.to [7, 5, 6, 8] [(31, 7)] (by decide) (by decide) (by simp [hp]) (by simp) (by simp)) ?_ ?_
      · refine ⟨h5, by have := hi5.2.1; simp; omega, ?_⟩
        dsimp only
        rw [filter_take_succ h5, ← hi5.2.2]; simp [h7]
      · omega
    · refine LWp.skip ?_
      simp
      refine LWp.rz hT hW ?_
      simp
      refine ⟨by omega, ?_⟩
      refine loopQ.mk (q + 1, acc) (Weak.to [7, 5, 6, 8] [(7, 7)] (by decide) (by decide) (by simp [hp]) (by simp) (by simp)) ?_ ?_
      · refine ⟨h5, by have := hi5.2.1; dsimp only; omega, ?_⟩
        dsimp only
        rw [filter_take_succ h5, ← hi5.2.2]; simp [h7]
      · omega
  · refine LWp.exit ?_
    simp
    refine LWp.seq ?_
    refine LWp.rz hT hW ?_
    simp
    refine LWp.ret ?_
    have e2 : acc = (tchN a).filter fun s => decide (s ∈ tchN b) := by rw [hi5.2.2, List.take_of_length_le (by omega)]
    simp [← e2]
theorem edAt_none {l : List Ed} {n : Nm} (h : findI l n < 0) : edAt l n = default := by
  unfold findI at h
  unfold edAt
  cases q : find? l n with
  | none => rfl
  | some i => rw [q] at h; simp at h; omega
theorem def_found {l : List Df} {s : Str} {i : Nat} (hi : i < l.length) (h : Pre (fun d => decide (d.name = s)) l i) (e : l[i].name = s) : defOf l s = some l[i] := by
  unfold defOf
  rw [List.find?_eq_some_iff_getElem]
  exact ⟨by simpa using e, i, hi, rfl, fun j hj => by have := h j (by omega) hj; simpa using this⟩
theorem def_nowhere {l : List Df} {s : Str} {i : Nat} (hi : l.length ≤ i) (h : Pre (fun d => decide (d.name = s)) l i) : defOf l s = none := by
  unfold defOf
  rw [List.find?_eq_none]
  intro d hd
  obtain ⟨j, hj, rfl⟩ := List.getElem_of_mem hd
  have := h j hj (by omega)
  simpa using this
theorem Of_ok (l : List Ed) (n : Nm) : Ok Tryz.prog 33 [edsD l, n.d] ⟨.tup [.d (edAt l n).d, .d (.bool (decide (0 ≤ findI l n)))], false⟩ := by
  refine Ok.many hT Tryz.func33 (by kernel_rfl) (c := _) rfl Tryz.ntmps33 (by simp) Tryz.results33 (by simp) (by rfl) fun w0 X hp => ?_
  refine LWp.seq ?_
  refine LWp.rz hT hW ?_
  simp
  refine LWp.seq ?_
  refine LWp.ro hT hW (fun | 9 => some <| .plain ⟨.d (I64 (findI l n)), true⟩ | _ => none) ?_
  simp
  refine ⟨Find_ok l n, ?_⟩
  refine LWp.seq ?_
  refine LWp.seq ?_
  refine LWp.rz hT hW ?_
  simp
  refine LWp.iff ?_
  simp
  refine ⟨fun h2 => ?_, fun h2 => ?_⟩
  · refine LWp.seq ?_
    refine LWp.rz hT hW ?_
    simp
    refine LWp.ret ?_
    rw [edAt_none (show findI l n < 0 by omega)]
    simp
    refine ⟨⟨rfl, rfl, rfl, rfl, rfl⟩, by omega⟩
  · refine LWp.skip ?_
    simp
    refine LWp.seq ?_
    obtain ⟨i, hi, fa, ea⟩ := edAt_of (show 0 ≤ findI l n by omega)
    refine LWp.rz hT hW ?_
    simp [fa, hi]
    refine LWp.ret ?_
    simp [ea]
theorem without_ok (l : List Nm) (n : Nm) (hl : l.length ≤ 1100000) : Ok Tryz.prog 73 [nmsD l, n.d] ⟨.d (nmsD (lessN l n)), true⟩ := by
  refine Ok.ret Tryz.func73 (by kernel_rfl) (c := _) rfl Tryz.ntmps73 (by simp) Tryz.results73 (by intro _ h; cases h) fun w0 X hp => ?_
  refine LWp.seq ?_
  refine LWp.rz hT hW ?_
  simp
  refine LWp.seq ?_
  refine LWp.rz hT hW ?_
  simp
  refine LWp.seq ?_
  refine LWp.seq ?_
  refine LWp.rz hT hW ?_
  simp
  refine LWp.block ?_
  refine LWp.loopW (ι := Nat × List Nm) (fun ⟨i, acc⟩ => mkEnv [(0, .d (nmsD l)), (3, .bx 3 0), (5, .ow 5 0 acc.length), (6, .d (I64 i))]) (fun ⟨i, acc⟩ => mkObs [(3, .box false [.d (I64 n.who), .d (I64 n.seq)]), (5, .row false 2 (acc.map Nm.d))]) (fun ⟨i, acc⟩ => i ≤ l.length ∧ acc.length ≤ i ∧ acc = lessN (l.take i) n) (fun ⟨i, acc⟩ => l.length - i) (0, []) (Weak.to [0, 3, 5, 6] [(3, 3), (5, 5)] (by decide) (by decide) (by simp [hp]) (by simp) (by simp)) (by simp [lessN]) fun ⟨i, acc⟩ hi3 => ?_
  refine LWp.seq ?_
  refine LWp.seq ?_
  refine LWp.rz hT hW ?_
  simp
  refine LWp.iff ?_
  simp
  refine ⟨fun h3 => ?_, fun h3 => ?_⟩
  · refine LWp.skip ?_
    simp
    refine LWp.seq ?_
    refine LWp.block ?_
    refine LWp.seq ?_
    refine LWp.regAny hT hW hMixed (lk [[],[],[0,1],[0,1,2],[],[0,1,2,3,4]]) (lk [[],[],[],[],[],[]]) (lk [[],[],[],[],[],[]]) (by kernel_rfl) (fun _ => none) (fun _ => ⟨rfl, fun _ h => h⟩) ?_
    simp [h3]
    refine LWp.iff ?_
    simp
    refine ⟨fun h5 => ?_, fun h5 => ?_⟩
    · refine LWp.rz hT hW ?_
      simp [h3]
      refine ⟨by have := hi3.2.1; omega, ?_⟩
      refine LWp.rz hT hW ?_
      simp
      refine ⟨by omega, ?_⟩
      refine loopQ.mk (i + 1, acc ++ [l[i]]) (Weak.to [0, 3, 5, 6] [(3, 3), (25, 5)] (by decide) (by decide) (by simp [hp]) (by simp) (by simp)) ?_ ?_
      · refine ⟨h3, by have := hi3.2.1; simp; omega, ?_⟩
        dsimp only [lessN] at *
        rw [filter_take_succ h3, ← hi3.2.2]; simp [h5]
      · omega
    · refine LWp.skip ?_
      simp
      refine LWp.rz hT hW ?_
      simp
      refine ⟨by omega, ?_⟩
      refine loopQ.mk (i + 1, acc) (Weak.to [0, 3, 5, 6] [(3, 3), (5, 5)] (by decide) (by decide) (by simp [hp]) (by simp) (by simp)) ?_ ?_
      · refine ⟨h3, by have := hi3.2.1; dsimp only; omega, ?_⟩
        dsimp only [lessN] at *
        rw [filter_take_succ h3, ← hi3.2.2]; simp [h5]
      · omega
  · refine LWp.exit ?_
    simp
    refine LWp.seq ?_
    refine LWp.rz hT hW ?_
    simp
    refine LWp.ret ?_
    have e2 : acc = lessN l n := by rw [hi3.2.2, List.take_of_length_le (by omega)]
    simp [← e2]
theorem Def_ok (l : List Df) (s : Str) : Ok Tryz.prog 34 [dfsD l, .str s] ⟨.tup [.d ((defOf l s).getD default).d, .d (.bool (defOf l s).isSome)], true⟩ := by
  refine Ok.many hT Tryz.func34 (by kernel_rfl) (c := _) rfl Tryz.ntmps34 (by simp) Tryz.results34 (by simp) (by rfl) fun w0 X hp => ?_
  refine LWp.len (t := 0) rfl fun hlen => ?_
  simp at hlen
  refine LWp.seq ?_
  refine LWp.rz hT hW ?_
  simp
  refine LWp.seq ?_
  refine LWp.seq ?_
  refine LWp.rz hT hW ?_
  simp
  refine LWp.block ?_
  refine LWp.loopW (ι := Nat) (fun i => mkEnv [(0, .d (dfsD l)), (1, .d (.str s)), (4, .bx 4 0), (5, .d (.bool false)), (6, .d (I64 i))]) (fun i => mkObs [(4, .box false [.d (.str []), .d (.str [])])]) (fun i => i ≤ l.length ∧ Pre (fun d => decide (d.name = s)) l i) (fun i => l.length - i) 0 (Weak.to [0, 1, 4, 5, 6] [(4, 4)] (by decide) (by decide) (by simp [hp]) (by simp) (by simp)) (⟨Nat.zero_le _, Pre.zero⟩) fun i hi2 => ?_
  refine LWp.seq ?_
  refine LWp.seq ?_
  refine LWp.rz hT hW ?_
  simp
  refine LWp.iff ?_
  simp
  refine ⟨fun h2 => ?_, fun h2 => ?_⟩
  · refine LWp.skip ?_
    simp
    refine LWp.seq ?_
    refine LWp.block ?_
    refine LWp.seq ?_
    refine LWp.rz hT hW ?_
    simp [h2]
    refine LWp.iff ?_
    simp
    refine ⟨fun h4 => ?_, fun h4 => ?_⟩
    · refine LWp.seq ?_
      refine LWp.rz hT hW ?_
      simp [h2]
      refine LWp.ret ?_
      have e := def_found h2 hi2.2 (by simpa using h4)
      simp [e]
    · refine LWp.skip ?_
      simp
      refine LWp.rz hT hW ?_
      simp
      refine ⟨by omega, ?_⟩
      refine loopQ.mk (i + 1) (Weak.to [0, 1, 4, 5, 6] [(4, 4)] (by decide) (by decide) (by simp [hp]) (by simp) (by simp)) ?_ ?_
      · exact ⟨h2, hi2.2.succ h2 (by simpa using h4)⟩
      · omega
  · refine LWp.exit ?_
    simp
    refine LWp.seq ?_
    refine LWp.rz hT hW ?_
    simp
    refine LWp.ret ?_
    have e := def_nowhere h2 hi2.2
    simp [e]
    exact ⟨rfl, rfl⟩
open Go.Proofs
theorem IndexNs_ok (l : List Nm) (p : Nm → Bool) (g : FuncId) (cs : List DV) (hg : ∀ x ∈ l, Ok Tryz.prog g (x.d :: cs) ⟨.d (.bool (p x)), true⟩) : Ok Tryz.prog 159 [nmsD l, .fn g cs] ⟨.d (I64 (idxI p l)), true⟩ := by
  refine Ok.ret Tryz.func159 (by kernel_rfl) (c := _) rfl Tryz.ntmps159 (by simp) Tryz.results159 (by intro _ h; cases h) fun w0 X hp => ?_
  refine LWp.len (t := 0) rfl fun hlen => ?_
  simp at hlen
  refine LWp.seq ?_
  refine LWp.rz hT hW ?_
  simp
  refine LWp.seq ?_
  refine LWp.seq ?_
  refine LWp.rz hT hW ?_
  simp
  refine LWp.block ?_
  refine LWp.loopW (ι := Nat) (fun i => mkEnv [(0, .d (nmsD l)), (1, .d (.fn g cs)), (7, .d (I64 l.length)), (8, .d (I64 i))]) (fun i => mkObs []) (fun i => i ≤ l.length ∧ Pre p l i) (fun i => l.length - i) 0 (Weak.to [0, 1, 7, 8] [] (by decide) (by decide) (by simp [hp]) (by simp) (by simp)) (⟨Nat.zero_le _, Pre.zero⟩) fun i hi2 => ?_
  refine LWp.seq ?_
  refine LWp.rz hT hW ?_
  simp
  refine LWp.seq ?_
  refine LWp.iff ?_
  simp
  refine ⟨fun h2 => ?_, fun h2 => ?_⟩
  · refine LWp.skip ?_
    simp
    refine LWp.seq ?_
    refine LWp.block ?_
    refine LWp.seq ?_
    refine LWp.rz hT hW ?_
    simp
    refine LWp.seq ?_
    refine LWp.ro hT hW (fun | 16 => some <| .plain ⟨.d (.bool (p l[i])), true⟩ | _ => none) ?_
    simp [h2]
    refine ⟨hg l[i] (List.getElem_mem h2), ?_⟩
    refine LWp.iff ?_
    simp
    refine ⟨fun h4 => ?_, fun h4 => ?_⟩
    · refine LWp.seq ?_
      refine LWp.rz hT hW ?_
      simp
      refine LWp.ret ?_
      simp [idxI_some (hi2.2.found h2 h4)]
    · refine LWp.skip ?_
      simp
      refine LWp.rz hT hW ?_
      simp
      refine ⟨by omega, ?_⟩
      refine loopQ.mk (i + 1) (Weak.to [0, 1, 7, 8] [] (by decide) (by decide) (by simp [hp]) (by simp) (by simp)) ?_ ?_
      · exact ⟨h2, hi2.2.succ h2 h4⟩
      · omega
  · refine LWp.exit ?_
    simp
    refine LWp.seq ?_
    refine LWp.rz hT hW ?_
    simp
    refine LWp.ret ?_
    simp [idxI_none (hi2.2.none (by omega))]
theorem AnyNs_ok (l : List Nm) (p : Nm → Bool) (g : FuncId) (cs : List DV) (hg : ∀ x ∈ l, Ok Tryz.prog g (x.d :: cs) ⟨.d (.bool (p x)), true⟩) : Ok Tryz.prog 131 [nmsD l, .fn g cs] ⟨.d (.bool (l.any p)), true⟩ := by
  refine Ok.ret Tryz.func131 (by kernel_rfl) (c := _) rfl Tryz.ntmps131 (by simp) Tryz.results131 (by intro _ h; cases h) fun w0 X hp => ?_
  refine LWp.seq ?_
  refine LWp.rz hT hW ?_
  simp
  refine LWp.seq ?_
  refine LWp.ro hT hW (fun | 7 => some <| .plain ⟨.d (I64 (idxI p l)), true⟩ | _ => none) ?_
  simp
  refine ⟨IndexNs_ok l p g cs hg, ?_⟩
  refine LWp.ret ?_
  simp [← idxI_nonneg]
theorem IndexOfNs_ok (l : List Nm) (n : Nm) : Ok Tryz.prog 149 [nmsD l, n.d] ⟨.d (I64 (idxI (fun x => decide (n = x)) l)), true⟩ := by
  refine Ok.ret Tryz.func149 (by kernel_rfl) (c := _) rfl Tryz.ntmps149 (by simp) Tryz.results149 (by intro _ h; cases h) fun w0 X hp => ?_
  refine LWp.len (t := 0) rfl fun hlen => ?_
  simp at hlen
  refine LWp.seq ?_
  refine LWp.rz hT hW ?_
  simp
  refine LWp.seq ?_
  refine LWp.seq ?_
  refine LWp.rz hT hW ?_
  simp
  refine LWp.block ?_
  refine LWp.loopW (ι := Nat) (fun i => mkEnv [(0, .d (nmsD l)), (3, .bx 3 0), (7, .d (I64 l.length)), (8, .d (I64 i))]) (fun i => mkObs [(3, .box false [.d (I64 n.who), .d (I64 n.seq)])]) (fun i => i ≤ l.length ∧ Pre (fun x => decide (n = x)) l i) (fun i => l.length - i) 0 (Weak.to [0, 3, 7, 8] [(3, 3)] (by decide) (by decide) (by simp [hp]) (by simp) (by simp)) (⟨Nat.zero_le _, Pre.zero⟩) fun i hi2 => ?_
  refine LWp.seq ?_
  refine LWp.rz hT hW ?_
  simp
  refine LWp.seq ?_
  refine LWp.iff ?_
  simp
  refine ⟨fun h2 => ?_, fun h2 => ?_⟩
  · refine LWp.skip ?_
    simp
    refine LWp.seq ?_
    refine LWp.block ?_
    refine LWp.seq ?_
    refine LWp.rz hT hW ?_
    simp
    refine LWp.seq ?_
    refine LWp.regAny hT hW hMixed (lk [[],[],[],[1,2],[1,2,3],[0,1,2,3,4]]) (lk [[],[],[],[],[],[]]) (lk [[],[],[],[],[],[]]) (by kernel_rfl) (fun _ => none) (fun _ => ⟨rfl, fun _ h => h⟩) ?_
    simp [h2]
    refine LWp.iff ?_
    simp
    refine ⟨fun h4 => ?_, fun h4 => ?_⟩
    · refine LWp.seq ?_
      refine LWp.rz hT hW ?_
      simp
      refine LWp.ret ?_
      simp [idxI_some (hi2.2.found h2 (by simpa using h4))]
    · refine LWp.skip ?_
      simp
      refine LWp.rz hT hW ?_
      simp
      refine ⟨by omega, ?_⟩
      refine loopQ.mk (i + 1) (Weak.to [0, 3, 7, 8] [(3, 3)] (by decide) (by decide) (by simp [hp]) (by simp) (by simp)) ?_ ?_
      · exact ⟨h2, hi2.2.succ h2 (by simpa using h4)⟩
      · omega
  · refine LWp.exit ?_
    simp
    refine LWp.seq ?_
    refine LWp.rz hT hW ?_
    simp
    refine LWp.ret ?_
    simp [idxI_none (hi2.2.none (by omega))]
theorem InNs_ok (l : List Nm) (n : Nm) : Ok Tryz.prog 111 [nmsD l, n.d] ⟨.d (.bool (decide (n ∈ l))), true⟩ := by
  refine Ok.ret Tryz.func111 (by kernel_rfl) (c := _) rfl Tryz.ntmps111 (by simp) Tryz.results111 (by intro _ h; cases h) fun w0 X hp => ?_
  refine LWp.seq ?_
  refine LWp.rz hT hW ?_
  simp
  refine LWp.seq ?_
  refine LWp.ro hT hW (fun | 7 => some <| .plain ⟨.d (I64 (idxI (fun x => decide (n = x)) l)), true⟩ | _ => none) ?_
  simp
  refine ⟨IndexOfNs_ok l n, ?_⟩
  refine LWp.ret ?_
  simp [idxI_nonneg']
theorem CloneNs_ok (l : List Nm) (hl : l.length ≤ 8000000000000) : Ok Tryz.prog 113 [nmsD l] ⟨.own 2 (l.map Nm.d), true⟩ := by
  refine Ok.ret Tryz.func113 (by kernel_rfl) (c := _) rfl Tryz.ntmps113 (by simp) Tryz.results113 (by intro _ h; cases h) fun w0 X hp => ?_
  refine LWp.seq ?_
  refine LWp.rz hT hW ?_
  simp
  refine LWp.seq ?_
  refine LWp.seq ?_
  refine LWp.regNil hT hW 4 (decide (l = [])) (fun _ => none) (fun _ => ⟨rfl, fun _ h => h⟩) (by kernel_rfl) fun b1 hb1 => ?_
  simp
  refine LWp.iff ?_
  simp
  refine ⟨fun h1 => ?_, fun h1 => ?_⟩
  · refine LWp.seq ?_
    refine LWp.rz hT hW ?_
    simp
    refine LWp.ret ?_
    have := hb1 h1
    simp at this
    simp [this]
  · refine LWp.skip ?_
    simp
    refine LWp.seq ?_
    refine LWp.rz hT hW ?_
    simp
    refine ⟨by omega, ?_⟩
    refine LWp.ret ?_
    simp
theorem CompactNs_ok (l : List Nm) (hl : l.length ≤ 8000000000000) : OkG Tryz.prog 116 [.ow 0 0 l.length] [(0, .row false 2 (l.map Nm.d))] [(0, .row false 2 ((dedup l).map Nm.d ++ List.replicate (l.length - (dedup l).length) zeroNm.d))] (.ow 0 0 (dedup l).length) := by
  refine OkG.one Tryz.func116 (by kernel_rfl) (c := _) rfl Tryz.ntmps116 (by simp) Tryz.results116 fun w0 X hp => ?_
  refine LWp.seq ?_
  refine LWp.rz hT hW ?_
  simp
  refine LWp.seq ?_
  refine LWp.seq ?_
  refine LWp.rz hT hW ?_
  simp
  refine LWp.iff ?_
  simp
  refine ⟨fun h1 => ?_, fun h1 => ?_⟩
  · refine LWp.seq ?_
    refine LWp.rz hT hW ?_
    simp
    refine LWp.ret ?_
    simp
    refine Weak.to [2] [(0, 0)] (by decide) (by decide) (by simp [hp]) ?_ ?_
    · simp [dedup_small (by omega : l.length < 2)]
    · simp [dedup_small (by omega : l.length < 2)]
  · refine LWp.skip ?_
    simp
    refine LWp.seq ?_
    refine LWp.seq ?_
    refine LWp.rz hT hW ?_
    simp
    refine LWp.block ?_
    refine LWp.loopW (ι := Nat) (fun k => mkEnv [(0, .ow 0 0 l.length), (3, .d (I64 k))]) (fun k => mkObs [(0, .row false 2 (l.map Nm.d))]) (fun k => 1 ≤ k ∧ k ≤ l.length ∧ dedup (l.take k) = l.take k) (fun k => l.length - k) 1 (Weak.to [0, 3] [(0, 0)] (by decide) (by decide) (by simp [hp]) (by simp) (by simp)) (⟨by omega, by omega, dedup_one⟩) fun k hi4 => ?_
    refine LWp.seq ?_
    refine LWp.seq ?_
    refine LWp.rz hT hW ?_
    simp
    refine LWp.iff ?_
    simp
    refine ⟨fun h4 => ?_, fun h4 => ?_⟩
    · refine LWp.skip ?_
      simp
      refine LWp.seq ?_
      refine LWp.block ?_
      refine LWp.seq ?_
      refine LWp.regAny hT hW hMixed (lk [[],[],[0,1],[0,1,2],[],[],[5],[4,5,6],[4,5,6,7],[0,1,2,3,4,5,6,7,8]]) (lk [[],[],[],[],[],[],[],[],[],[]]) (lk [[],[],[],[],[],[],[],[],[],[]]) (by kernel_rfl) (fun _ => none) (fun _ => ⟨rfl, fun _ h => h⟩) ?_
      simp [(show ((k : Int) - 1).toNat = k - 1 by omega), h4, (show k - 1 < l.length by omega)]
      refine ⟨by omega, ?_⟩
      refine LWp.iff ?_
      simp
      refine ⟨fun h6 => ?_, fun h6 => ?_⟩
      · refine LWp.seq ?_
        refine LWp.rz hT hW ?_
        simp
        refine ⟨by omega, ?_⟩
        refine LWp.seq ?_
        refine LWp.seq ?_
        refine LWp.rz hT hW ?_
        simp
        refine LWp.block ?_
        refine LWp.loopW (ι := Nat × Nat × List Nm) (fun ⟨q, k', r⟩ => mkEnv [(0, .ow 0 0 l.length), (3, .d (I64 k')), (4, .ow 0 k (l.length - k)), (5, .d (I64 q))]) (fun ⟨q, k', r⟩ => mkObs [(0, .row false 2 (r.map Nm.d))]) (fun ⟨q, k', r⟩ => 1 ≤ q ∧ k + q ≤ l.length ∧ 1 ≤ k' ∧ k' + 1 ≤ k + q ∧ r.length = l.length ∧ r.take k' = dedup (l.take (k + q)) ∧ r.drop (k + q - 1) = l.drop (k + q - 1)) (fun ⟨q, k', r⟩ => l.length - k - q) (1, k, l) (Weak.to [0, 3, 4, 5] [(0, 0)] (by decide) (by decide) (by simp [hp]) (by simp) (by simp)) (⟨by omega, by omega, by omega, by omega, rfl, by rw [dedup_take (by omega) h4, if_pos h6.symm, hi4.2.2], rfl⟩) fun ⟨q, k', r⟩ hi9 => ?_
        refine LWp.seq ?_
        refine LWp.seq ?_
        refine LWp.rz hT hW ?_
        simp
        refine LWp.iff ?_
        simp
        refine ⟨fun h9 => ?_, fun h9 => ?_⟩
        · refine LWp.skip ?_
          simp
          refine LWp.seq ?_
          refine LWp.block ?_
          refine LWp.seq ?_
          obtain ⟨g1, g2, g3, g4, g5, g6, g7⟩ := hi9
          have hq : k + q < l.length := by omega
          have e1 : r[k + q]'(by omega) = l[k + q] := drop_get g7 (by omega) (by omega) hq
          have e2 : r[k + (q - 1)]'(by omega) = l[k + (q - 1)] := drop_get g7 (by omega) (by omega) (by omega)
          refine LWp.regAny hT hW hMixed (lk [[],[],[0,1],[0,1,2],[],[],[5],[4,5,6],[4,5,6,7],[0,1,2,3,4,5,6,7,8]]) (lk [[],[],[],[],[],[],[],[],[],[]]) (lk [[],[],[],[],[],[],[],[],[],[]]) (by kernel_rfl) (fun _ => none) (fun _ => ⟨rfl, fun _ h => h⟩) ?_
          simp [(show ((q : Int) - 1).toNat = q - 1 by omega), (show k + q < r.length by omega), (show k + (q - 1) < r.length by omega), e1, e2]
          refine ⟨by omega, ?_⟩
          refine LWp.iff ?_
          simp
          refine ⟨fun h11 => ?_, fun h11 => ?_⟩
          · refine LWp.seq ?_
            refine LWp.rz hT hW ?_
            simp [(show k + q < r.length by omega), e1]
            refine ⟨by omega, ?_⟩
            refine LWp.rz hT hW ?_
            simp
            refine ⟨by omega, ?_⟩
            refine LWp.rz hT hW ?_
            simp
            refine ⟨by omega, ?_⟩
            refine loopQ.mk (q + 1, k' + 1, r.set k' l[k + q]) (Weak.to [0, 3, 4, 5] [(0, 0)] (by decide) (by decide) (by simp [hp]) (by simp) (by simp)) ?_ ?_
            · have hk' : k' < r.length := by omega
              have e3 : ¬ l[k + q - 1] = l[k + q] := fun e => h11 (by rw [← e]; congr 1; omega)
              dsimp only
              refine ⟨by omega, by omega, by omega, by omega, by simp [g5], ?_, ?_⟩
              · rw [List.take_succ_eq_append_getElem (by simpa using hk'), List.getElem_set_self, List.take_set_of_le (by omega), g6, ← Nat.add_assoc, dedup_take (by omega) hq, if_neg e3]
              · have g8 := congrArg (List.drop 1) g7
                rw [List.drop_drop, List.drop_drop, show k + q - 1 + 1 = k + q by omega] at g8
                rw [show k + (q + 1) - 1 = k + q by omega, List.drop_set_of_lt (by omega), g8]
            · omega
          · refine LWp.skip ?_
            simp
            refine LWp.rz hT hW ?_
            simp
            refine ⟨by omega, ?_⟩
            refine loopQ.mk (q + 1, k', r) (Weak.to [0, 3, 4, 5] [(0, 0)] (by decide) (by decide) (by simp [hp]) (by simp) (by simp)) ?_ ?_
            · have e3 : l[k + q - 1] = l[k + q] := by rw [h11]; congr 1; omega
              dsimp only
              refine ⟨by omega, by omega, by omega, by omega, g5, ?_, ?_⟩
              · rw [g6, ← Nat.add_assoc, dedup_take (by omega) hq, if_pos e3]
              · have g8 := congrArg (List.drop 1) g7
                rw [List.drop_drop, List.drop_drop, show k + q - 1 + 1 = k + q by omega] at g8
                rw [show k + (q + 1) - 1 = k + q by omega, g8]
            · omega
        · refine LWp.exit ?_
          simp
          refine LWp.seq ?_
          refine LWp.rz hT hW ?_
          simp
          refine ⟨by omega, ?_⟩
          refine LWp.seq ?_
          refine LWp.rz hT hW ?_
          simp
          refine ⟨by omega, ?_⟩
          refine LWp.ret ?_
          simp
          obtain ⟨g1, g2, g3, g4, g5, g6, g7⟩ := hi9
          have hq : k + q = l.length := by omega
          rw [hq, List.take_length] at g6
          have hkl : (dedup l).length = k' := by rw [← g6]; simp; omega
          refine Weak.to [2] [(0, 0)] (by decide) (by decide) (by simp [hp]) ?_ ?_
          · simp [hkl]
          · have hd : List.drop (k' + (l.length - k')) (List.map Nm.d r) = [] := List.drop_eq_nil_of_le (by simp; omega)
            simp
            rw [hd, hkl, ← g6, List.map_take, List.append_nil]
            rfl
      · refine LWp.skip ?_
        simp
        refine LWp.rz hT hW ?_
        simp
        refine ⟨by omega, ?_⟩
        refine loopQ.mk (k + 1) (Weak.to [0, 3] [(0, 0)] (by decide) (by decide) (by simp [hp]) (by simp) (by simp)) ?_ ?_
        · have e6 : ¬ l[k - 1] = l[k] := fun e => h6 e.symm
          exact ⟨by omega, h4, by rw [dedup_take (by omega) h4, if_neg e6, hi4.2.2]; simp⟩
        · omega
    · refine LWp.exit ?_
      simp
      refine LWp.seq ?_
      refine LWp.rz hT hW ?_
      simp
      refine LWp.ret ?_
      simp
      have q : k = l.length := by omega
      have e := hi4.2.2
      rw [q, List.take_length] at e
      refine Weak.to [2] [(0, 0)] (by decide) (by decide) (by simp [hp]) ?_ ?_
      · simp [e]
      · simp [e]
theorem CloneDf_ok (l : List Df) (hl : l.length ≤ 1000000000000) : Ok Tryz.prog 80 [dfsD l] ⟨.own 2 (l.map Df.d), true⟩ := by
  refine Ok.ret Tryz.func80 (by kernel_rfl) (c := _) rfl Tryz.ntmps80 (by simp) Tryz.results80 (by intro _ h; cases h) fun w0 X hp => ?_
  refine LWp.seq ?_
  refine LWp.rz hT hW ?_
  simp
  refine LWp.seq ?_
  refine LWp.seq ?_
  refine LWp.regNil hT hW 4 (decide (l = [])) (fun _ => none) (fun _ => ⟨rfl, fun _ h => h⟩) (by kernel_rfl) fun b1 hb1 => ?_
  simp
  refine LWp.iff ?_
  simp
  refine ⟨fun h1 => ?_, fun h1 => ?_⟩
  · refine LWp.seq ?_
    refine LWp.rz hT hW ?_
    simp
    refine LWp.ret ?_
    have := hb1 h1
    simp at this
    simp [this]
  · refine LWp.skip ?_
    simp
    refine LWp.seq ?_
    refine LWp.rz hT hW ?_
    simp
    refine ⟨by omega, ?_⟩
    refine LWp.ret ?_
    simp
theorem CloneStr_ok (l : List Str) (hl : l.length ≤ 1000000000000) : Ok Tryz.prog 81 [strsD l] ⟨.own 1 (l.map .str), true⟩ := by
  refine Ok.ret Tryz.func81 (by kernel_rfl) (c := _) rfl Tryz.ntmps81 (by simp) Tryz.results81 (by intro _ h; cases h) fun w0 X hp => ?_
  refine LWp.seq ?_
  refine LWp.rz hT hW ?_
  simp
  refine LWp.seq ?_
  refine LWp.seq ?_
  refine LWp.regNil hT hW 4 (decide (l = [])) (fun _ => none) (fun _ => ⟨rfl, fun _ h => h⟩) (by kernel_rfl) fun b1 hb1 => ?_
  simp
  refine LWp.iff ?_
  simp
  refine ⟨fun h1 => ?_, fun h1 => ?_⟩
  · refine LWp.seq ?_
    refine LWp.rz hT hW ?_
    simp
    refine LWp.ret ?_
    have := hb1 h1
    simp at this
    simp [this]
  · refine LWp.skip ?_
    simp
    refine LWp.seq ?_
    refine LWp.rz hT hW ?_
    simp
    refine ⟨by omega, ?_⟩
    refine LWp.ret ?_
    simp
theorem AnyStr_ok (l : List Str) (p : Str → Bool) (g : FuncId) (cs : List DV) (hg : ∀ x ∈ l, Ok Tryz.prog g (.str x :: cs) ⟨.d (.bool (p x)), true⟩) : Ok Tryz.prog 108 [strsD l, .fn g cs] ⟨.d (.bool (l.any p)), true⟩ := by
  refine Ok.ret Tryz.func108 (by kernel_rfl) (c := _) rfl Tryz.ntmps108 (by simp) Tryz.results108 (by intro _ h; cases h) fun w0 X hp => ?_
  refine LWp.seq ?_
  refine LWp.rz hT hW ?_
  simp
  refine LWp.seq ?_
  refine LWp.ro hT hW (fun | 7 => some <| .plain ⟨.d (I64 (idxI p l)), true⟩ | _ => none) ?_
  simp
  refine ⟨IndexStr_ok l p g cs hg, ?_⟩
  refine LWp.ret ?_
  simp [← idxI_nonneg]
theorem DeleteFuncNm_ok (l : List Nm) (hl : l.length ≤ 8000000000000) (p : Nm → Bool) (g : FuncId) (cs : List DV) (hg : ∀ x ∈ l, Ok Tryz.prog g (x.d :: cs) ⟨.d (.bool (p x)), true⟩) : OkG Tryz.prog 63 [.ow 0 0 l.length, .d (.fn g cs)] [(0, .row false 2 (l.map Nm.d))] [(0, .row false 2 ((l.filter fun x => !p x).map Nm.d ++ List.replicate (l.length - (l.filter fun x => !p x).length) zeroNm.d))] (.ow 0 0 (l.filter fun x => !p x).length) := by
  refine OkG.one Tryz.func63 (by kernel_rfl) (c := _) rfl Tryz.ntmps63 (by simp) Tryz.results63 fun w0 X hp => ?_
  refine LWp.seq ?_
  refine LWp.rz hT hW ?_
  simp
  refine LWp.seq ?_
  refine LWp.ro hT hW (fun | 10 => some <| .plain ⟨.d (I64 (idxI p l)), true⟩ | _ => none) ?_
  simp
  refine ⟨by simpa [nmsD] using IndexNm_ok l p g cs hg, ?_⟩
  refine LWp.seq ?_
  refine LWp.seq ?_
  refine LWp.rz hT hW ?_
  simp
  refine LWp.iff ?_
  simp
  refine ⟨fun h2 => ?_, fun h2 => ?_⟩
  · refine LWp.seq ?_
    refine LWp.rz hT hW ?_
    simp
    refine LWp.ret ?_
    simp
    refine Weak.to [4] [(0, 0)] (by decide) (by decide) (by simp [hp]) ?_ ?_
    · simp [idxI_neg h2]
    · simp [idxI_neg h2]
  · obtain ⟨k, hk, hkl, hpk, htk⟩ := idxI_cases h2
    refine LWp.skip ?_
    simp
    refine LWp.seq ?_
    refine LWp.seq ?_
    refine LWp.rz hT hW ?_
    simp [hk]
    refine ⟨by omega, ?_⟩
    refine LWp.block ?_
    refine LWp.loopW (ι := Nat × Nat × List Nm) (fun ⟨q, i, r⟩ => mkEnv [(0, .ow 0 0 l.length), (1, .d (.fn g cs)), (5, .d (I64 i)), (6, .d (I64 q))]) (fun ⟨q, i, r⟩ => mkObs [(0, .row false 2 (r.map Nm.d))]) (fun ⟨q, i, r⟩ => q ≤ l.length ∧ i < q ∧ r.length = l.length ∧ r.take i = (l.take q).filter (fun x => !p x) ∧ r.drop q = l.drop q) (fun ⟨q, i, r⟩ => l.length - q) (k + 1, k, l) (Weak.to [0, 1, 5, 6] [(0, 0)] (by decide) (by decide) (by simp [hp]) (by simp) (by simp)) (⟨hkl, by omega, rfl, htk.symm, rfl⟩) fun ⟨q, i, r⟩ hi5 => ?_
    refine LWp.seq ?_
    refine LWp.seq ?_
    refine LWp.rz hT hW ?_
    simp
    refine LWp.iff ?_
    simp
    refine ⟨fun h5 => ?_, fun h5 => ?_⟩
    · refine LWp.skip ?_
      simp
      refine LWp.seq ?_
      refine LWp.block ?_
      refine LWp.seq ?_
      obtain ⟨g1, g2, g3, g4, g5⟩ := hi5
      have e1 : r[q]'(by omega) = l[q] := drop_get g5 (by omega) (by omega) h5
      refine LWp.rz hT hW ?_
      simp [(show q < r.length by omega), e1]
      refine ⟨by omega, ?_⟩
      refine LWp.seq ?_
      refine LWp.ro hT hW (fun | 28 => some <| .plain ⟨.d (.bool (p l[q])), true⟩ | _ => none) ?_
      simp
      refine ⟨hg l[q] (List.getElem_mem h5), ?_⟩
      refine LWp.iff ?_
      simp
      refine ⟨fun h8 => ?_, fun h8 => ?_⟩
      · refine LWp.seq ?_
        refine LWp.rz hT hW ?_
        simp [(show i < r.length by omega)]
        refine ⟨by omega, ?_⟩
        refine LWp.rz hT hW ?_
        simp
        refine ⟨by omega, ?_⟩
        refine LWp.rz hT hW ?_
        simp
        refine ⟨by omega, ?_⟩
        refine loopQ.mk (q + 1, i + 1, r.set i l[q]) (Weak.to [0, 1, 5, 6] [(0, 0)] (by decide) (by decide) (by simp [hp]) (by simp) (by simp)) ?_ ?_
        · dsimp only
          refine ⟨by omega, by omega, by simp [g3], ?_, ?_⟩
          · rw [List.take_succ_eq_append_getElem (by simpa using (show i < r.length by omega)), List.getElem_set_self, List.take_set_of_le (by omega), g4, List.take_succ_eq_append_getElem h5, List.filter_append]
            simp [h8]
          · have g8 := congrArg (List.drop 1) g5
            rw [List.drop_drop, List.drop_drop] at g8
            rw [List.drop_set_of_lt (by omega), g8]
        · omega
      · refine LWp.skip ?_
        simp
        refine LWp.rz hT hW ?_
        simp
        refine ⟨by omega, ?_⟩
        refine loopQ.mk (q + 1, i, r) (Weak.to [0, 1, 5, 6] [(0, 0)] (by decide) (by decide) (by simp [hp]) (by simp) (by simp)) ?_ ?_
        · dsimp only
          refine ⟨by omega, by omega, g3, ?_, ?_⟩
          · rw [g4, List.take_succ_eq_append_getElem h5, List.filter_append]
            simp [h8]
          · have g8 := congrArg (List.drop 1) g5
            rw [List.drop_drop, List.drop_drop] at g8
            exact g8
        · omega
    · refine LWp.exit ?_
      simp
      refine LWp.seq ?_
      refine LWp.rz hT hW ?_
      simp
      refine ⟨by omega, ?_⟩
      refine LWp.seq ?_
      refine LWp.rz hT hW ?_
      simp
      refine ⟨by omega, ?_⟩
      refine LWp.ret ?_
      simp
      obtain ⟨g1, g2, g3, g4, g5⟩ := hi5
      have hq : q = l.length := by omega
      rw [hq, List.take_length] at g4
      have hkl : (l.filter fun x => !p x).length = i := by rw [← g4]; simp; omega
      refine Weak.to [4] [(0, 0)] (by decide) (by decide) (by simp [hp]) ?_ ?_
      · simp [hkl]
      · have hd : List.drop (i + (l.length - i)) (List.map Nm.d r) = [] := List.drop_eq_nil_of_le (by simp; omega)
        simp
        rw [hd, hkl, ← g4, List.map_take, List.append_nil]
        rfl
open Go.Proofs
theorem nsOrder_ok (x : DV) (a b : Nm) : Ok Tryz.prog 115 [x, a.d, b.d] ⟨.d (I64 (cmpN a b)), true⟩ := by
  refine Ok.ret Tryz.func115 (by kernel_rfl) (c := _) rfl Tryz.ntmps115 (by simp) Tryz.results115 (by intro _ h; cases h) fun w0 X hp => ?_
  refine LWp.seq ?_
  refine LWp.rz hT hW ?_
  simp
  refine LWp.seq ?_
  refine LWp.regAny hT hW hMixed (lk [[],[0],[],[2],[0,1,2,3],[],[5],[],[7],[0,1,2,3,4,5,6,7,8],[0,1,2,3,4,5,6,7,8,9],[0,1,2,3,4,5,6,7,8,9,10],[0,1,2,3,4,5,6,7,8,9,10,11]]) (lk [[],[],[],[],[],[11],[11],[11],[11],[],[],[],[]]) (lk [[],[],[],[],[11],[],[],[],[],[16],[17],[18],[]]) (by kernel_rfl) (fun | 11 => some <| .plain ⟨.d (I64 (cmpI a.who b.who)), true⟩ | 16 => some <| .plain ⟨.d (I64 (cmpI a.seq b.seq)), true⟩ | 18 => some <| .plain ⟨.d (I64 (cmpN a b)), true⟩ | _ => none) (by intro d; first | exact ⟨rfl, fun _ h => h⟩ | (split <;> exact ⟨rfl, fun _ h => h⟩)) ?_
  simp
  refine ⟨⟨⟨⟨cmpI_ok _ _, cmpI_ok _ _⟩, rfl⟩, ?_⟩, ?_⟩
  · have h := orI_ok [cmpI a.who b.who, cmpI a.seq b.seq]
    simp only [orI_cons, orI_nil] at h
    have e : (if cmpI a.who b.who ≠ 0 then cmpI a.who b.who else if cmpI a.seq b.seq ≠ 0 then cmpI a.seq b.seq else 0) = cmpN a b := by
      unfold cmpN
      split
      · rfl
      · split
        · rfl
        · omega
    rw [e] at h
    exact h
  refine LWp.ret ?_
  simp
theorem nsHas_ok (l : List Nm) (n : Nm) : Ok Tryz.prog 61 [nmsD l, n.d] ⟨.d (.bool (decide (n ∈ l))), true⟩ := by
  refine Ok.ret Tryz.func61 (by kernel_rfl) (c := _) rfl Tryz.ntmps61 (by simp) Tryz.results61 (by intro _ h; cases h) fun w0 X hp => ?_
  refine LWp.seq ?_
  refine LWp.rz hT hW ?_
  simp
  refine LWp.seq ?_
  refine LWp.ro hT hW (fun | 7 => some <| .plain ⟨.d (.bool (decide (n ∈ l))), true⟩ | _ => none) ?_
  simp
  refine ⟨InNs_ok l n, ?_⟩
  refine LWp.ret ?_
  simp
def lenB (n : Nat) : Int := if n = 0 then 0 else if n < 2 then 1 else if n < 4 then 2 else if n < 8 then 3 else 4
theorem cmpN_lt (a b : Nm) : cmpN a b < 0 ↔ a.less b = true := by
  have := cmpN_ge' a b
  cases q : a.less b <;> rw [q] at this <;> simp at this ⊢ <;> omega
theorem len8_at {n : Nat} (hn : n < 13) (rest : List UInt8) : IntKind.i64.wrap (((0 :: 1 :: 2 :: 2 :: 3 :: 3 :: 3 :: 3 :: 4 :: 4 :: 4 :: 4 :: 4 :: rest)[n]?.getD 0).toNat : Int) = lenB n := by
  match n, hn with
  | 0, _ | 1, _ | 2, _ | 3, _ | 4, _ | 5, _ | 6, _ | 7, _ | 8, _ | 9, _ | 10, _ | 11, _ | 12, _ => rfl
theorem lenB_r (n : Nat) : 0 ≤ lenB n ∧ lenB n ≤ 4 := by unfold lenB; split; omega; split; omega; split; omega; split <;> omega
set_option maxRecDepth 100000
theorem Len64_ok (n : Nat) (hn : n < 13) : Ok Tryz.prog 171 [.int .u64 n] ⟨.d (I64 (lenB n)), true⟩ := by
  refine Ok.ret Tryz.func171 (by kernel_rfl) (c := _) rfl Tryz.ntmps171 (by simp) Tryz.results171 (by intro _ h; cases h) fun w0 X hp => ?_
  refine LWp.seq ?_
  refine LWp.rz hT hW ?_
  simp
  refine LWp.seq ?_
  refine LWp.seq ?_
  refine LWp.rz hT hW ?_
  simp [(show ¬ (4294967296 : Int) ≤ n by omega)]
  refine LWp.iff ?_
  simp
  refine LWp.skip ?_
  simp
  refine LWp.seq ?_
  refine LWp.seq ?_
  refine LWp.rz hT hW ?_
  simp [(show ¬ (65536 : Int) ≤ n by omega)]
  refine LWp.iff ?_
  simp
  refine LWp.skip ?_
  simp
  refine LWp.seq ?_
  refine LWp.seq ?_
  refine LWp.rz hT hW ?_
  simp [(show ¬ (256 : Int) ≤ n by omega)]
  refine LWp.iff ?_
  simp
  refine LWp.skip ?_
  simp
  refine LWp.seq ?_
  have hw : IntKind.u8.wrap (n : Int) = n := (by decide : ∀ k : Nat, k < 13 → IntKind.u8.wrap (k : Int) = k) n hn
  refine LWp.rz hT hW ?_
  simp [evalIndex, hw, (show (n : Int) < 256 by omega), len8_at hn]
  refine ⟨by have := lenB_r n; omega, ?_⟩
  refine LWp.ret ?_
  simp
theorem Len_ok (n : Nat) (hn : n < 13) : Ok Tryz.prog 139 [.int .u64 n] ⟨.d (I64 (lenB n)), true⟩ := by
  refine Ok.ret Tryz.func139 (by kernel_rfl) (c := _) rfl Tryz.ntmps139 (by simp) Tryz.results139 (by intro _ h; cases h) fun w0 X hp => ?_
  refine LWp.seq ?_
  refine LWp.rz hT hW ?_
  simp
  refine LWp.seq ?_
  refine LWp.iff ?_
  simp
  refine LWp.skip ?_
  simp
  refine LWp.seq ?_
  refine LWp.ro hT hW (fun | 7 => some <| .plain ⟨.d (I64 (lenB n)), true⟩ | _ => none) ?_
  simp
  refine ⟨Len64_ok n hn, ?_⟩
  refine LWp.ret ?_
  simp
def SortedTo (r : List Nm) (i : Nat) : Prop := ∀ (p q : Nat) (hp : p < q) (hq : q < r.length), q < i → Nm.less r[q] (r[p]'(by omega)) = false
def SinkTo (r : List Nm) (i j : Nat) : Prop := ∀ (p q : Nat) (hp : p < q) (hq : q < r.length), q ≤ i → q ≠ j → Nm.less r[q] (r[p]'(by omega)) = false
theorem SortedTo.one (l : List Nm) : SortedTo l 1 := fun p q hp _ hq => by omega
theorem SinkTo.start {r : List Nm} {i : Nat} (h : SortedTo r i) : SinkTo r i i := fun p q hp hq hqi hne => h p q hp hq (by omega)
theorem SinkTo.zero {s : List Nm} {i : Nat} (h : SinkTo s i 0) : SortedTo s (i + 1) := fun p q hp hq hqi => h p q hp hq (by omega) (by omega)
theorem SinkTo.stop {s : List Nm} {i j : Nat} (hj : j + 1 < s.length) (hji : j + 1 ≤ i) (h : SinkTo s i (j + 1)) (hn : Nm.less s[j + 1] s[j] = false) : SortedTo s (i + 1) := fun p q hp hq hqi => by
  by_cases e : q = j + 1
  · subst e
    by_cases e2 : p = j
    · subst e2; exact hn
    · have h2 := h p j (by omega) (by omega) (by omega) (by omega)
      simp [Nm.less] at hn h2 ⊢
      omega
  · exact h p q hp hq (by omega) e
theorem SinkTo.swap {s : List Nm} {i j : Nat} (hj : j + 1 < s.length) (hji : j + 1 ≤ i) (h : SinkTo s i (j + 1)) (hn : Nm.less s[j + 1] s[j] = true) : SinkTo ((s.set (j + 1) s[j]).set j s[j + 1]) i j := fun p q hp hq hqi hne => by
  have hq' : q < s.length := by simpa using hq
  simp only [List.getElem_set]
  by_cases e1 : q = j + 1
  · subst e1
    rw [if_neg (by omega), if_pos rfl]
    by_cases e2 : j = p
    · subst e2
      rw [if_pos rfl]
      exact Nm.sto.asym hn
    · rw [if_neg e2, if_neg (by omega)]
      exact h p j (by omega) (by omega) (by omega) (by omega)
  · rw [if_neg (by omega), if_neg (by omega)]
    by_cases e2 : j = p
    · subst e2
      rw [if_pos rfl]
      exact h (j + 1) q (by omega) hq' hqi e1
    · rw [if_neg e2]
      by_cases e3 : j + 1 = p
      · subst e3
        rw [if_pos rfl]
        exact h j q (by omega) hq' hqi e1
      · rw [if_neg e3]
        exact h p q hp hq' hqi e1
theorem sorted_msort {r l : List Nm} (hp : r.Perm l) (h : SortedTo r r.length) : r = msortN l := by
  refine List.Perm.eq_of_pairwise (le := fun a b => Nm.less b a = false) (fun a b _ _ h1 h2 => Nm.sto.total a b h2 h1) ?_ ?_ (hp.trans (List.mergeSort_perm l _).symm)
  · rw [List.pairwise_iff_getElem]
    exact fun p q hp hq hpq => h p q hpq hq hq
  · have := List.pairwise_mergeSort (le := fun x y : Nm => !Nm.less y x) (fun a b c h1 h2 => by simp [Nm.less] at *; omega) (fun a b => by simp [Nm.less]; omega) l
    exact this.imp fun h => by simpa using h
theorem insSort_ok (l : List Nm) (x : DV) (hl : l.length ≤ 1100000) : OkG Tryz.prog 174 [.ow 0 0 l.length, .d (I64 0), .d (I64 l.length), .bm 115 [.d x]] [(0, .row false 2 (l.map Nm.d))] [(0, .row false 2 ((msortN l).map Nm.d))] (.tup []) := by
  refine OkG.unit Tryz.func174 (by kernel_rfl) (c := _) rfl Tryz.ntmps174 (by simp) Tryz.results174 fun w0 X hp => ?_
  refine LWp.seq ?_
  refine LWp.rz hT hW ?_
  simp
  refine LWp.block ?_
  refine LWp.loopW (ι := Nat × List Nm) (fun ⟨i, r⟩ => mkEnv [(0, .ow 0 0 l.length), (1, .d (I64 0)), (2, .d (I64 l.length)), (3, .bm 115 [.d x]), (8, .d (I64 i))]) (fun ⟨i, r⟩ => mkObs [(0, .row false 2 (r.map Nm.d))]) (fun ⟨i, r⟩ => 1 ≤ i ∧ i ≤ l.length + 1 ∧ r.length = l.length ∧ r.Perm l ∧ SortedTo r i) (fun ⟨i, r⟩ => l.length - i) (1, l) (Weak.to [0, 1, 2, 3, 8] [(0, 0)] (by decide) (by decide) (by simp [hp]) (by simp) (by simp)) (⟨by omega, by omega, rfl, List.Perm.refl _, SortedTo.one l⟩) fun ⟨i, r⟩ hi1 => ?_
  refine LWp.seq ?_
  refine LWp.seq ?_
  refine LWp.rz hT hW ?_
  simp
  refine LWp.iff ?_
  simp
  refine ⟨fun h1 => ?_, fun h1 => ?_⟩
  · refine LWp.skip ?_
    simp
    refine LWp.seqCut (ι := List Nm) (fun s => mkEnv [(0, .ow 0 0 l.length), (1, .d (I64 0)), (2, .d (I64 l.length)), (3, .bm 115 [.d x]), (8, .d (I64 i))]) (fun s => mkObs [(0, .row false 2 (s.map Nm.d))]) (fun s => s.length = l.length ∧ s.Perm l ∧ SortedTo s (i + 1)) ?_ fun s hc2 => ?_
    · refine LWp.block ?_
      refine LWp.seq ?_
      refine LWp.rz hT hW ?_
      simp
      refine LWp.block ?_
      refine LWp.loopW (ι := Nat × List Nm) (fun ⟨j, s⟩ => mkEnv [(0, .ow 0 0 l.length), (1, .d (I64 0)), (2, .d (I64 l.length)), (3, .bm 115 [.d x]), (8, .d (I64 i)), (9, .d (I64 j))]) (fun ⟨j, s⟩ => mkObs [(0, .row false 2 (s.map Nm.d))]) (fun ⟨j, s⟩ => j ≤ i ∧ s.length = l.length ∧ s.Perm l ∧ SinkTo s i j) (fun ⟨j, s⟩ => j) (i, r) (Weak.to [0, 1, 2, 3, 8, 9] [(0, 0)] (by decide) (by decide) (by simp [hp]) (by simp) (by simp)) (⟨by omega, hi1.2.2.1, hi1.2.2.2.1, SinkTo.start hi1.2.2.2.2⟩) fun ⟨j, s⟩ hi4 => ?_
      refine LWp.seq ?_
      refine LWp.seq ?_
      rcases j with _ | j
      · refine LWp.regAny hT hW hMixed (lk [[],[],[0,1],[0,1,2],[0,1,2,3],[0,1,2,3],[0,1,2,3],[0,1,2,3,5,6],[0,1,2,3,5,6,7],[0,1,2,3],[0,1,2,3],[0,1,2,3,10],[0,1,2,3,9,10,11],[0,1,2,3,9,10,11,12],[0,1,2,3,4,5,6,7,8,9,10,11,12,13],[0,1,2,3,4,5,6,7,8,9,10,11,12,13,14],[0,1,2,3,4,5,6,7,8,9,10,11,12,13,14,15]]) (lk [[],[],[],[],[],[],[],[],[],[],[],[],[],[],[],[],[]]) (lk [[],[],[],[],[],[],[],[],[],[],[],[],[],[],[32],[],[]]) (by kernel_rfl) (fun _ => none) (by intro d; first | exact ⟨rfl, fun _ h => h⟩ | (split <;> exact ⟨rfl, fun _ h => h⟩)) ?_
        simp [h1]
        refine LWp.iff ?_
        simp [h1]
        refine LWp.exit ?_
        simp
        refine cutQ.mk s (Weak.to [0, 1, 2, 3, 8] [(0, 0)] (by decide) (by decide) (by simp [hp]) (by simp) (by simp)) ?_
        exact ⟨hi4.2.1, hi4.2.2.1, hi4.2.2.2.zero⟩
      · have g1 : j + 1 < s.length := by have := hi4.1; have := hi4.2.1; omega
        refine LWp.regAny hT hW hMixed (lk [[],[],[0,1],[0,1,2],[0,1,2,3],[0,1,2,3],[0,1,2,3],[0,1,2,3,5,6],[0,1,2,3,5,6,7],[0,1,2,3],[0,1,2,3],[0,1,2,3,10],[0,1,2,3,9,10,11],[0,1,2,3,9,10,11,12],[0,1,2,3,4,5,6,7,8,9,10,11,12,13],[0,1,2,3,4,5,6,7,8,9,10,11,12,13,14],[0,1,2,3,4,5,6,7,8,9,10,11,12,13,14,15]]) (lk [[],[],[],[],[],[],[],[],[],[],[],[],[],[],[],[],[]]) (lk [[],[],[],[],[],[],[],[],[],[],[],[],[],[],[32],[],[]]) (by kernel_rfl) (fun | 32 => some <| .plain ⟨.d (I64 (cmpN s[j + 1] s[j])), true⟩ | _ => none) (by intro d; first | exact ⟨rfl, fun _ h => h⟩ | (split <;> exact ⟨rfl, fun _ h => h⟩)) ?_
        simp [g1, (show j < s.length by omega)]
        refine ⟨⟨⟨by omega, by omega⟩, nsOrder_ok x _ _⟩, ?_⟩
        refine LWp.iff ?_
        simp
        refine ⟨fun h4 => ?_, fun h4 => ?_⟩
        · refine LWp.skip ?_
          simp
          refine LWp.seq ?_
          refine LWp.block ?_
          refine LWp.regAny hT hW hMixed (lk [[],[],[],[],[3],[],[],[6],[5,6,7],[5,6,7,8],[],[],[10,11],[10,11,12],[0,1,5,6,7,8,9,10,11,12,13],[0,1,5,6,7,8,9,10,11,12,13,14],[0,1,2,3,4,5,6,7,8,9,10,11,12,13,14,15],[0,1,2,3,4,5,6,7,8,9,10,11,12,13,14,15,16]]) (lk [[],[],[0],[0],[0],[],[],[],[],[],[],[],[],[],[],[],[],[]]) (lk [[],[],[],[],[],[],[],[],[],[],[],[],[],[],[],[0],[],[0]]) (by kernel_rfl) (fun _ => none) (fun _ => ⟨rfl, fun _ h => h⟩) ?_
          simp [g1, (show j < s.length by omega)]
          refine ⟨by omega, ?_⟩
          refine LWp.rz hT hW ?_
          simp
          refine ⟨by omega, ?_⟩
          refine loopQ.mk (j, (s.set (j + 1) s[j]).set j s[j + 1]) (Weak.to [0, 1, 2, 3, 8, 9] [(0, 0)] (by decide) (by decide) (by simp [hp]) (by simp) (by simp [List.map_set, Nm.d])) ?_ ?_
          · exact ⟨by have := hi4.1; dsimp only; omega, by simp [hi4.2.1], (List.set_set_perm g1 (by omega)).trans hi4.2.2.1, SinkTo.swap g1 hi4.1 hi4.2.2.2 (by simpa [cmpN_lt] using h4)⟩
          · omega
        · refine LWp.exit ?_
          simp
          refine cutQ.mk s (Weak.to [0, 1, 2, 3, 8] [(0, 0)] (by decide) (by decide) (by simp [hp]) (by simp) (by simp)) ?_
          exact ⟨hi4.2.1, hi4.2.2.1, SinkTo.stop g1 hi4.1 hi4.2.2.2 (by simpa [cmpN_ge'] using h4)⟩
    · refine LWp.rz hT hW ?_
      simp
      refine ⟨by omega, ?_⟩
      refine loopQ.mk (i + 1, s) (Weak.to [0, 1, 2, 3, 8] [(0, 0)] (by decide) (by decide) (by simp [hp]) (by simp) (by simp)) ?_ ?_
      · exact ⟨by dsimp only; omega, by dsimp only; omega, hc2.1, hc2.2.1, hc2.2.2⟩
      · omega
  · refine LWp.exit ?_
    simp
    have e : r = msortN l := sorted_msort hi1.2.2.2.1 fun p q hp hq hql => hi1.2.2.2.2 p q hp hq (by have := hi1.2.2.1; omega)
    refine Weak.to [] [(0, 0)] (by decide) (by decide) (by simp [hp]) ?_ ?_
    · simp
    · simp [e]
open Go.Proofs
theorem pdq_ok (l : List Nm) (x : DV) (lim : Int) (hl : l.length ≤ 12) : OkG Tryz.prog 150 [.ow 0 0 l.length, .d (I64 0), .d (I64 l.length), .d (I64 lim), .bm 115 [.d x]] [(0, .row false 2 (l.map Nm.d))] [(0, .row false 2 ((msortN l).map Nm.d))] (.tup []) := by
  refine OkG.unit Tryz.func150 (by kernel_rfl) (c := _) rfl Tryz.ntmps150 (by simp) Tryz.results150 fun w0 X hp => ?_
  refine LWp.seq ?_
  refine LWp.rz hT hW ?_
  simp
  refine LWp.seq ?_
  refine LWp.rz hT hW ?_
  simp
  refine LWp.block ?_
  refine LWp.loopW (ι := Unit) (fun _ => mkEnv [(0, .ow 0 0 l.length), (1, .d (I64 0)), (2, .d (I64 l.length)), (3, .d (I64 lim)), (4, .bm 115 [.d x])]) (fun _ => mkObs [(0, .row false 2 (l.map Nm.d))]) (fun _ => True) (fun _ => 0) () (Weak.to [0, 1, 2, 3, 4] [(0, 0)] (by decide) (by decide) (by simp [hp]) (by simp) (by simp)) (by simp) fun _ hi2 => ?_
  refine LWp.block ?_
  refine LWp.seq ?_
  refine LWp.rz hT hW ?_
  simp
  refine ⟨by omega, ?_⟩
  refine LWp.seq ?_
  refine LWp.seq ?_
  refine LWp.rz hT hW ?_
  simp [(show (l.length : Int) ≤ 12 by omega)]
  refine LWp.iff ?_
  simp
  refine LWp.seq ?_
  refine LWp.ro hT hW (fun | 30 => some (.gen ⟨[(0, 0)], [], [], [(0, .row false 2 ((msortN l).map Nm.d))], .tup []⟩) | _ => none) ?_
  simp
  refine ⟨insSort_ok l x (by omega), ?_⟩
  refine LWp.ret ?_
  simp
  refine Weak.to [] [(0, 0)] (by decide) (by decide) (by simp [hp]) ?_ ?_
  · simp
  · simp
theorem sortNs_ok (l : List Nm) (x : DV) (hl : l.length ≤ 12) : OkG Tryz.prog 114 [.ow 0 0 l.length, .bm 115 [.d x]] [(0, .row false 2 (l.map Nm.d))] [(0, .row false 2 ((msortN l).map Nm.d))] (.tup []) := by
  refine OkG.unit Tryz.func114 (by kernel_rfl) (c := _) rfl Tryz.ntmps114 (by simp) Tryz.results114 fun w0 X hp => ?_
  refine LWp.seq ?_
  refine LWp.rz hT hW ?_
  simp
  refine LWp.ro hT hW (fun | 11 => some <| .plain ⟨.d (I64 (lenB l.length)), true⟩ | 13 => some (.gen ⟨[(0, 0)], [], [], [(0, .row false 2 ((msortN l).map Nm.d))], .tup []⟩) | _ => none) ?_
  simp [(show IntKind.u64.wrap (l.length : Int) = l.length from (by decide : ∀ k : Nat, k < 13 → IntKind.u64.wrap (k : Int) = k) l.length (by omega))]
  refine ⟨⟨Len_ok _ (by omega), pdq_ok l x _ hl⟩, ?_⟩
  refine Weak.to [] [(0, 0)] (by decide) (by decide) (by simp [hp]) ?_ ?_
  · simp
  · simp
theorem nsSorted_ok (l : List Nm) (hl : l.length ≤ 12) : Ok Tryz.prog 68 [nmsD l] ⟨.own 2 ((sortN l).map Nm.d), true⟩ := by
  refine Ok.ret Tryz.func68 (by kernel_rfl) (c := _) rfl Tryz.ntmps68 (by simp) Tryz.results68 (by intro _ h; cases h) fun w0 X hp => ?_
  refine LWp.seq ?_
  refine LWp.rz hT hW ?_
  simp
  refine LWp.seq ?_
  refine LWp.ro hT hW (fun | 5 => some <| .plain ⟨.own 2 (l.map Nm.d), true⟩ | _ => none) ?_
  simp
  refine ⟨CloneNs_ok l (by omega), ?_⟩
  refine LWp.seq ?_
  refine LWp.ro hT hW (fun | 9 => some (.gen ⟨[(5, 0)], [], [], [(0, .row false 2 ((msortN l).map Nm.d))], .tup []⟩) | _ => none) ?_
  simp
  refine ⟨by simpa [nmsD] using sortNs_ok l (nmsD l) hl, ?_⟩
  refine LWp.seq ?_
  refine LWp.ro hT hW (fun | 11 => some (.gen ⟨[(5, 0)], [], [], [(0, .row false 2 ((sortN l).map Nm.d ++ List.replicate (l.length - (sortN l).length) zeroNm.d))], .ow 0 0 (sortN l).length⟩) | _ => none) ?_
  simp
  refine ⟨by have := CompactNs_ok (msortN l) (by rw [msortN_len]; omega); rw [msortN_len, dedup_msort] at this; simpa using this, ?_⟩
  refine LWp.ret ?_
  simp
theorem ppossible_ok (n : Nm) : Ok Tryz.prog 62 [n.d] ⟨.d (.bool n.isName), true⟩ := by
  refine Ok.ret Tryz.func62 (by kernel_rfl) (c := _) rfl Tryz.ntmps62 (by simp) Tryz.results62 (by intro _ h; cases h) fun w0 X hp => ?_
  refine LWp.seq ?_
  refine LWp.rz hT hW ?_
  simp
  refine LWp.seq ?_
  refine LWp.rz hT hW ?_
  simp
  refine LWp.ret ?_
  have h : (n.who < 4) ↔ (n.who ≤ 3) := by omega
  simp [Nm.isName, h]
end Go.Eng
namespace Go.Eng
open Go.RowKit Go.Maps Go.Sort Go.Shelf Go.Proofs
open Go.ChangeMaps (setBlock)
set_option maxRecDepth 100000 in
set_option maxHeartbeats 2000000 in
theorem keysChg_gives (F : Fence) (n : Nat) (hf : F.fn 103) (hro : F.round = none) (hn : 1 ≤ n) {Bm ob b clock : Nat} {es : Array MapEntry} (W : World) (hm' : W.cell? ⟨Bm, ob, none⟩ = some (.map (some b)))
    (hb' : W.heap[b]? = some (.map es clock)) (hborn : BornOk es clock) (key : MapEntry → Str) (hkey : ∀ e ∈ es.toList, e.key = keyS (key e)) (l : Nat) (J : List Str → World → Prop) (hJ : AbW W.heap.size J)
    (hY : ∀ pre x W1, J pre W1 → pre.length < es.size → YieldAt F (n - 1) Tryz.prog l #[keyS x] W1 fun e W' => e = .returned (.bool true) ∧ J (pre ++ [x]) W' ∧ KeepsWalks W1 W') (h0 : J [] W) :
    CallsIn F n Tryz.prog 103 #[.func (.yield l) #[] #[], .pointer (some ⟨Bm, ob, none⟩)] W fun e W' => (∃ v, e = .returned v) ∧ ∃ ss : List Str, ss.Perm (es.toList.map key) ∧ J ss W' := by
  have hbW : b < W.heap.size := (Array.getElem?_eq_some_iff.1 hb').1
  refine callsIn_of_wp Tryz.func103 rfl hf ?_ hro
  simp only [Tryz.ntmps103, List.size_toArray, List.length_cons, List.length_nil, Nat.reduceAdd, Nat.reduceSub, Array.replicate_succ, Array.replicate_zero, List.push_toArray, List.append_toArray, List.nil_append, List.cons_append]
  gi_wp2_with (first
    | (gi_at_range; refine wpListIn_range_map _ rfl _ _ rfl _ _ Tryz.underlying86 rfl hb' ?_)
    | gi_in)
  have hg0 : W.grownBy (W.alloc (.mapIter (some b) clock #[] clock)) none := World.grownBy_alloc W _ none
  have hr0 : (W.alloc (.mapIter (some b) clock #[] clock)).heap[W.heap.size]? = some (.mapIter (some b) clock #[] clock) := heap_alloc_new W _
  have hb0 : (W.alloc (.mapIter (some b) clock #[] clock)).heap[b]? = some (.map es clock) := (hg0.block b hbW (by simp)).trans hb'
  have hJ0 := hJ [] W _ none h0 hg0 (Nat.le_refl _) (fun r e => by cases e)
  generalize W.alloc (.mapIter (some b) clock #[] clock) = w0 at *
  try go_frame
  gi_loopw [3] (fun _ wr => ∃ (vs : List MapEntry) (seen : Array Nat) (c0 : Nat), wr.heap[W.heap.size]? = some (.mapIter (some b) clock seen c0) ∧ wr.heap[b]? = some (.map es clock) ∧ clock ≤ c0 ∧ Came es vs seen ∧ J (vs.map key) wr)
    (fun _ wr => toCome es.size W.heap.size wr)
  case atStart =>
    exact ⟨[], #[], clock, hr0, hb0, Nat.le_refl _, ⟨by simp, by simp, by simp⟩, hJ0⟩
  case round =>
    obtain ⟨vs, seen, c0, hr, hbr, hcc, hC, hJs⟩ := hrel
    gi_wp2_with (first
      | (gi_at_next; refine wpListIn_next_map _ rfl _ rfl (Nat.ne_of_gt hbW) rfl hr hbr hborn hcc (Nat.le_refl _) hC ?_ ?_)
      | gi_in)
    · intro hp
      gi_wp2
      go_end0
      exact ⟨⟨_, rfl⟩, vs.map key, hp.map key, hJs⟩
    · intro e w2 he hC2 hr2 hg2 hd2 hen
      have hJ2 : J (vs.map key) w2 := hJ _ wr w2 (some W.heap.size) hJs hg2 hd2 (fun r e => by cases e; exact ⟨Nat.le_refl _, _, hr, rfl⟩)
      have hb2 : w2.heap[b]? = some (.map es clock) := (hg2.block b (Array.getElem?_eq_some_iff.1 hbr).1 (fun e => by injection e with e; omega)).trans hbr
      have hsz := hC2.size hborn
      have hvs : seen.size = vs.length := by have := congrArg List.length hC.seen; simpa using this
      obtain ⟨fn, tmps, assign, body, hy, hR⟩ := hY (vs.map key) (key e) _ hJ2 (by simp at hsz ⊢; omega)
      rw [hkey e (by simpa using he)] at hen ⊢
      unfold keyS at hen hy ⊢
      gi_wp2
      refine hR.mono ?_
      rintro e' W3 ⟨rfl, hJ3, hk3⟩
      gi_wp2
      have hr4 := hk3.same _ _ hr2 rfl
      have hb4 := hk3.same _ _ hb2 rfl
      go_roundw
      case rel => exact ⟨vs ++ [e], seen.push e.born, clock, hr4, hb4, Nat.le_refl _, hC2, by simpa using hJ3⟩
      case measure => rw [toCome_eq hr4, toCome_eq hr]; simp at hsz ⊢; omega
set_option maxRecDepth 100000 in
set_option maxHeartbeats 4000000 in
theorem appendSeqChg (W0 : World) (v0 : Value) (l : List Str) (b0 : Option Nat) (hrow : RowAt 1 b0 W0.heap.size W0 v0 l.length (l.flatMap Str.enc) b0) (hb0 : ∀ b, b0 = some b → b < W0.heap.size) {Bm ob b clock : Nat} {es : Array MapEntry} (hm : W0.cell? ⟨Bm, ob, none⟩ = some (.map (some b))) (hBm : some Bm ≠ b0)
    (hb : W0.heap[b]? = some (.map es clock)) (hbb : some b ≠ b0) (hborn : BornOk es clock) (key : MapEntry → Str) (hkey : ∀ e ∈ es.toList, e.key = keyS (key e)) (hN : (l.length + es.size) * 16 ≤ 140737488355328) :
    Calls Tryz.prog 137 #[v0, .func (.func 103) #[] #[.pointer (some ⟨Bm, ob, none⟩)]] W0 fun e W' =>
      ∃ v ss gb, e = .returned v ∧ List.Perm ss (es.toList.map key) ∧ RowAt 1 b0 W0.heap.size W' v (l.length + ss.length) ((l ++ ss).flatMap Str.enc) gb ∧ Still b0 W0 W' ∧ Head0 (l.length * 1) b0 W0 W' := by
  refine (callsIn_wide (n := 6)).1 ?_
  obtain ⟨ba, bn, bc, hv0⟩ : ∃ ba bn bc, v0 = .slice ba bn bc := by
    rcases hrow.lies with ⟨_, _, a, rfl⟩ | ⟨g, cap, cur, e, _, rfl, _⟩
    · exact ⟨_, _, _, rfl⟩
    · exact ⟨_, _, _, rfl⟩
  subst hv0
  have hBml : Bm < W0.heap.size := World.block_lt_of_cell? W0 _ hm
  have hbl : b < W0.heap.size := (Array.getElem?_eq_some_iff.1 hb).1
  refine callsIn_of_wp_marks Tryz.func137 rfl trivial ?_ rfl
  simp only [Tryz.ntmps137, List.size_toArray, List.length_cons, List.length_nil, Nat.reduceAdd, Nat.reduceSub, Array.replicate_succ, Array.replicate_zero, List.push_toArray, List.append_toArray, List.nil_append, List.cons_append]
  gi_wp2
  obtain ⟨W1, hW1⟩ : ∃ W1, W0.alloc (.cells #[.slice ba bn bc] 27) = W1 := ⟨_, rfl⟩
  have hs1 : W1.heap.size = W0.heap.size + 1 := by rw [← hW1]; simp
  have hg1 : W0.grownBy W1 none := by rw [← hW1]; exact World.grownBy_alloc W0 _ none
  have hd1 : W0.drawn ≤ W1.drawn := by rw [← hW1]; exact Nat.le_refl _
  have hv1 : W1.heap[W0.heap.size]? = some (.cells #[.slice ba bn bc] 27 (0, 0)) := by rw [← hW1]; exact heap_alloc_new W0 _
  rw [hW1]
  clear hW1
  refine wpIn_rangeFunc_gives (enc := keyS) (N := es.size) (S := fun ss => List.Perm ss (es.toList.map key)) rfl (by omega) rfl trivial (enters_of Tryz.func103 (by kernel_rfl) rfl) (AppS b0 W0 l) (by rw [hs1]; exact appS_abW b0 W0 l hb0)
    ⟨.slice ba bn bc, b0, hv1, by simpa using hrow.kept hg1 (by cases b0 <;> simp), fun e => by have := hb0 _ e; omega, (Still.refl b0 W0).step hg1 hd1 (fun r e => by cases e), (Head0.refl _ b0 W0).step hg1 (by cases b0 <;> simp)⟩ ?_
    (fun x a' W => a' = ⟨#[.slice ba bn bc, .func (.func 103) #[] #[.pointer (some ⟨Bm, ob, none⟩)], .pointer (some ⟨W0.heap.size, 0, none⟩), undef, .slice none 0 0, .string ⟨x.toArray⟩, .func (.func 103) #[] #[.pointer (some ⟨Bm, ob, none⟩)], keyS x, undef, undef, undef, undef, undef], []⟩) ?_ ?_ ?_ ?_
  · intro l' J W2 hI hsz hJ hY hJ0
    obtain ⟨v, gb, q1, q2, q3, q4, q6⟩ := hI
    exact keysChg_gives _ 5 trivial rfl (by omega) W2 ((World.cell?_of_block (q4.block Bm hBml hBm)).trans hm) ((q4.block b hbl hbb).trans hb) hborn key hkey l' J hJ hY hJ0
  · exact fun x a' s W W' row h _ _ _ => h
  · intro l' pre x W K hI hK
    change Code.wpIn (Fence.wide.inRound l') (6 - 1 - 1) Tryz.prog _ _ ⟨#[.slice ba bn bc, .func (.func 103) #[] #[.pointer (some ⟨Bm, ob, none⟩)], .pointer (some ⟨W0.heap.size, 0, none⟩), undef, .slice none 0 0, undef, .func (.func 103) #[] #[.pointer (some ⟨Bm, ob, none⟩)], keyS x, undef, undef, undef, undef, undef], []⟩ W
    have hK' := hK _ W ⟨rfl, rfl, rfl, Nat.le_refl _, fun _ _ _ => rfl⟩ (Nat.le_refl _) rfl
    clear hK
    unfold keyS at hK' ⊢
    gi_wp2_with gi_round_op_a
    exact hK'
  · rintro l' pre x a' W ⟨v, gb, q1, q2, q3, q4, q6⟩ rfl hlen
    obtain ⟨hc1, hf1⟩ := cell_of_box_a q1
    obtain ⟨inf, d, z, i1, i2, i3, i4, i5, i6, i7⟩ := hT.parts (t := 9) (by simp [TK.isNone])
    simp at i4 i5 i7
    obtain ⟨va, vn, vc, hv⟩ : ∃ va vn vc, v = .slice va vn vc := by
      rcases q2.lies with ⟨_, _, a, rfl⟩ | ⟨g, cap, cur, e, _, rfl, _⟩
      · exact ⟨_, _, _, rfl⟩
      · exact ⟨_, _, _, rfl⟩
    subst hv
    have hWs : W0.heap.size < W.heap.size := (Array.getElem?_eq_some_iff.1 q1).1
    have q5 : RowAt 1 b0 W0.heap.size (W.alloc (.cells #[.string ⟨x.toArray⟩] 9)) (.slice va vn vc) (l.length + pre.length) ((l ++ pre).flatMap Str.enc) gb := q2.kept (World.grownBy_alloc W _ none) (by cases gb <;> simp)
    have hnew : ∀ (j : Nat) (u : Value), [Value.string ⟨x.toArray⟩][j]? = some u → (W.alloc (.cells #[.string ⟨x.toArray⟩] 9)).cell? ⟨W.heap.size, j, none⟩ = some u := fun j u hj => by
      have := heap_alloc_new W (.cells #[.string ⟨x.toArray⟩] 9)
      simp only [World.cell?, this]
      simpa using hj
    gi_wp2_with (first
      | (gi_at_builtin; refine wpListIn_append_row _ rfl _ _ 27 rfl Tryz.underlying27 i1 i6 i4 (by rw [← Array.length_toList, i7]; rfl) (by decide) rfl q5 (by simp; omega) rfl (news := [.string ⟨x.toArray⟩]) rfl (by simp [Value.oneCell']) hnew (by rw [i5]; omega) (by omega) ?_; intro v' W3 g' r1 r2 r3 r4 r5
         have hv3 : W3.heap[W0.heap.size]? = some (.cells #[.slice va vn vc] 27 (0, 0)) := (r2.block _ (by simp; omega) (fun e => q3 e.symm)).trans ((heap_alloc_old W _ hWs).trans q1)
         obtain ⟨hc3, hf3⟩ := cell_of_box_a hv3
         obtain ⟨cap', cur', e', rfl, s2, s3, s4, s5, s6, s7⟩ : ∃ cap' cur' e', v' = .slice (some ⟨g', 0, none⟩) (l.length + pre.length + 1) cap' ∧ (b0 = some g' ∨ W0.heap.size ≤ g') ∧ W3.heap[g']? = some (.cells cur' e' (0, 0)) ∧ l.length + pre.length + 1 ≤ cap' ∧ cap' ≤ maxLen ∧ cap' * 1 = cur'.size ∧ cur'.toList.take ((l.length + pre.length + 1) * 1) = (l ++ pre).flatMap Str.enc ++ [.string ⟨x.toArray⟩] := by
           rcases r1.lies with ⟨h, _⟩ | ⟨g, cap, cur, e, h, h1, h2, h3, h4, h5, h6, h7⟩
           · cases h
           · injection h with h; subst h; exact ⟨cap, cur, e, h1, h2, h3, h4, h5, h6, h7⟩
         go_frame)
      | gi_round_op_a)
    have hg0 : W.grownBy (W.alloc (.cells #[.string ⟨x.toArray⟩] 9)) none := World.grownBy_alloc W _ none
    have hd0 : W.drawn ≤ (W.alloc (.cells #[.string ⟨x.toArray⟩] 9)).drawn := Nat.le_refl _
    have hgb : ∀ r, gb = some r → (b0 = some r ∨ W0.heap.size ≤ r) ∧ ∃ cur e, W.heap[r]? = some (.cells cur e (0, 0)) := fun r e => by
      rcases q2.lies with ⟨h, _⟩ | ⟨g, cap, cur, e', h, _, h2, h3, _⟩
      · rw [h] at e; cases e
      · rw [h] at e; injection e with e; subst e; exact ⟨h2, cur, e', h3⟩
    have hgne : g' ≠ W0.heap.size := by
      rcases r4 with h | h
      · exact fun e => q3 (by rw [h, e])
      · rw [h]; simp; omega
    generalize W.alloc (.cells #[.string ⟨x.toArray⟩] 9) = W2 at *
    have hg4 : W3.grownBy (W3.setCell ⟨W0.heap.size, 0, none⟩ (.slice (some ⟨g', 0, none⟩) (l.length + pre.length + 1) cap')) (some W0.heap.size) := grownBy_setCell0_a _ _ _
    refine ⟨⟨Nat.le_trans hg0.size (Nat.le_trans r2.size hg4.size), fun k o hk ho hcell => ?_⟩, ((KeepsWalks.of_grownBy hg0 (fun j o e => by cases e)).trans (KeepsWalks.of_grownBy r2 (fun j o e ho => ?_))).trans (KeepsWalks.setCell _ _ _),
      .slice (some ⟨g', 0, none⟩) (l.length + pre.length + 1) cap', some g', heap_setCell_box_a _ hv3, ?_, fun e => hgne (by injection e), ((q4.step hg0 hd0 (fun r e => by cases e)).step r2 r3 (fun r e => (hgb r e).1)).step hg4 (Nat.le_refl _) (fun r e => .inr (by injection e with e; omega)), ((q6.step hg0 (by cases b0 <;> simp)).write (by rw [Nat.add_mul]; omega) r2 r5).step hg4 ?_⟩
    · have h2 := (hg0.block k (Array.getElem?_eq_some_iff.1 ho).1 (by simp)).trans ho
      have h3 := (r2.block k (Array.getElem?_eq_some_iff.1 h2).1 (fun e => by
        obtain ⟨_, cur, e', h⟩ := hgb k e.symm
        rw [ho] at h; cases h; cases hcell)).trans h2
      exact (hg4.block k (Array.getElem?_eq_some_iff.1 h3).1 (fun e => by injection e with e; omega)).trans h3
    · obtain ⟨_, cur, e', h⟩ := hgb j e
      have h2 := (hg0.block j (Array.getElem?_eq_some_iff.1 h).1 (by simp)).trans h
      rw [ho] at h2; cases h2; rfl
    · have := r1.kept hg4 (.inr (fun e => hgne (by injection e)))
      simpa [Str.enc, keyS, Nat.add_assoc] using this
    · cases hb : b0 with
      | none => exact .inl rfl
      | some g => exact .inr fun e => by injection e with e; have := hb0 g hb; omega
  · rintro D xs W hD hS ⟨v, gb, q1, q2, q3, q4, q6⟩ hdef
    obtain ⟨hc1, hf1⟩ := cell_of_box_a q1
    gi_wp2
    refine ⟨by simp, .inl ⟨_, _, rfl, run_takeDeferred hdef, ?_⟩⟩
    refine ⟨_, results_tmp rfl _ _ _, v, xs, gb, rfl, hS, q2.kept (grownBy_putObj_a _ _ _) ?_, q4.step (grownBy_putObj_a _ _ _) (Nat.le_refl _) (fun r e => .inr (by injection e with e; omega)), q6.step (grownBy_putObj_a _ _ _) ?_⟩
    rcases q2.lies with ⟨h, _⟩ | ⟨g, cap, cur, e', h, _, h2, h3, _⟩
    · exact .inl h
    · refine .inr fun e => ?_
      rw [h] at e; injection e with e; subst e
      rw [hdef] at h3; cases h3
    · cases hb : b0 with
      | none => exact .inl rfl
      | some g => exact .inr fun e => by injection e with e; have := hb0 g hb; omega
end Go.Eng
namespace Go.Eng
open Go.Proofs Go.Sort Go.Shelf Go.RowKit
attribute [local simp] runL stepL evalG evalOp opLV constLV putEnv dstOk upd upds Res.plain Res.cond Res.fail evalBin evalUn seqQ blockQ argsEnv lookL lookH RetIs memless freshL evalPick evalMin bval bok evalLen evalIn strip whenC guardOps guardC slotsOf
  runM foldS stepI stepM maskE wrIn lk renO lookN evalCall evalCallee optAll resLV resObj retLV retObj retsLV retsObj evalLoad evalIndexAddr evalField solid cellsD_agg cellsD_int cellsD_bool cellsD_str cellsD_sl cellsD_ro cellsD_fn cellsL_agg cellsL_dagg cellsL_int cellsL_bool cellsL_str cellsL_sl cellsL_fn cellsL_ow cellsL_bx cellsL_lfn cellsL_nl takeL takeD mkAgg allD eqD eqDs kindsAre kindIs LObj.live TK.isNone TK.agg TK.isBool TK.isStr TK.isStruct Op.operands Call.operands
  evalBuildSlice evalAppend elemsOf evalStore evalBuild fillL lookupF putL evalSlice bound evalConv elemsS freezes frozen loadR
  mkEnv_at mkObs_at close_d close_agg close_ow close_bx close_fn close_nl touch_d touch_agg touch_ow touch_bx touch_fn touch_nl ren_d ren_agg ren_bx ren_rp ren_ow ren_fn ren_nl ren_junk retQ_ret retQ2_ret condQ_bool Nm.d Df.d Ed.d nmsD dfsD strsD edsD retC_ret nm_eq df_eq take_map_len take_map_app
  nm_t nm_d nm_td df_t df_d df_td str_t str_d str_td ed_t ed_d ed_td
  evalAppendIn evalCut evalClear evalCopy evalMake evalWrap evalCap evalNil isNilC lenL isInp gorc
  mapOf findD keyEq keyOk evalMakeMap evalRange zeroD zeroDV argsG shutG outN lenv retG0_ret retG0_normal retG1_ret renO close_mp touch_mp ren_mp optAll_d optAll_d' touch_ds cellsL_mp cellsD_mp cellsL_dmp
  evalMapSet evalPtr TK.isPtr evalToArr firstL retN_ret retsQ rvarL close_bm touch_bm ren_bm cellsD_bm cellsL_bm cellsL_lbm
attribute [local simp] cutQ_normal cutQ_ret cutQ_exit
theorem AppendChg_ok (s : List Str) (ds : List DV) (hN : s.length * 16 ≤ 140737488355328) :
    OkGR Tryz.prog 137 [.nl, .d (.fn 103 [.ro [.mp (s.map .str) ds]])] []
      (fun fin ret => ∃ p : List Str, p.Perm s ∧ fin = [(0, .dead), (1, .row false 1 (p.map .str))] ∧ ret = .ow 1 0 p.length) := by
  refine ⟨⟨_, Tryz.func137, by kernel_rfl, by rfl⟩, fun w X β vs m0 hvl hr => ?_⟩
  match vs, hvl with
  | [v0, v1], _ =>
  have r0 := hr 0 _ _ rfl rfl
  have r1 := hr 1 _ _ rfl rfl
  obtain ⟨a0, rfl⟩ : ∃ a, v0 = .slice a 0 0 := by cases r0 with | nl a => exact ⟨a, rfl⟩
  obtain ⟨Bm, ob, b, clock, arr, rfl, hcell, hblk, hk, hborn, hkey⟩ : ∃ Bm ob b clock arr, v1 = .func (.func 103) #[] #[.pointer (some ⟨Bm, ob, none⟩)] ∧ w.cell? ⟨Bm, ob, none⟩ = some (.map (some b)) ∧ w.heap[b]? = some (.map arr clock) ∧
      (s.map DV.str).length = arr.size ∧ BornOk arr clock ∧ ∀ (i : Nat) (d : DV) (e : MapEntry), (s.map DV.str)[i]? = some d → arr[i]? = some e → RD w (Ex X β (mkObs [])) d e.key := by
    cases r1 with
    | d _ _ h => cases h with
      | fn _ _ us hl hc =>
        match us, hl with
        | [u], _ =>
        have h0 := hc 0 _ u rfl rfl
        cases h0 with
        | ro _ Bm ob us2 hBm hul _ _ hcell h =>
          match us2, hul with
          | [u2], _ =>
          have h2 := h 0 _ u2 rfl rfl
          have hc2 := hcell 0 u2 rfl
          cases h2 with
          | mp _ _ b clock arr hb _ hblk hk _ hborn hkey _ => exact ⟨Bm, ob, b, clock, arr, rfl, by simpa using hc2, hblk, hk, hborn, hkey⟩
  rw [List.length_map] at hk
  have hkeys : ∀ (i : Nat) (h1 : i < s.length) (h2 : i < arr.size), arr[i].key = keyS s[i] := fun i h1 h2 => rd_str (hkey i _ _ (by simp [h1]) (Array.getElem?_eq_getElem h2))
  have hk2 : ∀ e ∈ arr.toList, e.key = keyS (entryStr e) := fun e he => by
    obtain ⟨i, hi, rfl⟩ := List.getElem_of_mem he
    have hi' : i < arr.size := by simpa using hi
    have := hkeys i (by omega) hi'
    simp only [Array.getElem_toList]
    simp [entryStr, this, keyS]
  have hmap : arr.toList.map entryStr = s := by
    apply List.ext_getElem (by simpa using hk.symm)
    intro i h1 h2
    have := hkeys i h2 (by omega)
    simp [entryStr, this, keyS]
  obtain ⟨m, _⟩ := new_none m0 (d := 0) (by simp [mkObs, lookH]) (s := 1) (by decide)
  refine (appendSeqChg w (.slice a0 0 0) [] none ⟨rfl, by simp, .inl ⟨rfl, rfl, a0, rfl⟩⟩ (fun g hg => by cases hg) hcell (by simp) hblk (by simp) hborn entryStr hk2 (by rw [← hk]; simpa using hN)).mono ?_
  rintro e w' ⟨v, ss, gb, rfl, hp, hr', hst, hhd⟩
  rw [hmap] at hp
  obtain ⟨β', hm, hR⟩ := m.appended strCells (id := 0) (new := 1) (l := []) (by rw [upd_same]; rfl) (by rw [upd_ne _ _ (by decide)]; simp [mkObs, lookH]) (.inl ⟨rfl, rfl⟩) hr' hst hhd
  have hfin : mkObs [(0, .dead), (1, .row false 1 (ss.map .str))] = upd (upd (upd (mkObs []) 0 (.row false 1 [])) 0 .dead) 1 (.row false 1 (ss.map .str)) := by
    funext j; simp only [mkObs, lookH, upd]; by_cases h0 : j = 0 <;> by_cases h1 : j = 1 <;> simp_all
  exact ⟨v, β', _, _, ⟨ss, hp, rfl, rfl⟩, rfl, by rw [hfin]; simpa using hm, by rw [hfin]; simpa using hR⟩
theorem CollectChg_ok (s : List Str) (ds : List DV) (hN : s.length * 16 ≤ 140737488355328) : OkR Tryz.prog 101 [.fn 103 [.ro [.mp (s.map .str) ds]]] (fun r => (fun v => ∃ p : List Str, p.Perm s ∧ v = .own 1 (p.map .str)) r.v ∧ r.fresh = true) := by
  refine OkR.ret (Rel := fun v => ∃ p : List Str, p.Perm s ∧ v = .own 1 (p.map .str)) Tryz.func101 (by kernel_rfl) (c := _) rfl Tryz.ntmps101 (by simp) Tryz.results101 fun w0 X hp => ?_
  refine LWp.seq ?_
  refine LWp.rz hT hW ?_
  simp
  refine LWp.seq ?_
  refine LWp.regGenR hT hW 4 [] [(1, 4)] [1] (fun fin ret => ∃ p : List Str, p.Perm s ∧ fin = [(0, .dead), (1, .row false 1 (p.map .str))] ∧ ret = .ow 1 0 p.length) _ _ ⟨s, List.Perm.refl _, rfl, rfl⟩ (fun | 99 => none | _ => none) (by intro d; first | exact ⟨rfl, fun _ h => h⟩ | (split <;> exact ⟨rfl, fun _ h => h⟩)) (by kernel_rfl) fun r1 hr1 => ?_
  obtain ⟨fin1, ret1⟩ := r1
  obtain ⟨p, hp1, rfl, rfl⟩ := hr1
  simp
  refine ⟨AppendChg_ok s ds hN, ?_⟩
  refine LWp.ret ?_
  simp only [retR_ret]
  refine ⟨_, ⟨p, hp1, rfl⟩, by simp, ?_⟩
  simp
theorem SortedChg_ok (s : List Str) (ds : List DV) (hN : s.length ≤ 4400000) : Ok Tryz.prog 49 [.fn 103 [.ro [.mp (s.map .str) ds]]] ⟨.own 1 ((ssort s).map .str), true⟩ := by
  refine Ok.ret Tryz.func49 (by kernel_rfl) (c := _) rfl Tryz.ntmps49 (by simp) Tryz.results49 (by intro _ h; cases h) fun w0 X hp => ?_
  refine LWp.seq ?_
  refine LWp.rz hT hW ?_
  simp
  refine LWp.seq ?_
  refine LWp.regRel hT hW 5 (fun r => (∃ p : List Str, p.Perm s ∧ r.v = .own 1 (p.map .str)) ∧ r.fresh = true) true ⟨.own 1 (s.map .str), true⟩ ⟨⟨⟨s, List.Perm.refl _, rfl⟩, rfl⟩, rfl⟩ (fun | 99 => none | _ => none) (by intro d; first | exact ⟨rfl, fun _ h => h⟩ | (split <;> exact ⟨rfl, fun _ h => h⟩)) (by kernel_rfl) fun r1 hr1 => ?_
  obtain ⟨v1, f1⟩ := r1
  obtain ⟨⟨p, hp1, hv⟩, hf⟩ := hr1
  dsimp only at hv hf
  subst hv; subst hf
  have hpl := hp1.length_eq
  simp
  refine ⟨CollectChg_ok s ds (by omega), ?_⟩
  refine LWp.seq ?_
  refine LWp.ro hT hW (fun | 7 => some (.gen ⟨[(5, 0)], [], [], [(0, .row false 1 ((ssort p).map .str))], .tup []⟩) | _ => none) ?_
  simp
  refine ⟨by simpa using SortStr_ok p (by omega), ?_⟩
  refine LWp.seq ?_
  refine LWp.rz hT hW ?_
  simp
  refine LWp.ret ?_
  rw [← ssort_perm hp1]
  simp [ssort_len]
  rw [List.take_of_length_le (by simp [ssort_len])]
theorem KeysChg_ok (ks vs : List DV) : Ok Tryz.prog 50 [.mp ks vs] ⟨.d (.fn 103 [.ro [.mp ks vs]]), false⟩ := by
  refine Ok.ret Tryz.func50 (by kernel_rfl) (c := _) rfl Tryz.ntmps50 (by simp) Tryz.results50 (by intro _ h; cases h) fun w0 X hp => ?_
  refine LWp.seq ?_
  refine LWp.rz hT hW ?_
  simp
  refine LWp.seq ?_
  refine LWp.rz hT hW ?_
  simp
  refine LWp.ret ?_
  simp
open Go.Proofs
def optD : Option Str → DV
  | none => .val (.pointer none)
  | some t => .ro [.str t]
def ck (c : Chg) : List DV := c.map fun p => .str p.1
def cv (c : Chg) : List DV := c.map fun p => optD p.2
theorem ck_names (c : Chg) : ck c = (c.map Prod.fst).map .str := by simp [ck]
theorem findD_chg {s : Str} : ∀ {m : Chg} {i : Nat}, findD (.str s) (ck m) i = some ((m.findIdx? fun x => decide (s = x.1)).map (· + i))
  | [], i => by simp [findD, ck]
  | x :: m, i => by
    have ih := findD_chg (s := s) (m := m) (i := i + 1)
    simp only [ck, List.map_cons, findD] at *
    have e : keyEq (.str s) (.str x.1) = some (decide (s = x.1)) := by simp only [keyEq, eqD]; congr 1; rw [Bool.eq_iff_iff]; simp
    rw [e, List.findIdx?_cons]
    cases q : decide (s = x.1) with
    | true => simp
    | false =>
      simp only [ih, Bool.false_eq_true, if_false]
      cases (m.findIdx? fun x => decide (s = x.1)) with
      | none => rfl
      | some j => simp; omega
theorem put_chg (m : Chg) {H : Obs} {id : Nat} {s : Str} (v : Option Str) (h : H id = .map false (ck m) (cv m)) :
    evalMapUpdate T H 86 (.mp id) (.d (.str s)) (.d (optD v)) = ⟨.junk, True, [(id, .map false (ck (upC m s v)) (cv (upC m s v)))]⟩ := by
  unfold evalMapUpdate upC
  simp only [t86, h, findD_chg]
  cases q : m.findIdx? fun x => decide (s = x.1) with
  | none => simp [keyOk, kindIs, ck, cv]
  | some j =>
    obtain ⟨hj, hjn⟩ := findC_some q
    have hk : ck m = ck (m.set j (s, v)) := by
      unfold ck
      apply List.ext_getElem?
      intro i
      rw [List.map_set, List.getElem?_set]
      by_cases e : j = i
      · subst e; simp [hj, hjn]
      · simp [e]
    simp [keyOk, kindIs, ← hk]
    simp [cv, List.map_set]
theorem put_some (m : Chg) {H : Obs} {id : Nat} {s t : Str} (h : H id = .map false (ck m) (cv m)) :
    evalMapUpdate T H 86 (.mp id) (.d (.str s)) (.d (.ro [.str t])) = ⟨.junk, True, [(id, .map false (ck (upC m s (some t))) (cv (upC m s (some t))))]⟩ := put_chg m (some t) h
theorem put_none (m : Chg) {H : Obs} {id : Nat} {s : Str} (h : H id = .map false (ck m) (cv m)) :
    evalMapUpdate T H 86 (.mp id) (.d (.str s)) (.d (.val (.pointer none))) = ⟨.junk, True, [(id, .map false (ck (upC m s none)) (cv (upC m s none)))]⟩ := put_chg m none h
theorem look_chg (m : Chg) {H : Obs} {x : LV} {s : Str} {ok : Bool} (h : mapOf H x = some (ck m, cv m)) :
    evalLookup T H 86 x (.d (.str s)) ok = ⟨if ok then .tup [.d (optD ((lookC m s).getD none)), .d (.bool (lookC m s).isSome)] else .d (optD ((lookC m s).getD none)), True, []⟩ := by
  unfold evalLookup lookC
  simp only [t86, h, findD_chg]
  cases q : m.findIdx? fun x => decide (s = x.1) with
  | none => cases ok <;> simp [keyOk, kindIs, zeroD, zeroDV, TK.isNone, TK.agg, optD]
  | some j =>
    obtain ⟨hj, _⟩ := findC_some q
    cases ok <;> simp [keyOk, kindIs, cv, hj]
theorem look_chgD (m : Chg) {H : Obs} {s : Str} {ok : Bool} :
    evalLookup T H 86 (.d (.mp (ck m) (cv m))) (.d (.str s)) ok = ⟨if ok then .tup [.d (optD ((lookC m s).getD none)), .d (.bool (lookC m s).isSome)] else .d (optD ((lookC m s).getD none)), True, []⟩ := look_chg m rfl
theorem look_chgO (m : Chg) {H : Obs} {id : Nat} {fz : Bool} {s : Str} {ok : Bool} (h : H id = .map fz (ck m) (cv m)) :
    evalLookup T H 86 (.mp id) (.d (.str s)) ok = ⟨if ok then .tup [.d (optD ((lookC m s).getD none)), .d (.bool (lookC m s).isSome)] else .d (optD ((lookC m s).getD none)), True, []⟩ := look_chg m (by simp [mapOf, h])
def aloneV (e : Ed) : Int := if properE e then 0 else 1
def bareE (e : Ed) : Ed := { e with needs := [] }
theorem proper_bare {e : Ed} : properE e = true ↔ (incr Nm.less e.needs = true ∧ e.needs.all Nm.isName = true) ∧ properE (bareE e) = true := by
  rw [proper_parts, proper_parts]
  simp [bareE, incr, touches]
  constructor
  · rintro ⟨h1, h2, h3, h4, h5, h6, h7, h8⟩; exact ⟨⟨h3, h6⟩, h1, h2, h4, h5, h7, h8⟩
  · rintro ⟨⟨h3, h6⟩, h1, h2, h4, h5, h7, h8⟩; exact ⟨h1, h2, h3, h4, h5, h6, h7, h8⟩
theorem valid_bare (e : Ed) : (validV [bareE e]).2 = if properE (bareE e) then 0 else 1 := by
  have hf : findI [bareE e] (bareE e).name = 0 := by simp [findI, find?]
  have ha : (bareE e).name ∉ aboveL [bareE e] (bareE e).name := by
    rw [mem_aboveL]
    intro h
    have hn : ∀ n, needsOf [bareE e] n = [] := fun n => by
      unfold needsOf
      cases q : find? [bareE e] n with
      | none => rfl
      | some i =>
        obtain ⟨hi, _, _⟩ := find_at q
        have : i = 0 := by simpa using hi
        subst this; rfl
    cases h with
    | one h => rw [hn] at h; cases h
    | next h _ => rw [hn] at h; cases h
  unfold validV validFrom errE
  by_cases hp : properE (bareE e) = true
  · have : (bareE e).needs = [] := rfl
    simp [hp, hf, this, ha, validFrom]
  · simp [hp]
theorem apply_ok (c : Chg) (e : Ed) (hs : e.small) : OkG Tryz.prog 48 [.mp 0, .d e.d] [(0, .map false (ck c) (cv c))] [(0, .map false (ck (applyC c e)) (cv (applyC c e)))] (.tup []) := by
  have hs1 := hs.1
  have hs2 := hs.2
  refine OkG.unit Tryz.func48 (by kernel_rfl) (c := _) rfl Tryz.ntmps48 (by simp) Tryz.results48 fun w0 X hp => ?_
  refine LWp.seq ?_
  refine LWp.rz hT hW ?_
  simp
  refine LWp.seq ?_
  refine LWp.seq ?_
  refine LWp.rz hT hW ?_
  simp
  refine LWp.block ?_
  refine LWp.loopW (ι := Nat × Chg) (fun ⟨i, m⟩ => mkEnv [(0, .mp 0), (3, .bx 3 0), (9, .d (dfsD e.puts)), (10, .d (I64 e.puts.length)), (11, .d (I64 i))]) (fun ⟨i, m⟩ => mkObs [(0, .map false (ck m) (cv m)), (3, .box false ((cellsD e.d).map .d))]) (fun ⟨i, m⟩ => i ≤ e.puts.length ∧ m = (e.puts.take i).foldl (fun c d => upC c d.name (some d.text)) c) (fun ⟨i, m⟩ => e.puts.length - i) (0, c) (Weak.to [0, 3, 9, 10, 11] [(0, 0), (3, 3)] (by decide) (by decide) (by simp [hp]) (by simp) (by simp)) (by simp) fun ⟨i, m⟩ hi2 => ?_
  refine LWp.seq ?_
  refine LWp.rz hT hW ?_
  simp
  refine LWp.seq ?_
  refine LWp.iff ?_
  simp
  refine ⟨fun h2 => ?_, fun h2 => ?_⟩
  · refine LWp.skip ?_
    simp
    refine LWp.seq ?_
    refine LWp.block ?_
    refine LWp.seq ?_
    refine LWp.rz hT hW ?_
    simp [h2]
    refine LWp.rz hT hW ?_
    simp [put_some m]
    refine LWp.rz hT hW ?_
    simp
    refine ⟨by omega, ?_⟩
    refine loopQ.mk (i + 1, upC m e.puts[i].name (some e.puts[i].text)) (Weak.to [0, 3, 9, 10, 11] [(0, 0), (3, 3)] (by decide) (by decide) (by simp [hp]) (by simp) (by simp)) ?_ ?_
    · exact ⟨h2, by dsimp only; rw [List.take_succ_eq_append_getElem h2, List.foldl_append, ← hi2.2]; rfl⟩
    · omega
  · refine LWp.exit ?_
    simp
    refine LWp.seq ?_
    refine LWp.rz hT hW ?_
    simp
    refine LWp.block ?_
    refine LWp.loopW (ι := Nat × Chg) (fun ⟨j, m2⟩ => mkEnv [(0, .mp 0), (3, .bx 3 0), (21, .d (strsD e.drops)), (22, .d (I64 e.drops.length)), (23, .d (I64 j))]) (fun ⟨j, m2⟩ => mkObs [(0, .map false (ck m2) (cv m2)), (3, .box false ((cellsD e.d).map .d))]) (fun ⟨j, m2⟩ => j ≤ e.drops.length ∧ m2 = (e.drops.take j).foldl (fun c s => upC c s none) m) (fun ⟨j, m2⟩ => e.drops.length - j) (0, m) (Weak.to [0, 3, 21, 22, 23] [(0, 0), (3, 3)] (by decide) (by decide) (by simp [hp]) (by simp) (by simp)) (by simp) fun ⟨j, m2⟩ hi7 => ?_
    refine LWp.seq ?_
    refine LWp.rz hT hW ?_
    simp
    refine LWp.seq ?_
    refine LWp.iff ?_
    simp
    refine ⟨fun h7 => ?_, fun h7 => ?_⟩
    · refine LWp.skip ?_
      simp
      refine LWp.seq ?_
      refine LWp.block ?_
      refine LWp.seq ?_
      refine LWp.rz hT hW ?_
      simp [h7]
      refine LWp.rz hT hW ?_
      simp [put_none m2]
      refine LWp.rz hT hW ?_
      simp
      refine ⟨by omega, ?_⟩
      refine loopQ.mk (j + 1, upC m2 e.drops[j] none) (Weak.to [0, 3, 21, 22, 23] [(0, 0), (3, 3)] (by decide) (by decide) (by simp [hp]) (by simp) (by simp)) ?_ ?_
      · exact ⟨h7, by dsimp only; rw [List.take_succ_eq_append_getElem h7, List.foldl_append, ← hi7.2]; rfl⟩
      · omega
    · refine LWp.exit ?_
      simp
      have e2 : m2 = applyC c e := by
        rw [hi7.2, List.take_of_length_le (by omega), hi2.2, List.take_of_length_le (by omega)]
        rfl
      refine Weak.to [] [(0, 0)] (by decide) (by decide) (by simp [hp]) ?_ ?_
      · simp
      · simp [e2]
theorem applyC_len (c : Chg) (e : Ed) : (applyC c e).length ≤ c.length + e.puts.length + e.drops.length := by
  have up : ∀ (c : Chg) (s : Str) (v : Option Str), (upC c s v).length ≤ c.length + 1 := fun c s v => by unfold upC; split <;> simp
  have k1 : ∀ (ps : List Df) (c : Chg), (ps.foldl (fun c d => upC c d.name (some d.text)) c).length ≤ c.length + ps.length := by
    intro ps
    induction ps with
    | nil => intro c; simp
    | cons d ps ih => intro c; have := ih (upC c d.name (some d.text)); have := up c d.name (some d.text); simp only [List.foldl_cons, List.length_cons]; omega
  have k2 : ∀ (ds : List Str) (c : Chg), (ds.foldl (fun c s => upC c s none) c).length ≤ c.length + ds.length := by
    intro ds
    induction ds with
    | nil => intro c; simp
    | cons d ds ih => intro c; have := ih (upC c d none); have := up c d none; simp only [List.foldl_cons, List.length_cons]; omega
  have h1 := k1 e.puts c
  have h2 := k2 e.drops (e.puts.foldl (fun c d => upC c d.name (some d.text)) c)
  unfold applyC; omega
theorem ssort_set {l : List Str} (h : l.Nodup) : ssort l = setS l := by
  refine rising_eq bless_sto ?_ (setS_spec l).1 fun x => ?_
  · have h1 := ssort_sorted l
    have h2 : (ssort l).Nodup := (List.mergeSort_perm l _).nodup_iff.2 h
    unfold Rising
    refine (h1.and h2).imp ?_
    rintro a b ⟨h3, h4⟩
    exact bless_iff.2 (Std.lt_of_le_of_ne h3 h4)
  · rw [(setS_spec l).2 x]
    exact (List.mergeSort_perm l _).mem_iff
theorem applyC_nodup (e : Ed) : ((applyC [] e).map Prod.fst).Nodup := (applyC_keys (by simp) e).1
theorem applyC_set (e : Ed) : setS ((applyC [] e).map Prod.fst) = tchN e := setS_mem fun x => by simpa using (applyC_keys (c := []) (by simp) e).2 x
theorem PTouches_own (e : Ed) (hs : e.small) : Ok Tryz.prog 11 [e.d] ⟨.own 1 ((tchN e).map .str), true⟩ := by
  have hal := applyC_len [] e
  have hs1 := hs.1
  have hs2 := hs.2
  refine Ok.ret Tryz.func11 (by kernel_rfl) (c := _) rfl Tryz.ntmps11 (by simp) Tryz.results11 (by intro _ h; cases h) fun w0 X hp => ?_
  refine LWp.seq ?_
  refine LWp.rz hT hW ?_
  simp
  refine LWp.seq ?_
  refine LWp.rz hT hW ?_
  simp
  refine LWp.seq ?_
  refine LWp.ro hT hW (fun | 7 => some (.gen ⟨[(4, 0)], [], [], [(0, .map false (ck (applyC [] e)) (cv (applyC [] e)))], .tup []⟩) | _ => none) ?_
  simp
  refine ⟨by simpa [ck, cv] using apply_ok [] e hs, ?_⟩
  refine LWp.seq ?_
  obtain ⟨m, hm⟩ : ∃ m, m = applyC [] e := ⟨_, rfl⟩
  have hmt : ssort (m.map Prod.fst) = tchN e := by rw [hm, ssort_set (applyC_nodup e), applyC_set]
  rw [← hm] at hal ⊢
  simp at hal
  refine LWp.ro hT hW (fun | 9 => some <| .plain ⟨.d (.fn 103 [.ro [.mp (ck m) (cv m)]]), false⟩ | 10 => some <| .plain ⟨.own 1 ((tchN e).map .str), true⟩ | _ => none) ?_
  simp
  refine ⟨⟨KeysChg_ok _ _, by rw [← hmt, ck_names]; exact SortedChg_ok (m.map Prod.fst) (cv m) (by simp; omega)⟩, ?_⟩
  refine LWp.ret ?_
  simp
theorem PTouches_ok (e : Ed) (hs : e.small) : Ok Tryz.prog 11 [e.d] ⟨.d (strsD (tchN e)), true⟩ := (PTouches_own e hs).own_d
theorem meet1_ok (l : List Str) (s : Str) : Ok Tryz.prog 109 [.str s, .ro [strsD l]] ⟨.d (.bool (decide (s ∈ l))), true⟩ := by
  refine Ok.ret Tryz.func109 (by kernel_rfl) (c := _) rfl Tryz.ntmps109 (by simp) Tryz.results109 (by intro _ h; cases h) fun w0 X hp => ?_
  refine LWp.seq ?_
  refine LWp.rz hT hW ?_
  simp
  refine LWp.seq ?_
  refine LWp.ro hT hW (fun | 6 => some <| .plain ⟨.d (.bool (decide (s ∈ l))), true⟩ | _ => none) ?_
  simp
  refine ⟨InStr_ok l s, ?_⟩
  refine LWp.ret ?_
  simp
theorem meet_ok (a b : Ed) (ha : a.small) (hb : b.small) : Ok Tryz.prog 53 [a.d, b.d] ⟨.d (.bool (meetB a b)), true⟩ := by
  refine Ok.ret Tryz.func53 (by kernel_rfl) (c := _) rfl Tryz.ntmps53 (by simp) Tryz.results53 (by intro _ h; cases h) fun w0 X hp => ?_
  refine LWp.seq ?_
  refine LWp.rz hT hW ?_
  simp
  refine LWp.seq ?_
  refine LWp.ro hT hW (fun | 7 => some <| .plain ⟨.d (strsD (tchN b)), true⟩ | _ => none) ?_
  simp
  refine ⟨PTouches_ok b hb, ?_⟩
  refine LWp.seq ?_
  refine LWp.ro hT hW (fun | 9 => some <| .plain ⟨.d (strsD (tchN a)), true⟩ | 11 => some <| .plain ⟨.d (.bool (meetB a b)), true⟩ | _ => none) ?_
  simp
  refine ⟨⟨PTouches_ok a ha, by simpa [meetB] using AnyStr_ok (tchN a) (fun s => decide (s ∈ tchN b)) _ _ fun s _ => meet1_ok (tchN b) s⟩, ?_⟩
  refine LWp.ret ?_
  simp
theorem ptouching_ok (l : List Ed) (set : List Nm) (e : Ed) (hs : small l) (he : e.small) (hl : set.length ≤ 1100000) : Ok Tryz.prog 67 [edsD l, nmsD set, e.d] ⟨.own 2 ((touchingL l set e).map Nm.d), true⟩ := by
  refine Ok.ret Tryz.func67 (by kernel_rfl) (c := _) rfl Tryz.ntmps67 (by simp) Tryz.results67 (by intro _ h; cases h) fun w0 X hp => ?_
  refine LWp.seq ?_
  refine LWp.rz hT hW ?_
  simp
  refine LWp.seq ?_
  refine LWp.rz hT hW ?_
  simp
  refine LWp.seq ?_
  refine LWp.seq ?_
  refine LWp.rz hT hW ?_
  simp
  refine LWp.block ?_
  refine LWp.loopW (ι := Nat × List Nm) (fun ⟨i, acc⟩ => mkEnv [(0, .d (edsD l)), (5, .bx 5 0), (7, .ow 7 0 acc.length), (11, .d (nmsD set)), (12, .d (I64 set.length)), (13, .d (I64 i))]) (fun ⟨i, acc⟩ => mkObs [(5, .box false ((cellsD e.d).map .d)), (7, .row false 2 (acc.map Nm.d))]) (fun ⟨i, acc⟩ => i ≤ set.length ∧ acc.length ≤ i ∧ acc = touchingL l (set.take i) e) (fun ⟨i, acc⟩ => set.length - i) (0, []) (Weak.to [0, 5, 7, 11, 12, 13] [(5, 5), (7, 7)] (by decide) (by decide) (by simp [hp]) (by simp) (by simp)) (by simp [touchingL]) fun ⟨i, acc⟩ hi3 => ?_
  refine LWp.seq ?_
  refine LWp.rz hT hW ?_
  simp
  refine LWp.seq ?_
  refine LWp.iff ?_
  simp
  refine ⟨fun h3 => ?_, fun h3 => ?_⟩
  · refine LWp.skip ?_
    simp
    refine LWp.seq ?_
    refine LWp.block ?_
    refine LWp.seq ?_
    refine LWp.rz hT hW ?_
    simp [h3]
    refine LWp.seq ?_
    refine LWp.ro hT hW (fun | 19 => some <| .plain ⟨.d (I64 (findI l set[i])), true⟩ | _ => none) ?_
    simp
    refine ⟨EFind_ok l _, ?_⟩
    refine LWp.seq ?_
    rcases (by omega : findI l set[i] < 0 ∨ 0 ≤ findI l set[i]) with q6 | q6
    · refine LWp.regAny hT hW hMixed (lk [[],[0],[0,1],[0,1,2],[0,1,2],[0,1,2,3,4],[0,1,2,3,4,5],[0,1,2],[0,1,2,3,4,5,6,7],[0,1,2,3,4,5,6,7,8]]) (lk [[],[],[],[],[],[],[],[],[],[]]) (lk [[],[],[],[],[],[],[],[],[28],[]]) (by kernel_rfl) (fun _ => none) (by intro d; first | exact ⟨rfl, fun _ h => h⟩ | (split <;> exact ⟨rfl, fun _ h => h⟩)) ?_
      simp [(show ¬ 0 ≤ findI l set[i] by omega)]
      refine LWp.iff ?_
      simp [(show ¬ 0 ≤ findI l set[i] by omega)]
      refine LWp.skip ?_
      simp
      refine LWp.rz hT hW ?_
      simp
      refine ⟨by omega, ?_⟩
      refine loopQ.mk (i + 1, acc) (Weak.to [0, 5, 7, 11, 12, 13] [(5, 5), (7, 7)] (by decide) (by decide) (by simp [hp]) (by simp) (by simp)) ?_ ?_
      · refine ⟨h3, by have := hi3.2.1; dsimp only; omega, ?_⟩
        dsimp only [touchingL] at *
        rw [filter_take_succ h3, ← hi3.2.2]; simp [show ¬ 0 ≤ findI l set[i] by omega]
      · omega
    · obtain ⟨i0, hi0, fc, ec⟩ := edAt_of q6
      refine LWp.regAny hT hW hMixed (lk [[],[0],[0,1],[0,1,2],[0,1,2],[0,1,2,3,4],[0,1,2,3,4,5],[0,1,2],[0,1,2,3,4,5,6,7],[0,1,2,3,4,5,6,7,8]]) (lk [[],[],[],[],[],[],[],[],[],[]]) (lk [[],[],[],[],[],[],[],[],[28],[]]) (by kernel_rfl) (fun | 28 => some <| .plain ⟨.d (.bool (meetB l[i0] e)), true⟩ | _ => none) (by intro d; first | exact ⟨rfl, fun _ h => h⟩ | (split <;> exact ⟨rfl, fun _ h => h⟩)) ?_
      simp [fc, hi0]
      refine ⟨meet_ok _ _ (hs _ (List.getElem_mem hi0)) he, ?_⟩
      refine LWp.iff ?_
      simp
      refine ⟨fun h6 => ?_, fun h6 => ?_⟩
      · refine LWp.rz hT hW ?_
        simp
        refine ⟨by have := hi3.2.1; omega, ?_⟩
        refine LWp.rz hT hW ?_
        simp
        refine ⟨by omega, ?_⟩
        refine loopQ.mk (i + 1, acc ++ [set[i]]) (Weak.to [0, 5, 7, 11, 12, 13] [(5, 5), (33, 7)] (by decide) (by decide) (by simp [hp]) (by simp) (by simp)) ?_ ?_
        · refine ⟨h3, by have := hi3.2.1; simp; omega, ?_⟩
          dsimp only [touchingL] at *
          rw [filter_take_succ h3, ← hi3.2.2]; simp [q6, ec, h6]
        · omega
      · refine LWp.skip ?_
        simp
        refine LWp.rz hT hW ?_
        simp
        refine ⟨by omega, ?_⟩
        refine loopQ.mk (i + 1, acc) (Weak.to [0, 5, 7, 11, 12, 13] [(5, 5), (7, 7)] (by decide) (by decide) (by simp [hp]) (by simp) (by simp)) ?_ ?_
        · refine ⟨h3, by have := hi3.2.1; dsimp only; omega, ?_⟩
          dsimp only [touchingL] at *
          rw [filter_take_succ h3, ← hi3.2.2]; simp [q6, ec, h6]
        · omega
  · refine LWp.exit ?_
    simp
    refine LWp.seq ?_
    refine LWp.rz hT hW ?_
    simp
    refine LWp.ret ?_
    have e2 : acc = touchingL l set e := by rw [hi3.2.2, List.take_of_length_le (by omega)]
    simp [← e2]
open Go.Proofs
def sayF (c : Chg) (s : Str) : Option Df := match lookC c s with | some (some t) => some ⟨s, t⟩ | _ => none
def dropF (c : Chg) (s : Str) : Bool := match lookC c s with | some (some _) => false | _ => true
def psL (c : Chg) (w : Str → Bool) (l : List Str) : List Df := (l.filter w).filterMap (sayF c)
def dsL (c : Chg) (w : Str → Bool) (l : List Str) : List Str := (l.filter w).filter (dropF c)
theorem editC_is (c : Chg) (n : Nm) (needs : List Nm) (w : Str → Bool) : editC c n needs w = ⟨n, needs, psL c w (setS (c.map Prod.fst)), dsL c w (setS (c.map Prod.fst))⟩ := rfl
theorem say_none {c : Chg} {s : Str} (h : (lookC c s).getD none = none) : sayF c s = none ∧ dropF c s = true := by
  unfold sayF dropF
  cases q : lookC c s with
  | none => simp
  | some v => rw [q] at h; simp at h; subst h; simp
theorem say_some {c : Chg} {s t : Str} (h : (lookC c s).getD none = some t) : sayF c s = some ⟨s, t⟩ ∧ dropF c s = false := by
  unfold sayF dropF
  cases q : lookC c s with
  | none => rw [q] at h; simp at h
  | some v => rw [q] at h; simp at h; subst h; simp
theorem fm_snoc {α β : Type} {f : α → Option β} {l : List α} {x : α} : (l ++ [x]).filterMap f = l.filterMap f ++ (match f x with | some y => [y] | none => []) := by
  rw [List.filterMap_append]
  congr 1
  cases q : f x <;> simp [q]
theorem sel_no {c : Chg} {w : Str → Bool} {ns : List Str} {t : Nat} (h : t < ns.length) (h7 : w ns[t] = false) : psL c w (ns.take (t + 1)) = psL c w (ns.take t) ∧ dsL c w (ns.take (t + 1)) = dsL c w (ns.take t) := by
  have hnw : ((ns.take (t + 1)).filter w) = (ns.take t).filter w := by rw [filter_take_succ h]; simp [h7]
  unfold psL dsL
  rw [hnw]; exact ⟨rfl, rfl⟩
theorem sel_nil {c : Chg} {w : Str → Bool} {ns : List Str} {t : Nat} (h : t < ns.length) (h7 : w ns[t] = true) (hv : (lookC c ns[t]).getD none = none) : psL c w (ns.take (t + 1)) = psL c w (ns.take t) ∧ dsL c w (ns.take (t + 1)) = dsL c w (ns.take t) ++ [ns[t]] := by
  have hnw : ((ns.take (t + 1)).filter w) = (ns.take t).filter w ++ [ns[t]] := by rw [filter_take_succ h]; simp [h7]
  unfold psL dsL
  rw [hnw, fm_snoc, List.filter_append, (say_none hv).1]
  exact ⟨by simp, by simp [(say_none hv).2]⟩
theorem sel_put {c : Chg} {w : Str → Bool} {ns : List Str} {t : Nat} {tx : Str} (h : t < ns.length) (h7 : w ns[t] = true) (hv : (lookC c ns[t]).getD none = some tx) : psL c w (ns.take (t + 1)) = psL c w (ns.take t) ++ [⟨ns[t], tx⟩] ∧ dsL c w (ns.take (t + 1)) = dsL c w (ns.take t) := by
  have hnw : ((ns.take (t + 1)).filter w) = (ns.take t).filter w ++ [ns[t]] := by rw [filter_take_succ h]; simp [h7]
  unfold psL dsL
  rw [hnw, fm_snoc, List.filter_append, (say_some hv).1]
  exact ⟨rfl, by simp [(say_some hv).2]⟩
theorem anyName_ok (s : Str) : Ok Tryz.prog 69 [.str s] ⟨.d (.bool true), true⟩ := by
  refine Ok.ret Tryz.func69 (by kernel_rfl) (c := _) rfl Tryz.ntmps69 (by simp) Tryz.results69 (by intro _ h; cases h) fun w0 X hp => ?_
  refine LWp.seq ?_
  refine LWp.rz hT hW ?_
  simp
  refine LWp.seq ?_
  refine LWp.rz hT hW ?_
  simp
  refine LWp.ret ?_
  simp
theorem Split1_ok (first : List Str) (k : Int) (s : Str) : Ok Tryz.prog 84 [.str s, .ro [strsD first], .ro [I64 k]] ⟨.d (.bool (decide (s ∈ first) == decide (k = 0))), true⟩ := by
  refine Ok.ret Tryz.func84 (by kernel_rfl) (c := _) rfl Tryz.ntmps84 (by simp) Tryz.results84 (by intro _ h; cases h) fun w0 X hp => ?_
  refine LWp.seq ?_
  refine LWp.rz hT hW ?_
  simp
  refine LWp.seq ?_
  refine LWp.regAny hT hW hMixed (lk [[],[],[0,1],[],[3],[0,1,2,3,4],[0,1,2,3,4,5]]) (lk [[],[],[],[7],[7],[],[]]) (lk [[],[],[7],[],[],[],[]]) (by kernel_rfl) (fun | 7 => some <| .plain ⟨.d (.bool (decide (s ∈ first))), true⟩ | _ => none) (by intro d; first | exact ⟨rfl, fun _ h => h⟩ | (split <;> exact ⟨rfl, fun _ h => h⟩)) ?_
  simp
  refine ⟨InStr_ok first s, ?_⟩
  refine LWp.ret ?_
  simp
theorem Revert1_ok (m n : Nm) : Ok Tryz.prog 65 [m.d, .ro [I64 n.who, I64 n.seq]] ⟨.d (.bool (decide (m = n))), true⟩ := by
  refine Ok.ret Tryz.func65 (by kernel_rfl) (c := _) rfl Tryz.ntmps65 (by simp) Tryz.results65 (by intro _ h; cases h) fun w0 X hp => ?_
  refine LWp.seq ?_
  refine LWp.rz hT hW ?_
  simp
  refine LWp.seq ?_
  refine LWp.rz hT hW ?_
  simp
  refine LWp.ret ?_
  simp
theorem Squash1_ok (l : List Ed) (n : Nm) : Ok Tryz.prog 93 [n.d, .ro [edsD l]] ⟨.d (.bool (decide (findI l n < 0))), true⟩ := by
  refine Ok.ret Tryz.func93 (by kernel_rfl) (c := _) rfl Tryz.ntmps93 (by simp) Tryz.results93 (by intro _ h; cases h) fun w0 X hp => ?_
  refine LWp.seq ?_
  refine LWp.rz hT hW ?_
  simp
  refine LWp.seq ?_
  refine LWp.ro hT hW (fun | 6 => some <| .plain ⟨.d (I64 (findI l n)), true⟩ | _ => none) ?_
  simp
  refine ⟨EFind_ok l n, ?_⟩
  refine LWp.ret ?_
  simp
theorem convex1_ok (l : List Ed) (e : Ed) (n : Nm) : Ok Tryz.prog 132 [n.d, .ro [edsD l], .ro (cellsD e.d)] ⟨.d (.bool (decide (n ∈ aboveL l e.name))), true⟩ := by
  refine Ok.ret Tryz.func132 (by kernel_rfl) (c := _) rfl Tryz.ntmps132 (by simp) Tryz.results132 (by intro _ h; cases h) fun w0 X hp => ?_
  refine LWp.seq ?_
  refine LWp.rz hT hW ?_
  simp
  refine LWp.seq ?_
  refine LWp.ro hT hW (fun | 9 => some <| .plain ⟨.d (.bool (decide (n ∈ aboveL l e.name))), true⟩ | _ => none) ?_
  simp
  refine ⟨EBefore_ok l n e.name, ?_⟩
  refine LWp.ret ?_
  simp
theorem convex2_ok (l : List Ed) (e : Ed) (n : Nm) : Ok Tryz.prog 133 [n.d, .ro [edsD l], .ro (cellsD e.d)] ⟨.d (.bool (decide (e.name ∈ aboveL l n))), true⟩ := by
  refine Ok.ret Tryz.func133 (by kernel_rfl) (c := _) rfl Tryz.ntmps133 (by simp) Tryz.results133 (by intro _ h; cases h) fun w0 X hp => ?_
  refine LWp.seq ?_
  refine LWp.rz hT hW ?_
  simp
  refine LWp.seq ?_
  refine LWp.ro hT hW (fun | 9 => some <| .plain ⟨.d (.bool (decide (e.name ∈ aboveL l n))), true⟩ | _ => none) ?_
  simp
  refine ⟨EBefore_ok l e.name n, ?_⟩
  refine LWp.ret ?_
  simp
theorem cedit_ok (c : Chg) (n : Nm) (needs : List Nm) (w : Str → Bool) (g : FuncId) (cs : List DV) (hw : ∀ s, Ok Tryz.prog g (.str s :: cs) ⟨.d (.bool (w s)), true⟩) (hc : (c.map Prod.fst).Nodup) (hcl : c.length ≤ 4400000) (hn : needs.length ≤ 1100000) : Ok Tryz.prog 66 [.mp (ck c) (cv c), n.d, nmsD needs, .fn g cs] ⟨.d (editC c n needs w).d, false⟩ := by
  obtain ⟨ns, hns⟩ : ∃ ns, ns = setS (c.map Prod.fst) := ⟨_, rfl⟩
  have hmt : ssort (c.map Prod.fst) = ns := by rw [hns, ssort_set hc]
  have hnl : ns.length ≤ 4400000 := by rw [← hmt, ssort_len]; simpa using hcl
  rw [editC_is, ← hns]
  refine Ok.cell hT Tryz.func66 (by kernel_rfl) (c := _) rfl Tryz.ntmps66 (by simp) Tryz.results66 (by intro _ h; cases h) fun w0 X hp => ?_
  refine LWp.seq ?_
  refine LWp.rz hT hW ?_
  simp
  refine LWp.seq ?_
  refine LWp.regAny hT hW hMixed (lk [[],[],[1],[0,1,2],[],[0,1,2,3,4]]) (lk [[15,9],[9],[9],[9],[15],[]]) (lk [[],[],[15],[],[9],[9]]) (by kernel_rfl) (fun | 15 => some <| .plain ⟨.own 2 (needs.map Nm.d), true⟩ | _ => none) (by intro d; first | exact ⟨rfl, fun _ h => h⟩ | (split <;> exact ⟨rfl, fun _ h => h⟩)) ?_
  simp
  refine ⟨CloneNm_ok needs (by omega), ?_⟩
  refine LWp.nlCell (fz := false) (cs := [.d (I64 n.who), .d (I64 n.seq), .ow 15 0 needs.length, .nl, .nl]) 9 3 1036 2 (by decide) ⟨by simp, by simp, by simp, ?_⟩
  refine LWp.nlCell (fz := false) (cs := [.d (I64 n.who), .d (I64 n.seq), .ow 15 0 needs.length, .ow 1036 0 0, .nl]) 9 4 1050 1 (by decide) ⟨by simp, by simp, by simp, ?_⟩
  simp
  refine LWp.seq ?_
  refine LWp.seq ?_
  refine LWp.ro hT hW (fun | 18 => some <| .plain ⟨.d (.fn 103 [.ro [.mp (ck c) (cv c)]]), false⟩ | 19 => some <| .plain ⟨.own 1 (ns.map .str), true⟩ | _ => none) ?_
  simp
  refine ⟨⟨KeysChg_ok _ _, by rw [← hmt, ck_names]; exact SortedChg_ok (c.map Prod.fst) (cv c) (by simpa using hcl)⟩, ?_⟩
  refine LWp.block ?_
  refine LWp.loopW (ι := Nat × List Df × List Str) (fun ⟨t, ps, ds⟩ => mkEnv [(0, .d (.mp (ck c) (cv c))), (3, .d (.fn g cs)), (8, .bx 8 0), (9, .bx 9 0), (19, .ow 19 0 ns.length), (20, .d (I64 ns.length)), (21, .d (I64 t))]) (fun ⟨t, ps, ds⟩ => mkObs [(8, .box false [.d (I64 0), .d (I64 0), .nl, .nl, .nl]), (9, .box false [.d (I64 n.who), .d (I64 n.seq), .ow 15 0 needs.length, .ow 1036 0 ps.length, .ow 1050 0 ds.length]), (15, .row false 2 (needs.map Nm.d)), (19, .row false 1 (ns.map .str)), (1036, .row false 2 (ps.map Df.d)), (1050, .row false 1 (ds.map .str))]) (fun ⟨t, ps, ds⟩ => t ≤ ns.length ∧ (ps.length ≤ t ∧ ds.length ≤ t) ∧ ps = psL c w (ns.take t) ∧ ds = dsL c w (ns.take t)) (fun ⟨t, ps, ds⟩ => ns.length - t) (0, [], []) (Weak.to [0, 3, 8, 9, 19, 20, 21] [(8, 8), (9, 9), (15, 15), (19, 19), (1036, 1036), (1050, 1050)] (by decide) (by decide) (by simp [hp]) (by simp) (by simp)) (⟨Nat.zero_le _, by simp, rfl, rfl⟩) fun ⟨t, ps, ds⟩ hi3 => ?_
  refine LWp.seq ?_
  refine LWp.rz hT hW ?_
  simp
  refine LWp.seq ?_
  refine LWp.iff ?_
  simp
  refine ⟨fun h3 => ?_, fun h3 => ?_⟩
  · refine LWp.skip ?_
    simp
    refine LWp.seq ?_
    refine LWp.block ?_
    refine LWp.seq ?_
    refine LWp.rz hT hW ?_
    simp [h3]
    refine LWp.seq ?_
    refine LWp.rz hT hW ?_
    simp [look_chgD c]
    refine LWp.block ?_
    refine LWp.seq ?_
    refine LWp.ro hT hW (fun | 41 => some <| .plain ⟨.d (.bool (w ns[t])), true⟩ | _ => none) ?_
    simp
    refine ⟨hw _, ?_⟩
    refine LWp.iff ?_
    simp
    refine ⟨fun h7 => ?_, fun h7 => ?_⟩
    · refine LWp.skip ?_
      simp
      refine LWp.rz hT hW ?_
      simp
      refine ⟨by omega, ?_⟩
      refine loopQ.mk (t + 1, ps, ds) (Weak.to [0, 3, 8, 9, 19, 20, 21] [(8, 8), (9, 9), (15, 15), (19, 19), (1036, 1036), (1050, 1050)] (by decide) (by decide) (by simp [hp]) (by simp) (by simp)) ?_ ?_
      · dsimp only
        obtain ⟨e1, e2⟩ := sel_no (c := c) h3 h7
        rw [e1, e2]
        exact ⟨h3, by omega, hi3.2.2.1, hi3.2.2.2⟩
      · omega
    · refine LWp.seq ?_
      rcases hv : (lookC c ns[t]).getD none with _ | tx
      · refine LWp.rz hT hW ?_
        simp [hv, optD]
        refine LWp.iff ?_
        simp [hv, optD]
        refine LWp.rz hT hW ?_
        simp
        refine ⟨by omega, ?_⟩
        refine LWp.rz hT hW ?_
        simp
        refine ⟨by omega, ?_⟩
        refine loopQ.mk (t + 1, ps, ds ++ [ns[t]]) (Weak.to [0, 3, 8, 9, 19, 20, 21] [(8, 8), (9, 9), (15, 15), (19, 19), (1036, 1036), (50, 1050)] (by decide) (by decide) (by simp [hp]) (by simp) (by simp)) ?_ ?_
        · dsimp only
          obtain ⟨e1, e2⟩ := sel_nil h3 h7 hv
          rw [e1, e2, ← hi3.2.2.1, ← hi3.2.2.2]
          exact ⟨h3, by simp; omega, rfl, rfl⟩
        · omega
      · refine LWp.rz hT hW ?_
        simp [hv, optD]
        refine LWp.iff ?_
        simp
        refine LWp.regAny hT hW hMixed (lk [[],[0],[],[],[3],[3,4],[2,3,4,5],[2,3,4,5,6],[0,1,2,3,4,5,6,7],[0,1,2,3,4,5,6,7,8],[0,1,2,3,4,5,6,7,8,9]]) (lk [[35],[35],[],[],[],[],[],[],[],[],[]]) (lk [[],[],[],[],[],[],[],[35],[29,36],[],[9]]) (by kernel_rfl) (fun _ => none) (fun _ => ⟨rfl, fun _ h => h⟩) ?_
        simp
        refine ⟨by omega, ?_⟩
        refine LWp.rz hT hW ?_
        simp
        refine ⟨by omega, ?_⟩
        refine loopQ.mk (t + 1, ps ++ [⟨ns[t], tx⟩], ds) (Weak.to [0, 3, 8, 9, 19, 20, 21] [(8, 8), (9, 9), (15, 15), (19, 19), (36, 1036), (1050, 1050)] (by decide) (by decide) (by simp [hp]) (by simp) (by simp)) ?_ ?_
        · dsimp only
          obtain ⟨e1, e2⟩ := sel_put h3 h7 hv
          rw [e1, e2, ← hi3.2.2.1, ← hi3.2.2.2]
          exact ⟨h3, by simp; omega, rfl, rfl⟩
        · omega
  · refine LWp.exit ?_
    simp
    refine LWp.seq ?_
    refine LWp.rz hT hW ?_
    simp
    refine LWp.ret ?_
    have e1 := hi3.2.2.1
    have e2 := hi3.2.2.2
    rw [List.take_of_length_le (by omega)] at e1 e2
    simp only [← e1, ← e2]
    simp
open Go.Proofs
theorem alone_ok (e : Ed) (hs : e.small) : Ok Tryz.prog 70 [e.d] ⟨.d (I64 (aloneV e)), true⟩ := by
  refine Ok.ret Tryz.func70 (by kernel_rfl) (c := _) rfl Tryz.ntmps70 (by simp) Tryz.results70 (by intro _ h; cases h) fun w0 X hp => ?_
  refine LWp.seq ?_
  refine LWp.rz hT hW ?_
  simp
  refine LWp.seq ?_
  refine LWp.seq ?_
  refine LWp.rz hT hW ?_
  simp
  refine LWp.len (t := 8) (xs := e.needs.map Nm.d) (by simp) fun hlen => ?_
  simp at hlen
  refine LWp.block ?_
  refine LWp.loopW (ι := Nat) (fun i => mkEnv [(1, .bx 1 0), (2, .d (I64 0)), (8, .d (nmsD e.needs)), (9, .d (I64 e.needs.length)), (10, .d (I64 i))]) (fun i => mkObs [(1, .box false ((cellsD e.d).map .d))]) (fun i => i ≤ e.needs.length ∧ IncTo Nm.less e.needs i ∧ Pre (fun n => !n.isName) e.needs i) (fun i => e.needs.length - i) 0 (Weak.to [1, 2, 8, 9, 10] [(1, 1)] (by decide) (by decide) (by simp [hp]) (by simp) (by simp)) (⟨Nat.zero_le _, IncTo.start (by omega), Pre.zero⟩) fun i hi2 => ?_
  refine LWp.seq ?_
  refine LWp.rz hT hW ?_
  simp
  refine LWp.seq ?_
  refine LWp.iff ?_
  simp
  refine ⟨fun h2 => ?_, fun h2 => ?_⟩
  · refine LWp.skip ?_
    simp
    refine LWp.seq ?_
    refine LWp.block ?_
    refine LWp.seq ?_
    refine LWp.rz hT hW ?_
    simp [h2]
    refine LWp.seq ?_
    refine LWp.regAny hT hW hMixed (lk [[],[0],[0,1],[0,1,2],[0,1,2,3],[0,1,2,3,4],[0,1,2,3,4,5],[0,1,2,3,4,5,6],[0,1,2,3,4,5,6,7],[0,1,2,3,4,5,6],[0,1,2,3,4,5,6,9],[0,1,2,3,4,5,6,7,8,9,10],[0,1,2,3,4,5,6,7,8,9,10,11],[0,1,2,3,4,5,6],[0,1,2,3,4,5,6,7,8,9,10,11,12,13],[0,1,2,3,4,5,6,7,8,9,10,11,12,13,14],[0,1,2,3,4,5,6,7,8,9,10,11,12,13,14,15],[0,1,2,3,4,5,6,7,8,9,10,11,12,13,14,15,16]]) (lk [[],[],[],[],[],[],[],[],[],[],[],[],[],[],[],[],[],[]]) (lk [[],[16],[],[],[],[],[],[],[],[],[],[],[],[],[29],[],[],[]]) (by kernel_rfl) (fun | 16 => some <| .plain ⟨.d (.bool e.needs[i].isName), true⟩ | 29 => some <| .plain ⟨.d (I64 (cmpN (e.needs[i - 1]'(by omega)) e.needs[i])), true⟩ | _ => none) (by intro d; first | exact ⟨rfl, fun _ h => h⟩ | (split <;> exact ⟨rfl, fun _ h => h⟩)) ?_
    simp [h2, (show ((i : Int) - 1).toNat = i - 1 by omega), (show i - 1 < e.needs.length by omega)]
    refine ⟨⟨⟨⟨⟨ppossible_ok _, by intros; omega⟩, by intros; omega⟩, by intros; exact nsOrder_ok (.sl []) _ _⟩, by intros; constructor <;> assumption⟩, ?_⟩
    refine LWp.iff ?_
    simp
    refine ⟨fun h4 => ?_, fun h4 g4 => ?_⟩
    · refine LWp.seq ?_
      refine LWp.rz hT hW ?_
      simp
      refine LWp.ret ?_
      have hn : properE e ≠ true := fun hp => by
        obtain ⟨⟨h5, h6⟩, _⟩ := proper_bare.1 hp
        rcases h4 with h4 | ⟨h0, h4⟩
        · have := List.all_eq_true.1 h6 _ (List.getElem_mem h2)
          simp_all
        · obtain ⟨i, rfl⟩ : ∃ j, i = j + 1 := ⟨i - 1, by omega⟩
          have := incr_iff.1 h5 i h2
          rw [cmpN_ge'] at h4
          simp_all
      simp [aloneV, hn]
    · refine LWp.skip ?_
      simp
      refine LWp.rz hT hW ?_
      simp
      refine ⟨by omega, ?_⟩
      refine loopQ.mk (i + 1) (Weak.to [1, 2, 8, 9, 10] [(1, 1)] (by decide) (by decide) (by simp [hp]) (by simp) (by simp)) ?_ ?_
      · refine ⟨h2, ?_, hi2.2.2.succ h2 (by simpa using h4)⟩
        rcases i with _ | i
        · exact IncTo.start (by omega)
        · exact hi2.2.1.succ h2 (by have := g4 (by omega); simpa [cmpN_lt] using this)
      · omega
  · refine LWp.exit ?_
    simp
    refine LWp.seq ?_
    refine LWp.rz hT hW ?_
    simp
    refine LWp.seq ?_
    refine LWp.ro hT hW (fun | 38 => some <| .plain ⟨.tup [.d (I64 (validV [bareE e]).1), .d (I64 (validV [bareE e]).2)], true⟩ | _ => none) ?_
    simp [evalExtract]
    refine ⟨?_, ?_⟩
    · have := EValid_ok [bareE e] (fun x hx => by simp at hx; subst hx; exact hs)
      simpa [bareE] using this
    refine LWp.seq ?_
    refine LWp.rz hT hW ?_
    simp
    refine LWp.ret ?_
    simp
    have h1 := hi2.2.1.done h2
    have h2 := hi2.2.2.any h2
    have h3 : e.needs.all Nm.isName = true := by
      rw [List.all_eq_true]
      intro x hx
      have := List.any_eq_false.1 h2 x hx
      simpa using this
    rw [valid_bare]
    unfold aloneV
    by_cases q : properE (bareE e) = true
    · rw [if_pos q, if_pos (proper_bare.2 ⟨⟨h1, h3⟩, q⟩)]
    · rw [if_neg q, if_neg (fun h => q (proper_bare.1 h).2)]
set_option maxRecDepth 10000
theorem findI_name {l : List Ed} {n : Nm} {i : Nat} (hi : i < l.length) (h : findI l n = (i : Int)) : l[i].name = n := by
  unfold findI at h
  cases q : find? l n with
  | none => rw [q] at h; simp at h
  | some j =>
    rw [q] at h
    have h' : (j : Int) = i := by simpa using h
    have : j = i := by omega
    subst this
    exact (find_at q).2.1
theorem PApart_ok (l : List Ed) (a b : Nm) (hs : small l) : Ok Tryz.prog 14 [edsD l, a.d, b.d] ⟨.tup [.d (.bool (apartV l a b).1), .d (I64 (apartV l a b).2)], true⟩ := by
  refine Ok.two Tryz.func14 (by kernel_rfl) (c := _) rfl Tryz.ntmps14 (by simp) Tryz.results14 rfl fun w0 X hp => ?_
  refine LWp.seq ?_
  refine LWp.rz hT hW ?_
  simp
  refine LWp.seq ?_
  refine LWp.seq ?_
  refine LWp.ro hT hW (fun | 14 => some <| .plain ⟨.tup [.d (I64 (validV l).1), .d (I64 (validV l).2)], true⟩ | _ => none) ?_
  simp [evalExtract]
  refine ⟨EValid_ok l hs, ?_⟩
  refine LWp.seq ?_
  refine LWp.rz hT hW ?_
  simp
  refine LWp.iff ?_
  simp
  refine ⟨fun h2 => ?_, fun h2 => ?_⟩
  · refine LWp.seq ?_
    refine LWp.rz hT hW ?_
    simp
    refine LWp.ret ?_
    simp [apartV, h2]
  · refine LWp.skip ?_
    simp
    refine LWp.seq ?_
    refine LWp.regAny hT hW hMixed (lk [[],[],[0,1],[],[],[0,1,2,3,4],[0,1,2,3,4,5],[0,1,2,3,4,5,6]]) (lk [[],[],[],[22],[22],[],[],[]]) (lk [[],[],[22],[],[],[25],[],[]]) (by kernel_rfl) (fun | 22 => some <| .plain ⟨.d (I64 (findI l a)), true⟩ | 25 => some <| .plain ⟨.d (I64 (findI l b)), true⟩ | _ => none) (by intro d; first | exact ⟨rfl, fun _ h => h⟩ | (split <;> exact ⟨rfl, fun _ h => h⟩)) ?_
    simp
    refine ⟨⟨EFind_ok l a, EFind_ok l b⟩, ?_⟩
    refine LWp.seq ?_
    refine LWp.seq ?_
    refine LWp.rz hT hW ?_
    simp
    refine LWp.iff ?_
    simp
    refine ⟨fun h5 => ?_, fun h5 h5b => ?_⟩
    · refine LWp.seq ?_
      refine LWp.rz hT hW ?_
      simp
      refine LWp.ret ?_
      simp [apartV, h2, h5]
    · refine LWp.skip ?_
      simp
      refine LWp.seq ?_
      obtain ⟨i, hi, fa, ea⟩ := edAt_of (show 0 ≤ findI l a by omega)
      obtain ⟨j, hj, fb, eb⟩ := edAt_of (show 0 ≤ findI l b by omega)
      refine LWp.regAny hT hW hMixed (lk [[],[],[0,1],[0,1,2],[0,1,2,3],[0,1,2,3],[0,1,2,3,4,5],[0,1,2,3,4,5,6],[0,1,2,3],[0,1,2,3],[0,1,2,3,8,9],[0,1,2,3,8,9,10],[0,1,2,3,4,5,6,7,8,9,10,11],[0,1,2,3,4,5,6,7,8,9,10,11,12],[0,1,2,3,4,5,6,7,8,9,10,11,12,13],[0,1,2,3,4,5,6,7,8,9,10,11,12,13,14],[0,1,2,3,4,5,6,7,8,9,10,11,12,13,14,15],[0,1,2,3,4,5,6,7,8,9,10,11,12,13,14,15],[0,1,2,3,4,5,6,7,8,9,10,11,12,13,14,15],[0,1,2,3,4,5,6,7,8,9,10,11,12,13,14,15,16,17,18],[0,1,2,3,4,5,6,7,8,9,10,11,12,13,14,15,16,17,18,19],[0,1,2,3,4,5,6,7,8,9,10,11,12,13,14,15,16,17,18,19,20],[0,1,2,3,4,5,6,7,8,9,10,11,12,13,14,15,16,17,18,19,20,21],[0,1,2,3,4,5,6,7,8,9,10,11,12,13,14,15,16,17,18,19,20,21,22],[0,1,2,3,4,5,6,7,8,9,10,11,12,13,14,15,16,17,18,19,20,21,22],[0,1,2,3,4,5,6,7,8,9,10,11,12,13,14,15,16,17,18,19,20,21,22],[0,1,2,3,4,5,6,7,8,9,10,11,12,13,14,15,16,17,18,19,20,21,22,23,24,25],[0,1,2,3,4,5,6,7,8,9,10,11,12,13,14,15,16,17,18,19,20,21,22,23,24,25,26],[0,1,2,3,4,5,6,7,8,9,10,11,12,13,14,15,16,17,18,19,20,21,22,23,24,25,26,27],[0,1,2,3,4,5,6,7,8,9,10,11,12,13,14,15,16,17,18,19,20,21,22,23,24,25,26,27,28],[0,1,2,3,4,5,6,7,8,9,10,11,12,13,14,15,16,17,18,19,20,21,22,23,24,25,26,27,28,29]]) (lk [[],[],[],[],[],[],[],[],[],[],[],[],[],[],[],[],[],[],[],[],[],[],[],[],[],[],[],[],[],[],[]]) (lk [[],[],[],[],[],[],[],[],[],[],[],[],[44],[],[],[],[],[],[],[51],[],[],[],[],[],[],[58],[],[],[],[]]) (by kernel_rfl) (fun | 44 => some <| .plain ⟨.d (.bool (meetB l[i] l[j])), true⟩ | 51 => some <| .plain ⟨.d (.bool (decide (a ∈ aboveL l b))), true⟩ | 58 => some <| .plain ⟨.d (.bool (decide (b ∈ aboveL l a))), true⟩ | _ => none) (by intro d; first | exact ⟨rfl, fun _ h => h⟩ | (split <;> exact ⟨rfl, fun _ h => h⟩)) ?_
      simp [fa, fb, hi, hj]
      refine ⟨⟨⟨by intros; exact meet_ok _ _ (hs _ (List.getElem_mem hi)) (hs _ (List.getElem_mem hj)), by intros; exact EBefore_ok l a b⟩, by intros; exact EBefore_ok l b a⟩, ?_⟩
      refine LWp.ret ?_
      have n5 : ¬ (findI l a < 0 ∨ findI l b < 0) := by omega
      have hij : ((i : Int) = (j : Int)) ↔ a = b := by
        constructor
        · intro q
          have q : i = j := by omega
          subst q
          rw [← findI_name hi fa, ← findI_name hj fb]
        · intro q; subst q; rw [← fa, ← fb]
      simp [apartV, h2, n5, ea, eb, hij, Bool.and_assoc]
open Go.Proofs
set_option maxRecDepth 10000
theorem SameTexts_ok (a b : List Str) : Ok Tryz.prog 10 [strsD a, strsD b] ⟨.d (.bool (decide (a = b))), true⟩ := by
  refine Ok.ret Tryz.func10 (by kernel_rfl) (c := _) rfl Tryz.ntmps10 (by simp) Tryz.results10 (by intro _ h; cases h) fun w0 X hp => ?_
  refine LWp.len (t := 0) rfl fun hlen => ?_
  simp at hlen
  refine LWp.seq ?_
  refine LWp.rz hT hW ?_
  simp
  refine LWp.seq ?_
  refine LWp.seq ?_
  refine LWp.rz hT hW ?_
  simp
  refine LWp.iff ?_
  simp
  refine ⟨fun h1 => ?_, fun h1 => ?_⟩
  · refine LWp.seq ?_
    refine LWp.rz hT hW ?_
    simp
    refine LWp.ret ?_
    simp
    exact fun e => h1 (by rw [e])
  · refine LWp.skip ?_
    simp
    refine LWp.seq ?_
    refine LWp.seq ?_
    refine LWp.rz hT hW ?_
    simp
    refine LWp.block ?_
    refine LWp.loopW (ι := Nat) (fun i => mkEnv [(0, .d (strsD a)), (1, .d (strsD b)), (5, .d (I64 i))]) (fun i => mkObs []) (fun i => i ≤ a.length ∧ a.take i = b.take i) (fun i => a.length - i) 0 (Weak.to [0, 1, 5] [] (by decide) (by decide) (by simp [hp]) (by simp) (by simp)) (by simp) fun i hi4 => ?_
    refine LWp.seq ?_
    refine LWp.seq ?_
    refine LWp.rz hT hW ?_
    simp
    refine LWp.iff ?_
    simp
    refine ⟨fun h4 => ?_, fun h4 => ?_⟩
    · refine LWp.skip ?_
      simp
      refine LWp.seq ?_
      refine LWp.block ?_
      refine LWp.seq ?_
      refine LWp.regAny hT hW hMixed (lk [[],[],[0,1],[0,1,2],[],[],[4,5],[4,5,6],[0,1,2,3,4,5,6,7]]) (lk [[],[],[],[],[],[],[],[],[]]) (lk [[],[],[],[],[],[],[],[],[]]) (by kernel_rfl) (fun _ => none) (fun _ => ⟨rfl, fun _ h => h⟩) ?_
      simp [h4, show i < b.length by omega]
      refine LWp.iff ?_
      simp
      refine ⟨fun h6 => ?_, fun h6 => ?_⟩
      · refine LWp.seq ?_
        refine LWp.rz hT hW ?_
        simp
        refine LWp.ret ?_
        simp
        intro e
        subst e
        simp at h6
      · refine LWp.skip ?_
        simp
        refine LWp.rz hT hW ?_
        simp
        refine ⟨by omega, ?_⟩
        refine loopQ.mk (i + 1) (Weak.to [0, 1, 5] [] (by decide) (by decide) (by simp [hp]) (by simp) (by simp)) ?_ ?_
        · exact ⟨h4, take_eq_succ hi4.2 h4 (by omega) (by simpa using h6)⟩
        · omega
    · refine LWp.exit ?_
      simp
      refine LWp.seq ?_
      refine LWp.rz hT hW ?_
      simp
      refine LWp.ret ?_
      simp
      have e : i = a.length := by omega
      have := hi4.2
      rw [e, List.take_length] at this
      have h1' : a.length = b.length := by omega
      rw [this, h1', List.take_length]
theorem ed_eq (a b : Ed) : (((decide (a.name = b.name) && decide (a.needs = b.needs)) && decide (a.puts = b.puts)) && decide (a.drops = b.drops)) = decide (a = b) := by
  cases a; cases b; simp [Bool.decide_and, Bool.and_assoc]
theorem Same_ok (a b : Ed) : Ok Tryz.prog 24 [a.d, b.d] ⟨.d (.bool (decide (a = b))), true⟩ := by
  refine Ok.ret Tryz.func24 (by kernel_rfl) (c := _) rfl Tryz.ntmps24 (by simp) Tryz.results24 (by intro _ h; cases h) fun w0 X hp => ?_
  refine LWp.seq ?_
  refine LWp.rz hT hW ?_
  simp
  refine LWp.seq ?_
  refine LWp.ro hT hW (fun | 15 => some <| .plain ⟨.d (.bool (decide (a.needs = b.needs))), true⟩ | 22 => some <| .plain ⟨.d (.bool (decide (a.puts = b.puts))), true⟩ | 29 => some <| .plain ⟨.d (.bool (decide (a.drops = b.drops))), true⟩ | _ => none) ?_
  simp
  refine ⟨⟨⟨by intros; exact SameNames_ok _ _, by intros; exact SameDefs_ok _ _⟩, by intros; exact SameTexts_ok _ _⟩, ?_⟩
  refine LWp.ret ?_
  rw [← ed_eq]
  simp
def atN (l : List Ed) (n : Int) : Nm :=
  if h : (around n (l.length + 1)).toNat < l.length then (l[(around n (l.length + 1)).toNat]'h).name else ⟨around n 6 - 1, around (n.tdiv 6) 66 - 1⟩
theorem at_ok (l : List Ed) (n : Int) (hl : l.length ≤ 1100000) (q : -9223372036854775808 ≤ n ∧ n ≤ 9223372036854775807) : Ok Tryz.prog 13 [edsD l, I64 n] ⟨.d (atN l n).d, true⟩ := by
  refine Ok.cell hT Tryz.func13 (by kernel_rfl) (c := _) rfl Tryz.ntmps13 (by simp) Tryz.results13 (by intro _ h; cases h) fun w0 X hp => ?_
  refine LWp.seq ?_
  refine LWp.rz hT hW ?_
  simp
  refine LWp.seq ?_
  have ha := Around_ok n (l.length + 1) q.1 q.2 (by omega)
  have hr := around_lt n (l.length + 1) (by omega)
  obtain ⟨k, hk⟩ : ∃ k : Nat, around n (l.length + 1) = (k : Int) := ⟨_, (Int.toNat_of_nonneg hr.1).symm⟩
  rw [hk] at ha
  refine LWp.ro hT hW (fun | 10 => some <| .plain ⟨.d (I64 k), true⟩ | _ => none) ?_
  simp
  refine ⟨⟨by omega, ha⟩, ?_⟩
  refine LWp.seq ?_
  refine LWp.seq ?_
  refine LWp.rz hT hW ?_
  simp
  refine LWp.iff ?_
  simp
  refine ⟨fun h2 => ?_, fun h2 => ?_⟩
  · refine LWp.seq ?_
    refine LWp.rz hT hW ?_
    simp [(show k < l.length by omega)]
    refine LWp.ret ?_
    have hk' : k < l.length := by omega
    simp [atN, hk, hk']
  · refine LWp.skip ?_
    simp
    refine LWp.seq ?_
    have r6 := around_lt n 6 (by decide)
    have r66 := around_lt (n.tdiv 6) 66 (by decide)
    have ht : -9223372036854775808 ≤ n.tdiv 6 ∧ n.tdiv 6 ≤ 9223372036854775807 := by
      rcases Int.le_total 0 n with h | h
      · rw [Int.tdiv_eq_ediv_of_nonneg h]; omega
      · have e : n = -(-n) := by omega
        rw [e, Int.neg_tdiv, Int.tdiv_eq_ediv_of_nonneg (by omega)]; omega
    refine LWp.ro hT hW (fun | 21 => some <| .plain ⟨.d (I64 (around n 6)), true⟩ | 25 => some <| .plain ⟨.d (I64 (around (n.tdiv 6) 66)), true⟩ | _ => none) ?_
    simp
    refine ⟨⟨⟨⟨⟨by simpa using Around_ok n 6 q.1 q.2 (by decide), by omega, by omega⟩, ht.1, ht.2⟩, by simpa using Around_ok (n.tdiv 6) 66 ht.1 ht.2 (by decide)⟩, by omega, by omega⟩, ?_⟩
    refine LWp.ret ?_
    have hk' : ¬ k < l.length := by omega
    simp [atN, hk, hk']
theorem RClosed_ok (l : List Ed) (b : Int) (hn : (allNeeds l).length ≤ 1000) (hl : l.length ≤ 400) (h1 : -9223372036854775808 ≤ b) (h2 : b ≤ 9223372036854775807) : Ok Tryz.prog 19 [edsD l, I64 b] ⟨.d (nmsD (closureV l (someN l b)).1), false⟩ := by
  refine Ok.ret Tryz.func19 (by kernel_rfl) (c := _) rfl Tryz.ntmps19 (by simp) Tryz.results19 (by intro _ h; cases h) fun w0 X hp => ?_
  refine LWp.seq ?_
  refine LWp.rz hT hW ?_
  simp
  refine LWp.seq ?_
  have hsl := someN_len l b
  refine LWp.ro hT hW (fun | 11 => some <| .plain ⟨.d (nmsD (someN l b)), true⟩ | 12 => some <| .plain ⟨.tup [.d (nmsD (closureV l (someN l b)).1), .d (I64 (closureV l (someN l b)).2)], false⟩ | _ => none) ?_
  simp [evalExtract]
  refine ⟨⟨Some_ok l b (by omega) h1 h2, Closure_ok l (someN l b) hn (by omega)⟩, ?_⟩
  refine LWp.seq ?_
  refine LWp.rz hT hW ?_
  simp
  refine LWp.ret ?_
  simp
end Go.Eng
namespace Go.Eng
theorem rowC_mem {f : Nm → Nm → Bool} {all : List Nm} {i : Nat} (hi : i < all.length) {p : Nm × Nm} : p ∈ rowC f all i ↔ p.1 = all[i] ∧ (∃ j, i < j ∧ ∃ hj : j < all.length, all[j] = p.2) ∧ f all[i] p.2 = true := by
  have e : all.getD i default = all[i] := by simp [hi]
  unfold rowC
  rw [e, List.mem_map]
  constructor
  · rintro ⟨b, hb, rfl⟩
    obtain ⟨h1, h2⟩ := List.mem_filter.1 hb
    obtain ⟨k, hk, hk2⟩ := List.getElem_of_mem h1
    rw [List.getElem_drop] at hk2
    rw [List.length_drop] at hk
    exact ⟨rfl, ⟨i + 1 + k, by omega, by omega, hk2⟩, h2⟩
  · rintro ⟨h1, ⟨j, hj, hj2, h3⟩, h2⟩
    refine ⟨p.2, List.mem_filter.2 ⟨?_, h2⟩, by rw [← h1]⟩
    rw [← h3, List.mem_iff_getElem]
    refine ⟨j - (i + 1), by rw [List.length_drop]; omega, ?_⟩
    rw [List.getElem_drop]
    congr 1; omega
theorem pairsL_mem {f : Nm → Nm → Bool} {all : List Nm} {p : Nm × Nm} : ∀ {k : Nat}, p ∈ pairsL f all k ↔ ∃ i, i < k ∧ p ∈ rowC f all i
  | 0 => by simp [pairsL]
  | k + 1 => by
    rw [pairsL, List.mem_append, pairsL_mem]
    constructor
    · rintro (⟨i, h1, h2⟩ | h)
      · exact ⟨i, by omega, h2⟩
      · exact ⟨k, by omega, h⟩
    · rintro ⟨i, h1, h2⟩
      by_cases q : i = k
      · subst q; exact .inr h2
      · exact .inl ⟨i, by omega, h2⟩
theorem pair_iff {f : Nm → Nm → Bool} {all : List Nm} (hr : Rising Nm.less all) {x y : Nm} (hx : x ∈ all) (hy : y ∈ all) (h : Nm.less x y = true) : (x, y) ∈ pairsL f all all.length ↔ f x y = true := by
  rw [pairsL_mem]
  constructor
  · rintro ⟨i, hi, hp⟩
    obtain ⟨h1, _, h2⟩ := (rowC_mem hi).1 hp
    dsimp only at h1 h2
    rw [h1]; exact h2
  · intro hf
    obtain ⟨i, hi, rfl⟩ := List.getElem_of_mem hx
    obtain ⟨j, hj, rfl⟩ := List.getElem_of_mem hy
    refine ⟨i, hi, (rowC_mem hi).2 ⟨rfl, ⟨j, ?_, hj, rfl⟩, hf⟩⟩
    rcases Nat.lt_trichotomy i j with q | q | q
    · exact q
    · subst q; rw [Nm.sto.irrefl] at h; cases h
    · have := Nm.sto.trans _ _ _ h (List.pairwise_iff_getElem.1 hr j i hj hi q)
      rw [Nm.sto.irrefl] at this; cases this
theorem shared_comm {l : List Ed} {a b : Nm} (h : sharedL l a b = []) : sharedL l b a = [] := by
  unfold sharedL at h ⊢
  split at h
  · rename_i q
    rw [if_pos]
    rcases q with q | q | q | q | q
    · exact .inr (.inl q)
    · exact .inl q
    · exact .inr (.inr (.inl q.symm))
    · exact .inr (.inr (.inr (.inr q)))
    · exact .inr (.inr (.inr (.inl q)))
  · rename_i q
    rw [if_neg fun w => q ?_]
    · rw [List.filter_eq_nil_iff] at h ⊢
      intro s hs q'
      exact h s (by simpa using q') (by simpa using hs)
    · rcases w with w | w | w | w | w
      · exact .inr (.inl w)
      · exact .inl w
      · exact .inr (.inr (.inl w.symm))
      · exact .inr (.inr (.inr (.inr w)))
      · exact .inr (.inr (.inr (.inl w)))
theorem sort_two {a b : Nm} (h : Nm.less a b = true) : sortN [a, b] = [a, b] := by
  refine rising_eq Nm.sto (sortN_spec _).1 ?_ (sortN_spec _).2
  exact List.pairwise_cons.2 ⟨fun y hy => by simp at hy; rw [hy]; exact h, by simp⟩
theorem sort_turn {a b : Nm} (h : Nm.less b a = true) : sortN [a, b] = [b, a] := by
  rw [← sort_two h]
  exact sortN_mem fun x => by simp only [List.mem_cons, List.not_mem_nil, or_false]; exact or_comm
theorem sort_same {a : Nm} : sortN [a, a] = [a] := by
  refine rising_eq Nm.sto (sortN_spec _).1 (by simp [Rising]) fun x => ?_
  rw [(sortN_spec _).2]; simp
theorem clash_cases {l : List Ed} {a b : Nm} (hv : (validV l).2 = 0) (ha : 0 ≤ findI l a) (hb : 0 ≤ findI l b) :
    (a = b ∧ sharedL l a b = [] ∧ sortN [a, b] = [a]) ∨ ∃ x y, sortN [a, b] = [x, y] ∧ ((x, y) ∈ clashesL l ↔ sharedL l a b ≠ []) := by
  have hm : ∀ n, 0 ≤ findI l n → n ∈ sortN (l.map Ed.name) := fun n hn => ((sortN_spec _).2 n).2 (found_iff.1 hn)
  have key : ∀ x y, 0 ≤ findI l x → 0 ≤ findI l y → Nm.less x y = true → ((x, y) ∈ clashesL l ↔ sharedL l x y ≠ []) := fun x y hx hy h => by
    unfold clashesL
    rw [if_neg (by rw [hv]; simp), pair_iff (sortN_spec _).1 (hm x hx) (hm y hy) h]
    unfold sharesB
    rw [decide_eq_true_eq, List.length_pos_iff]
  by_cases e : a = b
  · subst e
    refine .inl ⟨rfl, ?_, sort_same⟩
    unfold sharedL
    rw [if_pos (.inr (.inr (.inl rfl)))]
  · refine .inr ?_
    cases q : Nm.less a b with
    | true => exact ⟨a, b, sort_two q, key a b ha hb q⟩
    | false =>
      cases q' : Nm.less b a with
      | true =>
        refine ⟨b, a, sort_turn q', (key b a hb ha q').trans ?_⟩
        exact ⟨fun h w => h (shared_comm w), fun h w => h (shared_comm w)⟩
      | false => exact absurd (Nm.sto.total a b q q') e
theorem resolve_miss {l : List Ed} {a b : Nm} {x : Ed} (h : sharedL l a b ≠ []) :
    ((sharedL l a b).any fun s => decide (s ∉ touches x)) = (tchN (edAt l a)).any fun s => decide (s ∈ tchN (edAt l b)) && !decide (s ∈ tchN x) := by
  have e : sharedL l a b = (touches (edAt l a)).filter fun s => decide (s ∈ touches (edAt l b)) := by
    unfold sharedL at h ⊢
    split at h
    · exact absurd rfl h
    · rename_i q; rw [if_neg q]
  rw [Bool.eq_iff_iff, List.any_eq_true, List.any_eq_true, e]
  simp only [List.mem_filter, mem_tchN, Bool.and_eq_true, decide_eq_true_eq, Bool.not_eq_true', decide_eq_false_iff_not]
  constructor
  · rintro ⟨s, ⟨h1, h2⟩, h3⟩; exact ⟨s, h1, h2, h3⟩
  · rintro ⟨s, h1, h2, h3⟩; exact ⟨s, ⟨h1, h2⟩, h3⟩
def needsC (l : List Ed) (S : List Nm) (x : List Nm) : List Nm := (x.filter fun n => decide (n ∈ S)).flatMap fun n => (needsOf l n).filter fun m => decide (m ∉ S)
def foldC (l : List Ed) (S : List Nm) (x : List Nm) : Chg := (x.filter fun n => decide (n ∈ S)).foldl (fun c n => applyC c (edAt l n)) []
theorem needsC_sort {l : List Ed} (h : (validV l).2 = 0) {S : List Nm} (hS : ∀ n ∈ S, n ∈ l.map Ed.name) : sortN (needsC l S (orderN l (cloN l S))) = sortN (outNeeds l S) := by
  refine sortN_mem fun m => ?_
  rw [outNeeds_iff]
  show m ∈ (inOrd l S).flatMap _ ↔ _
  rw [List.mem_flatMap]
  constructor
  · rintro ⟨n, h1, h2⟩
    obtain ⟨h3, h4⟩ := List.mem_filter.1 h2
    exact ⟨by simpa using h4, n, ((inOrd_spec h hS).1 n).1 h1, h3⟩
  · rintro ⟨h1, n, h2, h3⟩
    exact ⟨n, ((inOrd_spec h hS).1 n).2 h2, List.mem_filter.2 ⟨h3, by simpa using h1⟩⟩
theorem squash_is {l : List Ed} (h : (validV l).2 = 0) {S : List Nm} (hS : ∀ n ∈ S, n ∈ l.map Ed.name) (n : Nm) :
    editC (foldC l S (orderN l (cloN l S))) n (sortN (needsC l S (orderN l (cloN l S)))) (fun _ => true) = squashE l S n := by
  rw [needsC_sort h hS]
  exact squash_editC h hS
theorem foldC_keys {l : List Ed} (h : (validV l).2 = 0) {S : List Nm} (hS : ∀ n ∈ S, n ∈ l.map Ed.name) (n : Nm) :
    ((foldC l S (orderN l (cloN l S))).map Prod.fst).Nodup ∧ (foldC l S (orderN l (cloN l S))).length = (touches (squashE l S n)).length := by
  have hnd : ∀ m ∈ inOrd l S, (touches (edAt l m)).Nodup := fun m hm => proper_nodup (edAt_proper h (hS m (((inOrd_spec h hS).1 m).1 hm))).1
  obtain ⟨k1, k2, _⟩ := chC_made (inOrd l S) (c := []) (L := []) (by simp) (by simp [Rising]) (fun s => rfl) hnd
  refine ⟨k1, ?_⟩
  have hp : ((foldC l S (orderN l (cloN l S))).map Prod.fst).Perm (touches (squashE l S n)) := by
    refine (List.perm_ext_iff_of_nodup k1 squash_nodup).2 fun s => ?_
    rw [squash_touch h hS]
    show s ∈ ((inOrd l S).foldl _ []).map Prod.fst ↔ _
    rw [k2]
    simp only [List.map_nil, List.not_mem_nil, false_or]
    constructor
    · rintro ⟨m, h1, h2⟩; exact ⟨m, ((inOrd_spec h hS).1 m).1 h1, h2⟩
    · rintro ⟨m, h1, h2⟩; exact ⟨m, ((inOrd_spec h hS).1 m).2 h1, h2⟩
  have := hp.length_eq
  rwa [List.length_map] at this
theorem needsC_succ {l : List Ed} {S x : List Nm} {i : Nat} (h : i < x.length) : needsC l S (x.take (i + 1)) = needsC l S (x.take i) ++ if x[i] ∈ S then (needsOf l x[i]).filter (fun m => decide (m ∉ S)) else [] := by
  unfold needsC
  rw [List.take_succ_eq_append_getElem h, List.filter_append, List.flatMap_append]
  congr 1
  by_cases q : x[i] ∈ S <;> simp [q]
theorem foldC_succ {l : List Ed} {S x : List Nm} {i : Nat} (h : i < x.length) : foldC l S (x.take (i + 1)) = if x[i] ∈ S then applyC (foldC l S (x.take i)) (edAt l x[i]) else foldC l S (x.take i) := by
  unfold foldC
  rw [List.take_succ_eq_append_getElem h, List.filter_append, List.foldl_append]
  by_cases q : x[i] ∈ S <;> simp [q]
theorem needsC_take {l : List Ed} {S x : List Nm} (i : Nat) : (needsC l S (x.take i)).length ≤ (needsC l S x).length := by
  have e : needsC l S x = needsC l S (x.take i) ++ needsC l S (x.drop i) := by
    unfold needsC
    rw [← List.flatMap_append, ← List.filter_append, List.take_append_drop]
  rw [e, List.length_append]; omega
end Go.Eng
