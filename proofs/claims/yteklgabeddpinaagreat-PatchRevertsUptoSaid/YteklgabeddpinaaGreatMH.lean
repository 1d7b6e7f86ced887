/-
  Texts of the proofs of this seat, part 8. No condition.
-/
import Derived.Test.YteklgabeddpinaaGreatMG
import Derived.Deep.Strs
import Derived.Deep.Slices
set_option linter.unusedVariables false
set_option linter.unusedSimpArgs false
namespace Go.Eng
open Go.Proofs
attribute [local simp] runL stepL evalG evalOp opLV constLV putEnv dstOk upd upds Res.plain Res.cond Res.fail evalBin evalUn seqQ blockQ argsEnv lookL lookH RetIs memless freshL evalPick evalMin bval bok evalLen evalIn strip whenC guardOps guardC slotsOf
  runM foldS stepI stepM maskE wrIn lk renO lookN evalCall evalCallee optAll resLV resObj retLV retObj retsLV retsObj evalLoad evalIndexAddr evalField solid cellsD_agg cellsD_int cellsD_bool cellsD_str cellsD_sl cellsD_ro cellsD_fn cellsL_agg cellsL_dagg cellsL_int cellsL_bool cellsL_str cellsL_sl cellsL_fn cellsL_ow cellsL_bx cellsL_lfn cellsL_nl takeL takeD mkAgg allD eqD eqDs kindsAre kindIs LObj.live TK.isNone TK.agg TK.isBool TK.isStr TK.isStruct Op.operands Call.operands
  evalBuildSlice evalAppend elemsOf evalStore evalBuild fillL lookupF putL evalSlice bound evalConv elemsS freezes frozen loadR
  mkEnv_at mkObs_at close_d close_agg close_ow close_bx close_fn close_nl touch_d touch_agg touch_ow touch_bx touch_fn touch_nl ren_d ren_agg ren_bx ren_rp ren_ow ren_fn ren_nl ren_junk retQ_ret retQ2_ret condQ_bool Nm.d Df.d Ed.d nmsD dfsD strsD edsD retC_ret nm_eq df_eq take_map_len take_map_app
  nm_t nm_d nm_td df_t df_d df_td str_t str_d str_td ed_t ed_d ed_td
  evalAppendIn evalCut evalClear evalCopy evalMake evalWrap evalCap evalNil isNilC lenL isInp gorc
  mapOf findD keyEq keyOk evalMakeMap evalRange zeroD zeroDV argsG shutG outN lenv retG0_ret retG0_normal retG1_ret renO close_mp touch_mp ren_mp optAll_d optAll_d' touch_ds cellsL_mp cellsD_mp cellsL_dmp
  evalMapSet evalPtr TK.isPtr evalToArr firstL retN_ret retsQ rvarL close_bm touch_bm ren_bm cellsD_bm cellsL_bm cellsL_lbm
attribute [local simp] cutQ_normal cutQ_ret cutQ_exit
section
set_option maxRecDepth 10000
theorem dF1 : (default : Ed).name.who = 0 := rfl
theorem dF2 : (default : Ed).name.seq = 0 := rfl
theorem dF3 : (default : Ed).needs = [] := rfl
theorem dF4 : (default : Ed).puts = [] := rfl
theorem dF5 : (default : Ed).drops = [] := rfl
attribute [local simp] dF1 dF2 dF3 dF4 dF5
def badB (l : List Ed) (S : List Nm) (e : Ed) : Bool := (S.any fun n => decide (n ∈ aboveL l e.name)) && (S.any fun n => decide (e.name ∈ aboveL l n)) && !decide (e.name ∈ S)
theorem convex_bad (l : List Ed) (S : List Nm) : convexB l S = !(l.any (badB l S)) := by
  have h : ∀ e, (!(S.any fun n => decide (e.name ∈ aboveL l n)) || !(S.any fun n => decide (n ∈ aboveL l e.name)) || decide (e.name ∈ S)) = !badB l S e := fun e => by
    unfold badB
    cases (S.any fun n => decide (e.name ∈ aboveL l n)) <;> cases (S.any fun n => decide (n ∈ aboveL l e.name)) <;> cases decide (e.name ∈ S) <;> rfl
  unfold convexB
  simp only [h]
  rw [Bool.eq_iff_iff]
  simp
theorem convex_ok (l : List Ed) (set : List Nm) : Ok Tryz.prog 94 [edsD l, nmsD set] ⟨.d (.bool (convexB l set)), true⟩ := by
  refine Ok.ret Tryz.func94 (by kernel_rfl) (c := _) rfl Tryz.ntmps94 (by simp) Tryz.results94 (by intro _ h; cases h) fun w0 X hp => ?_
  rw [convex_bad]
  refine LWp.len (t := 0) rfl fun hlen => ?_
  simp at hlen
  refine LWp.seq ?_
  refine LWp.rz hT hW ?_
  simp
  refine LWp.seq ?_
  refine LWp.seq ?_
  refine LWp.rz hT hW ?_
  simp
  refine LWp.block ?_
  refine LWp.loopW (ι := Nat) (fun i => mkEnv [(1, .d (nmsD set)), (2, .bx 2 0), (9, .d (edsD l)), (10, .d (I64 l.length)), (11, .d (I64 i))]) (fun i => mkObs [(2, .box false [.d (edsD l)])]) (fun i => i ≤ l.length ∧ Pre (badB l set) l i) (fun i => l.length - i) 0 (Weak.to [1, 2, 9, 10, 11] [(2, 2)] (by decide) (by decide) (by simp [hp]) (by simp) (by simp)) (⟨Nat.zero_le _, Pre.zero⟩) fun i hi2 => ?_
  refine LWp.seq ?_
  refine LWp.rz hT hW ?_
  simp
  refine LWp.seq ?_
  refine LWp.iff ?_
  simp
  refine ⟨fun h2 => ?_, fun h2 => ?_⟩
  · refine LWp.skip ?_
    simp
    refine LWp.seq ?_
    refine LWp.block ?_
    refine LWp.seq ?_
    refine LWp.rz hT hW ?_
    simp [h2]
    refine LWp.seq ?_
    refine LWp.ro hT hW (fun | 17 => some <| .plain ⟨.d (.bool (set.any fun n => decide (n ∈ aboveL l l[i].name))), true⟩ | _ => none) ?_
    simp
    refine ⟨AnyNs_ok set _ _ _ fun n _ => convex1_ok l l[i] n, ?_⟩
    refine LWp.seq ?_
    refine LWp.ro hT hW (fun | 20 => some <| .plain ⟨.d (.bool (set.any fun n => decide (l[i].name ∈ aboveL l n))), true⟩ | _ => none) ?_
    simp
    refine ⟨AnyNs_ok set _ _ _ fun n _ => convex2_ok l l[i] n, ?_⟩
    refine LWp.seq ?_
    refine LWp.ro hT hW (fun | 29 => some <| .plain ⟨.d (.bool (decide (l[i].name ∈ set))), true⟩ | _ => none) ?_
    simp
    refine ⟨by intros; exact nsHas_ok _ _, ?_⟩
    refine LWp.iff ?_
    simp
    refine ⟨fun u1 u2 u3 v1 v2 v3 h6 => ?_, fun h6 => ?_⟩
    · have hb : badB l set l[i] = true := by
        simp only [badB, Bool.and_eq_true, List.any_eq_true, decide_eq_true_eq, Bool.not_eq_true', decide_eq_false_iff_not]
        exact ⟨⟨⟨u1, u2, u3⟩, v1, v2, v3⟩, h6⟩
      refine LWp.seq ?_
      refine LWp.rz hT hW ?_
      simp
      refine LWp.ret ?_
      have e : l.any (badB l set) = true := List.any_eq_true.2 ⟨l[i], List.getElem_mem h2, hb⟩
      simp [e]
    · refine LWp.skip ?_
      simp
      refine LWp.rz hT hW ?_
      simp
      refine ⟨by omega, ?_⟩
      refine loopQ.mk (i + 1) (Weak.to [1, 2, 9, 10, 11] [(2, 2)] (by decide) (by decide) (by simp [hp]) (by simp) (by simp)) ?_ ?_
      · exact ⟨h2, hi2.2.succ h2 (by simp [badB]; simpa using h6)⟩
      · omega
  · refine LWp.exit ?_
    simp
    refine LWp.seq ?_
    refine LWp.rz hT hW ?_
    simp
    refine LWp.ret ?_
    have e : l.any (badB l set) = false := hi2.2.any (by omega)
    simp [e]
theorem PPick_ok (l : List Ed) (n : Nm) (onto : List Nm) (y : Nm) (hs : small l) (hl : onto.length ≤ 1100000) (ht : (touchingL l onto (edAt l n) ++ (edAt l n).needs.filter fun m => decide (m ∈ onto)).length ≤ 12) : Ok Tryz.prog 44 [edsD l, n.d, nmsD onto, y.d] ⟨.tup [.d (pickV l n onto y).1.d, .d (I64 (pickV l n onto y).2)], false⟩ := by
  refine Ok.many hT Tryz.func44 (by kernel_rfl) (c := _) rfl Tryz.ntmps44 (by simp) Tryz.results44 (by simp) (by rfl) fun w0 X hp => ?_
  refine LWp.seq ?_
  refine LWp.rz hT hW ?_
  simp
  refine LWp.seq ?_
  refine LWp.seq ?_
  refine LWp.ro hT hW (fun | 18 => some <| .plain ⟨.tup [.d (I64 (validV l).1), .d (I64 (validV l).2)], true⟩ | _ => none) ?_
  simp [evalExtract]
  refine ⟨EValid_ok l hs, ?_⟩
  refine LWp.seq ?_
  refine LWp.rz hT hW ?_
  simp
  refine LWp.iff ?_
  simp
  refine ⟨fun h2 => ?_, fun h2 => ?_⟩
  · refine LWp.seq ?_
    refine LWp.rz hT hW ?_
    simp
    refine LWp.ret ?_
    have e : pickV l n onto y = (default, (validV l).2) := by simp [pickV, h2]
    simp [e]
  · refine LWp.skip ?_
    simp
    refine LWp.seq ?_
    refine LWp.ro hT hW (fun | 27 => some <| .plain ⟨.d (I64 (findI l n)), true⟩ | _ => none) ?_
    simp
    refine ⟨EFind_ok l n, ?_⟩
    refine LWp.seq ?_
    refine LWp.block ?_
    refine LWp.seq ?_
    refine LWp.rz hT hW ?_
    simp
    refine LWp.iff ?_
    simp
    refine ⟨fun h5 => ?_, fun h5 => ?_⟩
    · refine LWp.seq ?_
      refine LWp.rz hT hW ?_
      simp
      refine LWp.ret ?_
      have e : pickV l n onto y = (default, 6) := by simp [pickV, h2, h5]
      simp [e]
    · refine LWp.seq ?_
      refine LWp.ro hT hW (fun | 35 => some <| .plain ⟨.d (.bool (closedB l onto)), true⟩ | _ => none) ?_
      simp
      refine ⟨EClosed_ok l onto, ?_⟩
      refine LWp.iff ?_
      simp
      refine ⟨fun h7 => ?_, fun h7 => ?_⟩
      · refine LWp.seq ?_
        refine LWp.rz hT hW ?_
        simp
        refine LWp.ret ?_
        have n5 : ¬ findI l n < 0 := by omega
        have e : pickV l n onto y = (default, 10) := by simp [pickV, h2, n5, h7]
        simp [e]
      · refine LWp.seq ?_
        refine LWp.ro hT hW (fun | 40 => some <| .plain ⟨.d (.bool y.isName), true⟩ | _ => none) ?_
        simp
        refine ⟨ppossible_ok y, ?_⟩
        refine LWp.iff ?_
        simp
        refine ⟨fun h9 => ?_, fun h9 => ?_⟩
        · refine LWp.seq ?_
          refine LWp.rz hT hW ?_
          simp
          refine LWp.ret ?_
          have n5 : ¬ findI l n < 0 := by omega
          have e : pickV l n onto y = (default, 1) := by simp [pickV, h2, n5, h7, h9]
          simp [e]
        · refine LWp.seq ?_
          refine LWp.ro hT hW (fun | 46 => some <| .plain ⟨.d (I64 (findI l y)), true⟩ | _ => none) ?_
          simp
          refine ⟨EFind_ok l y, ?_⟩
          refine LWp.iff ?_
          simp
          refine ⟨fun h11 => ?_, fun h11 => ?_⟩
          · refine LWp.seq ?_
            refine LWp.rz hT hW ?_
            simp
            refine LWp.ret ?_
            have n5 : ¬ findI l n < 0 := by omega
            have e : pickV l n onto y = (default, 7) := by simp [pickV, h2, n5, h7, h9, h11]
            simp [e]
          · refine LWp.skip ?_
            simp
            refine LWp.seq ?_
            obtain ⟨i0, hi0, fi, ei⟩ := edAt_of (show 0 ≤ findI l n by omega)
            have hes := hs _ (List.getElem_mem hi0)
            obtain ⟨x, hx⟩ : ∃ x, x = edAt l n := ⟨_, rfl⟩
            have hxe : l[i0] = x := by rw [hx, ei]
            rw [← hx] at ht
            rw [hxe] at hes
            obtain ⟨ns, hns⟩ : ∃ ns, ns = touchingL l onto x := ⟨_, rfl⟩
            rw [← hns] at ht
            refine LWp.ro hT hW (fun | 55 => some <| .plain ⟨.own 2 (ns.map Nm.d), true⟩ | _ => none) ?_
            simp [fi, hi0, hxe]
            refine ⟨by rw [hns]; exact ptouching_ok l onto x hs hes hl, ?_⟩
            refine LWp.seq ?_
            refine LWp.seq ?_
            refine LWp.rz hT hW ?_
            simp [hi0, hxe]
            refine LWp.len (t := 60) (xs := x.needs.map Nm.d) (by simp) fun hxl => ?_
            simp at hxl
            refine LWp.block ?_
            refine LWp.loopW (ι := Nat × List Nm) (fun ⟨i, acc⟩ => mkEnv [(0, .d (edsD l)), (2, .d (nmsD onto)), (7, .bx 7 0), (8, .bx 8 0), (9, .d (I64 0)), (12, .d (I64 i0)), (13, .ow 55 0 acc.length), (60, .d (nmsD x.needs)), (61, .d (I64 x.needs.length)), (62, .d (I64 i))]) (fun ⟨i, acc⟩ => mkObs [(7, .box false [.d (I64 y.who), .d (I64 y.seq)]), (8, .box false [.d (I64 0), .d (I64 0), .nl, .nl, .nl]), (55, .row false 2 (acc.map Nm.d))]) (fun ⟨i, acc⟩ => i ≤ x.needs.length ∧ acc = ns ++ (x.needs.take i).filter fun m => decide (m ∈ onto)) (fun ⟨i, acc⟩ => x.needs.length - i) (0, ns) (Weak.to [0, 2, 7, 8, 9, 12, 13, 60, 61, 62] [(7, 7), (8, 8), (55, 55)] (by decide) (by decide) (by simp [hp]) (by simp) (by simp)) (by simp) fun ⟨i, acc⟩ hi15 => ?_
            refine LWp.seq ?_
            refine LWp.rz hT hW ?_
            simp
            refine LWp.seq ?_
            refine LWp.iff ?_
            simp
            refine ⟨fun h15 => ?_, fun h15 => ?_⟩
            · refine LWp.skip ?_
              simp
              refine LWp.seq ?_
              refine LWp.block ?_
              refine LWp.seq ?_
              refine LWp.rz hT hW ?_
              simp [h15]
              refine LWp.seq ?_
              refine LWp.ro hT hW (fun | 68 => some <| .plain ⟨.d (.bool (decide (x.needs[i] ∈ onto))), true⟩ | _ => none) ?_
              simp [h15]
              refine ⟨nsHas_ok onto _, ?_⟩
              refine LWp.iff ?_
              simp
              refine ⟨fun h17 => ?_, fun h17 => ?_⟩
              · have hal : acc.length ≤ 12 := by
                  rw [hi15.2]
                  refine Nat.le_trans ?_ ht
                  rw [List.length_append, List.length_append]
                  exact Nat.add_le_add_left ((List.take_sublist _ _).filter _).length_le _
                refine LWp.rz hT hW ?_
                simp [h15]
                refine ⟨by omega, ?_⟩
                refine LWp.rz hT hW ?_
                simp
                refine ⟨by omega, ?_⟩
                refine loopQ.mk (i + 1, acc ++ [x.needs[i]]) (Weak.to [0, 2, 7, 8, 9, 12, 13, 60, 61, 62] [(7, 7), (8, 8), (72, 55)] (by decide) (by decide) (by simp [hp]) (by simp) (by simp)) ?_ ?_
                · refine ⟨h15, ?_⟩
                  dsimp only
                  rw [filter_take_succ h15, hi15.2]; simp [h17]
                · omega
              · refine LWp.skip ?_
                simp
                refine LWp.rz hT hW ?_
                simp
                refine ⟨by omega, ?_⟩
                refine loopQ.mk (i + 1, acc) (Weak.to [0, 2, 7, 8, 9, 12, 13, 60, 61, 62] [(7, 7), (8, 8), (55, 55)] (by decide) (by decide) (by simp [hp]) (by simp) (by simp)) ?_ ?_
                · refine ⟨h15, ?_⟩
                  dsimp only
                  rw [filter_take_succ h15, hi15.2]; simp [h17]
                · omega
            · refine LWp.exit ?_
              simp
              refine LWp.seq ?_
              have hac : acc = ns ++ x.needs.filter fun m => decide (m ∈ onto) := by rw [hi15.2, List.take_of_length_le (by omega)]
              have hal : acc.length ≤ 12 := by rw [hac]; exact ht
              have hsl := sortN_len acc
              refine LWp.regAny hT hW hMixed (lk [[],[],[1],[],[],[3,4],[3,4,5],[3,4,5,6],[1,2,3,4,5,6,7],[],[],[9,10],[9,10,11],[9,10,11,12],[1,2,3,4,5,6,7,8,9,10,11,12,13],[0,1,2,3,4,5,6,7,8,9,10,11,12,13,14],[0,1,2,3,4,5,6,7,8,9,10,11,12,13,14,15],[0,1,2,3,4,5,6,7,8,9,10,11,12,13,14,15,16]]) (lk [[76,82,88],[],[],[76],[76],[76],[76],[76],[],[76,82],[76,82],[76,82],[76,82],[76,82],[],[],[],[]]) (lk [[],[],[76],[],[],[],[],[],[82],[],[],[],[],[],[88],[],[8],[]]) (by kernel_rfl) (fun | 76 => some <| .plain ⟨.own 2 ((sortN acc).map Nm.d), true⟩ | 82 => some <| .plain ⟨.own 2 (x.puts.map Df.d), true⟩ | 88 => some <| .plain ⟨.own 1 (x.drops.map .str), true⟩ | _ => none) (by intro d; first | exact ⟨rfl, fun _ h => h⟩ | (split <;> exact ⟨rfl, fun _ h => h⟩)) ?_
              simp [hi0, hxe]
              refine ⟨⟨⟨nsSorted_ok acc hal, CloneDf_ok _ (by have := hes.1; omega)⟩, CloneStr_ok _ (by have := hes.2; omega)⟩, ?_⟩
              refine LWp.ret ?_
              have n5 : ¬ findI l n < 0 := by omega
              have n11 : ¬ 0 ≤ findI l y := by omega
              have e : pickV l n onto y = (⟨y, sortN acc, x.puts, x.drops⟩, 0) := by simp [pickV, pickE, h2, n5, h7, h9, n11, ← hx, ← hns, ← hac]
              simp [e]
end
open Go.Proofs
section
set_option maxRecDepth 10000
attribute [local simp] dF1 dF2 dF3 dF4 dF5
theorem squashV_go {D : List Df} {l : List Ed} {S : List Nm} {n : Nm} (hv : (validV l).2 = 0) (hno : ¬ (S = [] ∨ S.any (fun m => decide (findI l m < 0)) = true)) :
    squashV D l S n = if convexB l S = false then (default, 13) else if (programV D l (cloN l S)).2 ≠ 0 then (default, (programV D l (cloN l S)).2) else if 24 < (touches (squashE l S n)).length then (default, 4) else if n.isName = false then (default, 1)
      else if 0 ≤ findI l n ∧ n ∉ S then (default, 7) else (squashE l S n, 0) := by
  unfold squashV
  rw [if_neg (by simpa using hv), if_neg hno]
theorem PSquash_ok (base : List Df) (l : List Ed) (set : List Nm) (y : Nm) (hs : small l) (hb : base.length ≤ 1000) (hl : set.length ≤ 1100000) (hn : (allNeeds l).length ≤ 1100000) (ht : (needsC l set (orderN l (cloN l set))).length ≤ 12) (hcl : (cloN l set).length ≤ 1000) : Ok Tryz.prog 37 [dfsD base, edsD l, nmsD set, y.d] ⟨.tup [.d (squashV base l set y).1.d, .d (I64 (squashV base l set y).2)], false⟩ := by
  refine Ok.many hT Tryz.func37 (by kernel_rfl) (c := _) rfl Tryz.ntmps37 (by simp) Tryz.results37 (by simp) (by rfl) fun w0 X hp => ?_
  refine LWp.seq ?_
  refine LWp.rz hT hW ?_
  simp
  refine LWp.seq ?_
  refine LWp.seq ?_
  refine LWp.ro hT hW (fun | 25 => some <| .plain ⟨.tup [.d (I64 (validV l).1), .d (I64 (validV l).2)], true⟩ | _ => none) ?_
  simp [evalExtract]
  refine ⟨EValid_ok l hs, ?_⟩
  refine LWp.seq ?_
  refine LWp.rz hT hW ?_
  simp
  refine LWp.iff ?_
  simp
  refine ⟨fun h2 => ?_, fun h2 => ?_⟩
  · refine LWp.seq ?_
    refine LWp.rz hT hW ?_
    simp
    refine LWp.ret ?_
    have e : squashV base l set y = (default, (validV l).2) := by simp [squashV, h2]
    simp [e]
  · refine LWp.skip ?_
    simp
    refine LWp.seq ?_
    refine LWp.ro hT hW (fun | 34 => some <| .plain ⟨.d (.bool (set.any fun n => decide (findI l n < 0))), true⟩ | _ => none) ?_
    simp
    refine ⟨AnyNm_ok _ _ _ _ fun n _ => Squash1_ok l n, ?_⟩
    refine LWp.seq ?_
    refine LWp.seq ?_
    refine LWp.rz hT hW ?_
    simp
    refine LWp.iff ?_
    simp
    refine ⟨fun h5 => ?_, fun h5 g5 => ?_⟩
    · refine LWp.seq ?_
      refine LWp.rz hT hW ?_
      simp
      refine LWp.ret ?_
      have e : squashV base l set y = (default, 6) := by
        unfold squashV
        rw [if_neg (by simpa using h2), if_pos]
        simpa using h5
      simp [e]
    · refine LWp.skip ?_
      simp
      refine LWp.seq ?_
      refine LWp.seq ?_
      have hv : (validV l).2 = 0 := by simpa using h2
      have hS : ∀ n ∈ set, n ∈ l.map Ed.name := fun n hn => found_iff.1 (by have := g5 n hn; omega)
      have hno : ¬ (set = [] ∨ set.any (fun m => decide (findI l m < 0)) = true) := by
        rintro (w | w)
        · exact h5 w
        · obtain ⟨m, hm, hlt⟩ := List.any_eq_true.1 w
          have := g5 m hm
          simp at hlt; omega
      have hgo := squashV_go (D := base) (n := y) hv hno
      refine LWp.ro hT hW (fun | 44 => some <| .plain ⟨.d (.bool (convexB l set)), true⟩ | _ => none) ?_
      simp
      refine ⟨convex_ok l set, ?_⟩
      refine LWp.iff ?_
      simp
      refine ⟨fun h7 => ?_, fun h7 => ?_⟩
      · refine LWp.seq ?_
        refine LWp.rz hT hW ?_
        simp
        refine LWp.ret ?_
        have e : squashV base l set y = (default, 13) := by rw [hgo]; simp [h7]
        simp [e]
      · refine LWp.skip ?_
        simp
        refine LWp.seq ?_
        have k9 := (EClosure_ok l set hl hn).own2_d
        rw [closureV_ok hv hS] at k9
        have hset := closure_closed hv hS
        obtain ⟨cl, hcc⟩ : ∃ cl, cl = cloN l set := ⟨_, rfl⟩
        rw [← hcc] at k9 hset hcl ht
        refine LWp.ro hT hW (fun | 50 => some <| .plain ⟨.tup [.d (nmsD cl), .d (I64 0)], true⟩ | _ => none) ?_
        simp [evalExtract]
        refine ⟨k9, ?_⟩
        refine LWp.seq ?_
        refine LWp.seq ?_
        refine LWp.rz hT hW ?_
        simp
        refine LWp.iff ?_
        simp
        refine LWp.skip ?_
        simp
        refine LWp.seq ?_
        refine LWp.seq ?_
        refine LWp.ro hT hW (fun | 61 => some <| .plain ⟨.tup [.d (dfsD (programV base l cl).1), .d (I64 (programV base l cl).2)], true⟩ | _ => none) ?_
        simp [evalExtract]
        refine ⟨EProgram_ok base l cl hs hb hcl, ?_⟩
        refine LWp.seq ?_
        refine LWp.rz hT hW ?_
        simp
        refine LWp.iff ?_
        simp
        refine ⟨fun h13 => ?_, fun h13 => ?_⟩
        · refine LWp.seq ?_
          refine LWp.rz hT hW ?_
          simp
          refine LWp.ret ?_
          have e : squashV base l set y = (default, (programV base l cl).2) := by rw [hgo]; simp [h7, h13, ← hcc]
          simp [e]
        · refine LWp.skip ?_
          simp
          refine LWp.seq ?_
          have k15 := (EOrder_ok l cl hs (by omega)).own2_d
          rw [show orderV l cl = (orderN l cl, 0) by simp [orderV, hv, hset]] at k15
          have hxf : ∀ n ∈ orderN l cl, n ∈ l.map Ed.name := fun n hn => found_iff.1 (closedB_iff.1 hset n ((mem_orderN hv hset).1 hn)).1
          obtain ⟨x, hx⟩ : ∃ x, x = orderN l cl := ⟨_, rfl⟩
          rw [← hx] at k15 hxf ht
          refine LWp.ro hT hW (fun | 71 => some <| .plain ⟨.tup [.d (nmsD x), .d (I64 0)], true⟩ | _ => none) ?_
          simp [evalExtract]
          refine ⟨k15, ?_⟩
          refine LWp.seq ?_
          refine LWp.seq ?_
          refine LWp.rz hT hW ?_
          simp
          refine LWp.iff ?_
          simp
          refine LWp.skip ?_
          simp
          refine LWp.seq ?_
          refine LWp.rz hT hW ?_
          simp
          refine LWp.seq ?_
          refine LWp.rz hT hW ?_
          simp
          refine LWp.seq ?_
          refine LWp.seq ?_
          refine LWp.rz hT hW ?_
          simp
          refine LWp.len (t := 79) (xs := x.map Nm.d) (by simp) fun hxl => ?_
          simp at hxl
          refine LWp.block ?_
          refine LWp.loopW (ι := Nat × List Nm × Chg) (fun ⟨i, acc, c⟩ => mkEnv [(2, .d (nmsD set)), (5, .bx 5 0), (7, .bx 7 0), (8, .bx 8 0), (9, .d (I64 0)), (16, .mp 78), (17, .ow 17 0 acc.length), (79, .d (nmsD x)), (80, .d (I64 x.length)), (81, .d (I64 i))]) (fun ⟨i, acc, c⟩ => mkObs [(5, .box false [.d (edsD l)]), (7, .box false [.d (I64 y.who), .d (I64 y.seq)]), (8, .box false [.d (I64 0), .d (I64 0), .nl, .nl, .nl]), (17, .row false 2 (acc.map Nm.d)), (78, .map false (ck c) (cv c))]) (fun ⟨i, acc, c⟩ => i ≤ x.length ∧ acc = needsC l set (x.take i) ∧ c = foldC l set (x.take i)) (fun ⟨i, acc, c⟩ => x.length - i) (0, [], []) (Weak.to [2, 5, 7, 8, 9, 16, 17, 79, 80, 81] [(5, 5), (7, 7), (8, 8), (17, 17), (78, 78)] (by decide) (by decide) (by simp [hp]) (by simp) (by simp [ck, cv])) (by simp [needsC, foldC]) fun ⟨i, acc, c⟩ hi21 => ?_
          refine LWp.seq ?_
          refine LWp.rz hT hW ?_
          simp
          refine LWp.seq ?_
          refine LWp.iff ?_
          simp
          refine ⟨fun h21 => ?_, fun h21 => ?_⟩
          · refine LWp.skip ?_
            simp
            refine LWp.seq ?_
            refine LWp.block ?_
            refine LWp.seq ?_
            refine LWp.rz hT hW ?_
            simp [h21]
            refine LWp.seq ?_
            refine LWp.seq ?_
            refine LWp.ro hT hW (fun | 87 => some <| .plain ⟨.d (.bool (decide (x[i] ∈ set))), true⟩ | _ => none) ?_
            simp [h21]
            refine ⟨nsHas_ok set _, ?_⟩
            refine LWp.iff ?_
            simp
            refine ⟨fun h23 => ?_, fun h23 => ?_⟩
            · refine LWp.exit ?_
              simp
              refine LWp.rz hT hW ?_
              simp
              refine ⟨by omega, ?_⟩
              refine loopQ.mk (i + 1, acc, c) (Weak.to [2, 5, 7, 8, 9, 16, 17, 79, 80, 81] [(5, 5), (7, 7), (8, 8), (17, 17), (78, 78)] (by decide) (by decide) (by simp [hp]) (by simp) (by simp)) ?_ ?_
              · refine ⟨h21, ?_, ?_⟩
                · dsimp only
                  rw [needsC_succ h21, if_neg h23, List.append_nil, ← hi21.2.1]
                · dsimp only
                  rw [foldC_succ h21, if_neg h23, ← hi21.2.2]
              · omega
            · refine LWp.skip ?_
              simp
              refine LWp.seq ?_
              obtain ⟨k0, hk0, fk, ek⟩ := edAt_of (found_iff.2 (hxf x[i] (List.getElem_mem h21)))
              obtain ⟨e, he⟩ : ∃ e, e = edAt l x[i] := ⟨_, rfl⟩
              have hes := hs _ (List.getElem_mem hk0)
              have hke : l[k0] = e := by rw [he, ek]
              rw [hke] at hes
              have hen : e.needs = needsOf l x[i] := by rw [he]; exact (edAt_proper hv (hxf _ (List.getElem_mem h21))).2.1
              have hfk := EFind_ok l x[i]
              rw [fk] at hfk
              refine LWp.regAny hT hW hMixed (lk [[],[],[],[1,2],[0,1,2,3],[0,1,2,3,4],[],[0,1,2,3,4,5,6]]) (lk [[20,92],[20],[20],[20],[20],[20],[92],[]]) (lk [[],[],[],[92],[],[],[20],[20]]) (by kernel_rfl) (fun | 92 => some <| .plain ⟨.d (I64 k0), true⟩ | _ => none) (by intro d; first | exact ⟨rfl, fun _ h => h⟩ | (split <;> exact ⟨rfl, fun _ h => h⟩)) ?_
              simp [hk0, hke]
              refine ⟨hfk, ?_⟩
              refine LWp.seq ?_
              refine LWp.ro hT hW (fun | 97 => some (.gen ⟨[(78, 0)], [], [], [(0, .map false (ck (applyC c e)) (cv (applyC c e)))], .tup []⟩) | _ => none) ?_
              simp
              refine ⟨apply_ok c e hes, ?_⟩
              refine LWp.seq ?_
              refine LWp.rz hT hW ?_
              simp
              refine LWp.len (t := 99) (xs := e.needs.map Nm.d) (by simp) fun hnl => ?_
              simp at hnl
              refine LWp.block ?_
              refine LWp.loopW (ι := Nat × List Nm) (fun ⟨j, acc2⟩ => mkEnv [(2, .d (nmsD set)), (5, .bx 5 0), (7, .bx 7 0), (8, .bx 8 0), (9, .d (I64 0)), (16, .mp 78), (17, .ow 17 0 acc2.length), (79, .d (nmsD x)), (80, .d (I64 x.length)), (81, .d (I64 i)), (99, .d (nmsD e.needs)), (100, .d (I64 e.needs.length)), (101, .d (I64 j))]) (fun ⟨j, acc2⟩ => mkObs [(5, .box false [.d (edsD l)]), (7, .box false [.d (I64 y.who), .d (I64 y.seq)]), (8, .box false [.d (I64 0), .d (I64 0), .nl, .nl, .nl]), (17, .row false 2 (acc2.map Nm.d)), (78, .map false (ck (applyC c e)) (cv (applyC c e)))]) (fun ⟨j, acc2⟩ => j ≤ e.needs.length ∧ acc2 = acc ++ (e.needs.take j).filter fun m => decide (m ∉ set)) (fun ⟨j, acc2⟩ => e.needs.length - j) (0, acc) (Weak.to [2, 5, 7, 8, 9, 16, 17, 79, 80, 81, 99, 100, 101] [(5, 5), (7, 7), (8, 8), (17, 17), (78, 78)] (by decide) (by decide) (by simp [hp]) (by simp) (by simp)) (by simp) fun ⟨j, acc2⟩ hi27 => ?_
              refine LWp.seq ?_
              refine LWp.rz hT hW ?_
              simp
              refine LWp.seq ?_
              refine LWp.iff ?_
              simp
              refine ⟨fun h27 => ?_, fun h27 => ?_⟩
              · refine LWp.skip ?_
                simp
                refine LWp.seq ?_
                refine LWp.block ?_
                refine LWp.seq ?_
                refine LWp.rz hT hW ?_
                simp [h27]
                refine LWp.seq ?_
                refine LWp.ro hT hW (fun | 107 => some <| .plain ⟨.d (.bool (decide (e.needs[j] ∈ set))), true⟩ | _ => none) ?_
                simp [h27]
                refine ⟨nsHas_ok set _, ?_⟩
                refine LWp.iff ?_
                simp
                refine ⟨fun h29 => ?_, fun h29 => ?_⟩
                · have hal : acc2.length ≤ 12 := by
                    have q1 := needsC_take (l := l) (S := set) (x := x) (i + 1)
                    rw [needsC_succ h21, if_pos h23, ← hi21.2.1, List.length_append, ← hen] at q1
                    have q2 := ((List.take_sublist j e.needs).filter fun m => decide (m ∉ set)).length_le
                    rw [hi27.2, List.length_append]
                    omega
                  refine LWp.rz hT hW ?_
                  simp [h27]
                  refine ⟨by omega, ?_⟩
                  refine LWp.rz hT hW ?_
                  simp
                  refine ⟨by omega, ?_⟩
                  refine loopQ.mk (j + 1, acc2 ++ [e.needs[j]]) (Weak.to [2, 5, 7, 8, 9, 16, 17, 79, 80, 81, 99, 100, 101] [(5, 5), (7, 7), (8, 8), (112, 17), (78, 78)] (by decide) (by decide) (by simp [hp]) (by simp) (by simp)) ?_ ?_
                  · refine ⟨h27, ?_⟩
                    dsimp only
                    rw [filter_take_succ h27, hi27.2]; simp [h29]
                  · omega
                · refine LWp.skip ?_
                  simp
                  refine LWp.rz hT hW ?_
                  simp
                  refine ⟨by omega, ?_⟩
                  refine loopQ.mk (j + 1, acc2) (Weak.to [2, 5, 7, 8, 9, 16, 17, 79, 80, 81, 99, 100, 101] [(5, 5), (7, 7), (8, 8), (17, 17), (78, 78)] (by decide) (by decide) (by simp [hp]) (by simp) (by simp)) ?_ ?_
                  · refine ⟨h27, ?_⟩
                    dsimp only
                    rw [filter_take_succ h27, hi27.2]; simp [h29]
                  · omega
              · refine LWp.exit ?_
                simp
                refine LWp.rz hT hW ?_
                simp
                refine ⟨by omega, ?_⟩
                refine loopQ.mk (i + 1, acc2, applyC c e) (Weak.to [2, 5, 7, 8, 9, 16, 17, 79, 80, 81] [(5, 5), (7, 7), (8, 8), (17, 17), (78, 78)] (by decide) (by decide) (by simp [hp]) (by simp) (by simp)) ?_ ?_
                · refine ⟨h21, ?_, ?_⟩
                  · dsimp only
                    rw [needsC_succ h21, if_pos h23, ← hen, hi27.2, List.take_of_length_le (by omega), ← hi21.2.1]
                  · dsimp only
                    rw [foldC_succ h21, if_pos h23, ← hi21.2.2, he]
                · omega
          · refine LWp.exit ?_
            simp
            refine LWp.seq ?_
            refine LWp.block ?_
            refine LWp.seq ?_
            have hce : c = foldC l set x := by rw [hi21.2.2, List.take_of_length_le (by omega)]
            have hae : acc = needsC l set x := by rw [hi21.2.1, List.take_of_length_le (by omega)]
            have hckl : (ck c).length = c.length := by simp [ck]
            obtain ⟨hk1, hk2⟩ := foldC_keys hv hS y
            rw [← hcc, ← hx, ← hce] at hk1 hk2
            have hedit := squash_is hv hS y
            rw [← hcc, ← hx, ← hce, ← hae] at hedit
            refine LWp.rz hT hW ?_
            simp
            refine LWp.iff ?_
            simp
            refine ⟨fun h33 => ?_, fun h33 => ?_⟩
            · refine LWp.seq ?_
              refine LWp.rz hT hW ?_
              simp
              refine LWp.ret ?_
              have e : squashV base l set y = (default, 4) := by rw [hgo, if_neg (by simp [h7]), if_neg (by simp [h13, ← hcc]), if_pos (by omega)]
              simp [e]
            · refine LWp.seq ?_
              refine LWp.ro hT hW (fun | 122 => some <| .plain ⟨.d (.bool y.isName), true⟩ | _ => none) ?_
              simp
              refine ⟨ppossible_ok y, ?_⟩
              refine LWp.iff ?_
              simp
              refine ⟨fun h35 => ?_, fun h35 => ?_⟩
              · refine LWp.seq ?_
                refine LWp.rz hT hW ?_
                simp
                refine LWp.ret ?_
                have e : squashV base l set y = (default, 1) := by rw [hgo, if_neg (by simp [h7]), if_neg (by simp [h13, ← hcc]), if_neg (by omega), if_pos (by simpa using h35)]
                simp [e]
              · refine LWp.seq ?_
                refine LWp.ro hT hW (fun | 128 => some <| .plain ⟨.d (I64 (findI l y)), true⟩ | 133 => some <| .plain ⟨.d (.bool (decide (y ∈ set))), true⟩ | _ => none) ?_
                simp
                refine ⟨⟨EFind_ok l y, by intros; exact nsHas_ok _ _⟩, ?_⟩
                refine LWp.iff ?_
                simp
                refine ⟨fun h37 g37 => ?_, fun h37 => ?_⟩
                · refine LWp.seq ?_
                  refine LWp.rz hT hW ?_
                  simp
                  refine LWp.ret ?_
                  have e : squashV base l set y = (default, 7) := by rw [hgo, if_neg (by simp [h7]), if_neg (by simp [h13, ← hcc]), if_neg (by omega), if_neg (by simpa using h35), if_pos ⟨h37, g37⟩]
                  simp [e]
                · refine LWp.skip ?_
                  simp
                  refine LWp.seq ?_
                  have hsl := sortN_len acc
                  rw [← hae] at ht
                  refine LWp.regAny hT hW hMixed (lk [[],[],[],[2],[0,1,2,3],[0,1,2,3,4],[0,1,2,3,4,5]]) (lk [[17,140],[17,140],[],[],[],[],[]]) (lk [[],[],[],[17,140],[140,78,141],[8],[]]) (by kernel_rfl) (fun | 140 => some <| .plain ⟨.own 2 ((sortN acc).map Nm.d), true⟩ | 141 => some <| .plain ⟨.d (squashE l set y).d, false⟩ | _ => none) (by intro d; first | exact ⟨rfl, fun _ h => h⟩ | (split <;> exact ⟨rfl, fun _ h => h⟩)) ?_
                  simp
                  refine ⟨⟨nsSorted_ok acc (by omega), by rw [← hedit]; exact cedit_ok c y (sortN acc) (fun _ => true) _ _ (fun s => anyName_ok s) hk1 (by omega) (by omega)⟩, ?_⟩
                  refine LWp.ret ?_
                  have e : squashV base l set y = (squashE l set y, 0) := by rw [hgo, if_neg (by simp [h7]), if_neg (by simp [h13, ← hcc]), if_neg (by omega), if_neg (by simpa using h35), if_neg fun w => w.2 (h37 w.1)]
                  simp [e]
end
open Go.Proofs
section
set_option maxRecDepth 10000
theorem dE1 : (default : Ed).name.who = 0 := rfl
theorem dE2 : (default : Ed).name.seq = 0 := rfl
theorem dE3 : (default : Ed).needs = [] := rfl
theorem dE4 : (default : Ed).puts = [] := rfl
theorem dE5 : (default : Ed).drops = [] := rfl
attribute [local simp] dE1 dE2 dE3 dE4 dE5
theorem alone_zero {e : Ed} : aloneV e = 0 ↔ properE e = true := by unfold aloneV; split <;> simp [*]
theorem lessN_bool (set : List Nm) (n : Nm) : (set.filter fun x => !decide (x = n)) = lessN set n := by simp [lessN]
theorem prog_names {D : List Df} {l : List Ed} {set : List Nm} (h : (programV D l set).2 = 0) : ((programV D l set).1.map Df.name).Nodup := by
  obtain ⟨L, k⟩ := prog_inv (p := (programV D l set).1) (D := D) (l := l) (set := set) (by rw [← h])
  rw [k.eq]
  exact rising_names (madeOf_rising _ k.rising)
theorem prog_closed {D : List Df} {l : List Ed} {set : List Nm} (h : (programV D l set).2 = 0) : closedB l set = true := by
  obtain ⟨L, k⟩ := prog_inv (p := (programV D l set).1) (D := D) (l := l) (set := set) (by rw [← h])
  exact k.closed
theorem lookC_some {m : Chg} {s : Str} : (lookC m s).isSome = decide (s ∈ m.map Prod.fst) := by
  have := lookC_none (m := m) (s := s)
  cases q : lookC m s with
  | none => rw [q] at this; simp at this ⊢; exact this
  | some v => rw [q] at this; simp at this ⊢; exact this
theorem upC_len (c : Chg) (s : Str) (v : Option Str) : (upC c s v).length ≤ c.length + 1 := by unfold upC; split <;> simp
theorem restore_yes {m : Chg} {d : Df} (h : (lookC m d.name).isSome = true) : restoreC m d = upC m d.name (some d.text) := by
  rw [lookC_some] at h
  unfold restoreC
  rw [if_pos (by simpa using h)]
theorem restore_no {m : Chg} {d : Df} (h : lookC m d.name = none) : restoreC m d = m := by
  rw [lookC_none] at h
  unfold restoreC
  rw [if_neg h]
theorem restoreC_keys (c : Chg) (d : Df) : (restoreC c d).map Prod.fst = c.map Prod.fst := by
  unfold restoreC
  split
  · rename_i h; rw [upC_keys, if_pos h]
  · rfl
theorem restoreC_foldkeys : ∀ (p : List Df) (c : Chg), (p.foldl restoreC c).map Prod.fst = c.map Prod.fst
  | [], _ => rfl
  | d :: p, c => by simp only [List.foldl_cons]; rw [restoreC_foldkeys p, restoreC_keys]
theorem map_len {α β : Type} {f : α → β} {a b : List α} (h : a.map f = b.map f) : a.length = b.length := by have := congrArg List.length h; simpa using this
theorem PRevert_ok (base : List Df) (l : List Ed) (set : List Nm) (n y : Nm) (hs : small l) (hb : base.length ≤ 1000) (hl : set.length ≤ 1000) (ht : (validV l).2 = 0 → (touchingL l set (edAt l n)).length ≤ 11) : Ok Tryz.prog 22 [dfsD base, edsD l, nmsD set, n.d, y.d] ⟨.tup [.d (revertV base l set n y).1.d, .d (I64 (revertV base l set n y).2)], false⟩ := by
  refine Ok.many hT Tryz.func22 (by kernel_rfl) (c := _) rfl Tryz.ntmps22 (by simp) Tryz.results22 (by simp) (by rfl) fun w0 X hp => ?_
  refine LWp.seq ?_
  refine LWp.rz hT hW ?_
  simp
  refine LWp.seq ?_
  refine LWp.seq ?_
  refine LWp.ro hT hW (fun | 30 => some <| .plain ⟨.tup [.d (I64 (validV l).1), .d (I64 (validV l).2)], true⟩ | _ => none) ?_
  simp [evalExtract]
  refine ⟨EValid_ok l hs, ?_⟩
  refine LWp.seq ?_
  refine LWp.rz hT hW ?_
  simp
  refine LWp.iff ?_
  simp
  refine ⟨fun h2 => ?_, fun h2 => ?_⟩
  · refine LWp.seq ?_
    refine LWp.rz hT hW ?_
    simp
    refine LWp.ret ?_
    have e : revertV base l set n y = (default, (validV l).2) := by simp [revertV, h2]
    simp [e]
  · refine LWp.skip ?_
    simp
    refine LWp.seq ?_
    refine LWp.block ?_
    refine LWp.seq ?_
    refine LWp.ro hT hW (fun | 40 => some <| .plain ⟨.d (.bool (decide (n ∈ set))), true⟩ | _ => none) ?_
    simp
    refine ⟨nsHas_ok set n, ?_⟩
    refine LWp.iff ?_
    simp
    refine ⟨fun h4 => ?_, fun h4 => ?_⟩
    · refine LWp.seq ?_
      refine LWp.rz hT hW ?_
      simp
      refine LWp.ret ?_
      have e : revertV base l set n y = (default, 6) := by simp [revertV, h2, h4]
      simp [e]
    · refine LWp.seq ?_
      refine LWp.ro hT hW (fun | 45 => some <| .plain ⟨.d (.bool y.isName), true⟩ | _ => none) ?_
      simp
      refine ⟨ppossible_ok y, ?_⟩
      refine LWp.iff ?_
      simp
      refine ⟨fun h6 => ?_, fun h6 => ?_⟩
      · refine LWp.seq ?_
        refine LWp.rz hT hW ?_
        simp
        refine LWp.ret ?_
        have e : revertV base l set n y = (default, 1) := by simp [revertV, h2, h4, h6]
        simp [e]
      · refine LWp.seq ?_
        refine LWp.ro hT hW (fun | 51 => some <| .plain ⟨.d (I64 (findI l y)), true⟩ | _ => none) ?_
        simp
        refine ⟨EFind_ok l y, ?_⟩
        refine LWp.iff ?_
        simp
        refine ⟨fun h8 => ?_, fun h8 => ?_⟩
        · refine LWp.seq ?_
          refine LWp.rz hT hW ?_
          simp
          refine LWp.ret ?_
          have e : revertV base l set n y = (default, 7) := by simp [revertV, h2, h4, h6, h8]
          simp [e]
        · refine LWp.skip ?_
          simp
          refine LWp.seq ?_
          refine LWp.seq ?_
          refine LWp.ro hT hW (fun | 58 => some <| .plain ⟨.tup [.d (dfsD (programV base l set).1), .d (I64 (programV base l set).2)], true⟩ | _ => none) ?_
          simp [evalExtract]
          refine ⟨EProgram_ok base l set hs hb hl, ?_⟩
          refine LWp.seq ?_
          refine LWp.rz hT hW ?_
          simp
          refine LWp.iff ?_
          simp
          refine ⟨fun h11 => ?_, fun h11 => ?_⟩
          · refine LWp.seq ?_
            refine LWp.rz hT hW ?_
            simp
            refine LWp.ret ?_
            have n8 : ¬ 0 ≤ findI l y := by omega
            have e : revertV base l set n y = (default, (programV base l set).2) := by simp [revertV, h2, h4, h6, n8, h11]
            simp [e]
          · refine LWp.skip ?_
            simp
            refine LWp.seq ?_
            refine LWp.ro hT hW (fun | 66 => some <| .plain ⟨.own 2 (set.map Nm.d), true⟩ | 68 => some (.gen ⟨[(66, 0)], [], [1], [(0, .row false 2 ((set.filter fun x => !decide (x = n)).map Nm.d ++ List.replicate (set.length - (set.filter fun x => !decide (x = n)).length) zeroNm.d))], .ow 0 0 (set.filter fun x => !decide (x = n)).length⟩) | _ => none) ?_
            simp
            refine ⟨⟨CloneNm_ok set (by omega), by simpa using DeleteFuncNm_ok set (by omega) (fun x => decide (x = n)) _ _ fun x _ => Revert1_ok x n⟩, ?_⟩
            refine LWp.seq ?_
            obtain ⟨rest, hrest⟩ : ∃ rest, rest = lessN set n := ⟨_, rfl⟩
            have hrl : rest.length ≤ 1000 := by rw [hrest]; exact Nat.le_trans (List.length_filter_le _ _) hl
            obtain ⟨q, hq⟩ : ∃ q, q = programV base l rest := ⟨_, rfl⟩
            rw [lessN_bool, ← hrest]
            refine LWp.ro hT hW (fun | 73 => some <| .plain ⟨.tup [.d (dfsD q.1), .d (I64 q.2)], true⟩ | _ => none) ?_
            simp [evalExtract]
            refine ⟨by rw [hq]; exact EProgram_ok base l rest hs hb hrl, ?_⟩
            refine LWp.seq ?_
            refine LWp.seq ?_
            refine LWp.rz hT hW ?_
            simp
            refine LWp.iff ?_
            simp
            refine ⟨fun h15 => ?_, fun h15 => ?_⟩
            · refine LWp.seq ?_
              refine LWp.rz hT hW ?_
              simp
              refine LWp.ret ?_
              have n8 : ¬ 0 ≤ findI l y := by omega
              have e : revertV base l set n y = (default, q.2) := by simp [revertV, h2, h4, h6, n8, h11, ← hrest, ← hq, h15]
              simp [e]
            · refine LWp.skip ?_
              simp
              refine LWp.seq ?_
              obtain ⟨i0, hi0, fi, ei⟩ := edAt_of ((closedB_iff.1 (prog_closed h11) n h4).1)
              have hes := hs _ (List.getElem_mem hi0)
              refine LWp.ro hT hW (fun | 83 => some <| .plain ⟨.d (I64 (findI l n)), true⟩ | _ => none) ?_
              simp [fi, hi0]
              refine ⟨by rw [← fi]; exact EFind_ok l n, ?_⟩
              refine LWp.seq ?_
              refine LWp.rz hT hW ?_
              simp
              refine LWp.seq ?_
              refine LWp.seq ?_
              obtain ⟨x, hx⟩ : ∃ x, x = edAt l n := ⟨_, rfl⟩
              rw [← ei, ← hx] at hes ⊢
              have htl := tchN_len hes
              refine LWp.ro hT hW (fun | 88 => some <| .plain ⟨.d (strsD (tchN x)), true⟩ | _ => none) ?_
              simp
              refine ⟨PTouches_ok x hes, ?_⟩
              refine LWp.block ?_
              refine LWp.loopW (ι := Nat × Chg) (fun ⟨i, m⟩ => mkEnv [(1, .d (edsD l)), (2, .d (nmsD set)), (8, .bx 8 0), (9, .bx 9 0), (10, .bx 10 0), (11, .d (I64 0)), (17, .d (dfsD q.1)), (19, .bx 19 0), (20, .mp 86), (88, .d (strsD (tchN x))), (89, .d (I64 (tchN x).length)), (90, .d (I64 i))]) (fun ⟨i, m⟩ => mkObs [(8, .box true [.d (I64 n.who), .d (I64 n.seq)]), (9, .box false [.d (I64 y.who), .d (I64 y.seq)]), (10, .box false [.d (I64 0), .d (I64 0), .nl, .nl, .nl]), (19, .box false ((cellsD x.d).map .d)), (86, .map false (ck m) (cv m))]) (fun ⟨i, m⟩ => i ≤ (tchN x).length ∧ m.length ≤ i ∧ m = ((tchN x).take i).foldl (fun c s => upC c s none) []) (fun ⟨i, m⟩ => (tchN x).length - i) (0, []) (Weak.to [1, 2, 8, 9, 10, 11, 17, 19, 20, 88, 89, 90] [(8, 8), (9, 9), (10, 10), (19, 19), (86, 86)] (by decide) (by decide) (by simp [hp]) (by simp) (by simp [ck, cv])) (by simp) fun ⟨i, m⟩ hi20 => ?_
              refine LWp.seq ?_
              refine LWp.rz hT hW ?_
              simp
              refine LWp.seq ?_
              refine LWp.iff ?_
              simp
              refine ⟨fun h20 => ?_, fun h20 => ?_⟩
              · refine LWp.skip ?_
                simp
                refine LWp.seq ?_
                refine LWp.block ?_
                refine LWp.seq ?_
                refine LWp.rz hT hW ?_
                simp [h20]
                refine LWp.rz hT hW ?_
                simp [put_none m]
                refine LWp.rz hT hW ?_
                simp
                refine ⟨by omega, ?_⟩
                refine loopQ.mk (i + 1, upC m (tchN x)[i] none) (Weak.to [1, 2, 8, 9, 10, 11, 17, 19, 20, 88, 89, 90] [(8, 8), (9, 9), (10, 10), (19, 19), (86, 86)] (by decide) (by decide) (by simp [hp]) (by simp) (by simp)) ?_ ?_
                · exact ⟨h20, Nat.le_trans (upC_len _ _ _) (by have := hi20.2.1; dsimp only; omega), by dsimp only; rw [List.take_succ_eq_append_getElem h20, List.foldl_append, ← hi20.2.2]; rfl⟩
                · omega
              · refine LWp.exit ?_
                simp
                refine LWp.seq ?_
                refine LWp.seq ?_
                refine LWp.len (t := 17) (xs := q.1.map Df.d) (by simp) fun hpl => ?_
                simp at hpl
                have hm : m = undoC x := by rw [hi20.2.2, List.take_of_length_le (by omega)]; rfl
                refine LWp.rz hT hW ?_
                simp
                refine LWp.block ?_
                refine LWp.loopW (ι := Nat × Chg) (fun ⟨j, m2⟩ => mkEnv [(1, .d (edsD l)), (2, .d (nmsD set)), (8, .bx 8 0), (9, .bx 9 0), (10, .bx 10 0), (11, .d (I64 0)), (19, .bx 19 0), (20, .mp 86), (97, .d (dfsD q.1)), (98, .d (I64 q.1.length)), (99, .d (I64 j))]) (fun ⟨j, m2⟩ => mkObs [(8, .box true [.d (I64 n.who), .d (I64 n.seq)]), (9, .box false [.d (I64 y.who), .d (I64 y.seq)]), (10, .box false [.d (I64 0), .d (I64 0), .nl, .nl, .nl]), (19, .box false ((cellsD x.d).map .d)), (86, .map false (ck m2) (cv m2))]) (fun ⟨j, m2⟩ => j ≤ q.1.length ∧ m2 = (q.1.take j).foldl restoreC m) (fun ⟨j, m2⟩ => q.1.length - j) (0, m) (Weak.to [1, 2, 8, 9, 10, 11, 19, 20, 97, 98, 99] [(8, 8), (9, 9), (10, 10), (19, 19), (86, 86)] (by decide) (by decide) (by simp [hp]) (by simp) (by simp)) (by simp) fun ⟨j, m2⟩ hi25 => ?_
                refine LWp.seq ?_
                refine LWp.rz hT hW ?_
                simp
                refine LWp.seq ?_
                refine LWp.iff ?_
                simp
                refine ⟨fun h25 => ?_, fun h25 => ?_⟩
                · refine LWp.skip ?_
                  simp
                  refine LWp.seq ?_
                  refine LWp.block ?_
                  refine LWp.seq ?_
                  refine LWp.rz hT hW ?_
                  simp [h25]
                  refine LWp.seq ?_
                  refine LWp.rz hT hW ?_
                  simp [look_chgO m2, evalExtract]
                  refine LWp.seq ?_
                  refine LWp.rz hT hW ?_
                  simp
                  refine LWp.iff ?_
                  simp
                  refine ⟨fun h28 => ?_, fun h28 => ?_⟩
                  · refine LWp.rz hT hW ?_
                    simp [put_some m2]
                    refine LWp.rz hT hW ?_
                    simp
                    refine ⟨by omega, ?_⟩
                    refine loopQ.mk (j + 1, upC m2 q.1[j].name (some q.1[j].text)) (Weak.to [1, 2, 8, 9, 10, 11, 19, 20, 97, 98, 99] [(8, 8), (9, 9), (10, 10), (19, 19), (86, 86)] (by decide) (by decide) (by simp [hp]) (by simp) (by simp)) ?_ ?_
                    · refine ⟨h25, ?_⟩
                      dsimp only
                      rw [List.take_succ_eq_append_getElem h25, List.foldl_append, ← hi25.2]
                      simp only [List.foldl_cons, List.foldl_nil]
                      exact (restore_yes h28).symm
                    · omega
                  · refine LWp.skip ?_
                    simp
                    refine LWp.rz hT hW ?_
                    simp
                    refine ⟨by omega, ?_⟩
                    refine loopQ.mk (j + 1, m2) (Weak.to [1, 2, 8, 9, 10, 11, 19, 20, 97, 98, 99] [(8, 8), (9, 9), (10, 10), (19, 19), (86, 86)] (by decide) (by decide) (by simp [hp]) (by simp) (by simp)) ?_ ?_
                    · refine ⟨h25, ?_⟩
                      dsimp only
                      rw [List.take_succ_eq_append_getElem h25, List.foldl_append, ← hi25.2]
                      simp only [List.foldl_cons, List.foldl_nil]
                      exact (restore_no h28).symm
                    · omega
                · refine LWp.exit ?_
                  simp
                  refine LWp.seq ?_
                  have hm2 : m2 = q.1.foldl restoreC (undoC x) := by rw [hi25.2, List.take_of_length_le (by omega), hm]
                  have hk2 : m2.map Prod.fst = m.map Prod.fst := by rw [hm2, hm, restoreC_foldkeys]
                  have hnd : (m2.map Prod.fst).Nodup := by rw [hk2, hm]; exact (dropsC_keys (tchN x) (c := []) (by simp)).1
                  have hml : m2.length ≤ 4400000 := by have := map_len hk2; have := hi20.2.1; omega
                  obtain ⟨ns, hns⟩ : ∃ ns, ns = touchingL l set x := ⟨_, rfl⟩
                  have ht := ht (by simpa using h2)
                  rw [← hx, ← hns] at ht
                  have hsl := sortN_len (ns ++ [n])
                  have hre : editC m2 y (sortN (ns ++ [n])) (fun _ => true) = revertE l set n y q.1 := by
                    rw [hm2, hx, hns, hx]
                    exact revert_editC (by rw [hq]; exact prog_names (by rw [← hq]; simpa using h15))
                  refine LWp.regAny hT hW hMixed (lk [[],[],[],[],[],[2,3,4],[],[6],[2,3,4,5,6,7],[2,3,4,5,6,7,8],[0,1,2,3,4,5,6,7,8,9],[],[0,1,2,3,4,5,6,7,8,9,10,11]]) (lk [[27,121,123,124,125],[27,121,123,124,125],[27,123],[27,123],[27,123],[27,123],[27,121],[27,121],[27],[27],[27],[86,121,123,124,125,126],[]]) (lk [[],[],[],[],[],[121],[],[123],[121,124],[125],[126,86,125],[27],[27]]) (by kernel_rfl) (fun | 121 => some <| .plain ⟨.own 2 (ns.map Nm.d), true⟩ | 125 => some <| .plain ⟨.own 2 ((sortN (ns ++ [n])).map Nm.d), true⟩ | 126 => some <| .plain ⟨.d (editC m2 y (sortN (ns ++ [n])) (fun _ => true)).d, false⟩ | _ => none) (by intro d; first | exact ⟨rfl, fun _ h => h⟩ | (split <;> exact ⟨rfl, fun _ h => h⟩)) ?_
                  simp
                  refine ⟨⟨⟨⟨by rw [hns]; simpa using ptouching_ok l set x hs hes (by omega), by omega, by omega⟩, by rw [List.take_of_length_le (by simp)]; simpa using nsSorted_ok (ns ++ [n]) (by simp; omega)⟩, by simpa using cedit_ok m2 y (sortN (ns ++ [n])) (fun _ => true) _ [] (fun s => anyName_ok s) hnd hml (by simp at hsl; omega)⟩, ?_⟩
                  obtain ⟨z, hz⟩ : ∃ z, z = editC m2 y (sortN (ns ++ [n])) (fun _ => true) := ⟨_, rfl⟩
                  rw [← hz] at hre ⊢
                  refine LWp.seq ?_
                  refine LWp.seq ?_
                  have hzs : z.small := by
                    rw [hre]
                    have hv : (validV l).2 = 0 := by simpa using h2
                    have hnn : n ∈ l.map Ed.name := found_iff.1 ((closedB_iff.1 (prog_closed h11) n h4).1)
                    have h24 : (tchN (edAt l n)).length ≤ 24 := Nat.le_trans (setS_len _) (proper_parts.1 (edAt_proper hv hnn).1).2.1
                    exact ⟨Nat.le_trans (List.length_filterMap_le _ _) (by omega), Nat.le_trans (List.length_filter_le _ _) (by omega)⟩
                  refine LWp.ro hT hW (fun | 128 => some <| .plain ⟨.d (I64 (aloneV z)), true⟩ | _ => none) ?_
                  simp
                  refine ⟨by simpa using alone_ok z hzs, ?_⟩
                  refine LWp.iff ?_
                  simp
                  refine ⟨fun h32 => ?_, fun h32 => ?_⟩
                  · refine LWp.seq ?_
                    refine LWp.rz hT hW ?_
                    simp
                    refine LWp.ret ?_
                    have n8 : ¬ 0 ≤ findI l y := by omega
                    have hp' : properE (revertE l set n y q.1) = false := by rw [← hre]; simpa [alone_zero] using h32
                    have e : revertV base l set n y = (default, 1) := by simp [revertV, h2, h4, h6, n8, h11, ← hrest, ← hq, h15, hp']
                    simp [e]
                  · refine LWp.skip ?_
                    simp
                    refine LWp.seq ?_
                    refine LWp.rz hT hW ?_
                    simp
                    refine LWp.ret ?_
                    have n8 : ¬ 0 ≤ findI l y := by omega
                    have hp' : properE (revertE l set n y q.1) = true := by rw [← hre]; simpa [alone_zero] using h32
                    have e : revertV base l set n y = (z, 0) := by rw [hre]; simp [revertV, h2, h4, h6, n8, h11, ← hrest, ← hq, h15, hp']
                    simp [e]
end
open Go.Proofs
def exB3 : List Df := [⟨[97], [118, 97, 114, 32, 97, 32, 61, 32, 49, 59]⟩, ⟨[98], [108, 111, 99, 107, 32, 98, 59]⟩]
def exL3 : List Ed :=
  [⟨⟨0, 1⟩, [], [⟨[97], [118, 97, 114, 32, 97, 32, 61, 32, 50, 59]⟩], []⟩,
   ⟨⟨1, 0⟩, [⟨0, 1⟩], [], [[98]]⟩,
   ⟨⟨1, 1⟩, [], [⟨[97], [118, 97, 114, 32, 97, 32, 61, 32, 51, 59]⟩], []⟩]
theorem example3_ok  : Ok Tryz.prog 58 [] ⟨.tup [.d (.sl (exB3.map Df.d)), .d (edsD exL3)], false⟩ := by
  refine Ok.twod Tryz.func58 (by kernel_rfl) (c := _) rfl Tryz.ntmps58 (by simp) Tryz.results58  fun w0 X hp => ?_
  refine LWp.seq ?_
  refine LWp.rz hT hW ?_
  simp
  refine LWp.seq ?_
  refine LWp.rz hT hW ?_
  simp [(show [0, 1] = List.range 2 from rfl)]
  refine LWp.seq ?_
  refine LWp.rz hT hW ?_
  simp [(show [0, 1] = List.range 2 from rfl), (show [0, 1, 2] = List.range 3 from rfl)]
  refine LWp.seq ?_
  refine LWp.rz hT hW ?_
  simp
  refine LWp.ret ?_
  simp [exB3, exL3, Ed.d, Df.d, Nm.d]
theorem exL3_small : small exL3 := by unfold small; decide
def y5 : Df := ⟨[97], [118, 97, 114, 32, 97, 32, 61, 32, 53, 59]⟩
def a2 : Df := ⟨[97], [118, 97, 114, 32, 97, 32, 61, 32, 50, 59]⟩
def a3 : Df := ⟨[97], [118, 97, 114, 32, 97, 32, 61, 32, 51, 59]⟩
def b0 : Df := ⟨[98], [108, 111, 99, 107, 32, 98, 59]⟩
set_option maxRecDepth 100000 in
theorem ex3_apart1 : apartV exL3 ⟨0, 1⟩ ⟨1, 0⟩ = (false, 0) := by decide
set_option maxRecDepth 100000 in
theorem ex3_apart2 : apartV exL3 ⟨1, 0⟩ ⟨1, 1⟩ = (true, 0) := by decide
set_option maxRecDepth 100000 in
theorem ex3_apart3 : apartV exL3 ⟨0, 1⟩ ⟨1, 1⟩ = (false, 0) := by decide
set_option maxRecDepth 100000 in
theorem ex3_rev1 : revertV exB3 exL3 [⟨0, 1⟩, ⟨1, 0⟩] ⟨1, 0⟩ ⟨2, 0⟩ = (⟨⟨2, 0⟩, [⟨1, 0⟩], [b0], []⟩, 0) := by decide
set_option maxRecDepth 100000 in
theorem ex3_rev2 : revertV exB3 exL3 [⟨0, 1⟩, ⟨1, 0⟩] ⟨0, 1⟩ ⟨2, 0⟩ = (default, 10) := by decide
set_option maxRecDepth 100000 in
theorem ex3_res : resolveV exL3 ⟨0, 1⟩ ⟨1, 1⟩ [y5] [] ⟨2, 0⟩ = (⟨⟨2, 0⟩, [⟨0, 1⟩, ⟨1, 1⟩], [y5], []⟩, 0) := by decide
set_option maxRecDepth 100000 in
theorem ex3_squash : squashV exB3 exL3 [⟨0, 1⟩, ⟨1, 0⟩] ⟨2, 0⟩ = (⟨⟨2, 0⟩, [], [a2], [[98]]⟩, 0) := by decide
set_option maxRecDepth 100000 in
theorem ex3_split : splitV ⟨⟨2, 0⟩, [], [a2], [[98]]⟩ [[97]] ⟨2, 1⟩ ⟨2, 2⟩ = ((⟨⟨2, 1⟩, [], [a2], []⟩, ⟨⟨2, 2⟩, [], [], [[98]]⟩), 0) := by decide
set_option maxRecDepth 100000 in
theorem ex3_pick : pickV exL3 ⟨1, 1⟩ [⟨0, 1⟩] ⟨2, 0⟩ = (⟨⟨2, 0⟩, [⟨0, 1⟩], [a3], []⟩, 0) := by decide
open Go.Proofs
section
set_option maxRecDepth 10000
attribute [local simp] dF1 dF2 dF3 dF4 dF5 prD
theorem pr_eq (a b : Nm × Nm) : (decide (a.1.who = b.1.who) && (decide (a.1.seq = b.1.seq) && (decide (a.2.who = b.2.who) && decide (a.2.seq = b.2.seq)))) = decide (a = b) := by
  obtain ⟨⟨_, _⟩, ⟨_, _⟩⟩ := a
  obtain ⟨⟨_, _⟩, ⟨_, _⟩⟩ := b
  simp [Bool.decide_and, Bool.and_assoc]
attribute [local simp] pr_eq
theorem IndexOfPr_ok (l : List (Nm × Nm)) (n : Nm × Nm) : Ok Tryz.prog 119 [.sl (l.map prD), prD n] ⟨.d (I64 (idxI (fun x => decide (n = x)) l)), true⟩ := by
  refine Ok.ret Tryz.func119 (by kernel_rfl) (c := _) rfl Tryz.ntmps119 (by simp) Tryz.results119 (by intro _ h; cases h) fun w0 X hp => ?_
  refine LWp.len (t := 0) rfl fun hlen => ?_
  simp at hlen
  refine LWp.seq ?_
  refine LWp.rz hT hW ?_
  simp
  refine LWp.seq ?_
  refine LWp.seq ?_
  refine LWp.rz hT hW ?_
  simp
  refine LWp.block ?_
  refine LWp.loopW (ι := Nat) (fun i => mkEnv [(0, .d (.sl (l.map prD))), (3, .bx 3 0), (7, .d (I64 l.length)), (8, .d (I64 i))]) (fun i => mkObs [(3, .box false [.d (I64 n.1.who), .d (I64 n.1.seq), .d (I64 n.2.who), .d (I64 n.2.seq)])]) (fun i => i ≤ l.length ∧ Pre (fun x => decide (n = x)) l i) (fun i => l.length - i) 0 (Weak.to [0, 3, 7, 8] [(3, 3)] (by decide) (by decide) (by simp [hp]) (by simp) (by simp)) (⟨Nat.zero_le _, Pre.zero⟩) fun i hi2 => ?_
  refine LWp.seq ?_
  refine LWp.rz hT hW ?_
  simp
  refine LWp.seq ?_
  refine LWp.iff ?_
  simp
  refine ⟨fun h2 => ?_, fun h2 => ?_⟩
  · refine LWp.skip ?_
    simp
    refine LWp.seq ?_
    refine LWp.block ?_
    refine LWp.seq ?_
    refine LWp.rz hT hW ?_
    simp
    refine LWp.seq ?_
    refine LWp.regAny hT hW hMixed (lk [[],[],[],[1,2],[1,2,3],[0,1,2,3,4]]) (lk [[],[],[],[],[],[]]) (lk [[],[],[],[],[],[]]) (by kernel_rfl) (fun _ => none) (fun _ => ⟨rfl, fun _ h => h⟩) ?_
    simp [h2]
    refine LWp.iff ?_
    simp
    refine ⟨fun a1 a2 a3 => ?_, fun g4 => ?_⟩
    · have h4 : n = l[i] := by
        rcases hq : l[i] with ⟨⟨u, v⟩, w⟩
        rcases n with ⟨⟨u', v'⟩, w'⟩
        rw [hq] at a1 a2 a3
        simp_all
      refine LWp.seq ?_
      refine LWp.rz hT hW ?_
      simp
      refine LWp.ret ?_
      simp [idxI_some (hi2.2.found h2 (by simpa using h4))]
    · have h4 : ¬ n = l[i] := fun e => g4 (by rw [e]) (by rw [e]) (by rw [e])
      refine LWp.skip ?_
      simp
      refine LWp.rz hT hW ?_
      simp
      refine ⟨by omega, ?_⟩
      refine loopQ.mk (i + 1) (Weak.to [0, 3, 7, 8] [(3, 3)] (by decide) (by decide) (by simp [hp]) (by simp) (by simp)) ?_ ?_
      · exact ⟨h2, hi2.2.succ h2 (by simpa using h4)⟩
      · omega
  · refine LWp.exit ?_
    simp
    refine LWp.seq ?_
    refine LWp.rz hT hW ?_
    simp
    refine LWp.ret ?_
    simp [idxI_none (hi2.2.none (by omega))]
theorem InPr_ok (l : List (Nm × Nm)) (n : Nm × Nm) : Ok Tryz.prog 78 [.sl (l.map prD), prD n] ⟨.d (.bool (decide (n ∈ l))), true⟩ := by
  refine Ok.ret Tryz.func78 (by kernel_rfl) (c := _) rfl Tryz.ntmps78 (by simp) Tryz.results78 (by intro _ h; cases h) fun w0 X hp => ?_
  refine LWp.seq ?_
  refine LWp.rz hT hW ?_
  simp
  refine LWp.seq ?_
  refine LWp.ro hT hW (fun | 7 => some <| .plain ⟨.d (I64 (idxI (fun x => decide (n = x)) l)), true⟩ | _ => none) ?_
  simp
  refine ⟨IndexOfPr_ok l n, ?_⟩
  refine LWp.ret ?_
  simp [idxI_nonneg']
theorem PResolve_ok (l : List Ed) (a b : Nm) (puts : List Df) (drops : List Str) (y : Nm) (hs : small l) (hpl : puts.length ≤ 1100000) (hdl : drops.length ≤ 1100000) : Ok Tryz.prog 25 [edsD l, a.d, b.d, dfsD puts, strsD drops, y.d] ⟨.tup [.d (resolveV l a b puts drops y).1.d, .d (I64 (resolveV l a b puts drops y).2)], false⟩ := by
  refine Ok.many hT Tryz.func25 (by kernel_rfl) (c := _) rfl Tryz.ntmps25 (by simp) Tryz.results25 (by simp) (by rfl) fun w0 X hp => ?_
  refine LWp.len (t := 0) rfl fun hlen => ?_
  simp at hlen
  refine LWp.seq ?_
  refine LWp.rz hT hW ?_
  simp
  refine LWp.seq ?_
  refine LWp.seq ?_
  refine LWp.ro hT hW (fun | 27 => some <| .plain ⟨.tup [.d (I64 (validV l).1), .d (I64 (validV l).2)], true⟩ | _ => none) ?_
  simp [evalExtract]
  refine ⟨EValid_ok l hs, ?_⟩
  refine LWp.seq ?_
  refine LWp.rz hT hW ?_
  simp
  refine LWp.iff ?_
  simp
  refine ⟨fun h2 => ?_, fun h2 => ?_⟩
  · refine LWp.seq ?_
    refine LWp.rz hT hW ?_
    simp
    refine LWp.ret ?_
    have e : resolveV l a b puts drops y = (default, (validV l).2) := by simp [resolveV, h2]
    simp [e]
  · refine LWp.skip ?_
    simp
    refine LWp.seq ?_
    refine LWp.regAny hT hW hMixed (lk [[],[],[0,1],[],[],[0,1,2,3,4],[0,1,2,3,4,5],[0,1,2,3,4,5,6]]) (lk [[],[],[],[36],[36],[],[],[]]) (lk [[],[],[36],[],[],[39],[],[]]) (by kernel_rfl) (fun | 36 => some <| .plain ⟨.d (I64 (findI l a)), true⟩ | 39 => some <| .plain ⟨.d (I64 (findI l b)), true⟩ | _ => none) (by intro d; first | exact ⟨rfl, fun _ h => h⟩ | (split <;> exact ⟨rfl, fun _ h => h⟩)) ?_
    simp
    refine ⟨⟨EFind_ok l a, EFind_ok l b⟩, ?_⟩
    refine LWp.seq ?_
    refine LWp.seq ?_
    refine LWp.rz hT hW ?_
    simp
    refine LWp.iff ?_
    simp
    refine ⟨fun h5 => ?_, fun h5 g5 => ?_⟩
    · refine LWp.seq ?_
      refine LWp.rz hT hW ?_
      simp
      refine LWp.ret ?_
      have e : resolveV l a b puts drops y = (default, 6) := by simp [resolveV, h2, h5]
      simp [e]
    · refine LWp.skip ?_
      simp
      refine LWp.seq ?_
      refine LWp.ro hT hW (fun | 50 => some <| .plain ⟨.d (nmsD (sortN [a, b])), true⟩ | _ => none) ?_
      simp
      refine ⟨⟨rfl, by simpa using (nsSorted_ok [a, b] (by simp)).own_d⟩, ?_⟩
      refine LWp.seq ?_
      refine LWp.seq ?_
      have hv : (validV l).2 = 0 := by simpa using h2
      rcases clash_cases (a := a) (b := b) hv (by omega) (by omega) with ⟨hab, hsh, hso⟩ | ⟨p, q, hso, hpq⟩
      · refine LWp.regAny hT hW hMixed (lk [[],[0],[0,1],[0,1,2],[0,1,2,3],[0,1,2,3,4],[0,1,2,3],[0,1,2,3,6],[0,1,2,3,6,7],[0,1,2,3,4,5,6,7,8],[0,1,2,3,4,5,6,7,8,9],[0,1,2,3,4,5,6,7,8,9,10]]) (lk [[],[],[],[],[],[],[56],[56],[56],[],[],[]]) (lk [[],[],[],[],[],[56],[],[],[],[60],[],[]]) (by kernel_rfl) (fun _ => none) (by intro d; first | exact ⟨rfl, fun _ h => h⟩ | (split <;> exact ⟨rfl, fun _ h => h⟩)) ?_
        simp [hso]
        refine LWp.iff ?_
        simp [hso]
        refine LWp.seq ?_
        refine LWp.rz hT hW ?_
        simp
        refine LWp.ret ?_
        have e : resolveV l a b puts drops y = (default, 15) := by unfold resolveV; rw [if_neg (by simpa using h2), if_neg (by omega), if_pos hsh]
        simp [e]
      · refine LWp.regAny hT hW hMixed (lk [[],[0],[0,1],[0,1,2],[0,1,2,3],[0,1,2,3,4],[0,1,2,3],[0,1,2,3,6],[0,1,2,3,6,7],[0,1,2,3,4,5,6,7,8],[0,1,2,3,4,5,6,7,8,9],[0,1,2,3,4,5,6,7,8,9,10]]) (lk [[],[],[],[],[],[],[56],[56],[56],[],[],[]]) (lk [[],[],[],[],[],[56],[],[],[],[60],[],[]]) (by kernel_rfl) (fun | 56 => some <| .plain ⟨.d (.sl ((clashesL l).map prD)), true⟩ | 60 => some <| .plain ⟨.d (.bool (decide ((p, q) ∈ clashesL l))), true⟩ | _ => none) (by intro d; first | exact ⟨rfl, fun _ h => h⟩ | (split <;> exact ⟨rfl, fun _ h => h⟩)) ?_
        simp [hso]
        refine ⟨⟨⟨EClashes_ok l hs, by simp [flatD]⟩, by simpa [flatD] using InPr_ok (clashesL l) (p, q)⟩, ?_⟩
        refine LWp.iff ?_
        simp
        refine ⟨fun h8 => ?_, fun h8 => ?_⟩
        · refine LWp.seq ?_
          refine LWp.rz hT hW ?_
          simp
          refine LWp.ret ?_
          have hsh : sharedL l a b = [] := Decidable.not_not.1 fun w => h8 (hpq.2 w)
          have e : resolveV l a b puts drops y = (default, 15) := by unfold resolveV; rw [if_neg (by simpa using h2), if_neg (by omega), if_pos hsh]
          simp [e]
        · refine LWp.skip ?_
          simp
          refine LWp.seq ?_
          have hsh : sharedL l a b ≠ [] := hpq.1 (by simpa using h8)
          obtain ⟨i0, hi0, fi, ei⟩ := edAt_of (show 0 ≤ findI l a by omega)
          obtain ⟨k0, hk0, fk, ek⟩ := edAt_of (show 0 ≤ findI l b by omega)
          obtain ⟨x, hx⟩ : ∃ x, x = resolveE a b puts drops y := ⟨_, rfl⟩
          have hxs : x.small := by rw [hx]; exact ⟨hpl, hdl⟩
          have hso2 : x.needs = [p, q] := by rw [hx]; exact hso
          refine LWp.regAny hT hW hMixed (lk [[],[],[],[2],[],[2,3,4],[0,1,2,3,4,5],[],[0,1,2,3,4,5,6,7]]) (lk [[19,67,69],[19,67,69],[19],[19],[19,67],[19],[19],[67,69],[]]) (lk [[],[],[],[67],[],[69],[],[19],[19]]) (by kernel_rfl) (fun | 67 => some <| .plain ⟨.d (dfsD puts), true⟩ | 69 => some <| .plain ⟨.d (strsD drops), true⟩ | _ => none) (by intro d; first | exact ⟨rfl, fun _ h => h⟩ | (split <;> exact ⟨rfl, fun _ h => h⟩)) ?_
          simp
          refine ⟨⟨(CloneDf_ok puts (by omega)).own_d, (CloneStr_ok drops (by omega)).own_d⟩, ?_⟩
          refine LWp.seq ?_
          refine LWp.regAny hT hW hMixed (lk [[],[],[0,1],[0,1,2],[0,1,2,3],[],[],[5,6],[5,6,7],[0,1,2,3,4,5,6,7,8],[],[0,1,2,3,4,5,6,7,8,9,10],[0,1,2,3,4,5,6,7,8,9,10,11],[0,1,2,3,4,5,6,7,8,9,10,11,12],[0,1,2,3,4,5,6,7,8,9,10,11,12,13]]) (lk [[],[],[],[],[],[75],[75],[75],[75],[],[75,80],[],[],[],[]]) (lk [[],[],[],[],[75],[],[],[],[],[80],[],[82],[],[],[]]) (by kernel_rfl) (fun | 75 => some <| .plain ⟨.d (strsD (tchN l[i0])), true⟩ | 80 => some <| .plain ⟨.d (strsD (tchN l[k0])), true⟩ | 82 => some <| .plain ⟨.d (strsD (tchN x)), true⟩ | _ => none) (by intro d; first | exact ⟨rfl, fun _ h => h⟩ | (split <;> exact ⟨rfl, fun _ h => h⟩)) ?_
          simp [fi, fk, hi0, hk0]
          refine ⟨⟨⟨PTouches_ok _ (hs _ (List.getElem_mem hi0)), PTouches_ok _ (hs _ (List.getElem_mem hk0))⟩, by have := PTouches_ok x hxs; simpa [hx, resolveE, hso] using this⟩, ?_⟩
          refine LWp.seq ?_
          refine LWp.seq ?_
          refine LWp.rz hT hW ?_
          simp
          refine LWp.len (t := 83) (xs := (tchN l[i0]).map .str) (by simp) fun htl => ?_
          simp at htl
          refine LWp.block ?_
          refine LWp.loopW (ι := Nat) (fun i => mkEnv [(0, .d (edsD l)), (11, .bx 11 0), (12, .bx 12 0), (13, .d (I64 0)), (19, .bx 19 0), (21, .d (strsD (tchN l[k0]))), (22, .d (strsD (tchN x))), (83, .d (strsD (tchN l[i0]))), (84, .d (I64 (tchN l[i0]).length)), (85, .d (I64 i))]) (fun i => mkObs [(11, .box false [.d (I64 y.who), .d (I64 y.seq)]), (12, .box false [.d (I64 0), .d (I64 0), .nl, .nl, .nl]), (19, .box false ((cellsD x.d).map .d))]) (fun i => i ≤ (tchN l[i0]).length ∧ Pre (fun s => decide (s ∈ tchN l[k0]) && !decide (s ∈ tchN x)) (tchN l[i0]) i) (fun i => (tchN l[i0]).length - i) 0 (Weak.to [0, 11, 12, 13, 19, 21, 22, 83, 84, 85] [(11, 11), (12, 12), (19, 19)] (by decide) (by decide) (by simp [hp]) (by simp) (by simp [hx, resolveE, hso])) (⟨Nat.zero_le _, Pre.zero⟩) fun i hi13 => ?_
          refine LWp.seq ?_
          refine LWp.rz hT hW ?_
          simp
          refine LWp.seq ?_
          refine LWp.iff ?_
          simp
          refine ⟨fun h13 => ?_, fun h13 => ?_⟩
          · refine LWp.skip ?_
            simp
            refine LWp.seq ?_
            refine LWp.block ?_
            refine LWp.seq ?_
            refine LWp.rz hT hW ?_
            simp [h13]
            refine LWp.seq ?_
            refine LWp.ro hT hW (fun | 91 => some <| .plain ⟨.d (.bool (decide ((tchN l[i0])[i] ∈ tchN l[k0]))), true⟩ | 95 => some <| .plain ⟨.d (.bool (decide ((tchN l[i0])[i] ∈ tchN x))), true⟩ | _ => none) ?_
            simp
            refine ⟨⟨InStr_ok _ _, by intros; exact InStr_ok _ _⟩, ?_⟩
            refine LWp.iff ?_
            simp
            refine ⟨fun h15 g15 => ?_, fun h15 => ?_⟩
            · refine LWp.seq ?_
              refine LWp.rz hT hW ?_
              simp
              refine LWp.ret ?_
              have hany : (sharedL l a b).any (fun s => decide (s ∉ touches (resolveE a b puts drops y))) = true := by
                rw [resolve_miss hsh, ei, ek, ← hx, List.any_eq_true]
                exact ⟨_, List.getElem_mem h13, by simp [h15, g15]⟩
              have e : resolveV l a b puts drops y = (default, 10) := by unfold resolveV; rw [if_neg (by simpa using h2), if_neg (by omega), if_neg hsh, if_pos hany]
              simp [e]
            · refine LWp.skip ?_
              simp
              refine LWp.rz hT hW ?_
              simp
              refine ⟨by omega, ?_⟩
              refine loopQ.mk (i + 1) (Weak.to [0, 11, 12, 13, 19, 21, 22, 83, 84, 85] [(11, 11), (12, 12), (19, 19)] (by decide) (by decide) (by simp [hp]) (by simp) (by simp)) ?_ ?_
              · exact ⟨h13, hi13.2.succ h13 (by simpa using h15)⟩
              · omega
          · refine LWp.exit ?_
            simp
            refine LWp.seq ?_
            refine LWp.seq ?_
            have hany : ¬ (sharedL l a b).any (fun s => decide (s ∉ touches (resolveE a b puts drops y))) = true := by
              rw [resolve_miss hsh, ei, ek, ← hx, hi13.2.any (by omega)]; simp
            have hgo : resolveV l a b puts drops y = if 63 < l.length then (default, 4) else if properE (resolveE a b puts drops y) = false then (default, 1) else if 0 ≤ findI l y then (default, 7) else (resolveE a b puts drops y, 0) := by
              unfold resolveV
              rw [if_neg (by simpa using hv), if_neg (by omega), if_neg hsh, if_neg hany]
            refine LWp.rz hT hW ?_
            simp
            refine LWp.iff ?_
            simp
            refine ⟨fun h18 => ?_, fun h18 => ?_⟩
            · refine LWp.seq ?_
              refine LWp.rz hT hW ?_
              simp
              refine LWp.ret ?_
              have e : resolveV l a b puts drops y = (default, 4) := by rw [hgo, if_pos (by omega)]
              simp [e]
            · refine LWp.skip ?_
              simp
              refine LWp.seq ?_
              refine LWp.seq ?_
              refine LWp.ro hT hW (fun | 105 => some <| .plain ⟨.d (I64 (aloneV x)), true⟩ | _ => none) ?_
              simp
              refine ⟨alone_ok x hxs, ?_⟩
              refine LWp.iff ?_
              simp
              refine ⟨fun h20 => ?_, fun h20 => ?_⟩
              · refine LWp.seq ?_
                refine LWp.rz hT hW ?_
                simp
                refine LWp.ret ?_
                have e : resolveV l a b puts drops y = (default, 1) := by rw [hgo, if_neg (by omega), ← hx, if_pos (by simpa [alone_zero] using h20)]
                simp [e]
              · refine LWp.skip ?_
                simp
                refine LWp.seq ?_
                refine LWp.seq ?_
                refine LWp.ro hT hW (fun | 110 => some <| .plain ⟨.d (I64 (findI l y)), true⟩ | _ => none) ?_
                simp
                refine ⟨EFind_ok l y, ?_⟩
                refine LWp.iff ?_
                simp
                refine ⟨fun h22 => ?_, fun h22 => ?_⟩
                · refine LWp.seq ?_
                  refine LWp.rz hT hW ?_
                  simp
                  refine LWp.ret ?_
                  have e : resolveV l a b puts drops y = (default, 7) := by rw [hgo, if_neg (by omega), ← hx, if_neg (by simpa [alone_zero] using h20), if_pos (by omega)]
                  simp [e]
                · refine LWp.skip ?_
                  simp
                  refine LWp.seq ?_
                  refine LWp.rz hT hW ?_
                  simp
                  refine LWp.ret ?_
                  have e : resolveV l a b puts drops y = (x, 0) := by rw [hgo, if_neg (by omega), ← hx, if_neg (by simpa [alone_zero] using h20), if_neg (by omega)]
                  simp [e]
end
open Go.Proofs
section
set_option maxRecDepth 10000
set_option maxHeartbeats 1000000
attribute [local simp] dF1 dF2 dF3 dF4 dF5 prD
theorem dP1 : (default : Ed × Ed).1 = (default : Ed) := rfl
theorem dP2 : (default : Ed × Ed).2 = (default : Ed) := rfl
attribute [local simp] dP1 dP2
def edsP (p : Ed × Ed) : DV := .agg (cellsD p.1.d ++ cellsD p.2.d)
def nilE : List LV := [.d (I64 0), .d (I64 0), .nl, .nl, .nl]
def edE (e : Ed) : List LV := (cellsD e.d).map .d
def arrS (e : Ed) (first : List Str) (n m : Nm) : Nat → List LV
  | 0 => nilE ++ nilE
  | 1 => edE (splitE e first n true) ++ nilE
  | _ => edE (splitE e first n true) ++ edE (splitE e first m false)
theorem arrS0 (e : Ed) (first : List Str) (n m : Nm) : arrS e first n m 0 = [.d (I64 0), .d (I64 0), .nl, .nl, .nl, .d (I64 0), .d (I64 0), .nl, .nl, .nl] := rfl
theorem arrS1 (e : Ed) (first : List Str) (n m : Nm) : arrS e first n m 1 = [.d (I64 (splitE e first n true).name.who), .d (I64 (splitE e first n true).name.seq), .d (nmsD (splitE e first n true).needs), .d (dfsD (splitE e first n true).puts), .d (strsD (splitE e first n true).drops),
    .d (I64 0), .d (I64 0), .nl, .nl, .nl] := rfl
theorem arrS2 (e : Ed) (first : List Str) (n m : Nm) : arrS e first n m 2 = [.d (I64 (splitE e first n true).name.who), .d (I64 (splitE e first n true).name.seq), .d (nmsD (splitE e first n true).needs), .d (dfsD (splitE e first n true).puts), .d (strsD (splitE e first n true).drops),
    .d (I64 (splitE e first m false).name.who), .d (I64 (splitE e first m false).name.seq), .d (nmsD (splitE e first m false).needs), .d (dfsD (splitE e first m false).puts), .d (strsD (splitE e first m false).drops)] := rfl
attribute [local simp] arrS0 arrS1 arrS2
theorem touches_zero {e : Ed} : touches e = [] ↔ e.puts.length + e.drops.length = 0 := by
  unfold touches
  rw [List.append_eq_nil_iff, List.map_eq_nil_iff, ← List.length_eq_zero_iff, ← List.length_eq_zero_iff]
  omega
theorem cedit_split {e : Ed} {first : List Str} (n : Nm) (k : Int) (b : Bool) (hb : decide (k = 0) = b) (hpe : properE e = true) (hs : e.small) (hn : e.needs.length ≤ 1100000) :
    Ok Tryz.prog 66 [.mp (ck (applyC [] e)) (cv (applyC [] e)), n.d, nmsD e.needs, .fn 84 [.ro [strsD first], .ro [I64 k]]] ⟨.d (splitE e first n b).d, false⟩ := by
  rw [← split_editC hpe, ← hb]
  exact cedit_ok _ n e.needs (fun s => decide (s ∈ first) == decide (k = 0)) _ _ (fun s => Split1_ok first k s) (applyC_nodup e) (by have := applyC_len [] e; have := hs.1; have := hs.2; simp at *; omega) hn
theorem PSplit_ok (e : Ed) (first : List Str) (n m : Nm) (hs : e.small) (hnl : e.needs.length ≤ 1100000) : Ok Tryz.prog 27 [e.d, strsD first, prD (n, m)] ⟨.tup [.d (edsP (splitV e first n m).1), .d (I64 (splitV e first n m).2)], false⟩ := by
  refine Ok.many hT Tryz.func27 (by kernel_rfl) (c := _) rfl Tryz.ntmps27 (by simp) Tryz.results27 (by simp) (by rfl) fun w0 X hp => ?_
  refine LWp.len (t := 1) (xs := first.map .str) (by simp) fun hlen => ?_
  simp at hlen
  refine LWp.seq ?_
  refine LWp.rz hT hW ?_
  simp
  refine LWp.seq ?_
  refine LWp.rz hT hW ?_
  simp
  refine LWp.seq ?_
  refine LWp.seq ?_
  refine LWp.ro hT hW (fun | 15 => some <| .plain ⟨.d (I64 (aloneV e)), true⟩ | 20 => some <| .plain ⟨.d (.bool n.isName), true⟩ | 26 => some <| .plain ⟨.d (.bool m.isName), true⟩ | _ => none) ?_
  simp
  refine ⟨⟨⟨alone_ok e hs, by intros; exact ppossible_ok n⟩, by intros; exact ppossible_ok m⟩, ?_⟩
  refine LWp.iff ?_
  simp
  refine ⟨fun h2 => ?_, fun h2 p2 q2 => ?_⟩
  · refine LWp.seq ?_
    refine LWp.rz hT hW ?_
    simp
    refine LWp.ret ?_
    have e1 : splitV e first n m = (default, 1) := by
      unfold splitV
      rw [if_pos]
      rcases h2 with (h | h) | h
      · exact .inl (by simpa [alone_zero] using h)
      · exact .inr (.inl h)
      · exact .inr (.inr h)
    simp [e1, edsP]
  · refine LWp.skip ?_
    simp
    refine LWp.seq ?_
    refine LWp.seq ?_
    refine LWp.ro hT hW (fun | 40 => some <| .plain ⟨.d (.bool (decide (n ∈ e.needs))), true⟩ | 47 => some <| .plain ⟨.d (.bool (decide (m ∈ e.needs))), true⟩ | _ => none) ?_
    simp
    refine ⟨⟨by intros; exact nsHas_ok _ _, by intros; exact nsHas_ok _ _⟩, ?_⟩
    refine LWp.iff ?_
    simp
    refine ⟨fun h4 => ?_, fun h4 p4 q4 => ?_⟩
    · refine LWp.seq ?_
      refine LWp.rz hT hW ?_
      simp
      refine LWp.ret ?_
      have e1 : splitV e first n m = (default, 7) := by
        unfold splitV
        rw [if_neg (by simp [alone_zero.1 h2, p2, q2]), if_pos]
        rcases h4 with (h | h) | h
        · exact .inl h
        · exact .inr (.inl h)
        · exact .inr (.inr h)
      simp [e1, edsP]
    · refine LWp.skip ?_
      simp
      refine LWp.seq ?_
      have hpe : properE e = true := alone_zero.1 h2
      have hgo : splitV e first n m = if first.any (fun s => decide (s ∉ touches e)) = true then (default, 6) else if touches (splitE e first n true) = [] ∨ touches (splitE e first m false) = [] then (default, 15)
          else ((splitE e first n true, splitE e first m false), 0) := by
        unfold splitV
        rw [if_neg (by simp [hpe, p2, q2]), if_neg (by simp [h4, p4, q4])]
      refine LWp.ro hT hW (fun | 51 => some <| .plain ⟨.d (strsD (tchN e)), true⟩ | _ => none) ?_
      simp
      refine ⟨PTouches_ok e hs, ?_⟩
      refine LWp.seq ?_
      refine LWp.seq ?_
      refine LWp.rz hT hW ?_
      simp
      refine LWp.block ?_
      refine LWp.loopW (ι := Nat) (fun i => mkEnv [(3, .bx 3 0), (4, .bx 4 0), (5, .bx 5 0), (6, .bx 6 0), (7, .d (I64 0)), (8, .bx 8 0), (9, .d (strsD (tchN e))), (52, .d (strsD first)), (53, .d (I64 first.length)), (54, .d (I64 i))]) (fun i => mkObs [(3, .box false ((cellsD e.d).map .d)), (4, .box false [.d (strsD first)]), (5, .box false [.d (I64 n.who), .d (I64 n.seq), .d (I64 m.who), .d (I64 m.seq)]), (6, .box false (arrS e first n m 0)), (8, .box false (arrS e first n m 0))]) (fun i => i ≤ first.length ∧ Pre (fun s => !decide (s ∈ tchN e)) first i) (fun i => first.length - i) 0 (Weak.to [3, 4, 5, 6, 7, 8, 9, 52, 53, 54] [(3, 3), (4, 4), (5, 5), (6, 6), (8, 8)] (by decide) (by decide) (by simp [hp]) (by simp) (by simp)) (⟨Nat.zero_le _, Pre.zero⟩) fun i hi8 => ?_
      refine LWp.seq ?_
      refine LWp.rz hT hW ?_
      simp
      refine LWp.seq ?_
      refine LWp.iff ?_
      simp
      refine ⟨fun h8 => ?_, fun h8 => ?_⟩
      · refine LWp.skip ?_
        simp
        refine LWp.seq ?_
        refine LWp.block ?_
        refine LWp.seq ?_
        refine LWp.rz hT hW ?_
        simp [h8]
        refine LWp.seq ?_
        refine LWp.ro hT hW (fun | 60 => some <| .plain ⟨.d (.bool (decide (first[i] ∈ tchN e))), true⟩ | _ => none) ?_
        simp
        refine ⟨InStr_ok _ _, ?_⟩
        refine LWp.iff ?_
        simp
        refine ⟨fun h10 => ?_, fun h10 => ?_⟩
        · refine LWp.seq ?_
          refine LWp.rz hT hW ?_
          simp
          refine LWp.ret ?_
          have e1 : splitV e first n m = (default, 6) := by
            rw [hgo, if_pos (List.any_eq_true.2 ⟨_, List.getElem_mem h8, by simpa [mem_tchN] using h10⟩)]
          simp [e1, edsP]
        · refine LWp.skip ?_
          simp
          refine LWp.rz hT hW ?_
          simp
          refine ⟨by omega, ?_⟩
          refine loopQ.mk (i + 1) (Weak.to [3, 4, 5, 6, 7, 8, 9, 52, 53, 54] [(3, 3), (4, 4), (5, 5), (6, 6), (8, 8)] (by decide) (by decide) (by simp [hp]) (by simp) (by simp)) ?_ ?_
          · exact ⟨h8, hi8.2.succ h8 (by simpa using h10)⟩
          · omega
      · refine LWp.exit ?_
        simp
        refine LWp.seq ?_
        have hany : ¬ first.any (fun s => decide (s ∉ touches e)) = true := by
          have h := hi8.2.any (by omega)
          simp only [mem_tchN] at h
          simpa using h
        rw [if_neg hany] at hgo
        refine LWp.rz hT hW ?_
        simp
        refine LWp.seq ?_
        refine LWp.ro hT hW (fun | 67 => some (.gen ⟨[(64, 0)], [], [], [(0, .map false (ck (applyC [] e)) (cv (applyC [] e)))], .tup []⟩) | _ => none) ?_
        simp
        refine ⟨by simpa [ck, cv] using apply_ok [] e hs, ?_⟩
        refine LWp.seq ?_
        refine LWp.seq ?_
        obtain ⟨c, hc⟩ : ∃ c, c = applyC [] e := ⟨_, rfl⟩
        rw [← hc]
        refine LWp.weak (Weak.close 12 (x := .mp (ck c) (cv c)) (by simp)) ?_
        refine LWp.weak (Weak.close 4 (x := .ro [strsD first]) (by simp)) ?_
        refine LWp.rz hT hW ?_
        simp
        refine LWp.block ?_
        refine LWp.loopW (ι := Nat) (fun k => mkEnv [(3, .bx 3 0), (4, .d (.ro [strsD first])), (5, .bx 5 0), (6, .bx 6 0), (7, .d (I64 0)), (8, .bx 8 0), (12, .d (.mp (ck c) (cv c))), (68, .d (I64 k))]) (fun k => mkObs [(3, .box false ((cellsD e.d).map .d)), (5, .box false [.d (I64 n.who), .d (I64 n.seq), .d (I64 m.who), .d (I64 m.seq)]), (6, .box false (arrS e first n m 0)), (8, .box false (arrS e first n m k))]) (fun k => k ≤ 2 ∧ (0 < k → touches (splitE e first n true) ≠ []) ∧ (1 < k → touches (splitE e first m false) ≠ [])) (fun k => 2 - k) 0 (Weak.to [3, 4, 5, 6, 7, 8, 12, 68] [(3, 3), (5, 5), (6, 6), (8, 8)] (by decide) (by decide) (by simp [hp]) (by simp) (by simp)) (by simp) fun k hi16 => ?_
        refine LWp.seq ?_
        refine LWp.rz hT hW ?_
        simp
        refine LWp.seq ?_
        refine LWp.iff ?_
        simp
        refine ⟨fun h16 => ?_, fun h16 => ?_⟩
        · refine LWp.skip ?_
          simp
          refine LWp.seq ?_
          refine LWp.block ?_
          refine LWp.seq ?_
          refine LWp.rz hT hW ?_
          simp
          refine LWp.weak (Weak.close 13 (x := .ro [I64 k]) (by simp)) ?_
          refine LWp.seq ?_
          obtain ⟨z, hz⟩ : ∃ z, (k = 0 ∧ z = splitE e first n true) ∨ (k = 1 ∧ z = splitE e first m false) := by
            rcases (by omega : k = 0 ∨ k = 1) with q | q
            · exact ⟨_, .inl ⟨q, rfl⟩⟩
            · exact ⟨_, .inr ⟨q, rfl⟩⟩
          rcases hz with ⟨rfl, hz⟩ | ⟨rfl, hz⟩
          · have hzl : z.puts.length ≤ 1100000 ∧ z.drops.length ≤ 1100000 := by
              subst hz
              exact ⟨Nat.le_trans (List.length_filter_le _ _) hs.1, Nat.le_trans (List.length_filter_le _ _) hs.2⟩
            refine LWp.regAny hT hW hMixed (lk [[],[],[],[2],[2,3],[],[5],[],[1,2,3,4,5,6,7],[0,1,2,3,4,5,6,7,8],[0,1,2,3,4,5,6,7,8,9]]) (lk [[79],[],[],[],[],[],[],[],[],[],[]]) (lk [[],[],[],[],[],[],[],[],[79],[],[8]]) (by kernel_rfl) (fun | 79 => some <| .plain ⟨.d z.d, false⟩ | _ => none) (by intro d; first | exact ⟨rfl, fun _ h => h⟩ | (split <;> exact ⟨rfl, fun _ h => h⟩)) ?_
            simp
            refine ⟨by subst hc; subst hz; first | exact cedit_split n 0 true rfl hpe hs hnl | exact cedit_split m 1 false rfl hpe hs hnl, ?_⟩
            refine LWp.seq ?_
            refine LWp.regAny hT hW hMixed (lk [[],[0],[0,1],[0,1,2],[0,1,2,3],[],[5],[5,6],[5,6,7],[5,6,7,8],[0,1,2,3,4,5,6,7,8,9],[0,1,2,3,4,5,6,7,8,9,10]]) (lk [[],[],[],[],[],[],[],[],[],[],[],[]]) (lk [[],[],[],[],[],[],[],[],[],[],[],[]]) (by kernel_rfl) (fun _ => none) (fun _ => ⟨rfl, fun _ h => h⟩) ?_
            simp
            refine ⟨⟨by omega, by omega⟩, ?_⟩
            refine LWp.iff ?_
            simp
            refine ⟨fun h19 => ?_, fun h19 => ?_⟩
            · refine LWp.seq ?_
              refine LWp.rz hT hW ?_
              simp
              refine LWp.ret ?_
              have e1 : splitV e first n m = (default, 15) := by rw [hgo, if_pos (.inl (by rw [← hz, touches_zero]; omega))]
              simp [e1, edsP]
            · refine LWp.skip ?_
              simp
              refine LWp.rz hT hW ?_
              simp
              refine loopQ.mk 1 (Weak.to [3, 4, 5, 6, 7, 8, 12, 68] [(3, 3), (5, 5), (6, 6), (8, 8)] (by decide) (by decide) (by simp [hp]) (by simp) (by simp [hz])) ?_ ?_
              · refine ⟨by omega, fun _ w => h19 ?_, fun w => absurd w (by omega)⟩
                rw [← hz, touches_zero] at w; omega
              · omega
          · have hzl : z.puts.length ≤ 1100000 ∧ z.drops.length ≤ 1100000 := by
              subst hz
              exact ⟨Nat.le_trans (List.length_filter_le _ _) hs.1, Nat.le_trans (List.length_filter_le _ _) hs.2⟩
            refine LWp.regAny hT hW hMixed (lk [[],[],[],[2],[2,3],[],[5],[],[1,2,3,4,5,6,7],[0,1,2,3,4,5,6,7,8],[0,1,2,3,4,5,6,7,8,9]]) (lk [[79],[],[],[],[],[],[],[],[],[],[]]) (lk [[],[],[],[],[],[],[],[],[79],[],[8]]) (by kernel_rfl) (fun | 79 => some <| .plain ⟨.d z.d, false⟩ | _ => none) (by intro d; first | exact ⟨rfl, fun _ h => h⟩ | (split <;> exact ⟨rfl, fun _ h => h⟩)) ?_
            simp
            refine ⟨by subst hc; subst hz; first | exact cedit_split n 0 true rfl hpe hs hnl | exact cedit_split m 1 false rfl hpe hs hnl, ?_⟩
            refine LWp.seq ?_
            refine LWp.regAny hT hW hMixed (lk [[],[0],[0,1],[0,1,2],[0,1,2,3],[],[5],[5,6],[5,6,7],[5,6,7,8],[0,1,2,3,4,5,6,7,8,9],[0,1,2,3,4,5,6,7,8,9,10]]) (lk [[],[],[],[],[],[],[],[],[],[],[],[]]) (lk [[],[],[],[],[],[],[],[],[],[],[],[]]) (by kernel_rfl) (fun _ => none) (fun _ => ⟨rfl, fun _ h => h⟩) ?_
            simp
            refine ⟨⟨by omega, by omega⟩, ?_⟩
            refine LWp.iff ?_
            simp
            refine ⟨fun h19 => ?_, fun h19 => ?_⟩
            · refine LWp.seq ?_
              refine LWp.rz hT hW ?_
              simp
              refine LWp.ret ?_
              have e1 : splitV e first n m = (default, 15) := by rw [hgo, if_pos (.inr (by rw [← hz, touches_zero]; omega))]
              simp [e1, edsP]
            · refine LWp.skip ?_
              simp
              refine LWp.rz hT hW ?_
              simp
              refine loopQ.mk 2 (Weak.to [3, 4, 5, 6, 7, 8, 12, 68] [(3, 3), (5, 5), (6, 6), (8, 8)] (by decide) (by decide) (by simp [hp]) (by simp) (by simp [hz])) ?_ ?_
              · refine ⟨by omega, fun _ => hi16.2.1 (by omega), fun _ w => h19 ?_⟩
                rw [← hz, touches_zero] at w; omega
              · omega
        · refine LWp.exit ?_
          simp
          refine LWp.seq ?_
          obtain rfl : k = 2 := by omega
          refine LWp.rz hT hW ?_
          simp
          refine LWp.ret ?_
          have e1 : splitV e first n m = ((splitE e first n true, splitE e first m false), 0) := by
            rw [hgo, if_neg]
            rintro (w | w)
            · exact hi16.2.1 (by omega) w
            · exact hi16.2.2 (by omega) w
          simp [e1, edsP]
end
open Go.Proofs
section
set_option maxRecDepth 10000
set_option maxHeartbeats 4000000
attribute [local simp] dF1 dF2 dF3 dF4 dF5 prD dP1 dP2
theorem ex_same (a b : Ed) (h : a = b) : Ok Tryz.prog 24 [a.d, b.d] ⟨.d (.bool true), true⟩ := by
  have := Same_ok a b
  rwa [decide_eq_true h] at this
theorem ex_defs (a b : List Df) (h : a = b) : Ok Tryz.prog 40 [dfsD a, dfsD b] ⟨.d (.bool true), true⟩ := by
  have := SameDefs_ok a b
  rwa [decide_eq_true h] at this
theorem ex_texts (a b : List Str) (h : a = b) : Ok Tryz.prog 10 [strsD a, strsD b] ⟨.d (.bool true), true⟩ := by
  have := SameTexts_ok a b
  rwa [decide_eq_true h] at this
theorem lives3_ok  : Ok Tryz.prog 16 [] ⟨.d (.bool true), true⟩ := by
  refine Ok.ret Tryz.func16 (by kernel_rfl) (c := _) rfl Tryz.ntmps16 (by simp) Tryz.results16 (by intro _ h; cases h) fun w0 X hp => ?_
  have k1 := PApart_ok exL3 ⟨0, 1⟩ ⟨1, 0⟩ exL3_small
  have k2 := PApart_ok exL3 ⟨1, 0⟩ ⟨1, 1⟩ exL3_small
  have k3 := PApart_ok exL3 ⟨0, 1⟩ ⟨1, 1⟩ exL3_small
  have k4 := PRevert_ok exB3 exL3 [⟨0, 1⟩, ⟨1, 0⟩] ⟨1, 0⟩ ⟨2, 0⟩ exL3_small (by decide) (by decide) (fun _ => by decide)
  have k5 := PRevert_ok exB3 exL3 [⟨0, 1⟩, ⟨1, 0⟩] ⟨0, 1⟩ ⟨2, 0⟩ exL3_small (by decide) (by decide) (fun _ => by decide)
  have k6 := PResolve_ok exL3 ⟨0, 1⟩ ⟨1, 1⟩ [y5] [] ⟨2, 0⟩ exL3_small (by decide) (by decide)
  have k7 := PSquash_ok exB3 exL3 [⟨0, 1⟩, ⟨1, 0⟩] ⟨2, 0⟩ exL3_small (by decide) (by decide) (by decide) (by decide) (by decide)
  have k8 := PSplit_ok ⟨⟨2, 0⟩, [], [a2], [[98]]⟩ [[97]] ⟨2, 1⟩ ⟨2, 2⟩ (by unfold Ed.small; decide) (by decide)
  have k9 := PPick_ok exL3 ⟨1, 1⟩ [⟨0, 1⟩] ⟨2, 0⟩ exL3_small (by decide) (by decide)
  have k10 := ex_same ⟨⟨2, 0⟩, [⟨1, 0⟩], [b0], []⟩ ⟨⟨2, 0⟩, [⟨1, 0⟩], [b0], []⟩ rfl
  have k11 := ex_same ⟨⟨2, 0⟩, [⟨0, 1⟩, ⟨1, 1⟩], [y5], []⟩ ⟨⟨2, 0⟩, [⟨0, 1⟩, ⟨1, 1⟩], [y5], []⟩ rfl
  have k12 := ex_same ⟨⟨2, 0⟩, [], [a2], [[98]]⟩ ⟨⟨2, 0⟩, [], [a2], [[98]]⟩ rfl
  have k13 := ex_defs [a2] [a2] rfl
  have k14 := ex_texts [[98]] [[98]] rfl
  have k15 := ex_same ⟨⟨2, 0⟩, [⟨0, 1⟩], [a3], []⟩ ⟨⟨2, 0⟩, [⟨0, 1⟩], [a3], []⟩ rfl
  rw [ex3_apart1] at k1
  rw [ex3_apart2] at k2
  rw [ex3_apart3] at k3
  rw [ex3_rev1] at k4
  rw [ex3_rev2] at k5
  rw [ex3_res] at k6
  rw [ex3_squash] at k7
  rw [ex3_split] at k8
  rw [ex3_pick] at k9
  refine LWp.seq ?_
  refine LWp.rz hT hW ?_
  simp
  refine LWp.seq ?_
  refine LWp.ro hT hW (fun | 28 => some <| .plain ⟨.tup [.d (.sl (exB3.map Df.d)), .d (edsD exL3)], false⟩ | _ => none) ?_
  simp [evalExtract]
  refine ⟨example3_ok, ?_⟩
  have hL : exL3 = [⟨⟨0, 1⟩, [], [a2], []⟩, ⟨⟨1, 0⟩, [⟨0, 1⟩], [], [[98]]⟩, ⟨⟨1, 1⟩, [], [a3], []⟩] := rfl
  have hB : exB3 = [⟨[97], [118, 97, 114, 32, 97, 32, 61, 32, 49, 59]⟩, b0] := rfl
  rw [hL, hB] at k4 k5 k7 ⊢
  rw [hL] at k1 k2 k3 k6 k9
  refine LWp.seq ?_
  refine LWp.rz hT hW ?_
  simp
  refine LWp.seq ?_
  refine LWp.rz hT hW ?_
  simp
  refine LWp.seq ?_
  refine LWp.rz hT hW ?_
  simp
  refine LWp.seq ?_
  refine LWp.rz hT hW ?_
  simp
  refine LWp.seq ?_
  refine LWp.ro hT hW (fun | 48 => some <| .plain ⟨.tup [.d (.bool false), .d (I64 0)], true⟩ | _ => none) ?_
  simp [evalExtract]
  refine ⟨by simpa using k1, ?_⟩
  refine LWp.seq ?_
  refine LWp.ro hT hW (fun | 55 => some <| .plain ⟨.tup [.d (.bool true), .d (I64 0)], true⟩ | _ => none) ?_
  simp [evalExtract]
  refine ⟨by simpa using k2, ?_⟩
  refine LWp.seq ?_
  refine LWp.ro hT hW (fun | 62 => some <| .plain ⟨.tup [.d (.bool false), .d (I64 0)], true⟩ | _ => none) ?_
  simp [evalExtract]
  refine ⟨by simpa using k3, ?_⟩
  refine LWp.seq ?_
  refine LWp.seq ?_
  refine LWp.rz hT hW ?_
  simp
  refine LWp.iff ?_
  simp
  refine LWp.skip ?_
  simp
  refine LWp.seq ?_
  refine LWp.ro hT hW (fun | 93 => some <| .plain ⟨.tup [.d (Ed.d ⟨⟨2, 0⟩, [⟨1, 0⟩], [b0], []⟩), .d (I64 0)], false⟩ | _ => none) ?_
  simp [evalExtract]
  refine ⟨⟨by decide, by simpa using k4⟩, ?_⟩
  refine LWp.seq ?_
  refine LWp.ro hT hW (fun | 104 => some <| .plain ⟨.tup [.d (default : Ed).d, .d (I64 10)], false⟩ | _ => none) ?_
  simp [evalExtract]
  refine ⟨⟨by decide, by simpa using k5⟩, ?_⟩
  refine LWp.seq ?_
  refine LWp.rz hT hW ?_
  simp
  refine LWp.seq ?_
  refine LWp.ro hT hW (fun | 115 => some <| .plain ⟨.tup [.d (Ed.d ⟨⟨2, 0⟩, [⟨0, 1⟩, ⟨1, 1⟩], [y5], []⟩), .d (I64 0)], false⟩ | _ => none) ?_
  simp [evalExtract]
  refine ⟨by simpa [y5] using k6, ?_⟩
  refine LWp.seq ?_
  refine LWp.ro hT hW (fun | 125 => some <| .plain ⟨.tup [.d (Ed.d ⟨⟨2, 0⟩, [], [a2], [[98]]⟩), .d (I64 0)], false⟩ | _ => none) ?_
  simp [evalExtract]
  refine ⟨⟨by decide, by simpa using k7⟩, ?_⟩
  refine LWp.seq ?_
  refine LWp.seq ?_
  refine LWp.rz hT hW ?_
  simp
  refine LWp.iff ?_
  simp
  refine LWp.skip ?_
  simp
  refine LWp.seq ?_
  refine LWp.seq ?_
  refine LWp.regAny hT hW hMixed (lk [[],[],[],[2],[],[4],[1,2,3,4,5],[0,1,2,3,4,5,6],[0,1,2,3,4,5,6,7],[0,1,2,3,4,5,6,7,8],[0,1,2,3,4,5,6,7,8,9],[0,1,2,3,4,5,6,7,8,9],[0,1,2,3,4,5,6,7,8,9],[0,1,2,3,4,5,6,7,8,9],[0,1,2,3,4,5,6,7,8,9,12,13],[0,1,2,3,4,5,6,7,8,9],[0,1,2,3,4,5,6,7,8,9,15],[0,1,2,3,4,5,6,7,8,9,11,12,13,14,15,16],[0,1,2,3,4,5,6,7,8,9,10,11,12,13,14,15,16,17],[0,1,2,3,4,5,6,7,8,9,10,11,12,13,14,15,16,17,18],[0,1,2,3,4,5,6,7,8,9,10,11,12,13,14,15,16,17,18,19],[0,1,2,3,4,5,6,7,8,9,10,11,12,13,14,15,16,17,18,19,20],[0,1,2,3,4,5,6,7,8,9,10,11,12,13,14,15,16,17,18,19,20,21],[0,1,2,3,4,5,6,7,8,9,10,11,12,13,14,15,16,17,18,19,20,21],[0,1,2,3,4,5,6,7,8,9,10,11,12,13,14,15,16,17,18,19,20,21],[0,1,2,3,4,5,6,7,8,9,10,11,12,13,14,15,16,17,18,19,20,21,24],[0,1,2,3,4,5,6,7,8,9,10,11,12,13,14,15,16,17,18,19,20,21,24,25],[0,1,2,3,4,5,6,7,8,9,10,11,12,13,14,15,16,17,18,19,20,21,24,25,26],[0,1,2,3,4,5,6,7,8,9,10,11,12,13,14,15,16,17,18,19,20,21],[0,1,2,3,4,5,6,7,8,9,10,11,12,13,14,15,16,17,18,19,20,21,23,24,25,26,27,28],[0,1,2,3,4,5,6,7,8,9,10,11,12,13,14,15,16,17,18,19,20,21,22,23,24,25,26,27,28,29],[0,1,2,3,4,5,6,7,8,9,10,11,12,13,14,15,16,17,18,19,20,21,22,23,24,25,26,27,28,29,30],[0,1,2,3,4,5,6,7,8,9,10,11,12,13,14,15,16,17,18,19,20,21,22,23,24,25,26,27,28,29,30,31]]) (lk [[145],[145],[],[],[145],[145],[],[],[],[],[156,158],[156,158],[158],[158],[158],[156],[156],[],[],[],[],[],[170],[170],[170],[170],[170],[170],[],[],[],[],[]]) (lk [[],[],[],[145],[],[],[],[149],[],[],[],[],[],[],[156],[],[158],[],[160],[],[],[],[],[],[],[],[],[],[170],[],[172],[],[]]) (by kernel_rfl) (fun | 149 => some <| .plain ⟨.d (.bool true), true⟩ | 160 => some <| .plain ⟨.d (.bool true), true⟩ | 172 => some <| .plain ⟨.d (.bool true), true⟩ | _ => none) (by intro d; first | exact ⟨rfl, fun _ h => h⟩ | (split <;> exact ⟨rfl, fun _ h => h⟩)) ?_
  simp
  refine ⟨⟨⟨⟨by simpa using k10, rfl⟩, by simpa [y5] using k11⟩, by simpa using k12⟩, ?_⟩
  refine LWp.iff ?_
  simp
  refine LWp.skip ?_
  simp
  refine LWp.seq ?_
  refine LWp.ro hT hW (fun | 181 => some <| .plain ⟨.tup [.d (edsP (⟨⟨2, 1⟩, [], [a2], []⟩, ⟨⟨2, 2⟩, [], [], [[98]]⟩)), .d (I64 0)], false⟩ | _ => none) ?_
  simp [evalExtract, edsP]
  refine ⟨by simpa [edsP] using k8, ?_⟩
  refine LWp.seq ?_
  refine LWp.ro hT hW (fun | 190 => some <| .plain ⟨.tup [.d (Ed.d ⟨⟨2, 0⟩, [⟨0, 1⟩], [a3], []⟩), .d (I64 0)], false⟩ | _ => none) ?_
  simp [evalExtract]
  refine ⟨by simpa using k9, ?_⟩
  refine LWp.seq ?_
  refine LWp.regAny hT hW hMixed (lk [[],[0],[0,1],[],[3],[3,4],[3,4,5],[0,1,2,3,4,5,6],[0,1,2,3,4,5,6,7],[0,1,2,3,4,5,6,7,8],[0,1,2,3,4,5,6,7,8,9],[0,1,2,3,4,5,6,7,8,9,10],[0,1,2,3,4,5,6,7,8,9,10,11],[0,1,2,3,4,5,6,7,8],[0,1,2,3,4,5,6,7,8,13],[0,1,2,3,4,5,6,7,8,13,14],[0,1,2,3,4,5,6,7,8,13,14,15],[0,1,2,3,4,5,6,7,8,9,10,11,12,13,14,15,16],[0,1,2,3,4,5,6,7,8,9,10,11,12,13,14,15,16,17],[0,1,2,3,4,5,6,7,8,9,10,11,12,13,14,15,16,17,18],[0,1,2,3,4,5,6,7,8,9,10,11,12,13,14,15,16,17,18,19],[0,1,2,3,4,5,6,7,8,9,10,11,12,13,14,15,16,17,18,19,20],[0,1,2,3,4,5,6,7,8,9,10,11,12,13,14,15,16,17,18,19,20,21],[0,1,2,3,4,5,6,7,8,9,10,11,12,13,14,15,16,17,18,19,20,21,22],[0,1,2,3,4,5,6,7,8,9,10,11,12,13,14,15,16,17,18,19,20],[0,1,2,3,4,5,6,7,8,9,10,11,12,13,14,15,16,17,18,19,20,21,22,23,24],[0,1,2,3,4,5,6,7,8,9,10,11,12,13,14,15,16,17,18,19,20,21,22,23,24,25],[0,1,2,3,4,5,6,7,8,9,10,11,12,13,14,15,16,17,18,19,20,21,22,23,24,25,26]]) (lk [[],[],[],[],[],[],[],[],[],[],[],[],[],[],[],[],[],[],[],[],[],[217],[217],[217],[],[],[],[]]) (lk [[],[],[],[],[],[],[],[200],[],[],[],[],[],[],[],[],[],[],[],[],[],[],[],[],[217],[218],[],[]]) (by kernel_rfl) (fun | 200 => some <| .plain ⟨.d (.bool true), true⟩ | 218 => some <| .plain ⟨.d (.bool true), true⟩ | _ => none) (by intro d; first | exact ⟨rfl, fun _ h => h⟩ | (split <;> exact ⟨rfl, fun _ h => h⟩)) ?_
  simp
  refine ⟨⟨by simpa using k13, by simpa using k14⟩, ?_⟩
  refine LWp.seq ?_
  refine LWp.regAny hT hW hMixed (lk [[],[0],[0,1],[0,1,2],[0,1,2,3],[0,1,2,3,4],[0,1,2,3,4,5],[0,1,2,3,4,5,6],[0,1,2,3,4,5,6,7],[0,1,2,3,4,5,6,7,8],[0,1,2,3,4,5,6,7,8,9],[0,1,2,3,4,5,6,7,8,9],[0,1,2,3,4,5,6,7,8,9],[0,1,2,3,4,5,6,7,8,9,12],[0,1,2,3,4,5,6,7,8,9],[0,1,2,3,4,5,6,7,8,9,14],[0,1,2,3,4,5,6,7,8,9,14,15],[0,1,2,3,4,5,6,7,8,9,14,15,16],[0,1,2,3,4,5,6,7,8,9,11,12,13,14,15,16,17],[0,1,2,3,4,5,6,7,8,9,10,11,12,13,14,15,16,17,18],[0,1,2,3,4,5,6,7,8,9,10,11,12,13,14,15,16,17,18,19],[0,1,2,3,4,5,6,7,8,9,10,11,12,13,14,15,16,17,18,19,20]]) (lk [[],[],[],[],[],[],[],[],[],[],[233],[233],[],[],[233],[233],[233],[233],[],[],[],[]]) (lk [[],[],[],[],[],[],[],[],[],[],[],[],[],[233],[],[],[],[],[],[239],[],[]]) (by kernel_rfl) (fun | 239 => some <| .plain ⟨.d (.bool true), true⟩ | _ => none) (by intro d; first | exact ⟨rfl, fun _ h => h⟩ | (split <;> exact ⟨rfl, fun _ h => h⟩)) ?_
  simp
  refine ⟨by simpa using k15, ?_⟩
  refine LWp.ret ?_
  simp
end
open Go.Proofs
set_option maxRecDepth 10000
set_option maxHeartbeats 2000000
open Go.Proofs
section
set_option maxRecDepth 10000
set_option maxHeartbeats 2000000
attribute [local simp] dF1 dF2 dF3 dF4 dF5 prD
theorem edAt_sm3 {l : List Ed} (hs : small l) (n : Nm) : (edAt l n).small := by
  by_cases h : 0 ≤ findI l n
  · obtain ⟨i, hi, _, e⟩ := edAt_of h
    rw [e]; exact hs _ (List.getElem_mem hi)
  · rw [edAt_none (by omega)]; exact ⟨by decide, by decide⟩
theorem lists3_ok (l : List Int) (how b : Int) (hr : ∀ n ∈ l, -9223372036854775808 ≤ n ∧ n ≤ 9223372036854775807) (h1 : -9223372036854775808 ≤ b) (h2 : b ≤ 9223372036854775807) (h3 : -9223372036854775808 ≤ how) (h4 : how ≤ 9223372036854775807) : OkR Tryz.prog 9 [.sl (l.map I64), I64 how, I64 b] (fun r => (fun v => ∃ L1 L2 : List Ed, SpB (madeL l) L1 ∧ SpB L1 L2 ∧ v = .d (.sl [edsD (madeL l), edsD L1, edsD L2, .sl []])) r.v ∧ r.fresh = false) := by
  refine OkR.ret (Rel := fun v => ∃ L1 L2 : List Ed, SpB (madeL l) L1 ∧ SpB L1 L2 ∧ v = .d (.sl [edsD (madeL l), edsD L1, edsD L2, .sl []])) Tryz.func9 (by kernel_rfl) (c := _) rfl Tryz.ntmps9 (by simp) Tryz.results9 fun w0 X hp => ?_
  refine LWp.seq ?_
  refine LWp.rz hT hW ?_
  simp
  refine LWp.seq ?_
  have hal := madeL_len l
  have han := made_needs l
  have has := made_small l
  have hok := Made_ok l hr
  obtain ⟨a, haa⟩ : ∃ a, a = madeL l := ⟨_, rfl⟩
  rw [← haa] at hal han has hok
  refine LWp.ro hT hW (fun | 10 => some <| .plain ⟨.d (edsD a), false⟩ | _ => none) ?_
  simp
  refine ⟨hok, ?_⟩
  refine LWp.seq ?_
  refine LWp.regRel hT hW 14 (fun r => (∃ L : List Ed, SpB a L ∧ r.v = .d (edsD L)) ∧ r.fresh = false) false ⟨.d (edsD a), false⟩ ⟨⟨⟨a, SpB.refl a, rfl⟩, rfl⟩, rfl⟩ (fun | 99 => none | _ => none) (by intro d; first | exact ⟨rfl, fun _ h => h⟩ | (split <;> exact ⟨rfl, fun _ h => h⟩)) (by kernel_rfl) fun r2 hr2 => ?_
  obtain ⟨v2, f2⟩ := r2
  obtain ⟨⟨L1, hL1, hv⟩, hf⟩ := hr2
  dsimp only at hv hf
  subst hv; subst hf
  obtain ⟨b1, b2, b3, b4⟩ : L1.length ≤ 73 ∧ (allNeeds L1).length ≤ 37 ∧ small L1 ∧ True := by
    have q := hL1.parts 4 fun e he => (made_mem (l := l) (haa ▸ he)).2
    exact ⟨by have := hL1.len; omega, by have := hL1.needs; omega, fun e he => by have := q e he; omega, trivial⟩
  simp
  refine ⟨Spoilt_ok a how b (by omega) has (by omega) h1 h2 h3 h4, ?_⟩
  refine LWp.seq ?_
  refine LWp.regRel hT hW 20 (fun r => (∃ L : List Ed, SpB L1 L ∧ r.v = .d (edsD L)) ∧ r.fresh = false) false ⟨.d (edsD L1), false⟩ ⟨⟨⟨L1, SpB.refl L1, rfl⟩, rfl⟩, rfl⟩ (fun | 99 => none | _ => none) (by intro d; first | exact ⟨rfl, fun _ h => h⟩ | (split <;> exact ⟨rfl, fun _ h => h⟩)) (by kernel_rfl) fun r3 hr3 => ?_
  obtain ⟨v3, f3⟩ := r3
  obtain ⟨⟨L2, hL2, hv⟩, hf⟩ := hr3
  dsimp only at hv hf
  subst hv; subst hf
  simp
  refine ⟨⟨Spoilt_ok L1 b how (by omega) b3 (by omega) h3 h4 h1 h2, by decide⟩, ?_⟩
  refine LWp.ret ?_
  refine retR_ret.2 ⟨_, ⟨L1, haa ▸ hL1, L2, hL2, rfl⟩, by simp, ?_⟩
  simp [haa]
def four3 (a L1 L2 : List Ed) : List (List Ed) := [a, L1, L2, []]
theorem four_ok {l : List Int} {L1 L2 : List Ed} (h1 : SpB (madeL l) L1) (h2 : SpB L1 L2) {x : List Ed} (hx : x ∈ four3 (madeL l) L1 L2) : small x ∧ (allNeeds x).length ≤ 1000 ∧ x.length ≤ 1000 := by
  have q := lists_b h1 h2
  simp only [four3, List.mem_cons, List.not_mem_nil, or_false] at hx
  rcases hx with rfl | rfl | rfl | rfl
  · exact ⟨made_small l, by have := made_needs l; omega, by have := madeL_len l; omega⟩
  · exact ⟨fun e he => by have := q.part1 e he; omega, by have := q.need1; omega, by have := q.len1; omega⟩
  · exact ⟨fun e he => by have := q.part2 e he; omega, by have := q.need2; omega, by have := q.len2; omega⟩
  · exact ⟨fun e he => (by cases he), by simp [allNeeds], by simp⟩
end
open Go.Proofs
section
set_option maxRecDepth 10000
set_option maxHeartbeats 2200000
attribute [local simp] dF1 dF2 dF3 dF4 dF5
theorem RTouching_ok (l : List Ed) (set : List Nm) (e : Ed) (hs : small l) (he : e.small) (hl : set.length ≤ 1100000) : Ok Tryz.prog 75 [edsD l, nmsD set, e.d] ⟨.own 2 ((touchingL l set e).map Nm.d), true⟩ := by
  refine Ok.ret Tryz.func75 (by kernel_rfl) (c := _) rfl Tryz.ntmps75 (by simp) Tryz.results75 (by intro _ h; cases h) fun w0 X hp => ?_
  refine LWp.seq ?_
  refine LWp.rz hT hW ?_
  simp
  refine LWp.seq ?_
  refine LWp.rz hT hW ?_
  simp
  refine LWp.seq ?_
  refine LWp.seq ?_
  refine LWp.rz hT hW ?_
  simp
  refine LWp.block ?_
  refine LWp.loopW (ι := Nat × List Nm) (fun ⟨i, acc⟩ => mkEnv [(0, .d (edsD l)), (1, .d (nmsD set)), (5, .bx 5 0), (7, .ow 7 0 acc.length), (8, .d (I64 i))]) (fun ⟨i, acc⟩ => mkObs [(5, .box false ((cellsD e.d).map .d)), (7, .row false 2 (acc.map Nm.d))]) (fun ⟨i, acc⟩ => i ≤ set.length ∧ acc.length ≤ i ∧ acc = touchingL l (set.take i) e) (fun ⟨i, acc⟩ => set.length - i) (0, []) (Weak.to [0, 1, 5, 7, 8] [(5, 5), (7, 7)] (by decide) (by decide) (by simp [hp]) (by simp) (by simp)) (by simp [touchingL]) fun ⟨i, acc⟩ hi3 => ?_
  refine LWp.seq ?_
  refine LWp.seq ?_
  refine LWp.rz hT hW ?_
  simp
  refine LWp.iff ?_
  simp
  refine ⟨fun h3 => ?_, fun h3 => ?_⟩
  · refine LWp.skip ?_
    simp
    refine LWp.seq ?_
    refine LWp.block ?_
    refine LWp.seq ?_
    have hof := Of_ok l set[i]
    have xs := edAt_sm3 hs set[i]
    have hco := Common_ok (edAt l set[i]) e xs he
    have hcm : ¬ commonL (edAt l set[i]) e = [] ↔ meetB (edAt l set[i]) e = true := by
      rw [commonL_nil]; simp
    obtain ⟨M, hM⟩ : ∃ M, M = commonL (edAt l set[i]) e := ⟨_, rfl⟩
    rw [← hM] at hco hcm
    refine LWp.ro hT hW (fun | 23 => some <| .plain ⟨.tup [.d (edAt l set[i]).d, .d (.bool (decide (0 ≤ findI l set[i])))], false⟩ | _ => none) ?_
    simp [evalExtract, h3]
    refine ⟨by simpa using hof, ?_⟩
    refine LWp.seq ?_
    refine LWp.ro hT hW (fun | 30 => some <| .plain ⟨.d (strsD M), true⟩ | _ => none) ?_
    simp
    refine ⟨by intros; simpa using hco, ?_⟩
    refine LWp.iff ?_
    simp
    refine ⟨fun h6 g6 => ?_, fun h6 => ?_⟩
    · refine LWp.rz hT hW ?_
      simp [h3]
      refine ⟨by have := hi3.2.1; omega, ?_⟩
      refine LWp.rz hT hW ?_
      simp
      refine ⟨by omega, ?_⟩
      refine loopQ.mk (i + 1, acc ++ [set[i]]) (Weak.to [0, 1, 5, 7, 8] [(5, 5), (40, 7)] (by decide) (by decide) (by simp [hp]) (by simp) (by simp)) ?_ ?_
      · refine ⟨h3, by have := hi3.2.1; simp; omega, ?_⟩
        dsimp only [touchingL] at *
        rw [filter_take_succ h3, ← hi3.2.2, if_pos (by rw [hcm.1 (by intro w; rw [w] at g6; simp at g6), decide_eq_true h6]; rfl)]
      · omega
    · refine LWp.skip ?_
      simp
      refine LWp.rz hT hW ?_
      simp
      refine ⟨by omega, ?_⟩
      refine loopQ.mk (i + 1, acc) (Weak.to [0, 1, 5, 7, 8] [(5, 5), (7, 7)] (by decide) (by decide) (by simp [hp]) (by simp) (by simp)) ?_ ?_
      · refine ⟨h3, by have := hi3.2.1; dsimp only; omega, ?_⟩
        dsimp only [touchingL] at *
        rw [filter_take_succ h3, ← hi3.2.2, if_neg, List.append_nil]
        intro w
        rw [Bool.and_eq_true, decide_eq_true_eq] at w
        exact absurd (h6 w.1) (hcm.2 w.2)
      · omega
  · refine LWp.exit ?_
    simp
    refine LWp.seq ?_
    refine LWp.rz hT hW ?_
    simp
    refine LWp.ret ?_
    have e2 : acc = touchingL l set e := by rw [hi3.2.2, List.take_of_length_le (by omega)]
    simp [← e2]
theorem RResolve_ok (l : List Ed) (a b : Nm) (puts : List Df) (drops : List Str) (y : Nm) (hs : small l) (hn : (allNeeds l).length ≤ 1000) (hpl : puts.length ≤ 1100000) (hdl : drops.length ≤ 1100000) : Ok Tryz.prog 26 [edsD l, a.d, b.d, dfsD puts, strsD drops, y.d] ⟨.tup [.d (resolveV l a b puts drops y).1.d, .d (I64 (resolveV l a b puts drops y).2)], false⟩ := by
  refine Ok.many hT Tryz.func26 (by kernel_rfl) (c := _) rfl Tryz.ntmps26 (by simp) Tryz.results26 (by simp) (by rfl) fun w0 X hp => ?_
  refine LWp.len (t := 0) rfl fun hlen => ?_
  simp at hlen
  refine LWp.seq ?_
  refine LWp.rz hT hW ?_
  simp
  refine LWp.seq ?_
  refine LWp.ro hT hW (fun | 25 => some <| .plain ⟨.tup [.d (I64 (validV l).1), .d (I64 (validV l).2)], true⟩ | _ => none) ?_
  simp [evalExtract]
  refine ⟨Valid_ok l hs (by omega), ?_⟩
  refine LWp.seq ?_
  refine LWp.seq ?_
  refine LWp.rz hT hW ?_
  simp
  refine LWp.iff ?_
  simp
  refine ⟨fun h2 => ?_, fun h2 => ?_⟩
  · refine LWp.seq ?_
    refine LWp.rz hT hW ?_
    simp
    refine LWp.ret ?_
    have e : resolveV l a b puts drops y = (default, (validV l).2) := by simp [resolveV, h2]
    simp [e]
  · refine LWp.skip ?_
    simp
    refine LWp.seq ?_
    refine LWp.ro hT hW (fun | 35 => some <| .plain ⟨.tup [.d (edAt l a).d, .d (.bool (decide (0 ≤ findI l a)))], false⟩ | _ => none) ?_
    simp [evalExtract]
    refine ⟨by simpa using Of_ok l a, ?_⟩
    refine LWp.seq ?_
    refine LWp.ro hT hW (fun | 41 => some <| .plain ⟨.tup [.d (edAt l b).d, .d (.bool (decide (0 ≤ findI l b)))], false⟩ | _ => none) ?_
    simp [evalExtract]
    refine ⟨by simpa using Of_ok l b, ?_⟩
    refine LWp.seq ?_
    refine LWp.seq ?_
    refine LWp.rz hT hW ?_
    simp
    refine LWp.iff ?_
    simp
    refine ⟨fun h6 => ?_, fun h6 g6 => ?_⟩
    · refine LWp.seq ?_
      refine LWp.rz hT hW ?_
      simp
      refine LWp.ret ?_
      have e : resolveV l a b puts drops y = (default, 6) := by unfold resolveV; rw [if_neg (by simpa using h2), if_pos (by omega)]
      simp [e]
    · refine LWp.skip ?_
      simp
      refine LWp.seq ?_
      have k8 := Shared_ok l a b hs (by omega)
      obtain ⟨S, hS⟩ : ∃ S, S = sharedL l a b := ⟨_, rfl⟩
      rw [← hS] at k8
      refine LWp.ro hT hW (fun | 54 => some <| .plain ⟨.d (strsD S), true⟩ | _ => none) ?_
      simp
      refine ⟨by simpa using k8, ?_⟩
      refine LWp.seq ?_
      refine LWp.seq ?_
      refine LWp.rz hT hW ?_
      simp
      refine LWp.iff ?_
      simp
      refine ⟨fun h9 => ?_, fun h9 => ?_⟩
      · refine LWp.seq ?_
        refine LWp.rz hT hW ?_
        simp
        refine LWp.ret ?_
        have e : resolveV l a b puts drops y = (default, 15) := by unfold resolveV; rw [if_neg (by simpa using h2), if_neg (by omega), if_pos (by rw [← hS]; exact h9)]
        simp [e]
      · refine LWp.skip ?_
        simp
        refine LWp.seq ?_
        obtain ⟨x, hx⟩ : ∃ x, x = resolveE a b puts drops y := ⟨_, rfl⟩
        have hxs : x.small := by rw [hx]; exact ⟨hpl, hdl⟩
        have hxn : x.needs.length ≤ 2 := by rw [hx]; exact sortN_len [a, b]
        refine LWp.regAny hT hW hMixed (lk [[],[],[],[1,2],[1,2,3],[],[],[1,2,3,4,5,6],[],[],[1,2,3,4,5,6,7,8,9],[0,1,2,3,4,5,6,7,8,9,10],[],[0,1,2,3,4,5,6,7,8,9,10,11,12]]) (lk [[21,62,63,64,66,67,69],[21,64,67],[21,64,67],[21,64,67],[21,64,67],[21,62,63,67],[21,62,63,64,67],[21,67],[21,62,63,64,66],[21,62,63,64,66,67],[21],[21],[62,63,64,66,67,69],[]]) (lk [[],[],[],[62],[63],[64],[],[64,66],[67],[],[67,69],[],[21],[21]]) (by kernel_rfl) (fun | 63 => some <| .plain ⟨.d (nmsD (sortN [a, b])), true⟩ | _ => none) (by intro d; first | exact ⟨rfl, fun _ h => h⟩ | (split <;> exact ⟨rfl, fun _ h => h⟩)) ?_
        simp
        refine ⟨?_, ?_⟩
        · repeat' first | (simpa using Sort_ok [a, b] (by simp)) | rfl | omega | refine ⟨?_, ?_⟩
        refine LWp.seq ?_
        refine LWp.seq ?_
        refine LWp.rz hT hW ?_
        simp
        refine LWp.len (t := 20) (xs := S.map .str) (by simp) fun hsl => ?_
        simp at hsl
        refine LWp.block ?_
        refine LWp.loopW (ι := Nat) (fun i => mkEnv [(0, .d (edsD l)), (11, .bx 11 0), (12, .bx 12 0), (13, .d (I64 0)), (20, .d (strsD S)), (21, .bx 21 0), (22, .d (I64 i))]) (fun i => mkObs [(11, .box false [.d (I64 y.who), .d (I64 y.seq)]), (12, .box false [.d (I64 0), .d (I64 0), .nl, .nl, .nl]), (21, .box false [.d (I64 y.who), .d (I64 y.seq), .d (nmsD (sortN [a, b])), .ow 66 0 puts.length, .ow 69 0 drops.length]), (66, .row false 2 (puts.map Df.d)), (69, .row false 1 (drops.map .str))]) (fun i => i ≤ S.length ∧ Pre (fun s => !decide (s ∈ tchN x)) S i) (fun i => S.length - i) 0 (Weak.to [0, 11, 12, 13, 20, 21, 22] [(11, 11), (12, 12), (21, 21), (66, 66), (69, 69)] (by decide) (by decide) (by simp [hp]) (by simp) (by simp)) (⟨Nat.zero_le _, Pre.zero⟩) fun i hi13 => ?_
        refine LWp.seq ?_
        refine LWp.seq ?_
        refine LWp.rz hT hW ?_
        simp
        refine LWp.iff ?_
        simp
        refine ⟨fun h13 => ?_, fun h13 => ?_⟩
        · refine LWp.skip ?_
          simp
          refine LWp.seq ?_
          refine LWp.block ?_
          refine LWp.seq ?_
          refine LWp.regAny hT hW hMixed (lk [[],[0],[],[],[2,3],[2,3,4],[0,1,2,3,4,5],[0,1,2,3,4,5,6]]) (lk [[],[],[78],[78],[78],[78],[],[]]) (lk [[],[78],[],[],[],[],[83],[]]) (by kernel_rfl) (fun | 78 => some <| .plain ⟨.d (strsD (tchN x)), true⟩ | 83 => some <| .plain ⟨.d (.bool (decide (S[i] ∈ tchN x))), true⟩ | _ => none) (by intro d; first | exact ⟨rfl, fun _ h => h⟩ | (split <;> exact ⟨rfl, fun _ h => h⟩)) ?_
          simp [h13]
          refine ⟨⟨by have := Touches23_ok x hxs; simpa [hx, resolveE] using this, In_ok _ _⟩, ?_⟩
          refine LWp.iff ?_
          simp
          refine ⟨fun h15 => ?_, fun h15 => ?_⟩
          · refine LWp.seq ?_
            refine LWp.rz hT hW ?_
            simp
            refine LWp.ret ?_
            have hne : ¬ sharedL l a b = [] := by rw [← hS]; exact h9
            have hany : (sharedL l a b).any (fun s => decide (s ∉ touches (resolveE a b puts drops y))) = true := by
              rw [← hS, ← hx, List.any_eq_true]
              exact ⟨_, List.getElem_mem h13, by simpa [mem_tchN] using h15⟩
            have e : resolveV l a b puts drops y = (default, 10) := by unfold resolveV; rw [if_neg (by simpa using h2), if_neg (by omega), if_neg hne, if_pos hany]
            simp [e]
          · refine LWp.skip ?_
            simp
            refine LWp.rz hT hW ?_
            simp
            refine ⟨by omega, ?_⟩
            refine loopQ.mk (i + 1) (Weak.to [0, 11, 12, 13, 20, 21, 22] [(11, 11), (12, 12), (21, 21), (66, 66), (69, 69)] (by decide) (by decide) (by simp [hp]) (by simp) (by simp)) ?_ ?_
            · exact ⟨h13, hi13.2.succ h13 (by simpa using h15)⟩
            · omega
        · refine LWp.exit ?_
          simp
          refine LWp.seq ?_
          refine LWp.seq ?_
          have hne : ¬ sharedL l a b = [] := by rw [← hS]; exact h9
          have hany : ¬ (sharedL l a b).any (fun s => decide (s ∉ touches (resolveE a b puts drops y))) = true := by
            have h := hi13.2.any (by omega)
            simp only [mem_tchN] at h
            rw [← hS, ← hx]
            simpa using h
          have hgo : resolveV l a b puts drops y = if 63 < l.length then (default, 4) else if properE (resolveE a b puts drops y) = false then (default, 1) else if 0 ≤ findI l y then (default, 7) else (resolveE a b puts drops y, 0) := by
            unfold resolveV
            rw [if_neg (by simpa using h2), if_neg (by omega), if_neg hne, if_neg hany]
          refine LWp.rz hT hW ?_
          simp
          refine LWp.iff ?_
          simp
          refine ⟨fun h17 => ?_, fun h17 => ?_⟩
          · refine LWp.seq ?_
            refine LWp.rz hT hW ?_
            simp
            refine LWp.ret ?_
            have e : resolveV l a b puts drops y = (default, 4) := by rw [hgo, if_pos (by omega)]
            simp [e]
          · refine LWp.skip ?_
            simp
            refine LWp.seq ?_
            refine LWp.seq ?_
            refine LWp.ro hT hW (fun | 91 => some <| .plain ⟨.d (.bool (properE x)), true⟩ | _ => none) ?_
            simp
            refine ⟨by have := Possible_ok x hxs.1 hxs.2 (by omega); simpa [hx, resolveE] using this, ?_⟩
            refine LWp.iff ?_
            simp
            refine ⟨fun h19 => ?_, fun h19 => ?_⟩
            · refine LWp.seq ?_
              refine LWp.rz hT hW ?_
              simp
              refine LWp.ret ?_
              have e : resolveV l a b puts drops y = (default, 1) := by rw [hgo, if_neg (by omega), ← hx, if_pos (by simpa using h19)]
              simp [e]
            · refine LWp.skip ?_
              simp
              refine LWp.seq ?_
              refine LWp.seq ?_
              refine LWp.ro hT hW (fun | 96 => some <| .plain ⟨.d (I64 (findI l y)), true⟩ | _ => none) ?_
              simp
              refine ⟨Find_ok l y, ?_⟩
              refine LWp.iff ?_
              simp
              refine ⟨fun h21 => ?_, fun h21 => ?_⟩
              · refine LWp.seq ?_
                refine LWp.rz hT hW ?_
                simp
                refine LWp.ret ?_
                have e : resolveV l a b puts drops y = (default, 7) := by rw [hgo, if_neg (by omega), ← hx, if_neg (by simpa using h19), if_pos (by omega)]
                simp [e]
              · refine LWp.skip ?_
                simp
                refine LWp.seq ?_
                refine LWp.rz hT hW ?_
                simp
                refine LWp.ret ?_
                have e : resolveV l a b puts drops y = (⟨y, sortN [a, b], puts, drops⟩, 0) := by rw [hgo, if_neg (by omega), ← hx, if_neg (by simpa using h19), if_neg (by omega), hx]; rfl
                simp [e]
end
open Go.Proofs
section
set_option maxRecDepth 10000
set_option maxHeartbeats 2200000
attribute [local simp] dF1 dF2 dF3 dF4 dF5
theorem RRevert_ok (base : List Df) (l : List Ed) (set : List Nm) (n y : Nm) (hs : small l) (hn : (allNeeds l).length ≤ 1000) (hb : base.length ≤ 1000) (hl : set.length ≤ 1000) : Ok Tryz.prog 23 [dfsD base, edsD l, nmsD set, n.d, y.d] ⟨.tup [.d (revertV base l set n y).1.d, .d (I64 (revertV base l set n y).2)], false⟩ := by
  refine Ok.many hT Tryz.func23 (by kernel_rfl) (c := _) rfl Tryz.ntmps23 (by simp) Tryz.results23 (by simp) (by rfl) fun w0 X hp => ?_
  refine LWp.seq ?_
  refine LWp.rz hT hW ?_
  simp
  refine LWp.seq ?_
  refine LWp.ro hT hW (fun | 27 => some <| .plain ⟨.tup [.d (I64 (validV l).1), .d (I64 (validV l).2)], true⟩ | _ => none) ?_
  simp [evalExtract]
  refine ⟨Valid_ok l hs (by omega), ?_⟩
  refine LWp.seq ?_
  refine LWp.seq ?_
  refine LWp.rz hT hW ?_
  simp
  refine LWp.iff ?_
  simp
  refine ⟨fun h2 => ?_, fun h2 => ?_⟩
  · refine LWp.seq ?_
    refine LWp.rz hT hW ?_
    simp
    refine LWp.ret ?_
    have e : revertV base l set n y = (default, (validV l).2) := by simp [revertV, h2]
    simp [e]
  · refine LWp.skip ?_
    simp
    refine LWp.seq ?_
    refine LWp.seq ?_
    refine LWp.ro hT hW (fun | 36 => some <| .plain ⟨.d (.bool (decide (n ∈ set))), true⟩ | _ => none) ?_
    simp
    refine ⟨Has_ok set n, ?_⟩
    refine LWp.iff ?_
    simp
    refine ⟨fun h4 => ?_, fun h4 => ?_⟩
    · refine LWp.seq ?_
      refine LWp.rz hT hW ?_
      simp
      refine LWp.ret ?_
      have e : revertV base l set n y = (default, 6) := by simp [revertV, h2, h4]
      simp [e]
    · refine LWp.skip ?_
      simp
      refine LWp.seq ?_
      refine LWp.seq ?_
      refine LWp.ro hT hW (fun | 40 => some <| .plain ⟨.d (.bool y.isName), true⟩ | _ => none) ?_
      simp
      refine ⟨IsName_ok y, ?_⟩
      refine LWp.iff ?_
      simp
      refine ⟨fun h6 => ?_, fun h6 => ?_⟩
      · refine LWp.seq ?_
        refine LWp.rz hT hW ?_
        simp
        refine LWp.ret ?_
        have e : revertV base l set n y = (default, 1) := by simp [revertV, h2, h4, h6]
        simp [e]
      · refine LWp.skip ?_
        simp
        refine LWp.seq ?_
        refine LWp.seq ?_
        refine LWp.ro hT hW (fun | 45 => some <| .plain ⟨.d (I64 (findI l y)), true⟩ | _ => none) ?_
        simp
        refine ⟨Find_ok l y, ?_⟩
        refine LWp.iff ?_
        simp
        refine ⟨fun h8 => ?_, fun h8 => ?_⟩
        · refine LWp.seq ?_
          refine LWp.rz hT hW ?_
          simp
          refine LWp.ret ?_
          have e : revertV base l set n y = (default, 7) := by simp [revertV, h2, h4, h6, h8]
          simp [e]
        · refine LWp.skip ?_
          simp
          refine LWp.seq ?_
          refine LWp.ro hT hW (fun | 52 => some <| .plain ⟨.tup [.d (dfsD (programV base l set).1), .d (I64 (programV base l set).2)], false⟩ | _ => none) ?_
          simp [evalExtract]
          refine ⟨Program_ok base l set hs (by omega) hb hl, ?_⟩
          refine LWp.seq ?_
          refine LWp.seq ?_
          refine LWp.rz hT hW ?_
          simp
          refine LWp.iff ?_
          simp
          refine ⟨fun h11 => ?_, fun h11 => ?_⟩
          · refine LWp.seq ?_
            refine LWp.rz hT hW ?_
            simp
            refine LWp.ret ?_
            have n8 : ¬ 0 ≤ findI l y := by omega
            have e : revertV base l set n y = (default, (programV base l set).2) := by simp [revertV, h2, h4, h6, n8, h11]
            simp [e]
          · refine LWp.skip ?_
            simp
            refine LWp.seq ?_
            obtain ⟨rest, hrest⟩ : ∃ rest, rest = lessN set n := ⟨_, rfl⟩
            have hrl : rest.length ≤ 1000 := by rw [hrest]; exact Nat.le_trans (List.length_filter_le _ _) hl
            obtain ⟨q, hq⟩ : ∃ q, q = programV base l rest := ⟨_, rfl⟩
            have k64 := without_ok set n (by omega)
            rw [← hrest] at k64
            refine LWp.ro hT hW (fun | 64 => some <| .plain ⟨.d (nmsD rest), true⟩ | 65 => some <| .plain ⟨.tup [.d (dfsD q.1), .d (I64 q.2)], false⟩ | _ => none) ?_
            simp [evalExtract]
            refine ⟨⟨k64, by rw [hq]; exact Program_ok base l rest hs (by omega) hb hrl⟩, ?_⟩
            refine LWp.seq ?_
            refine LWp.seq ?_
            refine LWp.rz hT hW ?_
            simp
            refine LWp.iff ?_
            simp
            refine ⟨fun h14 => ?_, fun h14 => ?_⟩
            · refine LWp.seq ?_
              refine LWp.rz hT hW ?_
              simp
              refine LWp.ret ?_
              have n8 : ¬ 0 ≤ findI l y := by omega
              have e : revertV base l set n y = (default, q.2) := by simp [revertV, h2, h4, h6, n8, h11, ← hrest, ← hq, h14]
              simp [e]
            · refine LWp.skip ?_
              simp
              refine LWp.seq ?_
              have hes := edAt_sm3 hs n
              have hof := Of_ok l n
              obtain ⟨x, hx⟩ : ∃ x, x = edAt l n := ⟨_, rfl⟩
              rw [← hx] at hes hof
              have htl := tchN_len hes
              refine LWp.ro hT hW (fun | 75 => some <| .plain ⟨.tup [.d x.d, .d (.bool (decide (0 ≤ findI l n)))], false⟩ | _ => none) ?_
              simp [evalExtract]
              refine ⟨by simpa using hof, ?_⟩
              refine LWp.seq ?_
              obtain ⟨ns, hns⟩ : ∃ ns, ns = touchingL l set x := ⟨_, rfl⟩
              have hnl : ns.length ≤ 1000 := by rw [hns]; exact Nat.le_trans (List.length_filter_le _ _) hl
              obtain ⟨N, hN⟩ : ∃ N, N = sortN (ns ++ [n]) := ⟨_, rfl⟩
              have hNl : N.length ≤ 1001 := by rw [hN]; have := sortN_len (ns ++ [n]); simp at this; omega
              refine LWp.regAny hT hW hMixed (lk [[],[],[],[],[1,2,3],[],[5],[1,2,3,4,5,6],[1,2,3,4,5,6,7],[0,1,2,3,4,5,6,7,8],[],[0,1,2,3,4,5,6,7,8,9,10]]) (lk [[20,82,84,85,86],[20,84],[20,84],[20,84],[20,84],[20,82],[20,82],[20],[20],[20],[82,84,85,86],[]]) (lk [[],[],[],[],[82],[],[84],[82,85],[86],[],[20],[20]]) (by kernel_rfl) (fun | 82 => some <| .plain ⟨.own 2 (ns.map Nm.d), true⟩ | 86 => some <| .plain ⟨.d (nmsD N), true⟩ | _ => none) (by intro d; first | exact ⟨rfl, fun _ h => h⟩ | (split <;> exact ⟨rfl, fun _ h => h⟩)) ?_
              simp
              refine ⟨⟨⟨by rw [hns]; simpa using RTouching_ok l set x hs hes (by omega), by omega, by omega⟩, by rw [List.take_of_length_le (by simp), hN]; simpa using Sort_ok (ns ++ [n]) (by simp; omega)⟩, ?_⟩
              refine LWp.nlCell (fz := false) (cs := [.d (I64 y.who), .d (I64 y.seq), .d (nmsD N), .nl, .nl]) 20 3 1110 2 (by decide) ⟨by simp, by simp, by simp, ?_⟩
              refine LWp.nlCell (fz := false) (cs := [.d (I64 y.who), .d (I64 y.seq), .d (nmsD N), .ow 1110 0 0, .nl]) 20 4 1119 1 (by decide) ⟨by simp, by simp, by simp, ?_⟩
              simp
              refine LWp.seq ?_
              obtain ⟨T, hT'⟩ : ∃ T, T = tchN x := ⟨_, rfl⟩
              have hT2 := Touches23_ok x hes
              rw [← hT'] at hT2 htl
              have hE : revertE l set n y q.1 = ⟨y, N, T.filterMap (defOf q.1), T.filter fun s => (defOf q.1 s).isNone⟩ := by
                rw [hT', hN, hns, hx]; rfl
              refine LWp.ro hT hW (fun | 89 => some <| .plain ⟨.d (strsD T), true⟩ | _ => none) ?_
              simp
              refine ⟨by simpa using hT2, ?_⟩
              refine LWp.seq ?_
              refine LWp.seq ?_
              refine LWp.rz hT hW ?_
              simp
              refine LWp.block ?_
              refine LWp.loopW (ι := Nat × List Df × List Str) (fun ⟨i, ps, ds⟩ => mkEnv [(10, .bx 10 0), (11, .d (I64 0)), (16, .d (dfsD q.1)), (20, .bx 20 0), (21, .d (strsD T)), (22, .d (I64 i))]) (fun ⟨i, ps, ds⟩ => mkObs [(10, .box false [.d (I64 0), .d (I64 0), .nl, .nl, .nl]), (20, .box false [.d (I64 y.who), .d (I64 y.seq), .d (nmsD N), .ow 1110 0 ps.length, .ow 1119 0 ds.length]), (1110, .row false 2 (ps.map Df.d)), (1119, .row false 1 (ds.map .str))]) (fun ⟨i, ps, ds⟩ => i ≤ T.length ∧ (ps.length ≤ i ∧ ds.length ≤ i) ∧ ps = (T.take i).filterMap (defOf q.1) ∧ ds = (T.take i).filter fun s => (defOf q.1 s).isNone) (fun ⟨i, ps, ds⟩ => T.length - i) (0, [], []) (Weak.to [10, 11, 16, 20, 21, 22] [(10, 10), (20, 20), (1110, 1110), (1119, 1119)] (by decide) (by decide) (by simp [hp]) (by simp) (by simp)) (by simp) fun ⟨i, ps, ds⟩ hi20 => ?_
              refine LWp.seq ?_
              refine LWp.seq ?_
              refine LWp.rz hT hW ?_
              simp
              refine LWp.iff ?_
              simp
              refine ⟨fun h20 => ?_, fun h20 => ?_⟩
              · refine LWp.skip ?_
                simp
                refine LWp.seq ?_
                refine LWp.block ?_
                refine LWp.seq ?_
                refine LWp.ro hT hW (fun | 102 => some <| .plain ⟨.tup [.d ((defOf q.1 T[i]).getD default).d, .d (.bool (defOf q.1 T[i]).isSome)], true⟩ | _ => none) ?_
                simp [evalExtract, h20]
                refine ⟨by simpa using Def_ok q.1 T[i], ?_⟩
                refine LWp.seq ?_
                refine LWp.rz hT hW ?_
                simp
                refine LWp.iff ?_
                simp
                refine ⟨fun h23 => ?_, fun h23 => ?_⟩
                · obtain ⟨d, hd⟩ := Option.isSome_iff_exists.1 h23
                  refine LWp.rz hT hW ?_
                  simp [h20, hd]
                  refine ⟨⟨by omega, by omega⟩, ?_⟩
                  refine LWp.rz hT hW ?_
                  simp
                  refine ⟨by omega, ?_⟩
                  refine loopQ.mk (i + 1, ps ++ [d], ds) (Weak.to [10, 11, 16, 20, 21, 22] [(10, 10), (20, 20), (110, 1110), (1119, 1119)] (by decide) (by decide) (by simp [hp]) (by simp) (by simp)) ?_ ?_
                  · dsimp only
                    refine ⟨h20, by simp; omega, ?_, ?_⟩
                    · rw [List.take_succ_eq_append_getElem h20, fm_snoc, hd, ← hi20.2.2.1]
                    · rw [filter_take_succ h20, ← hi20.2.2.2, hd]; simp
                  · omega
                · have hd : defOf q.1 T[i] = none := by simpa using h23
                  refine LWp.regAny hT hW hMixed (lk [[],[0],[],[],[2,3],[2,3,4],[2,3,4,5],[0,1,2,3,4,5,6],[0,1,2,3,4,5,6,7],[0,1,2,3,4,5,6,7,8]]) (lk [[118],[118],[],[],[],[],[],[],[],[]]) (lk [[],[],[],[],[],[],[118],[113,119],[],[20]]) (by kernel_rfl) (fun _ => none) (fun _ => ⟨rfl, fun _ h => h⟩) ?_
                  simp [h20]
                  refine ⟨⟨by omega, by omega⟩, ?_⟩
                  refine LWp.rz hT hW ?_
                  simp
                  refine ⟨by omega, ?_⟩
                  refine loopQ.mk (i + 1, ps, ds ++ [T[i]]) (Weak.to [10, 11, 16, 20, 21, 22] [(10, 10), (20, 20), (1110, 1110), (119, 1119)] (by decide) (by decide) (by simp [hp]) (by simp) (by simp)) ?_ ?_
                  · dsimp only
                    refine ⟨h20, by simp; omega, ?_, ?_⟩
                    · rw [List.take_succ_eq_append_getElem h20, fm_snoc, hd, ← hi20.2.2.1]; simp
                    · rw [filter_take_succ h20, ← hi20.2.2.2, hd]; simp
                  · omega
              · refine LWp.exit ?_
                simp
                refine LWp.seq ?_
                refine LWp.seq ?_
                have hps := hi20.2.2.1
                have hds := hi20.2.2.2
                rw [List.take_of_length_le (by omega)] at hps hds
                rw [← hps, ← hds] at hE
                have hnn : n ∈ l.map Ed.name := found_iff.1 ((closedB_iff.1 (prog_closed (by simpa using h11)) n h4).1)
                have h24 : T.length ≤ 24 := by rw [hT', hx]; exact Nat.le_trans (setS_len _) (proper_parts.1 (edAt_proper (by simpa using h2) hnn).1).2.1
                refine LWp.ro hT hW (fun | 122 => some <| .plain ⟨.d (.bool (properE ⟨y, N, ps, ds⟩)), true⟩ | _ => none) ?_
                simp
                refine ⟨by simpa using Possible_ok ⟨y, N, ps, ds⟩ (by show ps.length ≤ _; omega) (by show ds.length ≤ _; omega) (by show N.length ≤ _; omega), ?_⟩
                refine LWp.iff ?_
                simp
                refine ⟨fun h26 => ?_, fun h26 => ?_⟩
                · refine LWp.seq ?_
                  refine LWp.rz hT hW ?_
                  simp
                  refine LWp.ret ?_
                  have n8 : ¬ 0 ≤ findI l y := by omega
                  have hp' : properE (revertE l set n y q.1) = false := by rw [hE]; simpa using h26
                  have e : revertV base l set n y = (default, 1) := by simp [revertV, h2, h4, h6, n8, h11, ← hrest, ← hq, h14, hp']
                  simp [e]
                · refine LWp.skip ?_
                  simp
                  refine LWp.seq ?_
                  refine LWp.rz hT hW ?_
                  simp
                  refine LWp.ret ?_
                  have n8 : ¬ 0 ≤ findI l y := by omega
                  have hp' : properE (revertE l set n y q.1) = true := by rw [hE]; simpa using h26
                  have e : revertV base l set n y = (⟨y, N, ps, ds⟩, 0) := by rw [← hE]; simp [revertV, h2, h4, h6, n8, h11, ← hrest, ← hq, h14, hp']
                  simp [e]
end
open Go.Proofs
section
set_option maxRecDepth 10000
set_option maxHeartbeats 2000000
attribute [local simp] dF1 dF2 dF3 dF4 dF5 dP1 dP2
theorem fs_who (s i : Nat) : (freshAt s i).who = 3 := rfl
theorem fs_rng (s i : Nat) : 0 ≤ (freshAt s i).seq ∧ (freshAt s i).seq < 64 := by
  have := Nat.mod_lt (s + i) (show 0 < 64 by omega)
  show 0 ≤ (((s + i) % 64 : Nat) : Int) ∧ (((s + i) % 64 : Nat) : Int) < 64
  omega
theorem fs_zero {s : Nat} (h : s < 64) : (freshAt s 0).seq = (s : Int) := by
  show (((s + 0) % 64 : Nat) : Int) = s
  omega
theorem fs_next (s i : Nat) : ((freshAt s i).seq + 1).tmod 64 = (freshAt s (i + 1)).seq := by
  have := (fs_rng s i).1
  rw [Int.tmod_eq_emod_of_nonneg (by omega)]
  show ((((s + i) % 64 : Nat) : Int) + 1) % 64 = (((s + (i + 1)) % 64 : Nat) : Int)
  omega
theorem Fresh_ok (l : List Ed) (k : Int) (q : -9223372036854775808 ≤ k ∧ k ≤ 9223372036854775807) : Ok Tryz.prog 21 [edsD l, I64 k] ⟨.d (freshN l k).d, true⟩ := by
  refine Ok.cell hT Tryz.func21 (by kernel_rfl) (c := _) rfl Tryz.ntmps21 (by simp) Tryz.results21 (by intro _ h; cases h) fun w0 X hp => ?_
  refine LWp.seq ?_
  refine LWp.rz hT hW ?_
  simp
  refine LWp.seq ?_
  have ha := Around_ok k 64 q.1 q.2 (by decide)
  have hr := around_lt k 64 (by decide)
  obtain ⟨s, hs⟩ : ∃ s : Nat, s = (around k 64).toNat := ⟨_, rfl⟩
  have hk : around k 64 = (s : Int) := by omega
  rw [hk] at ha
  refine LWp.ro hT hW (fun | 8 => some <| .plain ⟨.d (I64 s), true⟩ | _ => none) ?_
  simp
  refine ⟨by simpa using ha, ?_⟩
  refine LWp.seq ?_
  refine LWp.seq ?_
  refine LWp.rz hT hW ?_
  simp
  refine LWp.block ?_
  refine LWp.loopW (ι := Nat) (fun i => mkEnv [(0, .d (edsD l)), (4, .bx 4 0), (5, .bx 5 0), (6, .d (I64 i))]) (fun i => mkObs [(4, .box false [.d (I64 0), .d (I64 0)]), (5, .box false [.d (I64 3), .d (I64 (freshAt s i).seq)])]) (fun i => i ≤ 64 ∧ ∀ j, j < i → freshAt s j ∈ l.map Ed.name) (fun i => 64 - i) 0 (Weak.to [0, 4, 5, 6] [(4, 4), (5, 5)] (by decide) (by decide) (by simp [hp]) (by simp) (by simp [fs_zero (show s < 64 by omega)])) (by simp) fun i hi3 => ?_
  refine LWp.seq ?_
  refine LWp.seq ?_
  have hrg := fs_rng s i
  refine LWp.ro hT hW (fun | 15 => some <| .plain ⟨.d (I64 (findI l (freshAt s i))), true⟩ | _ => none) ?_
  simp
  refine ⟨by intros; have := Find_ok l (freshAt s i); simpa [fs_who] using this, ?_⟩
  refine LWp.iff ?_
  simp
  refine ⟨fun h3 g3 => ?_, fun h3 => ?_⟩
  · refine LWp.skip ?_
    simp
    refine LWp.seq ?_
    refine LWp.block ?_
    refine LWp.rz hT hW ?_
    simp
    refine ⟨⟨by omega, by omega⟩, ?_⟩
    refine LWp.rz hT hW ?_
    simp
    refine ⟨by omega, ?_⟩
    refine loopQ.mk (i + 1) (Weak.to [0, 4, 5, 6] [(4, 4), (5, 5)] (by decide) (by decide) (by simp [hp]) (by simp) (by simp [fs_next])) ?_ ?_
    · refine ⟨by omega, fun j hj => ?_⟩
      refine List.mem_map.1 ?_
      by_cases e : j = i
      · subst e; exact found_iff.1 g3
      · exact hi3.2 j (by omega)
    · omega
  · refine LWp.exit ?_
    simp
    refine LWp.seq ?_
    refine LWp.rz hT hW ?_
    simp
    refine LWp.ret ?_
    have e : freshN l k = freshAt s i := by
      rw [hs]
      refine fresh_exit hi3.1 (by rw [← hs]; exact hi3.2) fun w => ?_
      rw [← hs]
      intro w2
      have := h3 (by omega)
      have := found_iff.2 w2
      omega
    simp [e, fs_who]
end
end Go.Eng
namespace Go.Eng
theorem someN_nodup {l : List Ed} (h : (l.map Ed.name).Nodup) (b : Int) : (someN l b).Nodup := by
  have e : l.map Ed.name = l.zipIdx.map fun p => p.1.name := by
    have : l.zipIdx.map (fun p => p.1.name) = (l.zipIdx.map Prod.fst).map Ed.name := by rw [List.map_map]; rfl
    rw [this, List.zipIdx_map_fst]
  rw [e] at h
  exact h.sublist (List.filter_sublist.map _)
theorem closureV_len (l : List Ed) (S : List Nm) : (closureV l S).1.length ≤ l.length ∧ (closureV l S).1.Nodup := by
  unfold closureV
  split
  · exact ⟨Nat.zero_le _, List.nodup_nil⟩
  · rename_i hc
    have hc : closedB l (S ++ S.flatMap (aboveL l)) = true := by simpa using hc
    refine ⟨?_, sortN_nodup _⟩
    have := nodup_le' (sortN_nodup (S ++ S.flatMap (aboveL l))) (m := l.map Ed.name) fun n hn => found_iff.1 ((closedB_iff.1 hc n (((sortN_spec _).2 n).1 hn)).1)
    rwa [List.length_map] at this
theorem touching_live {l : List Ed} (h : (validV l).2 = 0) {set : List Nm} (hn : set.Nodup) (x : Ed) : (touchingL l set x).length ≤ liveN l := by
  have hnd : (touchingL l set x).Nodup := hn.sublist List.filter_sublist
  have := nodup_le' (m := (l.filter fun e => decide (touches e ≠ [])).map Ed.name) hnd fun n hm => by
    obtain ⟨_, h2, s, hs, _⟩ := mem_touching.1 hm
    obtain ⟨_, _, h3⟩ := edAt_proper h h2
    obtain ⟨i, hi, _, e⟩ := edAt_of (found_iff.2 h2)
    refine List.mem_map.2 ⟨edAt l n, List.mem_filter.2 ⟨by rw [e]; exact List.getElem_mem hi, ?_⟩, h3⟩
    rw [decide_eq_true_eq]
    intro e0
    rw [e0] at hs; cases hs
  rwa [List.length_map] at this
theorem live_made (l : List Int) : liveN (madeL l) ≤ 6 := Nat.le_trans (List.length_filter_le _ _) (madeL_len l)
end Go.Eng
namespace Go.Eng
open Go.Proofs
attribute [local simp] runL stepL evalG evalOp opLV constLV putEnv dstOk upd upds Res.plain Res.cond Res.fail evalBin evalUn seqQ blockQ argsEnv lookL lookH RetIs memless freshL evalPick evalMin bval bok evalLen evalIn strip whenC guardOps guardC slotsOf
  runM foldS stepI stepM maskE wrIn lk renO lookN evalCall evalCallee optAll resLV resObj retLV retObj retsLV retsObj evalLoad evalIndexAddr evalField solid cellsD_agg cellsD_int cellsD_bool cellsD_str cellsD_sl cellsD_ro cellsD_fn cellsL_agg cellsL_dagg cellsL_int cellsL_bool cellsL_str cellsL_sl cellsL_fn cellsL_ow cellsL_bx cellsL_lfn cellsL_nl takeL takeD mkAgg allD eqD eqDs kindsAre kindIs LObj.live TK.isNone TK.agg TK.isBool TK.isStr TK.isStruct Op.operands Call.operands
  evalBuildSlice evalAppend elemsOf evalStore evalBuild fillL lookupF putL evalSlice bound evalConv elemsS freezes frozen loadR
  mkEnv_at mkObs_at close_d close_agg close_ow close_bx close_fn close_nl touch_d touch_agg touch_ow touch_bx touch_fn touch_nl ren_d ren_agg ren_bx ren_rp ren_ow ren_fn ren_nl ren_junk retQ_ret retQ2_ret condQ_bool Nm.d Df.d Ed.d nmsD dfsD strsD edsD retC_ret nm_eq df_eq take_map_len take_map_app
  nm_t nm_d nm_td df_t df_d df_td str_t str_d str_td ed_t ed_d ed_td
  evalAppendIn evalCut evalClear evalCopy evalMake evalWrap evalCap evalNil isNilC lenL isInp gorc
  mapOf findD keyEq keyOk evalMakeMap evalRange zeroD zeroDV argsG shutG outN lenv retG0_ret retG0_normal retG1_ret renO close_mp touch_mp ren_mp optAll_d optAll_d' touch_ds cellsL_mp cellsD_mp cellsL_dmp
  evalMapSet evalPtr TK.isPtr evalToArr firstL retN_ret retsQ rvarL close_bm touch_bm ren_bm cellsD_bm cellsL_bm cellsL_lbm
attribute [local simp] cutQ_normal cutQ_ret cutQ_exit
section
set_option maxRecDepth 10000
set_option maxHeartbeats 4400000
attribute [local simp] dF1 dF2 dF3 dF4 dF5 dP1 dP2
theorem four_live {l : List Int} {L1 L2 : List Ed} (h1 : SpB (madeL l) L1) (h2 : SpB L1 L2) {x : List Ed} (hx : x ∈ four3 (madeL l) L1 L2) : x.length ≤ 140 ∧ liveN x ≤ 8 := by
  have q := lists_b h1 h2
  have a := h1.live
  have b := h2.live
  have c := live_made l
  simp only [four3, List.mem_cons, List.not_mem_nil, or_false] at hx
  rcases hx with rfl | rfl | rfl | rfl
  · exact ⟨by have := madeL_len l; omega, by omega⟩
  · exact ⟨by have := q.len1; omega, by omega⟩
  · exact ⟨q.len2, by omega⟩
  · exact ⟨by simp, by simp [liveN]⟩
def some3 : List Df := [⟨[97], [118, 97, 114, 32, 97, 32, 61, 32, 57, 59]⟩, ⟨[98], [118, 97, 114, 32, 98, 32, 61, 32, 57, 59]⟩, ⟨[99], [118, 97, 114, 32, 99, 32, 61, 32, 57, 59]⟩]
theorem PatchReverts_ok (l : List Int) (bn how b bits n m : Int) (puts : List Df) (drops : List Str) (hpl : puts.length ≤ 1100000) (hdl : drops.length ≤ 1100000) (hr : ∀ n ∈ l, -9223372036854775808 ≤ n ∧ n ≤ 9223372036854775807) (q0 : -9223372036854775808 ≤ bn ∧ bn ≤ 9223372036854775807) (q1 : -9223372036854775808 ≤ how ∧ how ≤ 9223372036854775807) (q2 : -9223372036854775808 ≤ b ∧ b ≤ 9223372036854775807) (q3 : -9223372036854775808 ≤ bits ∧ bits ≤ 9223372036854775807) (q4 : -9223372036854775808 ≤ n ∧ n ≤ 9223372036854775807) (q5 : -9223372036854775808 ≤ m ∧ m ≤ 9223372036854775807) : Ok Tryz.prog 4 [.sl (l.map I64), I64 bn, I64 how, I64 b, I64 bits, I64 n, I64 m, dfsD puts, strsD drops] ⟨.d (.bool true), true⟩ := by
  refine Ok.ret Tryz.func4 (by kernel_rfl) (c := _) rfl Tryz.ntmps4 (by simp) Tryz.results4 (by intro _ h; cases h) fun w0 X hp => ?_
  refine LWp.seq ?_
  refine LWp.rz hT hW ?_
  simp
  refine LWp.seq ?_
  refine LWp.regRel hT hW 43 (fun r => (∃ L1 L2 : List Ed, SpB (madeL l) L1 ∧ SpB L1 L2 ∧ r.v = .d (.sl [edsD (madeL l), edsD L1, edsD L2, .sl []])) ∧ r.fresh = false) false ⟨.d (.sl [edsD (madeL l), edsD (madeL l), edsD (madeL l), .sl []]), false⟩ ⟨⟨⟨madeL l, madeL l, SpB.refl _, SpB.refl _, rfl⟩, rfl⟩, rfl⟩ (fun | 99 => none | _ => none) (by intro d; first | exact ⟨rfl, fun _ h => h⟩ | (split <;> exact ⟨rfl, fun _ h => h⟩)) (by kernel_rfl) fun r1 hr1 => ?_
  obtain ⟨v1, f1⟩ := r1
  obtain ⟨⟨L1, L2, hL1, hL2, hv⟩, hf⟩ := hr1
  dsimp only at hv hf
  obtain ⟨A, hA⟩ : ∃ A, A = four3 (madeL l) L1 L2 := ⟨_, rfl⟩
  have hA4 : A.length = 4 := by rw [hA]; rfl
  have hok : ∀ x ∈ A, small x ∧ (allNeeds x).length ≤ 1000 ∧ x.length ≤ 140 ∧ liveN x ≤ 8 := fun x hx => by
    have a1 := four_ok hL1 hL2 (hA ▸ hx)
    have a2 := four_live hL1 hL2 (hA ▸ hx)
    exact ⟨a1.1, a1.2.1, a2.1, a2.2⟩
  have hAd : [edsD (madeL l), edsD L1, edsD L2, .sl []] = A.map edsD := by rw [hA]; rfl
  have hlo := lists3_ok l how b hr q2.1 q2.2 q1.1 q1.2
  rw [hAd] at hv
  subst hv; subst hf
  simp
  refine ⟨by simpa using hlo, ?_⟩
  refine LWp.seq ?_
  have k1 := Base_ok bn q0.1 q0.2
  have k2 := Base_own bn q0.1 q0.2
  have k3 := Base_ok m q5.1 q5.2
  have e1 := baseL_len bn
  have e2 := baseL_len m
  obtain ⟨B0, hB0⟩ : ∃ B, B = baseL bn := ⟨_, rfl⟩
  obtain ⟨B1, hB1⟩ : ∃ B, B = baseL m := ⟨_, rfl⟩
  rw [← hB0] at k1 k2 e1
  rw [← hB1] at k3 e2
  have k4 := Around_ok m 8 q5.1 q5.2 (by decide)
  have hr8 := around_lt m 8 (by decide)
  obtain ⟨z, hz⟩ : ∃ z : Nat, (z : Int) = around m 8 := ⟨(around m 8).toNat, by omega⟩
  rw [← hz] at k4
  obtain ⟨bs, hbs⟩ : ∃ bs, bs = [B0, B0 ++ B1, [⟨[97], List.replicate (1020 + (z : Int)).toNat 0⟩]] := ⟨_, rfl⟩
  have hbl : bs.length = 3 := by rw [hbs]; rfl
  have hbb : ∀ x ∈ bs, x.length ≤ 1000 := fun x hx => by
    rw [hbs] at hx
    simp only [List.mem_cons, List.not_mem_nil, or_false] at hx
    rcases hx with rfl | rfl | rfl
    · omega
    · simp; omega
    · simp
  refine LWp.ro hT hW (fun | 45 => some <| .plain ⟨.d (dfsD B0), true⟩ | 47 => some <| .plain ⟨.own 2 (B0.map Df.d), true⟩ | 49 => some <| .plain ⟨.d (dfsD B1), true⟩ | 52 => some <| .plain ⟨.d (I64 z), true⟩ | _ => none) ?_
  simp
  refine ⟨?_, ?_⟩
  · repeat' first | exact k1 | exact k2 | exact k3 | exact k4 | omega | rfl | refine ⟨?_, ?_⟩
  refine LWp.weak (Weak.close 20 (x := .sl (bs.map dfsD)) (by simp [hbs]; exact ⟨List.take_of_length_le (by simp), .inr (by first | rfl | decide | simp [byteOf])⟩)) ?_
  refine LWp.seq ?_
  refine LWp.seq ?_
  refine LWp.rz hT hW ?_
  simp
  refine LWp.block ?_
  refine LWp.loopW (ι := Nat) (fun i => mkEnv [(4, .d (I64 bits)), (5, .d (I64 n)), (6, .d (I64 m)), (7, .d (dfsD puts)), (8, .d (strsD drops)), (19, .d (.sl (A.map edsD))), (20, .d (.sl (bs.map dfsD))), (21, .d (I64 i))]) (fun i => mkObs []) (fun i => i ≤ A.length) (fun i => A.length - i) 0 (Weak.to [4, 5, 6, 7, 8, 19, 20, 21] [] (by decide) (by decide) (by simp [hp]) (by simp) (by simp)) (by simp) fun i hi4 => ?_
  refine LWp.seq ?_
  refine LWp.seq ?_
  refine LWp.rz hT hW ?_
  simp
  refine LWp.iff ?_
  simp
  refine ⟨fun h4 => ?_, fun h4 => ?_⟩
  · refine LWp.skip ?_
    simp
    refine LWp.seq ?_
    refine LWp.block ?_
    refine LWp.seq ?_
    have hyA := hok _ (List.getElem_mem h4)
    obtain ⟨Y, hY⟩ : ∃ Y, Y = A[i] := ⟨_, rfl⟩
    rw [← hY] at hyA
    obtain ⟨y1, y2, y3, y4⟩ := hyA
    have c1 := RClosed_ok Y bits y2 (by omega) q3.1 q3.2
    have c2 := Some_ok Y bits (by omega) q3.1 q3.2
    have cl := closureV_len Y (someN Y bits)
    have sl := someN_len Y bits
    have snd : (validV Y).2 = 0 → (someN Y bits).Nodup := fun h => someN_nodup (valid_nodup h) bits
    obtain ⟨C, hC⟩ : ∃ C, C = (closureV Y (someN Y bits)).1 := ⟨_, rfl⟩
    rw [← hC] at c1 cl
    obtain ⟨S, hS⟩ : ∃ S, S = someN Y bits := ⟨_, rfl⟩
    rw [← hS] at c2 sl snd
    obtain ⟨ss, hss⟩ : ∃ ss, ss = [C, S] := ⟨_, rfl⟩
    have hs2 : ss.length = 2 := by rw [hss]; rfl
    have hsn : ∀ s ∈ ss, s.length ≤ 140 ∧ ((validV Y).2 = 0 → s.Nodup) := fun s hs => by
      rw [hss] at hs
      simp only [List.mem_cons, List.not_mem_nil, or_false] at hs
      rcases hs with rfl | rfl
      · exact ⟨by omega, fun _ => cl.2⟩
      · exact ⟨by omega, snd⟩
    refine LWp.regAny hT hW hMixed (lk [[],[],[0,1],[0,1,2],[],[0,1,2,3,4],[],[],[6,7],[6,7,8],[],[0,1,2,3,4,5,6,7,8,9,10],[0,1,2,3,4,5,6,7,8,9,10,11],[0,1,2,3,4,5,6,7,8,9,10,11,12]]) (lk [[],[],[],[],[],[],[70],[70],[70],[70],[70],[],[],[]]) (lk [[],[],[],[],[],[70],[],[],[],[],[],[76],[77],[]]) (by kernel_rfl) (fun | 70 => some <| .plain ⟨.d (nmsD C), false⟩ | 76 => some <| .plain ⟨.d (nmsD S), true⟩ | _ => none) (by intro d; first | exact ⟨rfl, fun _ h => h⟩ | (split <;> exact ⟨rfl, fun _ h => h⟩)) ?_
    simp [h4, ← hY, (show [0, 1] = List.range 2 from rfl)]
    refine ⟨⟨by simpa using c1, by simpa using c2⟩, ?_⟩
    refine LWp.weak (Weak.close 22 (x := .sl (ss.map nmsD)) (by simp [hss])) ?_
    refine LWp.seq ?_
    have c3 := Fresh_ok Y m q5
    have c4 := at_ok Y m (by omega) q5
    have c5 := at_ok Y n (by omega) q4
    obtain ⟨f, hf⟩ : ∃ f, f = freshN Y m := ⟨_, rfl⟩
    obtain ⟨a, ha⟩ : ∃ a, a = atN Y m := ⟨_, rfl⟩
    obtain ⟨c, hc⟩ : ∃ c, c = atN Y n := ⟨_, rfl⟩
    rw [← hf] at c3
    rw [← ha] at c4
    rw [← hc] at c5
    obtain ⟨ns, hns⟩ : ∃ ns : List Nm, ns = [f, a, ⟨4, 0⟩] := ⟨_, rfl⟩
    have hn3 : ns.length = 3 := by rw [hns]; rfl
    refine LWp.regAny hT hW hMixed (lk [[],[],[0,1],[0,1,2],[],[0,1,2,3,4],[],[],[6,7],[6,7,8],[],[0,1,2,3,4,5,6,7,8,9,10],[],[0,1,2,3,4,5,6,7,8,9,10,11,12],[0,1,2,3,4,5,6,7,8,9,10,11,12,13]]) (lk [[],[],[],[],[],[],[83],[83],[83],[83],[83],[],[83,89],[],[]]) (lk [[],[],[],[],[],[83],[],[],[],[],[],[89],[],[91],[]]) (by kernel_rfl) (fun | 83 => some <| .plain ⟨.d f.d, true⟩ | 89 => some <| .plain ⟨.d a.d, true⟩ | _ => none) (by intro d; first | exact ⟨rfl, fun _ h => h⟩ | (split <;> exact ⟨rfl, fun _ h => h⟩)) ?_
    simp [h4, ← hY, (show [0, 1, 2] = List.range 3 from rfl)]
    refine ⟨⟨by simpa using c3, by simpa using c4⟩, ?_⟩
    refine LWp.weak (Weak.close 23 (x := nmsD ns) (by simp [hns])) ?_
    refine LWp.seq ?_
    refine LWp.seq ?_
    refine LWp.rz hT hW ?_
    simp
    refine LWp.block ?_
    refine LWp.loopW (ι := Nat) (fun j => mkEnv [(4, .d (I64 bits)), (5, .d (I64 n)), (6, .d (I64 m)), (7, .d (dfsD puts)), (8, .d (strsD drops)), (19, .d (.sl (A.map edsD))), (20, .d (.sl (bs.map dfsD))), (21, .d (I64 i)), (22, .d (.sl (ss.map nmsD))), (23, .d (nmsD ns)), (24, .d (I64 j))]) (fun j => mkObs []) (fun j => j ≤ 2) (fun j => 2 - j) 0 (Weak.to [4, 5, 6, 7, 8, 19, 20, 21, 22, 23, 24] [] (by decide) (by decide) (by simp [hp]) (by simp) (by simp)) (by simp) fun j hi9 => ?_
    refine LWp.seq ?_
    refine LWp.seq ?_
    refine LWp.rz hT hW ?_
    simp [hs2]
    refine LWp.iff ?_
    simp
    refine ⟨fun h9 => ?_, fun h9 => ?_⟩
    · refine LWp.skip ?_
      simp
      refine LWp.seq ?_
      refine LWp.block ?_
      refine LWp.seq ?_
      refine LWp.rz hT hW ?_
      simp
      refine LWp.block ?_
      refine LWp.loopW (ι := Nat) (fun q => mkEnv [(4, .d (I64 bits)), (5, .d (I64 n)), (6, .d (I64 m)), (7, .d (dfsD puts)), (8, .d (strsD drops)), (19, .d (.sl (A.map edsD))), (20, .d (.sl (bs.map dfsD))), (21, .d (I64 i)), (22, .d (.sl (ss.map nmsD))), (23, .d (nmsD ns)), (24, .d (I64 j)), (25, .d (I64 q))]) (fun q => mkObs []) (fun q => q ≤ 3) (fun q => 3 - q) 0 (Weak.to [4, 5, 6, 7, 8, 19, 20, 21, 22, 23, 24, 25] [] (by decide) (by decide) (by simp [hp]) (by simp) (by simp)) (by simp) fun q hi12 => ?_
      refine LWp.seq ?_
      refine LWp.seq ?_
      refine LWp.rz hT hW ?_
      simp [hn3]
      refine LWp.iff ?_
      simp
      refine ⟨fun h12 => ?_, fun h12 => ?_⟩
      · refine LWp.skip ?_
        simp
        refine LWp.seq ?_
        refine LWp.block ?_
        refine LWp.seq ?_
        have hj : j < ss.length := by rw [hs2]; omega
        have hq : q < ns.length := by rw [hn3]; omega
        have hqb : q < bs.length := by rw [hbl]; omega
        obtain ⟨s, hs⟩ : ∃ s, s = ss[j] := ⟨_, rfl⟩
        obtain ⟨y, hy⟩ : ∃ y, y = ns[q] := ⟨_, rfl⟩
        obtain ⟨D, hD⟩ : ∃ D, D = bs[q] := ⟨_, rfl⟩
        have hDl : D.length ≤ 1000 := hbb _ (hD ▸ List.getElem_mem hqb)
        have hsl : s.length ≤ 140 ∧ ((validV Y).2 = 0 → s.Nodup) := hsn _ (hs ▸ List.getElem_mem hj)
        have r1 := PRevert_ok D Y s c y y1 hDl (by omega) (fun hv => Nat.le_trans (touching_live hv (hsl.2 hv) _) (by omega))
        have r2 := RRevert_ok D Y s c y y1 y2 hDl (by omega)
        obtain ⟨v, hv⟩ : ∃ v, v = revertV D Y s c y := ⟨_, rfl⟩
        rw [← hv] at r1 r2
        refine LWp.regAny hT hW hMixed (lk [[],[],[0,1],[0,1,2],[],[],[4,5],[4,5,6],[],[],[8,9],[8,9,10],[],[],[12,13],[12,13,14],[],[12,13,14,15,16],[],[],[18,19],[18,19,20],[0,1,2,3,4,5,6,7,8,9,10,11,12,13,14,15,16,17,18,19,20,21],[0,1,2,3,4,5,6,7,8,9,10,11,12,13,14,15,16,17,18,19,20,21,22],[0,1,2,3,4,5,6,7,8,9,10,11,12,13,14,15,16,17,18,19,20,21,22,23],[0,1,2,3,4,5,6,7,8,9,10,11,12,13,14,15,16,17,18,19,20,21,22,23],[],[0,1,2,3,4,5,6,7,8,9,10,11,12,13,14,15,16,17,18,19,20,21,22,23,24,26],[0,1,2,3,4,5,6,7,8,9,10,11,12,13,14,15,16,17,18,19,20,21,22,23,24,25,26,27]]) (lk [[122,26],[122,26],[122,26],[122,26],[122,26],[122,26],[122,26],[122,26],[122,26],[122,26],[122,26],[122,26],[26],[26],[26],[26],[26],[26],[122,26],[122,26],[122,26],[122,26],[26],[26],[26],[26],[122,127],[],[]]) (lk [[],[],[],[],[],[],[],[],[],[],[],[],[],[],[],[],[],[122],[],[],[],[],[127],[],[],[],[26],[26],[]]) (by kernel_rfl) (fun | 122 => some <| .plain ⟨.d c.d, true⟩ | 127 => some <| .plain ⟨.tup [.d v.1.d, .d (I64 v.2)], false⟩ | _ => none) (by intro d; first | exact ⟨rfl, fun _ h => h⟩ | (split <;> exact ⟨rfl, fun _ h => h⟩)) ?_
        simp [evalExtract, h4, hj, hq, hqb, ← hY, ← hs, ← hy, ← hD]
        refine ⟨⟨by simpa using c5, by simpa using r1⟩, ?_⟩
        refine LWp.seq ?_
        refine LWp.regAny hT hW hMixed (lk [[],[],[0,1],[0,1,2],[],[],[4,5],[4,5,6],[],[],[8,9],[8,9,10],[],[],[12,13],[12,13,14],[],[12,13,14,15,16],[],[],[18,19],[18,19,20],[0,1,2,3,4,5,6,7,8,9,10,11,12,13,14,15,16,17,18,19,20,21],[0,1,2,3,4,5,6,7,8,9,10,11,12,13,14,15,16,17,18,19,20,21,22],[0,1,2,3,4,5,6,7,8,9,10,11,12,13,14,15,16,17,18,19,20,21,22,23],[0,1,2,3,4,5,6,7,8,9,10,11,12,13,14,15,16,17,18,19,20,21,22,23],[],[0,1,2,3,4,5,6,7,8,9,10,11,12,13,14,15,16,17,18,19,20,21,22,23,24,26],[0,1,2,3,4,5,6,7,8,9,10,11,12,13,14,15,16,17,18,19,20,21,22,23,24,25,26,27]]) (lk [[148,28],[148,28],[148,28],[148,28],[148,28],[148,28],[148,28],[148,28],[148,28],[148,28],[148,28],[148,28],[28],[28],[28],[28],[28],[28],[148,28],[148,28],[148,28],[148,28],[28],[28],[28],[28],[148,153],[],[]]) (lk [[],[],[],[],[],[],[],[],[],[],[],[],[],[],[],[],[],[148],[],[],[],[],[153],[],[],[],[28],[28],[]]) (by kernel_rfl) (fun | 148 => some <| .plain ⟨.d c.d, true⟩ | 153 => some <| .plain ⟨.tup [.d v.1.d, .d (I64 v.2)], false⟩ | _ => none) (by intro d; first | exact ⟨rfl, fun _ h => h⟩ | (split <;> exact ⟨rfl, fun _ h => h⟩)) ?_
        simp [evalExtract, h4, hj, hq, hqb, ← hY, ← hs, ← hy, ← hD]
        refine ⟨⟨by simpa using c5, by simpa using r2⟩, ?_⟩
        refine LWp.seq ?_
        refine LWp.ro hT hW (fun | 162 => some <| .plain ⟨.d (.bool true), true⟩ | _ => none) ?_
        simp
        refine ⟨by simpa using ex_same v.1 _ rfl, ?_⟩
        refine LWp.iff ?_
        simp
        refine LWp.skip ?_
        simp
        refine LWp.rz hT hW ?_
        simp
        refine ⟨by omega, ?_⟩
        refine loopQ.mk (q + 1) (Weak.to [4, 5, 6, 7, 8, 19, 20, 21, 22, 23, 24, 25] [] (by decide) (by decide) (by simp [hp]) (by simp) (by simp)) ?_ ?_
        · omega
        · omega
      · refine LWp.exit ?_
        simp
        refine LWp.rz hT hW ?_
        simp
        refine ⟨by omega, ?_⟩
        refine loopQ.mk (j + 1) (Weak.to [4, 5, 6, 7, 8, 19, 20, 21, 22, 23, 24] [] (by decide) (by decide) (by simp [hp]) (by simp) (by simp)) ?_ ?_
        · omega
        · omega
    · refine LWp.exit ?_
      simp
      refine LWp.seq ?_
      refine LWp.rz hT hW ?_
      simp [(show [0, 1, 2] = List.range 3 from rfl)]
      refine LWp.weak (Weak.close 30 (x := dfsD some3) (by simp [some3])) ?_
      refine LWp.seq ?_
      refine LWp.rz hT hW ?_
      simp
      refine LWp.block ?_
      refine LWp.loopW (ι := Nat) (fun q => mkEnv [(4, .d (I64 bits)), (5, .d (I64 n)), (6, .d (I64 m)), (7, .d (dfsD puts)), (8, .d (strsD drops)), (19, .d (.sl (A.map edsD))), (20, .d (.sl (bs.map dfsD))), (21, .d (I64 i)), (23, .d (nmsD ns)), (30, .d (dfsD some3)), (31, .d (I64 q))]) (fun q => mkObs []) (fun q => q ≤ 3) (fun q => 3 - q) 0 (Weak.to [4, 5, 6, 7, 8, 19, 20, 21, 23, 30, 31] [] (by decide) (by decide) (by simp [hp]) (by simp) (by simp)) (by simp) fun q hi20 => ?_
      refine LWp.seq ?_
      refine LWp.seq ?_
      refine LWp.rz hT hW ?_
      simp [hn3]
      refine LWp.iff ?_
      simp
      refine ⟨fun h20 => ?_, fun h20 => ?_⟩
      · refine LWp.skip ?_
        simp
        refine LWp.seq ?_
        refine LWp.block ?_
        refine LWp.seq ?_
        have hq : q < ns.length := by rw [hn3]; omega
        obtain ⟨y, hy⟩ : ∃ y, y = ns[q] := ⟨_, rfl⟩
        have r1 := PResolve_ok Y c a some3 [[100]] y y1 (by decide) (by decide)
        have r2 := RResolve_ok Y c a some3 [[100]] y y1 y2 (by decide) (by decide)
        have r3 := PResolve_ok Y c a puts drops y y1 hpl hdl
        have r4 := RResolve_ok Y c a puts drops y y1 y2 hpl hdl
        obtain ⟨v, hv⟩ : ∃ v, v = resolveV Y c a some3 [[100]] y := ⟨_, rfl⟩
        obtain ⟨u, hu⟩ : ∃ u, u = resolveV Y c a puts drops y := ⟨_, rfl⟩
        rw [← hv] at r1 r2
        rw [← hu] at r3 r4
        refine LWp.regAny hT hW hMixed (lk [[],[],[0,1],[0,1,2],[],[],[4,5],[4,5,6],[],[4,5,6,7,8],[],[],[10,11],[10,11,12],[],[4,5,6,7,8,9,10,11,12,13,14],[],[],[],[],[18,19],[18,19,20],[0,1,2,3,4,5,6,7,8,9,10,11,12,13,14,15,16,17,18,19,20,21],[0,1,2,3,4,5,6,7,8,9,10,11,12,13,14,15,16,17,18,19,20,21,22],[0,1,2,3,4,5,6,7,8,9,10,11,12,13,14,15,16,17,18,19,20,21,22,23],[0,1,2,3,4,5,6,7,8,9,10,11,12,13,14,15,16,17,18,19,20,21,22,23],[],[0,1,2,3,4,5,6,7,8,9,10,11,12,13,14,15,16,17,18,19,20,21,22,23,24,26],[0,1,2,3,4,5,6,7,8,9,10,11,12,13,14,15,16,17,18,19,20,21,22,23,24,25,26,27]]) (lk [[32,185,191,193],[32,185,191,193],[32,185,191,193],[32,185,191,193],[32,193],[32,193],[32,193],[32,193],[32,193],[32,193],[32,185,193],[32,185,193],[32,185,193],[32,185,193],[32,185,193],[32,193],[32,185,191,193],[32,185,191],[32,185,191,193],[32,185,191,193],[32,185,191,193],[32,185,191,193],[32],[32],[32],[32],[185,191,193,198],[],[]]) (lk [[],[],[],[],[],[],[],[],[],[185],[],[],[],[],[],[191],[],[193],[],[],[],[],[198,193],[],[],[],[32],[32],[]]) (by kernel_rfl) (fun | 185 => some <| .plain ⟨.d c.d, true⟩ | 191 => some <| .plain ⟨.d a.d, true⟩ | 198 => some <| .plain ⟨.tup [.d v.1.d, .d (I64 v.2)], false⟩ | _ => none) (by intro d; first | exact ⟨rfl, fun _ h => h⟩ | (split <;> exact ⟨rfl, fun _ h => h⟩)) ?_
        simp [evalExtract, h4, hq, ← hY, ← hy]
        refine ⟨⟨⟨by simpa using c5, by simpa using c4⟩, by simpa using r1⟩, ?_⟩
        refine LWp.seq ?_
        refine LWp.regAny hT hW hMixed (lk [[],[],[0,1],[0,1,2],[],[],[4,5],[4,5,6],[],[4,5,6,7,8],[],[],[10,11],[10,11,12],[],[4,5,6,7,8,9,10,11,12,13,14],[],[],[],[],[18,19],[18,19,20],[0,1,2,3,4,5,6,7,8,9,10,11,12,13,14,15,16,17,18,19,20,21],[0,1,2,3,4,5,6,7,8,9,10,11,12,13,14,15,16,17,18,19,20,21,22],[0,1,2,3,4,5,6,7,8,9,10,11,12,13,14,15,16,17,18,19,20,21,22,23],[0,1,2,3,4,5,6,7,8,9,10,11,12,13,14,15,16,17,18,19,20,21,22,23],[],[0,1,2,3,4,5,6,7,8,9,10,11,12,13,14,15,16,17,18,19,20,21,22,23,24,26],[0,1,2,3,4,5,6,7,8,9,10,11,12,13,14,15,16,17,18,19,20,21,22,23,24,25,26,27]]) (lk [[34,211,217,219],[34,211,217,219],[34,211,217,219],[34,211,217,219],[34,219],[34,219],[34,219],[34,219],[34,219],[34,219],[34,211,219],[34,211,219],[34,211,219],[34,211,219],[34,211,219],[34,219],[34,211,217,219],[34,211,217],[34,211,217,219],[34,211,217,219],[34,211,217,219],[34,211,217,219],[34],[34],[34],[34],[211,217,219,224],[],[]]) (lk [[],[],[],[],[],[],[],[],[],[211],[],[],[],[],[],[217],[],[219],[],[],[],[],[224,219],[],[],[],[34],[34],[]]) (by kernel_rfl) (fun | 211 => some <| .plain ⟨.d c.d, true⟩ | 217 => some <| .plain ⟨.d a.d, true⟩ | 224 => some <| .plain ⟨.tup [.d v.1.d, .d (I64 v.2)], false⟩ | _ => none) (by intro d; first | exact ⟨rfl, fun _ h => h⟩ | (split <;> exact ⟨rfl, fun _ h => h⟩)) ?_
        simp [evalExtract, h4, hq, ← hY, ← hy]
        refine ⟨⟨⟨by simpa using c5, by simpa using c4⟩, by simpa using r2⟩, ?_⟩
        refine LWp.seq ?_
        refine LWp.regAny hT hW hMixed (lk [[],[],[0,1],[0,1,2],[],[],[4,5],[4,5,6],[],[4,5,6,7,8],[],[],[10,11],[10,11,12],[],[4,5,6,7,8,9,10,11,12,13,14],[],[],[],[],[18,19],[18,19,20],[0,1,2,3,4,5,6,7,8,9,10,11,12,13,14,15,16,17,18,19,20,21],[0,1,2,3,4,5,6,7,8,9,10,11,12,13,14,15,16,17,18,19,20,21,22],[0,1,2,3,4,5,6,7,8,9,10,11,12,13,14,15,16,17,18,19,20,21,22,23],[0,1,2,3,4,5,6,7,8,9,10,11,12,13,14,15,16,17,18,19,20,21,22,23],[],[0,1,2,3,4,5,6,7,8,9,10,11,12,13,14,15,16,17,18,19,20,21,22,23,24,26],[0,1,2,3,4,5,6,7,8,9,10,11,12,13,14,15,16,17,18,19,20,21,22,23,24,25,26,27]]) (lk [[237,243,36],[237,243,36],[237,243,36],[237,243,36],[36],[36],[36],[36],[36],[36],[237,36],[237,36],[237,36],[237,36],[237,36],[36],[237,243,36],[237,243,36],[237,243,36],[237,243,36],[237,243,36],[237,243,36],[36],[36],[36],[36],[237,243,250],[],[]]) (lk [[],[],[],[],[],[],[],[],[],[237],[],[],[],[],[],[243],[],[],[],[],[],[],[250],[],[],[],[36],[36],[]]) (by kernel_rfl) (fun | 237 => some <| .plain ⟨.d c.d, true⟩ | 243 => some <| .plain ⟨.d a.d, true⟩ | 250 => some <| .plain ⟨.tup [.d u.1.d, .d (I64 u.2)], false⟩ | _ => none) (by intro d; first | exact ⟨rfl, fun _ h => h⟩ | (split <;> exact ⟨rfl, fun _ h => h⟩)) ?_
        simp [evalExtract, h4, hq, ← hY, ← hy]
        refine ⟨⟨⟨by simpa using c5, by simpa using c4⟩, by simpa using r3⟩, ?_⟩
        refine LWp.seq ?_
        refine LWp.regAny hT hW hMixed (lk [[],[],[0,1],[0,1,2],[],[],[4,5],[4,5,6],[],[4,5,6,7,8],[],[],[10,11],[10,11,12],[],[4,5,6,7,8,9,10,11,12,13,14],[],[],[],[],[18,19],[18,19,20],[0,1,2,3,4,5,6,7,8,9,10,11,12,13,14,15,16,17,18,19,20,21],[0,1,2,3,4,5,6,7,8,9,10,11,12,13,14,15,16,17,18,19,20,21,22],[0,1,2,3,4,5,6,7,8,9,10,11,12,13,14,15,16,17,18,19,20,21,22,23],[0,1,2,3,4,5,6,7,8,9,10,11,12,13,14,15,16,17,18,19,20,21,22,23],[],[0,1,2,3,4,5,6,7,8,9,10,11,12,13,14,15,16,17,18,19,20,21,22,23,24,26],[0,1,2,3,4,5,6,7,8,9,10,11,12,13,14,15,16,17,18,19,20,21,22,23,24,25,26,27]]) (lk [[263,269,38],[263,269,38],[263,269,38],[263,269,38],[38],[38],[38],[38],[38],[38],[263,38],[263,38],[263,38],[263,38],[263,38],[38],[263,269,38],[263,269,38],[263,269,38],[263,269,38],[263,269,38],[263,269,38],[38],[38],[38],[38],[263,269,276],[],[]]) (lk [[],[],[],[],[],[],[],[],[],[263],[],[],[],[],[],[269],[],[],[],[],[],[],[276],[],[],[],[38],[38],[]]) (by kernel_rfl) (fun | 263 => some <| .plain ⟨.d c.d, true⟩ | 269 => some <| .plain ⟨.d a.d, true⟩ | 276 => some <| .plain ⟨.tup [.d u.1.d, .d (I64 u.2)], false⟩ | _ => none) (by intro d; first | exact ⟨rfl, fun _ h => h⟩ | (split <;> exact ⟨rfl, fun _ h => h⟩)) ?_
        simp [evalExtract, h4, hq, ← hY, ← hy]
        refine ⟨⟨⟨by simpa using c5, by simpa using c4⟩, by simpa using r4⟩, ?_⟩
        refine LWp.seq ?_
        refine LWp.ro hT hW (fun | 290 => some <| .plain ⟨.d (.bool true), true⟩ | 296 => some <| .plain ⟨.d (.bool true), true⟩ | _ => none) ?_
        simp
        refine ⟨⟨by simpa using ex_same v.1 _ rfl, by simpa using ex_same u.1 _ rfl⟩, ?_⟩
        refine LWp.iff ?_
        simp
        refine LWp.skip ?_
        simp
        refine LWp.rz hT hW ?_
        simp
        refine ⟨by omega, ?_⟩
        refine loopQ.mk (q + 1) (Weak.to [4, 5, 6, 7, 8, 19, 20, 21, 23, 30, 31] [] (by decide) (by decide) (by simp [hp]) (by simp) (by simp)) ?_ ?_
        · omega
        · omega
      · refine LWp.exit ?_
        simp
        refine LWp.rz hT hW ?_
        simp
        refine ⟨by omega, ?_⟩
        refine loopQ.mk (i + 1) (Weak.to [4, 5, 6, 7, 8, 19, 20, 21] [] (by decide) (by decide) (by simp [hp]) (by simp) (by simp)) ?_ ?_
        · omega
        · omega
  · refine LWp.exit ?_
    simp
    refine LWp.seq ?_
    refine LWp.ro hT hW (fun | 299 => some <| .plain ⟨.d (.bool true), true⟩ | _ => none) ?_
    simp
    refine ⟨lives3_ok, ?_⟩
    refine LWp.ret ?_
    simp
end
end Go.Eng
namespace Go.Eng
open Go.Proofs Go Go.ChangeShapes Go.Deep
theorem chunk_get {β : Type} {g : Nat → List β} {s : Nat} (hs : 0 < s) : ∀ {len : Nat}, (∀ i, i < len → (g i).length = s) → ∀ j, ((List.range len).flatMap g)[j]? = if j < len * s then (g (j / s))[j % s]? else none
  | 0, _, j => by simp
  | len + 1, hg, j => by
    have ih := chunk_get hs (len := len) (g := g) (fun i hi => hg i (by omega))
    have hl : ((List.range len).flatMap g).length = len * s := by
      have : ∀ n, n ≤ len → ((List.range n).flatMap g).length = n * s := by
        intro n
        induction n with
        | zero => intro _; simp
        | succ n ihn =>
          intro hn
          rw [List.range_succ, List.flatMap_append, List.length_append, ihn (by omega)]
          simp only [List.flatMap_cons, List.flatMap_nil, List.append_nil]
          rw [hg n (by omega), Nat.add_mul]; omega
      exact this len (Nat.le_refl _)
    have e : (len + 1) * s = len * s + s := by rw [Nat.add_mul]; omega
    rw [List.range_succ, List.flatMap_append, List.getElem?_append, hl, ih]
    simp only [List.flatMap_cons, List.flatMap_nil, List.append_nil]
    by_cases h1 : j < len * s
    · rw [if_pos h1, if_pos h1, if_pos (by omega)]
    · rw [if_neg h1]
      by_cases h2 : j < (len + 1) * s
      · rw [if_pos h2]
        have hd : j / s = len := by
          have : j = (j - len * s) + len * s := by omega
          rw [this, Nat.add_mul_div_right _ _ hs, Nat.div_eq_of_lt (by omega)]; omega
        have hm : j % s = j - len * s := by
          have : j = (j - len * s) + len * s := by omega
          rw [this, Nat.add_mul_mod_self_right, Nat.mod_eq_of_lt (by omega)]; omega
        rw [hd, hm]
      · rw [if_neg h2, List.getElem?_eq_none]
        rw [hg len (by omega)]; omega
def RC (w : World) (ds : List DV) (cs : List Value) : Prop := cs.length = ds.length ∧ ∀ (i : Nat) (d : DV) (v : Value), ds[i]? = some d → cs[i]? = some v → RD w (fun _ => False) d v ∧ v.oneCell' = true
theorem RC.nil {w : World} : RC w [] [] := ⟨rfl, fun i d v h => by simp at h⟩
theorem RC.cons {w : World} {d : DV} {v : Value} {ds : List DV} {cs : List Value} (h : RD w (fun _ => False) d v) (h1 : v.oneCell' = true) (hs : RC w ds cs) : RC w (d :: ds) (v :: cs) :=
  ⟨by simp [hs.1], fun i c u hc hu => by
    cases i with
    | zero => simp at hc hu; subst hc; subst hu; exact ⟨h, h1⟩
    | succ i => exact hs.2 i c u (by simpa using hc) (by simpa using hu)⟩
theorem RC.agg {w : World} {ds : List DV} {cs : List Value} (h : RC w ds cs) : RD w (fun _ => False) (.agg ds) (.agg cs.toArray) :=
  .agg ds cs h.1 (fun u hu => by
    obtain ⟨i, hi, rfl⟩ := List.getElem_of_mem hu
    have hi' : i < ds.length := by have := h.1; omega
    exact (h.2 i ds[i] cs[i] (by simp [hi']) (by simp [hi])).2) fun i c v hc hv => (h.2 i c v hc hv).1
theorem str_rd {w : World} (s : ByteArray) : RD w (fun _ => False) (.str s.data.toList) (.string s) := RD.str s.data.toList
section
variable {H : Type} {enc : TypeId × Value → H} {w : World} {sp : Nat → Bool} {hd : Bool}
def LenIs (d : DataW H) (n : Nat) : Prop := (d = .nil ∧ n = 0) ∨ ∃ el sp, d = .slice el sp ∧ el.length = n
theorem trod_sl {α : Type} [Inhabited α] (f : α → DV) (s : Nat) (hs : ∀ a, (cellsD (f a)).length = s) (h0 : 0 < s) {t e : TypeId} (ht : Tryz.prog.underlying t = some (.slice e)) (hc : Tryz.prog.cellsOf e = s)
    (el : ∀ {n : Nat} {cs : List Value} {x : DataW H × List MemPlace}, DataW.trod enc Tryz.prog w 0 sp hd n e cs = some x → ∃ a, RC w (cellsD (f a)) cs)
    {fuel : Nat} {cs : List Value} {x : DataW H × List MemPlace} (h : DataW.trod enc Tryz.prog w 0 sp hd fuel t cs = some x) :
    ∃ (l : List α) (v : Value), cs = [v] ∧ RD w (fun _ => False) (.sl (l.map f)) v ∧ v.oneCell' = true ∧ LenIs x.1 l.length := by
  rcases open_slice ht h with ⟨rfl, rfl⟩ | ⟨a, len, cap, m, n, D, Pl, rfl, hb, hl, hm, hmm, rfl, hx⟩
  · exact ⟨[], _, rfl, .sl0 none 0 (Nat.zero_le _), rfl, .inl ⟨rfl, rfl⟩⟩
  · have hlm : len ≤ m := by rw [hmm]; split <;> omega
    have each : ∀ i, i < len → ∃ y : α × List Value, w.cells? 0 (a.add (i * s)) s = some y.2 ∧ RC w (cellsD (f y.1)) y.2 := fun i hi => by
      obtain ⟨cs', h1, h2⟩ := hx i (by omega)
      rw [hc] at h1
      obtain ⟨b, hb⟩ := el h2
      exact ⟨(b, cs'), h1, hb⟩
    obtain ⟨g, hg⟩ := choose_lt each
    refine ⟨(List.range len).map fun i => (g i).1, _, rfl, ?_, rfl, .inr ⟨_, _, rfl, by simp⟩⟩
    by_cases hz : len = 0
    · subst hz
      exact .sl0 _ cap hm
    · have hcell : ∀ i, i < len → ∀ r, r < s → w.cell? ((a.add (i * s)).add r) = (g i).2[r]? := fun i hi r hr => (World.cells?_some (hg i hi).1).2.2 r hr
      have hlen2 : ∀ i, i < len → (g i).2.length = s := fun i hi => (World.cells?_some (hg i hi).1).2.1
      obtain ⟨b, o, spot⟩ := a
      have hfirst := hcell 0 (by omega) 0 h0
      have hspot : spot = none := by
        have h2 := hlen2 0 (by omega)
        have : ((g 0).2[0]?).isSome = true := by simp; omega
        obtain ⟨u, hu⟩ := Option.isSome_iff_exists.1 this
        rw [hu] at hfirst
        simpa [Addr.add] using World.cell?_spot hfirst
      subst hspot
      have hflat : flatD (((List.range len).map fun i => (g i).1).map f) = (List.range len).flatMap fun i => cellsD (f (g i).1) := by
        unfold flatD
        rw [List.map_map, List.flatMap_map]; rfl
      have gd := chunk_get (g := fun i => cellsD (f (g i).1)) h0 (len := len) (fun i _ => hs _)
      have gv := chunk_get (g := fun i => (g i).2) h0 (len := len) hlen2
      have hpos : ∀ j, j < len * s → j / s < len ∧ j % s < s ∧ j / s * s + j % s = j := fun j hj => ⟨(Nat.div_lt_iff_lt_mul h0).2 hj, Nat.mod_lt _ h0, by rw [Nat.mul_comm]; exact Nat.div_add_mod j s⟩
      have hul : ((List.range len).flatMap fun i => (g i).2).length = len * s := by
        have h1 : ∀ j, j < len * s → j < ((List.range len).flatMap fun i => (g i).2).length := fun j hj => by
          have h := gv j
          rw [if_pos hj] at h
          obtain ⟨p1, p2, p3⟩ := hpos j hj
          have h2 : ((g (j / s)).2[j % s]?).isSome = true := by simp; rw [hlen2 _ p1]; exact p2
          rw [← h] at h2
          simpa using h2
        have h3 := gv (len * s)
        rw [if_neg (by omega)] at h3
        have h4 := List.getElem?_eq_none_iff.1 h3
        by_cases q : len * s = 0
        · omega
        · have := h1 (len * s - 1) (by omega); omega
      have hfin := RD.sl (w := w) (E := fun _ => False) (((List.range len).map fun i => (g i).1).map f) b o cap s ((List.range len).flatMap fun i => (g i).2)
        (fun q => hz (by have := congrArg List.length q; simpa using this)) (fun q => q) (fun x hx => by obtain ⟨y, _, rfl⟩ := List.mem_map.1 hx; exact hs y) (by simpa using hl) hm (by rw [hul]; simp)
        (fun u hu => by
          obtain ⟨j, hj, rfl⟩ := List.getElem_of_mem hu
          have hj' : j < len * s := by omega
          have h := gv j
          rw [if_pos hj', List.getElem?_eq_getElem hj] at h
          obtain ⟨p1, p2, _⟩ := hpos j hj'
          exact ((hg _ p1).2.2 (j % s) ((cellsD (f (g (j / s)).1))[j % s]'(by rw [hs]; exact p2)) _ (by simp [hs, p2]) h.symm).2)
        (by have := World.cells?_block (hg 0 (by omega)).1 h0; simpa [Addr.add] using this)
        (fun j u hj => by
          rw [gv] at hj
          split at hj
          · rename_i hj'
            obtain ⟨p1, p2, p3⟩ := hpos j hj'
            rw [← hcell _ p1 _ p2, Addr.add_lit, Addr.add_lit, Nat.add_assoc, p3] at hj
            exact hj
          · cases hj)
        (fun i d v hd hv => by
          rw [hflat, gd] at hd
          rw [gv] at hv
          split at hd
          · rename_i hj'
            rw [if_pos hj'] at hv
            obtain ⟨p1, p2, _⟩ := hpos i hj'
            exact ((hg _ p1).2.2 _ d v hd hv).1
          · cases hd)
      simpa using hfin
theorem trod_str {fuel : Nat} {cs : List Value} {x : DataW H × List MemPlace} (h : DataW.trod enc Tryz.prog w 0 sp hd fuel 9 cs = some x) : ∃ s : Str, RC w [.str s] cs := by
  obtain ⟨s, h1, _, _⟩ := DataW.trod_string Tryz.underlying9 h
  exact ⟨s.data.toList, by rw [h1]; exact RC.cons (str_rd s) rfl RC.nil⟩
theorem c3 : Tryz.prog.cellsOf 3 = 1 := by kernel_rfl
theorem c9 : Tryz.prog.cellsOf 9 = 1 := by kernel_rfl
theorem c47 : Tryz.prog.cellsOf 47 = 2 := by kernel_rfl
theorem trod_df {fuel : Nat} {cs : List Value} {x : DataW H × List MemPlace} (h : DataW.trod enc Tryz.prog w 0 sp hd fuel 47 cs = some x) : ∃ d : Df, RC w (cellsD d.d) cs := by
  obtain ⟨y0, y1, n, _, hl, h0, h1⟩ := trod_struct2 Tryz.underlying47 h
  rw [c47] at hl
  simp only [c9] at h0 h1
  obtain ⟨a, e0, _, _⟩ := DataW.trod_string Tryz.underlying9 h0
  obtain ⟨b, e1, _, _⟩ := DataW.trod_string Tryz.underlying9 h1
  have e : cs = [.string a, .string b] := by
    rcases cs with _ | ⟨c, _ | ⟨d, _ | ⟨_, _⟩⟩⟩ <;> simp_all
  rw [e]
  exact ⟨⟨a.data.toList, b.data.toList⟩, RC.cons (str_rd a) rfl (RC.cons (str_rd b) rfl RC.nil)⟩
theorem trod_dfs {fuel : Nat} {cs : List Value} {x : DataW H × List MemPlace} (h : DataW.trod enc Tryz.prog w 0 sp hd fuel 26 cs = some x) :
    ∃ (l : List Df) (v : Value), cs = [v] ∧ RD w (fun _ => False) (dfsD l) v ∧ v.oneCell' = true ∧ LenIs x.1 l.length := trod_sl Df.d 2 (fun _ => rfl) (by omega) Tryz.underlying26 c47 trod_df h
theorem trod_strs {fuel : Nat} {cs : List Value} {x : DataW H × List MemPlace} (h : DataW.trod enc Tryz.prog w 0 sp hd fuel 27 cs = some x) :
    ∃ (l : List Str) (v : Value), cs = [v] ∧ RD w (fun _ => False) (strsD l) v ∧ v.oneCell' = true ∧ LenIs x.1 l.length := trod_sl DV.str 1 (fun _ => rfl) (by omega) Tryz.underlying27 c9 trod_str h
end
end Go.Eng
