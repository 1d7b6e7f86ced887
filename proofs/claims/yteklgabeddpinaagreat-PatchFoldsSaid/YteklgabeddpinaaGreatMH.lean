/-
  Texts of the proofs of this seat, part 8. No condition.
-/
import Derived.Test.YteklgabeddpinaaGreatMG
set_option linter.unusedVariables false
set_option linter.unusedSimpArgs false
namespace Go.Eng
open Go.Proofs
attribute [local simp] runL stepL evalG evalOp opLV constLV putEnv dstOk upd upds Res.plain Res.cond Res.fail evalBin evalUn seqQ blockQ argsEnv lookL lookH RetIs memless freshL evalPick evalMin bval bok evalLen evalIn strip whenC guardOps guardC slotsOf
  runM foldS stepI stepM maskE wrIn lk renO lookN evalCall evalCallee optAll resLV resObj retLV retObj retsLV retsObj evalLoad evalIndexAddr evalField solid cellsD_agg cellsD_int cellsD_bool cellsD_str cellsD_sl cellsD_ro cellsD_fn cellsL_agg cellsL_dagg cellsL_int cellsL_bool cellsL_str cellsL_sl cellsL_fn cellsL_ow cellsL_bx cellsL_lfn cellsL_nl takeL takeD mkAgg allD eqD eqDs kindsAre kindIs LObj.live TK.isNone TK.agg TK.isBool TK.isStr TK.isStruct Op.operands Call.operands
  evalBuildSlice evalAppend elemsOf evalStore evalBuild fillL lookupF putL evalSlice bound evalConv elemsS freezes frozen loadR
  mkEnv_at mkObs_at close_d close_agg close_ow close_bx close_fn close_nl touch_d touch_agg touch_ow touch_bx touch_fn touch_nl ren_d ren_agg ren_bx ren_rp ren_ow ren_fn ren_nl ren_junk retQ_ret retQ2_ret condQ_bool Nm.d Df.d Ed.d nmsD dfsD strsD edsD retC_ret nm_eq df_eq take_map_len take_map_app
  nm_t nm_d nm_td df_t df_d df_td str_t str_d str_td ed_t ed_d ed_td
  evalAppendIn evalCut evalClear evalCopy evalMake evalWrap evalCap evalNil isNilC lenL isInp gorc
  mapOf findD keyEq keyOk evalMakeMap evalRange zeroD zeroDV argsG shutG outN lenv retG0_ret retG0_normal retG1_ret renO close_mp touch_mp ren_mp optAll_d optAll_d' touch_ds cellsL_mp cellsD_mp cellsL_dmp
  evalMapSet evalPtr TK.isPtr evalToArr firstL retN_ret retsQ rvarL close_bm touch_bm ren_bm cellsD_bm cellsL_bm cellsL_lbm
attribute [local simp] cutQ_normal cutQ_ret cutQ_exit
set_option maxRecDepth 10000
set_option maxHeartbeats 1000000
attribute [local simp] dF1 dF2 dF3 dF4 dF5 prD
theorem dP1 : (default : Ed × Ed).1 = (default : Ed) := rfl
theorem dP2 : (default : Ed × Ed).2 = (default : Ed) := rfl
attribute [local simp] dP1 dP2
def edsP (p : Ed × Ed) : DV := .agg (cellsD p.1.d ++ cellsD p.2.d)
def nilE : List LV := [.d (I64 0), .d (I64 0), .nl, .nl, .nl]
def edE (e : Ed) : List LV := (cellsD e.d).map .d
def arrS (e : Ed) (first : List Str) (n m : Nm) : Nat → List LV
  | 0 => nilE ++ nilE
  | 1 => edE (splitE e first n true) ++ nilE
  | _ => edE (splitE e first n true) ++ edE (splitE e first m false)
theorem arrS0 (e : Ed) (first : List Str) (n m : Nm) : arrS e first n m 0 = [.d (I64 0), .d (I64 0), .nl, .nl, .nl, .d (I64 0), .d (I64 0), .nl, .nl, .nl] := rfl
theorem arrS1 (e : Ed) (first : List Str) (n m : Nm) : arrS e first n m 1 = [.d (I64 (splitE e first n true).name.who), .d (I64 (splitE e first n true).name.seq), .d (nmsD (splitE e first n true).needs), .d (dfsD (splitE e first n true).puts), .d (strsD (splitE e first n true).drops),
    .d (I64 0), .d (I64 0), .nl, .nl, .nl] := rfl
theorem arrS2 (e : Ed) (first : List Str) (n m : Nm) : arrS e first n m 2 = [.d (I64 (splitE e first n true).name.who), .d (I64 (splitE e first n true).name.seq), .d (nmsD (splitE e first n true).needs), .d (dfsD (splitE e first n true).puts), .d (strsD (splitE e first n true).drops),
    .d (I64 (splitE e first m false).name.who), .d (I64 (splitE e first m false).name.seq), .d (nmsD (splitE e first m false).needs), .d (dfsD (splitE e first m false).puts), .d (strsD (splitE e first m false).drops)] := rfl
attribute [local simp] arrS0 arrS1 arrS2
theorem touches_zero {e : Ed} : touches e = [] ↔ e.puts.length + e.drops.length = 0 := by
  unfold touches
  rw [List.append_eq_nil_iff, List.map_eq_nil_iff, ← List.length_eq_zero_iff, ← List.length_eq_zero_iff]
  omega
theorem cedit_split {e : Ed} {first : List Str} (n : Nm) (k : Int) (b : Bool) (hb : decide (k = 0) = b) (hpe : properE e = true) (hs : e.small) (hn : e.needs.length ≤ 1000000) :
    Ok Tryz.prog 66 [.mp (ck (applyC [] e)) (cv (applyC [] e)), n.d, nmsD e.needs, .fn 84 [.ro [strsD first], .ro [I64 k]]] ⟨.d (splitE e first n b).d, false⟩ := by
  rw [← split_editC hpe, ← hb]
  exact cedit_ok _ n e.needs (fun s => decide (s ∈ first) == decide (k = 0)) _ _ (fun s => Split1_ok first k s) (applyC_nodup e) (by have := applyC_len [] e; have := hs.1; have := hs.2; simp at *; omega) hn
theorem PSplit_ok (e : Ed) (first : List Str) (n m : Nm) (hs : e.small) (hnl : e.needs.length ≤ 1000000) : Ok Tryz.prog 27 [e.d, strsD first, prD (n, m)] ⟨.tup [.d (edsP (splitV e first n m).1), .d (I64 (splitV e first n m).2)], false⟩ := by
  refine Ok.many hT Tryz.func27 (by kernel_rfl) (c := _) rfl Tryz.ntmps27 (by simp) Tryz.results27 (by simp) (by rfl) fun w0 X hp => ?_
  refine LWp.len (t := 1) (xs := first.map .str) (by simp) fun hlen => ?_
  simp at hlen
  refine LWp.seq ?_
  refine LWp.reg hT hW (fun _ => none) (fun _ => ⟨rfl, fun _ h => h⟩) ?_
  simp
  refine LWp.seq ?_
  refine LWp.reg hT hW (fun _ => none) (fun _ => ⟨rfl, fun _ h => h⟩) ?_
  simp
  refine LWp.seq ?_
  refine LWp.seq ?_
  refine LWp.reg hT hW (fun | 15 => some <| .plain ⟨.d (I64 (aloneV e)), true⟩ | 20 => some <| .plain ⟨.d (.bool n.isName), true⟩ | 26 => some <| .plain ⟨.d (.bool m.isName), true⟩ | _ => none) (by intro d; first | exact ⟨rfl, fun _ h => h⟩ | (split <;> exact ⟨rfl, fun _ h => h⟩)) ?_
  simp
  refine ⟨⟨⟨alone_ok e hs, by intros; exact ppossible_ok n⟩, by intros; exact ppossible_ok m⟩, ?_⟩
  refine LWp.iff ?_
  simp
  refine ⟨fun h2 => ?_, fun h2 p2 q2 => ?_⟩
  · refine LWp.seq ?_
    refine LWp.reg hT hW (fun _ => none) (fun _ => ⟨rfl, fun _ h => h⟩) ?_
    simp
    refine LWp.ret ?_
    have e1 : splitV e first n m = (default, 1) := by
      unfold splitV
      rw [if_pos]
      rcases h2 with (h | h) | h
      · exact .inl (by simpa [alone_zero] using h)
      · exact .inr (.inl h)
      · exact .inr (.inr h)
    simp [e1, edsP]
  · refine LWp.skip ?_
    simp
    refine LWp.seq ?_
    refine LWp.seq ?_
    refine LWp.reg hT hW (fun | 40 => some <| .plain ⟨.d (.bool (decide (n ∈ e.needs))), true⟩ | 47 => some <| .plain ⟨.d (.bool (decide (m ∈ e.needs))), true⟩ | _ => none) (by intro d; first | exact ⟨rfl, fun _ h => h⟩ | (split <;> exact ⟨rfl, fun _ h => h⟩)) ?_
    simp
    refine ⟨⟨by intros; exact nsHas_ok _ _, by intros; exact nsHas_ok _ _⟩, ?_⟩
    refine LWp.iff ?_
    simp
    refine ⟨fun h4 => ?_, fun h4 p4 q4 => ?_⟩
    · refine LWp.seq ?_
      refine LWp.reg hT hW (fun _ => none) (fun _ => ⟨rfl, fun _ h => h⟩) ?_
      simp
      refine LWp.ret ?_
      have e1 : splitV e first n m = (default, 7) := by
        unfold splitV
        rw [if_neg (by simp [alone_zero.1 h2, p2, q2]), if_pos]
        rcases h4 with (h | h) | h
        · exact .inl h
        · exact .inr (.inl h)
        · exact .inr (.inr h)
      simp [e1, edsP]
    · refine LWp.skip ?_
      simp
      refine LWp.seq ?_
      have hpe : properE e = true := alone_zero.1 h2
      have hgo : splitV e first n m = if first.any (fun s => decide (s ∉ touches e)) = true then (default, 6) else if touches (splitE e first n true) = [] ∨ touches (splitE e first m false) = [] then (default, 15)
          else ((splitE e first n true, splitE e first m false), 0) := by
        unfold splitV
        rw [if_neg (by simp [hpe, p2, q2]), if_neg (by simp [h4, p4, q4])]
      refine LWp.reg hT hW (fun | 51 => some <| .plain ⟨.d (strsD (tchN e)), true⟩ | _ => none) (by intro d; first | exact ⟨rfl, fun _ h => h⟩ | (split <;> exact ⟨rfl, fun _ h => h⟩)) ?_
      simp
      refine ⟨PTouches_ok e hs, ?_⟩
      refine LWp.seq ?_
      refine LWp.seq ?_
      refine LWp.reg hT hW (fun _ => none) (fun _ => ⟨rfl, fun _ h => h⟩) ?_
      simp
      refine LWp.block ?_
      refine LWp.loopW (ι := Nat) (fun i => mkEnv [(3, .bx 3 0), (4, .bx 4 0), (5, .bx 5 0), (6, .bx 6 0), (7, .d (I64 0)), (8, .bx 8 0), (9, .d (strsD (tchN e))), (52, .d (strsD first)), (53, .d (I64 first.length)), (54, .d (I64 i))]) (fun i => mkObs [(3, .box false ((cellsD e.d).map .d)), (4, .box false [.d (strsD first)]), (5, .box false [.d (I64 n.who), .d (I64 n.seq), .d (I64 m.who), .d (I64 m.seq)]), (6, .box false (arrS e first n m 0)), (8, .box false (arrS e first n m 0))]) (fun i => i ≤ first.length ∧ Pre (fun s => !decide (s ∈ tchN e)) first i) (fun i => first.length - i) 0 (Weak.to [3, 4, 5, 6, 7, 8, 9, 52, 53, 54] [(3, 3), (4, 4), (5, 5), (6, 6), (8, 8)] (by decide) (by decide) (by simp [hp]) (by simp) (by simp)) (⟨Nat.zero_le _, Pre.zero⟩) fun i hi8 => ?_
      refine LWp.seq ?_
      refine LWp.reg hT hW (fun _ => none) (fun _ => ⟨rfl, fun _ h => h⟩) ?_
      simp
      refine LWp.seq ?_
      refine LWp.iff ?_
      simp
      refine ⟨fun h8 => ?_, fun h8 => ?_⟩
      · refine LWp.skip ?_
        simp
        refine LWp.seq ?_
        refine LWp.block ?_
        refine LWp.seq ?_
        refine LWp.reg hT hW (fun _ => none) (fun _ => ⟨rfl, fun _ h => h⟩) ?_
        simp [h8]
        refine LWp.seq ?_
        refine LWp.reg hT hW (fun | 60 => some <| .plain ⟨.d (.bool (decide (first[i] ∈ tchN e))), true⟩ | _ => none) (by intro d; first | exact ⟨rfl, fun _ h => h⟩ | (split <;> exact ⟨rfl, fun _ h => h⟩)) ?_
        simp
        refine ⟨InStr_ok _ _, ?_⟩
        refine LWp.iff ?_
        simp
        refine ⟨fun h10 => ?_, fun h10 => ?_⟩
        · refine LWp.seq ?_
          refine LWp.reg hT hW (fun _ => none) (fun _ => ⟨rfl, fun _ h => h⟩) ?_
          simp
          refine LWp.ret ?_
          have e1 : splitV e first n m = (default, 6) := by
            rw [hgo, if_pos (List.any_eq_true.2 ⟨_, List.getElem_mem h8, by simpa [mem_tchN] using h10⟩)]
          simp [e1, edsP]
        · refine LWp.skip ?_
          simp
          refine LWp.reg hT hW (fun _ => none) (fun _ => ⟨rfl, fun _ h => h⟩) ?_
          simp
          refine ⟨by omega, ?_⟩
          refine loopQ.mk (i + 1) (Weak.to [3, 4, 5, 6, 7, 8, 9, 52, 53, 54] [(3, 3), (4, 4), (5, 5), (6, 6), (8, 8)] (by decide) (by decide) (by simp [hp]) (by simp) (by simp)) ?_ ?_
          · exact ⟨h8, hi8.2.succ h8 (by simpa using h10)⟩
          · omega
      · refine LWp.exit ?_
        simp
        refine LWp.seq ?_
        have hany : ¬ first.any (fun s => decide (s ∉ touches e)) = true := by
          have h := hi8.2.any (by omega)
          simp only [mem_tchN] at h
          simpa using h
        rw [if_neg hany] at hgo
        refine LWp.reg hT hW (fun _ => none) (fun _ => ⟨rfl, fun _ h => h⟩) ?_
        simp
        refine LWp.seq ?_
        refine LWp.reg hT hW (fun | 67 => some (.gen ⟨[(64, 0)], [], [], [(0, .map false (ck (applyC [] e)) (cv (applyC [] e)))], .tup []⟩) | _ => none) (by intro d; first | exact ⟨rfl, fun _ h => h⟩ | (split <;> exact ⟨rfl, fun _ h => h⟩)) ?_
        simp
        refine ⟨by simpa [ck, cv] using apply_ok [] e hs, ?_⟩
        refine LWp.seq ?_
        refine LWp.seq ?_
        obtain ⟨c, hc⟩ : ∃ c, c = applyC [] e := ⟨_, rfl⟩
        rw [← hc]
        refine LWp.weak (Weak.close 12 (x := .mp (ck c) (cv c)) (by simp)) ?_
        refine LWp.weak (Weak.close 4 (x := .ro [strsD first]) (by simp)) ?_
        refine LWp.reg hT hW (fun _ => none) (fun _ => ⟨rfl, fun _ h => h⟩) ?_
        simp
        refine LWp.block ?_
        refine LWp.loopW (ι := Nat) (fun k => mkEnv [(3, .bx 3 0), (4, .d (.ro [strsD first])), (5, .bx 5 0), (6, .bx 6 0), (7, .d (I64 0)), (8, .bx 8 0), (12, .d (.mp (ck c) (cv c))), (68, .d (I64 k))]) (fun k => mkObs [(3, .box false ((cellsD e.d).map .d)), (5, .box false [.d (I64 n.who), .d (I64 n.seq), .d (I64 m.who), .d (I64 m.seq)]), (6, .box false (arrS e first n m 0)), (8, .box false (arrS e first n m k))]) (fun k => k ≤ 2 ∧ (0 < k → touches (splitE e first n true) ≠ []) ∧ (1 < k → touches (splitE e first m false) ≠ [])) (fun k => 2 - k) 0 (Weak.to [3, 4, 5, 6, 7, 8, 12, 68] [(3, 3), (5, 5), (6, 6), (8, 8)] (by decide) (by decide) (by simp [hp]) (by simp) (by simp)) (by simp) fun k hi16 => ?_
        refine LWp.seq ?_
        refine LWp.reg hT hW (fun _ => none) (fun _ => ⟨rfl, fun _ h => h⟩) ?_
        simp
        refine LWp.seq ?_
        refine LWp.iff ?_
        simp
        refine ⟨fun h16 => ?_, fun h16 => ?_⟩
        · refine LWp.skip ?_
          simp
          refine LWp.seq ?_
          refine LWp.block ?_
          refine LWp.seq ?_
          refine LWp.reg hT hW (fun _ => none) (fun _ => ⟨rfl, fun _ h => h⟩) ?_
          simp
          refine LWp.weak (Weak.close 13 (x := .ro [I64 k]) (by simp)) ?_
          refine LWp.seq ?_
          obtain ⟨z, hz⟩ : ∃ z, (k = 0 ∧ z = splitE e first n true) ∨ (k = 1 ∧ z = splitE e first m false) := by
            rcases (by omega : k = 0 ∨ k = 1) with q | q
            · exact ⟨_, .inl ⟨q, rfl⟩⟩
            · exact ⟨_, .inr ⟨q, rfl⟩⟩
          rcases hz with ⟨rfl, hz⟩ | ⟨rfl, hz⟩
          · have hzl : z.puts.length ≤ 1000000 ∧ z.drops.length ≤ 1000000 := by
              subst hz
              exact ⟨Nat.le_trans (List.length_filter_le _ _) hs.1, Nat.le_trans (List.length_filter_le _ _) hs.2⟩
            refine LWp.regAny hT hW hMixed (lk [[],[],[],[2],[2,3],[],[5],[],[1,2,3,4,5,6,7],[0,1,2,3,4,5,6,7,8],[0,1,2,3,4,5,6,7,8,9]]) (lk [[79],[],[],[],[],[],[],[],[],[],[]]) (lk [[],[],[],[],[],[],[],[],[79],[],[8]]) (by kernel_rfl) (fun | 79 => some <| .plain ⟨.d z.d, false⟩ | _ => none) (by intro d; first | exact ⟨rfl, fun _ h => h⟩ | (split <;> exact ⟨rfl, fun _ h => h⟩)) ?_
            simp
            refine ⟨by subst hc; subst hz; first | exact cedit_split n 0 true rfl hpe hs hnl | exact cedit_split m 1 false rfl hpe hs hnl, ?_⟩
            refine LWp.seq ?_
            refine LWp.regAny hT hW hMixed (lk [[],[0],[0,1],[0,1,2],[0,1,2,3],[],[5],[5,6],[5,6,7],[5,6,7,8],[0,1,2,3,4,5,6,7,8,9],[0,1,2,3,4,5,6,7,8,9,10]]) (lk [[],[],[],[],[],[],[],[],[],[],[],[]]) (lk [[],[],[],[],[],[],[],[],[],[],[],[]]) (by kernel_rfl) (fun _ => none) (fun _ => ⟨rfl, fun _ h => h⟩) ?_
            simp
            refine ⟨⟨by omega, by omega⟩, ?_⟩
            refine LWp.iff ?_
            simp
            refine ⟨fun h19 => ?_, fun h19 => ?_⟩
            · refine LWp.seq ?_
              refine LWp.reg hT hW (fun _ => none) (fun _ => ⟨rfl, fun _ h => h⟩) ?_
              simp
              refine LWp.ret ?_
              have e1 : splitV e first n m = (default, 15) := by rw [hgo, if_pos (.inl (by rw [← hz, touches_zero]; omega))]
              simp [e1, edsP]
            · refine LWp.skip ?_
              simp
              refine LWp.reg hT hW (fun _ => none) (fun _ => ⟨rfl, fun _ h => h⟩) ?_
              simp
              refine loopQ.mk 1 (Weak.to [3, 4, 5, 6, 7, 8, 12, 68] [(3, 3), (5, 5), (6, 6), (8, 8)] (by decide) (by decide) (by simp [hp]) (by simp) (by simp [hz])) ?_ ?_
              · refine ⟨by omega, fun _ w => h19 ?_, fun w => absurd w (by omega)⟩
                rw [← hz, touches_zero] at w; omega
              · omega
          · have hzl : z.puts.length ≤ 1000000 ∧ z.drops.length ≤ 1000000 := by
              subst hz
              exact ⟨Nat.le_trans (List.length_filter_le _ _) hs.1, Nat.le_trans (List.length_filter_le _ _) hs.2⟩
            refine LWp.regAny hT hW hMixed (lk [[],[],[],[2],[2,3],[],[5],[],[1,2,3,4,5,6,7],[0,1,2,3,4,5,6,7,8],[0,1,2,3,4,5,6,7,8,9]]) (lk [[79],[],[],[],[],[],[],[],[],[],[]]) (lk [[],[],[],[],[],[],[],[],[79],[],[8]]) (by kernel_rfl) (fun | 79 => some <| .plain ⟨.d z.d, false⟩ | _ => none) (by intro d; first | exact ⟨rfl, fun _ h => h⟩ | (split <;> exact ⟨rfl, fun _ h => h⟩)) ?_
            simp
            refine ⟨by subst hc; subst hz; first | exact cedit_split n 0 true rfl hpe hs hnl | exact cedit_split m 1 false rfl hpe hs hnl, ?_⟩
            refine LWp.seq ?_
            refine LWp.regAny hT hW hMixed (lk [[],[0],[0,1],[0,1,2],[0,1,2,3],[],[5],[5,6],[5,6,7],[5,6,7,8],[0,1,2,3,4,5,6,7,8,9],[0,1,2,3,4,5,6,7,8,9,10]]) (lk [[],[],[],[],[],[],[],[],[],[],[],[]]) (lk [[],[],[],[],[],[],[],[],[],[],[],[]]) (by kernel_rfl) (fun _ => none) (fun _ => ⟨rfl, fun _ h => h⟩) ?_
            simp
            refine ⟨⟨by omega, by omega⟩, ?_⟩
            refine LWp.iff ?_
            simp
            refine ⟨fun h19 => ?_, fun h19 => ?_⟩
            · refine LWp.seq ?_
              refine LWp.reg hT hW (fun _ => none) (fun _ => ⟨rfl, fun _ h => h⟩) ?_
              simp
              refine LWp.ret ?_
              have e1 : splitV e first n m = (default, 15) := by rw [hgo, if_pos (.inr (by rw [← hz, touches_zero]; omega))]
              simp [e1, edsP]
            · refine LWp.skip ?_
              simp
              refine LWp.reg hT hW (fun _ => none) (fun _ => ⟨rfl, fun _ h => h⟩) ?_
              simp
              refine loopQ.mk 2 (Weak.to [3, 4, 5, 6, 7, 8, 12, 68] [(3, 3), (5, 5), (6, 6), (8, 8)] (by decide) (by decide) (by simp [hp]) (by simp) (by simp [hz])) ?_ ?_
              · refine ⟨by omega, fun _ => hi16.2.1 (by omega), fun _ w => h19 ?_⟩
                rw [← hz, touches_zero] at w; omega
              · omega
        · refine LWp.exit ?_
          simp
          refine LWp.seq ?_
          obtain rfl : k = 2 := by omega
          refine LWp.reg hT hW (fun _ => none) (fun _ => ⟨rfl, fun _ h => h⟩) ?_
          simp
          refine LWp.ret ?_
          have e1 : splitV e first n m = ((splitE e first n true, splitE e first m false), 0) := by
            rw [hgo, if_neg]
            rintro (w | w)
            · exact hi16.2.1 (by omega) w
            · exact hi16.2.2 (by omega) w
          simp [e1, edsP]
end Go.Eng
namespace Go.Eng
open Go.Proofs
attribute [local simp] runL stepL evalG evalOp opLV constLV putEnv dstOk upd upds Res.plain Res.cond Res.fail evalBin evalUn seqQ blockQ argsEnv lookL lookH RetIs memless freshL evalPick evalMin bval bok evalLen evalIn strip whenC guardOps guardC slotsOf
  runM foldS stepI stepM maskE wrIn lk renO lookN evalCall evalCallee optAll resLV resObj retLV retObj retsLV retsObj evalLoad evalIndexAddr evalField solid cellsD_agg cellsD_int cellsD_bool cellsD_str cellsD_sl cellsD_ro cellsD_fn cellsL_agg cellsL_dagg cellsL_int cellsL_bool cellsL_str cellsL_sl cellsL_fn cellsL_ow cellsL_bx cellsL_lfn cellsL_nl takeL takeD mkAgg allD eqD eqDs kindsAre kindIs LObj.live TK.isNone TK.agg TK.isBool TK.isStr TK.isStruct Op.operands Call.operands
  evalBuildSlice evalAppend elemsOf evalStore evalBuild fillL lookupF putL evalSlice bound evalConv elemsS freezes frozen loadR
  mkEnv_at mkObs_at close_d close_agg close_ow close_bx close_fn close_nl touch_d touch_agg touch_ow touch_bx touch_fn touch_nl ren_d ren_agg ren_bx ren_rp ren_ow ren_fn ren_nl ren_junk retQ_ret retQ2_ret condQ_bool Nm.d Df.d Ed.d nmsD dfsD strsD edsD retC_ret nm_eq df_eq take_map_len take_map_app
  nm_t nm_d nm_td df_t df_d df_td str_t str_d str_td ed_t ed_d ed_td
  evalAppendIn evalCut evalClear evalCopy evalMake evalWrap evalCap evalNil isNilC lenL isInp gorc
  mapOf findD keyEq keyOk evalMakeMap evalRange zeroD zeroDV argsG shutG outN lenv retG0_ret retG0_normal retG1_ret renO close_mp touch_mp ren_mp optAll_d optAll_d' touch_ds cellsL_mp cellsD_mp cellsL_dmp
  evalMapSet evalPtr TK.isPtr evalToArr firstL retN_ret retsQ rvarL close_bm touch_bm ren_bm cellsD_bm cellsL_bm cellsL_lbm
attribute [local simp] cutQ_normal cutQ_ret cutQ_exit
set_option maxRecDepth 10000
set_option maxHeartbeats 4000000
attribute [local simp] dF1 dF2 dF3 dF4 dF5 prD dP1 dP2
theorem ex_same (a b : Ed) (h : a = b) : Ok Tryz.prog 24 [a.d, b.d] ⟨.d (.bool true), true⟩ := by
  have := Same_ok a b
  rwa [decide_eq_true h] at this
theorem ex_defs (a b : List Df) (h : a = b) : Ok Tryz.prog 40 [dfsD a, dfsD b] ⟨.d (.bool true), true⟩ := by
  have := SameDefs_ok a b
  rwa [decide_eq_true h] at this
theorem ex_texts (a b : List Str) (h : a = b) : Ok Tryz.prog 10 [strsD a, strsD b] ⟨.d (.bool true), true⟩ := by
  have := SameTexts_ok a b
  rwa [decide_eq_true h] at this
theorem lives3_ok  : Ok Tryz.prog 16 [] ⟨.d (.bool true), true⟩ := by
  refine Ok.ret Tryz.func16 (by kernel_rfl) (c := _) rfl Tryz.ntmps16 (by simp) Tryz.results16 (by intro _ h; cases h) fun w0 X hp => ?_
  have k1 := PApart_ok exL3 ⟨0, 1⟩ ⟨1, 0⟩ exL3_small
  have k2 := PApart_ok exL3 ⟨1, 0⟩ ⟨1, 1⟩ exL3_small
  have k3 := PApart_ok exL3 ⟨0, 1⟩ ⟨1, 1⟩ exL3_small
  have k4 := PRevert_ok exB3 exL3 [⟨0, 1⟩, ⟨1, 0⟩] ⟨1, 0⟩ ⟨2, 0⟩ exL3_small (by decide) (by decide) (by decide)
  have k5 := PRevert_ok exB3 exL3 [⟨0, 1⟩, ⟨1, 0⟩] ⟨0, 1⟩ ⟨2, 0⟩ exL3_small (by decide) (by decide) (by decide)
  have k6 := PResolve_ok exL3 ⟨0, 1⟩ ⟨1, 1⟩ [y5] [] ⟨2, 0⟩ exL3_small (by decide) (by decide)
  have k7 := PSquash_ok exB3 exL3 [⟨0, 1⟩, ⟨1, 0⟩] ⟨2, 0⟩ exL3_small (by decide) (by decide) (by decide) (by decide) (by decide)
  have k8 := PSplit_ok ⟨⟨2, 0⟩, [], [a2], [[98]]⟩ [[97]] ⟨2, 1⟩ ⟨2, 2⟩ (by unfold Ed.small; decide) (by decide)
  have k9 := PPick_ok exL3 ⟨1, 1⟩ [⟨0, 1⟩] ⟨2, 0⟩ exL3_small (by decide) (by decide)
  have k10 := ex_same ⟨⟨2, 0⟩, [⟨1, 0⟩], [b0], []⟩ ⟨⟨2, 0⟩, [⟨1, 0⟩], [b0], []⟩ rfl
  have k11 := ex_same ⟨⟨2, 0⟩, [⟨0, 1⟩, ⟨1, 1⟩], [y5], []⟩ ⟨⟨2, 0⟩, [⟨0, 1⟩, ⟨1, 1⟩], [y5], []⟩ rfl
  have k12 := ex_same ⟨⟨2, 0⟩, [], [a2], [[98]]⟩ ⟨⟨2, 0⟩, [], [a2], [[98]]⟩ rfl
  have k13 := ex_defs [a2] [a2] rfl
  have k14 := ex_texts [[98]] [[98]] rfl
  have k15 := ex_same ⟨⟨2, 0⟩, [⟨0, 1⟩], [a3], []⟩ ⟨⟨2, 0⟩, [⟨0, 1⟩], [a3], []⟩ rfl
  rw [ex3_apart1] at k1
  rw [ex3_apart2] at k2
  rw [ex3_apart3] at k3
  rw [ex3_rev1] at k4
  rw [ex3_rev2] at k5
  rw [ex3_res] at k6
  rw [ex3_squash] at k7
  rw [ex3_split] at k8
  rw [ex3_pick] at k9
  refine LWp.seq ?_
  refine LWp.reg hT hW (fun _ => none) (fun _ => ⟨rfl, fun _ h => h⟩) ?_
  simp
  refine LWp.seq ?_
  refine LWp.reg hT hW (fun | 28 => some <| .plain ⟨.tup [.d (.sl (exB3.map Df.d)), .d (edsD exL3)], false⟩ | _ => none) (by intro d; first | exact ⟨rfl, fun _ h => h⟩ | (split <;> exact ⟨rfl, fun _ h => h⟩)) ?_
  simp [evalExtract]
  refine ⟨example3_ok, ?_⟩
  have hL : exL3 = [⟨⟨0, 1⟩, [], [a2], []⟩, ⟨⟨1, 0⟩, [⟨0, 1⟩], [], [[98]]⟩, ⟨⟨1, 1⟩, [], [a3], []⟩] := rfl
  have hB : exB3 = [⟨[97], [118, 97, 114, 32, 97, 32, 61, 32, 49, 59]⟩, b0] := rfl
  rw [hL, hB] at k4 k5 k7 ⊢
  rw [hL] at k1 k2 k3 k6 k9
  refine LWp.seq ?_
  refine LWp.reg hT hW (fun _ => none) (fun _ => ⟨rfl, fun _ h => h⟩) ?_
  simp
  refine LWp.seq ?_
  refine LWp.reg hT hW (fun _ => none) (fun _ => ⟨rfl, fun _ h => h⟩) ?_
  simp
  refine LWp.seq ?_
  refine LWp.reg hT hW (fun _ => none) (fun _ => ⟨rfl, fun _ h => h⟩) ?_
  simp
  refine LWp.seq ?_
  refine LWp.reg hT hW (fun _ => none) (fun _ => ⟨rfl, fun _ h => h⟩) ?_
  simp
  refine LWp.seq ?_
  refine LWp.reg hT hW (fun | 48 => some <| .plain ⟨.tup [.d (.bool false), .d (I64 0)], true⟩ | _ => none) (by intro d; first | exact ⟨rfl, fun _ h => h⟩ | (split <;> exact ⟨rfl, fun _ h => h⟩)) ?_
  simp [evalExtract]
  refine ⟨by simpa using k1, ?_⟩
  refine LWp.seq ?_
  refine LWp.reg hT hW (fun | 55 => some <| .plain ⟨.tup [.d (.bool true), .d (I64 0)], true⟩ | _ => none) (by intro d; first | exact ⟨rfl, fun _ h => h⟩ | (split <;> exact ⟨rfl, fun _ h => h⟩)) ?_
  simp [evalExtract]
  refine ⟨by simpa using k2, ?_⟩
  refine LWp.seq ?_
  refine LWp.reg hT hW (fun | 62 => some <| .plain ⟨.tup [.d (.bool false), .d (I64 0)], true⟩ | _ => none) (by intro d; first | exact ⟨rfl, fun _ h => h⟩ | (split <;> exact ⟨rfl, fun _ h => h⟩)) ?_
  simp [evalExtract]
  refine ⟨by simpa using k3, ?_⟩
  refine LWp.seq ?_
  refine LWp.seq ?_
  refine LWp.reg hT hW (fun _ => none) (fun _ => ⟨rfl, fun _ h => h⟩) ?_
  simp
  refine LWp.iff ?_
  simp
  refine LWp.skip ?_
  simp
  refine LWp.seq ?_
  refine LWp.reg hT hW (fun | 93 => some <| .plain ⟨.tup [.d (Ed.d ⟨⟨2, 0⟩, [⟨1, 0⟩], [b0], []⟩), .d (I64 0)], false⟩ | _ => none) (by intro d; first | exact ⟨rfl, fun _ h => h⟩ | (split <;> exact ⟨rfl, fun _ h => h⟩)) ?_
  simp [evalExtract]
  refine ⟨⟨by decide, by simpa using k4⟩, ?_⟩
  refine LWp.seq ?_
  refine LWp.reg hT hW (fun | 104 => some <| .plain ⟨.tup [.d (default : Ed).d, .d (I64 10)], false⟩ | _ => none) (by intro d; first | exact ⟨rfl, fun _ h => h⟩ | (split <;> exact ⟨rfl, fun _ h => h⟩)) ?_
  simp [evalExtract]
  refine ⟨⟨by decide, by simpa using k5⟩, ?_⟩
  refine LWp.seq ?_
  refine LWp.reg hT hW (fun _ => none) (fun _ => ⟨rfl, fun _ h => h⟩) ?_
  simp
  refine LWp.seq ?_
  refine LWp.reg hT hW (fun | 115 => some <| .plain ⟨.tup [.d (Ed.d ⟨⟨2, 0⟩, [⟨0, 1⟩, ⟨1, 1⟩], [y5], []⟩), .d (I64 0)], false⟩ | _ => none) (by intro d; first | exact ⟨rfl, fun _ h => h⟩ | (split <;> exact ⟨rfl, fun _ h => h⟩)) ?_
  simp [evalExtract]
  refine ⟨by simpa [y5] using k6, ?_⟩
  refine LWp.seq ?_
  refine LWp.reg hT hW (fun | 125 => some <| .plain ⟨.tup [.d (Ed.d ⟨⟨2, 0⟩, [], [a2], [[98]]⟩), .d (I64 0)], false⟩ | _ => none) (by intro d; first | exact ⟨rfl, fun _ h => h⟩ | (split <;> exact ⟨rfl, fun _ h => h⟩)) ?_
  simp [evalExtract]
  refine ⟨⟨by decide, by simpa using k7⟩, ?_⟩
  refine LWp.seq ?_
  refine LWp.seq ?_
  refine LWp.reg hT hW (fun _ => none) (fun _ => ⟨rfl, fun _ h => h⟩) ?_
  simp
  refine LWp.iff ?_
  simp
  refine LWp.skip ?_
  simp
  refine LWp.seq ?_
  refine LWp.seq ?_
  refine LWp.regAny hT hW hMixed (lk [[],[],[],[2],[],[4],[1,2,3,4,5],[0,1,2,3,4,5,6],[0,1,2,3,4,5,6,7],[0,1,2,3,4,5,6,7,8],[0,1,2,3,4,5,6,7,8,9],[0,1,2,3,4,5,6,7,8,9],[0,1,2,3,4,5,6,7,8,9],[0,1,2,3,4,5,6,7,8,9],[0,1,2,3,4,5,6,7,8,9,12,13],[0,1,2,3,4,5,6,7,8,9],[0,1,2,3,4,5,6,7,8,9,15],[0,1,2,3,4,5,6,7,8,9,11,12,13,14,15,16],[0,1,2,3,4,5,6,7,8,9,10,11,12,13,14,15,16,17],[0,1,2,3,4,5,6,7,8,9,10,11,12,13,14,15,16,17,18],[0,1,2,3,4,5,6,7,8,9,10,11,12,13,14,15,16,17,18,19],[0,1,2,3,4,5,6,7,8,9,10,11,12,13,14,15,16,17,18,19,20],[0,1,2,3,4,5,6,7,8,9,10,11,12,13,14,15,16,17,18,19,20,21],[0,1,2,3,4,5,6,7,8,9,10,11,12,13,14,15,16,17,18,19,20,21],[0,1,2,3,4,5,6,7,8,9,10,11,12,13,14,15,16,17,18,19,20,21],[0,1,2,3,4,5,6,7,8,9,10,11,12,13,14,15,16,17,18,19,20,21,24],[0,1,2,3,4,5,6,7,8,9,10,11,12,13,14,15,16,17,18,19,20,21,24,25],[0,1,2,3,4,5,6,7,8,9,10,11,12,13,14,15,16,17,18,19,20,21,24,25,26],[0,1,2,3,4,5,6,7,8,9,10,11,12,13,14,15,16,17,18,19,20,21],[0,1,2,3,4,5,6,7,8,9,10,11,12,13,14,15,16,17,18,19,20,21,23,24,25,26,27,28],[0,1,2,3,4,5,6,7,8,9,10,11,12,13,14,15,16,17,18,19,20,21,22,23,24,25,26,27,28,29],[0,1,2,3,4,5,6,7,8,9,10,11,12,13,14,15,16,17,18,19,20,21,22,23,24,25,26,27,28,29,30],[0,1,2,3,4,5,6,7,8,9,10,11,12,13,14,15,16,17,18,19,20,21,22,23,24,25,26,27,28,29,30,31]]) (lk [[145],[145],[],[],[145],[145],[],[],[],[],[156,158],[156,158],[158],[158],[158],[156],[156],[],[],[],[],[],[170],[170],[170],[170],[170],[170],[],[],[],[],[]]) (lk [[],[],[],[145],[],[],[],[149],[],[],[],[],[],[],[156],[],[158],[],[160],[],[],[],[],[],[],[],[],[],[170],[],[172],[],[]]) (by kernel_rfl) (fun | 149 => some <| .plain ⟨.d (.bool true), true⟩ | 160 => some <| .plain ⟨.d (.bool true), true⟩ | 172 => some <| .plain ⟨.d (.bool true), true⟩ | _ => none) (by intro d; first | exact ⟨rfl, fun _ h => h⟩ | (split <;> exact ⟨rfl, fun _ h => h⟩)) ?_
  simp
  refine ⟨⟨⟨⟨by simpa using k10, rfl⟩, by simpa [y5] using k11⟩, by simpa using k12⟩, ?_⟩
  refine LWp.iff ?_
  simp
  refine LWp.skip ?_
  simp
  refine LWp.seq ?_
  refine LWp.reg hT hW (fun | 181 => some <| .plain ⟨.tup [.d (edsP (⟨⟨2, 1⟩, [], [a2], []⟩, ⟨⟨2, 2⟩, [], [], [[98]]⟩)), .d (I64 0)], false⟩ | _ => none) (by intro d; first | exact ⟨rfl, fun _ h => h⟩ | (split <;> exact ⟨rfl, fun _ h => h⟩)) ?_
  simp [evalExtract, edsP]
  refine ⟨by simpa [edsP] using k8, ?_⟩
  refine LWp.seq ?_
  refine LWp.reg hT hW (fun | 190 => some <| .plain ⟨.tup [.d (Ed.d ⟨⟨2, 0⟩, [⟨0, 1⟩], [a3], []⟩), .d (I64 0)], false⟩ | _ => none) (by intro d; first | exact ⟨rfl, fun _ h => h⟩ | (split <;> exact ⟨rfl, fun _ h => h⟩)) ?_
  simp [evalExtract]
  refine ⟨by simpa using k9, ?_⟩
  refine LWp.seq ?_
  refine LWp.regAny hT hW hMixed (lk [[],[0],[0,1],[],[3],[3,4],[3,4,5],[0,1,2,3,4,5,6],[0,1,2,3,4,5,6,7],[0,1,2,3,4,5,6,7,8],[0,1,2,3,4,5,6,7,8,9],[0,1,2,3,4,5,6,7,8,9,10],[0,1,2,3,4,5,6,7,8,9,10,11],[0,1,2,3,4,5,6,7,8],[0,1,2,3,4,5,6,7,8,13],[0,1,2,3,4,5,6,7,8,13,14],[0,1,2,3,4,5,6,7,8,13,14,15],[0,1,2,3,4,5,6,7,8,9,10,11,12,13,14,15,16],[0,1,2,3,4,5,6,7,8,9,10,11,12,13,14,15,16,17],[0,1,2,3,4,5,6,7,8,9,10,11,12,13,14,15,16,17,18],[0,1,2,3,4,5,6,7,8,9,10,11,12,13,14,15,16,17,18,19],[0,1,2,3,4,5,6,7,8,9,10,11,12,13,14,15,16,17,18,19,20],[0,1,2,3,4,5,6,7,8,9,10,11,12,13,14,15,16,17,18,19,20,21],[0,1,2,3,4,5,6,7,8,9,10,11,12,13,14,15,16,17,18,19,20,21,22],[0,1,2,3,4,5,6,7,8,9,10,11,12,13,14,15,16,17,18,19,20],[0,1,2,3,4,5,6,7,8,9,10,11,12,13,14,15,16,17,18,19,20,21,22,23,24],[0,1,2,3,4,5,6,7,8,9,10,11,12,13,14,15,16,17,18,19,20,21,22,23,24,25],[0,1,2,3,4,5,6,7,8,9,10,11,12,13,14,15,16,17,18,19,20,21,22,23,24,25,26]]) (lk [[],[],[],[],[],[],[],[],[],[],[],[],[],[],[],[],[],[],[],[],[],[217],[217],[217],[],[],[],[]]) (lk [[],[],[],[],[],[],[],[200],[],[],[],[],[],[],[],[],[],[],[],[],[],[],[],[],[217],[218],[],[]]) (by kernel_rfl) (fun | 200 => some <| .plain ⟨.d (.bool true), true⟩ | 218 => some <| .plain ⟨.d (.bool true), true⟩ | _ => none) (by intro d; first | exact ⟨rfl, fun _ h => h⟩ | (split <;> exact ⟨rfl, fun _ h => h⟩)) ?_
  simp
  refine ⟨⟨by simpa using k13, by simpa using k14⟩, ?_⟩
  refine LWp.seq ?_
  refine LWp.regAny hT hW hMixed (lk [[],[0],[0,1],[0,1,2],[0,1,2,3],[0,1,2,3,4],[0,1,2,3,4,5],[0,1,2,3,4,5,6],[0,1,2,3,4,5,6,7],[0,1,2,3,4,5,6,7,8],[0,1,2,3,4,5,6,7,8,9],[0,1,2,3,4,5,6,7,8,9],[0,1,2,3,4,5,6,7,8,9],[0,1,2,3,4,5,6,7,8,9,12],[0,1,2,3,4,5,6,7,8,9],[0,1,2,3,4,5,6,7,8,9,14],[0,1,2,3,4,5,6,7,8,9,14,15],[0,1,2,3,4,5,6,7,8,9,14,15,16],[0,1,2,3,4,5,6,7,8,9,11,12,13,14,15,16,17],[0,1,2,3,4,5,6,7,8,9,10,11,12,13,14,15,16,17,18],[0,1,2,3,4,5,6,7,8,9,10,11,12,13,14,15,16,17,18,19],[0,1,2,3,4,5,6,7,8,9,10,11,12,13,14,15,16,17,18,19,20]]) (lk [[],[],[],[],[],[],[],[],[],[],[233],[233],[],[],[233],[233],[233],[233],[],[],[],[]]) (lk [[],[],[],[],[],[],[],[],[],[],[],[],[],[233],[],[],[],[],[],[239],[],[]]) (by kernel_rfl) (fun | 239 => some <| .plain ⟨.d (.bool true), true⟩ | _ => none) (by intro d; first | exact ⟨rfl, fun _ h => h⟩ | (split <;> exact ⟨rfl, fun _ h => h⟩)) ?_
  simp
  refine ⟨by simpa using k15, ?_⟩
  refine LWp.ret ?_
  simp
end Go.Eng
namespace Go.Eng
open Go.Proofs
attribute [local simp] runL stepL evalG evalOp opLV constLV putEnv dstOk upd upds Res.plain Res.cond Res.fail evalBin evalUn seqQ blockQ argsEnv lookL lookH RetIs memless freshL evalPick evalMin bval bok evalLen evalIn strip whenC guardOps guardC slotsOf
  runM foldS stepI stepM maskE wrIn lk renO lookN evalCall evalCallee optAll resLV resObj retLV retObj retsLV retsObj evalLoad evalIndexAddr evalField solid cellsD_agg cellsD_int cellsD_bool cellsD_str cellsD_sl cellsD_ro cellsD_fn cellsL_agg cellsL_dagg cellsL_int cellsL_bool cellsL_str cellsL_sl cellsL_fn cellsL_ow cellsL_bx cellsL_lfn cellsL_nl takeL takeD mkAgg allD eqD eqDs kindsAre kindIs LObj.live TK.isNone TK.agg TK.isBool TK.isStr TK.isStruct Op.operands Call.operands
  evalBuildSlice evalAppend elemsOf evalStore evalBuild fillL lookupF putL evalSlice bound evalConv elemsS freezes frozen loadR
  mkEnv_at mkObs_at close_d close_agg close_ow close_bx close_fn close_nl touch_d touch_agg touch_ow touch_bx touch_fn touch_nl ren_d ren_agg ren_bx ren_rp ren_ow ren_fn ren_nl ren_junk retQ_ret retQ2_ret condQ_bool Nm.d Df.d Ed.d nmsD dfsD strsD edsD retC_ret nm_eq df_eq take_map_len take_map_app
  nm_t nm_d nm_td df_t df_d df_td str_t str_d str_td ed_t ed_d ed_td
  evalAppendIn evalCut evalClear evalCopy evalMake evalWrap evalCap evalNil isNilC lenL isInp gorc
  mapOf findD keyEq keyOk evalMakeMap evalRange zeroD zeroDV argsG shutG outN lenv retG0_ret retG0_normal retG1_ret renO close_mp touch_mp ren_mp optAll_d optAll_d' touch_ds cellsL_mp cellsD_mp cellsL_dmp
  evalMapSet evalPtr TK.isPtr evalToArr firstL retN_ret retsQ rvarL close_bm touch_bm ren_bm cellsD_bm cellsL_bm cellsL_lbm
attribute [local simp] cutQ_normal cutQ_ret cutQ_exit
set_option maxRecDepth 10000
set_option maxHeartbeats 2000000
structure IsMade (l : List Int) (E : List Ed) : Prop where
  eq : E = madeL l
  len : E.length ≤ 6
  needs : (allNeeds E).length ≤ 36
  sm : small E
  ok : (validV E).2 = 0
theorem is_made (l : List Int) : ∃ E, IsMade l E := ⟨madeL l, rfl, madeL_len l, made_needs l, made_small l, by rw [made_valid]⟩
theorem clo_six {l : List Ed} {S : List Nm} (h : closedB l (cloN l S) = true) : (cloN l S).length ≤ l.length := by
  have : (cloN l S).Nodup := sortN_nodup _
  have := nodup_le' (m := l.map Ed.name) this fun n hn => closed_names h hn
  rwa [List.length_map] at this
theorem closed_len {l : List Int} {E : List Ed} (h : IsMade l E) (b : Int) : (closureV E (someN E b)).1.length ≤ 6 ∧ closureV E (someN E b) = (cloN E (someN E b), 0) ∧ closedB E (cloN E (someN E b)) = true := by
  have u : ∀ n ∈ someN E b, n ∈ E.map Ed.name := fun n hn => someN_sub hn
  have e := closureV_ok h.ok u
  have c := closure_closed h.ok u
  have := clo_six c
  have := h.len
  rw [e]
  exact ⟨by show (cloN E (someN E b)).length ≤ 6; omega, rfl, c⟩
open Go.Proofs
set_option maxRecDepth 10000
set_option maxHeartbeats 2000000
attribute [local simp] dF1 dF2 dF3 dF4 dF5 dP1 dP2
theorem fs_who (s i : Nat) : (freshAt s i).who = 3 := rfl
theorem fs_rng (s i : Nat) : 0 ≤ (freshAt s i).seq ∧ (freshAt s i).seq < 64 := by
  have := Nat.mod_lt (s + i) (show 0 < 64 by omega)
  show 0 ≤ (((s + i) % 64 : Nat) : Int) ∧ (((s + i) % 64 : Nat) : Int) < 64
  omega
theorem fs_zero {s : Nat} (h : s < 64) : (freshAt s 0).seq = (s : Int) := by
  show (((s + 0) % 64 : Nat) : Int) = s
  omega
theorem fs_next (s i : Nat) : ((freshAt s i).seq + 1).tmod 64 = (freshAt s (i + 1)).seq := by
  have := (fs_rng s i).1
  rw [Int.tmod_eq_emod_of_nonneg (by omega)]
  show ((((s + i) % 64 : Nat) : Int) + 1) % 64 = (((s + (i + 1)) % 64 : Nat) : Int)
  omega
theorem Fresh_ok (l : List Ed) (k : Int) (q : -9223372036854775808 ≤ k ∧ k ≤ 9223372036854775807) : Ok Tryz.prog 21 [edsD l, I64 k] ⟨.d (freshN l k).d, true⟩ := by
  refine Ok.cell hT Tryz.func21 (by kernel_rfl) (c := _) rfl Tryz.ntmps21 (by simp) Tryz.results21 (by intro _ h; cases h) fun w0 X hp => ?_
  refine LWp.seq ?_
  refine LWp.reg hT hW (fun _ => none) (fun _ => ⟨rfl, fun _ h => h⟩) ?_
  simp
  refine LWp.seq ?_
  have ha := Around_ok k 64 q.1 q.2 (by decide)
  have hr := around_lt k 64 (by decide)
  obtain ⟨s, hs⟩ : ∃ s : Nat, s = (around k 64).toNat := ⟨_, rfl⟩
  have hk : around k 64 = (s : Int) := by omega
  rw [hk] at ha
  refine LWp.reg hT hW (fun | 8 => some <| .plain ⟨.d (I64 s), true⟩ | _ => none) (by intro d; first | exact ⟨rfl, fun _ h => h⟩ | (split <;> exact ⟨rfl, fun _ h => h⟩)) ?_
  simp
  refine ⟨by simpa using ha, ?_⟩
  refine LWp.seq ?_
  refine LWp.seq ?_
  refine LWp.reg hT hW (fun _ => none) (fun _ => ⟨rfl, fun _ h => h⟩) ?_
  simp
  refine LWp.block ?_
  refine LWp.loopW (ι := Nat) (fun i => mkEnv [(0, .d (edsD l)), (4, .bx 4 0), (5, .bx 5 0), (6, .d (I64 i))]) (fun i => mkObs [(4, .box false [.d (I64 0), .d (I64 0)]), (5, .box false [.d (I64 3), .d (I64 (freshAt s i).seq)])]) (fun i => i ≤ 64 ∧ ∀ j, j < i → freshAt s j ∈ l.map Ed.name) (fun i => 64 - i) 0 (Weak.to [0, 4, 5, 6] [(4, 4), (5, 5)] (by decide) (by decide) (by simp [hp]) (by simp) (by simp [fs_zero (show s < 64 by omega)])) (by simp) fun i hi3 => ?_
  refine LWp.seq ?_
  refine LWp.seq ?_
  have hrg := fs_rng s i
  refine LWp.reg hT hW (fun | 15 => some <| .plain ⟨.d (I64 (findI l (freshAt s i))), true⟩ | _ => none) (by intro d; first | exact ⟨rfl, fun _ h => h⟩ | (split <;> exact ⟨rfl, fun _ h => h⟩)) ?_
  simp
  refine ⟨by intros; have := Find_ok l (freshAt s i); simpa [fs_who] using this, ?_⟩
  refine LWp.iff ?_
  simp
  refine ⟨fun h3 g3 => ?_, fun h3 => ?_⟩
  · refine LWp.skip ?_
    simp
    refine LWp.seq ?_
    refine LWp.block ?_
    refine LWp.reg hT hW (fun _ => none) (fun _ => ⟨rfl, fun _ h => h⟩) ?_
    simp
    refine ⟨⟨by omega, by omega⟩, ?_⟩
    refine LWp.reg hT hW (fun _ => none) (fun _ => ⟨rfl, fun _ h => h⟩) ?_
    simp
    refine ⟨by omega, ?_⟩
    refine loopQ.mk (i + 1) (Weak.to [0, 4, 5, 6] [(4, 4), (5, 5)] (by decide) (by decide) (by simp [hp]) (by simp) (by simp [fs_next])) ?_ ?_
    · refine ⟨by omega, fun j hj => ?_⟩
      refine List.mem_map.1 ?_
      by_cases e : j = i
      · subst e; exact found_iff.1 g3
      · exact hi3.2 j (by omega)
    · omega
  · refine LWp.exit ?_
    simp
    refine LWp.seq ?_
    refine LWp.reg hT hW (fun _ => none) (fun _ => ⟨rfl, fun _ h => h⟩) ?_
    simp
    refine LWp.ret ?_
    have e : freshN l k = freshAt s i := by
      rw [hs]
      refine fresh_exit hi3.1 (by rw [← hs]; exact hi3.2) fun w => ?_
      rw [← hs]
      intro w2
      have := h3 (by omega)
      have := found_iff.2 w2
      omega
    simp [e, fs_who]
end Go.Eng
namespace Go.Eng
open Go.Proofs
attribute [local simp] runL stepL evalG evalOp opLV constLV putEnv dstOk upd upds Res.plain Res.cond Res.fail evalBin evalUn seqQ blockQ argsEnv lookL lookH RetIs memless freshL evalPick evalMin bval bok evalLen evalIn strip whenC guardOps guardC slotsOf
  runM foldS stepI stepM maskE wrIn lk renO lookN evalCall evalCallee optAll resLV resObj retLV retObj retsLV retsObj evalLoad evalIndexAddr evalField solid cellsD_agg cellsD_int cellsD_bool cellsD_str cellsD_sl cellsD_ro cellsD_fn cellsL_agg cellsL_dagg cellsL_int cellsL_bool cellsL_str cellsL_sl cellsL_fn cellsL_ow cellsL_bx cellsL_lfn cellsL_nl takeL takeD mkAgg allD eqD eqDs kindsAre kindIs LObj.live TK.isNone TK.agg TK.isBool TK.isStr TK.isStruct Op.operands Call.operands
  evalBuildSlice evalAppend elemsOf evalStore evalBuild fillL lookupF putL evalSlice bound evalConv elemsS freezes frozen loadR
  mkEnv_at mkObs_at close_d close_agg close_ow close_bx close_fn close_nl touch_d touch_agg touch_ow touch_bx touch_fn touch_nl ren_d ren_agg ren_bx ren_rp ren_ow ren_fn ren_nl ren_junk retQ_ret retQ2_ret condQ_bool Nm.d Df.d Ed.d nmsD dfsD strsD edsD retC_ret nm_eq df_eq take_map_len take_map_app
  nm_t nm_d nm_td df_t df_d df_td str_t str_d str_td ed_t ed_d ed_td
  evalAppendIn evalCut evalClear evalCopy evalMake evalWrap evalCap evalNil isNilC lenL isInp gorc
  mapOf findD keyEq keyOk evalMakeMap evalRange zeroD zeroDV argsG shutG outN lenv retG0_ret retG0_normal retG1_ret renO close_mp touch_mp ren_mp optAll_d optAll_d' touch_ds cellsL_mp cellsD_mp cellsL_dmp
  evalMapSet evalPtr TK.isPtr evalToArr firstL retN_ret retsQ rvarL close_bm touch_bm ren_bm cellsD_bm cellsL_bm cellsL_lbm
attribute [local simp] cutQ_normal cutQ_ret cutQ_exit
set_option maxRecDepth 10000
set_option maxHeartbeats 2000000
attribute [local simp] dF1 dF2 dF3 dF4 dF5 dP1 dP2
theorem in_made {l : List Int} {E : List Ed} (h : IsMade l E) {e : Ed} (he : e ∈ E) : e ∈ madeL l := by rw [← h.eq]; exact he
end Go.Eng
namespace Go.Eng
open Go.Proofs
theorem or_wrap {a b : Nat} (ha : a < 65536) (hb : b < 65536) : IntKind.i64.wrap ((BitVec.ofInt 64 (a : Int) ||| BitVec.ofInt 64 (b : Int)).toNat : Int) = ((a ||| b : Nat) : Int) ∧ a ||| b < 65536 := by
  have h := Nat.or_lt_two_pow (n := 16) ha hb
  have e : (BitVec.ofInt 64 (a : Int) ||| BitVec.ofInt 64 (b : Int)).toNat = a ||| b := by
    rw [BitVec.toNat_or, BitVec.ofInt_natCast, BitVec.ofInt_natCast, BitVec.toNat_ofNat, BitVec.toNat_ofNat, Nat.mod_eq_of_lt (by omega), Nat.mod_eq_of_lt (by omega)]
  refine ⟨?_, h⟩
  rw [e]
  simp only [IntKind.wrap, IntKind.signed, IntKind.bits]
  simp
  omega
theorem filter_split {α : Type} (p : α → Bool) : ∀ l : List α, (l.filter p).length + (l.filter fun x => !p x).length = l.length
  | [] => rfl
  | a :: l => by
    have := filter_split p l
    cases h : p a <;> simp [List.filter_cons, h] <;> omega
theorem needs_nodup {l : List Ed} (h : (validV l).2 = 0) {n : Nm} (hn : n ∈ l.map Ed.name) : (needsOf l n).Nodup := by
  obtain ⟨hp, e, _⟩ := edAt_proper h hn
  rw [← e]
  exact rising_nodup Nm.sto (rising_of_incr Nm.sto (proper_parts.1 hp).2.2.1)
theorem order_nodup3 {l : List Ed} (h : (validV l).2 = 0) {S : List Nm} (hS : ∀ n ∈ S, n ∈ l.map Ed.name) : (orderN l (cloN l S)).Nodup := order_nodup h (closure_closed h hS)
theorem needsC_six {l : List Ed} (h : (validV l).2 = 0) (hl : l.length ≤ 6) {S : List Nm} (hS : ∀ n ∈ S, n ∈ l.map Ed.name) : (needsC l S (orderN l (cloN l S))).length ≤ 12 := by
  obtain ⟨names, hnm⟩ : ∃ names, names = l.map Ed.name := ⟨_, rfl⟩
  have hnd : names.Nodup := by rw [hnm]; exact valid_nodup h
  have hlen : names.length ≤ 6 := by rw [hnm, List.length_map]; exact hl
  have ha : ((orderN l (cloN l S)).filter fun n => decide (n ∈ S)).length ≤ (names.filter fun n => decide (n ∈ S)).length := by
    refine nodup_le' ((order_nodup3 h hS).sublist List.filter_sublist) fun n hn => ?_
    have hn := List.mem_filter.1 hn
    refine List.mem_filter.2 ⟨?_, hn.2⟩
    rw [hnm]; exact hS n (by simpa using hn.2)
  have hb : ∀ n ∈ (orderN l (cloN l S)).filter fun n => decide (n ∈ S), ((needsOf l n).filter fun m => decide (m ∉ S)).length ≤ (names.filter fun n => !decide (n ∈ S)).length := by
    intro n hn
    have hn := List.mem_filter.1 hn
    have hin : n ∈ l.map Ed.name := hS n (by simpa using hn.2)
    refine nodup_le' ((needs_nodup h hin).sublist List.filter_sublist) fun m hm => ?_
    have hm := List.mem_filter.1 hm
    refine List.mem_filter.2 ⟨?_, by simpa using hm.2⟩
    rw [hnm]; exact need_names h hm.1
  have hab : (names.filter fun n => decide (n ∈ S)).length + (names.filter fun n => !decide (n ∈ S)).length = names.length := filter_split (fun n => decide (n ∈ S)) names
  have hc := flat_le hb
  obtain ⟨x, hx⟩ : ∃ x, x = ((orderN l (cloN l S)).filter fun n => decide (n ∈ S)).length := ⟨_, rfl⟩
  obtain ⟨y, hy⟩ : ∃ y, y = (names.filter fun n => !decide (n ∈ S)).length := ⟨_, rfl⟩
  show (((orderN l (cloN l S)).filter fun n => decide (n ∈ S)).flatMap _).length ≤ 12
  rw [← hx, ← hy] at hc
  rw [← hx] at ha
  rw [← hy] at hab
  have h6 : x + y ≤ 6 := by omega
  have hxy : x * y ≤ 12 := by
    have : x = 0 ∨ x = 1 ∨ x = 2 ∨ x = 3 ∨ x = 4 ∨ x = 5 ∨ x = 6 := by omega
    rcases this with r | r | r | r | r | r | r <;> rw [r] <;> omega
  omega
theorem needsC_few {l : List Ed} (h : (validV l).2 = 0) {S : List Nm} (hS : ∀ n ∈ S, n ∈ l.map Ed.name) {m : Nat} (hm : ∀ n ∈ S, (needsOf l n).length ≤ m) : (needsC l S (orderN l (cloN l S))).length ≤ S.length * m := by
  have ha : ((orderN l (cloN l S)).filter fun n => decide (n ∈ S)).length ≤ S.length :=
    nodup_le' ((order_nodup3 h hS).sublist List.filter_sublist) fun n hn => by simpa using (List.mem_filter.1 hn).2
  have hc := flat_le (f := fun n => (needsOf l n).filter fun m => decide (m ∉ S)) (l := (orderN l (cloN l S)).filter fun n => decide (n ∈ S)) (m := m) fun n hn =>
    Nat.le_trans (List.length_filter_le _ _) (hm n (by simpa using (List.mem_filter.1 hn).2))
  exact Nat.le_trans hc (Nat.mul_le_mul_right _ ha)
end Go.Eng
namespace Go.Eng
open Go.Proofs
attribute [local simp] runL stepL evalG evalOp opLV constLV putEnv dstOk upd upds Res.plain Res.cond Res.fail evalBin evalUn seqQ blockQ argsEnv lookL lookH RetIs memless freshL evalPick evalMin bval bok evalLen evalIn strip whenC guardOps guardC slotsOf
  runM foldS stepI stepM maskE wrIn lk renO lookN evalCall evalCallee optAll resLV resObj retLV retObj retsLV retsObj evalLoad evalIndexAddr evalField solid cellsD_agg cellsD_int cellsD_bool cellsD_str cellsD_sl cellsD_ro cellsD_fn cellsL_agg cellsL_dagg cellsL_int cellsL_bool cellsL_str cellsL_sl cellsL_fn cellsL_ow cellsL_bx cellsL_lfn cellsL_nl takeL takeD mkAgg allD eqD eqDs kindsAre kindIs LObj.live TK.isNone TK.agg TK.isBool TK.isStr TK.isStruct Op.operands Call.operands
  evalBuildSlice evalAppend elemsOf evalStore evalBuild fillL lookupF putL evalSlice bound evalConv elemsS freezes frozen loadR
  mkEnv_at mkObs_at close_d close_agg close_ow close_bx close_fn close_nl touch_d touch_agg touch_ow touch_bx touch_fn touch_nl ren_d ren_agg ren_bx ren_rp ren_ow ren_fn ren_nl ren_junk retQ_ret retQ2_ret condQ_bool Nm.d Df.d Ed.d nmsD dfsD strsD edsD retC_ret nm_eq df_eq take_map_len take_map_app
  nm_t nm_d nm_td df_t df_d df_td str_t str_d str_td ed_t ed_d ed_td
  evalAppendIn evalCut evalClear evalCopy evalMake evalWrap evalCap evalNil isNilC lenL isInp gorc
  mapOf findD keyEq keyOk evalMakeMap evalRange zeroD zeroDV argsG shutG outN lenv retG0_ret retG0_normal retG1_ret renO close_mp touch_mp ren_mp optAll_d optAll_d' touch_ds cellsL_mp cellsD_mp cellsL_dmp
  evalMapSet evalPtr TK.isPtr evalToArr firstL retN_ret retsQ rvarL close_bm touch_bm ren_bm cellsD_bm cellsL_bm cellsL_lbm
attribute [local simp] cutQ_normal cutQ_ret cutQ_exit
set_option maxRecDepth 10000
theorem Swapped_ok (set S : List Nm) (o : List Ed) (h1 : set.length ≤ 400000) (h2 : o.length ≤ 400000) : Ok Tryz.prog 39 [nmsD set, nmsD S, edsD o] ⟨.d (nmsD (swapN set S (o.map Ed.name))), false⟩ := by
  refine Ok.ret Tryz.func39 (by kernel_rfl) (c := _) rfl Tryz.ntmps39 (by simp) Tryz.results39 (by intro _ h; cases h) fun w0 X hp => ?_
  refine LWp.seq ?_
  refine LWp.reg hT hW (fun _ => none) (fun _ => ⟨rfl, fun _ h => h⟩) ?_
  simp
  refine LWp.seq ?_
  refine LWp.reg hT hW (fun _ => none) (fun _ => ⟨rfl, fun _ h => h⟩) ?_
  simp
  refine LWp.seq ?_
  refine LWp.reg hT hW (fun _ => none) (fun _ => ⟨rfl, fun _ h => h⟩) ?_
  simp
  refine LWp.seq ?_
  refine LWp.seq ?_
  refine LWp.reg hT hW (fun _ => none) (fun _ => ⟨rfl, fun _ h => h⟩) ?_
  simp
  refine LWp.block ?_
  refine LWp.loopW (ι := Nat × List Nm × Bool) (fun ⟨i, acc, b⟩ => mkEnv [(0, .d (nmsD set)), (1, .d (nmsD S)), (2, .d (edsD o)), (7, .ow 7 0 acc.length), (8, .d (.bool b)), (9, .d (I64 i))]) (fun ⟨i, acc, b⟩ => mkObs [(7, .row false 2 (acc.map Nm.d))]) (fun ⟨i, acc, b⟩ => i ≤ set.length ∧ acc.length ≤ i ∧ acc = (set.take i).filter (fun n => !decide (n ∈ S)) ∧ b = (set.take i).any fun n => decide (n ∈ S)) (fun ⟨i, acc, b⟩ => set.length - i) (0, [], false) (Weak.to [0, 1, 2, 7, 8, 9] [(7, 7)] (by decide) (by decide) (by simp [hp]) (by simp) (by simp)) (by simp) fun ⟨i, acc, b⟩ hi4 => ?_
  refine LWp.seq ?_
  refine LWp.seq ?_
  refine LWp.reg hT hW (fun _ => none) (fun _ => ⟨rfl, fun _ h => h⟩) ?_
  simp
  refine LWp.iff ?_
  simp
  refine ⟨fun h4 => ?_, fun h4 => ?_⟩
  · refine LWp.skip ?_
    simp
    refine LWp.seq ?_
    refine LWp.block ?_
    refine LWp.seq ?_
    refine LWp.reg hT hW (fun | 22 => some <| .plain ⟨.d (.bool (decide (set[i] ∈ S))), true⟩ | _ => none) (by intro d; first | exact ⟨rfl, fun _ h => h⟩ | (split <;> exact ⟨rfl, fun _ h => h⟩)) ?_
    simp [h4]
    refine ⟨Has_ok _ _, ?_⟩
    refine LWp.iff ?_
    simp
    refine ⟨fun h6 => ?_, fun h6 => ?_⟩
    · refine LWp.reg hT hW (fun _ => none) (fun _ => ⟨rfl, fun _ h => h⟩) ?_
      simp
      refine LWp.reg hT hW (fun _ => none) (fun _ => ⟨rfl, fun _ h => h⟩) ?_
      simp
      refine ⟨by omega, ?_⟩
      refine loopQ.mk (i + 1, acc, true) (Weak.to [0, 1, 2, 7, 8, 9] [(7, 7)] (by decide) (by decide) (by simp [hp]) (by simp) (by simp)) ?_ ?_
      · refine ⟨h4, by have := hi4.2.1; dsimp only; omega, ?_, ?_⟩
        · dsimp only
          rw [filter_take_succ h4, ← hi4.2.2.1]; simp [h6]
        · dsimp only
          rw [List.take_succ_eq_append_getElem h4, List.any_append]; simp [h6]
      · omega
    · refine LWp.reg hT hW (fun _ => none) (fun _ => ⟨rfl, fun _ h => h⟩) ?_
      simp [h4]
      refine ⟨by have := hi4.2.1; omega, ?_⟩
      refine LWp.reg hT hW (fun _ => none) (fun _ => ⟨rfl, fun _ h => h⟩) ?_
      simp
      refine ⟨by omega, ?_⟩
      refine loopQ.mk (i + 1, acc ++ [set[i]], b) (Weak.to [0, 1, 2, 7, 8, 9] [(29, 7)] (by decide) (by decide) (by simp [hp]) (by simp) (by simp)) ?_ ?_
      · refine ⟨h4, by have := hi4.2.1; simp; omega, ?_, ?_⟩
        · dsimp only
          rw [filter_take_succ h4, ← hi4.2.2.1]; simp [h6]
        · dsimp only
          rw [List.take_succ_eq_append_getElem h4, List.any_append, ← hi4.2.2.2]; simp [h6]
      · omega
  · refine LWp.exit ?_
    simp
    refine LWp.seq ?_
    refine LWp.seq ?_
    refine LWp.reg hT hW (fun _ => none) (fun _ => ⟨rfl, fun _ h => h⟩) ?_
    simp
    refine LWp.block ?_
    refine LWp.loopW (ι := Nat × List Nm) (fun ⟨j, acc2⟩ => mkEnv [(2, .d (edsD o)), (7, .ow 7 0 acc2.length), (8, .d (.bool b)), (10, .d (I64 j))]) (fun ⟨j, acc2⟩ => mkObs [(7, .row false 2 (acc2.map Nm.d))]) (fun ⟨j, acc2⟩ => j ≤ o.length ∧ acc2 = acc ++ (if b = true then (o.map Ed.name).take j else [])) (fun ⟨j, acc2⟩ => o.length - j) (0, acc) (Weak.to [2, 7, 8, 10] [(7, 7)] (by decide) (by decide) (by simp [hp]) (by simp) (by simp)) (by simp) fun ⟨j, acc2⟩ hi10 => ?_
    refine LWp.seq ?_
    refine LWp.seq ?_
    refine LWp.reg hT hW (fun _ => none) (fun _ => ⟨rfl, fun _ h => h⟩) ?_
    simp
    refine LWp.iff ?_
    simp
    refine ⟨fun h10 g10 => ?_, fun h10 => ?_⟩
    · refine LWp.skip ?_
      simp
      refine LWp.seq ?_
      refine LWp.block ?_
      have hal : acc2.length ≤ acc.length + j := by
        rw [hi10.2, if_pos g10]; simp; omega
      have hj10 : j < o.length := by omega
      refine LWp.reg hT hW (fun _ => none) (fun _ => ⟨rfl, fun _ h => h⟩) ?_
      simp [hj10]
      refine ⟨by have := hi4.2.1; omega, ?_⟩
      refine LWp.reg hT hW (fun _ => none) (fun _ => ⟨rfl, fun _ h => h⟩) ?_
      simp
      refine ⟨by omega, ?_⟩
      refine loopQ.mk (j + 1, acc2 ++ [o[j].name]) (Weak.to [2, 7, 8, 10] [(46, 7)] (by decide) (by decide) (by simp [hp]) (by simp) (by simp)) ?_ ?_
      · refine ⟨by omega, ?_⟩
        dsimp only
        rw [hi10.2, if_pos g10, if_pos g10, map_take_succ (by omega), List.append_assoc]
      · omega
    · refine LWp.exit ?_
      simp
      refine LWp.seq ?_
      have hal : acc2.length ≤ acc.length + o.length := by
        rw [hi10.2]; split <;> simp; omega
      have hac : swapN set S (o.map Ed.name) = sortN acc2 := by
        unfold swapN
        have e1 := hi4.2.2.1
        have e2 := hi4.2.2.2
        rw [List.take_of_length_le (by omega)] at e1 e2
        have e3 : (set.filter fun n => decide (n ∉ S)) = set.filter fun n => !decide (n ∈ S) := by simp
        rw [e3, ← e1, ← e2, hi10.2]
        by_cases q : b = true
        · rw [if_pos q, if_pos q, List.take_of_length_le (by have := h10; simp [q] at this; simp; omega)]
        · rw [if_neg q, if_neg q]
      refine LWp.reg hT hW (fun | 48 => some <| .plain ⟨.d (nmsD (sortN acc2)), true⟩ | _ => none) (by intro d; first | exact ⟨rfl, fun _ h => h⟩ | (split <;> exact ⟨rfl, fun _ h => h⟩)) ?_
      simp
      refine ⟨Sort_ok acc2 (by have := hi4.2.1; omega), ?_⟩
      refine LWp.ret ?_
      rw [hac]; simp
def swapE (S : List Nm) (o : List Ed) (e : Ed) : Ed := { e with needs := swapN e.needs S (o.map Ed.name) }
theorem replL_eq (l : List Ed) (S : List Nm) (o : List Ed) : replL l S o = (l.filter fun e => !decide (e.name ∈ S)).map (swapE S o) ++ o := by
  have e : (l.filter fun e => decide (e.name ∉ S)) = l.filter fun e => !decide (e.name ∈ S) := by simp
  unfold replL
  rw [e]; rfl
theorem sw1 (S : List Nm) (o : List Ed) (e : Ed) : (swapE S o e).name = e.name := rfl
theorem sw2 (S : List Nm) (o : List Ed) (e : Ed) : (swapE S o e).needs = swapN e.needs S (o.map Ed.name) := rfl
theorem sw3 (S : List Nm) (o : List Ed) (e : Ed) : (swapE S o e).puts = e.puts := rfl
theorem sw4 (S : List Nm) (o : List Ed) (e : Ed) : (swapE S o e).drops = e.drops := rfl
attribute [local simp] sw1 sw2 sw3 sw4
theorem Replaced_ok (l : List Ed) (S : List Nm) (o : List Ed) (h1 : l.length ≤ 400000) (h2 : o.length ≤ 400000) (hn : ∀ e ∈ l, e.needs.length ≤ 400000) : Ok Tryz.prog 38 [edsD l, nmsD S, edsD o] ⟨.d (edsD (replL l S o)), false⟩ := by
  refine Ok.ret Tryz.func38 (by kernel_rfl) (c := _) rfl Tryz.ntmps38 (by simp) Tryz.results38 (by intro _ h; cases h) fun w0 X hp => ?_
  refine LWp.seq ?_
  refine LWp.reg hT hW (fun _ => none) (fun _ => ⟨rfl, fun _ h => h⟩) ?_
  simp
  refine LWp.seq ?_
  refine LWp.reg hT hW (fun _ => none) (fun _ => ⟨rfl, fun _ h => h⟩) ?_
  simp
  refine LWp.seq ?_
  refine LWp.seq ?_
  refine LWp.reg hT hW (fun _ => none) (fun _ => ⟨rfl, fun _ h => h⟩) ?_
  simp
  refine LWp.block ?_
  refine LWp.loopW (ι := Nat × List Ed) (fun ⟨i, acc⟩ => mkEnv [(0, .d (edsD l)), (1, .d (nmsD S)), (2, .d (edsD o)), (7, .ow 7 0 acc.length), (8, .d (I64 i))]) (fun ⟨i, acc⟩ => mkObs [(7, .row false 5 (acc.map Ed.d))]) (fun ⟨i, acc⟩ => i ≤ l.length ∧ acc.length ≤ i ∧ acc = ((l.take i).filter fun e => !decide (e.name ∈ S)).map (swapE S o)) (fun ⟨i, acc⟩ => l.length - i) (0, []) (Weak.to [0, 1, 2, 7, 8] [(7, 7)] (by decide) (by decide) (by simp [hp]) (by simp) (by simp)) (by simp) fun ⟨i, acc⟩ hi3 => ?_
  refine LWp.seq ?_
  refine LWp.seq ?_
  refine LWp.reg hT hW (fun _ => none) (fun _ => ⟨rfl, fun _ h => h⟩) ?_
  simp
  refine LWp.iff ?_
  simp
  refine ⟨fun h3 => ?_, fun h3 => ?_⟩
  · refine LWp.skip ?_
    simp
    refine LWp.seq ?_
    refine LWp.block ?_
    refine LWp.seq ?_
    refine LWp.seq ?_
    refine LWp.reg hT hW (fun | 22 => some <| .plain ⟨.d (.bool (decide (l[i].name ∈ S))), true⟩ | _ => none) (by intro d; first | exact ⟨rfl, fun _ h => h⟩ | (split <;> exact ⟨rfl, fun _ h => h⟩)) ?_
    simp [h3]
    refine ⟨Has_ok _ _, ?_⟩
    refine LWp.iff ?_
    simp
    refine ⟨fun h5 => ?_, fun h5 => ?_⟩
    · refine LWp.exit ?_
      simp
      refine LWp.reg hT hW (fun _ => none) (fun _ => ⟨rfl, fun _ h => h⟩) ?_
      simp
      refine ⟨by omega, ?_⟩
      refine loopQ.mk (i + 1, acc) (Weak.to [0, 1, 2, 7, 8] [(7, 7)] (by decide) (by decide) (by simp [hp]) (by simp) (by simp)) ?_ ?_
      · refine ⟨h3, by have := hi3.2.1; dsimp only; omega, ?_⟩
        dsimp only
        rw [filter_take_succ h3, List.map_append, ← hi3.2.2]; simp [h5]
      · omega
    · refine LWp.skip ?_
      simp
      refine LWp.seq ?_
      refine LWp.reg hT hW (fun _ => none) (fun _ => ⟨rfl, fun _ h => h⟩) ?_
      simp [h3]
      refine LWp.seq ?_
      refine LWp.reg hT hW (fun | 34 => some <| .plain ⟨.d (nmsD (swapN l[i].needs S (o.map Ed.name))), false⟩ | _ => none) (by intro d; first | exact ⟨rfl, fun _ h => h⟩ | (split <;> exact ⟨rfl, fun _ h => h⟩)) ?_
      simp [h3]
      refine ⟨by simpa using Swapped_ok l[i].needs S o (hn _ (List.getElem_mem h3)) h2, ?_⟩
      refine LWp.reg hT hW (fun _ => none) (fun _ => ⟨rfl, fun _ h => h⟩) ?_
      simp [h3]
      refine ⟨by have := hi3.2.1; omega, ?_⟩
      refine LWp.reg hT hW (fun _ => none) (fun _ => ⟨rfl, fun _ h => h⟩) ?_
      simp
      refine ⟨by omega, ?_⟩
      refine loopQ.mk (i + 1, acc ++ [swapE S o l[i]]) (Weak.to [0, 1, 2, 7, 8] [(39, 7)] (by decide) (by decide) (by simp [hp]) (by simp) (by simp)) ?_ ?_
      · refine ⟨h3, by have := hi3.2.1; simp; omega, ?_⟩
        dsimp only
        rw [filter_take_succ h3, List.map_append, ← hi3.2.2]; simp [h5]
      · omega
  · refine LWp.exit ?_
    simp
    refine LWp.seq ?_
    refine LWp.reg hT hW (fun _ => none) (fun _ => ⟨rfl, fun _ h => h⟩) ?_
    simp
    refine ⟨⟨by have := hi3.2.1; omega, by have := hi3.2.1; omega⟩, ?_⟩
    refine LWp.ret ?_
    have e : acc = (l.filter fun e => !decide (e.name ∈ S)).map (swapE S o) := by rw [hi3.2.2, List.take_of_length_le (by omega)]
    rw [replL_eq, ← e]
    simp
    rw [List.take_of_length_le (by simp)]
end Go.Eng
namespace Go.Eng
open Go.Proofs
attribute [local simp] runL stepL evalG evalOp opLV constLV putEnv dstOk upd upds Res.plain Res.cond Res.fail evalBin evalUn seqQ blockQ argsEnv lookL lookH RetIs memless freshL evalPick evalMin bval bok evalLen evalIn strip whenC guardOps guardC slotsOf
  runM foldS stepI stepM maskE wrIn lk renO lookN evalCall evalCallee optAll resLV resObj retLV retObj retsLV retsObj evalLoad evalIndexAddr evalField solid cellsD_agg cellsD_int cellsD_bool cellsD_str cellsD_sl cellsD_ro cellsD_fn cellsL_agg cellsL_dagg cellsL_int cellsL_bool cellsL_str cellsL_sl cellsL_fn cellsL_ow cellsL_bx cellsL_lfn cellsL_nl takeL takeD mkAgg allD eqD eqDs kindsAre kindIs LObj.live TK.isNone TK.agg TK.isBool TK.isStr TK.isStruct Op.operands Call.operands
  evalBuildSlice evalAppend elemsOf evalStore evalBuild fillL lookupF putL evalSlice bound evalConv elemsS freezes frozen loadR
  mkEnv_at mkObs_at close_d close_agg close_ow close_bx close_fn close_nl touch_d touch_agg touch_ow touch_bx touch_fn touch_nl ren_d ren_agg ren_bx ren_rp ren_ow ren_fn ren_nl ren_junk retQ_ret retQ2_ret condQ_bool Nm.d Df.d Ed.d nmsD dfsD strsD edsD retC_ret nm_eq df_eq take_map_len take_map_app
  nm_t nm_d nm_td df_t df_d df_td str_t str_d str_td ed_t ed_d ed_td
  evalAppendIn evalCut evalClear evalCopy evalMake evalWrap evalCap evalNil isNilC lenL isInp gorc
  mapOf findD keyEq keyOk evalMakeMap evalRange zeroD zeroDV argsG shutG outN lenv retG0_ret retG0_normal retG1_ret renO close_mp touch_mp ren_mp optAll_d optAll_d' touch_ds cellsL_mp cellsD_mp cellsL_dmp
  evalMapSet evalPtr TK.isPtr evalToArr firstL retN_ret retsQ rvarL close_bm touch_bm ren_bm cellsD_bm cellsL_bm cellsL_lbm
attribute [local simp] cutQ_normal cutQ_ret cutQ_exit
set_option maxRecDepth 10000
set_option maxHeartbeats 4000000
attribute [local simp] dF1 dF2 dF3 dF4 dF5 dP1 dP2 prD chunksD
theorem small_repl {l : List Ed} {S : List Nm} {o : List Ed} (hl : small l) (ho : small o) : small (replL l S o) := fun e he => by
  rw [replL_eq] at he
  rcases List.mem_append.1 he with q | q
  · obtain ⟨x, hx, rfl⟩ := List.mem_map.1 q
    exact hl x ((List.mem_filter.1 hx).1)
  · exact ho e q
theorem needs_repl {l : List Ed} {S : List Nm} {o : List Ed} {m : Nat} (hl : ∀ e ∈ l, e.needs.length + o.length ≤ m) (ho : ∀ e ∈ o, e.needs.length ≤ m) : ∀ e ∈ replL l S o, e.needs.length ≤ m := fun e he => by
  rw [replL_eq] at he
  rcases List.mem_append.1 he with q | q
  · obtain ⟨x, hx, rfl⟩ := List.mem_map.1 q
    have h1 := hl x ((List.mem_filter.1 hx).1)
    refine Nat.le_trans (sortN_len _) ?_
    rw [List.length_append]
    have h2 := List.length_filter_le (fun n => decide (n ∉ S)) x.needs
    have h3 : (if (x.needs.any fun n => decide (n ∈ S)) = true then o.map Ed.name else []).length ≤ o.length := by split <;> simp
    omega
  · exact ho e q
theorem fold_facts {l : List Int} {E : List Ed} (hE : IsMade l E) {D : List Df} {bits more : Int} (h1 : (squashV D E (someN E bits) (freshN E bits)).2 = 0) (h2 : (programV D E (cloN E (someN E (orBits bits more)))).2 = 0) :
    programV D (replL E (someN E bits) [(squashV D E (someN E bits) (freshN E bits)).1]) (swapN (cloN E (someN E (orBits bits more))) (someN E bits) [(squashV D E (someN E bits) (freshN E bits)).1.name]) = ((programV D E (cloN E (someN E (orBits bits more)))).1, 0) ∧
    small (replL E (someN E bits) [(squashV D E (someN E bits) (freshN E bits)).1]) := by
  have hl := hE.len
  obtain ⟨_, _, _, _, _, ht, _, hx⟩ := squash_inv (x := (squashV D E (someN E bits) (freshN E bits)).1) (by rw [← h1])
  refine ⟨fold_plain (by omega) (x := (squashV D E (someN E bits) (freshN E bits)).1) (w := (programV D E (cloN E (someN E (orBits bits more)))).1) (by rw [← h1]) (by rw [← h2]), small_repl hE.sm fun e he => ?_⟩
  rw [List.mem_singleton] at he
  rw [he, hx]
  unfold touches at ht
  rw [List.length_append, List.length_map] at ht
  exact ⟨by omega, by omega⟩
structure PartF (D : List Df) (E : List Ed) (e a b : Ed) (y z : Nm) (F : List Ed) : Prop where
  an : a.name = y
  bn : b.name = z
  sm : small F
  len : F.length ≤ 8
  needs : (allNeeds F).length ≤ 1000
  run : ∀ C w, programV D E C = (w, 0) → e.name ∈ C → programV D F (swapN C [e.name] [y, z]) = (w, 0)
  sq : squashV D F [y, z] e.name = if (programV D F (cloN F [y, z])).2 = 0 then (e, 0) else (default, (programV D F (cloN F [y, z])).2)
  few : (needsC F [y, z] (orderN F (cloN F [y, z]))).length ≤ 12
  clo : closureV F [y, z] = (cloN F [y, z], 0)
  clen : (cloN F [y, z]).length ≤ 8
theorem part_facts {l : List Int} {E : List Ed} (hE : IsMade l E) {D : List Df} {e : Ed} (he : e ∈ E) {first : List Str} {y z : Nm} (hy : y ∉ E.map Ed.name) (hz : z ∉ E.map Ed.name) (hne : y ≠ z) (h : (splitV e first y z).2 = 0) :
    PartF D E e (splitV e first y z).1.1 (splitV e first y z).1.2 y z (replL E [e.name] [(splitV e first y z).1.1, (splitV e first y z).1.2]) := by
  have hl := hE.len
  obtain ⟨a, ha⟩ : ∃ a, a = (splitV e first y z).1.1 := ⟨_, rfl⟩
  obtain ⟨b, hb⟩ : ∃ b, b = (splitV e first y z).1.2 := ⟨_, rfl⟩
  have hs : splitV e first y z = ((a, b), 0) := by rw [ha, hb, ← h]
  rw [← ha, ← hb]
  have hp := split_parts hE.ok he hs hy hz hne
  obtain ⟨k1, k2⟩ := parts_plain (D := D) hE.ok (by omega) he hs hy hz hne
  obtain ⟨_, _, _, ea, eb⟩ := split_inv hs
  have an : a.name = y := by rw [ea]; rfl
  have bn : b.name = z := by rw [eb]; rfl
  have hm := made_mem (in_made hE he)
  have hfl : (replL E [e.name] [a, b]).length ≤ 8 := by
    have := replL_len E [e.name] [a, b]
    simp at this; omega
  have hok := hp.ok (by omega)
  have hyz : ∀ n ∈ [y, z], n ∈ (replL E [e.name] [a, b]).map Ed.name := fun n hn => by
    rw [hp.names]
    simp only [List.mem_cons, List.not_mem_nil, or_false] at hn
    rcases hn with rfl | rfl
    · exact .inr (.inl an.symm)
    · exact .inr (.inr bn.symm)
  have hsp : ∀ (c : Bool) (u : Nm), (splitE e first u c).puts.length ≤ 1000000 ∧ (splitE e first u c).drops.length ≤ 1000000 := fun c u =>
    ⟨Nat.le_trans (List.length_filter_le _ _) (by omega), Nat.le_trans (List.length_filter_le _ _) (by omega)⟩
  have hno : needsOf E e.name = e.needs := needsOf_of (valid_nodup hE.ok) he
  have hclo := closure_closed hok hyz
  have hsix := clo_six hclo
  refine ⟨an, bn, small_repl hE.sm fun x hx => ?_, hfl, ?_, fun C w hw hin => k1 C w hw hin, k2, ?_, closureV_ok hok hyz, by omega⟩
  · simp only [List.mem_cons, List.not_mem_nil, or_false] at hx
    rcases hx with rfl | rfl
    · rw [ea]; exact hsp _ _
    · rw [eb]; exact hsp _ _
  · have h8 := needs_repl (l := E) (S := [e.name]) (o := [a, b]) (m := 8) (fun x hx => by
      have := (made_mem (in_made hE hx)).1
      simp; omega) fun x hx => by
      simp only [List.mem_cons, List.not_mem_nil, or_false] at hx
      have e6 : e.needs.length ≤ 6 := hm.1
      rcases hx with rfl | rfl
      · rw [ea]; exact Nat.le_trans e6 (by decide)
      · rw [eb]; exact Nat.le_trans e6 (by decide)
    have h9 := flat_le (f := Ed.needs) h8
    have h10 : (replL E [e.name] [a, b]).length * 8 ≤ 8 * 8 := Nat.mul_le_mul_right _ hfl
    unfold allNeeds; omega
  · have := needsC_few hok hyz (m := 6) fun n hn => by
      simp only [List.mem_cons, List.not_mem_nil, or_false] at hn
      rcases hn with rfl | rfl
      · rw [← an, hp.newA.1, hno]; exact hm.1
      · rw [← bn, hp.newB.1, hno]; exact hm.1
    simpa using this
theorem PatchFolds_ok (l : List Int) (base bits more parts : Int) (hr : ∀ n ∈ l, -9223372036854775808 ≤ n ∧ n ≤ 9223372036854775807) (q1 : -9223372036854775808 ≤ base ∧ base ≤ 9223372036854775807) (q2 : -9223372036854775808 ≤ bits ∧ bits ≤ 9223372036854775807) (q3 : -9223372036854775808 ≤ more ∧ more ≤ 9223372036854775807) (q4 : -9223372036854775808 ≤ parts ∧ parts ≤ 9223372036854775807) : Ok Tryz.prog 7 [.sl (l.map I64), I64 base, I64 bits, I64 more, I64 parts] ⟨.d (.bool true), true⟩ := by
  refine Ok.ret Tryz.func7 (by kernel_rfl) (c := _) rfl Tryz.ntmps7 (by simp) Tryz.results7 (by intro _ h; cases h) fun w0 X hp => ?_
  obtain ⟨E, hE⟩ := is_made l
  have hmo := Made_ok l hr
  rw [← hE.eq] at hmo
  have hel := hE.len
  have hen := hE.needs
  have hes := hE.sm
  have hD := Base_ok base q1.1 q1.2
  have hDl := baseL_len base
  obtain ⟨D, hDD⟩ : ∃ D, D = baseL base := ⟨_, rfl⟩
  rw [← hDD] at hD hDl
  have hS := Some_ok E bits (by omega) q2.1 q2.2
  have hSl := someN_len E bits
  have hSn : ∀ n ∈ someN E bits, n ∈ E.map Ed.name := fun n hn => someN_sub hn
  have hY := Fresh_ok E bits q2
  have hYn := (fresh_not (l := E) (by omega) bits).1
  have hob : 0 ≤ orBits bits more ∧ orBits bits more < 65536 := by
    have r1 := around_lt bits 65536 (by decide)
    have r2 := around_lt more 65536 (by decide)
    have := (or_wrap (a := (around bits 65536).toNat) (b := (around more 65536).toNat) (by omega) (by omega)).2
    unfold orBits
    omega
  have hC := RClosed_ok E (orBits bits more) (by omega) (by omega) (by omega) (by omega)
  obtain ⟨hCl, hCc, hCd⟩ := closed_len hE (orBits bits more)
  rw [hCc] at hC hCl
  have a1 := Around_ok bits 65536 q2.1 q2.2 (by decide)
  have a2 := Around_ok more 65536 q3.1 q3.2 (by decide)
  have hor : IntKind.i64.wrap ((BitVec.ofInt 64 (around bits 65536) ||| BitVec.ofInt 64 (around more 65536)).toNat : Int) = orBits bits more := by
    have r1 := around_lt bits 65536 (by decide)
    have r2 := around_lt more 65536 (by decide)
    have := (or_wrap (a := (around bits 65536).toNat) (b := (around more 65536).toNat) (by omega) (by omega)).1
    rw [Int.toNat_of_nonneg r1.1, Int.toNat_of_nonneg r2.1] at this
    exact this
  have p0 := EProgram_ok D E (cloN E (someN E (orBits bits more))) hes (by omega) (by have : (cloN E (someN E (orBits bits more))).length ≤ 6 := hCl; omega)
  have hcS := clo_six (closure_closed hE.ok hSn)
  have hsq := PSquash_ok D E (someN E bits) (freshN E bits) hes (by omega) (by omega) (by omega) (needsC_six hE.ok (by omega) hSn) (by omega)
  have hff := fun w1 w2 => fold_facts hE (D := D) (bits := bits) (more := more) w1 w2
  have hC6 : (cloN E (someN E (orBits bits more))).length ≤ 6 := hCl
  obtain ⟨C, hCC⟩ : ∃ C, C = cloN E (someN E (orBits bits more)) := ⟨_, rfl⟩
  obtain ⟨ob, hobb⟩ : ∃ ob, ob = orBits bits more := ⟨_, rfl⟩
  rw [← hobb] at hC hor hCd
  rw [← hCC] at p0 hff hC6
  have hC' : Ok Tryz.prog 19 [edsD E, I64 ob] ⟨.d (nmsD C), false⟩ := by rw [hCC, ← hobb]; exact hC
  obtain ⟨S, hSS⟩ : ∃ S, S = someN E bits := ⟨_, rfl⟩
  obtain ⟨y, hyy⟩ : ∃ y, y = freshN E bits := ⟨_, rfl⟩
  rw [← hSS] at hS hSl hsq hff
  rw [← hyy] at hY hYn hsq hff
  obtain ⟨v, hv⟩ : ∃ v, v = squashV D E S y := ⟨_, rfl⟩
  obtain ⟨w, hw⟩ : ∃ w, w = programV D E C := ⟨_, rfl⟩
  rw [← hv] at hsq hff
  rw [← hw] at p0 hff
  have hneed : ∀ e ∈ E, e.needs.length ≤ 6 := fun e he => (made_mem (in_made hE he)).1
  have hR1 := Replaced_ok E S [v.1] (by omega) (by simp) (fun e he => by have := hneed e he; omega)
  have hW1 := Swapped_ok C S [v.1] (by omega) (by simp)
  have hp1 := fun s => EProgram_ok D (replL E S [v.1]) (swapN C S [v.1.name]) s (by omega) (by
    refine Nat.le_trans (sortN_len _) ?_
    rw [List.length_append]
    have h2 := List.length_filter_le (fun n => decide (n ∉ S)) C
    have h3 : (if (C.any fun n => decide (n ∈ S)) = true then [v.1.name] else []).length ≤ 1 := by split <;> simp
    omega)
  have hwith := lwith_ok E [⟨y, [], [], []⟩] (by omega) (by simp)
  have hF2 := Fresh_ok (E ++ [⟨y, [], [], []⟩]) more q3
  have hF2n := fresh_two (l := E) (x := ⟨y, [], [], []⟩) (by omega) more
  obtain ⟨z, hz⟩ : ∃ z, z = freshN (E ++ [⟨y, [], [], []⟩]) more := ⟨_, rfl⟩
  rw [← hz] at hF2 hF2n
  have hpf := fun e he first h => part_facts hE (D := D) (e := e) he (first := first) hYn hF2n.1 hF2n.2 h
  have hwp : w.2 = 0 → programV D E C = (w.1, 0) := fun h => by rw [← hw, ← h]
  clear hv hw hz hSS hyy hCC hobb hC hcS
  refine LWp.seq ?_
  refine LWp.reg hT hW (fun _ => none) (fun _ => ⟨rfl, fun _ h => h⟩) ?_
  simp
  refine LWp.seq ?_
  refine LWp.reg hT hW (fun | 40 => some <| .plain ⟨.d (edsD E), false⟩ | _ => none) (by intro d; first | exact ⟨rfl, fun _ h => h⟩ | (split <;> exact ⟨rfl, fun _ h => h⟩)) ?_
  simp
  refine ⟨hmo, ?_⟩
  refine LWp.seq ?_
  refine LWp.reg hT hW (fun | 42 => some <| .plain ⟨.d (dfsD D), true⟩ | _ => none) (by intro d; first | exact ⟨rfl, fun _ h => h⟩ | (split <;> exact ⟨rfl, fun _ h => h⟩)) ?_
  simp
  refine ⟨hD, ?_⟩
  refine LWp.seq ?_
  refine LWp.reg hT hW (fun | 45 => some <| .plain ⟨.d (nmsD S), true⟩ | _ => none) (by intro d; first | exact ⟨rfl, fun _ h => h⟩ | (split <;> exact ⟨rfl, fun _ h => h⟩)) ?_
  simp
  refine ⟨hS, ?_⟩
  refine LWp.seq ?_
  refine LWp.reg hT hW (fun | 48 => some <| .plain ⟨.d y.d, true⟩ | _ => none) (by intro d; first | exact ⟨rfl, fun _ h => h⟩ | (split <;> exact ⟨rfl, fun _ h => h⟩)) ?_
  simp
  refine ⟨hY, ?_⟩
  refine LWp.seq ?_
  refine LWp.reg hT hW (fun | 51 => some <| .plain ⟨.d (I64 (around bits 65536)), true⟩ | 53 => some <| .plain ⟨.d (I64 (around more 65536)), true⟩ | 55 => some <| .plain ⟨.d (nmsD C), false⟩ | _ => none) (by intro d; first | exact ⟨rfl, fun _ h => h⟩ | (split <;> exact ⟨rfl, fun _ h => h⟩)) ?_
  simp [IntKind.bits]
  refine ⟨⟨⟨a1, a2⟩, by rw [← hor] at hC'; exact hC'⟩, ?_⟩
  refine LWp.seq ?_
  refine LWp.reg hT hW (fun | 60 => some <| .plain ⟨.tup [.d (dfsD w.1), .d (I64 w.2)], true⟩ | _ => none) (by intro d; first | exact ⟨rfl, fun _ h => h⟩ | (split <;> exact ⟨rfl, fun _ h => h⟩)) ?_
  simp [evalExtract]
  refine ⟨p0, ?_⟩
  refine LWp.seq ?_
  refine LWp.reg hT hW (fun | 68 => some <| .plain ⟨.tup [.d v.1.d, .d (I64 v.2)], false⟩ | _ => none) (by intro d; first | exact ⟨rfl, fun _ h => h⟩ | (split <;> exact ⟨rfl, fun _ h => h⟩)) ?_
  simp [evalExtract]
  refine ⟨by simpa using hsq, ?_⟩
  refine LWp.seqCut (ι := Unit) (fun _u => mkEnv [(3, .d (I64 more)), (4, .d (I64 parts)), (11, .d (edsD E)), (12, .d (dfsD D)), (14, .bx 14 0), (15, .d (nmsD C)), (16, .d (dfsD w.1)), (17, .d (I64 w.2))]) (fun _u => mkObs [(14, .box false [.d (I64 y.who), .d (I64 y.seq)])]) (fun _u => True) ?_ fun _u hc13 => ?_
  · refine LWp.seq ?_
    refine LWp.reg hT hW (fun _ => none) (fun _ => ⟨rfl, fun _ h => h⟩) ?_
    simp
    refine LWp.iff ?_
    simp
    refine ⟨fun h8 g8 => ?_, fun h8 => ?_⟩
    · refine LWp.seq ?_
      obtain ⟨k1, k2⟩ := hff h8 g8
      have hp1 := hp1 k2
      rw [k1] at hp1
      refine LWp.reg hT hW (fun | 81 => some <| .plain ⟨.d (edsD (replL E S [v.1])), false⟩ | _ => none) (by intro d; first | exact ⟨rfl, fun _ h => h⟩ | (split <;> exact ⟨rfl, fun _ h => h⟩)) ?_
      simp
      refine ⟨by simpa using hR1, ?_⟩
      refine LWp.seq ?_
      refine LWp.reg hT hW (fun | 89 => some <| .plain ⟨.d (nmsD (swapN C S [v.1.name])), false⟩ | 90 => some <| .plain ⟨.tup [.d (dfsD w.1), .d (I64 0)], true⟩ | _ => none) (by intro d; first | exact ⟨rfl, fun _ h => h⟩ | (split <;> exact ⟨rfl, fun _ h => h⟩)) ?_
      simp [evalExtract]
      refine ⟨⟨by simpa using hW1, by simpa using hp1⟩, ?_⟩
      refine LWp.seq ?_
      refine LWp.reg hT hW (fun | 98 => some <| .plain ⟨.d (.bool true), true⟩ | _ => none) (by intro d; first | exact ⟨rfl, fun _ h => h⟩ | (split <;> exact ⟨rfl, fun _ h => h⟩)) ?_
      simp
      refine ⟨by simpa using ex_defs w.1 _ rfl, ?_⟩
      refine LWp.iff ?_
      simp
      refine LWp.skip ?_
      simp
      exact (Weak.to [3, 4, 11, 12, 14, 15, 16, 17] [(14, 14)] (by decide) (by decide) (by simp [hp]) (by simp) (by simp))
    · refine LWp.skip ?_
      simp
      exact (Weak.to [3, 4, 11, 12, 14, 15, 16, 17] [(14, 14)] (by decide) (by decide) (by simp [hp]) (by simp) (by simp))
  · refine LWp.seq ?_
    refine LWp.seq ?_
    refine LWp.reg hT hW (fun _ => none) (fun _ => ⟨rfl, fun _ h => h⟩) ?_
    simp
    refine LWp.block ?_
    refine LWp.loopW (ι := Nat) (fun i => mkEnv [(3, .d (I64 more)), (4, .d (I64 parts)), (11, .d (edsD E)), (12, .d (dfsD D)), (14, .bx 14 0), (15, .d (nmsD C)), (16, .d (dfsD w.1)), (17, .d (I64 w.2)), (23, .d (I64 i))]) (fun i => mkObs [(14, .box false [.d (I64 y.who), .d (I64 y.seq)])]) (fun i => i ≤ E.length) (fun i => E.length - i) 0 (Weak.to [3, 4, 11, 12, 14, 15, 16, 17, 23] [(14, 14)] (by decide) (by decide) (by simp [hp]) (by simp) (by simp)) (by simp) fun i hi14 => ?_
    refine LWp.seq ?_
    refine LWp.seq ?_
    refine LWp.reg hT hW (fun _ => none) (fun _ => ⟨rfl, fun _ h => h⟩) ?_
    simp
    refine LWp.iff ?_
    simp
    refine ⟨fun h14 => ?_, fun h14 => ?_⟩
    · refine LWp.skip ?_
      simp
      refine LWp.seq ?_
      refine LWp.block ?_
      refine LWp.seq ?_
      have hie := List.getElem_mem h14
      obtain ⟨e, he⟩ : ∃ e, e = E[i] := ⟨_, rfl⟩
      rw [← he] at hie
      have hsm := hes e hie
      have hpf := hpf e hie
      obtain ⟨T, hT'⟩ : ∃ T, T = tchN e := ⟨_, rfl⟩
      have hTl : T.length ≤ 2000000 := by rw [hT']; exact tchN_len hsm
      have hT2 := Touches23_ok e hsm
      rw [← hT'] at hT2
      refine LWp.reg hT hW (fun | 111 => some <| .plain ⟨.d (strsD T), true⟩ | _ => none) (by intro d; first | exact ⟨rfl, fun _ h => h⟩ | (split <;> exact ⟨rfl, fun _ h => h⟩)) ?_
      simp [h14, ← he]
      refine ⟨by simpa using hT2, ?_⟩
      refine LWp.seq ?_
      refine LWp.reg hT hW (fun _ => none) (fun _ => ⟨rfl, fun _ h => h⟩) ?_
      simp
      refine LWp.seq ?_
      refine LWp.seq ?_
      refine LWp.reg hT hW (fun _ => none) (fun _ => ⟨rfl, fun _ h => h⟩) ?_
      simp
      refine LWp.block ?_
      refine LWp.loopW (ι := Nat × List Str) (fun ⟨k, acc⟩ => mkEnv [(3, .d (I64 more)), (4, .d (I64 parts)), (11, .d (edsD E)), (12, .d (dfsD D)), (14, .bx 14 0), (15, .d (nmsD C)), (16, .d (dfsD w.1)), (17, .d (I64 w.2)), (23, .d (I64 i)), (24, .d (strsD T)), (25, .ow 25 0 acc.length), (26, .d (I64 k))]) (fun ⟨k, acc⟩ => mkObs [(14, .box false [.d (I64 y.who), .d (I64 y.seq)]), (25, .row false 1 (acc.map .str))]) (fun ⟨k, acc⟩ => k ≤ T.length ∧ acc.length ≤ k) (fun ⟨k, acc⟩ => T.length - k) (0, []) (Weak.to [3, 4, 11, 12, 14, 15, 16, 17, 23, 24, 25, 26] [(14, 14), (25, 25)] (by decide) (by decide) (by simp [hp]) (by simp) (by simp)) (by simp) fun ⟨k, acc⟩ hi19 => ?_
      refine LWp.seq ?_
      refine LWp.seq ?_
      refine LWp.reg hT hW (fun _ => none) (fun _ => ⟨rfl, fun _ h => h⟩) ?_
      simp
      refine LWp.iff ?_
      simp
      refine ⟨fun h19 => ?_, fun h19 => ?_⟩
      · refine LWp.skip ?_
        simp
        refine LWp.seq ?_
        refine LWp.block ?_
        refine LWp.seq ?_
        have hm1 : 0 ≤ ((k : Int)).tmod 20 := Int.tmod_nonneg _ (by omega)
        have hm2 : ((k : Int)).tmod 20 < 20 := Int.tmod_lt_of_pos _ (by omega)
        obtain ⟨k0, hk0⟩ : ∃ k0 : Nat, (k0 : Int) = ((k : Int)).tmod 20 := ⟨(((k : Int)).tmod 20).toNat, by omega⟩
        have hkw := u64_nat (k := k0) (by omega)
        have hk64 : min k0 64 = k0 := by omega
        refine LWp.reg hT hW (fun _ => none) (fun _ => ⟨rfl, fun _ h => h⟩) ?_
        simp [← hk0, hkw, IntKind.bits, hk64]
        refine LWp.iff ?_
        simp
        refine ⟨fun h21 => ?_, fun h21 => ?_⟩
        · refine LWp.reg hT hW (fun _ => none) (fun _ => ⟨rfl, fun _ h => h⟩) ?_
          simp [h19]
          refine ⟨by have := hi19.2; omega, ?_⟩
          refine LWp.reg hT hW (fun _ => none) (fun _ => ⟨rfl, fun _ h => h⟩) ?_
          simp
          refine ⟨by omega, ?_⟩
          refine loopQ.mk (k + 1, acc ++ [T[k]]) (Weak.to [3, 4, 11, 12, 14, 15, 16, 17, 23, 24, 25, 26] [(14, 14), (131, 25)] (by decide) (by decide) (by simp [hp]) (by simp) (by simp)) ?_ ?_
          · refine ⟨h19, by have := hi19.2; simp; omega⟩
          · omega
        · refine LWp.skip ?_
          simp
          refine LWp.reg hT hW (fun _ => none) (fun _ => ⟨rfl, fun _ h => h⟩) ?_
          simp
          refine ⟨by omega, ?_⟩
          refine loopQ.mk (k + 1, acc) (Weak.to [3, 4, 11, 12, 14, 15, 16, 17, 23, 24, 25, 26] [(14, 14), (25, 25)] (by decide) (by decide) (by simp [hp]) (by simp) (by simp)) ?_ ?_
          · refine ⟨h19, by have := hi19.2; dsimp only; omega⟩
          · omega
      · refine LWp.exit ?_
        simp
        refine LWp.seq ?_
        refine LWp.weak (Weak.close 25 (x := strsD acc) (by simp)) ?_
        refine LWp.regAny hT hW hMixed (lk [[],[],[],[2],[2,3],[1,2,3,4],[],[1,2,3,4,5,6],[0,1,2,3,4,5,6,7],[],[0,1,2,3,4,5,6,7,8,9]]) (lk [[27,136,137,139],[27,136],[27],[27],[27],[27],[27,136,137],[27],[27],[136,137,139],[]]) (lk [[],[],[],[],[136],[137,136],[],[139],[],[27],[27]]) (by kernel_rfl) (fun | 137 => some <| .plain ⟨.d (edsD (E ++ [⟨y, [], [], []⟩])), false⟩ | 139 => some <| .plain ⟨.d z.d, true⟩ | _ => none) (by intro d; first | exact ⟨rfl, fun _ h => h⟩ | (split <;> exact ⟨rfl, fun _ h => h⟩)) ?_
        simp
        refine ⟨⟨by simpa using hwith, by simpa using hF2⟩, ?_⟩
        obtain ⟨u, hu⟩ : ∃ u, u = splitV e acc y z := ⟨_, rfl⟩
        have hpf := hpf acc
        rw [← hu] at hpf
        have hsp := PSplit_ok e acc y z hsm (by have := hneed e hie; omega)
        rw [← hu] at hsp
        refine LWp.seq ?_
        refine LWp.regAny hT hW hMixed (lk [[],[],[0,1],[0,1,2],[],[],[0,1,2,3,4,5],[0,1,2,3,4,5,6],[0,1,2,3,4,5,6,7],[0,1,2,3,4,5,6,7],[],[0,1,2,3,4,5,6,7,8,10],[0,1,2,3,4,5,6,7,8,9,10,11]]) (lk [[28],[28],[28],[28],[28],[28],[28],[28],[28],[28],[148],[],[]]) (lk [[],[],[],[],[],[],[148],[],[],[],[28],[28],[]]) (by kernel_rfl) (fun | 148 => some <| .plain ⟨.tup [.d (edsP u.1), .d (I64 u.2)], false⟩ | _ => none) (by intro d; first | exact ⟨rfl, fun _ h => h⟩ | (split <;> exact ⟨rfl, fun _ h => h⟩)) ?_
        simp [evalExtract, h14, ← he, edsP]
        refine ⟨by simpa [edsP] using hsp, ?_⟩
        refine LWp.seq ?_
        refine LWp.seq ?_
        refine LWp.reg hT hW (fun _ => none) (fun _ => ⟨rfl, fun _ h => h⟩) ?_
        simp
        refine LWp.iff ?_
        simp
        refine ⟨fun h25 => ?_, fun h25 => ?_⟩
        · refine LWp.exit ?_
          simp
          refine LWp.reg hT hW (fun _ => none) (fun _ => ⟨rfl, fun _ h => h⟩) ?_
          simp
          refine ⟨by omega, ?_⟩
          refine loopQ.mk (i + 1) (Weak.to [3, 4, 11, 12, 14, 15, 16, 17, 23] [(14, 14)] (by decide) (by decide) (by simp [hp]) (by simp) (by simp)) ?_ ?_
          · omega
          · omega
        · refine LWp.skip ?_
          simp
          refine LWp.seq ?_
          have f := hpf h25
          obtain ⟨a, ha⟩ : ∃ a, a = u.1.1 := ⟨_, rfl⟩
          obtain ⟨b, hb⟩ : ∃ b, b = u.1.2 := ⟨_, rfl⟩
          rw [← ha, ← hb] at f ⊢
          have hRb := Replaced_ok E [e.name] [a, b] (by omega) (by simp) (fun e he => by have := hneed e he; omega)
          obtain ⟨F, hF⟩ : ∃ F, F = replL E [e.name] [a, b] := ⟨_, rfl⟩
          rw [← hF] at f hRb
          refine LWp.weak (Weak.close 27 (x := .ro [I64 y.who, I64 y.seq, I64 z.who, I64 z.seq]) (by simp)) ?_
          refine LWp.weak (Weak.close 28 (x := .ro (cellsD a.d ++ cellsD b.d)) (by simp)) ?_
          refine LWp.regAny hT hW hMixed (lk [[],[],[],[1,2],[1,2,3],[1,2,3,4],[1,2,3,4,5],[],[0,1,2,3,4,5,6,7],[0,1,2,3,4,5,6,7,8]]) (lk [[159],[],[],[],[],[],[],[159],[],[]]) (lk [[],[],[],[],[],[],[159],[],[161,159],[]]) (by kernel_rfl) (fun | 161 => some <| .plain ⟨.d (edsD F), false⟩ | _ => none) (by intro d; first | exact ⟨rfl, fun _ h => h⟩ | (split <;> exact ⟨rfl, fun _ h => h⟩)) ?_
          simp [h14, ← he]
          refine ⟨by simpa using hRb, ?_⟩
          refine LWp.seqCut (ι := Unit) (fun _u => mkEnv [(3, .d (I64 more)), (4, .d (I64 parts)), (11, .d (edsD E)), (12, .d (dfsD D)), (14, .bx 14 0), (15, .d (nmsD C)), (16, .d (dfsD w.1)), (17, .d (I64 w.2)), (23, .d (I64 i)), (27, .d (.ro [I64 y.who, I64 y.seq, I64 z.who, I64 z.seq])), (30, .d (edsD F))]) (fun _u => mkObs [(14, .box false [.d (I64 y.who), .d (I64 y.seq)])]) (fun _u => True) ?_ fun _u hc31 => ?_
          · refine LWp.seq ?_
            refine LWp.reg hT hW (fun | 168 => some <| .plain ⟨.d (.bool (decide (e.name ∈ C))), true⟩ | _ => none) (by intro d; first | exact ⟨rfl, fun _ h => h⟩ | (split <;> exact ⟨rfl, fun _ h => h⟩)) ?_
            simp [h14, ← he]
            refine ⟨Has_ok _ _, ?_⟩
            refine LWp.iff ?_
            simp
            refine ⟨fun h27 g27 => ?_, fun h27 => ?_⟩
            · refine LWp.seq ?_
              have hW2 := Swapped_ok C [e.name] [a, b] (by omega) (by simp)
              have hp2 := EProgram_ok D F (swapN C [e.name] [y, z]) f.sm (by omega) (by
                refine Nat.le_trans (sortN_len _) ?_
                rw [List.length_append]
                have h2 := List.length_filter_le (fun n => decide (n ∉ [e.name])) C
                have h3 : (if (C.any fun n => decide (n ∈ [e.name])) = true then [y, z] else []).length ≤ 2 := by split <;> simp
                omega)
              rw [f.run C w.1 (hwp g27) h27] at hp2
              have hab : List.map Ed.name [a, b] = [y, z] := by simp [f.an, f.bn]
              rw [hab] at hW2
              refine LWp.regAny hT hW hMixed (lk [[],[],[],[],[],[3,4],[3,4,5],[3,4,5,6],[3,4,5,6,7],[],[2,3,4,5,6,7,8,9],[0,1,2,3,4,5,6,7,8,9,10],[0,1,2,3,4,5,6,7,8,9,10,11],[0,1,2,3,4,5,6,7,8,9,10,11,12],[0,1,2,3,4,5,6,7,8,9,10,11,12],[0,1,2,3,4,5,6,7,8,9,10,11,12,13],[0,1,2,3,4,5,6,7,8,9,10,11,12,13,14,15]]) (lk [[182,184],[182,184],[182],[],[],[],[],[],[],[182],[],[],[],[],[],[],[]]) (lk [[],[],[],[],[],[],[],[],[182],[],[184,182],[185],[],[],[],[],[]]) (by kernel_rfl) (fun | 184 => some <| .plain ⟨.d (nmsD (swapN C [e.name] [y, z])), false⟩ | 185 => some <| .plain ⟨.tup [.d (dfsD w.1), .d (I64 0)], true⟩ | _ => none) (by intro d; first | exact ⟨rfl, fun _ h => h⟩ | (split <;> exact ⟨rfl, fun _ h => h⟩)) ?_
              simp [evalExtract, h14, ← he]
              refine ⟨⟨by simpa using hW2, by simpa using hp2⟩, ?_⟩
              refine LWp.seq ?_
              refine LWp.reg hT hW (fun | 193 => some <| .plain ⟨.d (.bool true), true⟩ | _ => none) (by intro d; first | exact ⟨rfl, fun _ h => h⟩ | (split <;> exact ⟨rfl, fun _ h => h⟩)) ?_
              simp
              refine ⟨by simpa using ex_defs w.1 _ rfl, ?_⟩
              refine LWp.iff ?_
              simp
              refine LWp.skip ?_
              simp
              exact (Weak.to [3, 4, 11, 12, 14, 15, 16, 17, 23, 27, 30] [(14, 14)] (by decide) (by decide) (by simp [hp]) (by simp) (by simp))
            · refine LWp.skip ?_
              simp
              exact (Weak.to [3, 4, 11, 12, 14, 15, 16, 17, 23, 27, 30] [(14, 14)] (by decide) (by decide) (by simp [hp]) (by simp) (by simp))
          · refine LWp.seq ?_
            have hsq2 := PSquash_ok D F [y, z] e.name f.sm (by omega) (by simp) (by have := f.needs; omega) f.few (by have := f.clen; omega)
            have hcl2 := Closure_ok F [y, z] f.needs (by simp)
            rw [f.clo] at hcl2
            have hp3 := EProgram_ok D F (cloN F [y, z]) f.sm (by omega) (by have := f.clen; omega)
            have hsq := f.sq
            obtain ⟨s, hs⟩ : ∃ s, s = squashV D F [y, z] e.name := ⟨_, rfl⟩
            obtain ⟨K, hK⟩ : ∃ K, K = cloN F [y, z] := ⟨_, rfl⟩
            rw [← hs] at hsq hsq2
            rw [← hK] at hcl2 hp3 hsq
            obtain ⟨q, hq⟩ : ∃ q, q = programV D F K := ⟨_, rfl⟩
            rw [← hq] at hp3 hsq
            clear hs hK hq
            refine LWp.regAny hT hW hMixed (lk [[],[],[],[],[],[3,4],[3,4,5],[3,4,5,6],[0,1,2,3,4,5,6,7],[0,1,2,3,4,5,6,7,8],[0,1,2,3,4,5,6,7,8,9],[0,1,2,3,4,5,6,7,8,9],[],[0,1,2,3,4,5,6,7,8,9,10,12],[0,1,2,3,4,5,6,7,8,9,10,11,12,13]]) (lk [[33],[33],[33],[33],[33],[33],[33],[33],[33],[33],[33],[33],[205],[],[]]) (lk [[],[],[],[],[],[],[],[],[205],[],[],[],[33],[33],[]]) (by kernel_rfl) (fun | 205 => some <| .plain ⟨.tup [.d s.1.d, .d (I64 s.2)], false⟩ | _ => none) (by intro d; first | exact ⟨rfl, fun _ h => h⟩ | (split <;> exact ⟨rfl, fun _ h => h⟩)) ?_
            simp [evalExtract, h14, ← he]
            refine ⟨by simpa using hsq2, ?_⟩
            refine LWp.seq ?_
            refine LWp.reg hT hW (fun | 211 => some <| .plain ⟨.tup [.d (nmsD K), .d (I64 0)], false⟩ | _ => none) (by intro d; first | exact ⟨rfl, fun _ h => h⟩ | (split <;> exact ⟨rfl, fun _ h => h⟩)) ?_
            simp [evalExtract]
            refine ⟨by simpa using hcl2, ?_⟩
            refine LWp.seq ?_
            refine LWp.reg hT hW (fun | 218 => some <| .plain ⟨.tup [.d (dfsD q.1), .d (I64 q.2)], true⟩ | _ => none) (by intro d; first | exact ⟨rfl, fun _ h => h⟩ | (split <;> exact ⟨rfl, fun _ h => h⟩)) ?_
            simp [evalExtract]
            refine ⟨by simpa using hp3, ?_⟩
            refine LWp.seq ?_
            have hcase : (s = (e, 0) ∧ q.2 = 0) ∨ (s = (default, q.2) ∧ ¬ q.2 = 0) := by
              by_cases hq0 : q.2 = 0
              · rw [if_pos hq0] at hsq; exact .inl ⟨hsq, hq0⟩
              · rw [if_neg hq0] at hsq; exact .inr ⟨hsq, hq0⟩
            rcases hcase with ⟨rfl, hq0⟩ | ⟨rfl, hq0⟩
            · refine LWp.regAny hT hW hMixed (lk [[],[0],[],[2],[0,1,2,3],[0,1,2,3,4],[0,1,2,3,4,5],[0,1,2,3,4,5,6],[0,1,2,3,4,5,6,7],[0,1,2,3,4,5,6,7,8],[0,1,2,3,4,5,6,7,8],[0,1,2,3,4,5,6,7,8],[0,1,2,3,4,5,6,7,8,10,11],[0,1,2,3,4,5,6,7,8,10,11,12],[0,1,2,3,4,5,6,7,8,9,10,11,12,13],[0,1,2,3,4,5,6,7,8,9,10,11,12,13,14],[0,1,2,3,4,5,6,7,8,9,10,11,12,13,14,15],[0,1,2,3,4,5,6,7,8,9,10,11,12,13,14,15,16]]) (lk [[],[],[],[],[],[],[],[],[],[],[],[],[],[],[],[],[],[]]) (lk [[],[],[],[],[],[],[],[],[],[],[],[],[],[],[235],[],[],[]]) (by kernel_rfl) (fun | 235 => some <| .plain ⟨.d (.bool true), true⟩ | _ => none) (by intro d; first | exact ⟨rfl, fun _ h => h⟩ | (split <;> exact ⟨rfl, fun _ h => h⟩)) ?_
              simp [h14, ← he, hq0]
              try refine ⟨by simpa using ex_same e e rfl, ?_⟩
              refine LWp.iff ?_
              simp
              refine LWp.skip ?_
              simp
              refine LWp.reg hT hW (fun _ => none) (fun _ => ⟨rfl, fun _ h => h⟩) ?_
              simp
              refine ⟨by omega, ?_⟩
              refine loopQ.mk (i + 1) (Weak.to [3, 4, 11, 12, 14, 15, 16, 17, 23] [(14, 14)] (by decide) (by decide) (by simp [hp]) (by simp) (by simp)) ?_ ?_
              · omega
              · omega
            · refine LWp.regAny hT hW hMixed (lk [[],[0],[],[2],[0,1,2,3],[0,1,2,3,4],[0,1,2,3,4,5],[0,1,2,3,4,5,6],[0,1,2,3,4,5,6,7],[0,1,2,3,4,5,6,7,8],[0,1,2,3,4,5,6,7,8],[0,1,2,3,4,5,6,7,8],[0,1,2,3,4,5,6,7,8,10,11],[0,1,2,3,4,5,6,7,8,10,11,12],[0,1,2,3,4,5,6,7,8,9,10,11,12,13],[0,1,2,3,4,5,6,7,8,9,10,11,12,13,14],[0,1,2,3,4,5,6,7,8,9,10,11,12,13,14,15],[0,1,2,3,4,5,6,7,8,9,10,11,12,13,14,15,16]]) (lk [[],[],[],[],[],[],[],[],[],[],[],[],[],[],[],[],[],[]]) (lk [[],[],[],[],[],[],[],[],[],[],[],[],[],[],[235],[],[],[]]) (by kernel_rfl) (fun | 235 => some <| .plain ⟨.d (.bool true), true⟩ | _ => none) (by intro d; first | exact ⟨rfl, fun _ h => h⟩ | (split <;> exact ⟨rfl, fun _ h => h⟩)) ?_
              simp [h14, ← he, hq0]
              try refine ⟨by simpa using ex_same e e rfl, ?_⟩
              refine LWp.iff ?_
              simp
              refine LWp.skip ?_
              simp
              refine LWp.reg hT hW (fun _ => none) (fun _ => ⟨rfl, fun _ h => h⟩) ?_
              simp
              refine ⟨by omega, ?_⟩
              refine loopQ.mk (i + 1) (Weak.to [3, 4, 11, 12, 14, 15, 16, 17, 23] [(14, 14)] (by decide) (by decide) (by simp [hp]) (by simp) (by simp)) ?_ ?_
              · omega
              · omega
    · refine LWp.exit ?_
      simp
      refine LWp.seq ?_
      refine LWp.reg hT hW (fun | 239 => some <| .plain ⟨.d (.bool true), true⟩ | _ => none) (by intro d; first | exact ⟨rfl, fun _ h => h⟩ | (split <;> exact ⟨rfl, fun _ h => h⟩)) ?_
      simp
      refine ⟨lives3_ok, ?_⟩
      refine LWp.ret ?_
      simp
end Go.Eng
