/-
  Texts of the proofs of this seat, part 8. No condition.
-/
import Derived.Test.YteklgabeddpinaaGreatMG
set_option linter.unusedVariables false
set_option linter.unusedSimpArgs false
namespace Go.Eng
open Go.Proofs
attribute [local simp] runL stepL evalG evalOp opLV constLV putEnv dstOk upd upds Res.plain Res.cond Res.fail evalBin evalUn seqQ blockQ argsEnv lookL lookH RetIs memless freshL evalPick evalMin bval bok evalLen evalIn strip whenC guardOps guardC slotsOf
  runM foldS stepI stepM maskE wrIn lk renO lookN evalCall evalCallee optAll resLV resObj retLV retObj retsLV retsObj evalLoad evalIndexAddr evalField solid cellsD_agg cellsD_int cellsD_bool cellsD_str cellsD_sl cellsD_ro cellsD_fn cellsL_agg cellsL_dagg cellsL_int cellsL_bool cellsL_str cellsL_sl cellsL_fn cellsL_ow cellsL_bx cellsL_lfn cellsL_nl takeL takeD mkAgg allD eqD eqDs kindsAre kindIs LObj.live TK.isNone TK.agg TK.isBool TK.isStr TK.isStruct Op.operands Call.operands
  evalBuildSlice evalAppend elemsOf evalStore evalBuild fillL lookupF putL evalSlice bound evalConv elemsS freezes frozen loadR
  mkEnv_at mkObs_at close_d close_agg close_ow close_bx close_fn close_nl touch_d touch_agg touch_ow touch_bx touch_fn touch_nl ren_d ren_agg ren_bx ren_rp ren_ow ren_fn ren_nl ren_junk retQ_ret retQ2_ret condQ_bool Nm.d Df.d Ed.d nmsD dfsD strsD edsD retC_ret nm_eq df_eq take_map_len take_map_app
  nm_t nm_d nm_td df_t df_d df_td str_t str_d str_td ed_t ed_d ed_td
  evalAppendIn evalCut evalClear evalCopy evalMake evalWrap evalCap evalNil isNilC lenL isInp gorc
  mapOf findD keyEq keyOk evalMakeMap evalRange zeroD zeroDV argsG shutG outN lenv retG0_ret retG0_normal retG1_ret renO close_mp touch_mp ren_mp optAll_d optAll_d' touch_ds cellsL_mp cellsD_mp cellsL_dmp
  evalMapSet evalPtr TK.isPtr evalToArr firstL retN_ret retsQ rvarL close_bm touch_bm ren_bm cellsD_bm cellsL_bm cellsL_lbm
attribute [local simp] cutQ_normal cutQ_ret cutQ_exit
set_option maxRecDepth 10000
set_option maxHeartbeats 1000000
attribute [local simp] dF1 dF2 dF3 dF4 dF5 prD
theorem dP1 : (default : Ed × Ed).1 = (default : Ed) := rfl
theorem dP2 : (default : Ed × Ed).2 = (default : Ed) := rfl
attribute [local simp] dP1 dP2
def edsP (p : Ed × Ed) : DV := .agg (cellsD p.1.d ++ cellsD p.2.d)
def nilE : List LV := [.d (I64 0), .d (I64 0), .nl, .nl, .nl]
def edE (e : Ed) : List LV := (cellsD e.d).map .d
def arrS (e : Ed) (first : List Str) (n m : Nm) : Nat → List LV
  | 0 => nilE ++ nilE
  | 1 => edE (splitE e first n true) ++ nilE
  | _ => edE (splitE e first n true) ++ edE (splitE e first m false)
theorem arrS0 (e : Ed) (first : List Str) (n m : Nm) : arrS e first n m 0 = [.d (I64 0), .d (I64 0), .nl, .nl, .nl, .d (I64 0), .d (I64 0), .nl, .nl, .nl] := rfl
theorem arrS1 (e : Ed) (first : List Str) (n m : Nm) : arrS e first n m 1 = [.d (I64 (splitE e first n true).name.who), .d (I64 (splitE e first n true).name.seq), .d (nmsD (splitE e first n true).needs), .d (dfsD (splitE e first n true).puts), .d (strsD (splitE e first n true).drops),
    .d (I64 0), .d (I64 0), .nl, .nl, .nl] := rfl
theorem arrS2 (e : Ed) (first : List Str) (n m : Nm) : arrS e first n m 2 = [.d (I64 (splitE e first n true).name.who), .d (I64 (splitE e first n true).name.seq), .d (nmsD (splitE e first n true).needs), .d (dfsD (splitE e first n true).puts), .d (strsD (splitE e first n true).drops),
    .d (I64 (splitE e first m false).name.who), .d (I64 (splitE e first m false).name.seq), .d (nmsD (splitE e first m false).needs), .d (dfsD (splitE e first m false).puts), .d (strsD (splitE e first m false).drops)] := rfl
attribute [local simp] arrS0 arrS1 arrS2
theorem touches_zero {e : Ed} : touches e = [] ↔ e.puts.length + e.drops.length = 0 := by
  unfold touches
  rw [List.append_eq_nil_iff, List.map_eq_nil_iff, ← List.length_eq_zero_iff, ← List.length_eq_zero_iff]
  omega
theorem cedit_split {e : Ed} {first : List Str} (n : Nm) (k : Int) (b : Bool) (hb : decide (k = 0) = b) (hpe : properE e = true) (hs : e.small) (hn : e.needs.length ≤ 1000000) :
    Ok Tryz.prog 66 [.mp (ck (applyC [] e)) (cv (applyC [] e)), n.d, nmsD e.needs, .fn 84 [.ro [strsD first], .ro [I64 k]]] ⟨.d (splitE e first n b).d, false⟩ := by
  rw [← split_editC hpe, ← hb]
  exact cedit_ok _ n e.needs (fun s => decide (s ∈ first) == decide (k = 0)) _ _ (fun s => Split1_ok first k s) (applyC_nodup e) (by have := applyC_len [] e; have := hs.1; have := hs.2; simp at *; omega) hn
theorem PSplit_ok (e : Ed) (first : List Str) (n m : Nm) (hs : e.small) (hnl : e.needs.length ≤ 1000000) : Ok Tryz.prog 27 [e.d, strsD first, prD (n, m)] ⟨.tup [.d (edsP (splitV e first n m).1), .d (I64 (splitV e first n m).2)], false⟩ := by
  refine Ok.many hT Tryz.func27 (by kernel_rfl) (c := _) rfl Tryz.ntmps27 (by simp) Tryz.results27 (by simp) (by rfl) fun w0 X hp => ?_
  refine LWp.len (t := 1) (xs := first.map .str) (by simp) fun hlen => ?_
  simp at hlen
  refine LWp.seq ?_
  refine LWp.reg hT hW (fun _ => none) (fun _ => ⟨rfl, fun _ h => h⟩) ?_
  simp
  refine LWp.seq ?_
  refine LWp.reg hT hW (fun _ => none) (fun _ => ⟨rfl, fun _ h => h⟩) ?_
  simp
  refine LWp.seq ?_
  refine LWp.seq ?_
  refine LWp.reg hT hW (fun | 15 => some <| .plain ⟨.d (I64 (aloneV e)), true⟩ | 20 => some <| .plain ⟨.d (.bool n.isName), true⟩ | 26 => some <| .plain ⟨.d (.bool m.isName), true⟩ | _ => none) (by intro d; first | exact ⟨rfl, fun _ h => h⟩ | (split <;> exact ⟨rfl, fun _ h => h⟩)) ?_
  simp
  refine ⟨⟨⟨alone_ok e hs, by intros; exact ppossible_ok n⟩, by intros; exact ppossible_ok m⟩, ?_⟩
  refine LWp.iff ?_
  simp
  refine ⟨fun h2 => ?_, fun h2 p2 q2 => ?_⟩
  · refine LWp.seq ?_
    refine LWp.reg hT hW (fun _ => none) (fun _ => ⟨rfl, fun _ h => h⟩) ?_
    simp
    refine LWp.ret ?_
    have e1 : splitV e first n m = (default, 1) := by
      unfold splitV
      rw [if_pos]
      rcases h2 with (h | h) | h
      · exact .inl (by simpa [alone_zero] using h)
      · exact .inr (.inl h)
      · exact .inr (.inr h)
    simp [e1, edsP]
  · refine LWp.skip ?_
    simp
    refine LWp.seq ?_
    refine LWp.seq ?_
    refine LWp.reg hT hW (fun | 40 => some <| .plain ⟨.d (.bool (decide (n ∈ e.needs))), true⟩ | 47 => some <| .plain ⟨.d (.bool (decide (m ∈ e.needs))), true⟩ | _ => none) (by intro d; first | exact ⟨rfl, fun _ h => h⟩ | (split <;> exact ⟨rfl, fun _ h => h⟩)) ?_
    simp
    refine ⟨⟨by intros; exact nsHas_ok _ _, by intros; exact nsHas_ok _ _⟩, ?_⟩
    refine LWp.iff ?_
    simp
    refine ⟨fun h4 => ?_, fun h4 p4 q4 => ?_⟩
    · refine LWp.seq ?_
      refine LWp.reg hT hW (fun _ => none) (fun _ => ⟨rfl, fun _ h => h⟩) ?_
      simp
      refine LWp.ret ?_
      have e1 : splitV e first n m = (default, 7) := by
        unfold splitV
        rw [if_neg (by simp [alone_zero.1 h2, p2, q2]), if_pos]
        rcases h4 with (h | h) | h
        · exact .inl h
        · exact .inr (.inl h)
        · exact .inr (.inr h)
      simp [e1, edsP]
    · refine LWp.skip ?_
      simp
      refine LWp.seq ?_
      have hpe : properE e = true := alone_zero.1 h2
      have hgo : splitV e first n m = if first.any (fun s => decide (s ∉ touches e)) = true then (default, 6) else if touches (splitE e first n true) = [] ∨ touches (splitE e first m false) = [] then (default, 15)
          else ((splitE e first n true, splitE e first m false), 0) := by
        unfold splitV
        rw [if_neg (by simp [hpe, p2, q2]), if_neg (by simp [h4, p4, q4])]
      refine LWp.reg hT hW (fun | 51 => some <| .plain ⟨.d (strsD (tchN e)), true⟩ | _ => none) (by intro d; first | exact ⟨rfl, fun _ h => h⟩ | (split <;> exact ⟨rfl, fun _ h => h⟩)) ?_
      simp
      refine ⟨PTouches_ok e hs, ?_⟩
      refine LWp.seq ?_
      refine LWp.seq ?_
      refine LWp.reg hT hW (fun _ => none) (fun _ => ⟨rfl, fun _ h => h⟩) ?_
      simp
      refine LWp.block ?_
      refine LWp.loopW (ι := Nat) (fun i => mkEnv [(3, .bx 3 0), (4, .bx 4 0), (5, .bx 5 0), (6, .bx 6 0), (7, .d (I64 0)), (8, .bx 8 0), (9, .d (strsD (tchN e))), (52, .d (strsD first)), (53, .d (I64 first.length)), (54, .d (I64 i))]) (fun i => mkObs [(3, .box false ((cellsD e.d).map .d)), (4, .box false [.d (strsD first)]), (5, .box false [.d (I64 n.who), .d (I64 n.seq), .d (I64 m.who), .d (I64 m.seq)]), (6, .box false (arrS e first n m 0)), (8, .box false (arrS e first n m 0))]) (fun i => i ≤ first.length ∧ Pre (fun s => !decide (s ∈ tchN e)) first i) (fun i => first.length - i) 0 (Weak.to [3, 4, 5, 6, 7, 8, 9, 52, 53, 54] [(3, 3), (4, 4), (5, 5), (6, 6), (8, 8)] (by decide) (by decide) (by simp [hp]) (by simp) (by simp)) (⟨Nat.zero_le _, Pre.zero⟩) fun i hi8 => ?_
      refine LWp.seq ?_
      refine LWp.reg hT hW (fun _ => none) (fun _ => ⟨rfl, fun _ h => h⟩) ?_
      simp
      refine LWp.seq ?_
      refine LWp.iff ?_
      simp
      refine ⟨fun h8 => ?_, fun h8 => ?_⟩
      · refine LWp.skip ?_
        simp
        refine LWp.seq ?_
        refine LWp.block ?_
        refine LWp.seq ?_
        refine LWp.reg hT hW (fun _ => none) (fun _ => ⟨rfl, fun _ h => h⟩) ?_
        simp [h8]
        refine LWp.seq ?_
        refine LWp.reg hT hW (fun | 60 => some <| .plain ⟨.d (.bool (decide (first[i] ∈ tchN e))), true⟩ | _ => none) (by intro d; first | exact ⟨rfl, fun _ h => h⟩ | (split <;> exact ⟨rfl, fun _ h => h⟩)) ?_
        simp
        refine ⟨InStr_ok _ _, ?_⟩
        refine LWp.iff ?_
        simp
        refine ⟨fun h10 => ?_, fun h10 => ?_⟩
        · refine LWp.seq ?_
          refine LWp.reg hT hW (fun _ => none) (fun _ => ⟨rfl, fun _ h => h⟩) ?_
          simp
          refine LWp.ret ?_
          have e1 : splitV e first n m = (default, 6) := by
            rw [hgo, if_pos (List.any_eq_true.2 ⟨_, List.getElem_mem h8, by simpa [mem_tchN] using h10⟩)]
          simp [e1, edsP]
        · refine LWp.skip ?_
          simp
          refine LWp.reg hT hW (fun _ => none) (fun _ => ⟨rfl, fun _ h => h⟩) ?_
          simp
          refine ⟨by omega, ?_⟩
          refine loopQ.mk (i + 1) (Weak.to [3, 4, 5, 6, 7, 8, 9, 52, 53, 54] [(3, 3), (4, 4), (5, 5), (6, 6), (8, 8)] (by decide) (by decide) (by simp [hp]) (by simp) (by simp)) ?_ ?_
          · exact ⟨h8, hi8.2.succ h8 (by simpa using h10)⟩
          · omega
      · refine LWp.exit ?_
        simp
        refine LWp.seq ?_
        have hany : ¬ first.any (fun s => decide (s ∉ touches e)) = true := by
          have h := hi8.2.any (by omega)
          simp only [mem_tchN] at h
          simpa using h
        rw [if_neg hany] at hgo
        refine LWp.reg hT hW (fun _ => none) (fun _ => ⟨rfl, fun _ h => h⟩) ?_
        simp
        refine LWp.seq ?_
        refine LWp.reg hT hW (fun | 67 => some (.gen ⟨[(64, 0)], [], [], [(0, .map false (ck (applyC [] e)) (cv (applyC [] e)))], .tup []⟩) | _ => none) (by intro d; first | exact ⟨rfl, fun _ h => h⟩ | (split <;> exact ⟨rfl, fun _ h => h⟩)) ?_
        simp
        refine ⟨by simpa [ck, cv] using apply_ok [] e hs, ?_⟩
        refine LWp.seq ?_
        refine LWp.seq ?_
        obtain ⟨c, hc⟩ : ∃ c, c = applyC [] e := ⟨_, rfl⟩
        rw [← hc]
        refine LWp.weak (Weak.close 12 (x := .mp (ck c) (cv c)) (by simp)) ?_
        refine LWp.weak (Weak.close 4 (x := .ro [strsD first]) (by simp)) ?_
        refine LWp.reg hT hW (fun _ => none) (fun _ => ⟨rfl, fun _ h => h⟩) ?_
        simp
        refine LWp.block ?_
        refine LWp.loopW (ι := Nat) (fun k => mkEnv [(3, .bx 3 0), (4, .d (.ro [strsD first])), (5, .bx 5 0), (6, .bx 6 0), (7, .d (I64 0)), (8, .bx 8 0), (12, .d (.mp (ck c) (cv c))), (68, .d (I64 k))]) (fun k => mkObs [(3, .box false ((cellsD e.d).map .d)), (5, .box false [.d (I64 n.who), .d (I64 n.seq), .d (I64 m.who), .d (I64 m.seq)]), (6, .box false (arrS e first n m 0)), (8, .box false (arrS e first n m k))]) (fun k => k ≤ 2 ∧ (0 < k → touches (splitE e first n true) ≠ []) ∧ (1 < k → touches (splitE e first m false) ≠ [])) (fun k => 2 - k) 0 (Weak.to [3, 4, 5, 6, 7, 8, 12, 68] [(3, 3), (5, 5), (6, 6), (8, 8)] (by decide) (by decide) (by simp [hp]) (by simp) (by simp)) (by simp) fun k hi16 => ?_
        refine LWp.seq ?_
        refine LWp.reg hT hW (fun _ => none) (fun _ => ⟨rfl, fun _ h => h⟩) ?_
        simp
        refine LWp.seq ?_
        refine LWp.iff ?_
        simp
        refine ⟨fun h16 => ?_, fun h16 => ?_⟩
        · refine LWp.skip ?_
          simp
          refine LWp.seq ?_
          refine LWp.block ?_
          refine LWp.seq ?_
          refine LWp.reg hT hW (fun _ => none) (fun _ => ⟨rfl, fun _ h => h⟩) ?_
          simp
          refine LWp.weak (Weak.close 13 (x := .ro [I64 k]) (by simp)) ?_
          refine LWp.seq ?_
          obtain ⟨z, hz⟩ : ∃ z, (k = 0 ∧ z = splitE e first n true) ∨ (k = 1 ∧ z = splitE e first m false) := by
            rcases (by omega : k = 0 ∨ k = 1) with q | q
            · exact ⟨_, .inl ⟨q, rfl⟩⟩
            · exact ⟨_, .inr ⟨q, rfl⟩⟩
          rcases hz with ⟨rfl, hz⟩ | ⟨rfl, hz⟩
          · have hzl : z.puts.length ≤ 1000000 ∧ z.drops.length ≤ 1000000 := by
              subst hz
              exact ⟨Nat.le_trans (List.length_filter_le _ _) hs.1, Nat.le_trans (List.length_filter_le _ _) hs.2⟩
            refine LWp.regAny hT hW hMixed (lk [[],[],[],[2],[2,3],[],[5],[],[1,2,3,4,5,6,7],[0,1,2,3,4,5,6,7,8],[0,1,2,3,4,5,6,7,8,9]]) (lk [[79],[],[],[],[],[],[],[],[],[],[]]) (lk [[],[],[],[],[],[],[],[],[79],[],[8]]) (by kernel_rfl) (fun | 79 => some <| .plain ⟨.d z.d, false⟩ | _ => none) (by intro d; first | exact ⟨rfl, fun _ h => h⟩ | (split <;> exact ⟨rfl, fun _ h => h⟩)) ?_
            simp
            refine ⟨by subst hc; subst hz; first | exact cedit_split n 0 true rfl hpe hs hnl | exact cedit_split m 1 false rfl hpe hs hnl, ?_⟩
            refine LWp.seq ?_
            refine LWp.regAny hT hW hMixed (lk [[],[0],[0,1],[0,1,2],[0,1,2,3],[],[5],[5,6],[5,6,7],[5,6,7,8],[0,1,2,3,4,5,6,7,8,9],[0,1,2,3,4,5,6,7,8,9,10]]) (lk [[],[],[],[],[],[],[],[],[],[],[],[]]) (lk [[],[],[],[],[],[],[],[],[],[],[],[]]) (by kernel_rfl) (fun _ => none) (fun _ => ⟨rfl, fun _ h => h⟩) ?_
            simp
            refine ⟨⟨by omega, by omega⟩, ?_⟩
            refine LWp.iff ?_
            simp
            refine ⟨fun h19 => ?_, fun h19 => ?_⟩
            · refine LWp.seq ?_
              refine LWp.reg hT hW (fun _ => none) (fun _ => ⟨rfl, fun _ h => h⟩) ?_
              simp
              refine LWp.ret ?_
              have e1 : splitV e first n m = (default, 15) := by rw [hgo, if_pos (.inl (by rw [← hz, touches_zero]; omega))]
              simp [e1, edsP]
            · refine LWp.skip ?_
              simp
              refine LWp.reg hT hW (fun _ => none) (fun _ => ⟨rfl, fun _ h => h⟩) ?_
              simp
              refine loopQ.mk 1 (Weak.to [3, 4, 5, 6, 7, 8, 12, 68] [(3, 3), (5, 5), (6, 6), (8, 8)] (by decide) (by decide) (by simp [hp]) (by simp) (by simp [hz])) ?_ ?_
              · refine ⟨by omega, fun _ w => h19 ?_, fun w => absurd w (by omega)⟩
                rw [← hz, touches_zero] at w; omega
              · omega
          · have hzl : z.puts.length ≤ 1000000 ∧ z.drops.length ≤ 1000000 := by
              subst hz
              exact ⟨Nat.le_trans (List.length_filter_le _ _) hs.1, Nat.le_trans (List.length_filter_le _ _) hs.2⟩
            refine LWp.regAny hT hW hMixed (lk [[],[],[],[2],[2,3],[],[5],[],[1,2,3,4,5,6,7],[0,1,2,3,4,5,6,7,8],[0,1,2,3,4,5,6,7,8,9]]) (lk [[79],[],[],[],[],[],[],[],[],[],[]]) (lk [[],[],[],[],[],[],[],[],[79],[],[8]]) (by kernel_rfl) (fun | 79 => some <| .plain ⟨.d z.d, false⟩ | _ => none) (by intro d; first | exact ⟨rfl, fun _ h => h⟩ | (split <;> exact ⟨rfl, fun _ h => h⟩)) ?_
            simp
            refine ⟨by subst hc; subst hz; first | exact cedit_split n 0 true rfl hpe hs hnl | exact cedit_split m 1 false rfl hpe hs hnl, ?_⟩
            refine LWp.seq ?_
            refine LWp.regAny hT hW hMixed (lk [[],[0],[0,1],[0,1,2],[0,1,2,3],[],[5],[5,6],[5,6,7],[5,6,7,8],[0,1,2,3,4,5,6,7,8,9],[0,1,2,3,4,5,6,7,8,9,10]]) (lk [[],[],[],[],[],[],[],[],[],[],[],[]]) (lk [[],[],[],[],[],[],[],[],[],[],[],[]]) (by kernel_rfl) (fun _ => none) (fun _ => ⟨rfl, fun _ h => h⟩) ?_
            simp
            refine ⟨⟨by omega, by omega⟩, ?_⟩
            refine LWp.iff ?_
            simp
            refine ⟨fun h19 => ?_, fun h19 => ?_⟩
            · refine LWp.seq ?_
              refine LWp.reg hT hW (fun _ => none) (fun _ => ⟨rfl, fun _ h => h⟩) ?_
              simp
              refine LWp.ret ?_
              have e1 : splitV e first n m = (default, 15) := by rw [hgo, if_pos (.inr (by rw [← hz, touches_zero]; omega))]
              simp [e1, edsP]
            · refine LWp.skip ?_
              simp
              refine LWp.reg hT hW (fun _ => none) (fun _ => ⟨rfl, fun _ h => h⟩) ?_
              simp
              refine loopQ.mk 2 (Weak.to [3, 4, 5, 6, 7, 8, 12, 68] [(3, 3), (5, 5), (6, 6), (8, 8)] (by decide) (by decide) (by simp [hp]) (by simp) (by simp [hz])) ?_ ?_
              · refine ⟨by omega, fun _ => hi16.2.1 (by omega), fun _ w => h19 ?_⟩
                rw [← hz, touches_zero] at w; omega
              · omega
        · refine LWp.exit ?_
          simp
          refine LWp.seq ?_
          obtain rfl : k = 2 := by omega
          refine LWp.reg hT hW (fun _ => none) (fun _ => ⟨rfl, fun _ h => h⟩) ?_
          simp
          refine LWp.ret ?_
          have e1 : splitV e first n m = ((splitE e first n true, splitE e first m false), 0) := by
            rw [hgo, if_neg]
            rintro (w | w)
            · exact hi16.2.1 (by omega) w
            · exact hi16.2.2 (by omega) w
          simp [e1, edsP]
end Go.Eng
namespace Go.Eng
open Go.Proofs
attribute [local simp] runL stepL evalG evalOp opLV constLV putEnv dstOk upd upds Res.plain Res.cond Res.fail evalBin evalUn seqQ blockQ argsEnv lookL lookH RetIs memless freshL evalPick evalMin bval bok evalLen evalIn strip whenC guardOps guardC slotsOf
  runM foldS stepI stepM maskE wrIn lk renO lookN evalCall evalCallee optAll resLV resObj retLV retObj retsLV retsObj evalLoad evalIndexAddr evalField solid cellsD_agg cellsD_int cellsD_bool cellsD_str cellsD_sl cellsD_ro cellsD_fn cellsL_agg cellsL_dagg cellsL_int cellsL_bool cellsL_str cellsL_sl cellsL_fn cellsL_ow cellsL_bx cellsL_lfn cellsL_nl takeL takeD mkAgg allD eqD eqDs kindsAre kindIs LObj.live TK.isNone TK.agg TK.isBool TK.isStr TK.isStruct Op.operands Call.operands
  evalBuildSlice evalAppend elemsOf evalStore evalBuild fillL lookupF putL evalSlice bound evalConv elemsS freezes frozen loadR
  mkEnv_at mkObs_at close_d close_agg close_ow close_bx close_fn close_nl touch_d touch_agg touch_ow touch_bx touch_fn touch_nl ren_d ren_agg ren_bx ren_rp ren_ow ren_fn ren_nl ren_junk retQ_ret retQ2_ret condQ_bool Nm.d Df.d Ed.d nmsD dfsD strsD edsD retC_ret nm_eq df_eq take_map_len take_map_app
  nm_t nm_d nm_td df_t df_d df_td str_t str_d str_td ed_t ed_d ed_td
  evalAppendIn evalCut evalClear evalCopy evalMake evalWrap evalCap evalNil isNilC lenL isInp gorc
  mapOf findD keyEq keyOk evalMakeMap evalRange zeroD zeroDV argsG shutG outN lenv retG0_ret retG0_normal retG1_ret renO close_mp touch_mp ren_mp optAll_d optAll_d' touch_ds cellsL_mp cellsD_mp cellsL_dmp
  evalMapSet evalPtr TK.isPtr evalToArr firstL retN_ret retsQ rvarL close_bm touch_bm ren_bm cellsD_bm cellsL_bm cellsL_lbm
attribute [local simp] cutQ_normal cutQ_ret cutQ_exit
set_option maxRecDepth 10000
set_option maxHeartbeats 4000000
attribute [local simp] dF1 dF2 dF3 dF4 dF5 prD dP1 dP2
theorem ex_same (a b : Ed) (h : a = b) : Ok Tryz.prog 24 [a.d, b.d] ⟨.d (.bool true), true⟩ := by
  have := Same_ok a b
  rwa [decide_eq_true h] at this
theorem ex_defs (a b : List Df) (h : a = b) : Ok Tryz.prog 40 [dfsD a, dfsD b] ⟨.d (.bool true), true⟩ := by
  have := SameDefs_ok a b
  rwa [decide_eq_true h] at this
theorem ex_texts (a b : List Str) (h : a = b) : Ok Tryz.prog 10 [strsD a, strsD b] ⟨.d (.bool true), true⟩ := by
  have := SameTexts_ok a b
  rwa [decide_eq_true h] at this
theorem lives3_ok  : Ok Tryz.prog 16 [] ⟨.d (.bool true), true⟩ := by
  refine Ok.ret Tryz.func16 (by kernel_rfl) (c := _) rfl Tryz.ntmps16 (by simp) Tryz.results16 (by intro _ h; cases h) fun w0 X hp => ?_
  have k1 := PApart_ok exL3 ⟨0, 1⟩ ⟨1, 0⟩ exL3_small
  have k2 := PApart_ok exL3 ⟨1, 0⟩ ⟨1, 1⟩ exL3_small
  have k3 := PApart_ok exL3 ⟨0, 1⟩ ⟨1, 1⟩ exL3_small
  have k4 := PRevert_ok exB3 exL3 [⟨0, 1⟩, ⟨1, 0⟩] ⟨1, 0⟩ ⟨2, 0⟩ exL3_small (by decide) (by decide) (by decide)
  have k5 := PRevert_ok exB3 exL3 [⟨0, 1⟩, ⟨1, 0⟩] ⟨0, 1⟩ ⟨2, 0⟩ exL3_small (by decide) (by decide) (by decide)
  have k6 := PResolve_ok exL3 ⟨0, 1⟩ ⟨1, 1⟩ [y5] [] ⟨2, 0⟩ exL3_small (by decide) (by decide)
  have k7 := PSquash_ok exB3 exL3 [⟨0, 1⟩, ⟨1, 0⟩] ⟨2, 0⟩ exL3_small (by decide) (by decide) (by decide) (by decide) (by decide)
  have k8 := PSplit_ok ⟨⟨2, 0⟩, [], [a2], [[98]]⟩ [[97]] ⟨2, 1⟩ ⟨2, 2⟩ (by unfold Ed.small; decide) (by decide)
  have k9 := PPick_ok exL3 ⟨1, 1⟩ [⟨0, 1⟩] ⟨2, 0⟩ exL3_small (by decide) (by decide)
  have k10 := ex_same ⟨⟨2, 0⟩, [⟨1, 0⟩], [b0], []⟩ ⟨⟨2, 0⟩, [⟨1, 0⟩], [b0], []⟩ rfl
  have k11 := ex_same ⟨⟨2, 0⟩, [⟨0, 1⟩, ⟨1, 1⟩], [y5], []⟩ ⟨⟨2, 0⟩, [⟨0, 1⟩, ⟨1, 1⟩], [y5], []⟩ rfl
  have k12 := ex_same ⟨⟨2, 0⟩, [], [a2], [[98]]⟩ ⟨⟨2, 0⟩, [], [a2], [[98]]⟩ rfl
  have k13 := ex_defs [a2] [a2] rfl
  have k14 := ex_texts [[98]] [[98]] rfl
  have k15 := ex_same ⟨⟨2, 0⟩, [⟨0, 1⟩], [a3], []⟩ ⟨⟨2, 0⟩, [⟨0, 1⟩], [a3], []⟩ rfl
  rw [ex3_apart1] at k1
  rw [ex3_apart2] at k2
  rw [ex3_apart3] at k3
  rw [ex3_rev1] at k4
  rw [ex3_rev2] at k5
  rw [ex3_res] at k6
  rw [ex3_squash] at k7
  rw [ex3_split] at k8
  rw [ex3_pick] at k9
  refine LWp.seq ?_
  refine LWp.reg hT hW (fun _ => none) (fun _ => ⟨rfl, fun _ h => h⟩) ?_
  simp
  refine LWp.seq ?_
  refine LWp.reg hT hW (fun | 28 => some <| .plain ⟨.tup [.d (.sl (exB3.map Df.d)), .d (edsD exL3)], false⟩ | _ => none) (by intro d; first | exact ⟨rfl, fun _ h => h⟩ | (split <;> exact ⟨rfl, fun _ h => h⟩)) ?_
  simp [evalExtract]
  refine ⟨example3_ok, ?_⟩
  have hL : exL3 = [⟨⟨0, 1⟩, [], [a2], []⟩, ⟨⟨1, 0⟩, [⟨0, 1⟩], [], [[98]]⟩, ⟨⟨1, 1⟩, [], [a3], []⟩] := rfl
  have hB : exB3 = [⟨[97], [118, 97, 114, 32, 97, 32, 61, 32, 49, 59]⟩, b0] := rfl
  rw [hL, hB] at k4 k5 k7 ⊢
  rw [hL] at k1 k2 k3 k6 k9
  refine LWp.seq ?_
  refine LWp.reg hT hW (fun _ => none) (fun _ => ⟨rfl, fun _ h => h⟩) ?_
  simp
  refine LWp.seq ?_
  refine LWp.reg hT hW (fun _ => none) (fun _ => ⟨rfl, fun _ h => h⟩) ?_
  simp
  refine LWp.seq ?_
  refine LWp.reg hT hW (fun _ => none) (fun _ => ⟨rfl, fun _ h => h⟩) ?_
  simp
  refine LWp.seq ?_
  refine LWp.reg hT hW (fun _ => none) (fun _ => ⟨rfl, fun _ h => h⟩) ?_
  simp
  refine LWp.seq ?_
  refine LWp.reg hT hW (fun | 48 => some <| .plain ⟨.tup [.d (.bool false), .d (I64 0)], true⟩ | _ => none) (by intro d; first | exact ⟨rfl, fun _ h => h⟩ | (split <;> exact ⟨rfl, fun _ h => h⟩)) ?_
  simp [evalExtract]
  refine ⟨by simpa using k1, ?_⟩
  refine LWp.seq ?_
  refine LWp.reg hT hW (fun | 55 => some <| .plain ⟨.tup [.d (.bool true), .d (I64 0)], true⟩ | _ => none) (by intro d; first | exact ⟨rfl, fun _ h => h⟩ | (split <;> exact ⟨rfl, fun _ h => h⟩)) ?_
  simp [evalExtract]
  refine ⟨by simpa using k2, ?_⟩
  refine LWp.seq ?_
  refine LWp.reg hT hW (fun | 62 => some <| .plain ⟨.tup [.d (.bool false), .d (I64 0)], true⟩ | _ => none) (by intro d; first | exact ⟨rfl, fun _ h => h⟩ | (split <;> exact ⟨rfl, fun _ h => h⟩)) ?_
  simp [evalExtract]
  refine ⟨by simpa using k3, ?_⟩
  refine LWp.seq ?_
  refine LWp.seq ?_
  refine LWp.reg hT hW (fun _ => none) (fun _ => ⟨rfl, fun _ h => h⟩) ?_
  simp
  refine LWp.iff ?_
  simp
  refine LWp.skip ?_
  simp
  refine LWp.seq ?_
  refine LWp.reg hT hW (fun | 93 => some <| .plain ⟨.tup [.d (Ed.d ⟨⟨2, 0⟩, [⟨1, 0⟩], [b0], []⟩), .d (I64 0)], false⟩ | _ => none) (by intro d; first | exact ⟨rfl, fun _ h => h⟩ | (split <;> exact ⟨rfl, fun _ h => h⟩)) ?_
  simp [evalExtract]
  refine ⟨⟨by decide, by simpa using k4⟩, ?_⟩
  refine LWp.seq ?_
  refine LWp.reg hT hW (fun | 104 => some <| .plain ⟨.tup [.d (default : Ed).d, .d (I64 10)], false⟩ | _ => none) (by intro d; first | exact ⟨rfl, fun _ h => h⟩ | (split <;> exact ⟨rfl, fun _ h => h⟩)) ?_
  simp [evalExtract]
  refine ⟨⟨by decide, by simpa using k5⟩, ?_⟩
  refine LWp.seq ?_
  refine LWp.reg hT hW (fun _ => none) (fun _ => ⟨rfl, fun _ h => h⟩) ?_
  simp
  refine LWp.seq ?_
  refine LWp.reg hT hW (fun | 115 => some <| .plain ⟨.tup [.d (Ed.d ⟨⟨2, 0⟩, [⟨0, 1⟩, ⟨1, 1⟩], [y5], []⟩), .d (I64 0)], false⟩ | _ => none) (by intro d; first | exact ⟨rfl, fun _ h => h⟩ | (split <;> exact ⟨rfl, fun _ h => h⟩)) ?_
  simp [evalExtract]
  refine ⟨by simpa [y5] using k6, ?_⟩
  refine LWp.seq ?_
  refine LWp.reg hT hW (fun | 125 => some <| .plain ⟨.tup [.d (Ed.d ⟨⟨2, 0⟩, [], [a2], [[98]]⟩), .d (I64 0)], false⟩ | _ => none) (by intro d; first | exact ⟨rfl, fun _ h => h⟩ | (split <;> exact ⟨rfl, fun _ h => h⟩)) ?_
  simp [evalExtract]
  refine ⟨⟨by decide, by simpa using k7⟩, ?_⟩
  refine LWp.seq ?_
  refine LWp.seq ?_
  refine LWp.reg hT hW (fun _ => none) (fun _ => ⟨rfl, fun _ h => h⟩) ?_
  simp
  refine LWp.iff ?_
  simp
  refine LWp.skip ?_
  simp
  refine LWp.seq ?_
  refine LWp.seq ?_
  refine LWp.regAny hT hW hMixed (lk [[],[],[],[2],[],[4],[1,2,3,4,5],[0,1,2,3,4,5,6],[0,1,2,3,4,5,6,7],[0,1,2,3,4,5,6,7,8],[0,1,2,3,4,5,6,7,8,9],[0,1,2,3,4,5,6,7,8,9],[0,1,2,3,4,5,6,7,8,9],[0,1,2,3,4,5,6,7,8,9],[0,1,2,3,4,5,6,7,8,9,12,13],[0,1,2,3,4,5,6,7,8,9],[0,1,2,3,4,5,6,7,8,9,15],[0,1,2,3,4,5,6,7,8,9,11,12,13,14,15,16],[0,1,2,3,4,5,6,7,8,9,10,11,12,13,14,15,16,17],[0,1,2,3,4,5,6,7,8,9,10,11,12,13,14,15,16,17,18],[0,1,2,3,4,5,6,7,8,9,10,11,12,13,14,15,16,17,18,19],[0,1,2,3,4,5,6,7,8,9,10,11,12,13,14,15,16,17,18,19,20],[0,1,2,3,4,5,6,7,8,9,10,11,12,13,14,15,16,17,18,19,20,21],[0,1,2,3,4,5,6,7,8,9,10,11,12,13,14,15,16,17,18,19,20,21],[0,1,2,3,4,5,6,7,8,9,10,11,12,13,14,15,16,17,18,19,20,21],[0,1,2,3,4,5,6,7,8,9,10,11,12,13,14,15,16,17,18,19,20,21,24],[0,1,2,3,4,5,6,7,8,9,10,11,12,13,14,15,16,17,18,19,20,21,24,25],[0,1,2,3,4,5,6,7,8,9,10,11,12,13,14,15,16,17,18,19,20,21,24,25,26],[0,1,2,3,4,5,6,7,8,9,10,11,12,13,14,15,16,17,18,19,20,21],[0,1,2,3,4,5,6,7,8,9,10,11,12,13,14,15,16,17,18,19,20,21,23,24,25,26,27,28],[0,1,2,3,4,5,6,7,8,9,10,11,12,13,14,15,16,17,18,19,20,21,22,23,24,25,26,27,28,29],[0,1,2,3,4,5,6,7,8,9,10,11,12,13,14,15,16,17,18,19,20,21,22,23,24,25,26,27,28,29,30],[0,1,2,3,4,5,6,7,8,9,10,11,12,13,14,15,16,17,18,19,20,21,22,23,24,25,26,27,28,29,30,31]]) (lk [[145],[145],[],[],[145],[145],[],[],[],[],[156,158],[156,158],[158],[158],[158],[156],[156],[],[],[],[],[],[170],[170],[170],[170],[170],[170],[],[],[],[],[]]) (lk [[],[],[],[145],[],[],[],[149],[],[],[],[],[],[],[156],[],[158],[],[160],[],[],[],[],[],[],[],[],[],[170],[],[172],[],[]]) (by kernel_rfl) (fun | 149 => some <| .plain ⟨.d (.bool true), true⟩ | 160 => some <| .plain ⟨.d (.bool true), true⟩ | 172 => some <| .plain ⟨.d (.bool true), true⟩ | _ => none) (by intro d; first | exact ⟨rfl, fun _ h => h⟩ | (split <;> exact ⟨rfl, fun _ h => h⟩)) ?_
  simp
  refine ⟨⟨⟨⟨by simpa using k10, rfl⟩, by simpa [y5] using k11⟩, by simpa using k12⟩, ?_⟩
  refine LWp.iff ?_
  simp
  refine LWp.skip ?_
  simp
  refine LWp.seq ?_
  refine LWp.reg hT hW (fun | 181 => some <| .plain ⟨.tup [.d (edsP (⟨⟨2, 1⟩, [], [a2], []⟩, ⟨⟨2, 2⟩, [], [], [[98]]⟩)), .d (I64 0)], false⟩ | _ => none) (by intro d; first | exact ⟨rfl, fun _ h => h⟩ | (split <;> exact ⟨rfl, fun _ h => h⟩)) ?_
  simp [evalExtract, edsP]
  refine ⟨by simpa [edsP] using k8, ?_⟩
  refine LWp.seq ?_
  refine LWp.reg hT hW (fun | 190 => some <| .plain ⟨.tup [.d (Ed.d ⟨⟨2, 0⟩, [⟨0, 1⟩], [a3], []⟩), .d (I64 0)], false⟩ | _ => none) (by intro d; first | exact ⟨rfl, fun _ h => h⟩ | (split <;> exact ⟨rfl, fun _ h => h⟩)) ?_
  simp [evalExtract]
  refine ⟨by simpa using k9, ?_⟩
  refine LWp.seq ?_
  refine LWp.regAny hT hW hMixed (lk [[],[0],[0,1],[],[3],[3,4],[3,4,5],[0,1,2,3,4,5,6],[0,1,2,3,4,5,6,7],[0,1,2,3,4,5,6,7,8],[0,1,2,3,4,5,6,7,8,9],[0,1,2,3,4,5,6,7,8,9,10],[0,1,2,3,4,5,6,7,8,9,10,11],[0,1,2,3,4,5,6,7,8],[0,1,2,3,4,5,6,7,8,13],[0,1,2,3,4,5,6,7,8,13,14],[0,1,2,3,4,5,6,7,8,13,14,15],[0,1,2,3,4,5,6,7,8,9,10,11,12,13,14,15,16],[0,1,2,3,4,5,6,7,8,9,10,11,12,13,14,15,16,17],[0,1,2,3,4,5,6,7,8,9,10,11,12,13,14,15,16,17,18],[0,1,2,3,4,5,6,7,8,9,10,11,12,13,14,15,16,17,18,19],[0,1,2,3,4,5,6,7,8,9,10,11,12,13,14,15,16,17,18,19,20],[0,1,2,3,4,5,6,7,8,9,10,11,12,13,14,15,16,17,18,19,20,21],[0,1,2,3,4,5,6,7,8,9,10,11,12,13,14,15,16,17,18,19,20,21,22],[0,1,2,3,4,5,6,7,8,9,10,11,12,13,14,15,16,17,18,19,20],[0,1,2,3,4,5,6,7,8,9,10,11,12,13,14,15,16,17,18,19,20,21,22,23,24],[0,1,2,3,4,5,6,7,8,9,10,11,12,13,14,15,16,17,18,19,20,21,22,23,24,25],[0,1,2,3,4,5,6,7,8,9,10,11,12,13,14,15,16,17,18,19,20,21,22,23,24,25,26]]) (lk [[],[],[],[],[],[],[],[],[],[],[],[],[],[],[],[],[],[],[],[],[],[217],[217],[217],[],[],[],[]]) (lk [[],[],[],[],[],[],[],[200],[],[],[],[],[],[],[],[],[],[],[],[],[],[],[],[],[217],[218],[],[]]) (by kernel_rfl) (fun | 200 => some <| .plain ⟨.d (.bool true), true⟩ | 218 => some <| .plain ⟨.d (.bool true), true⟩ | _ => none) (by intro d; first | exact ⟨rfl, fun _ h => h⟩ | (split <;> exact ⟨rfl, fun _ h => h⟩)) ?_
  simp
  refine ⟨⟨by simpa using k13, by simpa using k14⟩, ?_⟩
  refine LWp.seq ?_
  refine LWp.regAny hT hW hMixed (lk [[],[0],[0,1],[0,1,2],[0,1,2,3],[0,1,2,3,4],[0,1,2,3,4,5],[0,1,2,3,4,5,6],[0,1,2,3,4,5,6,7],[0,1,2,3,4,5,6,7,8],[0,1,2,3,4,5,6,7,8,9],[0,1,2,3,4,5,6,7,8,9],[0,1,2,3,4,5,6,7,8,9],[0,1,2,3,4,5,6,7,8,9,12],[0,1,2,3,4,5,6,7,8,9],[0,1,2,3,4,5,6,7,8,9,14],[0,1,2,3,4,5,6,7,8,9,14,15],[0,1,2,3,4,5,6,7,8,9,14,15,16],[0,1,2,3,4,5,6,7,8,9,11,12,13,14,15,16,17],[0,1,2,3,4,5,6,7,8,9,10,11,12,13,14,15,16,17,18],[0,1,2,3,4,5,6,7,8,9,10,11,12,13,14,15,16,17,18,19],[0,1,2,3,4,5,6,7,8,9,10,11,12,13,14,15,16,17,18,19,20]]) (lk [[],[],[],[],[],[],[],[],[],[],[233],[233],[],[],[233],[233],[233],[233],[],[],[],[]]) (lk [[],[],[],[],[],[],[],[],[],[],[],[],[],[233],[],[],[],[],[],[239],[],[]]) (by kernel_rfl) (fun | 239 => some <| .plain ⟨.d (.bool true), true⟩ | _ => none) (by intro d; first | exact ⟨rfl, fun _ h => h⟩ | (split <;> exact ⟨rfl, fun _ h => h⟩)) ?_
  simp
  refine ⟨by simpa using k15, ?_⟩
  refine LWp.ret ?_
  simp
end Go.Eng
namespace Go.Eng
open Go.Proofs
attribute [local simp] runL stepL evalG evalOp opLV constLV putEnv dstOk upd upds Res.plain Res.cond Res.fail evalBin evalUn seqQ blockQ argsEnv lookL lookH RetIs memless freshL evalPick evalMin bval bok evalLen evalIn strip whenC guardOps guardC slotsOf
  runM foldS stepI stepM maskE wrIn lk renO lookN evalCall evalCallee optAll resLV resObj retLV retObj retsLV retsObj evalLoad evalIndexAddr evalField solid cellsD_agg cellsD_int cellsD_bool cellsD_str cellsD_sl cellsD_ro cellsD_fn cellsL_agg cellsL_dagg cellsL_int cellsL_bool cellsL_str cellsL_sl cellsL_fn cellsL_ow cellsL_bx cellsL_lfn cellsL_nl takeL takeD mkAgg allD eqD eqDs kindsAre kindIs LObj.live TK.isNone TK.agg TK.isBool TK.isStr TK.isStruct Op.operands Call.operands
  evalBuildSlice evalAppend elemsOf evalStore evalBuild fillL lookupF putL evalSlice bound evalConv elemsS freezes frozen loadR
  mkEnv_at mkObs_at close_d close_agg close_ow close_bx close_fn close_nl touch_d touch_agg touch_ow touch_bx touch_fn touch_nl ren_d ren_agg ren_bx ren_rp ren_ow ren_fn ren_nl ren_junk retQ_ret retQ2_ret condQ_bool Nm.d Df.d Ed.d nmsD dfsD strsD edsD retC_ret nm_eq df_eq take_map_len take_map_app
  nm_t nm_d nm_td df_t df_d df_td str_t str_d str_td ed_t ed_d ed_td
  evalAppendIn evalCut evalClear evalCopy evalMake evalWrap evalCap evalNil isNilC lenL isInp gorc
  mapOf findD keyEq keyOk evalMakeMap evalRange zeroD zeroDV argsG shutG outN lenv retG0_ret retG0_normal retG1_ret renO close_mp touch_mp ren_mp optAll_d optAll_d' touch_ds cellsL_mp cellsD_mp cellsL_dmp
  evalMapSet evalPtr TK.isPtr evalToArr firstL retN_ret retsQ rvarL close_bm touch_bm ren_bm cellsD_bm cellsL_bm cellsL_lbm
attribute [local simp] cutQ_normal cutQ_ret cutQ_exit
set_option maxRecDepth 10000
set_option maxHeartbeats 2000000
structure IsMade (l : List Int) (E : List Ed) : Prop where
  eq : E = madeL l
  len : E.length ≤ 6
  needs : (allNeeds E).length ≤ 36
  sm : small E
  ok : (validV E).2 = 0
theorem is_made (l : List Int) : ∃ E, IsMade l E := ⟨madeL l, rfl, madeL_len l, made_needs l, made_small l, by rw [made_valid]⟩
theorem clo_six {l : List Ed} {S : List Nm} (h : closedB l (cloN l S) = true) : (cloN l S).length ≤ l.length := by
  have : (cloN l S).Nodup := sortN_nodup _
  have := nodup_le' (m := l.map Ed.name) this fun n hn => closed_names h hn
  rwa [List.length_map] at this
theorem closed_len {l : List Int} {E : List Ed} (h : IsMade l E) (b : Int) : (closureV E (someN E b)).1.length ≤ 6 ∧ closureV E (someN E b) = (cloN E (someN E b), 0) ∧ closedB E (cloN E (someN E b)) = true := by
  have u : ∀ n ∈ someN E b, n ∈ E.map Ed.name := fun n hn => someN_sub hn
  have e := closureV_ok h.ok u
  have c := closure_closed h.ok u
  have := clo_six c
  have := h.len
  rw [e]
  exact ⟨by show (cloN E (someN E b)).length ≤ 6; omega, rfl, c⟩
open Go.Proofs
set_option maxRecDepth 10000
set_option maxHeartbeats 2000000
attribute [local simp] dF1 dF2 dF3 dF4 dF5 dP1 dP2
theorem fs_who (s i : Nat) : (freshAt s i).who = 3 := rfl
theorem fs_rng (s i : Nat) : 0 ≤ (freshAt s i).seq ∧ (freshAt s i).seq < 64 := by
  have := Nat.mod_lt (s + i) (show 0 < 64 by omega)
  show 0 ≤ (((s + i) % 64 : Nat) : Int) ∧ (((s + i) % 64 : Nat) : Int) < 64
  omega
theorem fs_zero {s : Nat} (h : s < 64) : (freshAt s 0).seq = (s : Int) := by
  show (((s + 0) % 64 : Nat) : Int) = s
  omega
theorem fs_next (s i : Nat) : ((freshAt s i).seq + 1).tmod 64 = (freshAt s (i + 1)).seq := by
  have := (fs_rng s i).1
  rw [Int.tmod_eq_emod_of_nonneg (by omega)]
  show ((((s + i) % 64 : Nat) : Int) + 1) % 64 = (((s + (i + 1)) % 64 : Nat) : Int)
  omega
theorem Fresh_ok (l : List Ed) (k : Int) (q : -9223372036854775808 ≤ k ∧ k ≤ 9223372036854775807) : Ok Tryz.prog 21 [edsD l, I64 k] ⟨.d (freshN l k).d, true⟩ := by
  refine Ok.cell hT Tryz.func21 (by kernel_rfl) (c := _) rfl Tryz.ntmps21 (by simp) Tryz.results21 (by intro _ h; cases h) fun w0 X hp => ?_
  refine LWp.seq ?_
  refine LWp.reg hT hW (fun _ => none) (fun _ => ⟨rfl, fun _ h => h⟩) ?_
  simp
  refine LWp.seq ?_
  have ha := Around_ok k 64 q.1 q.2 (by decide)
  have hr := around_lt k 64 (by decide)
  obtain ⟨s, hs⟩ : ∃ s : Nat, s = (around k 64).toNat := ⟨_, rfl⟩
  have hk : around k 64 = (s : Int) := by omega
  rw [hk] at ha
  refine LWp.reg hT hW (fun | 8 => some <| .plain ⟨.d (I64 s), true⟩ | _ => none) (by intro d; first | exact ⟨rfl, fun _ h => h⟩ | (split <;> exact ⟨rfl, fun _ h => h⟩)) ?_
  simp
  refine ⟨by simpa using ha, ?_⟩
  refine LWp.seq ?_
  refine LWp.seq ?_
  refine LWp.reg hT hW (fun _ => none) (fun _ => ⟨rfl, fun _ h => h⟩) ?_
  simp
  refine LWp.block ?_
  refine LWp.loopW (ι := Nat) (fun i => mkEnv [(0, .d (edsD l)), (4, .bx 4 0), (5, .bx 5 0), (6, .d (I64 i))]) (fun i => mkObs [(4, .box false [.d (I64 0), .d (I64 0)]), (5, .box false [.d (I64 3), .d (I64 (freshAt s i).seq)])]) (fun i => i ≤ 64 ∧ ∀ j, j < i → freshAt s j ∈ l.map Ed.name) (fun i => 64 - i) 0 (Weak.to [0, 4, 5, 6] [(4, 4), (5, 5)] (by decide) (by decide) (by simp [hp]) (by simp) (by simp [fs_zero (show s < 64 by omega)])) (by simp) fun i hi3 => ?_
  refine LWp.seq ?_
  refine LWp.seq ?_
  have hrg := fs_rng s i
  refine LWp.reg hT hW (fun | 15 => some <| .plain ⟨.d (I64 (findI l (freshAt s i))), true⟩ | _ => none) (by intro d; first | exact ⟨rfl, fun _ h => h⟩ | (split <;> exact ⟨rfl, fun _ h => h⟩)) ?_
  simp
  refine ⟨by intros; have := Find_ok l (freshAt s i); simpa [fs_who] using this, ?_⟩
  refine LWp.iff ?_
  simp
  refine ⟨fun h3 g3 => ?_, fun h3 => ?_⟩
  · refine LWp.skip ?_
    simp
    refine LWp.seq ?_
    refine LWp.block ?_
    refine LWp.reg hT hW (fun _ => none) (fun _ => ⟨rfl, fun _ h => h⟩) ?_
    simp
    refine ⟨⟨by omega, by omega⟩, ?_⟩
    refine LWp.reg hT hW (fun _ => none) (fun _ => ⟨rfl, fun _ h => h⟩) ?_
    simp
    refine ⟨by omega, ?_⟩
    refine loopQ.mk (i + 1) (Weak.to [0, 4, 5, 6] [(4, 4), (5, 5)] (by decide) (by decide) (by simp [hp]) (by simp) (by simp [fs_next])) ?_ ?_
    · refine ⟨by omega, fun j hj => ?_⟩
      refine List.mem_map.1 ?_
      by_cases e : j = i
      · subst e; exact found_iff.1 g3
      · exact hi3.2 j (by omega)
    · omega
  · refine LWp.exit ?_
    simp
    refine LWp.seq ?_
    refine LWp.reg hT hW (fun _ => none) (fun _ => ⟨rfl, fun _ h => h⟩) ?_
    simp
    refine LWp.ret ?_
    have e : freshN l k = freshAt s i := by
      rw [hs]
      refine fresh_exit hi3.1 (by rw [← hs]; exact hi3.2) fun w => ?_
      rw [← hs]
      intro w2
      have := h3 (by omega)
      have := found_iff.2 w2
      omega
    simp [e, fs_who]
end Go.Eng
namespace Go.Eng
open Go.Proofs
attribute [local simp] runL stepL evalG evalOp opLV constLV putEnv dstOk upd upds Res.plain Res.cond Res.fail evalBin evalUn seqQ blockQ argsEnv lookL lookH RetIs memless freshL evalPick evalMin bval bok evalLen evalIn strip whenC guardOps guardC slotsOf
  runM foldS stepI stepM maskE wrIn lk renO lookN evalCall evalCallee optAll resLV resObj retLV retObj retsLV retsObj evalLoad evalIndexAddr evalField solid cellsD_agg cellsD_int cellsD_bool cellsD_str cellsD_sl cellsD_ro cellsD_fn cellsL_agg cellsL_dagg cellsL_int cellsL_bool cellsL_str cellsL_sl cellsL_fn cellsL_ow cellsL_bx cellsL_lfn cellsL_nl takeL takeD mkAgg allD eqD eqDs kindsAre kindIs LObj.live TK.isNone TK.agg TK.isBool TK.isStr TK.isStruct Op.operands Call.operands
  evalBuildSlice evalAppend elemsOf evalStore evalBuild fillL lookupF putL evalSlice bound evalConv elemsS freezes frozen loadR
  mkEnv_at mkObs_at close_d close_agg close_ow close_bx close_fn close_nl touch_d touch_agg touch_ow touch_bx touch_fn touch_nl ren_d ren_agg ren_bx ren_rp ren_ow ren_fn ren_nl ren_junk retQ_ret retQ2_ret condQ_bool Nm.d Df.d Ed.d nmsD dfsD strsD edsD retC_ret nm_eq df_eq take_map_len take_map_app
  nm_t nm_d nm_td df_t df_d df_td str_t str_d str_td ed_t ed_d ed_td
  evalAppendIn evalCut evalClear evalCopy evalMake evalWrap evalCap evalNil isNilC lenL isInp gorc
  mapOf findD keyEq keyOk evalMakeMap evalRange zeroD zeroDV argsG shutG outN lenv retG0_ret retG0_normal retG1_ret renO close_mp touch_mp ren_mp optAll_d optAll_d' touch_ds cellsL_mp cellsD_mp cellsL_dmp
  evalMapSet evalPtr TK.isPtr evalToArr firstL retN_ret retsQ rvarL close_bm touch_bm ren_bm cellsD_bm cellsL_bm cellsL_lbm
attribute [local simp] cutQ_normal cutQ_ret cutQ_exit
set_option maxRecDepth 10000
set_option maxHeartbeats 2000000
attribute [local simp] dF1 dF2 dF3 dF4 dF5 dP1 dP2
def four4 : List Df := [⟨[97], [118, 97, 114, 32, 97, 32, 61, 32, 57, 59]⟩, ⟨[97, 97], [118, 97, 114, 32, 97, 97, 32, 61, 32, 57, 59]⟩, ⟨[98], [118, 97, 114, 32, 98, 32, 61, 32, 57, 59]⟩, ⟨[99], [118, 97, 114, 32, 99, 32, 61, 32, 57, 59]⟩]
theorem in_made {l : List Int} {E : List Ed} (h : IsMade l E) {e : Ed} (he : e ∈ E) : e ∈ madeL l := by rw [← h.eq]; exact he
theorem edAt_puts3 {l : List Ed} {m : Nat} (h : ∀ e ∈ l, e.puts.length ≤ m) (n : Nm) : (edAt l n).puts.length ≤ m := by
  by_cases q : 0 ≤ findI l n
  · obtain ⟨i, hi, _, e⟩ := edAt_of q
    rw [e]; exact h _ (List.getElem_mem hi)
  · rw [edAt_none (by omega)]; exact Nat.zero_le _
theorem madeOf_len3 {l : List Ed} {m : Nat} (h : ∀ e ∈ l, e.puts.length ≤ m) : ∀ (x : List Nm) (L : List Df), (madeOf l x L).length ≤ L.length + x.length * m
  | [], L => by simp [madeOf]
  | n :: x, L => by
    have h1 := madeOf_len3 h x (doneD L (edAt l n))
    have h2 := doneD_len L (edAt l n)
    have h3 := edAt_puts3 h n
    have e : madeOf l (n :: x) L = madeOf l x (doneD L (edAt l n)) := rfl
    rw [e]
    simp only [List.length_cons, Nat.add_mul]; omega
theorem prog_len3 {D : List Df} {l : List Ed} {m : Nat} (hm : ∀ e ∈ l, e.puts.length ≤ m) (hD : (D.map Df.name).Nodup) {C : List Nm} (h : (programV D l C).2 = 0) : (programV D l C).1.length ≤ D.length + C.length * m := by
  obtain ⟨L, k⟩ := prog_inv (p := (programV D l C).1) (by rw [← h])
  obtain ⟨L', h1, h2⟩ := baseD_rep hD
  have e : L = L' := by have := k.base; rw [h1] at this; injection this with this; exact this.symm
  subst e
  have hl : L.length ≤ D.length := by
    have := nodup_le' (m := D.map Df.name) (rising_names h2.ri) fun s hs => by
      obtain ⟨d, hd, rfl⟩ := List.mem_map.1 hs
      exact List.mem_map.2 ⟨d, (h2.mem d).2 hd, rfl⟩
    simpa using this
  have ho : (orderN l C).length ≤ C.length := by rw [(orderN_perm k.valid k.closed).length_eq]; exact sortN_len C
  have h3 := madeOf_len3 hm (orderN l C) L
  have h4 : (orderN l C).length * m ≤ C.length * m := Nat.mul_le_mul_right _ ho
  rw [k.eq]; omega
theorem pick_facts {l : List Int} {E : List Ed} (hE : IsMade l E) {D : List Df} {C : List Nm} {a y : Nm} (hf : y ∉ E.map Ed.name) (h1 : (programV D E C).2 = 0) (h2 : (pickV E a C y).2 = 0) :
    programV D (E ++ [(pickV E a C y).1]) (C ++ [y]) = (doneD (programV D E C).1 (edAt E a), 0) ∧ small (E ++ [(pickV E a C y).1]) := by
  have hl := hE.len
  obtain ⟨_, hn, _, _, _, hx⟩ := pick_inv (x := (pickV E a C y).1) (by rw [← h2])
  refine ⟨pick_law (p := (programV D E C).1) (x := (pickV E a C y).1) (by rw [← h1]) (by rw [← h2]) (by omega), fun e he => ?_⟩
  rcases List.mem_append.1 he with q | q
  · exact hE.sm e q
  · rw [List.mem_singleton] at q
    subst q
    rw [hx]
    obtain ⟨i, hi, _, ee⟩ := edAt_of (found_iff.2 hn)
    have := hE.sm _ (List.getElem_mem hi)
    rw [← ee] at this
    exact this
structure ResFacts (D : List Df) (E : List Ed) (a b y : Nm) (F : List Ed) (K : List Nm) : Prop where
  sm : small F
  clo : closureV F [y] = (K, 0)
  len : K.length ≤ 7
  needs : (allNeeds F).length ≤ 1000
  found : ∀ c ∈ K, 0 ≤ findI F c
  prog : (programV D F K).2 = 0
  clash : clashB F K a b = false
  at1 : ∀ j (hj : j < four4.length), defOf (programV D F K).1 four4[j].name = some four4[j]
  at2 : defOf (programV D F K).1 [100] = none
theorem res_facts {l : List Int} {E : List Ed} (hE : IsMade l E) {D : List Df} (hD : (D.map Df.name).Nodup) {a b y : Nm} (h : (resolveV E a b four4 [[100]] y).2 = 0) :
    ResFacts D E a b y (E ++ [(resolveV E a b four4 [[100]] y).1]) (cloN (E ++ [(resolveV E a b four4 [[100]] y).1]) [y]) := by
  have hl := hE.len
  obtain ⟨x, hx⟩ : ∃ x, x = (resolveV E a b four4 [[100]] y).1 := ⟨_, rfl⟩
  have hq : resolveV E a b four4 [[100]] y = (x, 0) := by rw [hx, ← h]
  rw [← hx]
  obtain ⟨ha, _, _, _, hxe⟩ := resolve_inv hq
  obtain ⟨L, hL, _⟩ := baseD_rep hD
  have htx : ∀ s, s ∈ touches x ↔ s = [97] ∨ s = [97, 97] ∨ s = [98] ∨ s = [99] ∨ s = [100] := fun s => by
    rw [hxe]; simp [touches, resolveE, four4]
  obtain ⟨P, p1, p2, p3⟩ := resolve_law hq hL fun e he s hs => by
    rw [hE.eq] at he
    rw [htx]
    rcases made_in he hs with q | q | q | q
    · exact .inl q
    · exact .inr (.inr (.inl q))
    · exact .inr (.inr (.inr (.inl q)))
    · exact .inr (.inr (.inr (.inr q)))
  have hxn : x.name = y := by rw [hxe]; rfl
  have hv := ha.ok
  have hy : ∀ n ∈ [y], n ∈ (E ++ [x]).map Ed.name := fun n hn => by
    rw [List.mem_singleton] at hn
    rw [hn]; simp [hxn]
  have hc := closure_closed hv hy
  have h6 := clo_six hc
  refine ⟨fun e he => ?_, closureV_ok hv hy, by rw [List.length_append] at h6; simp at h6; omega, ?_, fun c hc' => (closedB_iff.1 hc c hc').1, by rw [p1], p3, fun j hj => ?_, ?_⟩
  · rcases List.mem_append.1 he with q | q
    · exact hE.sm e q
    · rw [List.mem_singleton] at q
      rw [q, hxe]; exact ⟨by show four4.length ≤ _; decide, by show ([[100]] : List Str).length ≤ _; decide⟩
  · have e : allNeeds (E ++ [x]) = allNeeds E ++ x.needs := by simp [allNeeds]
    have := hE.needs
    have hn : x.needs.length ≤ 2 := by rw [hxe]; exact sortN_len [a, b]
    rw [e, List.length_append]; omega
  · rw [p1, p2 _ ((htx _).2 ?_)]
    · have : j = 0 ∨ j = 1 ∨ j = 2 ∨ j = 3 := by have : four4.length = 4 := rfl; omega
      rcases this with rfl | rfl | rfl | rfl <;> first | rfl | simp [four4, defOf]
    · have : j = 0 ∨ j = 1 ∨ j = 2 ∨ j = 3 := by have : four4.length = 4 := rfl; omega
      rcases this with rfl | rfl | rfl | rfl <;> simp [four4]
  · rw [p1, p2 _ ((htx _).2 (by decide))]
    decide
theorem PatchPicks_ok (l : List Int) (base bits n m : Int) (hr : ∀ n ∈ l, -9223372036854775808 ≤ n ∧ n ≤ 9223372036854775807) (q1 : -9223372036854775808 ≤ base ∧ base ≤ 9223372036854775807) (q2 : -9223372036854775808 ≤ bits ∧ bits ≤ 9223372036854775807) (q3 : -9223372036854775808 ≤ n ∧ n ≤ 9223372036854775807) (q4 : -9223372036854775808 ≤ m ∧ m ≤ 9223372036854775807) : Ok Tryz.prog 8 [.sl (l.map I64), I64 base, I64 bits, I64 n, I64 m] ⟨.d (.bool true), true⟩ := by
  refine Ok.ret Tryz.func8 (by kernel_rfl) (c := _) rfl Tryz.ntmps8 (by simp) Tryz.results8 (by intro _ h; cases h) fun w0 X hp => ?_
  obtain ⟨E, hE⟩ := is_made l
  have hmo := Made_ok l hr
  rw [← hE.eq] at hmo
  have hel := hE.len
  have hen := hE.needs
  have hes := hE.sm
  have hD := Base_ok base q1.1 q1.2
  have hDl := baseL_len base
  have hDn := baseL_nodup base
  obtain ⟨D, hDD⟩ : ∃ D, D = baseL base := ⟨_, rfl⟩
  rw [← hDD] at hD hDl hDn
  have ha := at_ok E n (by omega) q3
  have hb := at_ok E m (by omega) q4
  obtain ⟨a, haa⟩ : ∃ a, a = atN E n := ⟨_, rfl⟩
  obtain ⟨b, hbb⟩ : ∃ b, b = atN E m := ⟨_, rfl⟩
  rw [← haa] at ha
  rw [← hbb] at hb
  have hC := RClosed_ok E bits (by omega) (by omega) q2.1 q2.2
  have hCl := (closed_len hE bits).1
  obtain ⟨C, hCC⟩ : ∃ C, C = (closureV E (someN E bits)).1 := ⟨_, rfl⟩
  rw [← hCC] at hC hCl
  have hY := Fresh_ok E n q3
  have hYn := (fresh_not (l := E) (by omega) n).1
  obtain ⟨y, hyy⟩ : ∃ y, y = freshN E n := ⟨_, rfl⟩
  rw [← hyy] at hY hYn
  clear hCC hDD haa hbb hyy
  have p0 := EProgram_ok D E C hes (by omega) (by omega)
  have hneed : (edAt E a).needs.length ≤ 6 := by
    by_cases h : 0 ≤ findI E a
    · obtain ⟨i, hi, _, e⟩ := edAt_of h
      rw [e]; exact (made_mem (in_made hE (List.getElem_mem hi))).1
    · rw [edAt_none (by omega)]; decide
  have hpick := PPick_ok E a C y hes (by omega) (by
    have t1 : (touchingL E C (edAt E a)).length ≤ C.length := List.length_filter_le _ _
    have t2 : ((edAt E a).needs.filter fun m => decide (m ∈ C)).length ≤ (edAt E a).needs.length := List.length_filter_le _ _
    rw [List.length_append]; omega)
  have hpf := fun w1 w2 => pick_facts hE (D := D) (C := C) (a := a) hYn w1 w2
  have hof := Of_ok E a
  have hw1 := lwith_ok E [(pickV E a C y).1] (by omega) (by simp)
  have ha1 := land_ok C [y] (by omega) (by simp)
  have hp1 := fun s => EProgram_ok D (E ++ [(pickV E a C y).1]) (C ++ [y]) s (by omega) (by simp; omega)
  have xsm : (edAt E a).puts.length ≤ 100000 ∧ (edAt E a).drops.length ≤ 100000 := by
    by_cases h : 0 ≤ findI E a
    · obtain ⟨i, hi, _, e⟩ := edAt_of h
      rw [e]; have := made_mem (in_made hE (List.getElem_mem hi)); omega
    · rw [edAt_none (by omega)]; exact ⟨by decide, by decide⟩
  have hP0 := fun w => prog_len3 (m := 4) (fun e he => (made_mem (in_made hE he)).2.1) hDn (l := E) (C := C) w
  obtain ⟨v, hv⟩ : ∃ v, v = pickV E a C y := ⟨_, rfl⟩
  obtain ⟨P0, h0⟩ : ∃ P, P = programV D E C := ⟨_, rfl⟩
  obtain ⟨x, hx⟩ : ∃ x, x = edAt E a := ⟨_, rfl⟩
  rw [← hv] at hpick hpf hw1 hp1
  rw [← h0] at p0 hpf hP0
  rw [← hx] at hof hpf xsm
  have hres := PResolve_ok E a b four4 [[100]] y hes (by decide) (by decide)
  have hrf := fun w => res_facts hE (D := D) hDn (a := a) (b := b) (y := y) w
  have hw2 := lwith_ok E [(resolveV E a b four4 [[100]] y).1] (by omega) (by simp)
  obtain ⟨z, hz⟩ : ∃ z, z = resolveV E a b four4 [[100]] y := ⟨_, rfl⟩
  rw [← hz] at hres hrf hw2
  obtain ⟨F, hF⟩ : ∃ F, F = E ++ [z.1] := ⟨_, rfl⟩
  rw [← hF] at hrf hw2
  obtain ⟨K, hK⟩ : ∃ K, K = cloN F [y] := ⟨_, rfl⟩
  rw [← hK] at hrf
  clear hv h0 hx hz hF hK
  refine LWp.seq ?_
  refine LWp.reg hT hW (fun _ => none) (fun _ => ⟨rfl, fun _ h => h⟩) ?_
  simp
  refine LWp.seq ?_
  refine LWp.reg hT hW (fun | 39 => some <| .plain ⟨.d (edsD E), false⟩ | _ => none) (by intro d; first | exact ⟨rfl, fun _ h => h⟩ | (split <;> exact ⟨rfl, fun _ h => h⟩)) ?_
  simp
  refine ⟨hmo, ?_⟩
  refine LWp.seq ?_
  refine LWp.reg hT hW (fun | 41 => some <| .plain ⟨.d (dfsD D), true⟩ | _ => none) (by intro d; first | exact ⟨rfl, fun _ h => h⟩ | (split <;> exact ⟨rfl, fun _ h => h⟩)) ?_
  simp
  refine ⟨hD, ?_⟩
  refine LWp.seq ?_
  refine LWp.reg hT hW (fun | 44 => some <| .plain ⟨.d (nmsD C), false⟩ | _ => none) (by intro d; first | exact ⟨rfl, fun _ h => h⟩ | (split <;> exact ⟨rfl, fun _ h => h⟩)) ?_
  simp
  refine ⟨hC, ?_⟩
  refine LWp.seq ?_
  refine LWp.reg hT hW (fun | 47 => some <| .plain ⟨.d y.d, true⟩ | _ => none) (by intro d; first | exact ⟨rfl, fun _ h => h⟩ | (split <;> exact ⟨rfl, fun _ h => h⟩)) ?_
  simp
  refine ⟨hY, ?_⟩
  refine LWp.seq ?_
  refine LWp.reg hT hW (fun | 52 => some <| .plain ⟨.tup [.d (dfsD P0.1), .d (I64 P0.2)], true⟩ | _ => none) (by intro d; first | exact ⟨rfl, fun _ h => h⟩ | (split <;> exact ⟨rfl, fun _ h => h⟩)) ?_
  simp [evalExtract]
  refine ⟨p0, ?_⟩
  refine LWp.seq ?_
  refine LWp.regAny hT hW hMixed (lk [[],[],[],[1,2],[],[],[0,1,2,3,4,5],[0,1,2,3,4,5,6],[0,1,2,3,4,5,6,7],[0,1,2,3,4,5,6,7],[],[0,1,2,3,4,5,6,7,8,10],[0,1,2,3,4,5,6,7,8,9,10,11]]) (lk [[17,59],[17],[17],[17],[17,59],[17,59],[17],[17],[17],[17],[59,62],[],[]]) (lk [[],[],[],[59],[],[],[62],[],[],[],[17],[17],[]]) (by kernel_rfl) (fun | 59 => some <| .plain ⟨.d a.d, true⟩ | 62 => some <| .plain ⟨.tup [.d v.1.d, .d (I64 v.2)], false⟩ | _ => none) (by intro d; first | exact ⟨rfl, fun _ h => h⟩ | (split <;> exact ⟨rfl, fun _ h => h⟩)) ?_
  simp [evalExtract]
  refine ⟨⟨ha, by simpa using hpick⟩, ?_⟩
  refine LWp.seqCut (ι := Unit) (fun _u => mkEnv [(3, .d (I64 n)), (4, .d (I64 m)), (11, .d (edsD E)), (12, .d (dfsD D)), (14, .bx 14 0)]) (fun _u => mkObs [(14, .box false [.d (I64 y.who), .d (I64 y.seq)])]) (fun _u => True) ?_ fun _u hc12 => ?_
  · refine LWp.seq ?_
    refine LWp.reg hT hW (fun _ => none) (fun _ => ⟨rfl, fun _ h => h⟩) ?_
    simp
    refine LWp.iff ?_
    simp
    refine ⟨fun h7 g7 => ?_, fun h7 => ?_⟩
    · refine LWp.seq ?_
      obtain ⟨k1, k2⟩ := hpf h7 g7
      have hp1 := hp1 k2
      rw [k1] at hp1
      refine LWp.reg hT hW (fun | 75 => some <| .plain ⟨.d a.d, true⟩ | 76 => some <| .plain ⟨.tup [.d x.d, .d (.bool (decide (0 ≤ findI E a)))], false⟩ | _ => none) (by intro d; first | exact ⟨rfl, fun _ h => h⟩ | (split <;> exact ⟨rfl, fun _ h => h⟩)) ?_
      simp [evalExtract]
      refine ⟨⟨ha, by simpa using hof⟩, ?_⟩
      refine LWp.seq ?_
      refine LWp.regAny hT hW hMixed (lk [[],[],[],[2],[1,2,3],[],[],[6],[1,2,3,4,5,6,7],[0,1,2,3,4,5,6,7,8],[0,1,2,3,4,5,6,7,8,9],[0,1,2,3,4,5,6,7,8,9,10],[0,1,2,3,4,5,6,7,8,9,10],[0,1,2,3,4,5,6,7,8,9,10,11],[0,1,2,3,4,5,6,7,8,9,10,11,12,13]]) (lk [[83,84,87,88],[83,87],[87],[87],[87],[83,84,87],[83,84],[83,84],[],[],[],[],[],[],[]]) (lk [[],[],[],[83],[84,83],[],[],[87],[88],[89],[],[],[],[],[]]) (by kernel_rfl) (fun | 84 => some <| .plain ⟨.d (edsD (E ++ [v.1])), false⟩ | 88 => some <| .plain ⟨.d (nmsD (C ++ [y])), true⟩ | 89 => some <| .plain ⟨.tup [.d (dfsD (doneD P0.1 x)), .d (I64 0)], true⟩ | _ => none) (by intro d; first | exact ⟨rfl, fun _ h => h⟩ | (split <;> exact ⟨rfl, fun _ h => h⟩)) ?_
      simp [evalExtract]
      refine ⟨⟨⟨by simpa using hw1, by simpa using ha1⟩, by simpa using hp1⟩, ?_⟩
      refine LWp.seq ?_
      refine LWp.reg hT hW (fun | 98 => some <| .plain ⟨.d (dfsD (doneD P0.1 x)), false⟩ | 99 => some <| .plain ⟨.d (.bool true), true⟩ | _ => none) (by intro d; first | exact ⟨rfl, fun _ h => h⟩ | (split <;> exact ⟨rfl, fun _ h => h⟩)) ?_
      simp
      refine ⟨⟨by simpa using Done_ok P0.1 x (by have := hP0 h7; have : C.length * 4 ≤ 6 * 4 := Nat.mul_le_mul_right _ hCl; omega) xsm.1 xsm.2, by simpa using ex_defs (doneD P0.1 x) _ rfl⟩, ?_⟩
      refine LWp.iff ?_
      simp
      refine LWp.skip ?_
      simp
      exact (Weak.to [3, 4, 11, 12, 14] [(14, 14)] (by decide) (by decide) (by simp [hp]) (by simp) (by simp))
    · refine LWp.skip ?_
      simp
      exact (Weak.to [3, 4, 11, 12, 14] [(14, 14)] (by decide) (by decide) (by simp [hp]) (by simp) (by simp))
  · refine LWp.seq ?_
    refine LWp.reg hT hW (fun | 104 => some <| .plain ⟨.d a.d, true⟩ | _ => none) (by intro d; first | exact ⟨rfl, fun _ h => h⟩ | (split <;> exact ⟨rfl, fun _ h => h⟩)) ?_
    simp
    refine ⟨ha, ?_⟩
    refine LWp.seq ?_
    refine LWp.reg hT hW (fun | 107 => some <| .plain ⟨.d b.d, true⟩ | _ => none) (by intro d; first | exact ⟨rfl, fun _ h => h⟩ | (split <;> exact ⟨rfl, fun _ h => h⟩)) ?_
    simp
    refine ⟨hb, ?_⟩
    refine LWp.seq ?_
    refine LWp.reg hT hW (fun _ => none) (fun _ => ⟨rfl, fun _ h => h⟩) ?_
    simp [(show [0, 1, 2, 3] = List.range 4 from rfl)]
    refine LWp.weak (Weak.close 25 (x := dfsD four4) (by simp [four4])) ?_
    refine LWp.seq ?_
    refine LWp.reg hT hW (fun | 120 => some <| .plain ⟨.tup [.d z.1.d, .d (I64 z.2)], false⟩ | _ => none) (by intro d; first | exact ⟨rfl, fun _ h => h⟩ | (split <;> exact ⟨rfl, fun _ h => h⟩)) ?_
    simp [evalExtract]
    refine ⟨by simpa using hres, ?_⟩
    refine LWp.seq ?_
    refine LWp.seq ?_
    refine LWp.reg hT hW (fun _ => none) (fun _ => ⟨rfl, fun _ h => h⟩) ?_
    simp
    refine LWp.iff ?_
    simp
    refine ⟨fun h16 => ?_, fun h16 => ?_⟩
    · refine LWp.seq ?_
      refine LWp.reg hT hW (fun | 125 => some <| .plain ⟨.d (.bool true), true⟩ | _ => none) (by intro d; first | exact ⟨rfl, fun _ h => h⟩ | (split <;> exact ⟨rfl, fun _ h => h⟩)) ?_
      simp
      refine ⟨lives3_ok, ?_⟩
      refine LWp.ret ?_
      simp
    · refine LWp.skip ?_
      simp
      refine LWp.seq ?_
      have f := hrf (by simpa using h16)
      refine LWp.reg hT hW (fun | 129 => some <| .plain ⟨.d (edsD F), false⟩ | _ => none) (by intro d; first | exact ⟨rfl, fun _ h => h⟩ | (split <;> exact ⟨rfl, fun _ h => h⟩)) ?_
      simp
      refine ⟨by simpa using hw2, ?_⟩
      refine LWp.seq ?_
      have hcl := Closure_ok F [y] f.needs (by simp)
      rw [f.clo] at hcl
      refine LWp.reg hT hW (fun | 134 => some <| .plain ⟨.tup [.d (nmsD K), .d (I64 0)], false⟩ | _ => none) (by intro d; first | exact ⟨rfl, fun _ h => h⟩ | (split <;> exact ⟨rfl, fun _ h => h⟩)) ?_
      simp [evalExtract]
      refine ⟨by simpa using hcl, ?_⟩
      refine LWp.seq ?_
      have hp2 := EProgram_ok D F K f.sm (by omega) (by have := f.len; omega)
      rw [f.prog] at hp2
      have at1 := f.at1
      have at2 := f.at2
      obtain ⟨Q, hQ⟩ : ∃ Q, Q = (programV D F K).1 := ⟨_, rfl⟩
      rw [← hQ] at hp2 at1 at2
      refine LWp.reg hT hW (fun | 141 => some <| .plain ⟨.tup [.d (dfsD Q), .d (I64 0)], true⟩ | _ => none) (by intro d; first | exact ⟨rfl, fun _ h => h⟩ | (split <;> exact ⟨rfl, fun _ h => h⟩)) ?_
      simp [evalExtract]
      refine ⟨by simpa using hp2, ?_⟩
      refine LWp.seq ?_
      refine LWp.seq ?_
      have hcla := Clash_ok F K a b f.sm (by have := f.needs; omega) f.found (by have := f.len; omega)
      rw [f.clash] at hcla
      refine LWp.reg hT hW (fun | 151 => some <| .plain ⟨.d (.bool false), true⟩ | _ => none) (by intro d; first | exact ⟨rfl, fun _ h => h⟩ | (split <;> exact ⟨rfl, fun _ h => h⟩)) ?_
      simp
      refine ⟨by simpa using hcla, ?_⟩
      refine LWp.iff ?_
      simp
      refine LWp.skip ?_
      simp
      refine LWp.seq ?_
      refine LWp.seq ?_
      refine LWp.reg hT hW (fun _ => none) (fun _ => ⟨rfl, fun _ h => h⟩) ?_
      simp
      refine LWp.block ?_
      refine LWp.loopW (ι := Nat) (fun i => mkEnv [(25, .d (dfsD four4)), (31, .d (dfsD Q)), (33, .d (I64 i))]) (fun i => mkObs []) (fun i => i ≤ 4) (fun i => 4 - i) 0 (Weak.to [25, 31, 33] [] (by decide) (by decide) (by simp [hp]) (by simp) (by simp)) (by simp) fun i hi24 => ?_
      refine LWp.seq ?_
      refine LWp.seq ?_
      have h4 : four4.length = 4 := rfl
      refine LWp.reg hT hW (fun _ => none) (fun _ => ⟨rfl, fun _ h => h⟩) ?_
      simp [h4]
      refine LWp.iff ?_
      simp
      refine ⟨fun h24 => ?_, fun h24 => ?_⟩
      · refine LWp.skip ?_
        simp
        refine LWp.seq ?_
        refine LWp.block ?_
        refine LWp.seq ?_
        have hi4 : i < four4.length := by rw [h4]; omega
        have hd := Def_ok Q four4[i].name
        rw [at1 i hi4] at hd
        obtain ⟨d, hdd⟩ : ∃ d, d = four4[i] := ⟨_, rfl⟩
        rw [← hdd] at hd
        refine LWp.reg hT hW (fun | 170 => some <| .plain ⟨.tup [.d d.d, .d (.bool true)], true⟩ | _ => none) (by intro d; first | exact ⟨rfl, fun _ h => h⟩ | (split <;> exact ⟨rfl, fun _ h => h⟩)) ?_
        simp [evalExtract, hi4, ← hdd]
        refine ⟨by simpa using hd, ?_⟩
        refine LWp.seq ?_
        refine LWp.regAny hT hW hMixed (lk [[],[0],[0,1],[0,1,2],[0,1,2],[0,1,2],[0,1,2,4,5],[0,1,2,4,5,6],[0,1,2,3,4,5,6,7],[0,1,2,3,4,5,6,7,8]]) (lk [[],[],[],[],[],[],[],[],[],[]]) (lk [[],[],[],[],[],[],[],[],[],[]]) (by kernel_rfl) (fun _ => none) (fun _ => ⟨rfl, fun _ h => h⟩) ?_
        simp [hi4, ← hdd]
        refine LWp.iff ?_
        simp
        refine LWp.skip ?_
        simp
        refine LWp.reg hT hW (fun _ => none) (fun _ => ⟨rfl, fun _ h => h⟩) ?_
        simp
        refine ⟨by omega, ?_⟩
        refine loopQ.mk (i + 1) (Weak.to [25, 31, 33] [] (by decide) (by decide) (by simp [hp]) (by simp) (by simp)) ?_ ?_
        · omega
        · omega
      · refine LWp.exit ?_
        simp
        refine LWp.seq ?_
        have hd0 := Def_ok Q [100]
        rw [at2] at hd0
        refine LWp.reg hT hW (fun | 185 => some <| .plain ⟨.tup [.d (default : Df).d, .d (.bool false)], true⟩ | _ => none) (by intro d; first | exact ⟨rfl, fun _ h => h⟩ | (split <;> exact ⟨rfl, fun _ h => h⟩)) ?_
        simp [evalExtract]
        refine ⟨by simpa using hd0, ?_⟩
        refine LWp.seq ?_
        refine LWp.reg hT hW (fun | 191 => some <| .plain ⟨.d (.bool true), true⟩ | _ => none) (by intro d; first | exact ⟨rfl, fun _ h => h⟩ | (split <;> exact ⟨rfl, fun _ h => h⟩)) ?_
        simp
        refine ⟨lives3_ok, ?_⟩
        refine LWp.ret ?_
        simp
end Go.Eng
