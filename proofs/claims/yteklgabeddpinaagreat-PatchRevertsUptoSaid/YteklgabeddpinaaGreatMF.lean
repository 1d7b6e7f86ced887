/-
  Texts of the proofs of this seat, part 6. No condition.
-/
import Derived.Test.YteklgabeddpinaaGreatME
import Derived.OpenShut
set_option linter.unusedVariables false
set_option linter.unusedSimpArgs false
namespace Go.Eng
open Go.Proofs
attribute [local simp] runL stepL evalG evalOp opLV constLV putEnv dstOk upd upds Res.plain Res.cond Res.fail evalBin evalUn seqQ blockQ argsEnv lookL lookH RetIs memless freshL evalPick evalMin bval bok evalLen evalIn strip whenC guardOps guardC slotsOf
  runM foldS stepI stepM maskE wrIn lk renO lookN evalCall evalCallee optAll resLV resObj retLV retObj retsLV retsObj evalLoad evalIndexAddr evalField solid cellsD_agg cellsD_int cellsD_bool cellsD_str cellsD_sl cellsD_ro cellsD_fn cellsL_agg cellsL_dagg cellsL_int cellsL_bool cellsL_str cellsL_sl cellsL_fn cellsL_ow cellsL_bx cellsL_lfn cellsL_nl takeL takeD mkAgg allD eqD eqDs kindsAre kindIs LObj.live TK.isNone TK.agg TK.isBool TK.isStr TK.isStruct Op.operands Call.operands
  evalBuildSlice evalAppend elemsOf evalStore evalBuild fillL lookupF putL evalSlice bound evalConv elemsS freezes frozen loadR
  mkEnv_at mkObs_at close_d close_agg close_ow close_bx close_fn close_nl touch_d touch_agg touch_ow touch_bx touch_fn touch_nl ren_d ren_agg ren_bx ren_rp ren_ow ren_fn ren_nl ren_junk retQ_ret retQ2_ret condQ_bool Nm.d Df.d Ed.d nmsD dfsD strsD edsD retC_ret nm_eq df_eq take_map_len take_map_app
  nm_t nm_d nm_td df_t df_d df_td str_t str_d str_td ed_t ed_d ed_td
  evalAppendIn evalCut evalClear evalCopy evalMake evalWrap evalCap evalNil isNilC lenL isInp gorc
  mapOf findD keyEq keyOk evalMakeMap evalRange zeroD zeroDV argsG shutG outN lenv retG0_ret retG0_normal retG1_ret renO close_mp touch_mp ren_mp optAll_d optAll_d' touch_ds cellsL_mp cellsD_mp cellsL_dmp
  evalMapSet evalPtr TK.isPtr evalToArr firstL retN_ret retsQ rvarL close_bm touch_bm ren_bm cellsD_bm cellsL_bm cellsL_lbm
theorem IncTo.next {α : Type} {lt : α → α → Bool} {l : List α} {i : Nat} {d : α} (h : IncTo lt l i) (hi : i < l.length) (hp : 0 < i → lt (l.getD (i - 1) d) (l.getD i d) = true) : IncTo lt l (i + 1) := by
  cases i with
  | zero => exact IncTo.start (by omega)
  | succ i =>
    refine h.succ hi ?_
    have := hp (by omega)
    simpa [show i < l.length by omega, hi] using this
theorem incr_no {α : Type} {lt : α → α → Bool} {l : List α} {i : Nat} {d : α} (hi : i < l.length) (h0 : 0 < i) (hp : lt (l.getD (i - 1) d) (l.getD i d) = false) : incr lt l = false := by
  obtain ⟨j, rfl⟩ : ∃ j, i = j + 1 := ⟨i - 1, by omega⟩
  exact incr_false hi (by simpa [show j < l.length by omega, hi] using hp)
set_option maxRecDepth 20000
theorem Possible_ok (e : Ed) (b1 : e.puts.length ≤ 1100000) (b2 : e.drops.length ≤ 1100000) (b3 : e.needs.length ≤ 1100000) : Ok Tryz.prog 76 [e.d] ⟨.d (.bool (properE e)), true⟩ := by
  refine Ok.ret Tryz.func76 (by kernel_rfl) (c := _) rfl Tryz.ntmps76 (by simp) Tryz.results76 (by intro _ h; cases h) fun w0 X hp => ?_
  have htl := touches_len b1 b2
  refine LWp.seq ?_
  refine LWp.rz hT hW ?_
  simp
  refine LWp.seq ?_
  refine LWp.ro hT hW (fun | 9 => some <| .plain ⟨.d (strsD (touches e)), true⟩ | _ => none) ?_
  simp
  refine ⟨Touches_ok e b1 b2, ?_⟩
  refine LWp.seq ?_
  refine LWp.seq ?_
  refine LWp.ro hT hW (fun | 12 => some <| .plain ⟨.d (.bool e.name.isName), true⟩ | _ => none) ?_
  simp
  refine ⟨IsName_ok _, ?_⟩
  refine LWp.iff ?_
  simp
  refine ⟨fun h2 => ?_, fun n1 n2 => ?_⟩
  · refine LWp.seq ?_
    refine LWp.rz hT hW ?_
    simp
    refine LWp.ret ?_
    simp
    rcases h2 with h | h
    · simp [properE, h]
    · have h : ¬ (touches e).length ≤ 24 := by omega
      simp [properE, h]
  · refine LWp.skip ?_
    simp
    refine LWp.seq ?_
    refine LWp.seq ?_
    refine LWp.rz hT hW ?_
    simp
    refine LWp.block ?_
    refine LWp.loopW (ι := Nat) (fun i => mkEnv [(1, .bx 1 0), (3, .d (strsD (touches e))), (4, .d (I64 i))]) (fun i => mkObs [(1, .box false ((cellsD e.d).map .d))]) (fun i => i ≤ e.needs.length ∧ Pre (fun n => !Nm.isName n) e.needs i ∧ IncTo Nm.less e.needs i) (fun i => e.needs.length - i) 0 (Weak.to [1, 3, 4] [(1, 1)] (by decide) (by decide) (by simp [hp]) (by simp) (by simp)) (⟨Nat.zero_le _, Pre.zero, IncTo.start (by omega)⟩) fun i hi5 => ?_
    refine LWp.seq ?_
    refine LWp.seq ?_
    refine LWp.rz hT hW ?_
    simp
    refine LWp.iff ?_
    simp
    refine ⟨fun h5 => ?_, fun h5 => ?_⟩
    · refine LWp.skip ?_
      simp
      refine LWp.seq ?_
      refine LWp.block ?_
      refine LWp.seq ?_
      obtain ⟨i1, hi1⟩ : ∃ i1, i1 = i - 1 := ⟨_, rfl⟩
      have hmx : (if (i : Int) - 1 < 0 then (0 : Int) else (i : Int) - 1) = (i1 : Int) := by split <;> omega
      have hil : i1 < e.needs.length := by omega
      refine LWp.regAny hT hW hMixed (lk [[],[0],[],[0,1,2],[0,1,2,3],[0,1,2,3,4],[0,1,2,3,4,5],[0,1,2,3,4,5,6],[0,1,2,3,4,5,6,7],[0,1,2,3,4,5,6,7,8],[0,1,2,3,4,5,6,7,8,9],[0,1,2,3,4,5,6,7,8,9,10],[0,1,2,3,4,5,6,7,8,9,10,11],[0,1,2,3,4,5,6,7,8,9,10],[0,1,2,3,4,5,6,7,8,9,10,13],[0,1,2,3,4,5,6,7,8,9,10,13,14],[0,1,2,3,4,5,6,7,8,9,10,11,12,13,14,15],[0,1,2,3,4,5,6,7,8,9,10,11,12,13,14,15,16],[0,1,2,3,4,5,6,7,8,9,10],[0,1,2,3,4,5,6,7,8,9,10,18],[0,1,2,3,4,5,6,7,8,9,10],[0,1,2,3,4,5,6,7,8,9,10,18,19,20],[0,1,2,3,4,5,6,7,8,9,10,18,19,20,21],[0,1,2,3,4,5,6,7,8,9,10,11,12,13,14,15,16,17,18,19,20,21,22],[0,1,2,3,4,5,6,7,8,9,10,11,12,13,14,15,16,17,18,19,20,21,22,23],[0,1,2,3,4,5,6,7,8,9,10,11,12,13,14,15,16,17,18,19,20,21,22,23,24],[0,1,2,3,4,5,6,7,8,9,10,11,12,13,14,15,16,17,18,19,20,21,22,23,24,25]]) (lk [[],[],[],[],[],[],[],[],[],[],[],[],[],[],[],[],[],[],[],[],[],[],[],[],[],[],[]]) (lk [[],[],[],[],[],[31],[],[],[],[],[],[],[],[],[],[],[],[],[],[],[],[],[],[49],[],[],[]]) (by kernel_rfl) (fun | 31 => some <| .plain ⟨.d (.bool e.needs[i].isName), true⟩ | 49 => some <| .plain ⟨.d (.bool (Nm.less e.needs[i1] e.needs[i])), true⟩ | _ => none) (by intro d; first | exact ⟨rfl, fun _ h => h⟩ | (split <;> exact ⟨rfl, fun _ h => h⟩)) ?_
      simp [h5, hmx, hil]
      refine ⟨⟨⟨⟨IsName_ok _, fun _ _ => by omega⟩, fun _ _ => Less_ok _ _⟩, fun a b => ⟨a, b⟩⟩, ?_⟩
      refine LWp.iff ?_
      simp
      refine ⟨fun h7 => ?_, fun g1 g2 => ?_⟩
      · refine LWp.seq ?_
        refine LWp.rz hT hW ?_
        simp
        refine LWp.ret ?_
        simp
        rcases h7 with h | ⟨h0, h⟩
        · have : e.needs.all Nm.isName = false := by
            rw [List.all_eq_false]
            exact ⟨_, List.getElem_mem h5, by simp [h]⟩
          simp [properE, this]
        · have : incr Nm.less e.needs = false := incr_no (d := default) h5 h0 (by subst hi1; simpa [hil, h5] using h)
          simp [properE, this]
      · refine LWp.skip ?_
        simp
        refine LWp.rz hT hW ?_
        simp
        refine ⟨by omega, ?_⟩
        refine loopQ.mk (i + 1) (Weak.to [1, 3, 4] [(1, 1)] (by decide) (by decide) (by simp [hp]) (by simp) (by simp)) ?_ ?_
        · refine ⟨h5, hi5.2.1.succ h5 (by simpa using g1), hi5.2.2.next (d := default) h5 fun h0 => ?_⟩
          have := g2 h0
          subst hi1
          simpa [hil, h5] using this
        · omega
    · refine LWp.exit ?_
      simp
      refine LWp.seq ?_
      refine LWp.seq ?_
      refine LWp.rz hT hW ?_
      simp
      refine LWp.block ?_
      refine LWp.loopW (ι := Nat) (fun k => mkEnv [(1, .bx 1 0), (3, .d (strsD (touches e))), (5, .d (I64 k))]) (fun k => mkObs [(1, .box false ((cellsD e.d).map .d))]) (fun k => k ≤ (touches e).length ∧ ∀ (j : Nat) (h : j < (touches e).length), j < k → okName (touches e) j h = true) (fun k => (touches e).length - k) 0 (Weak.to [1, 3, 5] [(1, 1)] (by decide) (by decide) (by simp [hp]) (by simp) (by simp)) (⟨Nat.zero_le _, fun j _ h => absurd h (Nat.not_lt_zero _)⟩) fun k hi10 => ?_
      refine LWp.seq ?_
      refine LWp.seq ?_
      refine LWp.rz hT hW ?_
      simp
      refine LWp.iff ?_
      simp
      refine ⟨fun h10 => ?_, fun h10 => ?_⟩
      · refine LWp.skip ?_
        simp
        refine LWp.seq ?_
        refine LWp.block ?_
        refine LWp.seq ?_
        refine LWp.regAny hT hW hMixed (lk [[],[],[0,1],[0,1,2],[0,1,2,3],[0,1,2,3,4],[0,1,2,3,4,5],[0,1,2,3,4,5,6],[0,1,2,3,4,5,6],[0,1,2,3,4,5,6,7,8],[0,1,2,3,4,5,6,7,8,9],[0,1,2,3,4,5,6,7,8,9,10],[0,1,2,3,4,5,6,7,8,9,10,11],[0,1,2,3,4,5,6,7,8,9,10,11,12],[0,1,2,3,4,5,6,7,8,9,10,11,12,13],[0,1,2,3,4,5,6,7,8,9,10,11,12,13,14],[0,1,2,3,4,5,6,7,8,9,10,11,12,13,14],[0,1,2,3,4,5,6,7,8,9,10,11,12,13,14,15,16],[0,1,2,3,4,5,6,7,8,9,10,11,12,13,14],[0,1,2,3,4,5,6,7,8,9,10,11,12,13,14],[0,1,2,3,4,5,6,7,8,9,10,11,12,13,14,18,19],[0,1,2,3,4,5,6,7,8,9,10,11,12,13,14,18,19,20],[0,1,2,3,4,5,6,7,8,9,10,11,12,13,14,15,16,17,18,19,20,21],[0,1,2,3,4,5,6,7,8,9,10,11,12,13,14,15,16,17,18,19,20,21,22]]) (lk [[],[],[],[],[],[],[],[],[],[],[],[],[],[],[],[],[],[],[],[],[],[],[],[]]) (lk [[],[],[],[],[],[],[],[],[],[],[],[],[],[],[],[],[],[],[],[],[],[],[81],[]]) (by kernel_rfl) (fun | 81 => some <| .plain ⟨.d (.bool (decide ((touches e)[k] ∈ (touches e).take k))), true⟩ | _ => none) (by intro d; first | exact ⟨rfl, fun _ h => h⟩ | (split <;> exact ⟨rfl, fun _ h => h⟩)) ?_
        simp [h10]
        refine ⟨⟨fun _ _ => by omega, fun _ _ => by simpa [strsD] using In_ok ((touches e).take k) (touches e)[k]⟩, ?_⟩
        refine LWp.iff ?_
        simp
        refine ⟨fun h12 => ?_, fun q1 q2 q3 => ?_⟩
        · refine LWp.seq ?_
          refine LWp.rz hT hW ?_
          simp
          refine LWp.ret ?_
          simp
          have hn : okNames (touches e) = false := by
            cases qn : okNames (touches e) with
            | false => rfl
            | true =>
              have := okNames_iff.1 qn k h10
              simp only [okName, Bool.and_eq_true, decide_eq_true_eq] at this
              obtain ⟨⟨z1, z2⟩, z3⟩ := this
              rcases h12 with (h | h) | h
              · have := List.length_pos_iff.2 z1; omega
              · omega
              · exact absurd h z3
          simp [properE, hn]
        · refine LWp.skip ?_
          simp
          refine LWp.rz hT hW ?_
          simp
          refine ⟨by omega, ?_⟩
          refine loopQ.mk (k + 1) (Weak.to [1, 3, 5] [(1, 1)] (by decide) (by decide) (by simp [hp]) (by simp) (by simp)) ?_ ?_
          · refine ⟨h10, fun j hj hjk => ?_⟩
            by_cases hjk' : j = k
            · subst hjk'
              have z : (touches e)[j] ≠ [] := fun z => by rw [z] at q1; simp at q1
              simp only [okName, Bool.and_eq_true, decide_eq_true_eq]
              exact ⟨⟨z, by omega⟩, q3⟩
            · exact hi10.2 j hj (by omega)
          · omega
      · refine LWp.exit ?_
        simp
        refine LWp.seq ?_
        refine LWp.seq ?_
        refine LWp.rz hT hW ?_
        simp
        refine LWp.block ?_
        refine LWp.loopW (ι := Nat) (fun t => mkEnv [(1, .bx 1 0), (6, .d (I64 t))]) (fun t => mkObs [(1, .box false ((cellsD e.d).map .d))]) (fun t => t ≤ e.puts.length ∧ Pre (fun d => decide (1024 < d.text.length)) e.puts t ∧ IncTo bless (e.puts.map Df.name) t) (fun t => e.puts.length - t) 0 (Weak.to [1, 6] [(1, 1)] (by decide) (by decide) (by simp [hp]) (by simp) (by simp)) (⟨Nat.zero_le _, Pre.zero, IncTo.start (by omega)⟩) fun t hi15 => ?_
        refine LWp.seq ?_
        refine LWp.seq ?_
        refine LWp.rz hT hW ?_
        simp
        refine LWp.iff ?_
        simp
        refine ⟨fun h15 => ?_, fun h15 => ?_⟩
        · refine LWp.skip ?_
          simp
          refine LWp.seq ?_
          refine LWp.block ?_
          refine LWp.seq ?_
          obtain ⟨t1, ht1⟩ : ∃ t1, t1 = t - 1 := ⟨_, rfl⟩
          have hmx : (if (t : Int) - 1 < 0 then (0 : Int) else (t : Int) - 1) = (t1 : Int) := by split <;> omega
          have htl1 : t1 < e.puts.length := by omega
          refine LWp.regAny hT hW hMixed (lk [[],[0],[],[0,1,2],[0,1,2,3],[0,1,2,3,4],[0,1,2,3,4,5],[0,1,2,3,4,5,6],[0,1,2,3,4,5,6,7],[0,1,2,3,4,5,6,7,8],[0,1,2,3,4,5,6,7,8,9],[0,1,2,3,4,5,6,7,8,9,10],[0,1,2,3,4,5,6,7,8,9,10,11],[0,1,2,3,4,5,6,7,8,9,10,11,12],[0,1,2,3,4,5,6,7,8,9,10,11],[0,1,2,3,4,5,6,7,8,9,10,11,14],[0,1,2,3,4,5,6,7,8,9,10,11,14,15],[0,1,2,3,4,5,6,7,8,9,10,11,12,13,14,15,16],[0,1,2,3,4,5,6,7,8,9,10,11,12,13,14,15,16,17],[0,1,2,3,4,5,6,7,8,9,10,11,12,13,14,15,16,17,18],[0,1,2,3,4,5,6,7,8,9,10,11],[0,1,2,3,4,5,6,7,8,9,10,11,20],[0,1,2,3,4,5,6,7,8,9,10,11],[0,1,2,3,4,5,6,7,8,9,10,11,20,21,22],[0,1,2,3,4,5,6,7,8,9,10,11,20,21,22,23],[0,1,2,3,4,5,6,7,8,9,10,11,20,21,22,23,24],[0,1,2,3,4,5,6,7,8,9,10,11,12,13,14,15,16,17,18,19,20,21,22,23,24,25],[0,1,2,3,4,5,6,7,8,9,10,11,12,13,14,15,16,17,18,19,20,21,22,23,24,25,26],[0,1,2,3,4,5,6,7,8,9,10,11,12,13,14,15,16,17,18,19,20,21,22,23,24,25,26,27]]) (lk [[],[],[],[],[],[],[],[],[],[],[],[],[],[],[],[],[],[],[],[],[],[],[],[],[],[],[],[],[]]) (lk [[],[],[],[],[],[],[],[],[],[],[],[],[],[],[],[],[],[],[],[],[],[],[],[],[],[],[],[],[]]) (by kernel_rfl) (fun _ => none) (fun _ => ⟨rfl, fun _ h => h⟩) ?_
          simp [h15, hmx, htl1]
          refine ⟨⟨fun _ _ => by omega, fun a b => ⟨a, b⟩⟩, ?_⟩
          refine LWp.iff ?_
          simp
          refine ⟨fun h17 => ?_, fun q4 q5 => ?_⟩
          · refine LWp.seq ?_
            refine LWp.rz hT hW ?_
            simp
            refine LWp.ret ?_
            simp
            rcases h17 with h | ⟨h0, h⟩
            · have : (e.puts.all fun d => decide (d.text.length ≤ 1024)) = false := by
                rw [List.all_eq_false]
                exact ⟨_, List.getElem_mem h15, by simp; omega⟩
              simp [properE, this]
            · have : incr bless (e.puts.map Df.name) = false := incr_no (d := default) (by simpa using h15) h0 (by subst ht1; simpa [htl1, h15, bless] using h)
              simp [properE, this]
          · refine LWp.skip ?_
            simp
            refine LWp.rz hT hW ?_
            simp
            refine ⟨by omega, ?_⟩
            refine loopQ.mk (t + 1) (Weak.to [1, 6] [(1, 1)] (by decide) (by decide) (by simp [hp]) (by simp) (by simp)) ?_ ?_
            · refine ⟨h15, hi15.2.1.succ h15 (by simp; omega), hi15.2.2.next (d := default) (by simpa using h15) fun h0 => ?_⟩
              have := q5 h0
              subst ht1
              simpa [htl1, h15, bless] using this
            · omega
        · refine LWp.exit ?_
          simp
          refine LWp.seq ?_
          refine LWp.seq ?_
          refine LWp.rz hT hW ?_
          simp
          refine LWp.block ?_
          refine LWp.loopW (ι := Nat) (fun u => mkEnv [(1, .bx 1 0), (7, .d (I64 u))]) (fun u => mkObs [(1, .box false ((cellsD e.d).map .d))]) (fun u => 1 ≤ u ∧ u ≤ e.drops.length + 1 ∧ IncTo bless e.drops u) (fun u => e.drops.length + 1 - u) 1 (Weak.to [1, 7] [(1, 1)] (by decide) (by decide) (by simp [hp]) (by simp) (by simp)) (⟨Nat.le_refl _, by omega, IncTo.start (Nat.le_refl _)⟩) fun u hi20 => ?_
          refine LWp.seq ?_
          refine LWp.seq ?_
          refine LWp.rz hT hW ?_
          simp
          refine LWp.iff ?_
          simp
          refine ⟨fun h20 => ?_, fun h20 => ?_⟩
          · refine LWp.skip ?_
            simp
            refine LWp.seq ?_
            refine LWp.block ?_
            refine LWp.seq ?_
            obtain ⟨u1, hu1⟩ : ∃ u1, u1 = u - 1 := ⟨_, rfl⟩
            have hu10 : 1 ≤ u := hi20.1
            have hmu : ((u : Int) - 1).toNat = u1 := by omega
            have hul1 : u1 < e.drops.length := by omega
            refine LWp.regAny hT hW hMixed (lk [[],[0],[],[2],[0,1,2,3],[0,1,2,3,4],[],[6],[],[6,7,8],[6,7,8,9],[0,1,2,3,4,5,6,7,8,9,10]]) (lk [[],[],[],[],[],[],[],[],[],[],[],[]]) (lk [[],[],[],[],[],[],[],[],[],[],[],[]]) (by kernel_rfl) (fun _ => none) (fun _ => ⟨rfl, fun _ h => h⟩) ?_
            simp [h20, hmu, hul1]
            refine ⟨⟨by omega, by omega, by omega⟩, ?_⟩
            refine LWp.iff ?_
            simp
            refine ⟨fun h22 => ?_, fun h22 => ?_⟩
            · refine LWp.seq ?_
              refine LWp.rz hT hW ?_
              simp
              refine LWp.ret ?_
              simp
              have : incr bless e.drops = false := incr_no (d := default) h20 (by omega) (by subst hu1; simpa [hul1, h20, bless] using h22)
              simp [properE, this]
            · refine LWp.skip ?_
              simp
              refine LWp.rz hT hW ?_
              simp
              refine ⟨by omega, ?_⟩
              refine loopQ.mk (u + 1) (Weak.to [1, 7] [(1, 1)] (by decide) (by decide) (by simp [hp]) (by simp) (by simp)) ?_ ?_
              · refine ⟨by omega, by omega, hi20.2.2.next (d := default) h20 fun h0 => ?_⟩
                subst hu1
                simpa [hul1, h20, bless] using h22
              · omega
          · refine LWp.exit ?_
            simp
            refine LWp.seq ?_
            refine LWp.rz hT hW ?_
            simp
            refine LWp.ret ?_
            simp
            have a1 : (e.needs.all Nm.isName) = true := by
              rw [List.all_eq_true]
              intro x hx
              obtain ⟨j, hj, rfl⟩ := List.getElem_of_mem hx
              have := hi5.2.1 j hj (by omega)
              simpa using this
            have a2 : (e.puts.all fun d => decide (d.text.length ≤ 1024)) = true := by
              rw [List.all_eq_true]
              intro x hx
              obtain ⟨j, hj, rfl⟩ := List.getElem_of_mem hx
              have := hi15.2.1 j hj (by omega)
              simp at this ⊢; omega
            have a3 : okNames (touches e) = true := okNames_iff.2 fun j hj => hi10.2 j hj (by omega)
            have a4 : incr Nm.less e.needs = true := hi5.2.2.done (by omega)
            have a5 : incr bless (e.puts.map Df.name) = true := hi15.2.2.done (by simp; omega)
            have a6 : incr bless e.drops = true := hi20.2.2.done (by omega)
            have a7 : (touches e).length ≤ 24 := by omega
            simp [properE, n1, a1, a2, a3, a4, a5, a6, a7]
open Go.Proofs
theorem Valid_ok (l : List Ed) (hs : small l) (hn : (allNeeds l).length ≤ 1100000) : Ok Tryz.prog 55 [edsD l] ⟨.tup [.d (I64 (validV l).1), .d (I64 (validV l).2)], true⟩ := by
  refine Ok.two Tryz.func55 (by kernel_rfl) (c := _) rfl Tryz.ntmps55 (by simp) Tryz.results55 rfl fun w0 X hp => ?_
  refine LWp.len (t := 0) rfl fun hlen => ?_
  simp at hlen
  refine LWp.seq ?_
  refine LWp.rz hT hW ?_
  simp
  refine LWp.seq ?_
  refine LWp.seq ?_
  refine LWp.rz hT hW ?_
  simp
  refine LWp.iff ?_
  simp
  refine ⟨fun h1 => ?_, fun h1 => ?_⟩
  · refine LWp.seq ?_
    refine LWp.rz hT hW ?_
    simp
    refine LWp.ret ?_
    have : 64 < l.length := by omega
    simp [validV, this]
  · refine LWp.skip ?_
    simp
    refine LWp.seq ?_
    refine LWp.seq ?_
    refine LWp.rz hT hW ?_
    simp
    refine LWp.block ?_
    refine LWp.loopW (ι := Nat) (fun i => mkEnv [(0, .d (edsD l)), (4, .d (I64 i))]) (fun i => mkObs []) (fun i => i ≤ l.length ∧ validFrom l (l.drop i) i = validFrom l l 0) (fun i => l.length - i) 0 (Weak.to [0, 4] [] (by decide) (by decide) (by simp [hp]) (by simp) (by simp)) (by simp) fun i hi4 => ?_
    refine LWp.seq ?_
    refine LWp.seq ?_
    refine LWp.rz hT hW ?_
    simp
    refine LWp.iff ?_
    simp
    refine ⟨fun h4 => ?_, fun h4 => ?_⟩
    · refine LWp.skip ?_
      simp
      refine LWp.seq ?_
      refine LWp.block ?_
      refine LWp.seq ?_
      refine LWp.rz hT hW ?_
      simp [h4]
      refine LWp.seq ?_
      refine LWp.seq ?_
      have hnd := flat_mem_len (List.getElem_mem h4)
      have hnd2 : l[i].needs.length ≤ 1100000 := Nat.le_trans hnd hn
      refine LWp.ro hT hW (fun | 21 => some <| .plain ⟨.d (.bool (properE l[i])), true⟩ | _ => none) ?_
      simp [h4]
      refine ⟨Possible_ok l[i] (hs _ (List.getElem_mem h4)).1 (hs _ (List.getElem_mem h4)).2 hnd2, ?_⟩
      refine LWp.iff ?_
      simp
      refine ⟨fun h7 => ?_, fun h7 => ?_⟩
      · refine LWp.seq ?_
        refine LWp.rz hT hW ?_
        simp
        refine LWp.ret ?_
        have hl : ¬ 64 < l.length := by omega
        have e : errE l i l[i] = 1 := by simp [errE, h7]
        have hv := validFrom_stop h4 (by rw [e]; decide)
        rw [hi4.2, e] at hv
        simp [validV, hl, hv]
      · refine LWp.skip ?_
        simp
        refine LWp.seq ?_
        refine LWp.seq ?_
        refine LWp.ro hT hW (fun | 27 => some <| .plain ⟨.d (I64 (findI l l[i].name)), true⟩ | _ => none) ?_
        simp
        refine ⟨Find_ok l l[i].name, ?_⟩
        refine LWp.iff ?_
        simp
        refine ⟨fun h9 => ?_, fun h9 => ?_⟩
        · refine LWp.seq ?_
          refine LWp.rz hT hW ?_
          simp
          refine LWp.ret ?_
          have hl : ¬ 64 < l.length := by omega
          have e : errE l i l[i] = 7 := by simp [errE, h7, h9]
          have hv := validFrom_stop h4 (by rw [e]; decide)
          rw [hi4.2, e] at hv
          simp [validV, hl, hv]
        · refine LWp.skip ?_
          simp
          refine LWp.seq ?_
          refine LWp.seq ?_
          refine LWp.rz hT hW ?_
          simp
          refine LWp.block ?_
          refine LWp.loopW (ι := Nat) (fun k => mkEnv [(0, .d (edsD l)), (4, .d (I64 i)), (5, .bx 5 0), (6, .d (I64 k))]) (fun k => mkObs [(5, .box false ((cellsD l[i].d).map .d))]) (fun k => k ≤ l[i].needs.length ∧ Pre (fun n => decide (findI l n < 0)) l[i].needs k) (fun k => l[i].needs.length - k) 0 (Weak.to [0, 4, 5, 6] [(5, 5)] (by decide) (by decide) (by simp [hp]) (by simp) (by simp)) (⟨Nat.zero_le _, Pre.zero⟩) fun k hi12 => ?_
          refine LWp.seq ?_
          refine LWp.seq ?_
          refine LWp.rz hT hW ?_
          simp
          refine LWp.iff ?_
          simp
          refine ⟨fun h12 => ?_, fun h12 => ?_⟩
          · refine LWp.skip ?_
            simp
            refine LWp.seq ?_
            refine LWp.block ?_
            refine LWp.seq ?_
            refine LWp.ro hT hW (fun | 44 => some <| .plain ⟨.d (I64 (findI l l[i].needs[k])), true⟩ | _ => none) ?_
            simp [h12]
            refine ⟨Find_ok l _, ?_⟩
            refine LWp.iff ?_
            simp
            refine ⟨fun h14 => ?_, fun h14 => ?_⟩
            · refine LWp.seq ?_
              refine LWp.rz hT hW ?_
              simp
              refine LWp.ret ?_
              have hl : ¬ 64 < l.length := by omega
              have k8 : ¬ findI l l[i].name < i := by omega
              have k10 : l[i].needs.any (fun n => decide (findI l n < 0)) = true := List.any_eq_true.2 ⟨_, List.getElem_mem h12, by simpa using h14⟩
              have e : errE l i l[i] = 6 := by simp [errE, h7, k8, k10]
              have hv := validFrom_stop h4 (by rw [e]; decide)
              rw [hi4.2, e] at hv
              simp [validV, hl, hv]
            · refine LWp.skip ?_
              simp
              refine LWp.rz hT hW ?_
              simp
              refine ⟨by omega, ?_⟩
              refine loopQ.mk (k + 1) (Weak.to [0, 4, 5, 6] [(5, 5)] (by decide) (by decide) (by simp [hp]) (by simp) (by simp)) ?_ ?_
              · exact ⟨h12, hi12.2.succ h12 (by simpa using h14)⟩
              · omega
          · refine LWp.exit ?_
            simp
            refine LWp.seq ?_
            refine LWp.ro hT hW (fun | 52 => some <| .plain ⟨.d (.bool (decide (l[i].name ∈ aboveL l l[i].name))), true⟩ | _ => none) ?_
            simp
            refine ⟨Before_ok l _ _ hn, ?_⟩
            refine LWp.iff ?_
            simp
            refine ⟨fun h16 => ?_, fun h16 => ?_⟩
            · refine LWp.seq ?_
              refine LWp.rz hT hW ?_
              simp
              refine LWp.ret ?_
              have hl : ¬ 64 < l.length := by omega
              have k8 : ¬ findI l l[i].name < i := by omega
              have k10 : l[i].needs.any (fun n => decide (findI l n < 0)) = false := hi12.2.any (by omega)
              have e : errE l i l[i] = 13 := by simp [errE, h7, k8, k10, h16]
              have hv := validFrom_stop h4 (by rw [e]; decide)
              rw [hi4.2, e] at hv
              simp [validV, hl, hv]
            · refine LWp.skip ?_
              simp
              refine LWp.rz hT hW ?_
              simp
              refine ⟨by omega, ?_⟩
              refine loopQ.mk (i + 1) (Weak.to [0, 4] [] (by decide) (by decide) (by simp [hp]) (by simp) (by simp)) ?_ ?_
              · refine ⟨h4, ?_⟩
                rw [← hi4.2, ← validFrom_step h4]
                have k8 : ¬ findI l l[i].name < i := by omega
                have k10 : l[i].needs.any (fun n => decide (findI l n < 0)) = false := hi12.2.any (by omega)
                simp [errE, h7, k8, k10, h16]
              · omega
    · refine LWp.exit ?_
      simp
      refine LWp.seq ?_
      refine LWp.rz hT hW ?_
      simp
      refine LWp.ret ?_
      have hl : ¬ 64 < l.length := by omega
      have hv := validFrom_end (l := l) (i := i) (by omega)
      rw [hi4.2] at hv
      have q : i = l.length := by omega
      simp [validV, hl, hv, q]
open Go.Proofs
theorem five {k : Nat} (h : k < 5) : [DV.str [97], DV.str [98], DV.str [99], DV.str [100], DV.str [97, 97]][k]?.getD default = .str ((([[97], [98], [99], [100], [97, 97]] : List Str)).getD k []) := by
  match k, h with
  | 0, _ => rfl
  | 1, _ => rfl
  | 2, _ => rfl
  | 3, _ => rfl
  | 4, _ => rfl
theorem name_ok (n : Int) (h1 : -9223372036854775808 ≤ n) (h2 : n ≤ 9223372036854775807) : Ok Tryz.prog 87 [I64 n] ⟨.d (.str (nameS n)), true⟩ := by
  refine Ok.ret Tryz.func87 (by kernel_rfl) (c := _) rfl Tryz.ntmps87 (by simp) Tryz.results87 (by intro _ h; cases h) fun w0 X hp => ?_
  have ha := around_lt n 5 (by decide)
  have h5 : [DV.str [97], DV.str [98], DV.str [99], DV.str [100], DV.str [97, 97]][(around n 5).toNat]?.getD default = .str (nameS n) := five (by omega)
  have h0 : [0, 1, 2, 3, 4] = List.range 5 := by decide
  refine LWp.seq ?_
  refine LWp.rz hT hW ?_
  simp
  refine LWp.seq ?_
  refine LWp.ro hT hW (fun | 5 => some <| .plain ⟨.d (I64 (around n 5)), true⟩ | _ => none) ?_
  simp [h5]
  refine ⟨⟨⟨⟨h0, Around_ok n 5 h1 h2 (by decide)⟩, ha⟩, ha.2⟩, ?_⟩
  refine LWp.ret ?_
  simp
theorem digit_byte (n : Int) : byteOf (.int .u8 (IntKind.u8.wrap (48 + around n 10))) = UInt8.ofNat (48 + around n 10).toNat := by
  obtain ⟨ha, hb⟩ := around_lt n 10 (by decide)
  obtain ⟨k, hk⟩ : ∃ k : Nat, around n 10 = k := ⟨(around n 10).toNat, by omega⟩
  rw [hk] at ha hb ⊢
  have hk10 : k < 10 := by omega
  clear hk ha hb
  match k, hk10 with
  | 0, _ => rfl
  | 1, _ => rfl
  | 2, _ => rfl
  | 3, _ => rfl
  | 4, _ => rfl
  | 5, _ => rfl
  | 6, _ => rfl
  | 7, _ => rfl
  | 8, _ => rfl
  | 9, _ => rfl
theorem nameS_len (n : Int) : (nameS n).length ≤ 2 := by
  unfold nameS
  obtain ⟨ha, hb⟩ := around_lt n 5 (by decide)
  obtain ⟨k, hk⟩ : ∃ k : Nat, (around n 5).toNat = k := ⟨_, rfl⟩
  have hk5 : k < 5 := by omega
  rw [hk]
  clear hk ha hb
  match k, hk5 with
  | 0, _ => exact Nat.le_succ 1
  | 1, _ => exact Nat.le_succ 1
  | 2, _ => exact Nat.le_succ 1
  | 3, _ => exact Nat.le_succ 1
  | 4, _ => exact Nat.le_refl 2
theorem def_ok (n v : Int) (h1 : -9223372036854775808 ≤ n) (h2 : n ≤ 9223372036854775807) (h3 : -9223372036854775808 ≤ v) (h4 : v ≤ 9223372036854775807) : Ok Tryz.prog 59 [I64 n, I64 v] ⟨.d (defD n v).d, true⟩ := by
  refine Ok.cell hT Tryz.func59 (by kernel_rfl) (c := _) rfl Tryz.ntmps59 (by simp) Tryz.results59 (by intro _ h; cases h) fun w0 X hp => ?_
  have ha := around_lt v 10 (by decide)
  have hl := nameS_len n
  refine LWp.seq ?_
  refine LWp.rz hT hW ?_
  simp
  refine LWp.seq ?_
  refine LWp.ro hT hW (fun | 7 => some <| .plain ⟨.d (I64 (around v 10)), true⟩ | _ => none) ?_
  simp [digit_byte]
  refine ⟨⟨Around_ok v 10 h3 h4 (by decide), by omega, by omega⟩, ?_⟩
  refine LWp.seq ?_
  refine LWp.ro hT hW (fun | 13 => some <| .plain ⟨.d (.str (nameS n)), true⟩ | 15 => some <| .plain ⟨.d (.str (nameS n)), true⟩ | _ => none) ?_
  simp
  refine ⟨⟨⟨⟨⟨name_ok n h1 h2, by omega⟩, by omega⟩, by omega⟩, by omega⟩, ?_⟩
  refine LWp.ret ?_
  simp [defD, digitS]
end Go.Eng
namespace Go.Eng
open Go.RowKit
section
variable {P : Program} {N : Nat} {w0 : Base} {X : Nat → Prop} {Q : LX → Env → Obs → Prop} {env : Env} {H : Obs}
theorem LWp.nlCell {c : Code} (b j id s : Nat) {fz : Bool} {cs : List LV} (hs : 0 < s) (h : H b = .box fz cs ∧ cs[j]? = some .nl ∧ H id = .absent ∧ LWp P N w0 X c Q env (upd (upd H id (.row false s [])) b (.box fz (cs.set j (.ow id 0 0))))) : LWp P N w0 X c Q env H := by
  obtain ⟨hb, hj, hid, h⟩ := h
  have hne : b ≠ id := fun e => by rw [e, hid] at hb; cases hb
  intro β a w sm
  obtain ⟨m1, g1⟩ := new_none sm.mem hid hs
  obtain ⟨m2, g2⟩ := m1.rebox (b := b) (fz := fz) (cs := cs) (cs' := cs.set j (.ow id 0 0)) (by rw [upd_ne _ _ hne]; exact hb) (by simp) fun i c c' v hc hc' hr => by
    rw [List.getElem?_set] at hc'
    by_cases e : j = i
    · subst e
      rw [hj] at hc; injection hc with hc; subst hc
      have hl := (List.getElem?_eq_some_iff.1 hj).1
      simp [hl] at hc'
      subst hc'
      cases hr with | nl p => exact .ow0 id 0 p false s [] (by rw [upd_same]) (.inl ⟨by rw [upd_same], rfl⟩)
    · simp only [e, if_false] at hc'
      rw [hc] at hc'; injection hc' with hc'; subst hc'
      exact hr
  exact h _ a w ⟨sm.defers, sm.size, m2.ext, m2.xold, m2.fresh, m2.inj, fun t => g2.R (g1.R (sm.env t)), m2.obj, m2.pin⟩
end
end Go.Eng
namespace Go.Eng
open Go.Proofs
attribute [local simp] runL stepL evalG evalOp opLV constLV putEnv dstOk upd upds Res.plain Res.cond Res.fail evalBin evalUn seqQ blockQ argsEnv lookL lookH RetIs memless freshL evalPick evalMin bval bok evalLen evalIn strip whenC guardOps guardC slotsOf
  runM foldS stepI stepM maskE wrIn lk renO lookN evalCall evalCallee optAll resLV resObj retLV retObj retsLV retsObj evalLoad evalIndexAddr evalField solid cellsD_agg cellsD_int cellsD_bool cellsD_str cellsD_sl cellsD_ro cellsD_fn cellsL_agg cellsL_dagg cellsL_int cellsL_bool cellsL_str cellsL_sl cellsL_fn cellsL_ow cellsL_bx cellsL_lfn cellsL_nl takeL takeD mkAgg allD eqD eqDs kindsAre kindIs LObj.live TK.isNone TK.agg TK.isBool TK.isStr TK.isStruct Op.operands Call.operands
  evalBuildSlice evalAppend elemsOf evalStore evalBuild fillL lookupF putL evalSlice bound evalConv elemsS freezes frozen loadR
  mkEnv_at mkObs_at close_d close_agg close_ow close_bx close_fn close_nl touch_d touch_agg touch_ow touch_bx touch_fn touch_nl ren_d ren_agg ren_bx ren_rp ren_ow ren_fn ren_nl ren_junk retQ_ret retQ2_ret condQ_bool Nm.d Df.d Ed.d nmsD dfsD strsD edsD retC_ret nm_eq df_eq take_map_len take_map_app
  nm_t nm_d nm_td df_t df_d df_td str_t str_d str_td ed_t ed_d ed_td
  evalAppendIn evalCut evalClear evalCopy evalMake evalWrap evalCap evalNil isNilC lenL isInp gorc
  mapOf findD keyEq keyOk evalMakeMap evalRange zeroD zeroDV argsG shutG outN lenv retG0_ret retG0_normal retG1_ret renO close_mp touch_mp ren_mp optAll_d optAll_d' touch_ds cellsL_mp cellsD_mp cellsL_dmp
  evalMapSet evalPtr TK.isPtr evalToArr firstL retN_ret retsQ rvarL close_bm touch_bm ren_bm cellsD_bm cellsL_bm cellsL_lbm
theorem u64_nat {k : Nat} (h : k < 1000) : IntKind.u64.wrap (k : Int) = k := by
  unfold IntKind.wrap
  simp [IntKind.bits, IntKind.signed]
  omega
def shr (a : Int) (k : Nat) : Int := a.fdiv (2 ^ k)
def madeNeeds (bits : Int) (earlier : List Nm) : Nat → List Nm
  | 0 => []
  | k + 1 => madeNeeds bits earlier k ++ if (shr bits k).tmod 3 = 1 then (match earlier[k]? with | some n => [n] | none => []) else []
def madePuts (m : Int) (i : Nat) : Nat → List Df
  | 0 => []
  | k + 1 => madePuts m i k ++ if (shr m (2 * k)).tmod 4 = 1 then [defD k (m + i)] else []
def madeDrops (m : Int) : Nat → List Str
  | 0 => []
  | k + 1 => madeDrops m k ++ if (shr m (2 * k)).tmod 4 = 2 ∧ 1 < k then [nameS k] else []
def madeE (l : List Int) (out : List Ed) (i : Nat) : Ed :=
  let n := atL l (1 + 3 * i) 4096
  let bits := atL l (2 + 3 * i) 4096
  let m := atL l (3 + 3 * i) 4096
  let earlier := sortN (out.map Ed.name)
  ⟨⟨n.tmod 3, i + 6 * ((n.tdiv 3).tmod 8)⟩, madeNeeds bits earlier earlier.length, madePuts m i 4, madeDrops m 4⟩
def madeTo (l : List Int) : Nat → List Ed
  | 0 => []
  | i + 1 => madeTo l i ++ [madeE l (madeTo l i) i]
def madeL (l : List Int) : List Ed := madeTo l (atL l 0 7).toNat
theorem madeNeeds_len (bits : Int) (ear : List Nm) : ∀ k, (madeNeeds bits ear k).length ≤ k
  | 0 => Nat.le_refl _
  | k + 1 => by
    have := madeNeeds_len bits ear k
    simp only [madeNeeds, List.length_append]
    split
    · split <;> simp <;> omega
    · simp; omega
theorem madePuts_len (m : Int) (i : Nat) : ∀ k, (madePuts m i k).length ≤ k
  | 0 => Nat.le_refl _
  | k + 1 => by
    have := madePuts_len m i k
    simp only [madePuts, List.length_append]
    split <;> simp <;> omega
theorem madeDrops_len (m : Int) : ∀ k, (madeDrops m k).length ≤ k
  | 0 => Nat.le_refl _
  | k + 1 => by
    have := madeDrops_len m k
    simp only [madeDrops, List.length_append]
    split <;> simp <;> omega
theorem madeTo_len (l : List Int) : ∀ i, (madeTo l i).length = i
  | 0 => rfl
  | i + 1 => by simp [madeTo, madeTo_len l i]
theorem atL_range (l : List Int) (i m : Int) (h : 0 < m) : 0 ≤ atL l i m ∧ atL l i m < m := by
  unfold atL
  split
  · omega
  · exact around_lt _ _ h
theorem Made_ok (l : List Int) (hr : ∀ n ∈ l, -9223372036854775808 ≤ n ∧ n ≤ 9223372036854775807) : Ok Tryz.prog 29 [.sl (l.map I64)] ⟨.d (edsD (madeL l)), false⟩ := by
  refine Ok.ret Tryz.func29 (by kernel_rfl) (c := _) rfl Tryz.ntmps29 (by simp) Tryz.results29 (by intro _ h; cases h) fun w0 X hp => ?_
  obtain ⟨c0, hc0⟩ : ∃ c0 : Nat, (c0 : Int) = atL l 0 7 := ⟨(atL l 0 7).toNat, by have := (atL_range l 0 7 (by decide)).1; omega⟩
  have hc7 : c0 < 7 := by have := (atL_range l 0 7 (by decide)).2; omega
  refine LWp.seq ?_
  refine LWp.rz hT hW ?_
  simp
  refine LWp.seq ?_
  refine LWp.rz hT hW ?_
  simp
  refine LWp.seq ?_
  refine LWp.seq ?_
  refine LWp.rz hT hW ?_
  simp
  refine LWp.block ?_
  refine LWp.loopW (ι := Nat) (fun i => mkEnv [(0, .d (.sl (l.map I64))), (3, .ow 3 0 i), (4, .d (I64 i))]) (fun i => mkObs [(3, .row false 5 ((madeTo l i).map Ed.d))]) (fun i => i ≤ c0) (fun i => c0 - i) 0 (Weak.to [0, 3, 4] [(3, 3)] (by decide) (by decide) (by simp [hp]) (by simp) (by simp [madeTo])) (Nat.zero_le _) fun i hi3 => ?_
  refine LWp.seq ?_
  refine LWp.seq ?_
  refine LWp.ro hT hW (fun | 14 => some <| .plain ⟨.d (I64 c0), true⟩ | _ => none) ?_
  simp
  refine ⟨by rw [hc0]; exact At_ok l 0 7 hr (by decide), ?_⟩
  refine LWp.iff ?_
  simp
  refine ⟨fun h3 => ?_, fun h3 => ?_⟩
  · refine LWp.skip ?_
    simp
    refine LWp.seq ?_
    refine LWp.block ?_
    refine LWp.seq ?_
    obtain ⟨an1, an2⟩ := atL_range l (1 + 3 * i) 4096 (by decide)
    obtain ⟨ab1, ab2⟩ := atL_range l (2 + 3 * i) 4096 (by decide)
    obtain ⟨am1, am2⟩ := atL_range l (3 + 3 * i) 4096 (by decide)
    obtain ⟨n, hnn⟩ : ∃ n, n = atL l (1 + 3 * i) 4096 := ⟨_, rfl⟩
    obtain ⟨bits, hbits⟩ : ∃ n, n = atL l (2 + 3 * i) 4096 := ⟨_, rfl⟩
    obtain ⟨m, hm⟩ : ∃ n, n = atL l (3 + 3 * i) 4096 := ⟨_, rfl⟩
    have hml := madeTo_len l i
    have htk : List.take i (List.map Ed.d (madeTo l i)) = List.map Ed.d (madeTo l i) := List.take_of_length_le (by simp [hml])
    refine LWp.ro hT hW (fun | 22 => some <| .plain ⟨.d (I64 n), true⟩ | _ => none) ?_
    simp
    refine ⟨⟨by omega, by rw [hnn]; exact At_ok l _ 4096 hr (by decide)⟩, ?_⟩
    refine LWp.seq ?_
    have hd1 : 0 ≤ n.tdiv 3 := Int.tdiv_nonneg (by omega) (by omega)
    have hd2 : n.tdiv 3 ≤ n := by rw [Int.tdiv_eq_ediv_of_nonneg (by omega)]; omega
    have h81 : 0 ≤ (n.tdiv 3).tmod 8 := Int.tmod_nonneg _ hd1
    have h82 : (n.tdiv 3).tmod 8 < 8 := Int.tmod_lt_of_pos _ (by omega)
    refine LWp.rz hT hW ?_
    simp
    refine ⟨⟨⟨by omega, by omega⟩, by omega⟩, ?_⟩
    refine LWp.nlCell (fz := false) (cs := [.d (I64 (n.tmod 3)), .d (I64 (i + 6 * (n.tdiv 3).tmod 8)), .nl, .nl, .nl]) 6 2 1060 2 (by decide) ⟨by simp, by simp, by simp, ?_⟩
    refine LWp.nlCell (fz := false) (cs := [.d (I64 (n.tmod 3)), .d (I64 (i + 6 * (n.tdiv 3).tmod 8)), .ow 1060 0 0, .nl, .nl]) 6 3 1087 2 (by decide) ⟨by simp, by simp, by simp, ?_⟩
    refine LWp.nlCell (fz := false) (cs := [.d (I64 (n.tmod 3)), .d (I64 (i + 6 * (n.tdiv 3).tmod 8)), .ow 1060 0 0, .ow 1087 0 0, .nl]) 6 4 1098 1 (by decide) ⟨by simp, by simp, by simp, ?_⟩
    simp
    refine LWp.seq ?_
    obtain ⟨nms, hnms⟩ : ∃ nms, nms = (madeTo l i).map Ed.name := ⟨_, rfl⟩
    have hnml : nms.length = i := by rw [hnms]; simp [hml]
    obtain ⟨ear, hear⟩ : ∃ ear, ear = sortN nms := ⟨_, rfl⟩
    have hel : ear.length ≤ i := by rw [hear]; have := sortN_len nms; omega
    refine LWp.ro hT hW (fun | 34 => some <| .plain ⟨.d (nmsD nms), true⟩ | 35 => some <| .plain ⟨.d (nmsD ear), true⟩ | _ => none) ?_
    simp [htk]
    refine ⟨⟨by rw [hnms]; exact Names_ok _ (by omega), by rw [hear]; exact Sort_ok nms (by omega)⟩, ?_⟩
    refine LWp.seq ?_
    refine LWp.ro hT hW (fun | 40 => some <| .plain ⟨.d (I64 bits), true⟩ | _ => none) ?_
    simp
    refine ⟨⟨by omega, by rw [hbits]; exact At_ok l _ 4096 hr (by decide)⟩, ?_⟩
    refine LWp.seq ?_
    refine LWp.seq ?_
    refine LWp.rz hT hW ?_
    simp
    refine LWp.block ?_
    refine LWp.loopW (ι := Nat) (fun k => mkEnv [(0, .d (.sl (l.map I64))), (3, .ow 3 0 i), (4, .d (I64 i)), (6, .bx 6 0), (7, .d (nmsD ear)), (8, .d (I64 bits)), (9, .d (I64 k))]) (fun k => mkObs [(3, .row false 5 ((madeTo l i).map Ed.d)), (6, .box false [.d (I64 (n.tmod 3)), .d (I64 (i + 6 * (n.tdiv 3).tmod 8)), .ow 1060 0 (madeNeeds bits ear k).length, .ow 1087 0 0, .ow 1098 0 0]), (1060, .row false 2 ((madeNeeds bits ear k).map Nm.d)), (1087, .row false 2 []), (1098, .row false 1 [])]) (fun k => k ≤ ear.length) (fun k => ear.length - k) 0 (Weak.to [0, 3, 4, 6, 7, 8, 9] [(3, 3), (6, 6), (1060, 1060), (1087, 1087), (1098, 1098)] (by decide) (by decide) (by simp [hp]) (by simp) (by simp [madeNeeds])) (Nat.zero_le _) fun k hi10 => ?_
    refine LWp.seq ?_
    refine LWp.seq ?_
    refine LWp.rz hT hW ?_
    simp
    refine LWp.iff ?_
    simp
    refine ⟨fun h10 => ?_, fun h10 => ?_⟩
    · refine LWp.skip ?_
      simp
      refine LWp.seq ?_
      refine LWp.block ?_
      refine LWp.seq ?_
      have hkw := u64_nat (k := k) (by omega)
      have hk64 : min k 64 = k := by omega
      refine LWp.rz hT hW ?_
      simp [hkw, IntKind.bits, hk64]
      refine LWp.iff ?_
      simp
      refine ⟨fun h12 => ?_, fun h12 => ?_⟩
      · refine LWp.regAny hT hW hMixed (lk [[],[0],[],[],[2,3],[2,3,4],[2,3,4,5],[0,1,2,3,4,5,6],[0,1,2,3,4,5,6,7],[0,1,2,3,4,5,6,7,8]]) (lk [[59],[59],[],[],[],[],[],[],[],[]]) (lk [[],[],[],[],[],[],[59],[54,60],[],[6]]) (by kernel_rfl) (fun _ => none) (fun _ => ⟨rfl, fun _ h => h⟩) ?_
        simp [h10]
        have z := madeNeeds_len bits ear k
        refine ⟨by omega, ?_⟩
        refine LWp.rz hT hW ?_
        simp
        refine ⟨by omega, ?_⟩
        refine loopQ.mk (k + 1) (Weak.to [0, 3, 4, 6, 7, 8, 9] [(3, 3), (6, 6), (60, 1060), (1087, 1087), (1098, 1098)] (by decide) (by decide) (by simp [hp]) (by simp) (by simp [madeNeeds, shr, h12, h10])) ?_ ?_
        · exact h10
        · omega
      · refine LWp.skip ?_
        simp
        refine LWp.rz hT hW ?_
        simp
        refine ⟨by omega, ?_⟩
        refine loopQ.mk (k + 1) (Weak.to [0, 3, 4, 6, 7, 8, 9] [(3, 3), (6, 6), (1060, 1060), (1087, 1087), (1098, 1098)] (by decide) (by decide) (by simp [hp]) (by simp) (by simp [madeNeeds, shr, h12])) ?_ ?_
        · exact h10
        · omega
    · refine LWp.exit ?_
      simp
      refine LWp.seq ?_
      have hke : k = ear.length := by omega
      refine LWp.ro hT hW (fun | 66 => some <| .plain ⟨.d (I64 m), true⟩ | _ => none) ?_
      simp
      refine ⟨⟨by omega, by rw [hm]; exact At_ok l _ 4096 hr (by decide)⟩, ?_⟩
      refine LWp.seq ?_
      refine LWp.seq ?_
      refine LWp.rz hT hW ?_
      simp
      refine LWp.block ?_
      refine LWp.loopW (ι := Nat) (fun q => mkEnv [(0, .d (.sl (l.map I64))), (3, .ow 3 0 i), (4, .d (I64 i)), (6, .bx 6 0), (10, .d (I64 m)), (11, .d (I64 q))]) (fun q => mkObs [(3, .row false 5 ((madeTo l i).map Ed.d)), (6, .box false [.d (I64 (n.tmod 3)), .d (I64 (i + 6 * (n.tdiv 3).tmod 8)), .ow 1060 0 (madeNeeds bits ear ear.length).length, .ow 1087 0 (madePuts m i q).length, .ow 1098 0 (madeDrops m q).length]), (1060, .row false 2 ((madeNeeds bits ear ear.length).map Nm.d)), (1087, .row false 2 ((madePuts m i q).map Df.d)), (1098, .row false 1 ((madeDrops m q).map .str))]) (fun q => q ≤ 4) (fun q => 4 - q) 0 (Weak.to [0, 3, 4, 6, 10, 11] [(3, 3), (6, 6), (1060, 1060), (1087, 1087), (1098, 1098)] (by decide) (by decide) (by simp [hp]) (by simp) (by simp [madePuts, madeDrops, hke])) (Nat.zero_le _) fun q hi16 => ?_
      refine LWp.seq ?_
      refine LWp.seq ?_
      refine LWp.rz hT hW ?_
      simp
      refine LWp.iff ?_
      simp
      refine ⟨fun h16 => ?_, fun h16 => ?_⟩
      · refine LWp.skip ?_
        simp
        refine LWp.seq ?_
        refine LWp.block ?_
        refine LWp.seq ?_
        have hkw : IntKind.u64.wrap (2 * (q : Int)) = ((2 * q : Nat) : Int) := by rw [← u64_nat (k := 2 * q) (by omega)]; congr 1
        have hk64 : min (2 * q) 64 = 2 * q := by omega
        have h2t : (2 * (q : Int)).toNat = 2 * q := by omega
        have z1 := madePuts_len m i q
        have z2 := madeDrops_len m q
        refine LWp.rz hT hW ?_
        simp [hkw, IntKind.bits, hk64, h2t]
        refine ⟨⟨by omega, by omega⟩, ?_⟩
        refine LWp.block ?_
        refine LWp.seq ?_
        refine LWp.rz hT hW ?_
        simp
        refine LWp.iff ?_
        simp
        refine ⟨fun h19 => ?_, fun h19 => ?_⟩
        · refine LWp.regAny hT hW hMixed (lk [[],[0],[],[],[],[3,4],[2,3,4,5],[2,3,4,5,6],[0,1,2,3,4,5,6,7],[0,1,2,3,4,5,6,7,8],[0,1,2,3,4,5,6,7,8,9]]) (lk [[85,86],[85,86],[],[],[],[],[],[],[],[],[]]) (lk [[],[],[],[],[],[],[85],[86],[80,87],[],[6]]) (by kernel_rfl) (fun | 85 => some <| .plain ⟨.d (defD q (m + i)).d, true⟩ | _ => none) (by intro d; first | exact ⟨rfl, fun _ h => h⟩ | (split <;> exact ⟨rfl, fun _ h => h⟩)) ?_
          simp
          refine ⟨⟨⟨by omega, def_ok q (m + i) (by omega) (by omega) (by omega) (by omega)⟩, by omega⟩, ?_⟩
          refine LWp.rz hT hW ?_
          simp
          refine ⟨by omega, ?_⟩
          refine loopQ.mk (q + 1) (Weak.to [0, 3, 4, 6, 10, 11] [(3, 3), (6, 6), (1060, 1060), (87, 1087), (1098, 1098)] (by decide) (by decide) (by simp [hp]) (by simp) (by simp [madePuts, madeDrops, shr, h19])) ?_ ?_
          · omega
          · omega
        · refine LWp.seq ?_
          refine LWp.rz hT hW ?_
          simp
          refine LWp.iff ?_
          simp
          refine ⟨fun h21 => ?_, fun h21 => ?_⟩
          · refine LWp.seq ?_
            refine LWp.rz hT hW ?_
            simp
            refine LWp.iff ?_
            simp
            refine ⟨fun h22 => ?_, fun h22 => ?_⟩
            · refine LWp.regAny hT hW hMixed (lk [[],[0],[],[2],[2,3],[0,1,2,3,4],[0,1,2,3,4,5],[0,1,2,3,4,5,6]]) (lk [[96,97],[96,97],[],[],[],[],[],[]]) (lk [[],[],[],[96],[97],[94,98],[],[6]]) (by kernel_rfl) (fun | 96 => some <| .plain ⟨.d (.str (nameS q)), true⟩ | _ => none) (by intro d; first | exact ⟨rfl, fun _ h => h⟩ | (split <;> exact ⟨rfl, fun _ h => h⟩)) ?_
              simp
              refine ⟨⟨name_ok q (by omega) (by omega), by omega⟩, ?_⟩
              refine LWp.rz hT hW ?_
              simp
              refine ⟨by omega, ?_⟩
              refine loopQ.mk (q + 1) (Weak.to [0, 3, 4, 6, 10, 11] [(3, 3), (6, 6), (1060, 1060), (1087, 1087), (98, 1098)] (by decide) (by decide) (by simp [hp]) (by simp) (by simp [madePuts, madeDrops, shr, h21, show 1 < q by omega])) ?_ ?_
              · omega
              · omega
            · refine LWp.skip ?_
              simp
              refine LWp.rz hT hW ?_
              simp
              refine ⟨by omega, ?_⟩
              refine loopQ.mk (q + 1) (Weak.to [0, 3, 4, 6, 10, 11] [(3, 3), (6, 6), (1060, 1060), (1087, 1087), (1098, 1098)] (by decide) (by decide) (by simp [hp]) (by simp) (by simp [madePuts, madeDrops, shr, h21, show ¬ 1 < q by omega])) ?_ ?_
              · omega
              · omega
          · refine LWp.skip ?_
            simp
            refine LWp.rz hT hW ?_
            simp
            refine ⟨by omega, ?_⟩
            refine loopQ.mk (q + 1) (Weak.to [0, 3, 4, 6, 10, 11] [(3, 3), (6, 6), (1060, 1060), (1087, 1087), (1098, 1098)] (by decide) (by decide) (by simp [hp]) (by simp) (by simp [madePuts, madeDrops, shr, h19, h21])) ?_ ?_
            · omega
            · omega
      · refine LWp.exit ?_
        simp
        refine LWp.rz hT hW ?_
        simp
        refine ⟨by omega, ?_⟩
        refine LWp.rz hT hW ?_
        simp
        refine ⟨by omega, ?_⟩
        refine loopQ.mk (i + 1) (Weak.to [0, 3, 4] [(103, 3)] (by decide) (by decide) (by simp [hp]) (by simp) (by simp [htk, madeTo, madeE, ← hnn, ← hbits, ← hm, ← hnms, ← hear, show q = 4 by omega])) ?_ ?_
        · exact h3
        · omega
  · refine LWp.exit ?_
    simp
    refine LWp.seq ?_
    refine LWp.rz hT hW ?_
    simp
    refine LWp.ret ?_
    have e : madeL l = madeTo l i := by
      unfold madeL
      rw [show (atL l 0 7).toNat = i by omega]
    rw [e]
    simp [madeTo_len]
    rw [List.take_of_length_le (by simp [madeTo_len])]
open Go.Proofs
def liveN (l : List Ed) : Nat := (l.filter fun e => decide (touches e ≠ [])).length
theorem filter_set_le {α : Type} (p : α → Bool) (e : α) : ∀ (l : List α) (k : Nat), ((l.set k e).filter p).length ≤ (l.filter p).length + 1
  | [], _ => by simp
  | a :: l, 0 => by
    rw [List.set_cons_zero, List.filter_cons, List.filter_cons]
    split <;> split <;> simp <;> omega
  | a :: l, k + 1 => by
    have := filter_set_le p e l k
    rw [List.set_cons_succ, List.filter_cons, List.filter_cons]
    split <;> simp <;> omega
structure SpB (l L : List Ed) : Prop where
  len : L.length ≤ l.length + 67
  needs : (allNeeds L).length ≤ (allNeeds l).length + 1
  parts : ∀ P, (∀ e ∈ l, e.puts.length ≤ P ∧ e.drops.length ≤ P) → ∀ e ∈ L, e.puts.length ≤ P + 27 ∧ e.drops.length ≤ P + 27
  live : liveN L ≤ liveN l + 1
theorem allNeeds_set : ∀ {l : List Ed} {k : Nat} (hk : k < l.length) (e : Ed), (allNeeds (l.set k e)).length + l[k].needs.length = (allNeeds l).length + e.needs.length
  | a :: l, 0, _, e => by simp [allNeeds]; omega
  | a :: l, k + 1, hk, e => by
    have := allNeeds_set (l := l) (k := k) (by simpa using hk) e
    simp only [allNeeds, List.set_cons_succ, List.flatMap_cons, List.length_append, List.getElem_cons_succ] at *
    omega
theorem SpB.set {l : List Ed} {k : Nat} (hk : k < l.length) {e : Ed} (h1 : e.needs.length ≤ l[k].needs.length + 1) (h2 : e.puts.length ≤ l[k].puts.length + 27) (h3 : e.drops.length ≤ l[k].drops.length + 1) : SpB l (l.set k e) := by
  refine ⟨by simp, by have := allNeeds_set hk e; omega, fun P hP x hx => ?_, filter_set_le _ e l k⟩
  rcases List.mem_or_eq_of_mem_set hx with hx | rfl
  · have := hP x hx; omega
  · have := hP _ (List.getElem_mem hk); omega
theorem needs_le : ∀ {l : List Ed} {k : Nat} (hk : k < l.length), l[k].needs.length ≤ (allNeeds l).length
  | a :: l, 0, _ => by simp [allNeeds]
  | a :: l, k + 1, hk => by
    have := needs_le (l := l) (k := k) (by simpa using hk)
    simp only [allNeeds, List.flatMap_cons, List.length_append, List.getElem_cons_succ] at *
    omega
theorem allNeeds_erase : ∀ (l : List Ed) (k : Nat), (allNeeds (l.eraseIdx k)).length ≤ (allNeeds l).length
  | [], _ => by simp
  | a :: l, 0 => by simp [allNeeds]
  | a :: l, k + 1 => by
    have := allNeeds_erase l k
    simp only [allNeeds, List.eraseIdx_cons_succ, List.flatMap_cons, List.length_append] at *
    omega
theorem SpB.erase (l : List Ed) (k : Nat) : SpB l (l.eraseIdx k) := by
  refine ⟨by have := List.length_eraseIdx_le l k; omega, by have := allNeeds_erase l k; omega, fun P hP e he => ?_, Nat.le_succ_of_le ((List.eraseIdx_sublist l k).filter _).length_le⟩
  have := hP e (List.mem_of_mem_eraseIdx he); omega
theorem SpB.refl (l : List Ed) : SpB l l := ⟨by omega, by omega, fun P hP e he => by have := hP e he; omega, by omega⟩
theorem SpB.push {l m : List Ed} (h : SpB l m) (hl : m.length ≤ 66) (n : Nm) : SpB l (m ++ [⟨n, [], [], []⟩]) := by
  refine ⟨by simp; omega, by have := h.needs; simp [allNeeds] at *; omega, fun P hP e he => ?_, by have := h.live; simp [liveN, touches] at *; omega⟩
  rcases List.mem_append.1 he with he | he
  · exact h.parts P hP e he
  · simp at he; subst he; simp
theorem erase_row {l : List Ed} {k : Nat} (hk : k < l.length) (Z : List DV) : List.take (l.length - 1) (List.take k (l.map Ed.d) ++ (List.take (l.length - (k + 1)) (List.drop (k + 1) (l.map Ed.d)) ++ Z)) = (l.eraseIdx k).map Ed.d := by
  have h1 : (List.take (l.length - (k + 1)) (List.drop (k + 1) (l.map Ed.d))) = List.drop (k + 1) (l.map Ed.d) := List.take_of_length_le (by simp)
  rw [h1, ← map_erase, List.eraseIdx_eq_take_drop_succ, ← List.append_assoc, List.take_append_of_le_length (by simp; omega), List.take_of_length_le (by simp; omega)]
theorem Spoilt_ok (l : List Ed) (how b : Int) (hl : l.length ≤ 1000) (hs : small l) (hn : (allNeeds l).length ≤ 1000) (h1 : -9223372036854775808 ≤ b) (h2 : b ≤ 9223372036854775807) (h3 : -9223372036854775808 ≤ how) (h4 : how ≤ 9223372036854775807) : OkR Tryz.prog 47 [edsD l, I64 how, I64 b] (fun r => (fun v => ∃ L : List Ed, SpB l L ∧ v = .d (edsD L)) r.v ∧ r.fresh = false) := by
  refine OkR.ret (Rel := fun v => ∃ L : List Ed, SpB l L ∧ v = .d (edsD L)) Tryz.func47 (by kernel_rfl) (c := _) rfl Tryz.ntmps47 (by simp) Tryz.results47 fun w0 X hp => ?_
  refine LWp.seq ?_
  refine LWp.rz hT hW ?_
  simp
  refine LWp.seq ?_
  refine LWp.rz hT hW ?_
  simp
  refine ⟨by omega, ?_⟩
  refine LWp.seq ?_
  refine LWp.seq ?_
  refine LWp.rz hT hW ?_
  simp
  refine LWp.iff ?_
  simp
  refine ⟨fun h2' => ?_, fun h2' => ?_⟩
  · refine LWp.seq ?_
    refine LWp.rz hT hW ?_
    simp
    refine LWp.ret ?_
    refine retR_ret.2 ⟨_, ⟨[⟨⟨b, how⟩, [], [], []⟩], ⟨by simp, by simp [allNeeds], fun P _ e he => (by simp at he; subst he; simp), by simp [liveN, touches]⟩, rfl⟩, by simp, ?_⟩
    simp
  · refine LWp.skip ?_
    simp
    refine LWp.seq ?_
    have hpos : 0 < l.length := by have := List.length_pos_iff.2 (show l ≠ [] from h2'); omega
    obtain ⟨ha1, ha2⟩ := around_lt b l.length (by omega)
    obtain ⟨k, hk⟩ : ∃ k : Nat, (k : Int) = around b l.length := ⟨(around b l.length).toNat, by omega⟩
    have hkl : k < l.length := by omega
    refine LWp.ro hT hW (fun | 27 => some <| .plain ⟨.d (I64 k), true⟩ | _ => none) ?_
    simp
    refine ⟨by rw [hk]; exact Around_ok b l.length h1 h2 (by omega), ?_⟩
    refine LWp.seq ?_
    obtain ⟨hj1, hj2⟩ := around_lt (b.tdiv 7) l.length (by omega)
    obtain ⟨j, hj⟩ : ∃ j : Nat, (j : Int) = around (b.tdiv 7) l.length := ⟨(around (b.tdiv 7) l.length).toNat, by omega⟩
    have hjl : j < l.length := by omega
    have hd7 : -9223372036854775808 ≤ b.tdiv 7 ∧ b.tdiv 7 ≤ 9223372036854775807 := by
      rcases Int.le_total 0 b with hb | hb
      · rw [Int.tdiv_eq_ediv_of_nonneg hb]; omega
      · have : b.tdiv 7 = -((-b) / 7) := by rw [show b = -(-b) by omega, Int.neg_tdiv, Int.tdiv_eq_ediv_of_nonneg (by omega)]; simp
        omega
    refine LWp.ro hT hW (fun | 32 => some <| .plain ⟨.d (I64 j), true⟩ | _ => none) ?_
    simp
    refine ⟨⟨hd7, by rw [hj]; exact Around_ok _ l.length hd7.1 hd7.2 (by omega)⟩, ?_⟩
    refine LWp.seq ?_
    refine LWp.rz hT hW ?_
    simp [hkl]
    refine LWp.seq ?_
    refine LWp.seq ?_
    obtain ⟨hc1, hc2⟩ := around_lt how 12 (by decide)
    obtain ⟨c, hc⟩ : ∃ c : Nat, (c : Int) = around how 12 := ⟨(around how 12).toNat, by omega⟩
    refine LWp.ro hT hW (fun | 38 => some <| .plain ⟨.d (I64 c), true⟩ | _ => none) ?_
    simp
    refine ⟨by rw [hc]; exact Around_ok how 12 h3 h4 (by decide), ?_⟩
    refine LWp.block ?_
    refine LWp.seq ?_
    refine LWp.rz hT hW ?_
    simp
    refine LWp.iff ?_
    simp
    refine ⟨fun h9 => ?_, fun h9 => ?_⟩
    · obtain ⟨z1, z2⟩ := around_lt b 6 (by decide)
      refine LWp.ro hT hW (fun | 52 => some <| .plain ⟨.d (I64 (around b 6)), true⟩ | _ => none) ?_
      simp
      refine ⟨⟨Around_ok b 6 h1 h2 (by decide), by omega⟩, ?_⟩
      refine LWp.seq ?_
      refine LWp.rz hT hW ?_
      simp
      refine ⟨by omega, ?_⟩
      refine LWp.seq ?_
      refine LWp.rz hT hW ?_
      simp
      refine LWp.ret ?_
      refine retR_ret.2 ⟨_, ⟨l.set k { l[k] with name := ⟨around b 6 - 1, l[k].name.seq⟩ }, SpB.set hkl (by simp) (by simp) (by simp), rfl⟩, by simp, ?_⟩
      simp [List.map_set]
      rw [List.take_of_length_le (by simp)]
    · refine LWp.seq ?_
      refine LWp.rz hT hW ?_
      simp
      refine LWp.iff ?_
      simp
      refine ⟨fun h11 => ?_, fun h11 => ?_⟩
      · obtain ⟨z1, z2⟩ := around_lt b 4 (by decide)
        obtain ⟨z, hz⟩ : ∃ z : Nat, (z : Int) = around b 4 := ⟨(around b 4).toNat, by omega⟩
        have hzl : z < 4 := by omega
        obtain ⟨q, hq⟩ : ∃ q : Int, [DV.int IntKind.i64 (-1), DV.int IntKind.i64 63, DV.int IntKind.i64 64, I64 b][z]? = some (I64 q) := by
          rcases (by omega : z = 0 ∨ z = 1 ∨ z = 2 ∨ z = 3) with rfl | rfl | rfl | rfl <;> exact ⟨_, rfl⟩
        have hr4 : [0, 1, 2, 3] = List.range 4 := by decide
        refine LWp.ro hT hW (fun | 61 => some <| .plain ⟨.d (I64 z), true⟩ | _ => none) ?_
        simp [hq, hr4]
        refine ⟨⟨⟨by rw [hz]; exact Around_ok b 4 h1 h2 (by decide), by omega⟩, by omega⟩, ?_⟩
        refine LWp.seq ?_
        refine LWp.rz hT hW ?_
        simp
        refine ⟨by omega, ?_⟩
        refine LWp.seq ?_
        refine LWp.rz hT hW ?_
        simp
        refine LWp.ret ?_
        refine retR_ret.2 ⟨_, ⟨l.set k { l[k] with name := ⟨l[k].name.who, q⟩ }, SpB.set hkl (by simp) (by simp) (by simp), rfl⟩, by simp, ?_⟩
        simp [List.map_set]
        rw [List.take_of_length_le (by simp)]
      · refine LWp.seq ?_
        refine LWp.rz hT hW ?_
        simp
        refine LWp.iff ?_
        simp
        refine ⟨fun h13 => ?_, fun h13 => ?_⟩
        · refine LWp.rz hT hW ?_
          simp [hjl]
          refine LWp.seq ?_
          refine LWp.rz hT hW ?_
          simp
          refine ⟨by omega, ?_⟩
          refine LWp.seq ?_
          refine LWp.rz hT hW ?_
          simp
          refine LWp.ret ?_
          refine retR_ret.2 ⟨_, ⟨l.set k { l[k] with name := l[j].name }, SpB.set hkl (by simp) (by simp) (by simp), rfl⟩, by simp, ?_⟩
          simp [List.map_set]
          rw [List.take_of_length_le (by simp)]
        · refine LWp.seq ?_
          refine LWp.rz hT hW ?_
          simp
          refine LWp.iff ?_
          simp
          refine ⟨fun h15 => ?_, fun h15 => ?_⟩
          · have hnk := needs_le hkl
            refine LWp.regAny hT hW hMixed (lk [[],[],[1],[0,1,2],[],[],[4,5],[4,5,6],[4,5,6,7],[4,5,6,7,8],[0,1,2,3,4,5,6,7,8,9],[0,1,2,3,4,5,6,7,8,9,10],[0,1,2,3,4,5,6,7,8,9,10,11],[0,1,2,3,4,5,6,7,8,9,10,11,12]]) (lk [[85],[76,85],[76,85],[85],[76,79],[76,79],[76,79],[76,79],[76,79],[76,79],[],[],[],[]]) (lk [[76],[],[],[76,79],[],[],[],[],[],[85],[79,86],[87],[],[10]]) (by kernel_rfl) (fun | 87 => some <| .plain ⟨.d (nmsD (sortN (l[k].needs ++ [l[j].name]))), true⟩ | _ => none) (by intro d; first | exact ⟨rfl, fun _ h => h⟩ | (split <;> exact ⟨rfl, fun _ h => h⟩)) ?_
            simp [hjl]
            refine ⟨⟨by omega, by rw [List.take_of_length_le (by simp)]; simpa [nmsD, Nm.d] using Sort_ok (l[k].needs ++ [l[j].name]) (by simp; omega)⟩, ?_⟩
            refine LWp.seq ?_
            refine LWp.rz hT hW ?_
            simp
            refine ⟨by omega, ?_⟩
            refine LWp.seq ?_
            refine LWp.rz hT hW ?_
            simp
            refine LWp.ret ?_
            refine retR_ret.2 ⟨_, ⟨l.set k { l[k] with needs := sortN (l[k].needs ++ [l[j].name]) }, SpB.set hkl (by have := sortN_len (l[k].needs ++ [l[j].name]); simp at this; simp; omega) (by simp) (by simp), rfl⟩, by simp, ?_⟩
            simp [List.map_set]
            rw [List.take_of_length_le (by simp)]
          · refine LWp.seq ?_
            refine LWp.rz hT hW ?_
            simp
            refine LWp.iff ?_
            simp
            refine ⟨fun h17 => ?_, fun h17 => ?_⟩
            · have hnk := needs_le hkl
              obtain ⟨z1, z2⟩ := around_lt b 5 (by decide)
              refine LWp.ro hT hW (fun | 96 => some <| .plain ⟨.d (I64 (around b 5)), true⟩ | _ => none) ?_
              simp
              refine ⟨⟨⟨⟨by omega, Around_ok b 5 h1 h2 (by decide)⟩, by omega⟩, by omega⟩, ?_⟩
              refine LWp.seq ?_
              refine LWp.rz hT hW ?_
              simp
              refine ⟨by omega, ?_⟩
              refine LWp.seq ?_
              refine LWp.rz hT hW ?_
              simp
              refine LWp.ret ?_
              refine retR_ret.2 ⟨_, ⟨l.set k { l[k] with needs := l[k].needs ++ [⟨around b 5 - 1, 5⟩] }, SpB.set hkl (by simp) (by simp) (by simp), rfl⟩, by simp, ?_⟩
              simp [List.map_set, Nm.d]
              rw [List.take_of_length_le (by simp), List.take_of_length_le (by simp)]
            · refine LWp.seq ?_
              refine LWp.rz hT hW ?_
              simp
              refine LWp.iff ?_
              simp
              refine ⟨fun h19 => ?_, fun h19 => ?_⟩
              · have hsk := hs _ (List.getElem_mem hkl)
                refine LWp.ro hT hW (fun | 110 => some <| .plain ⟨.d (defD b how).d, true⟩ | _ => none) ?_
                simp
                refine ⟨⟨⟨by omega, by simpa [Df.d] using def_ok b how h1 h2 h3 h4⟩, by omega⟩, ?_⟩
                refine LWp.seq ?_
                refine LWp.rz hT hW ?_
                simp
                refine ⟨by omega, ?_⟩
                refine LWp.seq ?_
                refine LWp.rz hT hW ?_
                simp
                refine LWp.ret ?_
                refine retR_ret.2 ⟨_, ⟨l.set k { l[k] with puts := l[k].puts ++ [defD b how] }, SpB.set hkl (by simp) (by simp) (by simp), rfl⟩, by simp, ?_⟩
                simp [List.map_set, Df.d]
                rw [List.take_of_length_le (by simp), List.take_of_length_le (by simp)]
              · refine LWp.seq ?_
                refine LWp.rz hT hW ?_
                simp
                refine LWp.iff ?_
                simp
                refine ⟨fun h21 => ?_, fun h21 => ?_⟩
                · have hsk := hs _ (List.getElem_mem hkl)
                  obtain ⟨z1, z2⟩ := around_lt b 6 (by decide)
                  obtain ⟨z, hz⟩ : ∃ z : Nat, (z : Int) = around b 6 := ⟨(around b 6).toNat, by omega⟩
                  have hzl : z < 6 := by omega
                  have hr6 : [0, 1, 2, 3, 4, 5] = List.range 6 := by decide
                  obtain ⟨q, hq⟩ : ∃ q : Str, [DV.str [], DV.str [97], DV.str [100], DV.str [122, 111, 111],
                      DV.str [97, 98, 99, 100, 101, 102, 103, 104, 105, 106, 107, 108, 109, 110, 111, 112],
                      DV.str [97, 98, 99, 100, 101, 102, 103, 104, 105, 106, 107, 108, 109, 110, 111, 112, 113]][z]? = some (.str q) := by
                    rcases (by omega : z = 0 ∨ z = 1 ∨ z = 2 ∨ z = 3 ∨ z = 4 ∨ z = 5) with rfl | rfl | rfl | rfl | rfl | rfl <;> exact ⟨_, rfl⟩
                  refine LWp.ro hT hW (fun | 122 => some <| .plain ⟨.d (I64 z), true⟩ | _ => none) ?_
                  simp [hq, hr6]
                  refine ⟨⟨⟨⟨⟨by omega, by rw [hz]; exact Around_ok b 6 h1 h2 (by decide)⟩, by omega⟩, by omega⟩, by omega⟩, ?_⟩
                  refine LWp.seq ?_
                  refine LWp.rz hT hW ?_
                  simp
                  refine ⟨by omega, ?_⟩
                  refine LWp.seq ?_
                  refine LWp.rz hT hW ?_
                  simp
                  refine LWp.ret ?_
                  refine retR_ret.2 ⟨_, ⟨l.set k { l[k] with drops := l[k].drops ++ [q] }, SpB.set hkl (by simp) (by simp) (by simp), rfl⟩, by simp, ?_⟩
                  simp [List.map_set]
                  rw [List.take_of_length_le (by simp), List.take_of_length_le (by simp)]
                · refine LWp.seq ?_
                  refine LWp.rz hT hW ?_
                  simp
                  refine LWp.iff ?_
                  simp
                  refine ⟨fun h23 => ?_, fun h23 => ?_⟩
                  · refine LWp.seq ?_
                    obtain ⟨z1, z2⟩ := around_lt b 4 (by decide)
                    obtain ⟨z, hz⟩ : ∃ z : Nat, (z : Int) = around b 4 := ⟨(around b 4).toNat, by omega⟩
                    refine LWp.ro hT hW (fun | 131 => some <| .plain ⟨.d (I64 z), true⟩ | _ => none) ?_
                    simp
                    refine ⟨⟨⟨by rw [hz]; exact Around_ok b 4 h1 h2 (by decide), by omega⟩, by omega⟩, ?_⟩
                    refine LWp.rz hT hW ?_
                    simp
                    refine LWp.seq ?_
                    refine LWp.rz hT hW ?_
                    simp
                    refine ⟨by omega, ?_⟩
                    refine LWp.seq ?_
                    refine LWp.rz hT hW ?_
                    simp
                    refine LWp.ret ?_
                    refine retR_ret.2 ⟨_, ⟨l.set k { l[k] with puts := [⟨[97], List.replicate (1023 + (z : Int)).toNat 0⟩] }, SpB.set hkl (by simp) (by simp) (by simp), rfl⟩, by simp, ?_⟩
                    simp [List.map_set, Df.d, byteOf]
                    rw [List.take_of_length_le (by simp)]
                  · refine LWp.seq ?_
                    refine LWp.rz hT hW ?_
                    simp
                    refine LWp.iff ?_
                    simp
                    refine ⟨fun h26 => ?_, fun h26 => ?_⟩
                    · refine LWp.seq ?_
                      refine LWp.regAny hT hW hMixed (lk [[],[],[0,1],[],[],[4],[3,4,5],[0,1,2,3,4,5,6],[0,1,2,3,4,5,6,7]]) (lk [[],[],[],[],[],[],[],[],[]]) (lk [[],[],[],[],[],[],[],[15],[6]]) (by kernel_rfl) (fun | 148 => some .inp | _ => none) (by intro d; first | exact ⟨rfl, fun _ h => h⟩ | (split <;> exact ⟨rfl, fun _ h => h⟩)) ?_
                      simp [(show ((l.length : Int) - ((k : Int) + 1)).toNat = l.length - (k + 1) by omega), (show k + (l.length - (k + 1)) = l.length - 1 by omega)]
                      refine ⟨by omega, ?_⟩
                      refine LWp.ret ?_
                      refine retR_ret.2 ⟨_, ⟨l.eraseIdx k, SpB.erase l k, rfl⟩, by simp, ?_⟩
                      simp [erase_row hkl]
                    · refine LWp.seq ?_
                      refine LWp.rz hT hW ?_
                      simp
                      refine LWp.iff ?_
                      simp
                      refine ⟨fun h28 => ?_, fun h28 => ?_⟩
                      · refine LWp.seq ?_
                        refine LWp.block ?_
                        refine LWp.loopW (ι := List Ed) (fun m => mkEnv [(2, .d (I64 b)), (7, .ow 15 0 m.length)]) (fun m => mkObs [(15, .row false 5 (m.map Ed.d))]) (fun m => SpB l m) (fun m => 70 - m.length) l (Weak.to [2, 7] [(15, 15)] (by decide) (by decide) (by simp [hp]) (by simp) (by simp)) (SpB.refl l) fun m hi29 => ?_
                        refine LWp.seq ?_
                        refine LWp.seq ?_
                        obtain ⟨z1, z2⟩ := around_lt b 4 (by decide)
                        obtain ⟨z, hz⟩ : ∃ z : Nat, (z : Int) = around b 4 := ⟨(around b 4).toNat, by omega⟩
                        refine LWp.ro hT hW (fun | 154 => some <| .plain ⟨.d (I64 z), true⟩ | _ => none) ?_
                        simp
                        refine ⟨⟨by rw [hz]; exact Around_ok b 4 h1 h2 (by decide), by omega⟩, ?_⟩
                        refine LWp.iff ?_
                        simp
                        refine ⟨fun h29 => ?_, fun h29 => ?_⟩
                        · refine LWp.skip ?_
                          simp
                          refine LWp.block ?_
                          refine LWp.rz hT hW ?_
                          simp
                          refine ⟨by omega, ?_⟩
                          refine loopQ.mk (m ++ [⟨⟨3, ((m.length : Int)).tmod 64⟩, [], [], []⟩]) (Weak.to [2, 7] [(164, 15)] (by decide) (by decide) (by simp [hp]) (by simp) (by simp)) ?_ ?_
                          · exact hi29.push (by omega) _
                          · simp; omega
                        · refine LWp.exit ?_
                          simp
                          refine LWp.seq ?_
                          refine LWp.rz hT hW ?_
                          simp
                          refine LWp.ret ?_
                          refine retR_ret.2 ⟨_, ⟨m, hi29, rfl⟩, by simp, ?_⟩
                          simp
                      · refine LWp.seq ?_
                        refine LWp.rz hT hW ?_
                        simp
                        refine LWp.iff ?_
                        simp
                        refine ⟨fun h32 => ?_, fun h32 => ?_⟩
                        · refine LWp.seq ?_
                          refine LWp.rz hT hW ?_
                          simp
                          refine LWp.nlCell (fz := false) (cs := [.d (I64 l[k].name.who), .d (I64 l[k].name.seq), .d (nmsD l[k].needs), .nl, .d (.sl (l[k].drops.map .str))]) 10 3 1190 2 (by decide) ⟨by simp, by simp, by simp, ?_⟩
                          simp
                          refine LWp.seq ?_
                          refine LWp.rz hT hW ?_
                          simp
                          refine LWp.block ?_
                          refine LWp.loopW (ι := List Df) (fun ps => mkEnv [(2, .d (I64 b)), (7, .ow 15 0 l.length), (8, .d (I64 k)), (10, .bx 10 0), (12, .d (I64 ps.length))]) (fun ps => mkObs [(15, .row false 5 (l.map Ed.d)), (10, .box false [.d (I64 l[k].name.who), .d (I64 l[k].name.seq), .d (nmsD l[k].needs), .ow 1190 0 ps.length, .d (.sl (l[k].drops.map .str))]), (1190, .row false 2 (ps.map Df.d))]) (fun ps => ps.length ≤ 26) (fun ps => 30 - ps.length) [] (Weak.to [2, 7, 8, 10, 12] [(15, 15), (10, 10), (1190, 1190)] (by decide) (by decide) (by simp [hp]) (by simp) (by simp)) (Nat.zero_le _) fun ps hi35 => ?_
                          refine LWp.seq ?_
                          refine LWp.seq ?_
                          obtain ⟨z1, z2⟩ := around_lt b 4 (by decide)
                          obtain ⟨z, hz⟩ : ∃ z : Nat, (z : Int) = around b 4 := ⟨(around b 4).toNat, by omega⟩
                          refine LWp.ro hT hW (fun | 171 => some <| .plain ⟨.d (I64 z), true⟩ | _ => none) ?_
                          simp
                          refine ⟨⟨by rw [hz]; exact Around_ok b 4 h1 h2 (by decide), by omega⟩, ?_⟩
                          refine LWp.iff ?_
                          simp
                          refine ⟨fun h35 => ?_, fun h35 => ?_⟩
                          · refine LWp.skip ?_
                            simp
                            refine LWp.seq ?_
                            refine LWp.block ?_
                            have ht1 : 0 ≤ ((ps.length : Int)).tmod 26 := Int.tmod_nonneg _ (by omega)
                            have ht2 : ((ps.length : Int)).tmod 26 < 26 := Int.tmod_lt_of_pos _ (by omega)
                            refine LWp.rz hT hW ?_
                            simp
                            refine ⟨⟨⟨⟨⟨by omega, by omega⟩, by omega⟩, by decide⟩, by omega⟩, ?_⟩
                            refine LWp.rz hT hW ?_
                            simp
                            refine ⟨by omega, ?_⟩
                            refine loopQ.mk (ps ++ [⟨[byteOf (.int .u8 120), byteOf (.int .u8 (IntKind.u8.wrap (97 + ((ps.length : Int)).tmod 26))), byteOf (.int .u8 (IntKind.u8.wrap (97 + (ps.length : Int) / 26)))], []⟩]) (Weak.to [2, 7, 8, 10, 12] [(15, 15), (10, 10), (190, 1190)] (by decide) (by decide) (by simp [hp]) (by simp) (by simp)) ?_ ?_
                            · simp; omega
                            · simp; omega
                          · refine LWp.exit ?_
                            simp
                            refine LWp.seq ?_
                            refine LWp.rz hT hW ?_
                            simp
                            refine ⟨by omega, ?_⟩
                            refine LWp.seq ?_
                            refine LWp.rz hT hW ?_
                            simp
                            refine LWp.ret ?_
                            refine retR_ret.2 ⟨_, ⟨l.set k { l[k] with puts := ps }, SpB.set hkl (by simp) (by simp; omega) (by simp), rfl⟩, by simp, ?_⟩
                            simp [List.map_set]
                            rw [List.take_of_length_le (by simp)]
                        · have hnk := needs_le hkl
                          refine LWp.regAny hT hW hMixed (lk [[],[],[0,1],[0,1,2],[0,1,2,3],[0,1,2,3,4],[],[6],[0,1,2,3,4,5,6,7],[0,1,2,3,4,5,6,7,8],[0,1,2,3,4,5,6,7,8,9]]) (lk [[],[],[],[],[],[],[44],[44],[],[],[]]) (lk [[],[],[],[],[],[44],[],[],[44,47],[],[10]]) (by kernel_rfl) (fun _ => none) (fun _ => ⟨rfl, fun _ h => h⟩) ?_
                          simp [hjl]
                          refine ⟨by omega, ?_⟩
                          refine LWp.seq ?_
                          refine LWp.rz hT hW ?_
                          simp
                          refine ⟨by omega, ?_⟩
                          refine LWp.seq ?_
                          refine LWp.rz hT hW ?_
                          simp
                          refine LWp.ret ?_
                          refine retR_ret.2 ⟨_, ⟨l.set k { l[k] with needs := l[j].name :: l[k].needs }, SpB.set hkl (by simp) (by simp) (by simp), rfl⟩, by simp, ?_⟩
                          simp [List.map_set]
                          rw [List.take_of_length_le (by simp), List.take_of_length_le (by simp; omega)]
open Go.Proofs
theorem madeL_len (l : List Int) : (madeL l).length ≤ 6 := by
  have := (atL_range l 0 7 (by decide)).2
  rw [madeL, madeTo_len]; omega
theorem madeTo_mem {l : List Int} {e : Ed} : ∀ {c : Nat}, e ∈ madeTo l c → ∃ i, i < c ∧ e = madeE l (madeTo l i) i
  | 0, h => by simp [madeTo] at h
  | c + 1, h => by
    simp only [madeTo, List.mem_append, List.mem_singleton] at h
    rcases h with h | h
    · obtain ⟨i, hi, he⟩ := madeTo_mem h
      exact ⟨i, by omega, he⟩
    · exact ⟨c, by omega, h⟩
theorem madeE_needs (l : List Int) (out : List Ed) (i : Nat) : (madeE l out i).needs.length ≤ out.length := by
  have h := madeNeeds_len (atL l (2 + 3 * i) 4096) (sortN (out.map Ed.name)) (sortN (out.map Ed.name)).length
  have := sortN_len (out.map Ed.name)
  simp [madeE] at *; omega
theorem made_mem {l : List Int} {e : Ed} (h : e ∈ madeL l) : e.needs.length ≤ 6 ∧ e.puts.length ≤ 4 ∧ e.drops.length ≤ 4 := by
  obtain ⟨i, hi, rfl⟩ := madeTo_mem h
  have := (atL_range l 0 7 (by decide)).2
  have h1 := madeE_needs l (madeTo l i) i
  rw [madeTo_len] at h1
  exact ⟨by omega, madePuts_len _ _ 4, madeDrops_len _ 4⟩
theorem flat_le {α β : Type} {f : α → List β} {m : Nat} : ∀ {l : List α}, (∀ x ∈ l, (f x).length ≤ m) → (l.flatMap f).length ≤ l.length * m
  | [], _ => by simp
  | a :: l, h => by
    have h1 := h a (by simp)
    have h2 := flat_le (l := l) fun x hx => h x (by simp [hx])
    simp only [List.flatMap_cons, List.length_append, List.length_cons, Nat.add_mul]
    omega
theorem made_needs (l : List Int) : (allNeeds (madeL l)).length ≤ 36 := by
  have h := flat_le (f := Ed.needs) (l := madeL l) fun x hx => (made_mem hx).1
  have := madeL_len l
  unfold allNeeds; omega
theorem made_small (l : List Int) : small (madeL l) := fun e he => by have := made_mem he; omega
structure ListsB (a L1 L2 : List Ed) : Prop where
  len1 : L1.length ≤ 73
  len2 : L2.length ≤ 140
  need1 : (allNeeds L1).length ≤ 37
  need2 : (allNeeds L2).length ≤ 38
  part1 : ∀ e ∈ L1, e.puts.length ≤ 31 ∧ e.drops.length ≤ 31
  part2 : ∀ e ∈ L2, e.puts.length ≤ 58 ∧ e.drops.length ≤ 58
theorem lists_b {l : List Int} {L1 L2 : List Ed} (h1 : SpB (madeL l) L1) (h2 : SpB L1 L2) : ListsB (madeL l) L1 L2 := by
  have a := madeL_len l
  have b := made_needs l
  have p := h1.parts 4 fun e he => (made_mem he).2
  have q := h2.parts 31 p
  refine ⟨by have := h1.len; omega, by have := h1.len; have := h2.len; omega, by have := h1.needs; omega, by have := h1.needs; have := h2.needs; omega, p, q⟩
end Go.Eng
namespace Go.Eng
theorem find_of {l : List Ed} {n : Nm} {i : Nat} (h : find? l n = some i) : ∃ h : i < l.length, l[i].name = n := by
  obtain ⟨h1, h2, _⟩ := List.findIdx?_eq_some_iff_getElem.1 h
  exact ⟨h1, by simpa using h2⟩
theorem find_mem {l : List Ed} {n : Nm} (h : n ∈ l.map Ed.name) : ∃ i, find? l n = some i := by
  cases q : find? l n with
  | some i => exact ⟨i, rfl⟩
  | none =>
    obtain ⟨e, he, rfl⟩ := List.mem_map.1 h
    have := List.findIdx?_eq_none_iff.1 q e he
    simp at this
theorem needsOf_mem {l : List Ed} {n m : Nm} (h : m ∈ needsOf l n) : ∃ e ∈ l, e.name = n ∧ m ∈ e.needs := by
  unfold needsOf at h
  split at h
  · rename_i i hi
    obtain ⟨h1, h2⟩ := find_of hi
    simp only [List.getD_eq_getElem?_getD, List.getElem?_eq_getElem h1, Option.getD_some] at h
    exact ⟨l[i], List.getElem_mem h1, h2, h⟩
  · cases h
theorem reach_rank {l : List Ed} {rank : Nm → Nat} (h : ∀ e ∈ l, ∀ n ∈ e.needs, rank n < rank e.name) {a b : Nm} (r : Reach l a b) : rank b < rank a := by
  induction r with
  | one h1 => obtain ⟨e, he, rfl, hm⟩ := needsOf_mem h1; exact h e he _ hm
  | next h1 _ ih => obtain ⟨e, he, rfl, hm⟩ := needsOf_mem h1; have := h e he _ hm; omega
theorem validV_of {l : List Ed} (rank : Nm → Nat) (h1 : l.length ≤ 64) (h2 : ∀ e ∈ l, properE e = true) (h3 : (l.map Ed.name).Nodup) (h4 : ∀ e ∈ l, ∀ n ∈ e.needs, n ∈ l.map Ed.name ∧ rank n < rank e.name) : validV l = ((l.length : Int), 0) := by
  have key : ∀ k i, i + k = l.length → validFrom l (l.drop i) i = ((l.length : Int), 0) := by
    intro k
    induction k with
    | zero => intro i hi; rw [validFrom_end (by omega)]; simp at hi; rw [hi]
    | succ k ih =>
      intro i hi
      have hil : i < l.length := by omega
      rw [validFrom_step hil ?_]
      · exact ih (i + 1) (by omega)
      · have hm := List.getElem_mem hil
        have e1 := h2 _ hm
        have e2 : ¬ findI l l[i].name < i := by
          obtain ⟨j, hj⟩ := find_mem (List.mem_map_of_mem (f := Ed.name) hm)
          obtain ⟨g1, g2⟩ := find_of hj
          have hji : j = i := by
            have hp := List.pairwise_iff_getElem.1 h3
            rcases Nat.lt_trichotomy j i with q | q | q
            · exact absurd (by rw [List.getElem_map, List.getElem_map]; exact g2) (hp j i (by simpa using g1) (by simpa using hil) q)
            · exact q
            · exact absurd (by rw [List.getElem_map, List.getElem_map]; exact g2.symm) (hp i j (by simpa using hil) (by simpa using g1) q)
          simp [findI, hj, hji]
        have e3 : l[i].needs.any (fun n => decide (findI l n < 0)) = false := by
          rw [List.any_eq_false]
          intro n hn
          obtain ⟨j, hj⟩ := find_mem (h4 _ hm n hn).1
          simp [findI, hj]
        have e4 : l[i].name ∉ aboveL l l[i].name := fun hx => by
          have := reach_rank (fun e he n hn => (h4 e he n hn).2) (mem_aboveL.1 hx)
          omega
        simp only [errE, e1, e3, if_neg e2, if_neg e4]
        simp
  unfold validV
  rw [if_neg (by omega)]
  simpa using key l.length 0 (by omega)
end Go.Eng
namespace Go.Eng
theorem incr_of_pw {α : Type} {lt : α → α → Bool} {l : List α} (h : l.Pairwise fun a b => lt a b = true) : incr lt l = true :=
  incr_iff.2 fun j hj => List.pairwise_iff_getElem.1 h j (j + 1) (by omega) hj (by omega)
end Go.Eng
namespace Go.Eng
def leftN (all out : List Nm) : List Nm := all.filter fun n => decide (n ∉ out)
theorem mem_left {all out : List Nm} {x : Nm} : x ∈ leftN all out ↔ x ∈ all ∧ x ∉ out := by simp [leftN]
theorem left_app {a b out : List Nm} : leftN (a ++ b) out = leftN a out ++ leftN b out := by simp [leftN]
theorem left_snoc {a out : List Nm} {x : Nm} (h : x ∉ a) : leftN a (out ++ [x]) = leftN a out := by
  unfold leftN
  apply List.filter_congr
  intro y hy
  have : y ≠ x := fun e => h (e ▸ hy)
  simp [this]
theorem left_cons {b out : List Nm} {x : Nm} (h : x ∉ out) : leftN (x :: b) out = x :: leftN b out := by simp [leftN, h]
theorem left_cons_in {b out : List Nm} {x : Nm} (h : x ∈ out) : leftN (x :: b) out = leftN b out := by simp [leftN, h]
theorem left_first {l : List Ed} {all out : List Nm} (hnd : all.Nodup) {i : Nat} (hi : i < all.length) (h1 : all[i] ∉ out) (h2 : readyN l out all[i] = true)
    (h3 : ∀ (j : Nat) (h : j < all.length), j < i → all[j] ∈ out ∨ readyN l out all[j] = false) :
    ∃ k, (leftN all out).findIdx? (readyN l out) = some k ∧ ∃ hk : k < (leftN all out).length, (leftN all out)[k] = all[i] ∧ (leftN all out).eraseIdx k = leftN all (out ++ [all[i]]) := by
  have hs : all = all.take i ++ all[i] :: all.drop (i + 1) := by rw [List.getElem_cons_drop, List.take_append_drop]
  obtain ⟨A, hA⟩ : ∃ A, A = all.take i := ⟨_, rfl⟩
  obtain ⟨B, hB⟩ : ∃ B, B = all.drop (i + 1) := ⟨_, rfl⟩
  obtain ⟨x, hx⟩ : ∃ x, x = all[i] := ⟨_, rfl⟩
  have hAn : ∀ y ∈ A, y ∈ out ∨ readyN l out y = false := fun y hy => by
    rw [hA] at hy
    obtain ⟨j, hj, rfl⟩ := List.getElem_of_mem hy
    simp at hj
    simp only [List.getElem_take]
    exact h3 j (by omega) (by omega)
  rw [← hx] at h1 h2 ⊢
  rw [← hA, ← hB, ← hx] at hs
  clear h3 hA hB hx
  have hnd' : (A ++ x :: B).Nodup := hs ▸ hnd
  have hxA : x ∉ A := fun h => (List.nodup_append.1 hnd').2.2 x h x (by simp) rfl
  have hxB : x ∉ B := (List.nodup_cons.1 (List.nodup_append.1 hnd').2.1).1
  have e1 : leftN all out = leftN A out ++ x :: leftN B out := by rw [hs, left_app, left_cons h1]
  have e2 : leftN all (out ++ [x]) = leftN A out ++ leftN B out := by rw [hs, left_app, left_cons_in (by simp), left_snoc hxA, left_snoc hxB]
  have hn : (leftN A out).findIdx? (readyN l out) = none := by
    rw [List.findIdx?_eq_none_iff]
    intro y hy
    simp only [leftN, List.mem_filter, decide_eq_true_eq] at hy
    exact (hAn y hy.1).resolve_left hy.2
  refine ⟨(leftN A out).length, ?_, ?_, ?_, ?_⟩
  · rw [e1, List.findIdx?_append, hn, List.findIdx?_cons, h2]; simp
  · rw [e1]; simp
  · simp [e1]
  · rw [e1, e2, List.eraseIdx_append_of_length_le (Nat.le_refl _)]; simp
structure OrdI (l : List Ed) (set out : List Nm) : Prop where
  go : orderF l (leftN (sortN set) out).length (leftN (sortN set) out) out = orderN l set
  cl : ∀ n ∈ leftN (sortN set) out, ∀ m ∈ needsOf l n, m ∈ leftN (sortN set) out ∨ m ∈ out
  len : out.length + (leftN (sortN set) out).length = (sortN set).length
theorem sortN_nodup (set : List Nm) : (sortN set).Nodup := (sortN_spec set).1.imp fun {a b} h e => by subst e; rw [Nm.sto.irrefl] at h; cases h
theorem OrdI.start {l : List Ed} {set : List Nm} (hc : closedB l set = true) : OrdI l set [] := by
  have e : leftN (sortN set) [] = sortN set := by simp [leftN]
  refine ⟨by rw [e]; rfl, fun n hn m hm => ?_, by rw [e]; simp⟩
  rw [e] at hn ⊢
  exact .inl (((sortN_spec set).2 m).2 ((closedB_iff.1 hc n (((sortN_spec set).2 n).1 hn)).2 m hm))
theorem OrdI.step {l : List Ed} {set out : List Nm} (h : OrdI l set out) {i : Nat} (hi : i < (sortN set).length) (h1 : (sortN set)[i] ∉ out) (h2 : readyN l out (sortN set)[i] = true)
    (h3 : ∀ (j : Nat) (h : j < (sortN set).length), j < i → (sortN set)[j] ∈ out ∨ readyN l out (sortN set)[j] = false) : OrdI l set (out ++ [(sortN set)[i]]) := by
  obtain ⟨k, hk, hkl, hke, hkr⟩ := left_first (sortN_nodup set) hi h1 h2 h3
  have hlen : (leftN (sortN set) (out ++ [(sortN set)[i]])).length + 1 = (leftN (sortN set) out).length := by
    rw [← hkr, List.length_eraseIdx, if_pos hkl]; omega
  have hgo := h.go
  rw [← hlen, orderF_succ hk hkl, hke, hkr] at hgo
  refine ⟨hgo, ?_, by have := h.len; rw [List.length_append, List.length_singleton]; omega⟩
  have := closed_step h.cl hkl
  rw [hkr, hke] at this
  exact this
theorem OrdI.done {l : List Ed} {set out : List Nm} (h : OrdI l set out) (hl : (sortN set).length ≤ out.length) : out = orderN l set := by
  have h1 := h.len
  have h2 : leftN (sortN set) out = [] := List.eq_nil_of_length_eq_zero (by omega)
  have := h.go
  rw [h2] at this
  exact this
theorem OrdI.found {l : List Ed} {set out : List Nm} (h : OrdI l set out) (ha : Acyc l) (hl : out.length < (sortN set).length) (h3 : ∀ (j : Nat) (h : j < (sortN set).length), (sortN set)[j] ∈ out ∨ readyN l out (sortN set)[j] = false) : False := by
  have h1 := h.len
  obtain ⟨k, hk, hkl⟩ := ready_at ha h.cl (by omega)
  obtain ⟨_, hr, _⟩ := List.findIdx?_eq_some_iff_getElem.1 hk
  have hm : (leftN (sortN set) out)[k] ∈ leftN (sortN set) out := List.getElem_mem hkl
  have hm2 := mem_left.1 hm
  obtain ⟨j, hj, hje⟩ := List.getElem_of_mem hm2.1
  rcases h3 j hj with q | q
  · rw [hje] at q; exact hm2.2 q
  · rw [hje] at q; rw [hr] at q; cases q
theorem mem_sharedL {l : List Ed} {a b : Nm} {s : Str} : s ∈ sharedL l a b ↔ ¬ (findI l a < 0 ∨ findI l b < 0 ∨ a = b ∨ a ∈ aboveL l b ∨ b ∈ aboveL l a) ∧ s ∈ touches (edAt l a) ∧ s ∈ touches (edAt l b) := by
  unfold sharedL
  split
  · rename_i h; simp [h]
  · rename_i h; simp [h]
theorem clashB_iff {l : List Ed} {set : List Nm} {a b : Nm} : clashB l set a b = true ↔ ∃ s, s ∈ sharedL l a b ∧ ∀ c ∈ set, resolvedB l s a b c = false := by
  unfold clashB
  simp [List.any_eq_true]
theorem clashB_comm (l : List Ed) (set : List Nm) (a b : Nm) : clashB l set a b = clashB l set b a := by
  have key : ∀ a b, clashB l set a b = true → clashB l set b a = true := by
    intro a b h
    obtain ⟨s, hs, hr⟩ := clashB_iff.1 h
    refine clashB_iff.2 ⟨s, ?_, fun c hc => ?_⟩
    · rw [mem_sharedL] at hs ⊢
      obtain ⟨h1, h2, h3⟩ := hs
      refine ⟨fun q => h1 ?_, h3, h2⟩
      rcases q with q | q | q | q | q
      · exact .inr (.inl q)
      · exact .inl q
      · exact .inr (.inr (.inl q.symm))
      · exact .inr (.inr (.inr (.inr q)))
      · exact .inr (.inr (.inr (.inl q)))
    · have := hr c hc
      unfold resolvedB at *
      rw [Bool.and_assoc, Bool.and_comm (decide (b ∈ _)), ← Bool.and_assoc]
      exact this
  rw [Bool.eq_iff_iff]
  exact ⟨key a b, key b a⟩
theorem dropD_same {L : List Df} {s : Str} : (dropD L s).length = L.length ↔ (L.any fun x => decide (x.name = s)) = false := by
  rw [List.any_eq_false]
  unfold dropD
  rw [List.length_filter_eq_length_iff]
  simp
end Go.Eng
namespace Go.Eng
theorem found_iff {l : List Ed} {n : Nm} : 0 ≤ findI l n ↔ n ∈ l.map Ed.name := by
  constructor
  · intro h
    obtain ⟨i, hi, _, _⟩ := edAt_of h
    unfold findI at h
    cases q : find? l n with
    | none => rw [q] at h; simp at h
    | some i => obtain ⟨hi, e⟩ := find_of q; rw [← e]; exact List.mem_map_of_mem (List.getElem_mem hi)
  · intro h
    obtain ⟨i, hi⟩ := find_mem h
    simp [findI, hi]
theorem need_found {l : List Ed} (h : (validV l).2 = 0) {n m : Nm} (hm : m ∈ needsOf l n) : 0 ≤ findI l m := by
  obtain ⟨e, he, _, hme⟩ := needsOf_mem hm
  obtain ⟨i, hi, rfl⟩ := List.getElem_of_mem he
  exact (errE_zero ((valid_err h).2 i hi)).2.2.1 m hme
theorem reach_found {l : List Ed} (h : (validV l).2 = 0) {n m : Nm} (r : Reach l n m) : 0 ≤ findI l m := by
  induction r with
  | one h1 => exact need_found h h1
  | next _ _ ih => exact ih
def cloN (l : List Ed) (S : List Nm) : List Nm := sortN (S ++ S.flatMap (aboveL l))
theorem mem_cloN {l : List Ed} {S : List Nm} {x : Nm} : x ∈ cloN l S ↔ x ∈ S ∨ ∃ n ∈ S, Reach l n x := by
  unfold cloN
  rw [(sortN_spec _).2, List.mem_append, List.mem_flatMap]
  simp only [mem_aboveL]
theorem closure_closed {l : List Ed} (h : (validV l).2 = 0) {S : List Nm} (hS : ∀ n ∈ S, n ∈ l.map Ed.name) : closedB l (cloN l S) = true := by
  rw [closedB_iff]
  intro n hn
  rw [mem_cloN] at hn
  refine ⟨?_, fun m hm => mem_cloN.2 (.inr ?_)⟩
  · rcases hn with hn | ⟨k, _, hr⟩
    · exact found_iff.2 (hS n hn)
    · exact reach_found h hr
  · rcases hn with hn | ⟨k, hk, hr⟩
    · exact ⟨n, hn, .one hm⟩
    · exact ⟨k, hk, hr.snoc hm⟩
theorem closureV_ok {l : List Ed} (h : (validV l).2 = 0) {S : List Nm} (hS : ∀ n ∈ S, n ∈ l.map Ed.name) : closureV l S = (cloN l S, 0) := by
  have hc := closure_closed h hS
  have e : closedB l (S ++ S.flatMap (aboveL l)) = true := by rw [← hc]; exact closedB_mem fun x => ((sortN_spec _).2 x).symm
  unfold closureV
  rw [e]
  rfl
theorem someN_len (l : List Ed) (b : Int) : (someN l b).length ≤ l.length := by
  unfold someN
  rw [List.length_map]
  exact Nat.le_trans (List.length_filter_le _ _) (by simp)
def Chain (l : List Ed) (x : List Nm) : Prop := ∀ (i : Nat) (h : i < x.length), ∀ m ∈ needsOf l x[i], m ∈ x.take i
theorem Chain.nil {l : List Ed} : Chain l [] := fun i h => absurd h (Nat.not_lt_zero _)
theorem Chain.snoc {l : List Ed} {x : List Nm} {n : Nm} (h : Chain l x) (hr : readyN l x n = true) : Chain l (x ++ [n]) := fun i hi m hm => by
  simp at hi
  by_cases e : i < x.length
  · rw [List.getElem_append_left e] at hm
    rw [List.take_append_of_le_length (by omega)]
    exact h i e m hm
  · have e : i = x.length := by omega
    subst e
    simp only [List.getElem_concat_length] at hm
    rw [List.take_left]
    have := List.all_eq_true.1 hr m hm
    simpa using this
theorem orderF_chain {l : List Ed} : ∀ (f : Nat) (rest out : List Nm), Chain l out → Chain l (orderF l f rest out)
  | 0, _, _, h => h
  | f + 1, rest, out, h => by
    cases q : rest.findIdx? (readyN l out) with
    | none => simp only [orderF, q]; exact h
    | some k =>
      obtain ⟨hk, hr, _⟩ := List.findIdx?_eq_some_iff_getElem.1 q
      rw [orderF_succ q hk]
      exact orderF_chain f _ _ (h.snoc hr)
theorem orderF_perm {l : List Ed} (ha : Acyc l) : ∀ (f : Nat) (rest out : List Nm), rest.length = f → (∀ n ∈ rest, ∀ m ∈ needsOf l n, m ∈ rest ∨ m ∈ out) → (orderF l f rest out).Perm (out ++ rest)
  | 0, rest, out, h, _ => by
    have : rest = [] := List.eq_nil_of_length_eq_zero h
    subst this
    simp [orderF]
  | f + 1, rest, out, h, hc => by
    obtain ⟨k, hk, hkl⟩ := ready_at ha hc (by omega)
    rw [orderF_succ hk hkl]
    refine (orderF_perm ha f _ _ (by rw [List.length_eraseIdx, if_pos hkl]; omega) (closed_step hc hkl)).trans ?_
    rw [List.append_assoc]
    refine List.Perm.append_left _ ?_
    have hs : rest = rest.take k ++ rest[k] :: rest.drop (k + 1) := by rw [List.getElem_cons_drop, List.take_append_drop]
    have e0 : rest.eraseIdx k = rest.take k ++ rest.drop (k + 1) := List.eraseIdx_eq_take_drop_succ ..
    rw [e0]
    have h2 := (List.perm_middle (a := rest[k]) (l₁ := rest.take k) (l₂ := rest.drop (k + 1))).symm
    rw [← hs] at h2
    exact h2
theorem orderN_perm {l : List Ed} {set : List Nm} (h : (validV l).2 = 0) (hc : closedB l set = true) : (orderN l set).Perm (sortN set) := by
  have := orderF_perm (valid_acyc h) (sortN set).length (sortN set) [] rfl (order_init hc).1
  simpa [orderN] using this
theorem orderN_chain (l : List Ed) (set : List Nm) : Chain l (orderN l set) := orderF_chain _ _ _ .nil
theorem mem_orderN {l : List Ed} {set : List Nm} (h : (validV l).2 = 0) (hc : closedB l set = true) {x : Nm} : x ∈ orderN l set ↔ x ∈ set := by
  rw [(orderN_perm h hc).mem_iff, (sortN_spec set).2]
theorem Chain.take {l : List Ed} {x : List Nm} (h : Chain l x) (k : Nat) : Chain l (x.take k) := fun i hi m hm => by
  simp at hi
  simp only [List.getElem_take] at hm
  rw [List.take_take, Nat.min_eq_left (by omega)]
  exact h i (by omega) m hm
theorem Chain.ahead {l : List Ed} {x : List Nm} (h : Chain l x) {n m : Nm} (r : Reach l n m) : ∀ {i : Nat} (hi : i < x.length), x[i] = n → m ∈ x.take i := by
  induction r with
  | one h1 => intro i hi e; subst e; exact h i hi _ h1
  | next h1 _ ih =>
    intro i hi e
    subst e
    have h2 := h i hi _ h1
    obtain ⟨j, hj, e2⟩ := List.getElem_of_mem h2
    simp at hj
    simp only [List.getElem_take] at e2
    have h3 := ih (by omega) e2
    have : x.take j = (x.take i).take j := by rw [List.take_take, Nat.min_eq_left (by omega)]
    rw [this] at h3
    exact List.mem_of_mem_take h3
end Go.Eng
namespace Go.Eng
theorem ed_inj {l : List Ed} (h : (l.map Ed.name).Nodup) {a b : Ed} (ha : a ∈ l) (hb : b ∈ l) (e : a.name = b.name) : a = b := by
  obtain ⟨i, hi, rfl⟩ := List.getElem_of_mem ha
  obtain ⟨j, hj, rfl⟩ := List.getElem_of_mem hb
  rw [List.Nodup, List.pairwise_map, List.pairwise_iff_getElem] at h
  rcases Nat.lt_trichotomy i j with hij | hij | hij
  · exact absurd e (h i j hi hj hij)
  · subst hij; rfl
  · exact absurd e.symm (h j i hj hi hij)
theorem find_uniq {l : List Ed} (h : (l.map Ed.name).Nodup) {e : Ed} (he : e ∈ l) : ∃ i, find? l e.name = some i ∧ ∃ hi : i < l.length, l[i] = e := by
  obtain ⟨i, hi⟩ := find_mem (List.mem_map_of_mem (f := Ed.name) he)
  obtain ⟨h1, h2⟩ := find_of hi
  exact ⟨i, hi, h1, ed_inj h (List.getElem_mem h1) he h2⟩
theorem needsOf_of {l : List Ed} (h : (l.map Ed.name).Nodup) {e : Ed} (he : e ∈ l) : needsOf l e.name = e.needs := by
  obtain ⟨i, h1, h2, h3⟩ := find_uniq h he
  simp [needsOf, h1, h2, h3]
theorem edAt_mem {l : List Ed} (h : (l.map Ed.name).Nodup) {e : Ed} (he : e ∈ l) : edAt l e.name = e := by
  obtain ⟨i, h1, h2, h3⟩ := find_uniq h he
  simp [edAt, h1, h2, h3]
theorem find_not {l : List Ed} {n : Nm} (h : n ∉ l.map Ed.name) : find? l n = none := by
  cases q : find? l n with
  | none => rfl
  | some i => obtain ⟨hi, e⟩ := find_of q; exact absurd (e ▸ List.mem_map_of_mem (List.getElem_mem hi)) h
theorem valid_nodup {l : List Ed} (h : (validV l).2 = 0) : (l.map Ed.name).Nodup := by
  obtain ⟨_, he⟩ := valid_err h
  refine List.pairwise_iff_getElem.2 fun i j hi hj hij e => ?_
  simp only [List.length_map] at hi hj
  rw [List.getElem_map, List.getElem_map] at e
  have h1 := (errE_zero (he j hj)).2.1
  unfold findI at h1
  cases q : find? l l[j].name with
  | none => rw [q] at h1; simp at h1; omega
  | some k =>
    rw [q] at h1
    simp at h1
    unfold find? at q
    obtain ⟨_, _, h3⟩ := List.findIdx?_eq_some_iff_getElem.1 q
    have := h3 i (by omega)
    simp [e] at this
structure SameEds (a b : List Ed) : Prop where
  na : (a.map Ed.name).Nodup
  nb : (b.map Ed.name).Nodup
  mem : ∀ e, e ∈ a ↔ e ∈ b
theorem SameEds.names {a b : List Ed} (h : SameEds a b) {n : Nm} : n ∈ a.map Ed.name ↔ n ∈ b.map Ed.name := by
  simp only [List.mem_map, h.mem]
theorem SameEds.needs {a b : List Ed} (h : SameEds a b) (n : Nm) : needsOf a n = needsOf b n := by
  by_cases q : n ∈ a.map Ed.name
  · obtain ⟨e, he, rfl⟩ := List.mem_map.1 q
    rw [needsOf_of h.na he, needsOf_of h.nb ((h.mem e).1 he)]
  · unfold needsOf
    rw [find_not q, find_not fun x => q (h.names.2 x)]
theorem SameEds.edAt {a b : List Ed} (h : SameEds a b) (n : Nm) : edAt a n = edAt b n := by
  by_cases q : n ∈ a.map Ed.name
  · obtain ⟨e, he, rfl⟩ := List.mem_map.1 q
    rw [edAt_mem h.na he, edAt_mem h.nb ((h.mem e).1 he)]
  · unfold Go.Eng.edAt
    rw [find_not q, find_not fun x => q (h.names.2 x)]
theorem SameEds.found {a b : List Ed} (h : SameEds a b) (n : Nm) : (0 ≤ findI a n) = (0 ≤ findI b n) := by
  rw [eq_iff_iff, found_iff, found_iff]
  exact h.names
theorem SameEds.notFound {a b : List Ed} (h : SameEds a b) (n : Nm) : (findI a n < 0) = (findI b n < 0) := by
  have := h.found n
  rw [eq_iff_iff] at *
  omega
theorem reach_to {a b : List Ed} (h : ∀ n, needsOf a n = needsOf b n) {n m : Nm} (r : Reach a n m) : Reach b n m := by
  induction r with
  | one h1 => exact .one (h _ ▸ h1)
  | next h1 _ ih => exact .next (h _ ▸ h1) ih
theorem SameEds.reach {a b : List Ed} (h : SameEds a b) {n m : Nm} : Reach a n m ↔ Reach b n m := ⟨reach_to h.needs, reach_to fun n => (h.needs n).symm⟩
theorem SameEds.above {a b : List Ed} (h : SameEds a b) (n m : Nm) : (n ∈ aboveL a m) = (n ∈ aboveL b m) := by
  rw [eq_iff_iff, mem_aboveL, mem_aboveL]; exact h.reach
theorem SameEds.closed {a b : List Ed} (h : SameEds a b) (z : List Nm) : closedB a z = closedB b z := by
  rw [Bool.eq_iff_iff, closedB_iff, closedB_iff]
  simp only [h.needs, h.found]
theorem SameEds.clo {a b : List Ed} (h : SameEds a b) (S : List Nm) : cloN a S = cloN b S := by
  refine rising_eq Nm.sto (sortN_spec _).1 (sortN_spec _).1 fun x => ?_
  show x ∈ cloN a S ↔ x ∈ cloN b S
  rw [mem_cloN, mem_cloN]
  simp only [h.reach]
theorem SameEds.clash {a b : List Ed} (h : SameEds a b) {x y : List Nm} (hm : ∀ n, n ∈ x ↔ n ∈ y) (n m : Nm) : clashB a x n m = clashB b y n m := by
  rw [Bool.eq_iff_iff, clashB_iff, clashB_iff]
  simp only [mem_sharedL, resolvedB, h.notFound, h.above, h.edAt, hm]
theorem SameEds.clashAny {a b : List Ed} (h : SameEds a b) {x y : List Nm} (hm : ∀ n, n ∈ x ↔ n ∈ y) (ns : List Nm) : clashAny a x ns = clashAny b y ns := by
  unfold Go.Eng.clashAny
  simp only [h.clash hm]
theorem rep_eq {m L L' : List Df} (h : Rep m L) (h' : Rep m L') : L = L' := by
  have p : (ssort (m.map Df.name)).Perm (m.map Df.name) := List.mergeSort_perm _ _
  exact (h.out p (ssort_sorted _)).symm.trans (h'.out p (ssort_sorted _))
theorem Rep.self {L : List Df} (h : Rising nameLt L) : Rep L L := ⟨rising_names h, h, fun _ => Iff.rfl⟩
theorem putD_rising {L : List Df} (h : Rising nameLt L) (d : Df) : Rising nameLt (putD L d) := ((Rep.self h).put d).ri
theorem mem_putD {L : List Df} (h : Rising nameLt L) {d x : Df} : x ∈ putD L d ↔ x = d ∨ (x ∈ L ∧ x.name ≠ d.name) := by
  rw [← ((Rep.self h).put d).mem, (upsert_names (rising_names h)).2]
theorem dropD_rising {L : List Df} (h : Rising nameLt L) (s : Str) : Rising nameLt (dropD L s) := ((Rep.self h).drop s).ri
def madeOf (l : List Ed) (x : List Nm) (L : List Df) : List Df := x.foldl (fun ds n => doneD ds (edAt l n)) L
theorem programV_ok {D L : List Df} {l : List Ed} {set : List Nm} (h : (validV l).2 = 0) (hb : baseD [] D = some L) (hc : closedB l set = true) :
    programV D l set = if clashAny l set (orderN l set) = true then ([], 14) else (madeOf l (orderN l set) L, 0) := by
  unfold programV
  rw [if_neg (by simpa using h), hb]
  simp [hc, madeOf]
end Go.Eng
namespace Go.Eng
theorem textOf_mem {l : List Df} (h : (l.map Df.name).Nodup) {d : Df} (hd : d ∈ l) : textOf l d.name = d.text := by
  unfold textOf
  cases q : l.findIdx? (fun x => decide (x.name = d.name)) with
  | none => have := List.findIdx?_eq_none_iff.1 q d hd; simp at this
  | some j =>
    obtain ⟨hj, h1, _⟩ := List.findIdx?_eq_some_iff_getElem.1 q
    simp only [List.getD_eq_getElem?_getD, List.getElem?_eq_getElem hj, Option.getD_some]
    rw [name_inj h (List.getElem_mem hj) hd (by simpa using h1)]
theorem puts_rising : ∀ (ps : List Df) {L : List Df}, Rising nameLt L → Rising nameLt (ps.foldl putD L)
  | [], _, h => h
  | d :: ps, _, h => puts_rising ps (putD_rising h d)
theorem drops_rising : ∀ (ds : List Str) {L : List Df}, Rising nameLt L → Rising nameLt (ds.foldl dropD L)
  | [], _, h => h
  | d :: ds, _, h => drops_rising ds (dropD_rising h d)
theorem doneD_rising {L : List Df} (h : Rising nameLt L) (e : Ed) : Rising nameLt (doneD L e) := drops_rising _ (puts_rising _ h)
theorem okNames_nodup {l : List Str} (h : okNames l = true) : l.Nodup := by
  unfold okNames at h
  simp only [Bool.and_eq_true, decide_eq_true_eq] at h
  exact h.2
theorem proper_nodup {e : Ed} (h : properE e = true) : (touches e).Nodup := by
  unfold properE at h
  simp only [Bool.and_eq_true] at h
  exact okNames_nodup h.1.2
theorem madeOf_rising {l : List Ed} : ∀ (x : List Nm) {L : List Df}, Rising nameLt L → Rising nameLt (madeOf l x L)
  | [], _, h => h
  | n :: x, _, h => madeOf_rising x (doneD_rising h _)
theorem madeOf_snoc {l : List Ed} {x : List Nm} {n : Nm} {L : List Df} : madeOf l (x ++ [n]) L = doneD (madeOf l x L) (edAt l n) := by simp [madeOf]
end Go.Eng
namespace Go.Eng
def setStep (out : List Str) (s : Str) : List Str := if s ∈ out then out else insAt (rpos (fun y => bless s y) out out.length) s out
def setS (l : List Str) : List Str := l.foldl setStep []
theorem setStep_spec {out : List Str} (h : Rising bless out) (s : Str) : Rising bless (setStep out s) ∧ ∀ x, x ∈ setStep out s ↔ x = s ∨ x ∈ out := by
  unfold setStep
  by_cases hs : s ∈ out
  · rw [if_pos hs]
    exact ⟨h, fun x => ⟨.inr, fun hx => hx.elim (fun e => e ▸ hs) id⟩⟩
  · rw [if_neg hs]
    exact ⟨ins_rising bless_sto h hs, fun x => mem_insAt⟩
theorem setFold_spec : ∀ (l out : List Str), Rising bless out → Rising bless (l.foldl setStep out) ∧ ∀ x, x ∈ l.foldl setStep out ↔ x ∈ out ∨ x ∈ l
  | [], out, h => ⟨h, fun x => by simp⟩
  | a :: l, out, h => by
    obtain ⟨h1, h2⟩ := setStep_spec h a
    obtain ⟨h3, h4⟩ := setFold_spec l _ h1
    refine ⟨h3, fun x => ?_⟩
    simp only [List.foldl_cons]
    rw [h4, h2, List.mem_cons]
    constructor
    · rintro ((h | h) | h) <;> simp [h]
    · rintro (h | h | h) <;> simp [h]
theorem setS_spec (l : List Str) : Rising bless (setS l) ∧ ∀ x, x ∈ setS l ↔ x ∈ l := by
  obtain ⟨h1, h2⟩ := setFold_spec l [] .nil
  exact ⟨h1, fun x => by unfold setS; rw [h2]; simp⟩
theorem setS_take {l : List Str} {i : Nat} (h : i < l.length) : setS (l.take (i + 1)) = setStep (setS (l.take i)) l[i] := by
  have h1 : l.take (i + 1) = l.take i ++ [l[i]] := by simp
  unfold setS
  rw [h1, List.foldl_append]; rfl
theorem setS_mem {a b : List Str} (h : ∀ x, x ∈ a ↔ x ∈ b) : setS a = setS b :=
  rising_eq bless_sto (setS_spec a).1 (setS_spec b).1 fun x => by rw [(setS_spec a).2, (setS_spec b).2, h]
theorem insAt_rising {α : Type} {lt : α → α → Bool} {out : List α} {k : Nat} {x : α} (O : STO lt) (h : Rising lt out) (h1 : ∀ (i : Nat) (hi : i < out.length), i < k → lt out[i] x = true) (h2 : ∀ (i : Nat) (hi : i < out.length), k ≤ i → lt x out[i] = true) : Rising lt (insAt k x out) := by
  unfold insAt
  refine List.pairwise_append.2 ⟨h.sublist (List.take_sublist _ _), List.pairwise_cons.2 ⟨fun y hy => ?_, h.sublist (List.drop_sublist _ _)⟩, fun y hy z hz => ?_⟩
  · obtain ⟨i, hi, rfl⟩ := List.getElem_of_mem hy
    simp at hi
    simp only [List.getElem_drop]
    exact h2 (k + i) (by omega) (by omega)
  · obtain ⟨i, hi, rfl⟩ := List.getElem_of_mem hy
    simp at hi
    simp only [List.getElem_take]
    rcases List.mem_cons.1 hz with rfl | hz
    · exact h1 i (by omega) (by omega)
    · obtain ⟨j, hj, rfl⟩ := List.getElem_of_mem hz
      simp at hj
      simp only [List.getElem_drop]
      exact List.pairwise_iff_getElem.1 h i (k + j) (by omega) (by omega) (by omega)
theorem set_at {out : List Str} {s : Str} {k : Nat} (h : Rising bless out) (hk : k ≤ out.length) (h1 : ∀ (i : Nat) (hi : i < out.length), i < k → bless out[i] s = true) (h2 : ∀ hk : k < out.length, bless out[k] s = false) (hs : s ∉ out) : insAt k s out = setStep out s := by
  obtain ⟨h3, h4⟩ := setStep_spec h s
  refine rising_eq bless_sto (insAt_rising bless_sto h h1 fun i hi hki => ?_) h3 fun x => by rw [mem_insAt, h4]
  have hkl : k < out.length := by omega
  have hsk : bless s out[k] = true := by
    cases q : bless s out[k] with
    | true => rfl
    | false => exact absurd (bless_sto.total _ _ q (h2 hkl)) fun e => hs (e ▸ List.getElem_mem hkl)
  by_cases e : k = i
  · subst e; exact hsk
  · exact bless_sto.trans _ _ _ hsk (List.pairwise_iff_getElem.1 h k i hkl hi (by omega))
theorem set_there {out : List Str} {s : Str} {k : Nat} (h : Rising bless out) (hk : k < out.length) (h1 : ∀ (i : Nat) (hi : i < out.length), i < k → bless out[i] s = true) (h2 : bless out[k] s = false) : out[k] = s ↔ s ∈ out := by
  constructor
  · intro e; exact e ▸ List.getElem_mem hk
  · intro hs
    obtain ⟨j, hj, rfl⟩ := List.getElem_of_mem hs
    rcases Nat.lt_trichotomy j k with q | q | q
    · have := h1 j hj q; rw [bless_sto.irrefl] at this; cases this
    · subst q; rfl
    · have := List.pairwise_iff_getElem.1 h k j hk hj q; rw [this] at h2; cases h2
abbrev Chg := List (Str × Option Str)
def upC (m : Chg) (s : Str) (v : Option Str) : Chg := match m.findIdx? (fun p => decide (s = p.1)) with | some j => m.set j (s, v) | none => m ++ [(s, v)]
def lookC (m : Chg) (s : Str) : Option (Option Str) := match m.findIdx? (fun p => decide (s = p.1)) with | some j => (m[j]?).map Prod.snd | none => none
theorem findC_none {m : Chg} {s : Str} : m.findIdx? (fun p => decide (s = p.1)) = none ↔ s ∉ m.map Prod.fst := by
  rw [List.findIdx?_eq_none_iff]
  constructor
  · intro h hs
    obtain ⟨p, hp, rfl⟩ := List.mem_map.1 hs
    have := h p hp
    simp at this
  · intro h p hp
    have : s ≠ p.1 := fun e => h (e ▸ List.mem_map_of_mem hp)
    simpa using this
theorem findC_some {m : Chg} {s : Str} {j : Nat} (h : m.findIdx? (fun p => decide (s = p.1)) = some j) : ∃ hj : j < m.length, m[j].1 = s := by
  obtain ⟨hj, h1, _⟩ := List.findIdx?_eq_some_iff_getElem.1 h
  exact ⟨hj, (of_decide_eq_true h1).symm⟩
theorem upC_keys (m : Chg) (s : Str) (v : Option Str) : (upC m s v).map Prod.fst = if s ∈ m.map Prod.fst then m.map Prod.fst else m.map Prod.fst ++ [s] := by
  unfold upC
  cases q : m.findIdx? (fun p => decide (s = p.1)) with
  | none => rw [if_neg (findC_none.1 q)]; simp
  | some j =>
    obtain ⟨hj, hjs⟩ := findC_some q
    have hm : s ∈ m.map Prod.fst := hjs ▸ List.mem_map_of_mem (List.getElem_mem hj)
    rw [if_pos hm]
    simp only
    rw [List.map_set]
    apply List.ext_getElem?
    intro i
    rw [List.getElem?_set]
    by_cases e : j = i
    · subst e; simp [hj, hjs]
    · simp [e]
theorem upC_nodup {m : Chg} {s : Str} {v : Option Str} (h : (m.map Prod.fst).Nodup) : ((upC m s v).map Prod.fst).Nodup := by
  rw [upC_keys]
  split
  · exact h
  · rename_i hn
    rw [List.nodup_append]
    exact ⟨h, by simp, fun a ha b hb e => by simp at hb; subst hb; subst e; exact hn ha⟩
theorem mem_upC {m : Chg} {s x : Str} {v : Option Str} : x ∈ (upC m s v).map Prod.fst ↔ x = s ∨ x ∈ m.map Prod.fst := by
  rw [upC_keys]
  split
  · rename_i h
    exact ⟨.inr, fun hx => hx.elim (fun e => e ▸ h) id⟩
  · rw [List.mem_append, List.mem_singleton]
    exact ⟨fun h => h.symm, fun h => h.symm⟩
theorem lookC_at {m : Chg} (h : (m.map Prod.fst).Nodup) {p : Str × Option Str} (hp : p ∈ m) : lookC m p.1 = some p.2 := by
  unfold lookC
  cases q : m.findIdx? (fun x => decide (p.1 = x.1)) with
  | none => exact absurd (List.mem_map_of_mem hp) (findC_none.1 q)
  | some j =>
    obtain ⟨hj, hjs⟩ := findC_some q
    obtain ⟨i, hi, rfl⟩ := List.getElem_of_mem hp
    have : j = i := by
      have := List.pairwise_iff_getElem.1 h
      rcases Nat.lt_trichotomy j i with e | e | e
      · exact absurd (by rw [List.getElem_map, List.getElem_map]; exact hjs) (this j i (by simpa using hj) (by simpa using hi) e)
      · exact e
      · exact absurd (by rw [List.getElem_map, List.getElem_map]; exact hjs.symm) (this i j (by simpa using hi) (by simpa using hj) e)
    subst this
    simp [hj]
theorem lookC_none {m : Chg} {s : Str} : lookC m s = none ↔ s ∉ m.map Prod.fst := by
  unfold lookC
  cases q : m.findIdx? (fun x => decide (s = x.1)) with
  | none => simp only [true_iff]; exact findC_none.1 q
  | some j =>
    obtain ⟨hj, hjs⟩ := findC_some q
    simp only [List.getElem?_eq_getElem hj, Option.map_some, reduceCtorEq, false_iff, Decidable.not_not]
    exact hjs ▸ List.mem_map_of_mem (List.getElem_mem hj)
theorem lookC_up {m : Chg} (h : (m.map Prod.fst).Nodup) (s x : Str) (v : Option Str) : lookC (upC m s v) x = if x = s then some v else lookC m x := by
  have hn := upC_nodup (s := s) (v := v) h
  have hmem : ∀ p, p ∈ upC m s v ↔ p = (s, v) ∨ (p ∈ m ∧ p.1 ≠ s) := by
    intro p
    unfold upC
    cases q : m.findIdx? (fun x => decide (s = x.1)) with
    | none =>
      have hns := findC_none.1 q
      simp only [List.mem_append, List.mem_singleton]
      constructor
      · rintro (hp | hp)
        · exact .inr ⟨hp, fun e => hns (e ▸ List.mem_map_of_mem hp)⟩
        · exact .inl hp
      · rintro (hp | ⟨hp, _⟩)
        · exact .inr hp
        · exact .inl hp
    | some j =>
      obtain ⟨hj, hjs⟩ := findC_some q
      simp only
      constructor
      · intro hp
        obtain ⟨i, hi, rfl⟩ := List.getElem_of_mem hp
        simp at hi
        rw [List.getElem_set]
        by_cases e : j = i
        · simp [e]
        · simp only [e, if_false]
          refine .inr ⟨List.getElem_mem hi, fun en => e ?_⟩
          have := List.pairwise_iff_getElem.1 h
          rcases Nat.lt_trichotomy j i with f | f | f
          · exact absurd (by rw [List.getElem_map, List.getElem_map, hjs, en]) (this j i (by simpa using hj) (by simpa using hi) f)
          · exact f
          · exact absurd (by rw [List.getElem_map, List.getElem_map, hjs, en]) (this i j (by simpa using hi) (by simpa using hj) f)
      · rintro (rfl | ⟨hp, hne⟩)
        · exact List.mem_iff_getElem.2 ⟨j, by simpa using hj, by simp⟩
        · obtain ⟨i, hi, rfl⟩ := List.getElem_of_mem hp
          have e : j ≠ i := fun e => by subst e; exact hne hjs
          exact List.mem_iff_getElem.2 ⟨i, by simpa using hi, by rw [List.getElem_set]; simp [e]⟩
  by_cases e : x = s
  · subst e
    rw [if_pos rfl]
    exact lookC_at hn ((hmem _).2 (.inl rfl))
  · rw [if_neg e]
    cases q : lookC m x with
    | none =>
      rw [lookC_none] at q ⊢
      intro hx
      rcases mem_upC.1 hx with hx | hx
      · exact e hx
      · exact q hx
    | some o =>
      have hx : x ∈ m.map Prod.fst := by
        apply Decidable.byContradiction
        intro hx
        rw [lookC_none.2 hx] at q; cases q
      obtain ⟨p, hp, rfl⟩ := List.mem_map.1 hx
      have e1 := lookC_at h hp
      rw [q] at e1
      rw [e1]
      exact lookC_at hn ((hmem _).2 (.inr ⟨hp, e⟩))
def tchN (e : Ed) : List Str := setS (touches e)
theorem mem_tchN {e : Ed} {s : Str} : s ∈ tchN e ↔ s ∈ touches e := (setS_spec _).2 s
def meetB (a b : Ed) : Bool := (tchN a).any fun s => decide (s ∈ tchN b)
theorem meetB_iff {a b : Ed} : meetB a b = true ↔ ∃ s, s ∈ touches a ∧ s ∈ touches b := by
  unfold meetB
  rw [List.any_eq_true]
  simp only [mem_tchN, decide_eq_true_eq]
def applyC (c : Chg) (e : Ed) : Chg := e.drops.foldl (fun c s => upC c s none) (e.puts.foldl (fun c d => upC c d.name (some d.text)) c)
theorem putsC_keys : ∀ (ps : List Df) {c : Chg}, (c.map Prod.fst).Nodup → ((ps.foldl (fun c d => upC c d.name (some d.text)) c).map Prod.fst).Nodup ∧ ∀ x, x ∈ (ps.foldl (fun c d => upC c d.name (some d.text)) c).map Prod.fst ↔ x ∈ c.map Prod.fst ∨ x ∈ ps.map Df.name
  | [], c, h => ⟨h, fun x => by simp⟩
  | d :: ps, c, h => by
    obtain ⟨h1, h2⟩ := putsC_keys ps (upC_nodup (s := d.name) (v := some d.text) h)
    refine ⟨h1, fun x => ?_⟩
    simp only [List.foldl_cons, List.map_cons, List.mem_cons]
    rw [h2, mem_upC]
    constructor
    · rintro ((h | h) | h)
      · exact .inr (.inl h)
      · exact .inl h
      · exact .inr (.inr h)
    · rintro (h | h | h)
      · exact .inl (.inr h)
      · exact .inl (.inl h)
      · exact .inr h
theorem dropsC_keys : ∀ (ds : List Str) {c : Chg}, (c.map Prod.fst).Nodup → ((ds.foldl (fun c s => upC c s none) c).map Prod.fst).Nodup ∧ ∀ x, x ∈ (ds.foldl (fun c s => upC c s none) c).map Prod.fst ↔ x ∈ c.map Prod.fst ∨ x ∈ ds
  | [], c, h => ⟨h, fun x => by simp⟩
  | d :: ds, c, h => by
    obtain ⟨h1, h2⟩ := dropsC_keys ds (upC_nodup (s := d) (v := none) h)
    refine ⟨h1, fun x => ?_⟩
    simp only [List.foldl_cons, List.mem_cons]
    rw [h2, mem_upC]
    constructor
    · rintro ((h | h) | h)
      · exact .inr (.inl h)
      · exact .inl h
      · exact .inr (.inr h)
    · rintro (h | h | h)
      · exact .inl (.inr h)
      · exact .inl (.inl h)
      · exact .inr h
theorem applyC_keys {c : Chg} (h : (c.map Prod.fst).Nodup) (e : Ed) : ((applyC c e).map Prod.fst).Nodup ∧ ∀ x, x ∈ (applyC c e).map Prod.fst ↔ x ∈ c.map Prod.fst ∨ x ∈ touches e := by
  obtain ⟨h1, h2⟩ := putsC_keys e.puts h
  obtain ⟨h3, h4⟩ := dropsC_keys e.drops h1
  refine ⟨h3, fun x => ?_⟩
  unfold applyC
  rw [h4, h2]
  unfold touches
  rw [List.mem_append]
  exact or_assoc
theorem dropsC_look : ∀ (ds : List Str) {c : Chg}, (c.map Prod.fst).Nodup → ∀ s, lookC (ds.foldl (fun c s => upC c s none) c) s = if s ∈ ds then some none else lookC c s
  | [], c, _, s => by simp
  | d :: ds, c, h, s => by
    rw [List.foldl_cons, dropsC_look ds (upC_nodup h) s, lookC_up h]
    by_cases q : s ∈ ds
    · rw [if_pos q, if_pos (by simp [q])]
    · rw [if_neg q]
      by_cases e : s = d
      · subst e; simp
      · rw [if_neg e, if_neg (by simp [e, q])]
theorem putsC_look : ∀ (ps : List Df) {c : Chg}, (c.map Prod.fst).Nodup → (ps.map Df.name).Nodup → ∀ s, lookC (ps.foldl (fun c d => upC c d.name (some d.text)) c) s = if s ∈ ps.map Df.name then some (some (textOf ps s)) else lookC c s
  | [], c, _, _, s => by simp
  | d :: ps, c, h, hn, s => by
    have hn' := List.nodup_cons.1 hn
    rw [List.foldl_cons, putsC_look ps (upC_nodup h) hn'.2 s, lookC_up h]
    by_cases q : s ∈ ps.map Df.name
    · have hne : s ≠ d.name := fun e => hn'.1 (e ▸ q)
      rw [if_pos q, if_pos (by simp only [List.map_cons, List.mem_cons]; exact .inr q)]
      obtain ⟨x, hx, rfl⟩ := List.mem_map.1 q
      rw [textOf_mem hn'.2 hx, textOf_mem hn (by simp [hx])]
    · rw [if_neg q]
      by_cases e : s = d.name
      · subst e
        rw [if_pos rfl, if_pos (by simp), textOf_mem hn (by simp)]
      · rw [if_neg e, if_neg (by simp only [List.map_cons, List.mem_cons, not_or]; exact ⟨e, q⟩)]
theorem applyC_look {c : Chg} (h : (c.map Prod.fst).Nodup) {e : Ed} (hn : (touches e).Nodup) (s : Str) : lookC (applyC c e) s = if s ∈ e.drops then some none else if s ∈ e.puts.map Df.name then some (some (textOf e.puts s)) else lookC c s := by
  unfold touches at hn
  unfold applyC
  rw [dropsC_look _ (putsC_keys e.puts h).1, putsC_look _ h (List.nodup_append.1 hn).1]
def editC (c : Chg) (n : Nm) (needs : List Nm) (w : Str → Bool) : Ed :=
  ⟨n, needs, ((setS (c.map Prod.fst)).filter w).filterMap fun s => (match lookC c s with | some (some t) => some ⟨s, t⟩ | _ => none), ((setS (c.map Prod.fst)).filter w).filter fun s => (match lookC c s with | some (some _) => false | _ => true)⟩
end Go.Eng
namespace Go.Eng
def defOf (l : List Df) (s : Str) : Option Df := l.find? fun d => decide (d.name = s)
theorem defOf_mem {l : List Df} (h : (l.map Df.name).Nodup) {d : Df} (hd : d ∈ l) : defOf l d.name = some d := by
  unfold defOf
  cases q : l.find? (fun x => decide (x.name = d.name)) with
  | none => have := List.find?_eq_none.1 q d hd; simp at this
  | some x =>
    have h1 := List.mem_of_find?_eq_some q
    have h2 := List.find?_some q
    rw [name_inj h h1 hd (by simpa using h2)]
theorem defOf_none {l : List Df} {s : Str} : defOf l s = none ↔ s ∉ l.map Df.name := by
  unfold defOf
  rw [List.find?_eq_none]
  constructor
  · intro h hs
    obtain ⟨d, hd, rfl⟩ := List.mem_map.1 hs
    have := h d hd
    simp at this
  · intro h d hd
    have : d.name ≠ s := fun e => h (e ▸ List.mem_map_of_mem hd)
    simpa using this
theorem defOf_some {l : List Df} {s : Str} {d : Df} (h : defOf l s = some d) : d ∈ l ∧ d.name = s := by
  unfold defOf at h
  exact ⟨List.mem_of_find?_eq_some h, by simpa using List.find?_some h⟩
theorem defs_eq {a b : List Df} (ha : Rising nameLt a) (hb : Rising nameLt b) (h : ∀ s, defOf a s = defOf b s) : a = b := by
  have hna := rising_names ha
  have hnb := rising_names hb
  have key : ∀ {x y : List Df}, (x.map Df.name).Nodup → (∀ s, defOf x s = defOf y s) → ∀ d, d ∈ x → d ∈ y := fun hx hs d hd => by
    have := defOf_mem hx hd
    rw [hs] at this
    exact (defOf_some this).1
  exact rep_eq (Rep.self ha) ⟨hna, hb, fun d => ⟨key hna h d, key hnb (fun s => (h s).symm) d⟩⟩
theorem defOf_put {L : List Df} (h : Rising nameLt L) (d : Df) (s : Str) : defOf (putD L d) s = if s = d.name then some d else defOf L s := by
  have hn := rising_names (putD_rising h d)
  split
  · rename_i e; subst e
    exact defOf_mem hn ((mem_putD h).2 (.inl rfl))
  · rename_i e
    by_cases q : s ∈ L.map Df.name
    · obtain ⟨x, hx, rfl⟩ := List.mem_map.1 q
      rw [defOf_mem (rising_names h) hx, defOf_mem hn ((mem_putD h).2 (.inr ⟨hx, e⟩))]
    · rw [defOf_none.2 q, defOf_none.2 fun x => ?_]
      obtain ⟨y, hy, rfl⟩ := List.mem_map.1 x
      rcases (mem_putD h).1 hy with rfl | ⟨hy, _⟩
      · exact e rfl
      · exact q (List.mem_map_of_mem hy)
theorem defOf_drop {L : List Df} (h : Rising nameLt L) (d s : Str) : defOf (dropD L d) s = if s = d then none else defOf L s := by
  have hn := rising_names (dropD_rising h d)
  split
  · rename_i e; subst e
    refine defOf_none.2 fun x => ?_
    obtain ⟨y, hy, e⟩ := List.mem_map.1 x
    exact (mem_dropD.1 hy).2 e
  · rename_i e
    by_cases q : s ∈ L.map Df.name
    · obtain ⟨x, hx, rfl⟩ := List.mem_map.1 q
      rw [defOf_mem (rising_names h) hx, defOf_mem hn (mem_dropD.2 ⟨hx, e⟩)]
    · rw [defOf_none.2 q, defOf_none.2 fun x => ?_]
      obtain ⟨y, hy, rfl⟩ := List.mem_map.1 x
      exact q (List.mem_map_of_mem (mem_dropD.1 hy).1)
theorem defOf_puts : ∀ (ps : List Df) {L : List Df}, Rising nameLt L → (ps.map Df.name).Nodup → ∀ s, defOf (ps.foldl putD L) s = if s ∈ ps.map Df.name then defOf ps s else defOf L s
  | [], L, _, _, s => by simp
  | d :: ps, L, h, hn, s => by
    have hn' := List.nodup_cons.1 hn
    rw [List.foldl_cons, defOf_puts ps (putD_rising h d) hn'.2 s, defOf_put h]
    by_cases q : s ∈ ps.map Df.name
    · have hne : s ≠ d.name := fun e => hn'.1 (e ▸ q)
      rw [if_pos q, if_pos (by simp only [List.map_cons, List.mem_cons]; exact .inr q)]
      obtain ⟨x, hx, rfl⟩ := List.mem_map.1 q
      rw [defOf_mem hn'.2 hx, defOf_mem hn (by simp [hx])]
    · rw [if_neg q]
      by_cases e : s = d.name
      · subst e
        rw [if_pos rfl, if_pos (by simp), defOf_mem hn (by simp)]
      · rw [if_neg e, if_neg (by simp only [List.map_cons, List.mem_cons, not_or]; exact ⟨e, q⟩)]
theorem defOf_drops : ∀ (ds : List Str) {L : List Df}, Rising nameLt L → ∀ s, defOf (ds.foldl dropD L) s = if s ∈ ds then none else defOf L s
  | [], L, _, s => by simp
  | d :: ds, L, h, s => by
    rw [List.foldl_cons, defOf_drops ds (dropD_rising h d) s, defOf_drop h]
    by_cases q : s ∈ ds
    · rw [if_pos q, if_pos (by simp [q])]
    · rw [if_neg q]
      by_cases e : s = d
      · subst e; simp
      · rw [if_neg e, if_neg (by simp [e, q])]
theorem defOf_done {L : List Df} (h : Rising nameLt L) {e : Ed} (hn : (touches e).Nodup) (s : Str) : defOf (doneD L e) s = if s ∈ touches e then defOf e.puts s else defOf L s := by
  unfold touches at hn
  have hn := List.nodup_append.1 hn
  unfold doneD
  rw [defOf_drops _ (puts_rising _ h), defOf_puts _ h hn.1]
  unfold touches
  by_cases q : s ∈ e.drops
  · rw [if_pos q, if_pos (List.mem_append.2 (.inr q)), defOf_none.2 fun x => hn.2.2 s x s q rfl]
  · rw [if_neg q]
    by_cases p : s ∈ e.puts.map Df.name
    · rw [if_pos p, if_pos (List.mem_append.2 (.inl p))]
    · rw [if_neg p, if_neg (fun x => (List.mem_append.1 x).elim p q)]
theorem defOf_made {l : List Ed} {L : List Df} (h : Rising nameLt L) {x : List Nm} (hn : ∀ n ∈ x, (touches (edAt l n)).Nodup) (s : Str) : ∀ k, k ≤ x.length →
    ((∀ n ∈ x.take k, s ∉ touches (edAt l n)) ∧ defOf (madeOf l (x.take k) L) s = defOf L s) ∨
    ∃ i, ∃ hi : i < x.length, i < k ∧ s ∈ touches (edAt l x[i]) ∧ (∀ (j : Nat) (hj : j < x.length), i < j → j < k → s ∉ touches (edAt l x[j])) ∧ defOf (madeOf l (x.take k) L) s = defOf (edAt l x[i]).puts s
  | 0, _ => .inl (by simp [madeOf])
  | k + 1, hk => by
    have hkl : k < x.length := by omega
    have e : x.take (k + 1) = x.take k ++ [x[k]] := by simp
    rw [e, madeOf_snoc, defOf_done (madeOf_rising _ h) (hn _ (List.getElem_mem hkl))]
    by_cases q : s ∈ touches (edAt l x[k])
    · exact .inr ⟨k, hkl, by omega, q, fun j _ h1 h2 => by omega, by rw [if_pos q]⟩
    · rw [if_neg q]
      rcases defOf_made h hn s k (by omega) with ⟨h1, h2⟩ | ⟨i, hi, h1, h2, h3, h4⟩
      · refine .inl ⟨fun n hm => ?_, h2⟩
        rcases List.mem_append.1 hm with hm | hm
        · exact h1 n hm
        · simp at hm; subst hm; exact q
      · refine .inr ⟨i, hi, by omega, h2, fun j hj h5 h6 => ?_, h4⟩
        by_cases e : j = k
        · subst e; exact q
        · exact h3 j hj h5 (by omega)
end Go.Eng
namespace Go.Eng
theorem baseD_rising : ∀ (D L L' : List Df), Rising nameLt L → baseD L D = some L' → Rising nameLt L'
  | [], L, L', h, e => by injection e with e; subst e; exact h
  | d :: D, L, L', h, e => by
    simp only [baseD] at e
    split at e
    · cases e
    · exact baseD_rising D _ _ (putD_rising h d) e
structure IsProg (D : List Df) (l : List Ed) (set : List Nm) (L p : List Df) : Prop where
  base : baseD [] D = some L
  valid : (validV l).2 = 0
  closed : closedB l set = true
  clash : clashAny l set (orderN l set) = false
  eq : p = madeOf l (orderN l set) L
theorem prog_inv {D : List Df} {l : List Ed} {set : List Nm} {p : List Df} (h : programV D l set = (p, 0)) : ∃ L, IsProg D l set L p := by
  unfold programV at h
  split at h
  · rename_i hv; exact absurd (congrArg Prod.snd h) hv
  · rename_i hv
    have hv : (validV l).2 = 0 := by simpa using hv
    split at h
    · cases h
    · rename_i L hL
      split at h
      · cases h
      · rename_i hc
        split at h
        · cases h
        · rename_i hcl
          exact ⟨L, hL, hv, by simpa using hc, by simpa using hcl, (congrArg Prod.fst h).symm⟩
theorem IsProg.rising {D : List Df} {l : List Ed} {set : List Nm} {L p : List Df} (h : IsProg D l set L p) : Rising nameLt L := baseD_rising D [] L (by simp [Rising]) h.base
theorem clash_mono {l : List Ed} {x y : List Nm} (hs : ∀ n ∈ x, n ∈ y) {n m : Nm} (h : clashB l x n m = false) : clashB l y n m = false := by
  cases q : clashB l y n m with
  | false => rfl
  | true =>
    obtain ⟨s, h1, h2⟩ := clashB_iff.1 q
    have : clashB l x n m = true := clashB_iff.2 ⟨s, h1, fun c hc => h2 c (hs c hc)⟩
    rw [h] at this; cases this
theorem order_nodup {l : List Ed} (h : (validV l).2 = 0) {set : List Nm} (hc : closedB l set = true) : (orderN l set).Nodup := (orderN_perm h hc).nodup_iff.2 (sortN_nodup set)
end Go.Eng
namespace Go.Eng
structure MayAdd (l : List Ed) (x : Ed) : Prop where
  valid : (validV l).2 = 0
  len : l.length ≤ 63
  proper : properE x = true
  fresh : x.name ∉ l.map Ed.name
  needs : ∀ n ∈ x.needs, n ∈ l.map Ed.name
theorem names_app {l : List Ed} {x : Ed} {n : Nm} : n ∈ (l ++ [x]).map Ed.name ↔ n ∈ l.map Ed.name ∨ n = x.name := by simp
theorem MayAdd.nodup {l : List Ed} {x : Ed} (h : MayAdd l x) : ((l ++ [x]).map Ed.name).Nodup := by
  rw [List.map_append, List.nodup_append]
  refine ⟨valid_nodup h.valid, by simp, fun a ha b hb e => ?_⟩
  simp at hb; subst hb; subst e; exact h.fresh ha
theorem MayAdd.old {l : List Ed} {x : Ed} (h : MayAdd l x) {n : Nm} (hn : n ∈ l.map Ed.name) : needsOf (l ++ [x]) n = needsOf l n ∧ edAt (l ++ [x]) n = edAt l n := by
  obtain ⟨e, he, rfl⟩ := List.mem_map.1 hn
  have hnd := valid_nodup h.valid
  have he' : e ∈ l ++ [x] := by simp [he]
  exact ⟨by rw [needsOf_of h.nodup he', needsOf_of hnd he], by rw [edAt_mem h.nodup he', edAt_mem hnd he]⟩
theorem MayAdd.new {l : List Ed} {x : Ed} (h : MayAdd l x) : needsOf (l ++ [x]) x.name = x.needs ∧ edAt (l ++ [x]) x.name = x :=
  ⟨needsOf_of h.nodup (by simp), edAt_mem h.nodup (by simp)⟩
theorem need_names {l : List Ed} (h : (validV l).2 = 0) {n m : Nm} (hm : m ∈ needsOf l n) : m ∈ l.map Ed.name := found_iff.1 (need_found h hm)
theorem MayAdd.reach {l : List Ed} {x : Ed} (h : MayAdd l x) {n m : Nm} (hn : n ∈ l.map Ed.name) : Reach (l ++ [x]) n m ↔ Reach l n m := by
  constructor
  · intro r
    induction r with
    | one h1 => exact .one (by rw [(h.old hn).1] at h1; exact h1)
    | next h1 _ ih =>
      rw [(h.old hn).1] at h1
      exact .next h1 (ih (need_names h.valid h1))
  · intro r
    induction r with
    | one h1 => exact .one (by rw [(h.old hn).1]; exact h1)
    | next h1 _ ih => exact .next (by rw [(h.old hn).1]; exact h1) (ih (need_names h.valid h1))
theorem dep_le (l : List Ed) (n : Nm) : dep l n ≤ (allNeeds l).length := List.length_filter_le _ _
theorem MayAdd.ok {l : List Ed} {x : Ed} (h : MayAdd l x) : (validV (l ++ [x])).2 = 0 := by
  have hnd := valid_nodup h.valid
  have hac := valid_acyc h.valid
  rw [validV_of (l := l ++ [x]) (fun n => if n = x.name then (allNeeds l).length + 1 else dep l n) (by simp; have := h.len; omega) (fun e he => ?_) h.nodup (fun e he n hn => ?_)]
  · rcases List.mem_append.1 he with he | he
    · obtain ⟨i, hi, rfl⟩ := List.getElem_of_mem he
      exact (errE_zero ((valid_err h.valid).2 i hi)).1
    · simp at he; subst he; exact h.proper
  · rcases List.mem_append.1 he with he | he
    · have hno : n ∈ needsOf l e.name := by rw [needsOf_of hnd he]; exact hn
      have hn1 := need_names h.valid hno
      have hnx : n ≠ x.name := fun e' => h.fresh (e' ▸ hn1)
      have hex : e.name ≠ x.name := fun e' => h.fresh (e' ▸ List.mem_map_of_mem he)
      refine ⟨names_app.2 (.inl hn1), ?_⟩
      rw [if_neg hnx, if_neg hex]
      exact dep_lt hno (hac n)
    · simp at he; subst he
      have hn1 := h.needs n hn
      have hnx : n ≠ e.name := fun e' => h.fresh (e' ▸ hn1)
      refine ⟨names_app.2 (.inl hn1), ?_⟩
      rw [if_neg hnx, if_pos rfl]
      have := dep_le l n
      omega
theorem MayAdd.closed {l : List Ed} {x : Ed} (h : MayAdd l x) {z : List Nm} (hz : closedB l z = true) : closedB (l ++ [x]) z = true := by
  rw [closedB_iff] at hz ⊢
  intro n hn
  have hnl := found_iff.1 (hz n hn).1
  exact ⟨found_iff.2 (names_app.2 (.inl hnl)), fun m hm => (hz n hn).2 m (by rw [(h.old hnl).1] at hm; exact hm)⟩
theorem MayAdd.clash {l : List Ed} {x : Ed} (h : MayAdd l x) {z : List Nm} (hz : ∀ c ∈ z, c ∈ l.map Ed.name) {n m : Nm} (hn : n ∈ l.map Ed.name) (hm : m ∈ l.map Ed.name) (hc : clashB l z n m = false) {z' : List Nm} (hs : ∀ c ∈ z, c ∈ z') : clashB (l ++ [x]) z' n m = false := by
  refine clash_mono hs ?_
  cases q : clashB (l ++ [x]) z n m with
  | false => rfl
  | true =>
    obtain ⟨s, h1, h2⟩ := clashB_iff.1 q
    rw [mem_sharedL, (h.old hn).2, (h.old hm).2] at h1
    have : clashB l z n m = true := by
      refine clashB_iff.2 ⟨s, mem_sharedL.2 ⟨?_, h1.2⟩, fun c hcz => ?_⟩
      · have f1 := found_iff.2 hn
        have f2 := found_iff.2 hm
        rintro (q | q | q | q | q)
        · omega
        · omega
        · exact h1.1 (.inr (.inr (.inl q)))
        · exact h1.1 (.inr (.inr (.inr (.inl (mem_aboveL.2 ((h.reach hm).2 (mem_aboveL.1 q)))))))
        · exact h1.1 (.inr (.inr (.inr (.inr (mem_aboveL.2 ((h.reach hn).2 (mem_aboveL.1 q)))))))
      · have := h2 c hcz
        unfold resolvedB at this ⊢
        have hcl := hz c hcz
        rw [(h.old hcl).2] at this
        have e1 : decide (n ∈ aboveL (l ++ [x]) c) = decide (n ∈ aboveL l c) := by rw [decide_eq_decide, mem_aboveL, mem_aboveL]; exact h.reach hcl
        have e2 : decide (m ∈ aboveL (l ++ [x]) c) = decide (m ∈ aboveL l c) := by rw [decide_eq_decide, mem_aboveL, mem_aboveL]; exact h.reach hcl
        rw [e1, e2] at this
        exact this
    rw [hc] at this; cases this
end Go.Eng
namespace Go.Eng
def swapN (set S others : List Nm) : List Nm := sortN (set.filter (fun n => decide (n ∉ S)) ++ if set.any (fun n => decide (n ∈ S)) = true then others else [])
theorem mem_swapN {set S o : List Nm} {n : Nm} : n ∈ swapN set S o ↔ (n ∈ set ∧ n ∉ S) ∨ (n ∈ o ∧ ∃ k ∈ set, k ∈ S) := by
  unfold swapN
  rw [(sortN_spec _).2, List.mem_append, List.mem_filter, decide_eq_true_eq]
  by_cases h : set.any (fun n => decide (n ∈ S)) = true
  · rw [if_pos h]
    obtain ⟨k, hk, hs⟩ := List.any_eq_true.1 h
    exact or_congr_right ⟨fun q => ⟨q, k, hk, by simpa using hs⟩, fun q => q.1⟩
  · rw [if_neg h]
    have hn : ¬ ∃ k ∈ set, k ∈ S := fun ⟨k, hk, hs⟩ => h (List.any_eq_true.2 ⟨k, hk, by simpa using hs⟩)
    simp [hn]
def replL (l : List Ed) (S : List Nm) (o : List Ed) : List Ed := (l.filter fun e => decide (e.name ∉ S)).map (fun e => { e with needs := swapN e.needs S (o.map Ed.name) }) ++ o
structure MayFold (l : List Ed) (S : List Nm) (x : Ed) : Prop where
  valid : (validV l).2 = 0
  sub : ∀ n ∈ S, n ∈ l.map Ed.name
  convex : ∀ n ∈ S, ∀ m ∈ S, ∀ k, Reach l n k → Reach l k m → k ∈ S
  fresh : x.name ∉ l.map Ed.name
  proper : properE x = true
  needs : ∀ m, m ∈ x.needs ↔ m ∉ S ∧ ∃ n ∈ S, m ∈ needsOf l n
section
variable {l : List Ed} {S : List Nm} {x : Ed}
theorem MayFold.names (h : MayFold l S x) {n : Nm} : n ∈ (replL l S [x]).map Ed.name ↔ (n ∈ l.map Ed.name ∧ n ∉ S) ∨ n = x.name := by
  unfold replL
  simp only [List.map_append, List.mem_append, List.map_map, List.mem_map, List.mem_filter, decide_eq_true_eq, Function.comp, List.map_cons, List.map_nil, List.mem_cons, List.not_mem_nil, or_false]
  constructor
  · rintro (⟨e, ⟨he, hs⟩, rfl⟩ | hx)
    · exact .inl ⟨⟨e, he, rfl⟩, hs⟩
    · exact .inr (by simpa using hx)
  · rintro (⟨⟨e, he, rfl⟩, hs⟩ | rfl)
    · exact .inl ⟨e, ⟨he, hs⟩, rfl⟩
    · exact .inr (by simp)
theorem MayFold.nodup (h : MayFold l S x) : ((replL l S [x]).map Ed.name).Nodup := by
  have e : (replL l S [x]).map Ed.name = ((l.filter fun e => decide (e.name ∉ S)).map Ed.name) ++ [x.name] := by
    unfold replL
    simp [List.map_map, Function.comp]
  rw [e, List.nodup_append]
  refine ⟨(valid_nodup h.valid).sublist (List.filter_sublist.map _), by simp, fun a ha b hb e => ?_⟩
  simp only [List.mem_singleton] at hb
  subst hb; subst e
  obtain ⟨y, hy, hye⟩ := List.mem_map.1 ha
  exact h.fresh (hye ▸ List.mem_map_of_mem (List.mem_filter.1 hy).1)
theorem MayFold.old (h : MayFold l S x) {n : Nm} (hn : n ∈ l.map Ed.name) (hs : n ∉ S) : needsOf (replL l S [x]) n = swapN (needsOf l n) S [x.name] ∧ edAt (replL l S [x]) n = { edAt l n with needs := swapN (needsOf l n) S [x.name] } := by
  obtain ⟨e, he, rfl⟩ := List.mem_map.1 hn
  have hnd := valid_nodup h.valid
  have he' : { e with needs := swapN e.needs S [x.name] } ∈ replL l S [x] := by
    unfold replL
    exact List.mem_append.2 (.inl (List.mem_map.2 ⟨e, List.mem_filter.2 ⟨he, by simpa using hs⟩, rfl⟩))
  have h1 := needsOf_of h.nodup he'
  have h2 := edAt_mem h.nodup he'
  dsimp only at h1 h2
  rw [h1, h2, needsOf_of hnd he, edAt_mem hnd he]
  exact ⟨rfl, rfl⟩
theorem MayFold.new (h : MayFold l S x) : needsOf (replL l S [x]) x.name = x.needs ∧ edAt (replL l S [x]) x.name = x :=
  ⟨needsOf_of h.nodup (by unfold replL; simp), edAt_mem h.nodup (by unfold replL; simp)⟩
theorem MayFold.need (h : MayFold l S x) {n m : Nm} (hn : n ∈ l.map Ed.name) (hs : n ∉ S) : m ∈ needsOf (replL l S [x]) n ↔ (m ∈ needsOf l n ∧ m ∉ S) ∨ (m = x.name ∧ ∃ k ∈ needsOf l n, k ∈ S) := by
  rw [(h.old hn hs).1, mem_swapN, List.mem_singleton]
theorem MayFold.to (h : MayFold l S x) {n m : Nm} (r : Reach l n m) : m ∉ S → n ∈ l.map Ed.name → (n ∉ S → Reach (replL l S [x]) n m) ∧ (n ∈ S → Reach (replL l S [x]) x.name m) := by
  induction r with
  | one h1 =>
    rename_i n m
    intro hm hn
    refine ⟨fun hs => .one ((h.need hn hs).2 (.inl ⟨h1, hm⟩)), fun hs => .one ?_⟩
    rw [h.new.1, h.needs]
    exact ⟨hm, n, hs, h1⟩
  | next h1 r ih =>
    rename_i n k m
    intro hm hn
    have hk := need_names h.valid h1
    obtain ⟨i1, i2⟩ := ih hm hk
    by_cases ks : k ∈ S
    · exact ⟨fun hs => .next ((h.need hn hs).2 (.inr ⟨rfl, k, h1, ks⟩)) (i2 ks), fun _ => i2 ks⟩
    · refine ⟨fun hs => .next ((h.need hn hs).2 (.inl ⟨h1, ks⟩)) (i1 ks), fun hs => .next ?_ (i1 ks)⟩
      rw [h.new.1, h.needs]
      exact ⟨ks, n, hs, h1⟩
def Leads (l : List Ed) (S : List Nm) (x : Ed) (n m : Nm) : Prop :=
  if n = x.name then (if m = x.name then False else ∃ k ∈ S, Reach l k m)
  else if m = x.name then ∃ k ∈ S, Reach l n k else Reach l n m ∨ ((∃ k ∈ S, Reach l n k) ∧ ∃ k ∈ S, Reach l k m)
theorem reach_from {l : List Ed} {n m : Nm} (r : Reach l n m) : n ∈ l.map Ed.name := by
  have key : ∀ {n m : Nm}, m ∈ needsOf l n → n ∈ l.map Ed.name := fun h => by
    obtain ⟨e, he, e1, _⟩ := needsOf_mem h
    exact e1 ▸ List.mem_map_of_mem he
  cases r with
  | one h => exact key h
  | next h _ => exact key h
theorem MayFold.back (h : MayFold l S x) {n m : Nm} (r : Reach (replL l S [x]) n m) : Leads l S x n m := by
  have ends : ∀ {n m : Nm}, m ∈ needsOf (replL l S [x]) n → n ∈ (replL l S [x]).map Ed.name := fun hm => reach_from (.one hm)
  induction r with
  | one h1 =>
    rename_i n m
    unfold Leads
    by_cases hn : n = x.name
    · rw [if_pos hn]
      subst hn
      rw [h.new.1, h.needs] at h1
      obtain ⟨h2, k, hk, h3⟩ := h1
      have hm : m ≠ x.name := fun e => h.fresh (e ▸ need_names h.valid h3)
      rw [if_neg hm]
      exact ⟨k, hk, .one h3⟩
    · rw [if_neg hn]
      obtain ⟨hnl, hns⟩ := (h.names.1 (ends h1)).resolve_right hn
      rcases (h.need hnl hns).1 h1 with ⟨h2, h3⟩ | ⟨rfl, k, h2, hk⟩
      · have hm : m ≠ x.name := fun e => h.fresh (e ▸ need_names h.valid h2)
        rw [if_neg hm]
        exact .inl (.one h2)
      · rw [if_pos rfl]
        exact ⟨k, hk, .one h2⟩
  | next h1 r ih =>
    rename_i n j m
    unfold Leads at ih ⊢
    by_cases hn : n = x.name
    · rw [if_pos hn]
      subst hn
      rw [h.new.1, h.needs] at h1
      obtain ⟨hjs, k, hk, h3⟩ := h1
      have hj : j ≠ x.name := fun e => h.fresh (e ▸ need_names h.valid h3)
      rw [if_neg hj] at ih
      by_cases hm : m = x.name
      · rw [if_pos hm] at ih
        obtain ⟨k', hk', r'⟩ := ih
        exact absurd (h.convex k hk k' hk' j (.one h3) r') hjs
      · rw [if_neg hm] at ih ⊢
        rcases ih with r' | ⟨⟨k', hk', r'⟩, _⟩
        · exact ⟨k, hk, .next h3 r'⟩
        · exact absurd (h.convex k hk k' hk' j (.one h3) r') hjs
    · rw [if_neg hn]
      obtain ⟨hnl, hns⟩ := (h.names.1 (ends h1)).resolve_right hn
      rcases (h.need hnl hns).1 h1 with ⟨h2, h3⟩ | ⟨rfl, k, h2, hk⟩
      · have hj : j ≠ x.name := fun e => h.fresh (e ▸ need_names h.valid h2)
        rw [if_neg hj] at ih
        by_cases hm : m = x.name
        · rw [if_pos hm] at ih ⊢
          obtain ⟨k, hk, r'⟩ := ih
          exact ⟨k, hk, .next h2 r'⟩
        · rw [if_neg hm] at ih ⊢
          rcases ih with r' | ⟨⟨k, hk, r'⟩, q⟩
          · exact .inl (.next h2 r')
          · exact .inr ⟨⟨k, hk, .next h2 r'⟩, q⟩
      · rw [if_pos rfl] at ih
        by_cases hm : m = x.name
        · rw [if_pos hm] at ih; exact ih.elim
        · rw [if_neg hm] at ih ⊢
          exact .inr ⟨⟨k, hk, .one h2⟩, ih⟩
theorem MayFold.acyc (h : MayFold l S x) : Acyc (replL l S [x]) := by
  intro n r
  have q := h.back r
  unfold Leads at q
  by_cases hn : n = x.name
  · rw [if_pos hn, if_pos hn] at q; exact q
  · rw [if_neg hn, if_neg hn] at q
    obtain ⟨hnl, hns⟩ := (h.names.1 (reach_from r)).resolve_right hn
    rcases q with r' | ⟨⟨k, hk, r1⟩, ⟨k', hk', r2⟩⟩
    · exact valid_acyc h.valid _ r'
    · exact hns (h.convex k' hk' k hk n r2 r1)
theorem MayFold.ok (h : MayFold l S x) (hl : (replL l S [x]).length ≤ 64) (hS : S ≠ []) : (validV (replL l S [x])).2 = 0 := by
  have hac := h.acyc
  rw [validV_of (fun n => dep (replL l S [x]) n) hl (fun e he => ?_) h.nodup (fun e he n hn => ?_)]
  · unfold replL at he
    rcases List.mem_append.1 he with he | he
    · obtain ⟨y, hy, rfl⟩ := List.mem_map.1 he
      obtain ⟨hy, hys⟩ := List.mem_filter.1 hy
      obtain ⟨i, hi, rfl⟩ := List.getElem_of_mem hy
      have hp := (errE_zero ((valid_err h.valid).2 i hi)).1
      have hin : incr Nm.less (swapN l[i].needs S [x.name]) = true := incr_of_pw (sortN_spec _).1
      have hall : (swapN l[i].needs S [x.name]).all Nm.isName = true := by
        rw [List.all_eq_true]
        intro n hn
        rcases mem_swapN.1 hn with ⟨h1, _⟩ | ⟨h1, _⟩
        · unfold properE at hp
          simp only [Bool.and_eq_true] at hp
          exact List.all_eq_true.1 hp.1.1.2 n h1
        · rw [List.mem_singleton] at h1
          subst h1
          have := h.proper
          unfold properE at this
          simp only [Bool.and_eq_true] at this
          exact this.1.1.1.1.1.1.1
      unfold properE at hp ⊢
      simp only [Bool.and_eq_true] at hp ⊢
      obtain ⟨⟨⟨⟨⟨⟨⟨p1, p2⟩, p3⟩, p4⟩, p5⟩, p6⟩, p7⟩, p8⟩ := hp
      exact ⟨⟨⟨⟨⟨⟨⟨p1, p2⟩, hin⟩, p4⟩, p5⟩, hall⟩, p7⟩, p8⟩
    · simp only [List.mem_cons, List.not_mem_nil, or_false] at he
      subst he; exact h.proper
  · have hno : n ∈ needsOf (replL l S [x]) e.name := by rw [needsOf_of h.nodup he]; exact hn
    refine ⟨?_, dep_lt hno (hac n)⟩
    rw [h.names]
    by_cases he2 : e.name = x.name
    · rw [he2, h.new.1, h.needs] at hno
      obtain ⟨h1, k, _, h2⟩ := hno
      exact .inl ⟨need_names h.valid h2, h1⟩
    · obtain ⟨hnl, hns⟩ := (h.names.1 (List.mem_map_of_mem he)).resolve_right he2
      rcases (h.need hnl hns).1 hno with ⟨h1, h2⟩ | ⟨h1, _⟩
      · exact .inl ⟨need_names h.valid h1, h2⟩
      · exact .inr h1
end
end Go.Eng
namespace Go.Eng
structure Parts (l : List Ed) (e : Nm) (a b : Ed) : Prop where
  valid : (validV l).2 = 0
  mem : e ∈ l.map Ed.name
  fa : a.name ∉ l.map Ed.name
  fb : b.name ∉ l.map Ed.name
  ne : a.name ≠ b.name
  pa : properE a = true
  pb : properE b = true
  na : a.needs = needsOf l e
  nb : b.needs = needsOf l e
  touch : ∀ s, s ∈ touches (edAt l e) ↔ s ∈ touches a ∨ s ∈ touches b
  apart : ∀ s, s ∈ touches a → s ∉ touches b
  da : ∀ s, s ∈ touches a → defOf a.puts s = defOf (edAt l e).puts s
  db : ∀ s, s ∈ touches b → defOf b.puts s = defOf (edAt l e).puts s
def backN (e : Nm) (a b : Ed) (n : Nm) : Nm := if n = a.name ∨ n = b.name then e else n
section
variable {l : List Ed} {e : Nm} {a b : Ed}
theorem Parts.names (_h : Parts l e a b) {n : Nm} : n ∈ (replL l [e] [a, b]).map Ed.name ↔ (n ∈ l.map Ed.name ∧ n ≠ e) ∨ n = a.name ∨ n = b.name := by
  unfold replL
  simp only [List.map_append, List.mem_append, List.map_map, List.mem_map, List.mem_filter, decide_eq_true_eq, Function.comp, List.map_cons, List.map_nil, List.mem_cons, List.not_mem_nil, or_false]
  constructor
  · rintro (⟨y, ⟨hy, hs⟩, rfl⟩ | hx | hx)
    · exact .inl ⟨⟨y, hy, rfl⟩, hs⟩
    · exact .inr (.inl hx)
    · exact .inr (.inr hx)
  · rintro (⟨⟨y, hy, rfl⟩, hs⟩ | hx | hx)
    · exact .inl ⟨y, ⟨hy, hs⟩, rfl⟩
    · exact .inr (.inl hx)
    · exact .inr (.inr hx)
theorem Parts.nodup (h : Parts l e a b) : ((replL l [e] [a, b]).map Ed.name).Nodup := by
  have q : (replL l [e] [a, b]).map Ed.name = ((l.filter fun y => decide (y.name ∉ [e])).map Ed.name) ++ [a.name, b.name] := by
    unfold replL
    simp [List.map_map, Function.comp]
  rw [q, List.nodup_append]
  refine ⟨(valid_nodup h.valid).sublist (List.filter_sublist.map _), by simp [h.ne], fun x hx y hy f => ?_⟩
  subst f
  obtain ⟨z, hz, hze⟩ := List.mem_map.1 hx
  have hm := hze ▸ List.mem_map_of_mem (f := Ed.name) (List.mem_filter.1 hz).1
  simp only [List.mem_cons, List.not_mem_nil, or_false] at hy
  rcases hy with rfl | rfl
  · exact h.fa hm
  · exact h.fb hm
theorem Parts.old (h : Parts l e a b) {n : Nm} (hn : n ∈ l.map Ed.name) (hs : n ≠ e) : needsOf (replL l [e] [a, b]) n = swapN (needsOf l n) [e] [a.name, b.name] ∧ touches (edAt (replL l [e] [a, b]) n) = touches (edAt l n) ∧ (edAt (replL l [e] [a, b]) n).puts = (edAt l n).puts := by
  obtain ⟨y, hy, rfl⟩ := List.mem_map.1 hn
  have hnd := valid_nodup h.valid
  have hy' : { y with needs := swapN y.needs [e] [a.name, b.name] } ∈ replL l [e] [a, b] := by
    unfold replL
    exact List.mem_append.2 (.inl (List.mem_map.2 ⟨y, List.mem_filter.2 ⟨hy, by simpa using hs⟩, rfl⟩))
  have h1 := needsOf_of h.nodup hy'
  have h2 := edAt_mem h.nodup hy'
  dsimp only at h1 h2
  rw [h1, h2, needsOf_of hnd hy, edAt_mem hnd hy]
  exact ⟨rfl, rfl, rfl⟩
theorem Parts.newA (h : Parts l e a b) : needsOf (replL l [e] [a, b]) a.name = needsOf l e ∧ edAt (replL l [e] [a, b]) a.name = a :=
  ⟨(needsOf_of h.nodup (by unfold replL; simp)).trans h.na, edAt_mem h.nodup (by unfold replL; simp)⟩
theorem Parts.newB (h : Parts l e a b) : needsOf (replL l [e] [a, b]) b.name = needsOf l e ∧ edAt (replL l [e] [a, b]) b.name = b :=
  ⟨(needsOf_of h.nodup (by unfold replL; simp)).trans h.nb, edAt_mem h.nodup (by unfold replL; simp)⟩
theorem Parts.bk (h : Parts l e a b) {n : Nm} (hn : n ∈ l.map Ed.name) : backN e a b n = n := by
  unfold backN
  rw [if_neg]
  rintro (q | q)
  · exact h.fa (q ▸ hn)
  · exact h.fb (q ▸ hn)
theorem backN_a : backN e a b a.name = e := by unfold backN; rw [if_pos (.inl rfl)]
theorem backN_b : backN e a b b.name = e := by unfold backN; rw [if_pos (.inr rfl)]
theorem Parts.need (h : Parts l e a b) {n m : Nm} (hn : n ∈ (replL l [e] [a, b]).map Ed.name) : m ∈ needsOf (replL l [e] [a, b]) n ↔ m ∈ (replL l [e] [a, b]).map Ed.name ∧ backN e a b m ∈ needsOf l (backN e a b n) := by
  have hac := valid_acyc h.valid
  have new : (m ∈ needsOf l e ↔ m ∈ (replL l [e] [a, b]).map Ed.name ∧ backN e a b m ∈ needsOf l e) := by
    constructor
    · intro q
      have hm := need_names h.valid q
      refine ⟨h.names.2 (.inl ⟨hm, fun f => hac e (.one (f ▸ q))⟩), ?_⟩
      rw [h.bk hm]; exact q
    · rintro ⟨q, r⟩
      rcases h.names.1 q with ⟨hm, _⟩ | rfl | rfl
      · rwa [h.bk hm] at r
      · rw [backN_a] at r; exact absurd (Reach.one r) (hac e)
      · rw [backN_b] at r; exact absurd (Reach.one r) (hac e)
  rcases h.names.1 hn with ⟨hnl, hne⟩ | rfl | rfl
  · rw [(h.old hnl hne).1, mem_swapN, h.bk hnl, h.names]
    simp only [List.mem_cons, List.not_mem_nil, or_false]
    constructor
    · rintro (⟨q1, q2⟩ | ⟨q1, k, q2, rfl⟩)
      · have hm := need_names h.valid q1
        rw [h.bk hm]
        exact ⟨.inl ⟨hm, q2⟩, q1⟩
      · refine ⟨.inr q1, ?_⟩
        rcases q1 with rfl | rfl
        · rw [backN_a]; exact q2
        · rw [backN_b]; exact q2
    · rintro ⟨⟨hm, q1⟩ | rfl | rfl, q2⟩
      · rw [h.bk hm] at q2; exact .inl ⟨q2, q1⟩
      · rw [backN_a] at q2; exact .inr ⟨.inl rfl, e, q2, rfl⟩
      · rw [backN_b] at q2; exact .inr ⟨.inr rfl, e, q2, rfl⟩
  · rw [h.newA.1, backN_a]; exact new
  · rw [h.newB.1, backN_b]; exact new
theorem Parts.lift (h : Parts l e a b) {k : Nm} (hk : k ∈ l.map Ed.name) : ∃ k', k' ∈ (replL l [e] [a, b]).map Ed.name ∧ backN e a b k' = k := by
  by_cases q : k = e
  · exact ⟨a.name, h.names.2 (.inr (.inl rfl)), by rw [backN_a, q]⟩
  · exact ⟨k, h.names.2 (.inl ⟨hk, q⟩), h.bk hk⟩
theorem Parts.to (h : Parts l e a b) {x y : Nm} (r : Reach l x y) : ∀ {n m : Nm}, n ∈ (replL l [e] [a, b]).map Ed.name → m ∈ (replL l [e] [a, b]).map Ed.name → backN e a b n = x → backN e a b m = y → Reach (replL l [e] [a, b]) n m := by
  induction r with
  | one h1 =>
    intro n m hn hm e1 e2
    subst e1; subst e2
    exact .one ((h.need hn).2 ⟨hm, h1⟩)
  | next h1 r ih =>
    intro n m hn hm e1 e2
    subst e1
    obtain ⟨k', hk', e3⟩ := h.lift (need_names h.valid h1)
    exact .next ((h.need hn).2 ⟨hk', by rw [e3]; exact h1⟩) (ih hk' hm e3 e2)
theorem Parts.fro (h : Parts l e a b) {n m : Nm} (r : Reach (replL l [e] [a, b]) n m) : Reach l (backN e a b n) (backN e a b m) := by
  induction r with
  | one h1 => exact .one ((h.need (reach_from (.one h1))).1 h1).2
  | next h1 _ ih => exact .next ((h.need (reach_from (.one h1))).1 h1).2 ih
theorem Parts.acyc (h : Parts l e a b) : Acyc (replL l [e] [a, b]) := fun _ r => valid_acyc h.valid _ (h.fro r)
theorem Parts.part (h : Parts l e a b) {c : Nm} (hc : c ∈ l.map Ed.name) {s : Str} (hs : s ∈ touches (edAt l c)) : ∃ c', c' ∈ (replL l [e] [a, b]).map Ed.name ∧ backN e a b c' = c ∧ s ∈ touches (edAt (replL l [e] [a, b]) c') := by
  by_cases q : c = e
  · subst q
    rcases (h.touch s).1 hs with p | p
    · exact ⟨a.name, h.names.2 (.inr (.inl rfl)), backN_a, by rw [h.newA.2]; exact p⟩
    · exact ⟨b.name, h.names.2 (.inr (.inr rfl)), backN_b, by rw [h.newB.2]; exact p⟩
  · exact ⟨c, h.names.2 (.inl ⟨hc, q⟩), h.bk hc, by rw [(h.old hc q).2.1]; exact hs⟩
theorem Parts.one (h : Parts l e a b) {n m : Nm} {s : Str} (hn : n ∈ (replL l [e] [a, b]).map Ed.name) (hm : m ∈ (replL l [e] [a, b]).map Ed.name) (hs : s ∈ touches (edAt (replL l [e] [a, b]) n)) (hs' : s ∈ touches (edAt (replL l [e] [a, b]) m)) (q : backN e a b n = backN e a b m) : n = m := by
  rcases h.names.1 hn with ⟨n1, n2⟩ | rfl | rfl <;> rcases h.names.1 hm with ⟨m1, m2⟩ | rfl | rfl
  · rwa [h.bk n1, h.bk m1] at q
  · rw [h.bk n1, backN_a] at q; exact absurd q n2
  · rw [h.bk n1, backN_b] at q; exact absurd q n2
  · rw [h.bk m1, backN_a] at q; exact absurd q.symm m2
  · rfl
  · rw [h.newA.2] at hs; rw [h.newB.2] at hs'; exact absurd hs' (h.apart s hs)
  · rw [h.bk m1, backN_b] at q; exact absurd q.symm m2
  · rw [h.newA.2] at hs'; rw [h.newB.2] at hs; exact absurd hs (h.apart s hs')
  · rfl
theorem Parts.ok (h : Parts l e a b) (hl : (replL l [e] [a, b]).length ≤ 64) : (validV (replL l [e] [a, b])).2 = 0 := by
  have hac := h.acyc
  rw [validV_of (fun n => dep (replL l [e] [a, b]) n) hl (fun y hy => ?_) h.nodup (fun y hy n hn => ?_)]
  · unfold replL at hy
    rcases List.mem_append.1 hy with hy | hy
    · obtain ⟨z, hz, rfl⟩ := List.mem_map.1 hy
      obtain ⟨hz, hzs⟩ := List.mem_filter.1 hz
      obtain ⟨i, hi, rfl⟩ := List.getElem_of_mem hz
      have hp := (errE_zero ((valid_err h.valid).2 i hi)).1
      have hin : incr Nm.less (swapN l[i].needs [e] [a.name, b.name]) = true := incr_of_pw (sortN_spec _).1
      have nm : ∀ {y : Ed}, properE y = true → Nm.isName y.name = true := fun p => by
        unfold properE at p
        simp only [Bool.and_eq_true] at p
        exact p.1.1.1.1.1.1.1
      have hall : (swapN l[i].needs [e] [a.name, b.name]).all Nm.isName = true := by
        rw [List.all_eq_true]
        intro n hn
        rcases mem_swapN.1 hn with ⟨h1, _⟩ | ⟨h1, _⟩
        · unfold properE at hp
          simp only [Bool.and_eq_true] at hp
          exact List.all_eq_true.1 hp.1.1.2 n h1
        · simp only [List.mem_cons, List.not_mem_nil, or_false] at h1
          rcases h1 with rfl | rfl
          · exact nm h.pa
          · exact nm h.pb
      unfold properE at hp ⊢
      simp only [Bool.and_eq_true] at hp ⊢
      obtain ⟨⟨⟨⟨⟨⟨⟨p1, p2⟩, p3⟩, p4⟩, p5⟩, p6⟩, p7⟩, p8⟩ := hp
      exact ⟨⟨⟨⟨⟨⟨⟨p1, p2⟩, hin⟩, p4⟩, p5⟩, hall⟩, p7⟩, p8⟩
    · simp only [List.mem_cons, List.not_mem_nil, or_false] at hy
      rcases hy with rfl | rfl
      · exact h.pa
      · exact h.pb
  · have hno : n ∈ needsOf (replL l [e] [a, b]) y.name := by rw [needsOf_of h.nodup hy]; exact hn
    exact ⟨((h.need (List.mem_map_of_mem hy)).1 hno).1, dep_lt hno (hac n)⟩
end
end Go.Eng
namespace Go.Eng
def inOrd (l : List Ed) (S : List Nm) : List Nm := (orderN l (cloN l S)).filter fun n => decide (n ∈ S)
def outNeeds (l : List Ed) (S : List Nm) : List Nm := S.flatMap fun n => (needsOf l n).filter fun m => decide (m ∉ S)
def squashE (l : List Ed) (S : List Nm) (n : Nm) : Ed :=
  ⟨n, sortN (outNeeds l S), madeOf l (inOrd l S) [], (setS ((inOrd l S).flatMap fun m => touches (edAt l m))).filter fun s => (defOf (madeOf l (inOrd l S) []) s).isNone⟩
def convexB (l : List Ed) (S : List Nm) : Bool :=
  l.all fun e => !(S.any fun n => decide (e.name ∈ aboveL l n)) || !(S.any fun n => decide (n ∈ aboveL l e.name)) || decide (e.name ∈ S)
def squashV (D : List Df) (l : List Ed) (S : List Nm) (n : Nm) : Ed × Int :=
  if (validV l).2 ≠ 0 then (default, (validV l).2) else if S = [] ∨ S.any (fun m => decide (findI l m < 0)) = true then (default, 6) else if convexB l S = false then (default, 13)
  else if (programV D l (cloN l S)).2 ≠ 0 then (default, (programV D l (cloN l S)).2) else if 24 < (touches (squashE l S n)).length then (default, 4) else if n.isName = false then (default, 1)
  else if 0 ≤ findI l n ∧ n ∉ S then (default, 7) else (squashE l S n, 0)
theorem proper_parts {e : Ed} : properE e = true ↔ e.name.isName = true ∧ (touches e).length ≤ 24 ∧ incr Nm.less e.needs = true ∧ incr bless (e.puts.map Df.name) = true ∧ incr bless e.drops = true ∧ e.needs.all Nm.isName = true ∧ okNames (touches e) = true ∧ ∀ d ∈ e.puts, d.text.length ≤ 1024 := by
  unfold properE
  simp only [Bool.and_eq_true, decide_eq_true_eq, List.all_eq_true, and_assoc]
theorem rising_nodup {α : Type} {lt : α → α → Bool} (O : STO lt) {l : List α} (h : Rising lt l) : l.Nodup :=
  h.imp fun {a b} hab e => by subst e; rw [O.irrefl] at hab; cases hab
theorem edAt_proper {l : List Ed} (h : (validV l).2 = 0) {n : Nm} (hn : n ∈ l.map Ed.name) : properE (edAt l n) = true ∧ (edAt l n).needs = needsOf l n ∧ (edAt l n).name = n := by
  obtain ⟨e, he, rfl⟩ := List.mem_map.1 hn
  rw [edAt_mem (valid_nodup h) he, needsOf_of (valid_nodup h) he]
  obtain ⟨i, hi, rfl⟩ := List.getElem_of_mem he
  exact ⟨(errE_zero ((valid_err h).2 i hi)).1, rfl, rfl⟩
theorem madeOf_from {l : List Ed} {x : List Nm} (hn : ∀ n ∈ x, (touches (edAt l n)).Nodup) {d : Df} (hd : d ∈ madeOf l x []) : ∃ n ∈ x, d ∈ (edAt l n).puts := by
  have hr : Rising nameLt (madeOf l x []) := madeOf_rising x (by simp [Rising])
  have h0 : Rising nameLt ([] : List Df) := by simp [Rising]
  have h1 := defOf_mem (rising_names hr) hd
  have h2 := defOf_made h0 hn d.name x.length (Nat.le_refl _)
  rw [List.take_length] at h2
  rcases h2 with ⟨_, h3⟩ | ⟨i, hi, _, _, _, h3⟩
  · rw [h1] at h3; cases h3
  · rw [h1] at h3
    exact ⟨x[i], List.getElem_mem hi, (defOf_some h3.symm).1⟩
theorem made_touched {l : List Ed} {x : List Nm} (hn : ∀ n ∈ x, (touches (edAt l n)).Nodup) {s : Str} (hs : s ∈ (madeOf l x []).map Df.name) : ∃ n ∈ x, s ∈ touches (edAt l n) := by
  obtain ⟨d, hd, rfl⟩ := List.mem_map.1 hs
  obtain ⟨n, h1, h2⟩ := madeOf_from hn hd
  exact ⟨n, h1, by unfold touches; exact List.mem_append.2 (.inl (List.mem_map_of_mem h2))⟩
theorem order_pw {l : List Ed} (h : (validV l).2 = 0) {set : List Nm} (hc : closedB l set = true) : (orderN l set).Pairwise fun a b => ¬ Reach l a b := by
  rw [List.pairwise_iff_getElem]
  intro i j hi hj hij r
  have h1 := (orderN_chain l set).ahead r hi rfl
  obtain ⟨k, hk, hke⟩ := List.getElem_of_mem h1
  simp at hk
  simp only [List.getElem_take] at hke
  have := (List.getElem_inj (order_nodup h hc)).1 hke
  omega
theorem inOrd_spec {l : List Ed} (h : (validV l).2 = 0) {S : List Nm} (hS : ∀ n ∈ S, n ∈ l.map Ed.name) : (∀ n, n ∈ inOrd l S ↔ n ∈ S) ∧ (inOrd l S).Pairwise (fun a b => ¬ Reach l a b) ∧ (inOrd l S).Nodup := by
  have hc := closure_closed h hS
  refine ⟨fun n => ?_, (order_pw h hc).sublist List.filter_sublist, (order_nodup h hc).sublist List.filter_sublist⟩
  unfold inOrd
  rw [List.mem_filter, mem_orderN h hc, decide_eq_true_eq, mem_cloN]
  exact ⟨fun q => q.2, fun q => ⟨.inl q, q⟩⟩
theorem outNeeds_iff {l : List Ed} {S : List Nm} {m : Nm} : m ∈ outNeeds l S ↔ m ∉ S ∧ ∃ n ∈ S, m ∈ needsOf l n := by
  unfold outNeeds
  simp only [List.mem_flatMap, List.mem_filter, decide_eq_true_eq]
  constructor
  · rintro ⟨n, h1, h2, h3⟩; exact ⟨h3, n, h1, h2⟩
  · rintro ⟨h3, n, h1, h2⟩; exact ⟨n, h1, h2, h3⟩
section
variable {l : List Ed} {S : List Nm} {n : Nm}
theorem squash_touch (h : (validV l).2 = 0) (hS : ∀ n ∈ S, n ∈ l.map Ed.name) (s : Str) : s ∈ touches (squashE l S n) ↔ ∃ m ∈ S, s ∈ touches (edAt l m) := by
  obtain ⟨h1, _, _⟩ := inOrd_spec h hS
  have hnd : ∀ m ∈ inOrd l S, (touches (edAt l m)).Nodup := fun m hm => proper_nodup (edAt_proper h (hS m ((h1 m).1 hm))).1
  have hr : Rising nameLt (madeOf l (inOrd l S) []) := madeOf_rising _ (by simp [Rising])
  unfold touches squashE
  rw [List.mem_append, List.mem_filter, (setS_spec _).2, List.mem_flatMap]
  constructor
  · rintro (q | ⟨⟨m, q, r⟩, _⟩)
    · obtain ⟨m, q, r⟩ := made_touched hnd q
      exact ⟨m, (h1 m).1 q, r⟩
    · exact ⟨m, (h1 m).1 q, r⟩
  · rintro ⟨m, q, r⟩
    by_cases p : s ∈ (madeOf l (inOrd l S) []).map Df.name
    · exact .inl p
    · exact .inr ⟨⟨m, (h1 m).2 q, r⟩, by rw [defOf_none.2 p]; rfl⟩
theorem squash_nodup : (touches (squashE l S n)).Nodup := by
  have hr : Rising nameLt (madeOf l (inOrd l S) []) := madeOf_rising _ (by simp [Rising])
  unfold touches squashE
  rw [List.nodup_append]
  refine ⟨rising_names hr, (rising_nodup bless_sto (setS_spec _).1).sublist List.filter_sublist, fun a ha b hb e => ?_⟩
  subst e
  have := (List.mem_filter.1 hb).2
  cases q : defOf (madeOf l (inOrd l S) []) a with
  | none => exact defOf_none.1 q ha
  | some d => rw [q] at this; cases this
end
end Go.Eng
namespace Go.Eng
theorem rising_of_incr {α : Type} {lt : α → α → Bool} (O : STO lt) {l : List α} (h : incr lt l = true) : Rising lt l := by
  have h1 := incr_iff.1 h
  refine List.pairwise_iff_getElem.2 fun i j hi hj hij => ?_
  obtain ⟨k, rfl⟩ : ∃ k, j = i + 1 + k := ⟨j - i - 1, by omega⟩
  clear hij
  induction k with
  | zero => exact h1 i hj
  | succ k ih => exact O.trans _ _ _ (ih (by omega)) (h1 (i + 1 + k) hj)
def splitE (e : Ed) (first : List Str) (n : Nm) (b : Bool) : Ed := ⟨n, e.needs, e.puts.filter (fun d => decide (d.name ∈ first) == b), e.drops.filter (fun s => decide (s ∈ first) == b)⟩
def splitV (e : Ed) (first : List Str) (n m : Nm) : (Ed × Ed) × Int :=
  if properE e = false ∨ n.isName = false ∨ m.isName = false then (default, 1) else if n = m ∨ n ∈ e.needs ∨ m ∈ e.needs then (default, 7)
  else if first.any (fun s => decide (s ∉ touches e)) = true then (default, 6) else if touches (splitE e first n true) = [] ∨ touches (splitE e first m false) = [] then (default, 15)
  else ((splitE e first n true, splitE e first m false), 0)
theorem split_def {e : Ed} {first : List Str} {n : Nm} {b : Bool} (h : (e.puts.map Df.name).Nodup) {s : Str} (hs : decide (s ∈ first) = b) : defOf (splitE e first n b).puts s = defOf e.puts s := by
  have hn : ((splitE e first n b).puts.map Df.name).Nodup := h.sublist (List.filter_sublist.map _)
  by_cases q : s ∈ e.puts.map Df.name
  · obtain ⟨d, hd, rfl⟩ := List.mem_map.1 q
    rw [defOf_mem h hd, defOf_mem hn (by unfold splitE; exact List.mem_filter.2 ⟨hd, by simpa using hs⟩)]
  · rw [defOf_none.2 q, defOf_none.2 fun p => q ?_]
    obtain ⟨d, hd, rfl⟩ := List.mem_map.1 p
    exact List.mem_map_of_mem (List.mem_filter.1 hd).1
theorem drops_iff {e : Ed} (h : (touches e).Nodup) {s : Str} : s ∈ e.drops ↔ s ∈ touches e ∧ defOf e.puts s = none := by
  unfold touches at h ⊢
  rw [defOf_none, List.mem_append]
  constructor
  · intro q; exact ⟨.inr q, fun p => (List.nodup_append.1 h).2.2 s p s q rfl⟩
  · rintro ⟨p | p, q⟩
    · exact absurd p q
    · exact p
section
variable {l : List Ed} {e : Nm} {a b : Ed}
end
end Go.Eng
namespace Go.Eng
def apartV (l : List Ed) (a b : Nm) : Bool × Int :=
  if (validV l).2 ≠ 0 then (false, (validV l).2) else if findI l a < 0 ∨ findI l b < 0 then (false, 6)
  else (decide (a ≠ b) && !meetB (edAt l a) (edAt l b) && !decide (a ∈ aboveL l b) && !decide (b ∈ aboveL l a), 0)
def touchingL (l : List Ed) (set : List Nm) (e : Ed) : List Nm := set.filter fun n => decide (0 ≤ findI l n) && meetB (edAt l n) e
theorem mem_touching {l : List Ed} {set : List Nm} {e : Ed} {n : Nm} : n ∈ touchingL l set e ↔ n ∈ set ∧ n ∈ l.map Ed.name ∧ ∃ s, s ∈ touches (edAt l n) ∧ s ∈ touches e := by
  unfold touchingL
  simp only [List.mem_filter, Bool.and_eq_true, decide_eq_true_eq, found_iff, meetB_iff]
def pickE (l : List Ed) (x : Ed) (onto : List Nm) (n : Nm) : Ed := ⟨n, sortN (touchingL l onto x ++ x.needs.filter fun m => decide (m ∈ onto)), x.puts, x.drops⟩
def pickV (l : List Ed) (n : Nm) (onto : List Nm) (y : Nm) : Ed × Int :=
  if (validV l).2 ≠ 0 then (default, (validV l).2) else if findI l n < 0 then (default, 6) else if closedB l onto = false then (default, 10) else if y.isName = false then (default, 1)
  else if 0 ≤ findI l y then (default, 7) else (pickE l (edAt l n) onto y, 0)
def resolveE (a b : Nm) (puts : List Df) (drops : List Str) (y : Nm) : Ed := ⟨y, sortN [a, b], puts, drops⟩
def resolveV (l : List Ed) (a b : Nm) (puts : List Df) (drops : List Str) (y : Nm) : Ed × Int :=
  if (validV l).2 ≠ 0 then (default, (validV l).2) else if findI l a < 0 ∨ findI l b < 0 then (default, 6) else if sharedL l a b = [] then (default, 15)
  else if (sharedL l a b).any (fun s => decide (s ∉ touches (resolveE a b puts drops y))) = true then (default, 10) else if 63 < l.length then (default, 4)
  else if properE (resolveE a b puts drops y) = false then (default, 1) else if 0 ≤ findI l y then (default, 7) else (resolveE a b puts drops y, 0)
def lessN (set : List Nm) (n : Nm) : List Nm := set.filter fun m => decide (m ≠ n)
def revertE (l : List Ed) (set : List Nm) (n y : Nm) (p : List Df) : Ed :=
  ⟨y, sortN (touchingL l set (edAt l n) ++ [n]), (tchN (edAt l n)).filterMap (defOf p), (tchN (edAt l n)).filter fun s => (defOf p s).isNone⟩
def revertV (D : List Df) (l : List Ed) (set : List Nm) (n y : Nm) : Ed × Int :=
  if (validV l).2 ≠ 0 then (default, (validV l).2) else if n ∉ set then (default, 6) else if y.isName = false then (default, 1) else if 0 ≤ findI l y then (default, 7)
  else if (programV D l set).2 ≠ 0 then (default, (programV D l set).2) else if (programV D l (lessN set n)).2 ≠ 0 then (default, (programV D l (lessN set n)).2)
  else if properE (revertE l set n y (programV D l (lessN set n)).1) = false then (default, 1) else (revertE l set n y (programV D l (lessN set n)).1, 0)
end Go.Eng
namespace Go.Eng
def saysC (c : Chg) (s : Str) : Option Df := match lookC c s with | some (some t) => some ⟨s, t⟩ | _ => none
theorem defOf_text {L : List Df} (h : (L.map Df.name).Nodup) {s : Str} (hs : s ∈ L.map Df.name) : defOf L s = some ⟨s, textOf L s⟩ := by
  obtain ⟨d, hd, rfl⟩ := List.mem_map.1 hs
  rw [defOf_mem h hd, textOf_mem h hd]
theorem apply_says {c : Chg} (h : (c.map Prod.fst).Nodup) {e : Ed} (hn : (touches e).Nodup) (s : Str) : saysC (applyC c e) s = if s ∈ touches e then defOf e.puts s else saysC c s := by
  have hn' := hn
  unfold touches at hn'
  have hn' := List.nodup_append.1 hn'
  unfold saysC
  rw [applyC_look h hn]
  by_cases q : s ∈ e.drops
  · rw [if_pos q, if_pos (by unfold touches; exact List.mem_append.2 (.inr q)), defOf_none.2 fun p => hn'.2.2 s p s q rfl]
  · rw [if_neg q]
    by_cases p : s ∈ e.puts.map Df.name
    · rw [if_pos p, if_pos (by unfold touches; exact List.mem_append.2 (.inl p)), defOf_text hn'.1 p]
    · rw [if_neg p, if_neg (by unfold touches; intro r; exact (List.mem_append.1 r).elim p q)]
theorem chC_made {l : List Ed} : ∀ (x : List Nm) {c : Chg} {L : List Df}, (c.map Prod.fst).Nodup → Rising nameLt L → (∀ s, defOf L s = saysC c s) → (∀ n ∈ x, (touches (edAt l n)).Nodup) →
    ((x.foldl (fun c n => applyC c (edAt l n)) c).map Prod.fst).Nodup ∧ (∀ s, s ∈ (x.foldl (fun c n => applyC c (edAt l n)) c).map Prod.fst ↔ s ∈ c.map Prod.fst ∨ ∃ n ∈ x, s ∈ touches (edAt l n)) ∧ ∀ s, defOf (madeOf l x L) s = saysC (x.foldl (fun c n => applyC c (edAt l n)) c) s
  | [], c, L, h, _, hs, _ => ⟨h, fun s => by simp, hs⟩
  | n :: x, c, L, h, hr, hs, hn => by
    have hn1 := hn n (by simp)
    obtain ⟨k1, k2⟩ := applyC_keys h (edAt l n)
    obtain ⟨h1, h2, h3⟩ := chC_made x (c := applyC c (edAt l n)) (L := doneD L (edAt l n)) k1 (doneD_rising hr _) (fun s => by rw [defOf_done hr hn1, apply_says h hn1, hs]) fun m hm => hn m (by simp [hm])
    refine ⟨h1, fun s => ?_, h3⟩
    simp only [List.foldl_cons]
    rw [h2, k2]
    constructor
    · rintro ((q | q) | ⟨m, q, r⟩)
      · exact .inl q
      · exact .inr ⟨n, by simp, q⟩
      · exact .inr ⟨m, by simp [q], r⟩
    · rintro (q | ⟨m, q, r⟩)
      · exact .inl (.inl q)
      · rcases List.mem_cons.1 q with rfl | q
        · exact .inl (.inr r)
        · exact .inr ⟨m, q, r⟩
theorem filterMap_rising {f : Str → Option Df} (hf : ∀ s d, f s = some d → d.name = s) : ∀ {l : List Str}, Rising bless l → Rising nameLt (l.filterMap f)
  | [], _ => by simp [Rising]
  | s :: l, h => by
    have h' := List.pairwise_cons.1 h
    have ih := filterMap_rising hf h'.2
    rw [List.filterMap_cons]
    split
    · exact ih
    · rename_i d hd
      refine List.pairwise_cons.2 ⟨fun y hy => ?_, ih⟩
      obtain ⟨t, ht, hty⟩ := List.mem_filterMap.1 hy
      unfold nameLt
      rw [hf s d hd, hf t y hty]
      exact h'.1 t ht
theorem defOf_filterMap {f : Str → Option Df} (hf : ∀ s d, f s = some d → d.name = s) {l : List Str} (h : Rising bless l) (s : Str) : defOf (l.filterMap f) s = if s ∈ l then f s else none := by
  have hn := rising_names (filterMap_rising hf h)
  by_cases q : s ∈ l
  · rw [if_pos q]
    cases p : f s with
    | some d =>
      have := defOf_mem hn (List.mem_filterMap.2 ⟨s, q, p⟩)
      rwa [hf s d p] at this
    | none =>
      refine defOf_none.2 fun r => ?_
      obtain ⟨d, hd, e⟩ := List.mem_map.1 r
      obtain ⟨t, ht, htd⟩ := List.mem_filterMap.1 hd
      have := hf t d htd
      rw [e] at this
      rw [← this, p] at htd; cases htd
  · rw [if_neg q]
    refine defOf_none.2 fun r => q ?_
    obtain ⟨d, hd, e⟩ := List.mem_map.1 r
    obtain ⟨t, ht, htd⟩ := List.mem_filterMap.1 hd
    have := hf t d htd
    rw [e] at this
    rw [this]; exact ht
theorem editC_puts (c : Chg) (n : Nm) (needs : List Nm) (w : Str → Bool) : (editC c n needs w).puts = ((setS (c.map Prod.fst)).filter w).filterMap (saysC c) := rfl
theorem saysC_name {c : Chg} (s : Str) (d : Df) (h : saysC c s = some d) : d.name = s := by
  unfold saysC at h
  split at h
  · injection h with h; rw [← h]
  · cases h
theorem editC_spec {c : Chg} {n : Nm} {needs : List Nm} {w : Str → Bool} : Rising nameLt (editC c n needs w).puts ∧ Rising bless (editC c n needs w).drops ∧ (∀ s, defOf (editC c n needs w).puts s = if s ∈ c.map Prod.fst ∧ w s = true then saysC c s else none) ∧ ∀ s, s ∈ (editC c n needs w).drops ↔ s ∈ c.map Prod.fst ∧ w s = true ∧ saysC c s = none := by
  have hr : Rising bless ((setS (c.map Prod.fst)).filter w) := (setS_spec _).1.sublist List.filter_sublist
  refine ⟨filterMap_rising saysC_name hr, hr.sublist List.filter_sublist, fun s => ?_, fun s => ?_⟩
  · rw [editC_puts, defOf_filterMap saysC_name hr]
    simp only [List.mem_filter, (setS_spec _).2]
  · show s ∈ ((setS (c.map Prod.fst)).filter w).filter _ ↔ _
    rw [List.mem_filter, List.mem_filter, (setS_spec _).2, and_assoc]
    refine and_congr_right fun _ => and_congr_right fun _ => ?_
    unfold saysC
    cases q : lookC c s with
    | none => simp
    | some o => cases o <;> simp
theorem editC_eq {c : Chg} {n : Nm} {needs : List Nm} {w : Str → Bool} {x : Ed} (hx : x.name = n) (hn : x.needs = needs) (hp : Rising nameLt x.puts) (hd : Rising bless x.drops)
    (h1 : ∀ s, defOf x.puts s = if s ∈ c.map Prod.fst ∧ w s = true then saysC c s else none) (h2 : ∀ s, s ∈ x.drops ↔ s ∈ c.map Prod.fst ∧ w s = true ∧ saysC c s = none) : editC c n needs w = x := by
  obtain ⟨k1, k2, k3, k4⟩ := editC_spec (c := c) (n := n) (needs := needs) (w := w)
  have e1 : (editC c n needs w).puts = x.puts := defs_eq k1 hp fun s => by rw [k3, h1]
  have e2 : (editC c n needs w).drops = x.drops := rising_eq bless_sto k2 hd fun s => by rw [k4, h2]
  have : editC c n needs w = ⟨n, needs, x.puts, x.drops⟩ := by rw [← e1, ← e2]; rfl
  rw [this, ← hx, ← hn]
theorem squash_editC {l : List Ed} {S : List Nm} {n : Nm} (h : (validV l).2 = 0) (hS : ∀ n ∈ S, n ∈ l.map Ed.name) :
    editC ((inOrd l S).foldl (fun c m => applyC c (edAt l m)) []) n (sortN (outNeeds l S)) (fun _ => true) = squashE l S n := by
  obtain ⟨h1, _, _⟩ := inOrd_spec h hS
  have hnd : ∀ m ∈ inOrd l S, (touches (edAt l m)).Nodup := fun m hm => proper_nodup (edAt_proper h (hS m ((h1 m).1 hm))).1
  have h0 : Rising nameLt ([] : List Df) := by simp [Rising]
  obtain ⟨k1, k2, k3⟩ := chC_made (inOrd l S) (c := []) (L := []) (by simp) h0 (fun s => rfl) hnd
  have key : ∀ s, s ∈ ((inOrd l S).foldl (fun c m => applyC c (edAt l m)) []).map Prod.fst ↔ ∃ m ∈ inOrd l S, s ∈ touches (edAt l m) := fun s => by rw [k2]; simp
  refine editC_eq rfl rfl (madeOf_rising _ h0) ((setS_spec _).1.sublist List.filter_sublist) (fun s => ?_) fun s => ?_
  · show defOf (madeOf l (inOrd l S) []) s = _
    rw [k3]
    by_cases q : s ∈ ((inOrd l S).foldl (fun c m => applyC c (edAt l m)) []).map Prod.fst
    · rw [if_pos ⟨q, rfl⟩]
    · rw [if_neg fun p => q p.1]
      unfold saysC
      rw [lookC_none.2 q]
  · show s ∈ (setS _).filter _ ↔ _
    rw [List.mem_filter, (setS_spec _).2, List.mem_flatMap, key, k3]
    simp
theorem split_editC {e : Ed} {first : List Str} {n : Nm} {b : Bool} (h : properE e = true) : editC (applyC [] e) n e.needs (fun s => decide (s ∈ first) == b) = splitE e first n b := by
  obtain ⟨_, _, _, p4, p5, _, p7, _⟩ := proper_parts.1 h
  have hnd := proper_nodup h
  have hnp : (e.puts.map Df.name).Nodup := by
    have := hnd
    unfold touches at this
    exact (List.nodup_append.1 this).1
  have hr : Rising nameLt e.puts := List.pairwise_map.1 (rising_of_incr bless_sto p4)
  obtain ⟨k1, k2⟩ := applyC_keys (c := []) (by simp) e
  have key : ∀ s, s ∈ (applyC [] e).map Prod.fst ↔ s ∈ touches e := fun s => by rw [k2]; simp
  have says : ∀ s, saysC (applyC [] e) s = if s ∈ touches e then defOf e.puts s else none := fun s => by rw [apply_says (by simp) hnd]; rfl
  refine editC_eq rfl rfl (hr.sublist List.filter_sublist) ((rising_of_incr bless_sto p5).sublist List.filter_sublist) (fun s => ?_) fun s => ?_
  · rw [says]
    by_cases q : decide (s ∈ first) = b
    · rw [split_def hnp q]
      by_cases p : s ∈ touches e
      · rw [if_pos ⟨(key s).2 p, by simpa using q⟩, if_pos p]
      · rw [if_neg fun r => p ((key s).1 r.1)]
        unfold touches at p
        exact defOf_none.2 fun r => p (List.mem_append.2 (.inl r))
    · rw [if_neg fun r => q (by simpa using r.2)]
      refine defOf_none.2 fun r => q ?_
      obtain ⟨d, hd, rfl⟩ := List.mem_map.1 r
      simpa using (List.mem_filter.1 hd).2
  · have e1 : s ∈ (splitE e first n b).drops ↔ s ∈ e.drops ∧ (decide (s ∈ first) == b) = true := List.mem_filter
    rw [e1, drops_iff hnd, key, says]
    constructor
    · rintro ⟨⟨q1, q2⟩, q3⟩
      exact ⟨q1, q3, by rw [if_pos q1]; exact q2⟩
    · rintro ⟨q1, q3, q2⟩
      rw [if_pos q1] at q2
      exact ⟨⟨q1, q2⟩, q3⟩
end Go.Eng
namespace Go.Eng
def undoC (x : Ed) : Chg := (tchN x).foldl (fun c s => upC c s none) []
def restoreC (c : Chg) (d : Df) : Chg := if d.name ∈ c.map Prod.fst then upC c d.name (some d.text) else c
theorem restore_spec : ∀ (p : List Df) {c : Chg}, (c.map Prod.fst).Nodup → (p.map Df.name).Nodup → ((p.foldl restoreC c).map Prod.fst).Nodup ∧ (∀ s, s ∈ (p.foldl restoreC c).map Prod.fst ↔ s ∈ c.map Prod.fst) ∧ ∀ s, saysC (p.foldl restoreC c) s = if s ∈ c.map Prod.fst ∧ s ∈ p.map Df.name then defOf p s else saysC c s
  | [], c, h, _ => ⟨h, fun s => Iff.rfl, fun s => by simp⟩
  | d :: p, c, h, hn => by
    have hn' := List.nodup_cons.1 hn
    have h1 : ((restoreC c d).map Prod.fst).Nodup := by
      unfold restoreC; split
      · exact upC_nodup h
      · exact h
    have h2 : ∀ s, s ∈ (restoreC c d).map Prod.fst ↔ s ∈ c.map Prod.fst := fun s => by
      unfold restoreC; split
      · rename_i q
        rw [mem_upC]
        exact ⟨fun r => r.elim (fun e => e ▸ q) id, .inr⟩
      · exact Iff.rfl
    have h3 : ∀ s, saysC (restoreC c d) s = if s ∈ c.map Prod.fst ∧ s = d.name then some d else saysC c s := fun s => by
      unfold restoreC
      by_cases q : d.name ∈ c.map Prod.fst
      · rw [if_pos q]
        by_cases e : s = d.name
        · subst e
          rw [if_pos ⟨q, rfl⟩]
          unfold saysC
          rw [lookC_up h, if_pos rfl]
        · rw [if_neg fun r => e r.2]
          unfold saysC
          rw [lookC_up h, if_neg e]
      · rw [if_neg q, if_neg fun (r : s ∈ c.map Prod.fst ∧ s = d.name) => q (r.2 ▸ r.1)]
    obtain ⟨k1, k2, k3⟩ := restore_spec p h1 hn'.2
    refine ⟨k1, fun s => (k2 s).trans (h2 s), fun s => ?_⟩
    rw [List.foldl_cons, k3, h3]
    by_cases q : s ∈ c.map Prod.fst
    · by_cases r : s ∈ p.map Df.name
      · have hne : s ≠ d.name := fun e => hn'.1 (e ▸ r)
        obtain ⟨y, hy, hye⟩ := List.mem_map.1 r
        rw [if_pos ⟨(h2 s).2 q, r⟩, if_pos ⟨q, by simp only [List.map_cons, List.mem_cons]; exact .inr r⟩, ← hye, defOf_mem hn'.2 hy, defOf_mem hn (by simp [hy])]
      · rw [if_neg fun w => r w.2]
        by_cases e : s = d.name
        · subst e
          rw [if_pos ⟨q, rfl⟩, if_pos ⟨q, by simp⟩, defOf_mem hn (by simp)]
        · rw [if_neg fun w => e w.2, if_neg fun w => ?_]
          have := w.2
          simp only [List.map_cons, List.mem_cons] at this
          exact this.elim e r
    · rw [if_neg fun w => q ((h2 s).1 w.1), if_neg fun w => q w.1, if_neg fun w => q w.1]
theorem revert_editC {l : List Ed} {set : List Nm} {n y : Nm} {p : List Df} (hp : (p.map Df.name).Nodup) :
    editC (p.foldl restoreC (undoC (edAt l n))) y (sortN (touchingL l set (edAt l n) ++ [n])) (fun _ => true) = revertE l set n y p := by
  have hr : Rising bless (tchN (edAt l n)) := (setS_spec _).1
  obtain ⟨u1, u2⟩ := dropsC_keys (tchN (edAt l n)) (c := []) (by simp)
  have ul := dropsC_look (tchN (edAt l n)) (c := []) (by simp)
  obtain ⟨k1, k2, k3⟩ := restore_spec p (c := undoC (edAt l n)) u1 hp
  have hk : ∀ s, s ∈ (p.foldl restoreC (undoC (edAt l n))).map Prod.fst ↔ s ∈ tchN (edAt l n) := fun s => by
    rw [k2]; unfold undoC; rw [u2]; simp
  have hu : ∀ s, s ∈ (undoC (edAt l n)).map Prod.fst ↔ s ∈ tchN (edAt l n) := fun s => by unfold undoC; rw [u2]; simp
  have h0 : ∀ s, saysC (undoC (edAt l n)) s = none := fun s => by
    unfold saysC undoC
    rw [ul]
    by_cases q : s ∈ tchN (edAt l n)
    · rw [if_pos q]
    · rw [if_neg q]; rfl
  have says : ∀ s, s ∈ tchN (edAt l n) → saysC (p.foldl restoreC (undoC (edAt l n))) s = defOf p s := fun s hs => by
    rw [k3, h0]
    by_cases q : s ∈ p.map Df.name
    · rw [if_pos ⟨(hu s).2 hs, q⟩]
    · rw [if_neg fun w => q w.2, defOf_none.2 q]
  have hf : ∀ s d, defOf p s = some d → d.name = s := fun s d h => (defOf_some h).2
  refine editC_eq rfl rfl (filterMap_rising hf hr) (hr.sublist List.filter_sublist) (fun s => ?_) fun s => ?_
  · show defOf ((tchN (edAt l n)).filterMap (defOf p)) s = _
    rw [defOf_filterMap hf hr]
    by_cases q : s ∈ tchN (edAt l n)
    · rw [if_pos q, if_pos ⟨(hk s).2 q, rfl⟩, says s q]
    · rw [if_neg q, if_neg fun w => q ((hk s).1 w.1)]
  · show s ∈ (tchN (edAt l n)).filter _ ↔ _
    rw [List.mem_filter, hk]
    constructor
    · rintro ⟨q1, q2⟩
      exact ⟨q1, rfl, by rw [says s q1]; simpa using q2⟩
    · rintro ⟨q1, _, q2⟩
      rw [says s q1] at q2
      exact ⟨q1, by simpa using q2⟩
end Go.Eng
namespace Go.Eng
def freshAt (s i : Nat) : Nm := ⟨3, ((s + i) % 64 : Nat)⟩
def freshN (l : List Ed) (k : Int) : Nm :=
  match (List.range 64).find? (fun i => decide (freshAt (around k 64).toNat i ∉ l.map Ed.name)) with | some i => freshAt (around k 64).toNat i | none => freshAt (around k 64).toNat 64
theorem fresh_exit {l : List Ed} {k : Int} {i : Nat} (hi : i ≤ 64) (h1 : ∀ j, j < i → freshAt (around k 64).toNat j ∈ l.map Ed.name) (h2 : i < 64 → freshAt (around k 64).toNat i ∉ l.map Ed.name) : freshN l k = freshAt (around k 64).toNat i := by
  unfold freshN
  by_cases q : i < 64
  · have : (List.range 64).find? (fun i => decide (freshAt (around k 64).toNat i ∉ l.map Ed.name)) = some i := by
      rw [List.find?_range_eq_some]
      exact ⟨by simpa using h2 q, by simpa using q, fun j hj => by simpa using h1 j hj⟩
    rw [this]
  · have e : i = 64 := by omega
    subst e
    have : (List.range 64).find? (fun i => decide (freshAt (around k 64).toNat i ∉ l.map Ed.name)) = none := by
      rw [List.find?_range_eq_none]
      exact fun j hj => by simpa using h1 j hj
    rw [this]
end Go.Eng
namespace Go.Eng
open Go.RowKit
section
variable {P : Program}
theorem Ok.twod {f : FuncId} {fn : Func} {c : Code} {args : List DV} {x y : DV} {fresh : Bool} {n t u : Nat} (hf : P.funcs[f]? = some fn) (hname : (fn.name == "runtime.NumGoroutine") = false) (hb : fn.body = some c) (hn : fn.ntmps = n) (hargs : args.length ≤ n) (hres : fn.results = #[.tmp t, .tmp u])
    (h : ∀ w0 X, w0.pins = [] → LWp P n w0 X c (retQ2 t u fresh (.d x) y) (argsEnv args) (mkObs [])) : Ok P f args ⟨.tup [.d x, .d y], fresh⟩ := by
  refine Ok.of_body hf hname hb hn hargs fun w0 X hpn => (h w0 X hpn).mono fun x env H ⟨h1, h2, h3⟩ => ⟨h1, fun β a w s => ⟨_, results_tmp2 hres _ _ _, ?_⟩⟩
  obtain ⟨B, hB⟩ := ret_one hpn s (s.env t) h2
  obtain ⟨B', hB'⟩ := ret_one hpn s (s.env u) h3
  refine ⟨[a.tmps.getD t undef, a.tmps.getD u undef], fun _ => none, rfl, rfl, (by intro i j b hi hj; simp at hi), fun i r v hr hv => ?_⟩
  match i, hr, hv with
  | 0, hr, hv =>
    injection hr with hr; injection hv with hv
    subst hr; subst hv
    simp only [RVok] at hB ⊢
    exact RD.anti (fun k hk => .inl (by rcases hk with hk | ⟨j, hj⟩; exact hk; cases hj)) hB
  | 1, hr, hv =>
    injection hr with hr; injection hv with hv
    subst hr; subst hv
    simp only [RVok] at hB' ⊢
    exact RD.anti (fun k hk => .inl (by rcases hk with hk | ⟨j, hj⟩; exact hk; cases hj)) hB'
end
end Go.Eng
namespace Go.Eng
open Go.RowKit
def IsRow (k : IntKind) (w : World) (a : Option Addr) (len cap : Nat) (zs : List Int) : Prop :=
  (a = none ∧ len = 0 ∧ cap = 0 ∧ zs = []) ∨
  ∃ x, a = some x ∧ len ≤ cap ∧ cap ≤ maxLen ∧ zs.length = cap ∧ (∀ i, i < zs.length → w.cell? (x.add i) = some (.int k (zs.getD i 0))) ∧ ∀ n ∈ zs, (Lit.int k n).wf = true
theorem int_rng {n : Int} (h : (Lit.int .i64 n).wf = true) : -9223372036854775808 ≤ n ∧ n ≤ 9223372036854775807 := by
  simp only [Lit.wf, Bool.and_eq_true, decide_eq_true_eq, IntKind.min, IntKind.max, IntKind.signed, IntKind.bits] at h
  exact ⟨h.1, h.2⟩
theorem row_rng {w : World} {a : Option Addr} {len cap : Nat} {zs : List Int} (h : IsRow .i64 w a len cap zs) : ∀ n ∈ zs.take len, -9223372036854775808 ≤ n ∧ n ≤ 9223372036854775807 := fun n hn => by
  have hn := List.mem_of_mem_take hn
  rcases h with ⟨_, _, _, rfl⟩ | ⟨x, _, _, _, _, _, h⟩
  · cases hn
  · exact int_rng (h n hn)
theorem row_rd {w : World} {k : IntKind} {a : Option Addr} {len cap : Nat} {zs : List Int} (h : IsRow k w a len cap zs) : RD w (fun _ => False) (.sl ((zs.take len).map (.int k))) (.slice a len cap) := by
  rcases h with ⟨rfl, rfl, rfl, rfl⟩ | ⟨x, rfl, h1, h2, h3, h4, h5⟩
  · exact .sl0 _ 0 (Nat.zero_le _)
  · by_cases h0 : len = 0
    · subst h0
      rw [List.take_zero]
      exact .sl0 _ cap h2
    · obtain ⟨b, o, rfl, hc⟩ := ints_at h4 (by omega)
      have hl : ((zs.take len).map (DV.int k)).length = len := by simp; omega
      have hfl : flatD ((zs.take len).map (DV.int k)) = (zs.take len).map (DV.int k) := by
        unfold flatD
        rw [List.flatMap_map]
        induction zs.take len with
        | nil => rfl
        | cons a l ih => rw [List.flatMap_cons, ih]; rfl
      have := RD.sl (w := w) (E := fun _ => False) ((zs.take len).map (.int k)) b o cap 1 ((zs.take len).map (.int k)) (fun e => by rw [e] at hl; simp at hl; omega) (fun h => h) (fun x hx => by obtain ⟨n, _, rfl⟩ := List.mem_map.1 hx; rfl)
        (by rw [hl]; exact h1) h2 (by simp) (fun u hu => by obtain ⟨n, _, rfl⟩ := List.mem_map.1 hu; rfl) (cell_lt (hc 0 (by omega))) (fun j u hj => by
          have hj' : j < len := by
            have := (List.getElem?_eq_some_iff.1 hj).1
            simp at this; omega
          have hz : j < zs.length := by omega
          have := hc j hz
          rw [this]
          simp [hj', hz] at hj
          simp [hz, hj]) (fun i d v hd hv => by
          rw [hfl] at hd
          simp only [List.getElem?_map] at hd hv
          cases q : (zs.take len)[i]? with
          | none => rw [q] at hd; cases hd
          | some n => rw [q] at hd hv; cases hd; cases hv; exact .int k n)
      rw [hl] at this
      exact this
theorem RDs.nil {w : World} {E : Nat → Prop} : RDs w E [] [] := ⟨rfl, fun i c v h => by simp at h⟩
theorem RDs.cons {w : World} {E : Nat → Prop} {d : DV} {v : Value} {ds : List DV} {vs : List Value} (h : RD w E d v) (hs : RDs w E ds vs) : RDs w E (d :: ds) (v :: vs) :=
  ⟨by simp [hs.1], fun i c u hc hu => by
    cases i with
    | zero => simp at hc hu; subst hc; subst hu; exact h
    | succ i => exact hs.2 i c u (by simpa using hc) (by simpa using hu)⟩
theorem law_calls {P : Program} {f : FuncId} {args : List DV} {fr : Bool} (h : Ok P f args ⟨.d (.bool true), fr⟩) (w : World) (vs : List Value) (hr : RDs w (fun _ => False) args vs) :
    Calls P f vs.toArray w fun e w' => e = .returned (.bool true) ∧ Below w.heap.size w w' :=
  (h.2 w (fun _ => False) vs (fun _ h => h.elim) hr).mono fun _ _ ⟨v, h1, h2, h3⟩ => by
    obtain ⟨_, h4⟩ := h3
    cases h4
    exact ⟨h1, h2.below⟩
theorem RVok.own_d {w w' : World} {E E' : Nat → Prop} {B : Option Nat} {s : Nat} {xs : List DV} {v : Value} (h : RVok w w' E B (.own s xs) v) (hE : ∀ k, E' k → k < w.heap.size) (hEE : ∀ k, E' k → E k) : RD w' E' (.sl xs) v := by
  obtain ⟨hs, hxs, h⟩ := h
  rcases h with ⟨_, rfl, a, rfl⟩ | ⟨b, c, cur, e, _, rfl, hb, hblk, hl, hc, hcs, hcell⟩
  · exact .sl0 a 0 (Nat.zero_le _)
  · by_cases hx : xs = []
    · subst hx; exact .sl0 _ c hc
    · have hfl := flat_len hxs
      have hle : xs.length * s ≤ cur.size := by rw [← hcs]; exact Nat.mul_le_mul_right _ hl
      have hlt : b < w'.heap.size := (Array.getElem?_eq_some_iff.1 hblk).1
      refine .sl xs b 0 c s (cur.toList.take (xs.length * s)) hx (fun q => by have := hE b q; omega) hxs hl hc (by simp; omega) (fun u hu => ?_) hlt (fun j u hj => ?_) (fun i d v hd hv => ?_)
      · obtain ⟨j, hj, rfl⟩ := List.getElem_of_mem hu
        simp only [List.length_take, Array.length_toList] at hj
        have hjc : j < cur.size := by omega
        have hjf : j < (flatD xs).length := by rw [hfl]; omega
        simp only [List.getElem_take, Array.getElem_toList]
        exact (hcell j _ _ (List.getElem?_eq_getElem hjf) (Array.getElem?_eq_getElem hjc)).1
      · rw [cell_of_row w' b _ cur e (0, 0) hblk, Nat.zero_add]
        rw [List.getElem?_take] at hj
        split at hj
        · simpa using hj
        · cases hj
      · rw [List.getElem?_take] at hv
        split at hv
        · exact ((hcell i d v hd (by simpa using hv)).2).anti hEE
        · cases hv
theorem Ok.own_d {P : Program} {f : FuncId} {args : List DV} {s : Nat} {xs : List DV} {fr : Bool} (h : Ok P f args ⟨.own s xs, fr⟩) : Ok P f args ⟨.d (.sl xs), fr⟩ :=
  ⟨h.1, fun w X vs hX hr => (h.2 w X vs hX hr).mono fun _ _ ⟨v, h1, h2, B, h3⟩ =>
    ⟨v, h1, h2, none, h3.own_d (fun k q => by
      rcases q with (q | ⟨_, q⟩) | q
      · exact hX k q
      · exact q
      · cases q) (fun k q => by
      rcases q with q | q
      · exact .inl q
      · cases q)⟩⟩
theorem Ok.own2_d {P : Program} {f : FuncId} {args : List DV} {s : Nat} {xs : List DV} {y : DV} {fr : Bool} (h : Ok P f args ⟨.tup [.own s xs, .d y], fr⟩) : Ok P f args ⟨.tup [.d (.sl xs), .d y], fr⟩ :=
  ⟨h.1, fun w X vs hX hr => (h.2 w X vs hX hr).mono fun _ _ ⟨v, h1, h2, us, B, h3, h4, h5, h6⟩ =>
    ⟨v, h1, h2, us, fun _ => none, h3, h4, fun _ _ _ q => (by cases q), fun i r u hi hu => by
      match i, hi with
      | 0, hi =>
        cases hi
        exact (h6 0 _ u rfl hu).own_d (fun k q => by
          rcases q with (q | ⟨_, q⟩) | ⟨_, q⟩
          · exact hX k q
          · exact q
          · cases q) (fun k q => by
          rcases q with q | ⟨_, q⟩
          · exact .inl q
          · cases q)
      | 1, hi =>
        cases hi
        exact RD.anti (fun k q => by
          rcases q with q | ⟨_, q⟩
          · exact .inl q
          · cases q) (h6 1 _ u rfl hu)⟩⟩
end Go.Eng
namespace Go.Eng
open Go.Proofs
attribute [local simp] runL stepL evalG evalOp opLV constLV putEnv dstOk upd upds Res.plain Res.cond Res.fail evalBin evalUn seqQ blockQ argsEnv lookL lookH RetIs memless freshL evalPick evalMin bval bok evalLen evalIn strip whenC guardOps guardC slotsOf
  runM foldS stepI stepM maskE wrIn lk renO lookN evalCall evalCallee optAll resLV resObj retLV retObj retsLV retsObj evalLoad evalIndexAddr evalField solid cellsD_agg cellsD_int cellsD_bool cellsD_str cellsD_sl cellsD_ro cellsD_fn cellsL_agg cellsL_dagg cellsL_int cellsL_bool cellsL_str cellsL_sl cellsL_fn cellsL_ow cellsL_bx cellsL_lfn cellsL_nl takeL takeD mkAgg allD eqD eqDs kindsAre kindIs LObj.live TK.isNone TK.agg TK.isBool TK.isStr TK.isStruct Op.operands Call.operands
  evalBuildSlice evalAppend elemsOf evalStore evalBuild fillL lookupF putL evalSlice bound evalConv elemsS freezes frozen loadR
  mkEnv_at mkObs_at close_d close_agg close_ow close_bx close_fn close_nl touch_d touch_agg touch_ow touch_bx touch_fn touch_nl ren_d ren_agg ren_bx ren_rp ren_ow ren_fn ren_nl ren_junk retQ_ret retQ2_ret condQ_bool Nm.d Df.d Ed.d nmsD dfsD strsD edsD retC_ret nm_eq df_eq take_map_len take_map_app
  nm_t nm_d nm_td df_t df_d df_td str_t str_d str_td ed_t ed_d ed_td
  evalAppendIn evalCut evalClear evalCopy evalMake evalWrap evalCap evalNil isNilC lenL isInp gorc
  mapOf findD keyEq keyOk evalMakeMap evalRange zeroD zeroDV argsG shutG outN lenv retG0_ret retG0_normal retG1_ret renO close_mp touch_mp ren_mp optAll_d optAll_d' touch_ds cellsL_mp cellsD_mp cellsL_dmp
  evalMapSet evalPtr TK.isPtr evalToArr firstL retN_ret retsQ rvarL close_bm touch_bm ren_bm cellsD_bm cellsL_bm cellsL_lbm
theorem someN_succ {l : List Ed} {b : Int} {i : Nat} (h : i < l.length) : someN (l.take (i + 1)) b = someN (l.take i) b ++ if bit16 b i then [l[i].name] else [] := by
  have e : l.take (i + 1) = l.take i ++ [l[i]] := by simp
  unfold someN
  rw [e, List.zipIdx_append, List.filter_append, List.map_append]
  congr 1
  simp [List.length_take, Nat.min_eq_left (Nat.le_of_lt h), List.filter_cons]
  split <;> rfl
theorem bit16_at {b : Int} {i k : Nat} (h : (k : Int) = (i : Int).tmod 16) : (bit16 b i = true) = (((around b 65536).fdiv (2 ^ k)).tmod 2 = 1) := by
  unfold bit16
  rw [← h]
  simp
theorem Some_ok (l : List Ed) (b : Int) (hl : l.length ≤ 1100000) (h1 : -9223372036854775808 ≤ b) (h2 : b ≤ 9223372036854775807) : Ok Tryz.prog 20 [edsD l, I64 b] ⟨.d (nmsD (someN l b)), true⟩ := by
  refine Ok.ret Tryz.func20 (by kernel_rfl) (c := _) rfl Tryz.ntmps20 (by simp) Tryz.results20 (by intro _ h; cases h) fun w0 X hp => ?_
  refine LWp.seq ?_
  refine LWp.rz hT hW ?_
  simp
  refine LWp.seq ?_
  refine LWp.rz hT hW ?_
  simp
  refine LWp.seq ?_
  refine LWp.seq ?_
  refine LWp.rz hT hW ?_
  simp
  refine LWp.block ?_
  refine LWp.loopW (ι := Nat × List Nm) (fun ⟨i, acc⟩ => mkEnv [(0, .d (edsD l)), (1, .d (I64 b)), (5, .ow 5 0 acc.length), (6, .d (I64 i))]) (fun ⟨i, acc⟩ => mkObs [(5, .row false 2 (acc.map Nm.d))]) (fun ⟨i, acc⟩ => i ≤ l.length ∧ acc.length ≤ i ∧ acc = someN (l.take i) b) (fun ⟨i, acc⟩ => l.length - i) (0, []) (Weak.to [0, 1, 5, 6] [(5, 5)] (by decide) (by decide) (by simp [hp]) (by simp) (by simp)) (⟨Nat.zero_le _, Nat.le_refl _, rfl⟩) fun ⟨i, acc⟩ hi3 => ?_
  refine LWp.seq ?_
  refine LWp.seq ?_
  refine LWp.rz hT hW ?_
  simp
  refine LWp.iff ?_
  simp
  refine ⟨fun h3 => ?_, fun h3 => ?_⟩
  · refine LWp.skip ?_
    simp
    refine LWp.seq ?_
    refine LWp.block ?_
    refine LWp.seq ?_
    have hm1 : 0 ≤ ((i : Int)).tmod 16 := Int.tmod_nonneg _ (by omega)
    have hm2 : ((i : Int)).tmod 16 < 16 := Int.tmod_lt_of_pos _ (by omega)
    obtain ⟨k0, hk0⟩ : ∃ k0 : Nat, (k0 : Int) = ((i : Int)).tmod 16 := ⟨(((i : Int)).tmod 16).toNat, by omega⟩
    have hkw := u64_nat (k := k0) (by omega)
    have hk64 : min k0 64 = k0 := by omega
    refine LWp.ro hT hW (fun | 14 => some <| .plain ⟨.d (I64 (around b 65536)), true⟩ | _ => none) ?_
    simp [← hk0, hkw, IntKind.bits, hk64]
    refine ⟨Around_ok b 65536 h1 h2 (by decide), ?_⟩
    refine LWp.iff ?_
    simp
    refine ⟨fun h5 => ?_, fun h5 => ?_⟩
    · refine LWp.rz hT hW ?_
      simp [h3]
      refine ⟨by have := hi3.2.1; omega, ?_⟩
      refine LWp.rz hT hW ?_
      simp
      refine ⟨by omega, ?_⟩
      refine loopQ.mk (i + 1, acc ++ [l[i].name]) (Weak.to [0, 1, 5, 6] [(28, 5)] (by decide) (by decide) (by simp [hp]) (by simp) (by simp)) ?_ ?_
      · refine ⟨h3, by have := hi3.2.1; simp; omega, ?_⟩
        dsimp only
        rw [someN_succ h3, ← hi3.2.2, if_pos ((bit16_at hk0).mpr h5)]
      · omega
    · refine LWp.skip ?_
      simp
      refine LWp.rz hT hW ?_
      simp
      refine ⟨by omega, ?_⟩
      refine loopQ.mk (i + 1, acc) (Weak.to [0, 1, 5, 6] [(5, 5)] (by decide) (by decide) (by simp [hp]) (by simp) (by simp)) ?_ ?_
      · refine ⟨h3, by have := hi3.2.1; dsimp only; omega, ?_⟩
        dsimp only
        rw [someN_succ h3, ← hi3.2.2, if_neg (fun q => h5 ((bit16_at hk0).mp q)), List.append_nil]
      · omega
  · refine LWp.exit ?_
    simp
    refine LWp.seq ?_
    refine LWp.rz hT hW ?_
    simp
    refine LWp.ret ?_
    have q : i = l.length := by omega
    have := hi3.2.2
    rw [q, List.take_length] at this
    simp [this]
end Go.Eng
