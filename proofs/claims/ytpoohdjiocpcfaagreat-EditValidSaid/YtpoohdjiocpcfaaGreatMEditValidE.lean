/-
  Texts of the proof of EditValid, part 5. No condition.
-/
import Derived.Test.YtpoohdjiocpcfaaGreatMEditValidD
import Derived.Shelf.SlSortCmp.NoneTotal
import Derived.Shelf.SlGeneric
import Derived.Test.YtpoohdjiocpcfaaGreatProg
import Derived.RangeFuncNested
import Derived.OwnWalkIn
import Derived.Maps.RangeRun
import Derived.Shelf.SlIter.Collect
set_option linter.unusedVariables false
set_option linter.unusedSimpArgs false
/-
  Chapter 22: closed sets; copies of lists of names; lists without doubles; deletions. No condition.
-/
namespace Go.Eng
open Go.Proofs
attribute [local simp] runL stepL evalG evalOp opLV constLV putEnv dstOk upd upds Res.plain Res.cond Res.fail evalBin evalUn seqQ blockQ argsEnv lookL lookH RetIs memless freshL evalPick evalMin bval bok evalLen evalIn strip whenC guardOps guardC slotsOf
  runM foldS stepI stepM maskE wrIn lk renO lookN evalCall evalCallee optAll resLV resObj retLV retObj retsLV retsObj evalLoad evalIndexAddr evalField solid cellsD_agg cellsD_int cellsD_bool cellsD_str cellsD_sl cellsD_ro cellsD_fn cellsL_agg cellsL_dagg cellsL_int cellsL_bool cellsL_str cellsL_sl cellsL_fn cellsL_ow cellsL_bx cellsL_lfn cellsL_nl takeL takeD mkAgg allD eqD eqDs kindsAre kindIs LObj.live TK.isNone TK.agg TK.isBool TK.isStr TK.isStruct Op.operands Call.operands
  evalBuildSlice evalAppend elemsOf evalStore evalBuild fillL lookupF putL evalSlice bound evalConv elemsS freezes frozen loadR
  mkEnv_at mkObs_at close_d close_agg close_ow close_bx close_fn close_nl touch_d touch_agg touch_ow touch_bx touch_fn touch_nl ren_d ren_agg ren_bx ren_rp ren_ow ren_fn ren_nl ren_junk retQ_ret retQ2_ret condQ_bool Nm.d Df.d Ed.d nmsD dfsD strsD edsD retC_ret nm_eq df_eq take_map_len take_map_app
  nm_t nm_d nm_td df_t df_d df_td str_t str_d str_td ed_t ed_d ed_td
  evalAppendIn evalCut evalClear evalCopy evalMake evalWrap evalCap evalNil isNilC lenL isInp gorc
  mapOf findD keyEq keyOk evalMakeMap evalRange zeroD zeroDV argsG shutG outN lenv retG0_ret retG0_normal retG1_ret renO close_mp touch_mp ren_mp optAll_d optAll_d' touch_ds cellsL_mp cellsD_mp cellsL_dmp

/-- culprit/edit.Closed$1 -/
theorem Closed1_ok (l : List Nm) (n : Nm) : Ok Tryz.prog 76 [n.d, .ro [nmsD l]] ⟨.d (.bool (!decide (n ∈ l))), true⟩ := by
  refine Ok.ret Tryz.func76 (by kernel_rfl) (c := _) rfl Tryz.ntmps76 (by simp) Tryz.results76 (by intro _ h; cases h) fun w0 X hp => ?_
  refine LWp.seq ?_
  refine LWp.reg hT hW (fun _ => none) (fun _ => ⟨rfl, fun _ h => h⟩) ?_
  simp
  refine LWp.seq ?_
  refine LWp.reg hT hW (fun | 6 => some <| .plain ⟨.d (.bool (decide (n ∈ l))), true⟩ | _ => none) (by intro d; first | exact ⟨rfl, fun _ h => h⟩ | (split <;> exact ⟨rfl, fun _ h => h⟩)) ?_
  simp
  refine ⟨InNm_ok l n, ?_⟩
  refine LWp.ret ?_
  simp

/-- culprit/edit.Closed -/
theorem EClosed_ok (l : List Ed) (set : List Nm) : Ok Tryz.prog 20 [edsD l, nmsD set] ⟨.d (.bool (closedB l set)), true⟩ := by
  refine Ok.ret Tryz.func20 (by kernel_rfl) (c := _) rfl Tryz.ntmps20 (by simp) Tryz.results20 (by intro _ h; cases h) fun w0 X hp => ?_
  refine LWp.len (t := 1) rfl fun hlen => ?_
  simp at hlen
  refine LWp.seq ?_
  refine LWp.reg hT hW (fun _ => none) (fun _ => ⟨rfl, fun _ h => h⟩) ?_
  simp
  refine LWp.seq ?_
  refine LWp.seq ?_
  refine LWp.reg hT hW (fun _ => none) (fun _ => ⟨rfl, fun _ h => h⟩) ?_
  simp
  refine LWp.block ?_
  refine LWp.loopW (ι := Nat) (fun i => mkEnv [(0, .d (edsD l)), (3, .bx 3 0), (8, .d (nmsD set)), (9, .d (I64 set.length)), (10, .d (I64 i))]) (fun i => mkObs [(3, .box false [.d (nmsD set)])]) (fun i => i ≤ set.length ∧ Pre (fun n => !closedAt l set n) set i) (fun i => set.length - i) 0 (Weak.to [0, 3, 8, 9, 10] [(3, 3)] (by decide) (by decide) (by simp [hp]) (by simp) (by simp)) (⟨Nat.zero_le _, Pre.zero⟩) fun i hi2 => ?_
  refine LWp.seq ?_
  refine LWp.reg hT hW (fun _ => none) (fun _ => ⟨rfl, fun _ h => h⟩) ?_
  simp
  refine LWp.seq ?_
  refine LWp.iff ?_
  simp
  refine ⟨fun h2 => ?_, fun h2 => ?_⟩
  · refine LWp.skip ?_
    simp
    refine LWp.seq ?_
    refine LWp.block ?_
    refine LWp.seq ?_
    refine LWp.reg hT hW (fun _ => none) (fun _ => ⟨rfl, fun _ h => h⟩) ?_
    simp [h2]
    refine LWp.seq ?_
    refine LWp.reg hT hW (fun | 16 => some <| .plain ⟨.d (I64 (findI l set[i])), true⟩ | _ => none) (by intro d; first | exact ⟨rfl, fun _ h => h⟩ | (split <;> exact ⟨rfl, fun _ h => h⟩)) ?_
    simp
    refine ⟨EFind_ok l set[i], ?_⟩
    refine LWp.seq ?_
    rcases Int.lt_or_le (findI l set[i]) 0 with hneg | hneg
    · refine LWp.reg hT hW (fun _ => none) (by intro d; first | exact ⟨rfl, fun _ h => h⟩ | (split <;> exact ⟨rfl, fun _ h => h⟩)) ?_
      simp [hneg]
      refine LWp.iff ?_
      simp [hneg]
      refine LWp.seq ?_
      refine LWp.reg hT hW (fun _ => none) (fun _ => ⟨rfl, fun _ h => h⟩) ?_
      simp
      refine LWp.ret ?_
      simp
      exact closedB_false h2 (by simp [closedAt, hneg])
    · obtain ⟨i0, hi0, hfi, hfe, hne⟩ := edit_find (show ¬ findI l set[i] < 0 by omega)
      refine LWp.reg hT hW (fun | 26 => some <| .plain ⟨.d (.bool (l[i0].needs.any fun m => !decide (m ∈ set))), true⟩ | _ => none) (by intro d; first | exact ⟨rfl, fun _ h => h⟩ | (split <;> exact ⟨rfl, fun _ h => h⟩)) ?_
      simp [hfe, hi0]
      refine ⟨AnyNm_ok _ _ _ _ fun n _ => Closed1_ok set n, ?_⟩
      refine LWp.iff ?_
      simp
      refine ⟨fun h5 => ?_, fun h5 => ?_⟩
      · refine LWp.seq ?_
        refine LWp.reg hT hW (fun _ => none) (fun _ => ⟨rfl, fun _ h => h⟩) ?_
        simp
        refine LWp.ret ?_
        simp
        refine closedB_false h2 ?_
        have : ¬ findI l set[i] < 0 := by omega
        simp [closedAt, this, hne]
        rcases h5 with h | h
        · omega
        · exact h
      · refine LWp.skip ?_
        simp
        refine LWp.reg hT hW (fun _ => none) (fun _ => ⟨rfl, fun _ h => h⟩) ?_
        simp
        refine ⟨by omega, ?_⟩
        refine loopQ.mk (i + 1) (Weak.to [0, 3, 8, 9, 10] [(3, 3)] (by decide) (by decide) (by simp [hp]) (by simp) (by simp)) ?_ ?_
        · refine ⟨h2, hi2.2.succ h2 ?_⟩
          have : ¬ findI l set[i] < 0 := by omega
          simp [closedAt, this, hne]
          exact h5
        · omega
  · refine LWp.exit ?_
    simp
    refine LWp.seq ?_
    refine LWp.reg hT hW (fun _ => none) (fun _ => ⟨rfl, fun _ h => h⟩) ?_
    simp
    refine LWp.ret ?_
    simp
    exact closedB_true hi2.2 h2

/-- slices.Clone[[]culprit/api.Name,culprit/api.Name] -/
theorem CloneNm_ok (l : List Nm) (hl : l.length ≤ 8000000000000) : Ok Tryz.prog 71 [nmsD l] ⟨.own 2 (l.map Nm.d), true⟩ := by
  refine Ok.ret Tryz.func71 (by kernel_rfl) (c := _) rfl Tryz.ntmps71 (by simp) Tryz.results71 (by intro _ h; cases h) fun w0 X hp => ?_
  refine LWp.seq ?_
  refine LWp.reg hT hW (fun _ => none) (fun _ => ⟨rfl, fun _ h => h⟩) ?_
  simp
  refine LWp.seq ?_
  refine LWp.seq ?_
  refine LWp.regNil hT hW 4 (decide (l = [])) (fun _ => none) (fun _ => ⟨rfl, fun _ h => h⟩) (by kernel_rfl) fun b1 hb1 => ?_
  simp
  refine LWp.iff ?_
  simp
  refine ⟨fun h1 => ?_, fun h1 => ?_⟩
  · refine LWp.seq ?_
    refine LWp.reg hT hW (fun _ => none) (fun _ => ⟨rfl, fun _ h => h⟩) ?_
    simp
    refine LWp.ret ?_
    have := hb1 h1
    simp at this
    simp [this]
  · refine LWp.skip ?_
    simp
    refine LWp.seq ?_
    refine LWp.reg hT hW (fun _ => none) (fun _ => ⟨rfl, fun _ h => h⟩) ?_
    simp
    refine ⟨by omega, ?_⟩
    refine LWp.ret ?_
    simp

theorem del_row {b t : List DV} {n k : Nat} (hn : b.length = n) (hk : k < n) (z : DV) :
    List.take (n - 1) (List.take k (b ++ t) ++ (List.take (n - (k + 1)) (List.drop (k + 1) (b ++ t)) ++ List.drop (k + (n - (k + 1))) (b ++ t))) ++ z :: List.drop (n - 1 + 1) (List.take k (b ++ t) ++ (List.take (n - (k + 1)) (List.drop (k + 1) (b ++ t)) ++ List.drop (k + (n - (k + 1))) (b ++ t))) = b.eraseIdx k ++ z :: t := by
  have e0 : List.take k (b ++ t) = List.take k b := by rw [List.take_append_of_le_length (by omega)]
  have e1 : List.take (n - (k + 1)) (List.drop (k + 1) (b ++ t)) = List.drop (k + 1) b := by
    rw [List.drop_append_of_le_length (by omega), List.take_append_of_le_length (by simp; omega), List.take_of_length_le (by simp; omega)]
  have e2 : List.drop (k + (n - (k + 1))) (b ++ t) = List.drop (n - 1) b ++ t := by
    rw [show k + (n - (k + 1)) = n - 1 by omega, List.drop_append_of_le_length (by omega)]
  rw [e0, e1, e2, ← List.append_assoc, ← List.eraseIdx_eq_take_drop_succ]
  have hl : (b.eraseIdx k).length = n - 1 := by rw [List.length_eraseIdx]; simp [hn, hk]
  rw [List.take_append_of_le_length (by omega), List.take_of_length_le (by omega), ← List.append_assoc, List.drop_append_of_le_length (by simp [hl, hn]; omega), List.drop_eq_nil_of_le (by simp [hl, hn]; omega), List.nil_append]
theorem map_erase {α β : Type} (f : α → β) (l : List α) (k : Nat) : (l.map f).eraseIdx k = (l.eraseIdx k).map f := by
  rw [List.eraseIdx_eq_take_drop_succ, List.eraseIdx_eq_take_drop_succ, List.map_append, List.map_take, List.map_drop]
theorem nmt_td {l : List Nm} {t : List DV} (ht : ∀ y ∈ t, (cellsD y).length = 2) {n k : Nat} : (∀ y ∈ List.take n (List.drop k (List.map Nm.d l ++ t)), (cellsD y).length = 2) ↔ True := iff_true_intro fun y hy => by
  rcases List.mem_append.1 (mem_part hy) with h | h
  · exact (nm_mem h).1
  · exact ht y h

/-- slices.Delete[[]culprit/api.Name,culprit/api.Name] -/
theorem DeleteNm_ok (l : List Nm) (t : List DV) (ht : ∀ y ∈ t, (cellsD y).length = 2) (k : Nat) (hk : k < l.length) : OkG Tryz.prog 138 [.ow 0 0 l.length, .d (I64 k), .d (I64 (k + 1))] [(0, .row false 2 (l.map Nm.d ++ t))] [(0, .row false 2 ((l.eraseIdx k).map Nm.d ++ Nm.d ⟨0, 0⟩ :: t))] (.ow 0 0 (l.length - 1)) := by
  refine OkG.one Tryz.func138 (by kernel_rfl) (c := _) rfl Tryz.ntmps138 (by simp) Tryz.results138 fun w0 X hp => ?_
  refine LWp.seq ?_
  refine LWp.reg hT hW (fun _ => none) (fun _ => ⟨rfl, fun _ h => h⟩) ?_
  simp
  refine LWp.seq ?_
  refine LWp.reg hT hW (fun | 13 => some .inp | _ => none) (by intro d; first | exact ⟨rfl, fun _ h => h⟩ | (split <;> exact ⟨rfl, fun _ h => h⟩)) ?_
  simp
  refine ⟨by omega, ?_⟩
  refine LWp.seq ?_
  refine LWp.seq ?_
  refine LWp.reg hT hW (fun _ => none) (fun _ => ⟨rfl, fun _ h => h⟩) ?_
  simp [(show ¬ ((k : Int) = (k : Int) + 1) by omega)]
  refine LWp.iff ?_
  simp
  refine LWp.skip ?_
  simp
  refine LWp.seq ?_
  refine LWp.reg hT hW (fun _ => none) (fun _ => ⟨rfl, fun _ h => h⟩) ?_
  simp
  refine LWp.seq ?_
  refine LWp.regAny hT hW hMixed (lk [[], [], [0, 1], [], [], [3, 4], [0, 1, 2, 3, 4, 5], [0, 1, 2, 3, 4, 5, 6]]) (lk [[], [], [], [], [], [], [], []]) (lk [[], [], [], [], [], [], [0, 26], []]) (by kernel_rfl) (fun | 26 => some .inp | _ => none) (by intro d; first | exact ⟨rfl, fun _ h => h⟩ | (split <;> exact ⟨rfl, fun _ h => h⟩)) ?_
  simp [(show ((l.length : Int) - ((k : Int) + 1)).toNat = l.length - (k + 1) by omega), (show l.length - (k + 1) ≤ l.length + t.length - (k + 1) by omega), nmt_td ht]
  refine ⟨by omega, ?_⟩
  refine LWp.seq ?_
  refine LWp.reg hT hW (fun _ => none) (fun _ => ⟨rfl, fun _ h => h⟩) ?_
  simp [(show ((k : Int) + ((l.length - (k + 1) : Nat) : Int)).toNat = l.length - 1 by omega), (show ((l.length : Int) - ((k : Int) + ((l.length - (k + 1) : Nat) : Int))).toNat = 1 by omega)]
  refine ⟨by omega, ?_⟩
  refine LWp.seq ?_
  refine LWp.reg hT hW (fun _ => none) (fun _ => ⟨rfl, fun _ h => h⟩) ?_
  simp
  refine LWp.ret ?_
  simp
  refine Weak.to [6] [(0, 0)] (by decide) (by decide) (by simp [hp]) ?_ ?_
  · simp [show k + (l.length - (k + 1)) = l.length - 1 by omega]
  · simp
    rw [del_row (by simp) hk, map_erase]

def zeroNm : Nm := ⟨0, 0⟩
theorem dedup_one {l : List Nm} : dedup (l.take 1) = l.take 1 := by cases l <;> simp [dedup]
theorem dedup_small {l : List Nm} (h : l.length < 2) : dedup l = l := by
  match l, h with
  | [], _ => rfl
  | [_], _ => rfl
theorem drop_get {α : Type} {a b : List α} {p i : Nat} (h : a.drop p = b.drop p) (hp : p ≤ i) (ha : i < a.length) (hb : i < b.length) : a[i] = b[i] := by
  have h1 := congrArg (·[i - p]?) h
  simp only [List.getElem?_drop, show p + (i - p) = i by omega, List.getElem?_eq_getElem ha, List.getElem?_eq_getElem hb] at h1
  exact Option.some.inj h1
theorem getD_map {α : Type} {f : α → DV} {l : List α} {i : Nat} (h : i < l.length) : (l.map f)[i]?.getD default = f l[i] := by simp [h]

/-- slices.Compact[[]culprit/api.Name,culprit/api.Name] -/
theorem CompactNm_ok (l : List Nm) (hl : l.length ≤ 8000000000000) : OkG Tryz.prog 81 [.ow 0 0 l.length] [(0, .row false 2 (l.map Nm.d))] [(0, .row false 2 ((dedup l).map Nm.d ++ List.replicate (l.length - (dedup l).length) zeroNm.d))] (.ow 0 0 (dedup l).length) := by
  refine OkG.one Tryz.func81 (by kernel_rfl) (c := _) rfl Tryz.ntmps81 (by simp) Tryz.results81 fun w0 X hp => ?_
  refine LWp.seq ?_
  refine LWp.reg hT hW (fun _ => none) (fun _ => ⟨rfl, fun _ h => h⟩) ?_
  simp
  refine LWp.seq ?_
  refine LWp.seq ?_
  refine LWp.reg hT hW (fun _ => none) (fun _ => ⟨rfl, fun _ h => h⟩) ?_
  simp
  refine LWp.iff ?_
  simp
  refine ⟨fun h1 => ?_, fun h1 => ?_⟩
  · refine LWp.seq ?_
    refine LWp.reg hT hW (fun _ => none) (fun _ => ⟨rfl, fun _ h => h⟩) ?_
    simp
    refine LWp.ret ?_
    simp
    refine Weak.to [2] [(0, 0)] (by decide) (by decide) (by simp [hp]) ?_ ?_
    · simp [dedup_small (by omega : l.length < 2)]
    · simp [dedup_small (by omega : l.length < 2)]
  · refine LWp.skip ?_
    simp
    refine LWp.seq ?_
    refine LWp.seq ?_
    refine LWp.reg hT hW (fun _ => none) (fun _ => ⟨rfl, fun _ h => h⟩) ?_
    simp
    refine LWp.block ?_
    refine LWp.loopW (ι := Nat) (fun k => mkEnv [(0, .ow 0 0 l.length), (3, .d (I64 k))]) (fun k => mkObs [(0, .row false 2 (l.map Nm.d))]) (fun k => 1 ≤ k ∧ k ≤ l.length ∧ dedup (l.take k) = l.take k) (fun k => l.length - k) 1 (Weak.to [0, 3] [(0, 0)] (by decide) (by decide) (by simp [hp]) (by simp) (by simp)) (⟨by omega, by omega, dedup_one⟩) fun k hi4 => ?_
    refine LWp.seq ?_
    refine LWp.seq ?_
    refine LWp.reg hT hW (fun _ => none) (fun _ => ⟨rfl, fun _ h => h⟩) ?_
    simp
    refine LWp.iff ?_
    simp
    refine ⟨fun h4 => ?_, fun h4 => ?_⟩
    · refine LWp.skip ?_
      simp
      refine LWp.seq ?_
      refine LWp.block ?_
      refine LWp.seq ?_
      refine LWp.regAny hT hW hMixed (lk [[], [], [0, 1], [0, 1, 2], [], [], [5], [4, 5, 6], [4, 5, 6, 7], [0, 1, 2, 3, 4, 5, 6, 7, 8]]) (lk [[], [], [], [], [], [], [], [], [], []]) (lk [[], [], [], [], [], [], [], [], [], []]) (by kernel_rfl) (fun _ => none) (fun _ => ⟨rfl, fun _ h => h⟩) ?_
      simp [(show ((k : Int) - 1).toNat = k - 1 by omega), h4, (show k - 1 < l.length by omega)]
      refine ⟨by omega, ?_⟩
      refine LWp.iff ?_
      simp
      refine ⟨fun h6 => ?_, fun h6 => ?_⟩
      · refine LWp.seq ?_
        refine LWp.reg hT hW (fun _ => none) (fun _ => ⟨rfl, fun _ h => h⟩) ?_
        simp
        refine ⟨by omega, ?_⟩
        refine LWp.seq ?_
        refine LWp.seq ?_
        refine LWp.reg hT hW (fun _ => none) (fun _ => ⟨rfl, fun _ h => h⟩) ?_
        simp
        refine LWp.block ?_
        refine LWp.loopW (ι := Nat × Nat × List Nm) (fun ⟨q, k', r⟩ => mkEnv [(0, .ow 0 0 l.length), (3, .d (I64 k')), (4, .ow 0 k (l.length - k)), (5, .d (I64 q))]) (fun ⟨q, k', r⟩ => mkObs [(0, .row false 2 (r.map Nm.d))]) (fun ⟨q, k', r⟩ => 1 ≤ q ∧ k + q ≤ l.length ∧ 1 ≤ k' ∧ k' + 1 ≤ k + q ∧ r.length = l.length ∧ r.take k' = dedup (l.take (k + q)) ∧ r.drop (k + q - 1) = l.drop (k + q - 1)) (fun ⟨q, k', r⟩ => l.length - k - q) (1, k, l) (Weak.to [0, 3, 4, 5] [(0, 0)] (by decide) (by decide) (by simp [hp]) (by simp) (by simp)) (⟨by omega, by omega, by omega, by omega, rfl, by rw [dedup_take (by omega) h4, if_pos h6.symm, hi4.2.2], rfl⟩) fun ⟨q, k', r⟩ hi9 => ?_
        refine LWp.seq ?_
        refine LWp.seq ?_
        refine LWp.reg hT hW (fun _ => none) (fun _ => ⟨rfl, fun _ h => h⟩) ?_
        simp
        refine LWp.iff ?_
        simp
        refine ⟨fun h9 => ?_, fun h9 => ?_⟩
        · refine LWp.skip ?_
          simp
          refine LWp.seq ?_
          refine LWp.block ?_
          refine LWp.seq ?_
          obtain ⟨g1, g2, g3, g4, g5, g6, g7⟩ := hi9
          have hq : k + q < l.length := by omega
          have e1 : r[k + q]'(by omega) = l[k + q] := drop_get g7 (by omega) (by omega) hq
          have e2 : r[k + (q - 1)]'(by omega) = l[k + (q - 1)] := drop_get g7 (by omega) (by omega) (by omega)
          refine LWp.regAny hT hW hMixed (lk [[], [], [0, 1], [0, 1, 2], [], [], [5], [4, 5, 6], [4, 5, 6, 7], [0, 1, 2, 3, 4, 5, 6, 7, 8]]) (lk [[], [], [], [], [], [], [], [], [], []]) (lk [[], [], [], [], [], [], [], [], [], []]) (by kernel_rfl) (fun _ => none) (fun _ => ⟨rfl, fun _ h => h⟩) ?_
          simp [(show ((q : Int) - 1).toNat = q - 1 by omega), (show k + q < r.length by omega), (show k + (q - 1) < r.length by omega), e1, e2]
          refine ⟨by omega, ?_⟩
          refine LWp.iff ?_
          simp
          refine ⟨fun h11 => ?_, fun h11 => ?_⟩
          · refine LWp.seq ?_
            refine LWp.reg hT hW (fun _ => none) (fun _ => ⟨rfl, fun _ h => h⟩) ?_
            simp [(show k + q < r.length by omega), e1]
            refine ⟨by omega, ?_⟩
            refine LWp.reg hT hW (fun _ => none) (fun _ => ⟨rfl, fun _ h => h⟩) ?_
            simp
            refine ⟨by omega, ?_⟩
            refine LWp.reg hT hW (fun _ => none) (fun _ => ⟨rfl, fun _ h => h⟩) ?_
            simp
            refine ⟨by omega, ?_⟩
            refine loopQ.mk (q + 1, k' + 1, r.set k' l[k + q]) (Weak.to [0, 3, 4, 5] [(0, 0)] (by decide) (by decide) (by simp [hp]) (by simp) (by simp)) ?_ ?_
            · have hk' : k' < r.length := by omega
              have e3 : ¬ l[k + q - 1] = l[k + q] := fun e => h11 (by rw [← e]; congr 1; omega)
              dsimp only
              refine ⟨by omega, by omega, by omega, by omega, by simp [g5], ?_, ?_⟩
              · rw [List.take_succ_eq_append_getElem (by simpa using hk'), List.getElem_set_self, List.take_set_of_le (by omega), g6, ← Nat.add_assoc, dedup_take (by omega) hq, if_neg e3]
              · have g8 := congrArg (List.drop 1) g7
                rw [List.drop_drop, List.drop_drop, show k + q - 1 + 1 = k + q by omega] at g8
                rw [show k + (q + 1) - 1 = k + q by omega, List.drop_set_of_lt (by omega), g8]
            · omega
          · refine LWp.skip ?_
            simp
            refine LWp.reg hT hW (fun _ => none) (fun _ => ⟨rfl, fun _ h => h⟩) ?_
            simp
            refine ⟨by omega, ?_⟩
            refine loopQ.mk (q + 1, k', r) (Weak.to [0, 3, 4, 5] [(0, 0)] (by decide) (by decide) (by simp [hp]) (by simp) (by simp)) ?_ ?_
            · have e3 : l[k + q - 1] = l[k + q] := by rw [h11]; congr 1; omega
              dsimp only
              refine ⟨by omega, by omega, by omega, by omega, g5, ?_, ?_⟩
              · rw [g6, ← Nat.add_assoc, dedup_take (by omega) hq, if_pos e3]
              · have g8 := congrArg (List.drop 1) g7
                rw [List.drop_drop, List.drop_drop, show k + q - 1 + 1 = k + q by omega] at g8
                rw [show k + (q + 1) - 1 = k + q by omega, g8]
            · omega
        · refine LWp.exit ?_
          simp
          refine LWp.seq ?_
          refine LWp.reg hT hW (fun _ => none) (fun _ => ⟨rfl, fun _ h => h⟩) ?_
          simp
          refine ⟨by omega, ?_⟩
          refine LWp.seq ?_
          refine LWp.reg hT hW (fun _ => none) (fun _ => ⟨rfl, fun _ h => h⟩) ?_
          simp
          refine ⟨by omega, ?_⟩
          refine LWp.ret ?_
          simp
          obtain ⟨g1, g2, g3, g4, g5, g6, g7⟩ := hi9
          have hq : k + q = l.length := by omega
          rw [hq, List.take_length] at g6
          have hkl : (dedup l).length = k' := by rw [← g6]; simp; omega
          refine Weak.to [2] [(0, 0)] (by decide) (by decide) (by simp [hp]) ?_ ?_
          · simp [hkl]
          · have hd : List.drop (k' + (l.length - k')) (List.map Nm.d r) = [] := List.drop_eq_nil_of_le (by simp; omega)
            simp
            rw [hd, hkl, ← g6, List.map_take, List.append_nil]
            rfl
      · refine LWp.skip ?_
        simp
        refine LWp.reg hT hW (fun _ => none) (fun _ => ⟨rfl, fun _ h => h⟩) ?_
        simp
        refine ⟨by omega, ?_⟩
        refine loopQ.mk (k + 1) (Weak.to [0, 3] [(0, 0)] (by decide) (by decide) (by simp [hp]) (by simp) (by simp)) ?_ ?_
        · have e6 : ¬ l[k - 1] = l[k] := fun e => h6 e.symm
          exact ⟨by omega, h4, by rw [dedup_take (by omega) h4, if_neg e6, hi4.2.2]; simp⟩
        · omega
    · refine LWp.exit ?_
      simp
      refine LWp.seq ?_
      refine LWp.reg hT hW (fun _ => none) (fun _ => ⟨rfl, fun _ h => h⟩) ?_
      simp
      refine LWp.ret ?_
      simp
      have q : k = l.length := by omega
      have e := hi4.2.2
      rw [q, List.take_length] at e
      refine Weak.to [2] [(0, 0)] (by decide) (by decide) (by simp [hp]) ?_ ?_
      · simp [e]
      · simp [e]

end Go.Eng

/-
  Chapter 22, plain: the order of a closed set. No condition.
-/
namespace Go.Eng

def Acyc (l : List Ed) : Prop := ∀ n, ¬ Reach l n n
def readyN (l : List Ed) (out : List Nm) (n : Nm) : Bool := (needsOf l n).all fun m => decide (m ∈ out)
def orderF (l : List Ed) : Nat → List Nm → List Nm → List Nm
  | 0, _, out => out
  | f + 1, rest, out => match rest.findIdx? (readyN l out) with
    | some k => orderF l f (rest.eraseIdx k) (out ++ [rest.getD k default])
    | none => out
def orderN (l : List Ed) (set : List Nm) : List Nm := orderF l (sortN set).length (sortN set) []
theorem orderF_succ {l : List Ed} {f : Nat} {rest out : List Nm} {k : Nat} (h : rest.findIdx? (readyN l out) = some k) (hk : k < rest.length) : orderF l (f + 1) rest out = orderF l f (rest.eraseIdx k) (out ++ [rest[k]]) := by
  simp only [orderF, h]
  simp [hk]

def dep (l : List Ed) (n : Nm) : Nat := ((allNeeds l).filter fun x => decide (x ∈ aboveL l n)).length
theorem dep_lt {l : List Ed} {n m : Nm} (h : m ∈ needsOf l n) (ha : ¬ Reach l m m) : dep l m < dep l n :=
  filter_lt (m := m) (fun x hx => by simp [mem_aboveL] at hx ⊢; exact .next h hx) (needs_all h) (by simp [mem_aboveL]; exact .one h) (by simp [mem_aboveL, ha])
theorem ready_ex {l : List Ed} (ha : Acyc l) {rest out : List Nm} (hc : ∀ n ∈ rest, ∀ m ∈ needsOf l n, m ∈ rest ∨ m ∈ out) : ∀ (d : Nat) (n : Nm), n ∈ rest → dep l n < d → ∃ x ∈ rest, readyN l out x = true
  | 0, _, _, h => absurd h (Nat.not_lt_zero _)
  | d + 1, n, hn, hd => by
    cases q : readyN l out n with
    | true => exact ⟨n, hn, q⟩
    | false =>
      unfold readyN at q
      obtain ⟨m, hm, hmo⟩ := List.all_eq_false.1 q
      have hmo : m ∉ out := by simpa using hmo
      have hmr : m ∈ rest := (hc n hn m hm).resolve_right hmo
      exact ready_ex ha hc d m hmr (by have := dep_lt hm (ha m); omega)
theorem ready_at {l : List Ed} (ha : Acyc l) {rest out : List Nm} (hc : ∀ n ∈ rest, ∀ m ∈ needsOf l n, m ∈ rest ∨ m ∈ out) (h0 : 0 < rest.length) : ∃ k, rest.findIdx? (readyN l out) = some k ∧ k < rest.length := by
  obtain ⟨x, hx, hr⟩ := ready_ex ha hc (dep l (rest[0]) + 1) rest[0] (List.getElem_mem h0) (Nat.lt_succ_self _)
  cases q : rest.findIdx? (readyN l out) with
  | none => rw [List.findIdx?_eq_none_iff] at q; have := q x hx; rw [hr] at this; cases this
  | some k => exact ⟨k, rfl, (List.findIdx?_eq_some_iff_getElem.1 q).1⟩
/-- What is left stays closed. -/
theorem closed_step {l : List Ed} {rest out : List Nm} (hc : ∀ n ∈ rest, ∀ m ∈ needsOf l n, m ∈ rest ∨ m ∈ out) {k : Nat} (hk : k < rest.length) :
    ∀ n ∈ rest.eraseIdx k, ∀ m ∈ needsOf l n, m ∈ rest.eraseIdx k ∨ m ∈ out ++ [rest[k]] := by
  intro n hn m hm
  have hn' : n ∈ rest := List.mem_of_mem_eraseIdx hn
  rcases hc n hn' m hm with h | h
  · by_cases e : m = rest[k]
    · exact .inr (by simp [e])
    · refine .inl (List.mem_eraseIdx_iff_getElem.2 ?_)
      obtain ⟨i, hi, rfl⟩ := List.getElem_of_mem h
      exact ⟨i, hi, fun e' => e (by subst e'; rfl), rfl⟩
  · exact .inr (by simp [h])

theorem validFrom_ok {l : List Ed} : ∀ (r : List Ed) (i : Nat), (validFrom l r i).2 = 0 → ∀ (j : Nat) (h : j < r.length), errE l (i + j) r[j] = 0
  | [], _, _, j, h => absurd h (Nat.not_lt_zero _)
  | e :: r, i, hv, j, h => by
    simp only [validFrom] at hv
    split at hv
    · rename_i he
      cases j with
      | zero => simpa using he
      | succ j => have := validFrom_ok r (i + 1) hv j (by simpa using h); simpa [Nat.add_assoc, Nat.add_comm 1] using this
    · rename_i he; exact absurd hv he
theorem valid_err {l : List Ed} (h : (validV l).2 = 0) : l.length ≤ 64 ∧ ∀ (j : Nat) (hj : j < l.length), errE l j l[j] = 0 := by
  unfold validV at h
  split at h
  · cases h
  · rename_i hl
    exact ⟨by omega, fun j hj => by have := validFrom_ok l 0 h j hj; simpa using this⟩
theorem errE_zero {l : List Ed} {i : Nat} {e : Ed} (h : errE l i e = 0) : properE e = true ∧ (i : Int) ≤ findI l e.name ∧ (∀ n ∈ e.needs, 0 ≤ findI l n) ∧ e.name ∉ aboveL l e.name := by
  unfold errE at h
  split at h
  · cases h
  · rename_i h1
    split at h
    · cases h
    · rename_i h2
      split at h
      · cases h
      · rename_i h3
        split at h
        · cases h
        · rename_i h4
          refine ⟨by simpa using h1, by omega, fun n hn => ?_, h4⟩
          have := List.any_eq_false.1 (by simpa using h3 : (e.needs.any fun n => decide (findI l n < 0)) = false) n hn
          simp at this; exact this
theorem find_at {l : List Ed} {n : Nm} {i : Nat} (h : find? l n = some i) : ∃ hi : i < l.length, l[i].name = n ∧ needsOf l n = l[i].needs := by
  unfold find? at h
  obtain ⟨hi, h1, _⟩ := List.findIdx?_eq_some_iff_getElem.1 h
  refine ⟨hi, by simpa using h1, ?_⟩
  unfold needsOf find?
  rw [h]
  simp [hi]
theorem valid_acyc {l : List Ed} (h : (validV l).2 = 0) : Acyc l := by
  obtain ⟨_, he⟩ := valid_err h
  intro n hr
  have hne : needsOf l n ≠ [] := by
    cases hr with
    | one h => exact List.ne_nil_of_mem h
    | next h _ => exact List.ne_nil_of_mem h
  cases q : find? l n with
  | none => exact hne (by unfold needsOf; rw [q])
  | some i =>
    obtain ⟨hi, e1, _⟩ := find_at q
    have := (errE_zero (he i hi)).2.2.2
    rw [e1] at this
    exact this (mem_aboveL.2 hr)
def orderV (l : List Ed) (set : List Nm) : List Nm × Int := if (validV l).2 ≠ 0 then ([], (validV l).2) else if closedB l set = false then ([], 10) else (orderN l set, 0)

/-- The least closed set with some names; 6: there is none. -/
def closureV (l : List Ed) (set : List Nm) : List Nm × Int := if closedB l (set ++ set.flatMap (aboveL l)) = false then ([], 6) else (sortN (set ++ set.flatMap (aboveL l)), 0)
theorem closedB_mem {l : List Ed} {a b : List Nm} (h : ∀ x, x ∈ a ↔ x ∈ b) : closedB l a = closedB l b := by
  rw [Bool.eq_iff_iff]
  unfold closedB closedAt
  simp only [List.all_eq_true, Bool.and_eq_true, Bool.not_eq_true', decide_eq_false_iff_not, decide_eq_true_eq, h]
theorem sortN_mem {a b : List Nm} (h : ∀ x, x ∈ a ↔ x ∈ b) : sortN a = sortN b := by
  refine rising_eq Nm.sto (sortN_spec a).1 (sortN_spec b).1 fun x => ?_
  rw [(sortN_spec a).2, (sortN_spec b).2, h]
theorem closureV_perm {l : List Ed} {set out : List Nm} (h : out.Perm (set ++ set.flatMap (aboveL l))) : closureV l set = if closedB l out = false then ([], 6) else (sortN out, 0) := by
  have hm : ∀ x, x ∈ out ↔ x ∈ set ++ set.flatMap (aboveL l) := fun x => h.mem_iff
  unfold closureV
  rw [closedB_mem hm, sortN_mem hm]
end Go.Eng

/-
  The engine, part W: slices.SortFunc by the shelf's contract, at a struct whose cells are plain. No condition.
-/
namespace Go.Eng
open Go.RowKit Go.Shelf Go.Sort Go.Proofs

theorem bel_grow {W w' : World} (h : Bel W.heap.size W w') : ∃ q os', w' = grow (W.drewN q) os' := by
  refine ⟨w'.drawn - W.drawn, w'.heap.extract W.heap.size w'.heap.size, ?_⟩
  obtain ⟨heap, tape, drawn, os, output⟩ := w'
  obtain ⟨h1, h2, h3, h4, h5, h6⟩ := h
  simp only at h1 h2 h3 h4 h5 h6
  subst h1; subst h2; subst h3
  unfold grow World.drewN
  congr 1
  · apply Array.ext_getElem?
    intro i
    rw [Array.getElem?_append]
    by_cases hi : i < W.heap.size
    · simp only [hi, if_true]; exact h5 i hi
    · simp only [hi, if_false]
      rw [Array.getElem?_extract]
      by_cases hj : i < heap.size
      · simp [show i - W.heap.size < heap.size - W.heap.size by omega, show W.heap.size + (i - W.heap.size) = i by omega]
      · simp [hj]; omega
  · simp only; omega

/-- A struct's cells, as plain values. -/
structure Cells {α : Type} (k : Nat) (d : α → DV) (enc : α → List Value) : Prop where
  pos : 0 < k
  len : ∀ x, (enc x).length = k
  lenD : ∀ x, (cellsD (d x)).length = k
  one : ∀ x, ∀ v ∈ enc x, v.oneCell' = true
  cell : ∀ (x : α) (i : Nat) (c : DV) (v : Value), (cellsD (d x))[i]? = some c → (enc x)[i]? = some v → ∀ w E u, RD w E c u ↔ u = v

theorem flatK_list {α : Type} [Inhabited α] {k : Nat} {d : α → DV} {enc : α → List Value} (C : Cells k d enc) (l : List α) : (flatK enc k l.toArray).toList = l.flatMap enc := by
  have hk := C.pos
  apply List.ext_getElem?
  intro i
  by_cases hi : i < l.length * k
  · have hlt : i / k < l.length := (Nat.div_lt_iff_lt_mul hk).2 hi
    have hm := Nat.mod_lt i hk
    have e1 : (l.flatMap enc)[i]? = (enc l[i / k])[i % k]? := by
      have key : ∀ (l : List α) (q r : Nat) (hq : q < l.length), r < k → (l.flatMap enc)[q * k + r]? = (enc l[q])[r]? := by
        intro l
        induction l with
        | nil => intro q r hq; simp at hq
        | cons x t ih =>
          intro q r hq hr
          simp only [List.flatMap_cons]
          cases q with
          | zero => rw [Nat.zero_mul, Nat.zero_add, List.getElem?_append_left (by rw [C.len]; exact hr)]; rfl
          | succ q =>
            rw [List.getElem?_append_right (by rw [C.len, Nat.add_mul]; omega), C.len, show (q + 1) * k + r - k = q * k + r by rw [Nat.add_mul]; omega]
            exact ih q r (by simpa using hq) hr
      have := key l (i / k) (i % k) hlt hm
      rw [show i / k * k + i % k = i by rw [Nat.mul_comm]; exact Nat.div_add_mod _ _] at this
      exact this
    rw [e1]
    have hr : i % k < (enc l[i / k]).length := by rw [C.len]; exact hm
    have e2 : (flatK enc k l.toArray)[i]? = some ((enc l.toArray[i / k]!)[i % k]!) := by simp [flatK, hi]
    rw [Array.getElem?_toList, e2, List.getElem?_eq_getElem hr]
    simp [hlt, hr]
  · rw [List.getElem?_eq_none (by simp [flatK]; omega), List.getElem?_eq_none]
    have : (l.flatMap enc).length = l.length * k := by
      clear hi
      induction l with
      | nil => simp
      | cons x t ih => simp only [List.flatMap_cons, List.length_append, C.len, ih, List.length_cons, Nat.add_mul]; omega
    omega

section
variable {P : Program} {ρ : Ren} {α : Type} [Inhabited α]

theorem flat_cells {α : Type} {k : Nat} {d : α → DV} {enc : α → List Value} (C : Cells k d enc) : ∀ (l : List α) (i : Nat) (c : DV) (v : Value), (flatD (l.map d))[i]? = some c → (l.flatMap enc)[i]? = some v → ∀ w E u, RD w E c u ↔ u = v
  | [], i, c, v, hc, _ => by simp [flatD] at hc
  | x :: t, i, c, v, hc, hv => by
    simp only [List.map_cons, flatD, List.flatMap_cons] at hc hv
    by_cases hi : i < k
    · rw [List.getElem?_append_left (by rw [C.lenD]; exact hi)] at hc
      rw [List.getElem?_append_left (by rw [C.len]; exact hi)] at hv
      exact C.cell x i c v hc hv
    · rw [List.getElem?_append_right (by rw [C.lenD]; omega), C.lenD] at hc
      rw [List.getElem?_append_right (by rw [C.len]; omega), C.len] at hv
      exact flat_cells C t (i - k) c v hc hv

theorem sortFunc_ok (L : SlLaysF0.n6 P ρ) {k : Nat} {d : α → DV} {enc : α → List Value} (C : Cells k d enc) (hagg : ∀ x w E v, RD w E (d x) v ↔ v = .agg (enc x).toArray) (aE : ∀ w, (isAgg (ρ.t 24)).run P w = .ok true w) (zE : ∀ w, (Go.sizeOf (ρ.t 24)).run P w = .ok k w) (cf : α → α → Int) (hO : SWO (ltOf cf))
    (hT : ∀ x y, (ltOf cf) x y = false → (ltOf cf) y x = false → x = y) (g : Nat) (hcmp : ∀ x y, Ok P g [d x, d y] ⟨.d (.int .i64 (cf x y)), true⟩) (hcl : Callable P (ρ.f 6)) (l : List α) (hl : l.length ≤ 8000000000000) :
    OkG P (ρ.f 6) [.ow 0 0 l.length, .d (.fn g [])] [(0, .row false k (l.map d))] [(0, .row false k ((l.mergeSort fun x y => !(ltOf cf) y x).map d))] (.tup []) := by
  have eg : ∀ args w, (callFunc g args).run P w = .ok (.enter g args) w := fun args w => by
    obtain ⟨fn, hf, hname, hb⟩ := (hcmp default default).1
    have h1 : fn.name ≠ "runtime.NumGoroutine" := by simpa using hname
    obtain ⟨c, hc⟩ := Option.isSome_iff_exists.1 hb
    simp [callFunc, hf, h1, hc]
  refine ⟨hcl, fun w X β vs m hvl hr => ?_⟩
  have hH : mkObs [(0, LObj.row false k (l.map d))] 0 = .row false k (l.map d) := by simp [mkObs, lookH]
  have hfin : ∀ o, mkObs [(0, o)] = upd (mkObs [(0, LObj.row false k (l.map d))]) 0 o := fun o => by
    funext j; simp only [mkObs, lookH, upd]; split <;> rfl
  generalize hHd : mkObs [(0, LObj.row false k (l.map d))] = H at *
  match vs, hvl with
  | [v0, v1], _ =>
  have r0 := hr 0 _ _ rfl rfl
  have r1 := hr 1 _ _ rfl rfl
  have e1 : v1 = .func (.func g) #[] #[] := by
    cases r1 with
    | d _ _ h => cases h with
      | fn _ _ us hl _ => have : us = [] := List.eq_nil_of_length_eq_zero hl; subst this; rfl
  subst e1
  have hlen : (l.map d).length = l.length := by simp
  rcases ow_cases m hH r0 with ⟨b, c, cur, e, rfl, hb, hkn, hn, hc, hblk, hroom, hcap⟩ | ⟨p, rfl, hz, _⟩
  · have hob := m.obj 0
    simp only [ObjR, hH] at hob
    obtain ⟨hpos, hall, hob⟩ := hob
    rcases hob with ⟨hnone, _⟩ | ⟨b', e', cur', hb', hblk', hlen', hpo⟩
    · rw [hnone] at hb; cases hb
    rw [hb] at hb'; injection hb' with hb'; subst hb'
    rw [hblk] at hblk'; injection hblk' with hblk'; injection hblk' with p1 p2; subst p1; subst p2
    have hfl : (l.flatMap enc).length = l.length * k := by
      rw [← flatK_list C l]; simp
    have hfd : (flatD (l.map d)).length = l.length * k := by rw [flat_len hall, hlen]
    rw [hlen] at hlen'
    have hhold : HoldsK enc k w b 0 l.toArray := by
      intro j hj
      simp only [size_flatK, List.size_toArray] at hj
      have hv : j < (l.flatMap enc).length := by omega
      have hg : (flatK enc k l.toArray)[j]! = (l.flatMap enc)[j] := by
        have : (flatK enc k l.toArray)[j]? = some ((l.flatMap enc)[j]) := by rw [← Array.getElem?_toList, flatK_list C l]; exact List.getElem?_eq_getElem hv
        simp [getElem!_def, this]
      have hjc : j < cur.size := by omega
      refine ⟨?_, ?_⟩
      · rw [cell_of_row w b _ cur e (0, 0) hblk, hg]
        have := (hpo j _ cur[j] (List.getElem?_eq_getElem (by omega)) (Array.getElem?_eq_getElem hjc)).2
        have := ((flat_cells C l j _ _ (List.getElem?_eq_getElem (by omega)) (List.getElem?_eq_getElem hv)) _ _ _).1 this
        simp only [Nat.zero_add, id]
        rw [Array.getElem?_eq_getElem hjc, this]
      · simp [World.frozen?, hblk]
    have hlb : b < w.heap.size := (Array.getElem?_eq_some_iff.1 hblk).1
    have hlays : CmpLays P g #[] enc k cf b 0 l.toArray.size w := fun q os dk _ x y => by
      refine ((hcmp x y).2 (sortWorldK enc k w b 0 q dk os) (fun _ => False) [.agg (enc x).toArray, .agg (enc y).toArray] (fun _ h => h.elim) ⟨rfl, fun i c v hc hv => ?_⟩).mono ?_
      · match i, hc, hv with
        | 0, hc, hv => simp at hc hv; subst hc; subst hv; exact (hagg x _ _ _).2 rfl
        | 1, hc, hv => simp at hc hv; subst hc; subst hv; exact (hagg y _ _ _).2 rfl
      · rintro e w' ⟨v, rfl, hbel, hret⟩
        refine ⟨?_, bel_grow hbel⟩
        obtain ⟨B, hB⟩ := hret
        cases hB; rfl
    have hcon := AnyQ.slices_SortFunc_total L k aE zE enc C.len C.one cf hO g #[] b 0 c l.toArray w eg hlays hhold hlb (by simp; omega) hT
    simp only [List.size_toArray] at hcon
    rw [show #[Value.slice (some ⟨b, 0, none⟩) l.length c, .func (.func g) #[] #[]] = [Value.slice (some ⟨b, 0 * k, none⟩) l.length c, .func (.func g) #[] #[]].toArray by rw [Nat.zero_mul]] at hcon
    refine hcon.mono ?_
    rintro ee w' ⟨rfl, n, os, rfl⟩
    generalize hs : (l.mergeSort fun x y => !(ltOf cf) y x) = s
    have hsl : s.length = l.length := by rw [← hs]; exact List.length_mergeSort _
    have hsf : (s.flatMap enc).length = l.length * k := by rw [← flatK_list C s]; simp [hsl]
    -- the row written
    have hput : (putRowK enc k (Sort.ahead w n) b 0 s.toArray).heap[b]? = some (.cells (putL 0 cur.toList (s.flatMap enc)).toArray e (0, 0)) := by
      have h1 : (putRowK enc k (Sort.ahead w n) b 0 s.toArray).heap[b]? = some (.cells (putCells id 0 (flatK enc k s.toArray) cur) e (0, 0)) := by
        unfold putRowK putRow mapBlock
        simp only [heap_ahead, Array.getElem?_modify, if_pos, hblk, Option.map_some]
        rfl
      rw [h1]
      congr 2
      apply Array.ext_getElem?
      intro i
      rw [show (putL 0 cur.toList (s.flatMap enc)).toArray[i]? = (putL 0 cur.toList (s.flatMap enc))[i]? from by simp, putL_get (by rw [Nat.zero_add, hsf]; simpa using hlen')]
      simp only [putCells, Array.getElem?_mapIdx, Nat.not_lt_zero, if_false, Nat.zero_add, size_flatK, List.size_toArray, hsl, hsf, Nat.sub_zero, Nat.zero_le, true_and]
      by_cases hi : i < l.length * k
      · have hic : i < cur.size := by omega
        simp only [hi, if_true, Array.getElem?_eq_getElem hic, Option.map_some, id]
        have hv : i < (s.flatMap enc).length := by omega
        have : (flatK enc k s.toArray)[i]? = some ((s.flatMap enc)[i]) := by rw [← Array.getElem?_toList, flatK_list C s]; exact List.getElem?_eq_getElem hv
        rw [List.getElem?_eq_getElem hv]
        simp [getElem!_def, this]
      · simp only [hi, if_false]
        rw [Array.getElem?_toList]
        cases cur[i]? <;> rfl
    have hother : ∀ j, j ≠ b → (putRowK enc k (Sort.ahead w n) b 0 s.toArray).heap[j]? = w.heap[j]? := fun j hj => by
      unfold putRowK putRow mapBlock
      simp only [heap_ahead, Array.getElem?_modify, Ne.symm hj, if_false]
    have hsize : (putRowK enc k (Sort.ahead w n) b 0 s.toArray).heap.size = w.heap.size := by unfold putRowK; simp
    have hpl : (putL 0 cur.toList (s.flatMap enc)).toArray.size = cur.size := by rw [List.size_toArray, putL_len (by rw [Nat.zero_add, hsf]; simpa using hlen')]; simp
    obtain ⟨m1, g1⟩ := m.rewriteG (id := 0) (b := b) (o' := .row false k (s.map d)) (w' := putRowK enc k (Sort.ahead w n) b 0 s.toArray) (by rw [hH]; rfl) hb rfl rfl rfl (Nat.le_add_right _ _) hsize hother (by
        unfold Passes
        rw [hH, upd_same]
        refine .inr ⟨⟨false, s.map d, rfl, by simp [hsl]⟩, rfl, fun b' c' t hbb hblk' => ?_⟩
        rw [hb] at hbb; injection hbb with hbb; subst hbb
        rw [hblk] at hblk'; injection hblk' with hblk'; injection hblk' with q1 q2; subst q1; subst q2
        exact ⟨_, e, hput, hpl⟩) (fun hD _ => by
        unfold ObjR
        rw [upd_same]
        refine ⟨hpos, fun x hx => by obtain ⟨y, _, rfl⟩ := List.mem_map.1 hx; exact C.lenD y, .inr ⟨b, e, _, hb, hput, by rw [hpl]; simpa [hsl] using hlen', fun i dd v hd hv => ?_⟩⟩
        have hfs : (flatD (s.map d)).length = l.length * k := by rw [flat_len (size := k) (fun x hx => by obtain ⟨y, _, rfl⟩ := List.mem_map.1 hx; exact C.lenD y)]; simp [hsl]
        have hi : i < l.length * k := by have := (List.getElem?_eq_some_iff.1 hd).1; omega
        rw [List.getElem?_toArray, putL_get (by rw [Nat.zero_add, hsf]; simpa using hlen'), if_neg (by omega), if_pos (by omega), Nat.sub_zero] at hv
        refine ⟨?_, ((flat_cells C s i dd v hd hv) _ _ _).2 rfl⟩
        obtain ⟨x, _, hx⟩ := List.mem_flatMap.1 (List.mem_of_getElem? hv)
        exact C.one x v hx)
    obtain ⟨m2, g2⟩ := m1.grow (w' := sortWorldK enc k w b 0 n s.toArray os) ⟨rfl, rfl, rfl, by unfold sortWorldK; simp, fun j hj => heap_grow_old _ _ hj, Nat.le_refl _⟩
    refine ⟨_, β, rfl, ?_, .tup [] [] rfl (by simp)⟩
    rw [hfin]
    exact m2
  · have hl0 : l = [] := List.eq_nil_of_length_eq_zero hz
    subst hl0
    refine (AnyF.slices_SortFunc_none (P := P) (ρ := ρ) { L with } p 0 (.func (.func g) #[] #[]) w).mono ?_
    rintro e w' ⟨rfl, rfl⟩
    refine ⟨_, β, rfl, ?_, .tup [] [] rfl (by simp)⟩
    rw [hfin]
    simp only [List.mergeSort_nil]
    rw [upd_id hH]
    exact m
end
end Go.Eng

/-
  Functions of the library at this translation: their bodies are those of the shelf, but for numbers and names. Printed by a program (lay.py). No condition.
-/
namespace Go.Proofs
open Go.Shelf
def Tryz.sortNm_ren : Go.Shelf.Ren := ⟨fun | 6 => 79 | 15 => 133 | 14 => 132 | 28 => 180 | 29 => 181 | 20 => 172 | 21 => 173 | 22 => 174 | 23 => 175 | 24 => 176 | 25 => 177 | 26 => 178 | 27 => 179 | 46 => 193 | 47 => 194 | 48 => 195 | 49 => 196 | 50 => 197 | 57 => 208 | n => n, fun | 22 => 33 | 24 => 42 | 25 => 116 | 3 => 3 | 39 => 55 | 0 => 0 | 53 => 192 | 55 => 179 | 4 => 4 | 46 => 185 | 45 => 184 | 50 => 189 | 5 => 5 | 9 => 9 | 66 => 201 | 70 => 205 | 76 => 214 | 77 => 215 | n => n, fun | n => n⟩
theorem Tryz.sortNm : Go.Proofs.SlLaysF0.n6 Tryz.prog Tryz.sortNm_ren := {
  mixed := by kernel_rfl,
  f6 := ⟨Tryz.f79.name, by decide, Tryz.func79.trans (congrArg some (by kernel_rfl))⟩,
  f14 := ⟨Tryz.f132.name, by decide, Tryz.func132.trans (congrArg some (by kernel_rfl))⟩,
  f15 := Tryz.func133.trans (congrArg some (by kernel_rfl)),
  f20 := ⟨Tryz.f172.name, by decide, Tryz.func172.trans (congrArg some (by kernel_rfl))⟩,
  f21 := ⟨Tryz.f173.name, by decide, Tryz.func173.trans (congrArg some (by kernel_rfl))⟩,
  f22 := ⟨Tryz.f174.name, by decide, Tryz.func174.trans (congrArg some (by kernel_rfl))⟩,
  f23 := ⟨Tryz.f175.name, by decide, Tryz.func175.trans (congrArg some (by kernel_rfl))⟩,
  f24 := ⟨Tryz.f176.name, by decide, Tryz.func176.trans (congrArg some (by kernel_rfl))⟩,
  f25 := ⟨Tryz.f177.name, by decide, Tryz.func177.trans (congrArg some (by kernel_rfl))⟩,
  f26 := ⟨Tryz.f178.name, by decide, Tryz.func178.trans (congrArg some (by kernel_rfl))⟩,
  f27 := ⟨Tryz.f179.name, by decide, Tryz.func179.trans (congrArg some (by kernel_rfl))⟩,
  f28 := Tryz.func180.trans (congrArg some (by kernel_rfl)),
  f29 := Tryz.func181.trans (congrArg some (by kernel_rfl)),
  f46 := ⟨Tryz.f193.name, by decide, Tryz.func193.trans (congrArg some (by kernel_rfl))⟩,
  f47 := Tryz.func194.trans (congrArg some (by kernel_rfl)),
  f48 := Tryz.func195.trans (congrArg some (by kernel_rfl)),
  f49 := ⟨Tryz.f196.name, by decide, Tryz.func196.trans (congrArg some (by kernel_rfl))⟩,
  f50 := ⟨Tryz.f197.name, by decide, Tryz.func197.trans (congrArg some (by kernel_rfl))⟩,
  f57 := ⟨Tryz.f208.name, by decide, Tryz.func208.trans (congrArg some (by kernel_rfl))⟩,
  t0 := Tryz.underlying0,
  a0 := Tryz.isAgg0,
  z0 := Tryz.sizeOf0,
  v0 := Tryz.zeroValue0,
  t3 := Tryz.underlying3,
  a3 := Tryz.isAgg3,
  z3 := Tryz.sizeOf3,
  v3 := Tryz.zeroValue3,
  t4 := Tryz.underlying4,
  a4 := Tryz.isAgg4,
  z4 := Tryz.sizeOf4,
  v4 := Tryz.zeroValue4,
  t5 := Tryz.underlying5,
  a5 := Tryz.isAgg5,
  z5 := Tryz.sizeOf5,
  v5 := Tryz.zeroValue5,
  t9 := Tryz.underlying9,
  a9 := Tryz.isAgg9,
  z9 := Tryz.sizeOf9,
  v9 := Tryz.zeroValue9,
  t22 := Tryz.underlying33,
  a22 := Tryz.isAgg33,
  z22 := Tryz.sizeOf33,
  v22 := Tryz.zeroValue33,
  t25 := Tryz.underlying116,
  a25 := Tryz.isAgg116,
  z25 := Tryz.sizeOf116,
  v25 := Tryz.zeroValue116,
  t39 := Tryz.underlying55,
  a39 := Tryz.isAgg55,
  z39 := Tryz.sizeOf55,
  v39 := Tryz.zeroValue55,
  t45 := Tryz.underlying184,
  a45 := Tryz.isAgg184,
  z45 := Tryz.sizeOf184,
  v45 := Tryz.zeroValue184,
  t46 := Tryz.underlying185,
  a46 := Tryz.isAgg185,
  z46 := Tryz.sizeOf185,
  v46 := Tryz.zeroValue185,
  t50 := Tryz.underlying189,
  a50 := Tryz.isAgg189,
  z50 := Tryz.sizeOf189,
  v50 := Tryz.zeroValue189,
  t53 := Tryz.underlying192,
  a53 := Tryz.isAgg192,
  z53 := Tryz.sizeOf192,
  v53 := Tryz.zeroValue192,
  t55 := Tryz.underlying179,
  a55 := Tryz.isAgg179,
  z55 := Tryz.sizeOf179,
  v55 := Tryz.zeroValue179,
  t66 := Tryz.underlying201,
  a66 := Tryz.isAgg201,
  z66 := Tryz.sizeOf201,
  v66 := Tryz.zeroValue201,
  t70 := Tryz.underlying205,
  a70 := Tryz.isAgg205,
  z70 := Tryz.sizeOf205,
  v70 := Tryz.zeroValue205,
  t76 := Tryz.underlying214,
  a76 := Tryz.isAgg214,
  z76 := Tryz.sizeOf214,
  v76 := Tryz.zeroValue214,
  t77 := Tryz.underlying215,
  a77 := Tryz.isAgg215,
  z77 := Tryz.sizeOf215,
  v77 := Tryz.zeroValue215 }
end Go.Proofs

/-
  Chapter 22: package edit's sorted sets and orders. No condition.
-/
namespace Go.Eng
open Go.Proofs
attribute [local simp] runL stepL evalG evalOp opLV constLV putEnv dstOk upd upds Res.plain Res.cond Res.fail evalBin evalUn seqQ blockQ argsEnv lookL lookH RetIs memless freshL evalPick evalMin bval bok evalLen evalIn strip whenC guardOps guardC slotsOf
  runM foldS stepI stepM maskE wrIn lk renO lookN evalCall evalCallee optAll resLV resObj retLV retObj retsLV retsObj evalLoad evalIndexAddr evalField solid cellsD_agg cellsD_int cellsD_bool cellsD_str cellsD_sl cellsD_ro cellsD_fn cellsL_agg cellsL_dagg cellsL_int cellsL_bool cellsL_str cellsL_sl cellsL_fn cellsL_ow cellsL_bx cellsL_lfn cellsL_nl takeL takeD mkAgg allD eqD eqDs kindsAre kindIs LObj.live TK.isNone TK.agg TK.isBool TK.isStr TK.isStruct Op.operands Call.operands
  evalBuildSlice evalAppend elemsOf evalStore evalBuild fillL lookupF putL evalSlice bound evalConv elemsS freezes frozen loadR
  mkEnv_at mkObs_at close_d close_agg close_ow close_bx close_fn close_nl touch_d touch_agg touch_ow touch_bx touch_fn touch_nl ren_d ren_agg ren_bx ren_rp ren_ow ren_fn ren_nl ren_junk retQ_ret retQ2_ret condQ_bool Nm.d Df.d Ed.d nmsD dfsD strsD edsD retC_ret nm_eq df_eq take_map_len take_map_app
  nm_t nm_d nm_td df_t df_d df_td str_t str_d str_td ed_t ed_d ed_td
  evalAppendIn evalCut evalClear evalCopy evalMake evalWrap evalCap evalNil isNilC lenL isInp gorc
  mapOf findD keyEq keyOk evalMakeMap evalRange zeroD zeroDV argsG shutG outN lenv retG0_ret retG0_normal retG1_ret renO close_mp touch_mp ren_mp optAll_d optAll_d' touch_ds cellsL_mp cellsD_mp cellsL_dmp

theorem app_get {α : Type} {f : α → DV} {l : List α} {t : List DV} {k : Nat} (h : k < l.length) : (List.map f l ++ t)[k]? = some (f l[k]) := by rw [List.getElem?_append_left (by simpa using h)]; simp [h]
def msortN (l : List Nm) : List Nm := l.mergeSort fun x y => !Nm.less y x
theorem nmAgg (x : Nm) (w : World) (E : Nat → Prop) (v : Value) : RD w E x.d v ↔ v = .agg x.enc.toArray := by
  constructor
  · intro h
    cases h with
    | agg _ us hl _ hc =>
      match us, hl with
      | [a, b], _ =>
        have h0 := hc 0 _ a rfl rfl
        have h1 := hc 1 _ b rfl rfl
        cases h0; cases h1; rfl
  · rintro rfl
    refine .agg _ _ rfl (fun u hu => by simp [Nm.enc] at hu; rcases hu with rfl | rfl <;> rfl) fun i c v hc hv => ?_
    match i, hc, hv with
    | 0, hc, hv => simp [Nm.enc] at hc hv; subst hc; subst hv; exact .int _ _
    | 1, hc, hv => simp [Nm.enc] at hc hv; subst hc; subst hv; exact .int _ _
theorem nmCells : Cells 2 Nm.d Nm.enc where
  pos := by decide
  len := fun _ => rfl
  lenD := fun _ => rfl
  one := fun x v hv => by simp [Nm.enc] at hv; rcases hv with rfl | rfl <;> rfl
  cell := fun x i c v hc hv w E u => by
    match i, hc, hv with
    | 0, hc, hv => simp [Nm.enc, Nm.d, cellsD] at hc hv; subst hc; subst hv; exact ⟨fun h => by cases h; rfl, fun h => h ▸ .int _ _⟩
    | 1, hc, hv => simp [Nm.enc, Nm.d, cellsD] at hc hv; subst hc; subst hv; exact ⟨fun h => by cases h; rfl, fun h => h ▸ .int _ _⟩
theorem ltOf_cmpN (a b : Nm) : Proofs.ltOf cmpN a b = Nm.less a b := by
  have := cmpN_ge a b
  unfold Proofs.ltOf
  by_cases h : 0 ≤ cmpN a b <;> simp [h, Int.not_lt.2, Int.lt_of_not_ge] at this ⊢ <;> simp_all
theorem SortFuncNm_ok (l : List Nm) (hl : l.length ≤ 8000000000000) : OkG Tryz.prog 79 [.ow 0 0 l.length, .d (.fn 80 [])] [(0, .row false 2 (l.map Nm.d))] [(0, .row false 2 ((msortN l).map Nm.d))] (.tup []) := by
  have e0 : Proofs.ltOf cmpN = Nm.less := by funext x y; exact ltOf_cmpN x y
  have e : msortN l = l.mergeSort fun x y => !(Proofs.ltOf cmpN) y x := by rw [e0]; rfl
  rw [e]
  have hO : Go.Sort.SWO Nm.less := ⟨fun x => by simp [Nm.less], fun x y z h1 h2 => by simp [Nm.less] at h1 h2 ⊢; omega, fun x y z h1 h2 => by simp [Nm.less] at h1 h2 ⊢; omega⟩
  have hT : ∀ x y, Nm.less x y = false → Nm.less y x = false → x = y := fun x y h1 h2 => by simp [Nm.less] at h1 h2; cases x; cases y; simp at *; omega
  exact sortFunc_ok Tryz.sortNm nmCells nmAgg Tryz.isAgg42 Tryz.sizeOf42 cmpN (e0 ▸ hO) (e0 ▸ hT) _ compare_ok
    ⟨_, Tryz.func79, by kernel_rfl, by rfl⟩ l hl
theorem msortN_len (l : List Nm) : (msortN l).length = l.length := List.length_mergeSort _
theorem dedup_msort (l : List Nm) : dedup (msortN l) = sortN l := by
  refine dedup_sorted (fun x => List.mem_mergeSort) ?_
  have := List.pairwise_mergeSort (le := fun x y : Nm => !Nm.less y x) (fun a b c h1 h2 => by simp [Nm.less] at *; omega) (fun a b => by simp [Nm.less]; omega) l
  exact this.imp fun h => by simpa using h
theorem sortN_len (l : List Nm) : (sortN l).length ≤ l.length := by rw [← dedup_msort, ← msortN_len l]; exact dedup_length _

theorem closedB_iff {l : List Ed} {set : List Nm} : closedB l set = true ↔ ∀ n ∈ set, 0 ≤ findI l n ∧ ∀ m ∈ needsOf l n, m ∈ set := by
  unfold closedB closedAt
  simp

/-- culprit/edit.Sort -/
theorem ESort_ok (l : List Nm) (hl : l.length ≤ 8000000000000) : Ok Tryz.prog 22 [nmsD l] ⟨.own 2 ((sortN l).map Nm.d), true⟩ := by
  refine Ok.ret Tryz.func22 (by kernel_rfl) (c := _) rfl Tryz.ntmps22 (by simp) Tryz.results22 (by intro _ h; cases h) fun w0 X hp => ?_
  refine LWp.seq ?_
  refine LWp.reg hT hW (fun _ => none) (fun _ => ⟨rfl, fun _ h => h⟩) ?_
  simp
  refine LWp.seq ?_
  refine LWp.reg hT hW (fun | 5 => some <| .plain ⟨.own 2 (l.map Nm.d), true⟩ | _ => none) (by intro d; first | exact ⟨rfl, fun _ h => h⟩ | (split <;> exact ⟨rfl, fun _ h => h⟩)) ?_
  simp
  refine ⟨CloneNm_ok l hl, ?_⟩
  refine LWp.seq ?_
  refine LWp.reg hT hW (fun | 7 => some (.gen ⟨[(5, 0)], [], [], [(0, .row false 2 ((msortN l).map Nm.d))], .tup []⟩) | _ => none) (by intro d; first | exact ⟨rfl, fun _ h => h⟩ | (split <;> exact ⟨rfl, fun _ h => h⟩)) ?_
  simp
  refine ⟨by simpa using SortFuncNm_ok l hl, ?_⟩
  refine LWp.seq ?_
  refine LWp.reg hT hW (fun | 9 => some (.gen ⟨[(5, 0)], [], [], [(0, .row false 2 ((sortN l).map Nm.d ++ List.replicate (l.length - (sortN l).length) zeroNm.d))], .ow 0 0 (sortN l).length⟩) | _ => none) (by intro d; first | exact ⟨rfl, fun _ h => h⟩ | (split <;> exact ⟨rfl, fun _ h => h⟩)) ?_
  simp
  refine ⟨by have := CompactNm_ok (msortN l) (by rw [msortN_len]; exact hl); rw [msortN_len, dedup_msort] at this; simpa using this, ?_⟩
  refine LWp.ret ?_
  simp

/-- culprit/edit.order$1$1 -/
theorem order11_ok (out : List Nm) (n : Nm) : Ok Tryz.prog 137 [n.d, .ro [nmsD out]] ⟨.d (.bool (!decide (n ∈ out))), true⟩ := by
  refine Ok.ret Tryz.func137 (by kernel_rfl) (c := _) rfl Tryz.ntmps137 (by simp) Tryz.results137 (by intro _ h; cases h) fun w0 X hp => ?_
  refine LWp.seq ?_
  refine LWp.reg hT hW (fun _ => none) (fun _ => ⟨rfl, fun _ h => h⟩) ?_
  simp
  refine LWp.seq ?_
  refine LWp.reg hT hW (fun | 6 => some <| .plain ⟨.d (.bool (decide (n ∈ out))), true⟩ | _ => none) (by intro d; first | exact ⟨rfl, fun _ h => h⟩ | (split <;> exact ⟨rfl, fun _ h => h⟩)) ?_
  simp
  refine ⟨InNm_ok out n, ?_⟩
  refine LWp.ret ?_
  simp

/-- culprit/edit.order$1 -/
theorem order1_ok (l : List Ed) (out : List Nm) (n : Nm) (h : 0 ≤ findI l n) : Ok Tryz.prog 136 [n.d, .ro [edsD l], .ro [nmsD out]] ⟨.d (.bool (readyN l out n)), true⟩ := by
  refine Ok.ret Tryz.func136 (by kernel_rfl) (c := _) rfl Tryz.ntmps136 (by simp) Tryz.results136 (by intro _ h; cases h) fun w0 X hp => ?_
  refine LWp.seq ?_
  refine LWp.reg hT hW (fun _ => none) (fun _ => ⟨rfl, fun _ h => h⟩) ?_
  simp
  refine LWp.seq ?_
  obtain ⟨i0, hi0, hfi, hfe, hne⟩ := edit_find (show ¬ findI l n < 0 by omega)
  refine LWp.regAny hT hW hMixed (lk [[], [], [], [1, 2], [0, 1, 2, 3], [0, 1, 2, 3, 4], [0, 1, 2, 3, 4, 5], [], [0, 1, 2, 3, 4, 5, 6, 7], [0, 1, 2, 3, 4, 5, 6, 7, 8], [0, 1, 2, 3, 4, 5, 6, 7, 8, 9]]) (lk [[8], [], [], [], [], [], [], [8], [], [], []]) (lk [[], [], [], [8], [], [], [], [], [13], [], []]) (by kernel_rfl) (fun | 8 => some <| .plain ⟨.d (I64 (findI l n)), true⟩ | 13 => some <| .plain ⟨.d (.bool (l[i0].needs.any fun m => !decide (m ∈ out))), true⟩ | _ => none) (by intro d; first | exact ⟨rfl, fun _ h => h⟩ | (split <;> exact ⟨rfl, fun _ h => h⟩)) ?_
  simp [hfe, hi0]
  refine ⟨⟨by rw [← hfe]; exact EFind_ok l n, by simpa [nmsD] using AnyNm_ok l[i0].needs (fun m => !decide (m ∈ out)) _ _ fun m _ => order11_ok out m⟩, ?_⟩
  refine LWp.ret ?_
  simp [readyN, hne]
  rw [Bool.eq_iff_iff]
  simp

theorem order_init {l : List Ed} {set : List Nm} (hc : closedB l set = true) : (∀ n ∈ sortN set, ∀ m ∈ needsOf l n, m ∈ sortN set ∨ m ∈ ([] : List Nm)) ∧ (∀ n ∈ sortN set, 0 ≤ findI l n) ∧ orderF l (sortN set).length (sortN set) [] = orderN l set ∧ (sortN set).length + ([] : List Nm).length ≤ set.length := by
  have hcl := closedB_iff.1 hc
  refine ⟨fun n hn m hm => .inl ?_, fun n hn => ?_, rfl, by simpa using sortN_len set⟩
  · exact ((sortN_spec set).2 m).2 ((hcl n (((sortN_spec set).2 n).1 hn)).2 m hm)
  · exact (hcl n (((sortN_spec set).2 n).1 hn)).1

/-- culprit/edit.order -/
theorem order_ok (l : List Ed) (set : List Nm) (hl : set.length ≤ 1000000) (ha : Acyc l) (hc : closedB l set = true) : Ok Tryz.prog 86 [edsD l, nmsD set] ⟨.own 2 ((orderN l set).map Nm.d), true⟩ := by
  refine Ok.ret Tryz.func86 (by kernel_rfl) (c := _) rfl Tryz.ntmps86 (by simp) Tryz.results86 (by intro _ h; cases h) fun w0 X hp => ?_
  refine LWp.seq ?_
  refine LWp.reg hT hW (fun _ => none) (fun _ => ⟨rfl, fun _ h => h⟩) ?_
  simp
  refine LWp.seq ?_
  refine LWp.reg hT hW (fun | 9 => some <| .plain ⟨.own 2 ((sortN set).map Nm.d), true⟩ | _ => none) (by intro d; first | exact ⟨rfl, fun _ h => h⟩ | (split <;> exact ⟨rfl, fun _ h => h⟩)) ?_
  simp
  refine ⟨ESort_ok set (by omega), ?_⟩
  refine LWp.seq ?_
  refine LWp.reg hT hW (fun _ => none) (fun _ => ⟨rfl, fun _ h => h⟩) ?_
  simp
  refine LWp.nlBox (fz := false) 6 7 2 (by decide) ⟨by simp, by simp, ?_⟩
  refine LWp.seq ?_
  refine LWp.block ?_
  refine LWp.loopW (ι := List Nm × List Nm × Nat) (fun ⟨rest, out, z⟩ => mkEnv [(2, .bx 2 0), (5, .ow 5 0 rest.length), (6, .bx 6 0)]) (fun ⟨rest, out, z⟩ => mkObs [(2, .box false [.d (edsD l)]), (5, .row false 2 (rest.map Nm.d ++ List.replicate z zeroNm.d)), (6, .box false [.ow 7 0 out.length]), (7, .row false 2 (out.map Nm.d))]) (fun ⟨rest, out, z⟩ => (∀ n ∈ rest, ∀ m ∈ needsOf l n, m ∈ rest ∨ m ∈ out) ∧ (∀ n ∈ rest, 0 ≤ findI l n) ∧ orderF l rest.length rest out = orderN l set ∧ rest.length + out.length ≤ set.length) (fun ⟨rest, out, z⟩ => rest.length) (sortN set, [], 0) (Weak.to [2, 5, 6] [(2, 2), (9, 5), (6, 6), (7, 7)] (by decide) (by decide) (by simp [hp]) (by simp) (by simp)) (order_init hc) fun ⟨rest, out, z⟩ hi3 => ?_
  refine LWp.seq ?_
  refine LWp.seq ?_
  refine LWp.reg hT hW (fun _ => none) (fun _ => ⟨rfl, fun _ h => h⟩) ?_
  simp
  refine LWp.iff ?_
  simp
  refine ⟨fun h3 => ?_, fun h3 => ?_⟩
  · obtain ⟨k, hfk, hk⟩ := ready_at ha hi3.1 h3
    refine LWp.skip ?_
    simp
    refine LWp.block ?_
    refine LWp.seq ?_
    refine LWp.reg hT hW (fun | 15 => some <| .plain ⟨.d (I64 (idxI (readyN l out) rest)), true⟩ | _ => none) (by intro d; first | exact ⟨rfl, fun _ h => h⟩ | (split <;> exact ⟨rfl, fun _ h => h⟩)) ?_
    simp
    refine ⟨by simpa [nmsD] using IndexNm_ok rest (readyN l out) _ _ fun n hn => order1_ok l out n (hi3.2.1 n hn), ?_⟩
    refine LWp.seq ?_
    refine LWp.regAny hT hW hMixed (lk [[], [], [], [1, 2], [1, 2, 3], [1, 2, 3, 4], [0, 1, 2, 3, 4, 5], [0, 1, 2, 3, 4, 5, 6]]) (lk [[21], [], [], [], [], [], [], []]) (lk [[], [], [], [], [], [21], [22, 7], [6]]) (by kernel_rfl) (fun _ => none) (fun _ => ⟨rfl, fun _ h => h⟩) ?_
    simp [idxI_some hfk, hk, app_get hk]
    refine ⟨by have := hi3.2.2.2; omega, ?_⟩
    refine LWp.reg hT hW (fun | 27 => some (.gen ⟨[(5, 0)], [], [], [(0, .row false 2 ((rest.eraseIdx k).map Nm.d ++ Nm.d ⟨0, 0⟩ :: List.replicate z zeroNm.d))], .ow 0 0 (rest.length - 1)⟩) | _ => none) (by intro d; first | exact ⟨rfl, fun _ h => h⟩ | (split <;> exact ⟨rfl, fun _ h => h⟩)) ?_
    simp
    refine ⟨⟨by have := hi3.2.2.2; omega, by simpa using DeleteNm_ok rest (List.replicate z zeroNm.d) (fun y hy => by rw [(List.mem_replicate.1 hy).2]; rfl) k hk⟩, ?_⟩
    refine loopQ.mk (rest.eraseIdx k, out ++ [rest[k]], z + 1) (Weak.to [2, 5, 6] [(2, 2), (5, 5), (6, 6), (22, 7)] (by decide) (by decide) (by simp [hp]) (by simp [List.length_eraseIdx, hk]) (by simp [List.replicate_succ, zeroNm])) ?_ ?_
    · refine ⟨closed_step hi3.1 hk, fun n hn => hi3.2.1 n (List.mem_of_mem_eraseIdx hn), ?_, ?_⟩
      · have := hi3.2.2.1
        rw [← this, show rest.length = (rest.eraseIdx k).length + 1 by rw [List.length_eraseIdx, if_pos hk]; omega, orderF_succ hfk hk]
      · have := hi3.2.2.2
        simp [List.length_eraseIdx, hk]; omega
    · simp [List.length_eraseIdx, hk]; omega
  · refine LWp.exit ?_
    simp
    refine LWp.seq ?_
    refine LWp.reg hT hW (fun _ => none) (fun _ => ⟨rfl, fun _ h => h⟩) ?_
    simp
    refine LWp.ret ?_
    have := hi3.2.2.1
    simp only [show rest = [] from List.eq_nil_of_length_eq_zero (by simpa using h3), List.length_nil, orderF] at this
    simp [← this]

end Go.Eng

/-
  Chapter 22: edit.Order, which edits are apart, clashes. No condition.
-/
namespace Go.Eng
open Go.Proofs
attribute [local simp] runL stepL evalG evalOp opLV constLV putEnv dstOk upd upds Res.plain Res.cond Res.fail evalBin evalUn seqQ blockQ argsEnv lookL lookH RetIs memless freshL evalPick evalMin bval bok evalLen evalIn strip whenC guardOps guardC slotsOf
  runM foldS stepI stepM maskE wrIn lk renO lookN evalCall evalCallee optAll resLV resObj retLV retObj retsLV retsObj evalLoad evalIndexAddr evalField solid cellsD_agg cellsD_int cellsD_bool cellsD_str cellsD_sl cellsD_ro cellsD_fn cellsL_agg cellsL_dagg cellsL_int cellsL_bool cellsL_str cellsL_sl cellsL_fn cellsL_ow cellsL_bx cellsL_lfn cellsL_nl takeL takeD mkAgg allD eqD eqDs kindsAre kindIs LObj.live TK.isNone TK.agg TK.isBool TK.isStr TK.isStruct Op.operands Call.operands
  evalBuildSlice evalAppend elemsOf evalStore evalBuild fillL lookupF putL evalSlice bound evalConv elemsS freezes frozen loadR
  mkEnv_at mkObs_at close_d close_agg close_ow close_bx close_fn close_nl touch_d touch_agg touch_ow touch_bx touch_fn touch_nl ren_d ren_agg ren_bx ren_rp ren_ow ren_fn ren_nl ren_junk retQ_ret retQ2_ret condQ_bool Nm.d Df.d Ed.d nmsD dfsD strsD edsD retC_ret nm_eq df_eq take_map_len take_map_app
  nm_t nm_d nm_td df_t df_d df_td str_t str_d str_td ed_t ed_d ed_td
  evalAppendIn evalCut evalClear evalCopy evalMake evalWrap evalCap evalNil isNilC lenL isInp gorc
  mapOf findD keyEq keyOk evalMakeMap evalRange zeroD zeroDV argsG shutG outN lenv retG0_ret retG0_normal retG1_ret renO close_mp touch_mp ren_mp optAll_d optAll_d' touch_ds cellsL_mp cellsD_mp cellsL_dmp

/-- culprit/edit.Order -/
theorem EOrder_ok (l : List Ed) (set : List Nm) (hs : small l) (hl : set.length ≤ 1000000) : Ok Tryz.prog 30 [edsD l, nmsD set] ⟨.tup [.own 2 ((orderV l set).1.map Nm.d), .d (I64 (orderV l set).2)], true⟩ := by
  refine Ok.two Tryz.func30 (by kernel_rfl) (c := _) rfl Tryz.ntmps30 (by simp) Tryz.results30 rfl fun w0 X hp => ?_
  refine LWp.seq ?_
  refine LWp.reg hT hW (fun _ => none) (fun _ => ⟨rfl, fun _ h => h⟩) ?_
  simp
  refine LWp.seq ?_
  refine LWp.seq ?_
  refine LWp.reg hT hW (fun | 10 => some <| .plain ⟨.tup [.d (I64 (validV l).1), .d (I64 (validV l).2)], true⟩ | _ => none) (by intro d; first | exact ⟨rfl, fun _ h => h⟩ | (split <;> exact ⟨rfl, fun _ h => h⟩)) ?_
  simp [evalExtract]
  refine ⟨EValid_ok l hs, ?_⟩
  refine LWp.seq ?_
  refine LWp.reg hT hW (fun _ => none) (fun _ => ⟨rfl, fun _ h => h⟩) ?_
  simp
  refine LWp.iff ?_
  simp
  refine ⟨fun h2 => ?_, fun h2 => ?_⟩
  · refine LWp.seq ?_
    refine LWp.reg hT hW (fun _ => none) (fun _ => ⟨rfl, fun _ h => h⟩) ?_
    simp
    refine LWp.ret ?_
    simp [orderV, h2]
  · refine LWp.skip ?_
    simp
    refine LWp.seq ?_
    refine LWp.seq ?_
    refine LWp.reg hT hW (fun | 18 => some <| .plain ⟨.d (.bool (closedB l set)), true⟩ | _ => none) (by intro d; first | exact ⟨rfl, fun _ h => h⟩ | (split <;> exact ⟨rfl, fun _ h => h⟩)) ?_
    simp
    refine ⟨EClosed_ok l set, ?_⟩
    refine LWp.iff ?_
    simp
    refine ⟨fun h4 => ?_, fun h4 => ?_⟩
    · refine LWp.seq ?_
      refine LWp.reg hT hW (fun _ => none) (fun _ => ⟨rfl, fun _ h => h⟩) ?_
      simp
      refine LWp.ret ?_
      simp [orderV, h2, h4]
    · refine LWp.skip ?_
      simp
      refine LWp.seq ?_
      refine LWp.reg hT hW (fun | 22 => some <| .plain ⟨.own 2 ((orderN l set).map Nm.d), true⟩ | _ => none) (by intro d; first | exact ⟨rfl, fun _ h => h⟩ | (split <;> exact ⟨rfl, fun _ h => h⟩)) ?_
      simp
      refine ⟨order_ok l set hl (valid_acyc (by simpa using h2)) (by simpa using h4), ?_⟩
      refine LWp.ret ?_
      simp [orderV, h2, h4]

/-- slices.IndexFunc[[]string,string] -/
theorem IndexStr_ok (l : List Str) (p : Str → Bool) (g : FuncId) (cs : List DV) (hg : ∀ x ∈ l, Ok Tryz.prog g (.str x :: cs) ⟨.d (.bool (p x)), true⟩) : Ok Tryz.prog 192 [strsD l, .fn g cs] ⟨.d (I64 (idxI p l)), true⟩ := by
  refine Ok.ret Tryz.func192 (by kernel_rfl) (c := _) rfl Tryz.ntmps192 (by simp) Tryz.results192 (by intro _ h; cases h) fun w0 X hp => ?_
  refine LWp.len (t := 0) rfl fun hlen => ?_
  simp at hlen
  refine LWp.seq ?_
  refine LWp.reg hT hW (fun _ => none) (fun _ => ⟨rfl, fun _ h => h⟩) ?_
  simp
  refine LWp.seq ?_
  refine LWp.seq ?_
  refine LWp.reg hT hW (fun _ => none) (fun _ => ⟨rfl, fun _ h => h⟩) ?_
  simp
  refine LWp.block ?_
  refine LWp.loopW (ι := Nat) (fun i => mkEnv [(0, .d (strsD l)), (1, .d (.fn g cs)), (7, .d (I64 l.length)), (8, .d (I64 i))]) (fun i => mkObs []) (fun i => i ≤ l.length ∧ Pre p l i) (fun i => l.length - i) 0 (Weak.to [0, 1, 7, 8] [] (by decide) (by decide) (by simp [hp]) (by simp) (by simp)) (⟨Nat.zero_le _, Pre.zero⟩) fun i hi2 => ?_
  refine LWp.seq ?_
  refine LWp.reg hT hW (fun _ => none) (fun _ => ⟨rfl, fun _ h => h⟩) ?_
  simp
  refine LWp.seq ?_
  refine LWp.iff ?_
  simp
  refine ⟨fun h2 => ?_, fun h2 => ?_⟩
  · refine LWp.skip ?_
    simp
    refine LWp.seq ?_
    refine LWp.block ?_
    refine LWp.seq ?_
    refine LWp.reg hT hW (fun _ => none) (fun _ => ⟨rfl, fun _ h => h⟩) ?_
    simp
    refine LWp.seq ?_
    refine LWp.reg hT hW (fun | 16 => some <| .plain ⟨.d (.bool (p l[i])), true⟩ | _ => none) (by intro d; first | exact ⟨rfl, fun _ h => h⟩ | (split <;> exact ⟨rfl, fun _ h => h⟩)) ?_
    simp [h2]
    refine ⟨hg l[i] (List.getElem_mem h2), ?_⟩
    refine LWp.iff ?_
    simp
    refine ⟨fun h4 => ?_, fun h4 => ?_⟩
    · refine LWp.seq ?_
      refine LWp.reg hT hW (fun _ => none) (fun _ => ⟨rfl, fun _ h => h⟩) ?_
      simp
      refine LWp.ret ?_
      simp [idxI_some (hi2.2.found h2 h4)]
    · refine LWp.skip ?_
      simp
      refine LWp.reg hT hW (fun _ => none) (fun _ => ⟨rfl, fun _ h => h⟩) ?_
      simp
      refine ⟨by omega, ?_⟩
      refine loopQ.mk (i + 1) (Weak.to [0, 1, 7, 8] [] (by decide) (by decide) (by simp [hp]) (by simp) (by simp)) ?_ ?_
      · exact ⟨h2, hi2.2.succ h2 h4⟩
      · omega
  · refine LWp.exit ?_
    simp
    refine LWp.seq ?_
    refine LWp.reg hT hW (fun _ => none) (fun _ => ⟨rfl, fun _ h => h⟩) ?_
    simp
    refine LWp.ret ?_
    simp [idxI_none (hi2.2.none (by omega))]

theorem idxI_cases {α : Type} {p : α → Bool} {l : List α} (h : idxI p l ≠ -1) : ∃ k : Nat, idxI p l = (k : Int) ∧ ∃ hk : k < l.length, p l[k] = true ∧ (l.take (k + 1)).filter (fun x => !p x) = l.take k := by
  unfold idxI at h ⊢
  split at h
  · rename_i k hk
    refine ⟨k, by simp, ?_⟩
    obtain ⟨h1, h2, h3⟩ := List.findIdx?_eq_some_iff_getElem.1 hk
    refine ⟨h1, h2, ?_⟩
    rw [List.take_succ_eq_append_getElem h1, List.filter_append]
    simp only [List.filter_cons, h2, Bool.not_true, Bool.false_eq_true, if_false, List.filter_nil, List.append_nil]
    rw [List.filter_eq_self]
    intro a ha
    obtain ⟨j, hj, rfl⟩ := List.getElem_of_mem ha
    simp at hj ⊢
    simpa using h3 j (by omega)
  · exact absurd rfl h
theorem idxI_neg {α : Type} {p : α → Bool} {l : List α} (h : idxI p l = -1) : l.filter (fun x => !p x) = l := by
  unfold idxI at h
  split at h
  · omega
  · rename_i hk
    rw [List.filter_eq_self]
    intro a ha
    simpa using List.findIdx?_eq_none_iff.1 hk a ha

/-- slices.DeleteFunc[[]string,string] -/
theorem DeleteFuncStr_ok (l : List Str) (hl : l.length ≤ 8000000000000) (p : Str → Bool) (g : FuncId) (cs : List DV) (hg : ∀ x ∈ l, Ok Tryz.prog g (.str x :: cs) ⟨.d (.bool (p x)), true⟩) : OkG Tryz.prog 170 [.ow 0 0 l.length, .d (.fn g cs)] [(0, .row false 1 (l.map .str))] [(0, .row false 1 ((l.filter fun x => !p x).map .str ++ List.replicate (l.length - (l.filter fun x => !p x).length) (.str [])))] (.ow 0 0 (l.filter fun x => !p x).length) := by
  refine OkG.one Tryz.func170 (by kernel_rfl) (c := _) rfl Tryz.ntmps170 (by simp) Tryz.results170 fun w0 X hp => ?_
  refine LWp.seq ?_
  refine LWp.reg hT hW (fun _ => none) (fun _ => ⟨rfl, fun _ h => h⟩) ?_
  simp
  refine LWp.seq ?_
  refine LWp.reg hT hW (fun | 10 => some <| .plain ⟨.d (I64 (idxI p l)), true⟩ | _ => none) (by intro d; first | exact ⟨rfl, fun _ h => h⟩ | (split <;> exact ⟨rfl, fun _ h => h⟩)) ?_
  simp
  refine ⟨by simpa [strsD] using IndexStr_ok l p g cs hg, ?_⟩
  refine LWp.seq ?_
  refine LWp.seq ?_
  refine LWp.reg hT hW (fun _ => none) (fun _ => ⟨rfl, fun _ h => h⟩) ?_
  simp
  refine LWp.iff ?_
  simp
  refine ⟨fun h2 => ?_, fun h2 => ?_⟩
  · refine LWp.seq ?_
    refine LWp.reg hT hW (fun _ => none) (fun _ => ⟨rfl, fun _ h => h⟩) ?_
    simp
    refine LWp.ret ?_
    simp
    refine Weak.to [4] [(0, 0)] (by decide) (by decide) (by simp [hp]) ?_ ?_
    · simp [idxI_neg h2]
    · simp [idxI_neg h2]
  · obtain ⟨k, hk, hkl, hpk, htk⟩ := idxI_cases h2
    refine LWp.skip ?_
    simp
    refine LWp.seq ?_
    refine LWp.seq ?_
    refine LWp.reg hT hW (fun _ => none) (fun _ => ⟨rfl, fun _ h => h⟩) ?_
    simp [hk]
    refine ⟨by omega, ?_⟩
    refine LWp.block ?_
    refine LWp.loopW (ι := Nat × Nat × List Str) (fun ⟨q, i, r⟩ => mkEnv [(0, .ow 0 0 l.length), (1, .d (.fn g cs)), (5, .d (I64 i)), (6, .d (I64 q))]) (fun ⟨q, i, r⟩ => mkObs [(0, .row false 1 (r.map .str))]) (fun ⟨q, i, r⟩ => q ≤ l.length ∧ i < q ∧ r.length = l.length ∧ r.take i = (l.take q).filter (fun x => !p x) ∧ r.drop q = l.drop q) (fun ⟨q, i, r⟩ => l.length - q) (k + 1, k, l) (Weak.to [0, 1, 5, 6] [(0, 0)] (by decide) (by decide) (by simp [hp]) (by simp) (by simp)) (⟨hkl, by omega, rfl, htk.symm, rfl⟩) fun ⟨q, i, r⟩ hi5 => ?_
    refine LWp.seq ?_
    refine LWp.seq ?_
    refine LWp.reg hT hW (fun _ => none) (fun _ => ⟨rfl, fun _ h => h⟩) ?_
    simp
    refine LWp.iff ?_
    simp
    refine ⟨fun h5 => ?_, fun h5 => ?_⟩
    · refine LWp.skip ?_
      simp
      refine LWp.seq ?_
      refine LWp.block ?_
      refine LWp.seq ?_
      obtain ⟨g1, g2, g3, g4, g5⟩ := hi5
      have e1 : r[q]'(by omega) = l[q] := drop_get g5 (by omega) (by omega) h5
      refine LWp.reg hT hW (fun _ => none) (fun _ => ⟨rfl, fun _ h => h⟩) ?_
      simp [(show q < r.length by omega), e1]
      refine ⟨by omega, ?_⟩
      refine LWp.seq ?_
      refine LWp.reg hT hW (fun | 28 => some <| .plain ⟨.d (.bool (p l[q])), true⟩ | _ => none) (by intro d; first | exact ⟨rfl, fun _ h => h⟩ | (split <;> exact ⟨rfl, fun _ h => h⟩)) ?_
      simp
      refine ⟨hg l[q] (List.getElem_mem h5), ?_⟩
      refine LWp.iff ?_
      simp
      refine ⟨fun h8 => ?_, fun h8 => ?_⟩
      · refine LWp.seq ?_
        refine LWp.reg hT hW (fun _ => none) (fun _ => ⟨rfl, fun _ h => h⟩) ?_
        simp [(show i < r.length by omega)]
        refine ⟨by omega, ?_⟩
        refine LWp.reg hT hW (fun _ => none) (fun _ => ⟨rfl, fun _ h => h⟩) ?_
        simp
        refine ⟨by omega, ?_⟩
        refine LWp.reg hT hW (fun _ => none) (fun _ => ⟨rfl, fun _ h => h⟩) ?_
        simp
        refine ⟨by omega, ?_⟩
        refine loopQ.mk (q + 1, i + 1, r.set i l[q]) (Weak.to [0, 1, 5, 6] [(0, 0)] (by decide) (by decide) (by simp [hp]) (by simp) (by simp)) ?_ ?_
        · dsimp only
          refine ⟨by omega, by omega, by simp [g3], ?_, ?_⟩
          · rw [List.take_succ_eq_append_getElem (by simpa using (show i < r.length by omega)), List.getElem_set_self, List.take_set_of_le (by omega), g4, List.take_succ_eq_append_getElem h5, List.filter_append]
            simp [h8]
          · have g8 := congrArg (List.drop 1) g5
            rw [List.drop_drop, List.drop_drop] at g8
            rw [List.drop_set_of_lt (by omega), g8]
        · omega
      · refine LWp.skip ?_
        simp
        refine LWp.reg hT hW (fun _ => none) (fun _ => ⟨rfl, fun _ h => h⟩) ?_
        simp
        refine ⟨by omega, ?_⟩
        refine loopQ.mk (q + 1, i, r) (Weak.to [0, 1, 5, 6] [(0, 0)] (by decide) (by decide) (by simp [hp]) (by simp) (by simp)) ?_ ?_
        · dsimp only
          refine ⟨by omega, by omega, g3, ?_, ?_⟩
          · rw [g4, List.take_succ_eq_append_getElem h5, List.filter_append]
            simp [h8]
          · have g8 := congrArg (List.drop 1) g5
            rw [List.drop_drop, List.drop_drop] at g8
            exact g8
        · omega
    · refine LWp.exit ?_
      simp
      refine LWp.seq ?_
      refine LWp.reg hT hW (fun _ => none) (fun _ => ⟨rfl, fun _ h => h⟩) ?_
      simp
      refine ⟨by omega, ?_⟩
      refine LWp.seq ?_
      refine LWp.reg hT hW (fun _ => none) (fun _ => ⟨rfl, fun _ h => h⟩) ?_
      simp
      refine ⟨by omega, ?_⟩
      refine LWp.ret ?_
      simp
      obtain ⟨g1, g2, g3, g4, g5⟩ := hi5
      have hq : q = l.length := by omega
      rw [hq, List.take_length] at g4
      have hkl : (l.filter fun x => !p x).length = i := by rw [← g4]; simp; omega
      refine Weak.to [4] [(0, 0)] (by decide) (by decide) (by simp [hp]) ?_ ?_
      · simp [hkl]
      · have hd : List.drop (i + (l.length - i)) (List.map DV.str r) = [] := List.drop_eq_nil_of_le (by simp; omega)
        simp
        rw [hd, hkl, ← g4, List.map_take, List.append_nil]

/-- culprit/edit.touches -/
theorem etouches_own (e : Ed) (h1 : e.puts.length ≤ 1000000) (h2 : e.drops.length ≤ 1000000) : Ok Tryz.prog 118 [e.d] ⟨.own 1 ((touches e).map .str), true⟩ := by
  refine Ok.ret Tryz.func118 (by kernel_rfl) (c := _) rfl Tryz.ntmps118 (by simp) Tryz.results118 (by intro _ h; cases h) fun w0 X hp => ?_
  refine LWp.seq ?_
  refine LWp.reg hT hW (fun _ => none) (fun _ => ⟨rfl, fun _ h => h⟩) ?_
  simp
  refine LWp.seq ?_
  refine LWp.reg hT hW (fun _ => none) (fun _ => ⟨rfl, fun _ h => h⟩) ?_
  simp
  refine LWp.seq ?_
  refine LWp.seq ?_
  refine LWp.reg hT hW (fun _ => none) (fun _ => ⟨rfl, fun _ h => h⟩) ?_
  simp
  refine LWp.block ?_
  refine LWp.loopW (ι := Nat × List Str) (fun ⟨i, acc⟩ => mkEnv [(1, .bx 1 0), (3, .ow 3 0 acc.length), (7, .d (dfsD e.puts)), (8, .d (I64 e.puts.length)), (9, .d (I64 i))]) (fun ⟨i, acc⟩ => mkObs [(3, .row false 1 (acc.map .str)), (1, .box false ((cellsD e.d).map .d))]) (fun ⟨i, acc⟩ => i ≤ e.puts.length ∧ acc.length = i ∧ acc = (e.puts.map Df.name).take i) (fun ⟨i, acc⟩ => e.puts.length - i) (0, []) (Weak.to [1, 3, 7, 8, 9] [(3, 3), (1, 1)] (by decide) (by decide) (by simp [hp]) (by simp) (by simp)) (by simp) fun ⟨i, acc⟩ hi3 => ?_
  refine LWp.seq ?_
  refine LWp.reg hT hW (fun _ => none) (fun _ => ⟨rfl, fun _ h => h⟩) ?_
  simp
  refine LWp.seq ?_
  refine LWp.iff ?_
  simp
  refine ⟨fun h3 => ?_, fun h3 => ?_⟩
  · refine LWp.skip ?_
    simp
    refine LWp.seq ?_
    refine LWp.block ?_
    refine LWp.seq ?_
    refine LWp.reg hT hW (fun _ => none) (fun _ => ⟨rfl, fun _ h => h⟩) ?_
    simp [h3]
    refine LWp.reg hT hW (fun _ => none) (fun _ => ⟨rfl, fun _ h => h⟩) ?_
    simp
    refine ⟨by have := hi3.2.1; omega, ?_⟩
    refine LWp.reg hT hW (fun _ => none) (fun _ => ⟨rfl, fun _ h => h⟩) ?_
    simp
    refine ⟨by omega, ?_⟩
    refine loopQ.mk (i + 1, acc ++ [e.puts[i].name]) (Weak.to [1, 3, 7, 8, 9] [(17, 3), (1, 1)] (by decide) (by decide) (by simp [hp]) (by simp) (by simp)) ?_ ?_
    · exact ⟨h3, by simp [hi3.2.1], by rw [map_take_succ h3, ← hi3.2.2]⟩
    · omega
  · refine LWp.exit ?_
    simp
    refine LWp.seq ?_
    refine LWp.reg hT hW (fun _ => none) (fun _ => ⟨rfl, fun _ h => h⟩) ?_
    simp
    refine ⟨by have := hi3.2.1; omega, ?_⟩
    refine LWp.ret ?_
    have q : i = e.puts.length := by omega
    have := hi3.2.2
    rw [q] at this
    have q2 : ∀ (x y : List DV) (n : Nat), n = x.length + y.length → List.take n (x ++ y) = x ++ y := fun x y n h => List.take_of_length_le (by simp [h])
    simp [this, touches, q2]
    rintro x (⟨a, _, rfl⟩ | ⟨a, _, rfl⟩) <;> simp

/-- The edit with a name. -/
def edAt (l : List Ed) (n : Nm) : Ed := match find? l n with | some i => l.getD i default | none => default
/-- What two edits touch, if neither is before the other. -/
def sharedL (l : List Ed) (a b : Nm) : List Str :=
  if findI l a < 0 ∨ findI l b < 0 ∨ a = b ∨ a ∈ aboveL l b ∨ b ∈ aboveL l a then [] else (touches (edAt l a)).filter fun s => decide (s ∈ touches (edAt l b))
theorem edAt_of {l : List Ed} {n : Nm} (h : 0 ≤ findI l n) : ∃ i, ∃ hi : i < l.length, findI l n = (i : Int) ∧ edAt l n = l[i] := by
  unfold findI at h
  unfold findI edAt
  cases q : find? l n with
  | none => rw [q] at h; simp at h
  | some i =>
    obtain ⟨hi, _, _⟩ := find_at q
    exact ⟨i, hi, rfl, by simp [hi]⟩
theorem touches_len {e : Ed} (h1 : e.puts.length ≤ 1000000) (h2 : e.drops.length ≤ 1000000) : (touches e).length ≤ 2000000 := by unfold touches; simp; omega

/-- culprit/edit.apart$1 -/
theorem apart1_ok (l : List Str) (s : Str) : Ok Tryz.prog 171 [.str s, .ro [strsD l]] ⟨.d (.bool (!decide (s ∈ l))), true⟩ := by
  refine Ok.ret Tryz.func171 (by kernel_rfl) (c := _) rfl Tryz.ntmps171 (by simp) Tryz.results171 (by intro _ h; cases h) fun w0 X hp => ?_
  refine LWp.seq ?_
  refine LWp.reg hT hW (fun _ => none) (fun _ => ⟨rfl, fun _ h => h⟩) ?_
  simp
  refine LWp.seq ?_
  refine LWp.reg hT hW (fun | 6 => some <| .plain ⟨.d (.bool (decide (s ∈ l))), true⟩ | _ => none) (by intro d; first | exact ⟨rfl, fun _ h => h⟩ | (split <;> exact ⟨rfl, fun _ h => h⟩)) ?_
  simp
  refine ⟨InStr_ok l s, ?_⟩
  refine LWp.ret ?_
  simp

/-- culprit/edit.apart -/
theorem apart_ok (l : List Ed) (a b : Nm) (hs : small l) (ha : 0 ≤ findI l a) (hb : 0 ≤ findI l b) : Ok Tryz.prog 128 [edsD l, a.d, b.d] ⟨.d (strsD (sharedL l a b)), true⟩ := by
  refine Ok.ret Tryz.func128 (by kernel_rfl) (c := _) rfl Tryz.ntmps128 (by simp) Tryz.results128 (by intro _ h; cases h) fun w0 X hp => ?_
  refine LWp.seq ?_
  refine LWp.reg hT hW (fun _ => none) (fun _ => ⟨rfl, fun _ h => h⟩) ?_
  simp
  refine LWp.seq ?_
  refine LWp.seq ?_
  refine LWp.reg hT hW (fun | 15 => some <| .plain ⟨.d (.bool (decide (a ∈ aboveL l b))), true⟩ | 21 => some <| .plain ⟨.d (.bool (decide (b ∈ aboveL l a))), true⟩ | _ => none) (by intro d; first | exact ⟨rfl, fun _ h => h⟩ | (split <;> exact ⟨rfl, fun _ h => h⟩)) ?_
  simp
  refine ⟨⟨fun _ => EBefore_ok l a b, fun _ _ => EBefore_ok l b a⟩, ?_⟩
  refine LWp.iff ?_
  simp
  refine ⟨fun h1 => ?_, fun g1 g2 g3 => ?_⟩
  · refine LWp.seq ?_
    refine LWp.reg hT hW (fun _ => none) (fun _ => ⟨rfl, fun _ h => h⟩) ?_
    simp
    refine LWp.ret ?_
    have e : sharedL l a b = [] := by unfold sharedL; rw [if_pos (by rcases h1 with (h | h) | h <;> simp [h])]
    simp [e]
  · refine LWp.skip ?_
    simp
    refine LWp.seq ?_
    obtain ⟨i, hi, fa, ea⟩ := edAt_of ha
    obtain ⟨j, hj, fb, eb⟩ := edAt_of hb
    refine LWp.reg hT hW (fun | 26 => some <| .plain ⟨.d (I64 (findI l b)), true⟩ | 29 => some <| .plain ⟨.d (strsD (touches l[j])), true⟩ | _ => none) (by intro d; first | exact ⟨rfl, fun _ h => h⟩ | (split <;> exact ⟨rfl, fun _ h => h⟩)) ?_
    simp [fb, hj]
    refine ⟨⟨by rw [← fb]; exact EFind_ok l b, etouches_ok _ (hs _ (List.getElem_mem hj)).1 (hs _ (List.getElem_mem hj)).2⟩, ?_⟩
    refine LWp.seq ?_
    refine LWp.reg hT hW (fun | 33 => some <| .plain ⟨.d (I64 (findI l a)), true⟩ | 36 => some <| .plain ⟨.own 1 ((touches l[i]).map .str), true⟩ | 38 => some (.gen ⟨[(36, 0)], [], [1], [(0, .row false 1 (((touches l[i]).filter fun x => !(!decide (x ∈ touches l[j]))).map .str ++ List.replicate ((touches l[i]).length - ((touches l[i]).filter fun x => !(!decide (x ∈ touches l[j]))).length) (.str [])))], .ow 0 0 ((touches l[i]).filter fun x => !(!decide (x ∈ touches l[j]))).length⟩) | _ => none) (by intro d; first | exact ⟨rfl, fun _ h => h⟩ | (split <;> exact ⟨rfl, fun _ h => h⟩)) ?_
    simp [fa, hi]
    refine ⟨⟨⟨by rw [← fa]; exact EFind_ok l a, etouches_own _ (hs _ (List.getElem_mem hi)).1 (hs _ (List.getElem_mem hi)).2⟩, by simpa [strsD] using DeleteFuncStr_ok (touches l[i]) (by have := touches_len (hs _ (List.getElem_mem hi)).1 (hs _ (List.getElem_mem hi)).2; omega) (fun x => !decide (x ∈ touches l[j])) _ _ fun x _ => apart1_ok (touches l[j]) x⟩, ?_⟩
    refine LWp.ret ?_
    have e : sharedL l a b = (touches l[i]).filter fun s => decide (s ∈ touches l[j]) := by unfold sharedL; rw [if_neg (by simp only [not_or]; exact ⟨by omega, by omega, g1, g2, g3⟩), ea, eb]
    simp [e]
    rintro _ x _ _ rfl
    simp

/-- A third edit resolves a clash. -/
def resolvedB (l : List Ed) (s : Str) (a b c : Nm) : Bool := decide (s ∈ touches (edAt l c)) && decide (a ∈ aboveL l c) && decide (b ∈ aboveL l c)
def clashB (l : List Ed) (set : List Nm) (a b : Nm) : Bool := (sharedL l a b).any fun s => !set.any (resolvedB l s a b)

/-- culprit/edit.clash$1 -/
theorem clash1_ok (l : List Ed) (s : Str) (a b c : Nm) (hs : small l) (hc : 0 ≤ findI l c) : Ok Tryz.prog 139 [c.d, .ro [edsD l], .ro [.str s], .ro [I64 a.who, I64 a.seq], .ro [I64 b.who, I64 b.seq]] ⟨.d (.bool (resolvedB l s a b c)), true⟩ := by
  refine Ok.ret Tryz.func139 (by kernel_rfl) (c := _) rfl Tryz.ntmps139 (by simp) Tryz.results139 (by intro _ h; cases h) fun w0 X hp => ?_
  refine LWp.seq ?_
  refine LWp.reg hT hW (fun _ => none) (fun _ => ⟨rfl, fun _ h => h⟩) ?_
  simp
  refine LWp.seq ?_
  obtain ⟨i, hi, fc, ec⟩ := edAt_of hc
  refine LWp.regAny hT hW hMixed (lk [[], [], [], [1, 2], [0, 1, 2, 3], [0, 1, 2, 3, 4], [0, 1, 2, 3, 4, 5], [], [0, 1, 2, 3, 4, 5, 6, 7], [0, 1, 2, 3, 4, 5, 6, 7, 8], [0, 1, 2, 3, 4, 5, 6, 7, 8, 9], [0, 1, 2, 3, 4, 5, 6, 7, 8, 9], [0, 1, 2, 3, 4, 5, 6, 7, 8, 9], [0, 1, 2, 3, 4, 5, 6, 7, 8, 9, 10, 11, 12], [0, 1, 2, 3, 4, 5, 6, 7, 8, 9, 10, 11, 12, 13], [0, 1, 2, 3, 4, 5, 6, 7, 8, 9, 10, 11, 12, 13, 14], [0, 1, 2, 3, 4, 5, 6, 7, 8, 9, 10, 11, 12, 13, 14, 15], [0, 1, 2, 3, 4, 5, 6, 7, 8, 9, 10, 11, 12, 13, 14, 15], [0, 1, 2, 3, 4, 5, 6, 7, 8, 9, 10, 11, 12, 13, 14, 15], [0, 1, 2, 3, 4, 5, 6, 7, 8, 9, 10, 11, 12, 13, 14, 15, 16, 17, 18], [0, 1, 2, 3, 4, 5, 6, 7, 8, 9, 10, 11, 12, 13, 14, 15, 16, 17, 18, 19], [0, 1, 2, 3, 4, 5, 6, 7, 8, 9, 10, 11, 12, 13, 14, 15, 16, 17, 18, 19, 20]]) (lk [[10], [], [], [], [], [], [], [10, 13], [], [], [], [], [], [], [], [], [], [], [], [], [], []]) (lk [[], [], [], [10], [], [], [13], [], [15], [], [], [], [], [20], [], [], [], [], [], [26], [], []]) (by kernel_rfl) (fun | 10 => some <| .plain ⟨.d (I64 (findI l c)), true⟩ | 13 => some <| .plain ⟨.d (strsD (touches l[i])), true⟩ | 15 => some <| .plain ⟨.d (.bool (decide (s ∈ touches l[i]))), true⟩ | 20 => some <| .plain ⟨.d (.bool (decide (a ∈ aboveL l c))), true⟩ | 26 => some <| .plain ⟨.d (.bool (decide (b ∈ aboveL l c))), true⟩ | _ => none) (by intro d; first | exact ⟨rfl, fun _ h => h⟩ | (split <;> exact ⟨rfl, fun _ h => h⟩)) ?_
  simp [fc, hi]
  refine ⟨⟨⟨⟨⟨by rw [← fc]; exact EFind_ok l c, etouches_ok _ (hs _ (List.getElem_mem hi)).1 (hs _ (List.getElem_mem hi)).2⟩, InStr_ok _ _⟩, fun _ => EBefore_ok l a c⟩, fun _ _ => EBefore_ok l b c⟩, ?_⟩
  refine LWp.ret ?_
  simp [resolvedB, ec]

theorem edAt_small {l : List Ed} (hs : small l) (n : Nm) : (edAt l n).puts.length ≤ 1000000 ∧ (edAt l n).drops.length ≤ 1000000 := by
  unfold edAt
  split
  · rename_i i h
    obtain ⟨hi, _, _⟩ := find_at h
    simp only [List.getD_eq_getElem?_getD, List.getElem?_eq_getElem hi, Option.getD_some]
    exact hs _ (List.getElem_mem hi)
  · exact ⟨by decide, by decide⟩
theorem sharedL_len {l : List Ed} (hs : small l) (a b : Nm) : (sharedL l a b).length ≤ 2000000 := by
  unfold sharedL
  split
  · simp
  · exact Nat.le_trans (List.length_filter_le _ _) (touches_len (edAt_small hs a).1 (edAt_small hs a).2)

/-- culprit/edit.clash -/
theorem eclash_ok (l : List Ed) (set : List Nm) (a b : Nm) (hs : small l) (hset : ∀ c ∈ set, 0 ≤ findI l c) (ha : 0 ≤ findI l a) (hb : 0 ≤ findI l b) : Ok Tryz.prog 88 [edsD l, nmsD set, a.d, b.d] ⟨.d (.bool (clashB l set a b)), true⟩ := by
  refine Ok.ret Tryz.func88 (by kernel_rfl) (c := _) rfl Tryz.ntmps88 (by simp) Tryz.results88 (by intro _ h; cases h) fun w0 X hp => ?_
  have hlen := sharedL_len hs a b
  refine LWp.seq ?_
  refine LWp.reg hT hW (fun _ => none) (fun _ => ⟨rfl, fun _ h => h⟩) ?_
  simp
  refine LWp.seq ?_
  refine LWp.seq ?_
  refine LWp.reg hT hW (fun | 14 => some <| .plain ⟨.d (strsD (sharedL l a b)), true⟩ | _ => none) (by intro d; first | exact ⟨rfl, fun _ h => h⟩ | (split <;> exact ⟨rfl, fun _ h => h⟩)) ?_
  simp
  refine ⟨apart_ok l a b hs ha hb, ?_⟩
  refine LWp.block ?_
  refine LWp.loopW (ι := Nat) (fun i => mkEnv [(1, .d (nmsD set)), (4, .bx 4 0), (6, .bx 6 0), (7, .bx 7 0), (14, .d (strsD (sharedL l a b))), (15, .d (I64 (sharedL l a b).length)), (16, .d (I64 i))]) (fun i => mkObs [(4, .box false [.d (edsD l)]), (6, .box false [.d (I64 a.who), .d (I64 a.seq)]), (7, .box false [.d (I64 b.who), .d (I64 b.seq)])]) (fun i => i ≤ (sharedL l a b).length ∧ Pre (fun s => !set.any (resolvedB l s a b)) (sharedL l a b) i) (fun i => (sharedL l a b).length - i) 0 (Weak.to [1, 4, 6, 7, 14, 15, 16] [(4, 4), (6, 6), (7, 7)] (by decide) (by decide) (by simp [hp]) (by simp) (by simp)) (⟨Nat.zero_le _, Pre.zero⟩) fun i hi2 => ?_
  refine LWp.seq ?_
  refine LWp.reg hT hW (fun _ => none) (fun _ => ⟨rfl, fun _ h => h⟩) ?_
  simp
  refine LWp.seq ?_
  refine LWp.iff ?_
  simp
  refine ⟨fun h2 => ?_, fun h2 => ?_⟩
  · refine LWp.skip ?_
    simp
    refine LWp.seq ?_
    refine LWp.block ?_
    refine LWp.seq ?_
    refine LWp.reg hT hW (fun _ => none) (fun _ => ⟨rfl, fun _ h => h⟩) ?_
    simp [h2]
    refine LWp.seq ?_
    refine LWp.reg hT hW (fun | 22 => some <| .plain ⟨.d (.bool (set.any (resolvedB l (sharedL l a b)[i] a b))), true⟩ | _ => none) (by intro d; first | exact ⟨rfl, fun _ h => h⟩ | (split <;> exact ⟨rfl, fun _ h => h⟩)) ?_
    simp
    refine ⟨AnyNm_ok set (resolvedB l (sharedL l a b)[i] a b) _ _ fun c hc => clash1_ok l _ a b c hs (hset c hc), ?_⟩
    refine LWp.iff ?_
    simp
    refine ⟨fun h4 => ?_, fun c4 hc4 hr4 => ?_⟩
    · refine LWp.seq ?_
      refine LWp.reg hT hW (fun _ => none) (fun _ => ⟨rfl, fun _ h => h⟩) ?_
      simp
      refine LWp.ret ?_
      simp
      exact List.any_eq_true.2 ⟨_, List.getElem_mem h2, by simpa using h4⟩
    · refine LWp.skip ?_
      simp
      refine LWp.reg hT hW (fun _ => none) (fun _ => ⟨rfl, fun _ h => h⟩) ?_
      simp
      refine ⟨by omega, ?_⟩
      refine loopQ.mk (i + 1) (Weak.to [1, 4, 6, 7, 14, 15, 16] [(4, 4), (6, 6), (7, 7)] (by decide) (by decide) (by simp [hp]) (by simp) (by simp)) ?_ ?_
      · exact ⟨h2, hi2.2.succ h2 (by have := List.any_eq_true.2 ⟨c4, hc4, hr4⟩; simp only [this, Bool.not_true])⟩
      · omega
  · refine LWp.exit ?_
    simp
    refine LWp.seq ?_
    refine LWp.reg hT hW (fun _ => none) (fun _ => ⟨rfl, fun _ h => h⟩) ?_
    simp
    refine LWp.ret ?_
    simp
    exact hi2.2.any h2

end Go.Eng

/-
  Chapter 22: edit.Clashes. No condition.
-/
namespace Go.Eng
open Go.Proofs
attribute [local simp] runL stepL evalG evalOp opLV constLV putEnv dstOk upd upds Res.plain Res.cond Res.fail evalBin evalUn seqQ blockQ argsEnv lookL lookH RetIs memless freshL evalPick evalMin bval bok evalLen evalIn strip whenC guardOps guardC slotsOf
  runM foldS stepI stepM maskE wrIn lk renO lookN evalCall evalCallee optAll resLV resObj retLV retObj retsLV retsObj evalLoad evalIndexAddr evalField solid cellsD_agg cellsD_int cellsD_bool cellsD_str cellsD_sl cellsD_ro cellsD_fn cellsL_agg cellsL_dagg cellsL_int cellsL_bool cellsL_str cellsL_sl cellsL_fn cellsL_ow cellsL_bx cellsL_lfn cellsL_nl takeL takeD mkAgg allD eqD eqDs kindsAre kindIs LObj.live TK.isNone TK.agg TK.isBool TK.isStr TK.isStruct Op.operands Call.operands
  evalBuildSlice evalAppend elemsOf evalStore evalBuild fillL lookupF putL evalSlice bound evalConv elemsS freezes frozen loadR
  mkEnv_at mkObs_at close_d close_agg close_ow close_bx close_fn close_nl touch_d touch_agg touch_ow touch_bx touch_fn touch_nl ren_d ren_agg ren_bx ren_rp ren_ow ren_fn ren_nl ren_junk retQ_ret retQ2_ret condQ_bool Nm.d Df.d Ed.d nmsD dfsD strsD edsD retC_ret nm_eq df_eq take_map_len take_map_app
  nm_t nm_d nm_td df_t df_d df_td str_t str_d str_td ed_t ed_d ed_td
  evalAppendIn evalCut evalClear evalCopy evalMake evalWrap evalCap evalNil isNilC lenL isInp gorc
  mapOf findD keyEq keyOk evalMakeMap evalRange zeroD zeroDV argsG shutG outN lenv retG0_ret retG0_normal retG1_ret renO close_mp touch_mp ren_mp optAll_d optAll_d' touch_ds cellsL_mp cellsD_mp cellsL_dmp

def prD (p : Nm × Nm) : DV := .agg [.int .i64 p.1.who, .int .i64 p.1.seq, .int .i64 p.2.who, .int .i64 p.2.seq]
def rowC (f : Nm → Nm → Bool) (all : List Nm) (i : Nat) : List (Nm × Nm) := ((all.drop (i + 1)).filter (f (all.getD i default))).map fun b => (all.getD i default, b)
/-- The pairs of a list, in order, of which something holds. -/
def pairsL (f : Nm → Nm → Bool) (all : List Nm) : Nat → List (Nm × Nm)
  | 0 => []
  | i + 1 => pairsL f all i ++ rowC f all i
def sharesB (l : List Ed) (a b : Nm) : Bool := decide (0 < (sharedL l a b).length)
def clashesL (l : List Ed) : List (Nm × Nm) := if (validV l).2 ≠ 0 then [] else pairsL (sharesB l) (sortN (l.map Ed.name)) (sortN (l.map Ed.name)).length
theorem rowC_len (f : Nm → Nm → Bool) (all : List Nm) (i : Nat) : (rowC f all i).length ≤ all.length := by
  unfold rowC
  rw [List.length_map]
  exact Nat.le_trans (List.length_filter_le _ _) (by simp)
theorem pairsL_len (f : Nm → Nm → Bool) (all : List Nm) : ∀ i, (pairsL f all i).length ≤ i * all.length
  | 0 => by simp [pairsL]
  | i + 1 => by
    have := pairsL_len f all i
    have := rowC_len f all i
    simp only [pairsL, List.length_append, Nat.add_mul]
    omega
theorem names_found {l : List Ed} {n : Nm} (h : n ∈ sortN (l.map Ed.name)) : 0 ≤ findI l n := by
  have h := ((sortN_spec _).2 n).1 h
  obtain ⟨e, he, rfl⟩ := List.mem_map.1 h
  unfold findI
  cases q : find? l e.name with
  | some i => simp
  | none => have := List.findIdx?_eq_none_iff.1 q e he; simp at this

/-- culprit/edit.Clashes -/
theorem EClashes_ok (l : List Ed) (hs : small l) : Ok Tryz.prog 70 [edsD l] ⟨.d (.sl ((clashesL l).map prD)), true⟩ := by
  refine Ok.ret Tryz.func70 (by kernel_rfl) (c := _) rfl Tryz.ntmps70 (by simp) Tryz.results70 (by intro _ h; cases h) fun w0 X hp => ?_
  refine LWp.len (t := 0) rfl fun hlen => ?_
  simp at hlen
  refine LWp.seq ?_
  refine LWp.reg hT hW (fun _ => none) (fun _ => ⟨rfl, fun _ h => h⟩) ?_
  simp
  refine LWp.seq ?_
  refine LWp.seq ?_
  refine LWp.reg hT hW (fun | 15 => some <| .plain ⟨.tup [.d (I64 (validV l).1), .d (I64 (validV l).2)], true⟩ | _ => none) (by intro d; first | exact ⟨rfl, fun _ h => h⟩ | (split <;> exact ⟨rfl, fun _ h => h⟩)) ?_
  simp [evalExtract]
  refine ⟨EValid_ok l hs, ?_⟩
  refine LWp.seq ?_
  refine LWp.reg hT hW (fun _ => none) (fun _ => ⟨rfl, fun _ h => h⟩) ?_
  simp
  refine LWp.iff ?_
  simp
  refine ⟨fun h2 => ?_, fun h2 => ?_⟩
  · refine LWp.seq ?_
    refine LWp.reg hT hW (fun _ => none) (fun _ => ⟨rfl, fun _ h => h⟩) ?_
    simp
    refine LWp.ret ?_
    simp [clashesL, h2]
  · have h64 := (valid_err (by simpa using h2)).1
    refine LWp.skip ?_
    simp
    refine LWp.seq ?_
    refine LWp.reg hT hW (fun _ => none) (fun _ => ⟨rfl, fun _ h => h⟩) ?_
    simp
    refine LWp.seq ?_
    refine LWp.seq ?_
    refine LWp.reg hT hW (fun _ => none) (fun _ => ⟨rfl, fun _ h => h⟩) ?_
    simp
    refine LWp.block ?_
    refine LWp.loopW (ι := Nat × List Nm) (fun ⟨i, acc⟩ => mkEnv [(0, .d (edsD l)), (5, .ow 5 0 acc.length), (20, .d (edsD l)), (21, .d (I64 l.length)), (22, .d (I64 i))]) (fun ⟨i, acc⟩ => mkObs [(5, .row false 2 (acc.map Nm.d))]) (fun ⟨i, acc⟩ => i ≤ l.length ∧ acc.length = i ∧ acc = (l.map Ed.name).take i) (fun ⟨i, acc⟩ => l.length - i) (0, []) (Weak.to [0, 5, 20, 21, 22] [(5, 5)] (by decide) (by decide) (by simp [hp]) (by simp) (by simp)) (by simp) fun ⟨i, acc⟩ hi6 => ?_
    refine LWp.seq ?_
    refine LWp.reg hT hW (fun _ => none) (fun _ => ⟨rfl, fun _ h => h⟩) ?_
    simp
    refine LWp.seq ?_
    refine LWp.iff ?_
    simp
    refine ⟨fun h6 => ?_, fun h6 => ?_⟩
    · refine LWp.skip ?_
      simp
      refine LWp.seq ?_
      refine LWp.block ?_
      refine LWp.seq ?_
      refine LWp.reg hT hW (fun _ => none) (fun _ => ⟨rfl, fun _ h => h⟩) ?_
      simp [h6]
      refine LWp.reg hT hW (fun _ => none) (fun _ => ⟨rfl, fun _ h => h⟩) ?_
      simp [h6]
      refine ⟨by have := hi6.2.1; omega, ?_⟩
      refine LWp.reg hT hW (fun _ => none) (fun _ => ⟨rfl, fun _ h => h⟩) ?_
      simp
      refine ⟨by omega, ?_⟩
      refine loopQ.mk (i + 1, acc ++ [l[i].name]) (Weak.to [0, 5, 20, 21, 22] [(30, 5)] (by decide) (by decide) (by simp [hp]) (by simp) (by simp)) ?_ ?_
      · exact ⟨h6, by simp [hi6.2.1], by rw [map_take_succ h6, ← hi6.2.2]⟩
      · omega
    · refine LWp.exit ?_
      simp
      refine LWp.seq ?_
      have e6 : acc = l.map Ed.name := by rw [hi6.2.2, show i = l.length by omega, List.take_of_length_le (by simp)]
      refine LWp.reg hT hW (fun | 33 => some <| .plain ⟨.own 2 ((sortN acc).map Nm.d), true⟩ | _ => none) (by intro d; first | exact ⟨rfl, fun _ h => h⟩ | (split <;> exact ⟨rfl, fun _ h => h⟩)) ?_
      simp
      refine ⟨ESort_ok acc (by have := hi6.2.1; omega), ?_⟩
      refine LWp.seq ?_
      refine LWp.reg hT hW (fun _ => none) (fun _ => ⟨rfl, fun _ h => h⟩) ?_
      simp
      refine LWp.seq ?_
      refine LWp.seq ?_
      obtain ⟨all, hall⟩ : ∃ all, all = sortN acc := ⟨_, rfl⟩
      have hal : all.length ≤ 64 := by have := sortN_len acc; have := hi6.2.1; rw [hall]; omega
      have hfound : ∀ n ∈ all, 0 ≤ findI l n := fun n hn => names_found (by rw [← e6, ← hall]; exact hn)
      rw [← hall]
      refine LWp.reg hT hW (fun _ => none) (fun _ => ⟨rfl, fun _ h => h⟩) ?_
      simp
      refine LWp.block ?_
      refine LWp.loopW (ι := Nat × List (Nm × Nm)) (fun ⟨j, ps⟩ => mkEnv [(0, .d (edsD l)), (5, .ow 5 0 all.length), (8, .ow 8 0 ps.length), (34, .ow 5 0 all.length), (35, .d (I64 all.length)), (36, .d (I64 j))]) (fun ⟨j, ps⟩ => mkObs [(5, .row false 2 (all.map Nm.d)), (8, .row false 4 (ps.map prD))]) (fun ⟨j, ps⟩ => j ≤ all.length ∧ ps.length ≤ j * all.length ∧ ps = pairsL (sharesB l) all j) (fun ⟨j, ps⟩ => all.length - j) (0, []) (Weak.to [0, 5, 8, 34, 35, 36] [(33, 5), (8, 8)] (by decide) (by decide) (by simp [hp]) (by simp) (by simp)) (by simp [pairsL]) fun ⟨j, ps⟩ hi13 => ?_
      refine LWp.seq ?_
      refine LWp.reg hT hW (fun _ => none) (fun _ => ⟨rfl, fun _ h => h⟩) ?_
      simp
      refine LWp.seq ?_
      refine LWp.iff ?_
      simp
      refine ⟨fun h13 => ?_, fun h13 => ?_⟩
      · refine LWp.skip ?_
        simp
        refine LWp.seq ?_
        refine LWp.block ?_
        refine LWp.seq ?_
        refine LWp.reg hT hW (fun _ => none) (fun _ => ⟨rfl, fun _ h => h⟩) ?_
        simp [h13]
        refine LWp.seq ?_
        refine LWp.reg hT hW (fun _ => none) (fun _ => ⟨rfl, fun _ h => h⟩) ?_
        simp [(show ((all.length : Int) - ((j : Int) + 1)).toNat = all.length - (j + 1) by omega)]
        refine ⟨by omega, ?_⟩
        refine LWp.block ?_
        refine LWp.loopW (ι := Nat × List (Nm × Nm)) (fun ⟨k, qs⟩ => mkEnv [(0, .d (edsD l)), (5, .ow 5 0 all.length), (8, .ow 8 0 qs.length), (10, .bx 10 0), (34, .ow 5 0 all.length), (35, .d (I64 all.length)), (36, .d (I64 j)), (44, .ow 5 (j + 1) (all.length - (j + 1))), (45, .d (I64 (all.length - (j + 1) : Nat))), (46, .d (I64 k))]) (fun ⟨k, qs⟩ => mkObs [(5, .row false 2 (all.map Nm.d)), (8, .row false 4 (qs.map prD)), (10, .box false [.d (I64 all[j].who), .d (I64 all[j].seq)])]) (fun ⟨k, qs⟩ => k ≤ all.length - (j + 1) ∧ qs.length ≤ ps.length + k ∧ qs = pairsL (sharesB l) all j ++ (((all.drop (j + 1)).take k).filter (sharesB l all[j])).map (fun b => (all[j], b))) (fun ⟨k, qs⟩ => all.length - (j + 1) - k) (0, ps) (Weak.to [0, 5, 8, 10, 34, 35, 36, 44, 45, 46] [(5, 5), (8, 8), (10, 10)] (by decide) (by decide) (by simp [hp]) (by simp) (by simp)) (by simp [hi13.2.2]) fun ⟨k, qs⟩ hi16 => ?_
        refine LWp.seq ?_
        refine LWp.reg hT hW (fun _ => none) (fun _ => ⟨rfl, fun _ h => h⟩) ?_
        simp
        refine LWp.seq ?_
        refine LWp.iff ?_
        simp
        refine ⟨fun h16 => ?_, fun h16 => ?_⟩
        · refine LWp.skip ?_
          simp
          refine LWp.seq ?_
          refine LWp.block ?_
          refine LWp.seq ?_
          have h16' : j + 1 + k < all.length := by omega
          refine LWp.reg hT hW (fun _ => none) (fun _ => ⟨rfl, fun _ h => h⟩) ?_
          simp [h16, h16']
          refine LWp.seq ?_
          refine LWp.reg hT hW (fun | 53 => some <| .plain ⟨.d (strsD (sharedL l all[j] all[j + 1 + k])), true⟩ | _ => none) (by intro d; first | exact ⟨rfl, fun _ h => h⟩ | (split <;> exact ⟨rfl, fun _ h => h⟩)) ?_
          simp
          refine ⟨apart_ok l _ _ hs (hfound _ (List.getElem_mem h13)) (hfound _ (List.getElem_mem h16')), ?_⟩
          refine LWp.iff ?_
          simp
          refine ⟨fun h18 => ?_, fun h18 => ?_⟩
          · refine LWp.reg hT hW (fun _ => none) (fun _ => ⟨rfl, fun _ h => h⟩) ?_
            simp
            have hb : qs.length ≤ 5000 := by
              have h1 := hi16.2.1
              have h2 := hi13.2.1
              have h3 : j * all.length ≤ 64 * 64 := Nat.mul_le_mul (by omega) hal
              omega
            refine ⟨by omega, ?_⟩
            refine LWp.reg hT hW (fun _ => none) (fun _ => ⟨rfl, fun _ h => h⟩) ?_
            simp
            refine ⟨by omega, ?_⟩
            refine loopQ.mk (k + 1, qs ++ [(all[j], all[j + 1 + k])]) (Weak.to [0, 5, 8, 10, 34, 35, 36, 44, 45, 46] [(5, 5), (61, 8), (10, 10)] (by decide) (by decide) (by simp [hp]) (by simp) (by simp [prD])) ?_ ?_
            · refine ⟨by omega, by have := hi16.2.1; simp; omega, ?_⟩
              rw [hi16.2.2, List.take_succ_eq_append_getElem (by simp; omega), List.filter_append, List.map_append]
              simp [sharesB, h18]
            · omega
          · refine LWp.skip ?_
            simp
            refine LWp.reg hT hW (fun _ => none) (fun _ => ⟨rfl, fun _ h => h⟩) ?_
            simp
            refine ⟨by omega, ?_⟩
            refine loopQ.mk (k + 1, qs) (Weak.to [0, 5, 8, 10, 34, 35, 36, 44, 45, 46] [(5, 5), (8, 8), (10, 10)] (by decide) (by decide) (by simp [hp]) (by simp) (by simp)) ?_ ?_
            · dsimp only
              refine ⟨by omega, by have := hi16.2.1; omega, ?_⟩
              rw [hi16.2.2, List.take_succ_eq_append_getElem (by simp; omega), List.filter_append, List.map_append]
              simp [sharesB, h18]
            · omega
        · refine LWp.exit ?_
          simp
          refine LWp.reg hT hW (fun _ => none) (fun _ => ⟨rfl, fun _ h => h⟩) ?_
          simp
          refine ⟨by omega, ?_⟩
          refine loopQ.mk (j + 1, qs) (Weak.to [0, 5, 8, 34, 35, 36] [(5, 5), (8, 8)] (by decide) (by decide) (by simp [hp]) (by simp) (by simp)) ?_ ?_
          · refine ⟨h13, ?_, ?_⟩
            · rw [hi16.2.2, List.length_append, Nat.add_mul]
              have h1 := hi13.2.1
              have h2 := hi13.2.2
              rw [← h2]
              have h3 : ((((all.drop (j + 1)).take k).filter (sharesB l all[j])).map (fun b => (all[j], b))).length ≤ all.length := by
                rw [List.length_map]
                exact Nat.le_trans (List.length_filter_le _ _) (by simp; omega)
              omega
            · rw [hi16.2.2, List.take_of_length_le (by simp; omega)]
              simp [pairsL, rowC, h13]
          · omega
      · refine LWp.exit ?_
        simp
        refine LWp.seq ?_
        refine LWp.reg hT hW (fun _ => none) (fun _ => ⟨rfl, fun _ h => h⟩) ?_
        simp
        refine LWp.ret ?_
        have e : ps = clashesL l := by
          have := hi13.2.2
          rw [show j = all.length by omega, hall, e6] at this
          simp [clashesL, h2, this]
        simp [e]
        rintro _ a b _ rfl
        simp [prD]

end Go.Eng

/-
  The engine, part X: a range over a function whose body ends normally, with an invariant that may speak of what was drawn. No condition.
-/
namespace Go.Eng
open Go.RowKit

/-- What is said abides new blocks, and the turn of a block from B on that is no cells. -/
def AbW {β : Type} (B : Nat) (J : β → World → Prop) : Prop :=
  ∀ s W W' row, J s W → W.grownBy W' row → W.drawn ≤ W'.drawn → (∀ r, row = some r → B ≤ r ∧ ∃ o : Obj, W.heap[r]? = some o ∧ o.isCells = false) → J s W'
theorem AbW.putObj {β : Type} {B : Nat} {J : β → World → Prop} (h : AbW B J) {s : β} {W : World} {l : Nat} {o : Obj} (o' : Obj) (hs : J s W) (hB : B ≤ l) (hl : W.heap[l]? = some o) (ho : o.isCells = false) : J s (W.putObj l o') :=
  h s W _ (some l) hs (grownBy_putObj' W l o') (Nat.le_refl _) (fun r e => by cases e; exact ⟨hB, o, hl, ho⟩)
theorem AbW.alloc {β : Type} {B : Nat} {J : β → World → Prop} (h : AbW B J) {s : β} {W : World} (o : Obj) (hs : J s W) : J s (W.alloc o) :=
  h s W _ none hs (World.grownBy_alloc W o none) (Nat.le_refl _) (fun r e => by cases e)

/-- What a round leaves. -/
def roundEnd {α : Type} (B : Nat) (I : List α → World → Prop) (xs : List α) (W : World) : Exit → Act → World → Prop
  | .normal, _, W' => KeepsFrom B W W' ∧ KeepsWalks W W' ∧ I xs W'
  | _, _, _ => False

theorem wpIn_rangeFunc_gives {F : Fence} {n : Nat} {P : Program} {w : World} {α : Type} {g : Operand} {p : Tmp} {assign body : Code} {Q : Exit → Act → World → Prop} {a : Act}
    (hro : F.round = none) (h1 : 1 ≤ n) {gf : Nat} {lb : Array Value} (hg : a.eval g = .func (.func gf) #[] lb) (hFg : F.fn gf) (eg : ∀ args w, (callFunc gf args).run P w = .ok (.enter gf args) w)
    {enc : α → Value} {S : List α → Prop} {N : Nat} (I : List α → World → Prop) (hI : AbW w.heap.size I) (h0 : I [] w)
    (hseq : ∀ (l : Nat) (J : List α → World → Prop) (W1 : World), I [] W1 → w.heap.size ≤ W1.heap.size → AbW W1.heap.size J →
      (∀ pre x W, J pre W → pre.length < N → YieldAt F (n - 1 - 1) P l #[enc x] W fun e W' => e = .returned (.bool true) ∧ J (pre ++ [x]) W' ∧ KeepsWalks W W') → J [] W1 →
      CallsIn F (n - 1) P gf (#[.func (.yield l) #[] #[]] ++ lb) W1 fun e W' => (∃ v, e = .returned v) ∧ ∃ xs, S xs ∧ J xs W')
    (Ax : α → Act → World → Prop) (hAx : ∀ x a', AbW w.heap.size (fun (_ : Unit) W => Ax x a' W))
    (hassign : ∀ (l : Nat) (pre : List α) (x : α) (W : World) (K : Act → World → Prop), I pre W → (∀ a' W', W.grownBy W' none → W.drawn ≤ W'.drawn → Ax x a' W' → K a' W') →
      assign.wpIn (F.inRound l) (n - 1 - 1) P (Exit.then K (fun _ _ _ => False)) { tmps := a.tmps.setIfInBounds p (enc x), defers := [] } W)
    (hbody : ∀ (l : Nat) (pre : List α) (x : α) (a' : Act) (W : World), I pre W → Ax x a' W → pre.length < N → body.wpIn (F.inRound l) (n - 1 - 1) P (roundEnd w.heap.size I (pre ++ [x]) W) a' W)
    (hdone : ∀ (D : Nat) (xs : List α) (W : World), w.heap.size ≤ D → S xs → I xs W → W.heap[D]? = some (.deferred (some [])) → Q .normal { a with defers := { target := .collected D, args := #[] } :: a.defers } W) :
    (Code.rangeFunc g #[p] assign body).wpIn F n P Q a w := by
  refine wpIn_rangeFunc ?_
  intro fn hfn
  rw [hro]
  obtain ⟨rec, hrec⟩ : ∃ rec : LoopState → Option Code → Loop, rec = fun st pe => { state := st, pending := pe, fn, tmps := a.tmps, params := #[p], assign, body, defers := w.heap.size } := ⟨_, rfl⟩
  obtain ⟨W1, hW1⟩ : ∃ W1, (w.alloc (.deferred (some []))).alloc (.loop (rec .ready none)) = W1 := ⟨_, rfl⟩
  have hL1 : W1.heap[w.heap.size + 1]? = some (.loop (rec .ready none)) := by
    rw [← hW1]; have := World.alloc_heap_new (w.alloc (.deferred (some []))) (.loop (rec .ready none)); rwa [World.size_alloc] at this
  have hK1 : W1.heap[w.heap.size]? = some (.deferred (some [])) := by
    rw [← hW1]; exact (Below.heap_alloc _ _ _ (by simp)).trans (World.alloc_heap_new w _)
  have hI1 : I [] W1 := by rw [← hW1]; exact hI.alloc _ (hI.alloc _ h0)
  have hs1 : W1.heap.size = w.heap.size + 2 := by rw [← hW1]; simp
  refine ⟨w.heap.size + 1, [{ target := .collected w.heap.size, args := #[] }], W1, { target := .fn (.func gf) lb, args := #[.func (.yield (w.heap.size + 1)) #[] #[]] }, W1, gf,
    #[.func (.yield (w.heap.size + 1)) #[] #[]] ++ lb, W1, ?_, ?_, ?_, ?_, fun _ => h1, ?_⟩
  · rw [← hW1, hrec]; exact run_enterLoop_outer _ _ _ _ _
  · simp only [resolve, hg]
    simp [go_sem]
  · intro f' hf'; simp [Target.leads] at hf'; subst hf'; exact hFg
  · simp [invoke, go_sem, eg]
  · have keep : ∀ {A B : World} {row : Option Nat} {k : Nat} {o : Obj}, A.grownBy B row → (∀ r, row = some r → W1.heap.size ≤ r ∧ ∃ o : Obj, A.heap[r]? = some o ∧ o.isCells = false) → k < W1.heap.size → A.heap[k]? = some o → B.heap[k]? = some o := fun {A B row k o} hg' hr hk ho =>
      (hg'.block k (Array.getElem?_eq_some_iff.1 ho).1 (fun e => by have := (hr k e.symm).1; omega)).trans ho
    refine (hseq (w.heap.size + 1) (fun pre W => I pre W ∧ W.heap[w.heap.size + 1]? = some (.loop (rec .ready none)) ∧ W.heap[w.heap.size]? = some (.deferred (some []))) W1 hI1 (by omega)
      (fun s A B row hs hg' hd hr => ⟨hI s A B row hs.1 hg' hd (fun r e => ⟨by have := (hr r e).1; omega, (hr r e).2⟩), keep hg' hr (by omega) hs.2.1, keep hg' hr (by omega) hs.2.2⟩)
      ?_ ⟨hI1, hL1, hK1⟩).mono ?_
    · rintro pre x W ⟨hi, hl, hk⟩ hlen
      have hlt : w.heap.size + 1 < W.heap.size := (Array.getElem?_eq_some_iff.1 hl).1
      have hy : (Instr.yield (w.heap.size + 1) #[enc x]).run P W = .ok (.round (w.heap.size + 1) fn (a.tmps.setIfInBounds p (enc x)) assign body) W := by
        have := run_yield (P := P) (args := #[enc x]) hl (by rw [hrec]; simp)
        rw [hrec] at this
        simpa using this
      refine ⟨fn, _, assign, body, hy, roundIn_of_wpIn hfn (hassign _ pre x W _ hi ?_)⟩
      intro a' Wa hga hda hax
      have hla := (hga.block _ (Array.getElem?_eq_some_iff.1 hl).1 (by simp)).trans hl
      have hka := (hga.block _ (Array.getElem?_eq_some_iff.1 hk).1 (by simp)).trans hk
      have hia : I pre Wa := hI pre W Wa none hi hga hda (fun r e => by cases e)
      have hwa : KeepsWalks W Wa := KeepsWalks.of_grownBy hga (fun j o e => by cases e)
      have hlta : w.heap.size + 1 < Wa.heap.size := (Array.getElem?_eq_some_iff.1 hla).1
      refine ⟨_, run_beginRound hla (by rw [hrec]), ?_⟩
      have hl2 : (Wa.putObj (w.heap.size + 1) (.loop { rec .ready none with state := .busy })).heap[w.heap.size + 1]? = some (.loop { rec .ready none with state := .busy }) := World.putObj_heap_same hlta
      have hk2 : (Wa.putObj (w.heap.size + 1) (.loop { rec .ready none with state := .busy })).heap[w.heap.size]? = some (.deferred (some [])) := (World.putObj_heap_other (by omega)).trans hka
      have hw2 : KeepsWalks Wa (Wa.putObj (w.heap.size + 1) (.loop { rec .ready none with state := .busy })) := KeepsWalks.putObj _ hla rfl
      refine wpIn_mono (hbody _ pre x a' _ (hI.putObj _ hia (by omega) hla rfl) ((hAx x a').putObj (s := ()) _ hax (by omega) hla rfl) hlen) ?_
      rintro e a3 W3 hp
      cases e with
      | normal =>
        obtain ⟨hk3, hkp3, hi3⟩ := hp
        have hl3 := hk3.same _ _ (by omega) hl2 rfl
        have hd3 := hk3.same _ _ (Nat.le_refl _) hk2 rfl
        have hr := run_endRound (P := P) none hl3
        refine ⟨_, _, hr, rfl, ⟨hI.putObj _ hi3 (by omega) hl3 rfl, ?_, (World.putObj_heap_other (by omega)).trans hd3⟩, (hwa.trans hw2).trans (hkp3.trans (KeepsWalks.putObj _ hl3 rfl))⟩
        have := World.putObj_heap_same (w := W3) (o := .loop (rec .ready none)) (Array.getElem?_eq_some_iff.1 hl3).1
        rw [hrec] at this ⊢
        exact this
      | ret => exact hp.elim
      | exit id => exact hp.elim
      | goto t => exact hp.elim
      | panic ch => exact hp.elim
      | outgrown => exact hp.elim
    · rintro e W2 ⟨⟨v, rfl⟩, xs, hS, hi, hl, hk⟩
      exact ⟨none, _, by have := run_endLoop (P := P) hl (by rw [hrec]; simp); rw [hrec] at this; exact this, hdone _ xs _ (Nat.le_refl _) hS (hI.putObj _ hi (by omega) hl rfl) ((World.putObj_heap_other (by omega)).trans hk)⟩

/-- A slice value that has a row to its end: the row b0 that was handed in, or one laid from block base on; or it has no room. -/
structure RowAt (s : Nat) (b0 : Option Nat) (base : Nat) (W : World) (v : Value) (n : Nat) (cells : List Value) (gb : Option Nat) : Prop where
  len : cells.length = n * s
  one : ∀ u ∈ cells, u.oneCell' = true
  lies : (gb = none ∧ n = 0 ∧ ∃ a, v = .slice a 0 0) ∨ ∃ g cap cur e, gb = some g ∧ v = .slice (some ⟨g, 0, none⟩) n cap ∧ (b0 = some g ∨ base ≤ g) ∧ W.heap[g]? = some (.cells cur e (0, 0)) ∧ n ≤ cap ∧ cap ≤ maxLen ∧ cap * s = cur.size ∧ cur.toList.take (n * s) = cells
theorem RowAt.kept {s : Nat} {b0 : Option Nat} {base : Nat} {W W' : World} {v : Value} {n : Nat} {cells : List Value} {gb row : Option Nat} (h : RowAt s b0 base W v n cells gb) (hg : W.grownBy W' row) (hr : gb = none ∨ gb ≠ row) : RowAt s b0 base W' v n cells gb := by
  refine ⟨h.len, h.one, ?_⟩
  rcases h.lies with h1 | ⟨g, cap, cur, e, rfl, h2, h3, h4, h5⟩
  · exact .inl h1
  · refine .inr ⟨g, cap, cur, e, rfl, h2, h3, (hg.block g (Array.getElem?_eq_some_iff.1 h4).1 (fun e' => ?_)).trans h4, h5⟩
    rcases hr with hr | hr
    · cases hr
    · exact hr e'
theorem RowAt.append {P : Program} {t e : TypeId} {i : TypeInfo} {z : Value} {s : Nat} (ty : TypeId) (ht : P.underlying t = some (.slice e)) (hi : P.info? e = some i) (hz : i.zero = some z) (hsz : i.size = s) (hzs : z.cells.size = s) (hs : 0 < s)
    {b0 : Option Nat} {base : Nat} {W : World} {v : Value} {n : Nat} {cells : List Value} {gb : Option Nat} (h : RowAt s b0 base W v n cells gb) (hbase : base ≤ W.heap.size) {ad c : Nat} {news : List Value} (hn : news.length = s) (h1 : ∀ u ∈ news, u.oneCell' = true)
    (hc : ∀ (j : Nat) (u : Value), news[j]? = some u → W.cell? ⟨ad, j, none⟩ = some u) (hb : (n + 1) * i.bytes ≤ 140737488355328) (hm : n + 1 ≤ 140737488355328) :
    ∃ v' W' g', (Builtin.append_ #[t, t] ty #[v, .slice (some ⟨ad, 0, none⟩) 1 c]).run P W = .ok v' W' ∧ RowAt s b0 base W' v' (n + 1) (cells ++ news) (some g') ∧ W.grownBy W' gb ∧ W.drawn ≤ W'.drawn ∧ (gb = some g' ∨ g' = W.heap.size) ∧
      ((g' = W.heap.size ∧ W.grownBy W' none) ∨ (gb = some g' ∧ ∀ cur e, W.heap[g']? = some (.cells cur e (0, 0)) → ∃ cur', W'.heap[g']? = some (.cells cur' e (0, 0)) ∧ cur'.size = cur.size ∧ cur'.toList.take (n * s) = cur.toList.take (n * s))) := by
  have hlen : (cells ++ news).length = (n + 1) * s := by rw [List.length_append, h.len, hn, Nat.add_mul]; omega
  have hone : ∀ u ∈ cells ++ news, u.oneCell' = true := fun u hu => (List.mem_append.1 hu).elim (h.one u) (h1 u)
  have hlo : (Builtin.lenOf (.slice (some ⟨ad, 0, none⟩) 1 c)).run P W = .ok 1 W := by simp [Builtin.lenOf]
  have hf : ∀ w2 : World, w2.heap = W.heap → (Builtin.firstCells i.size 1 (.slice (some ⟨ad, 0, none⟩) 1 c)).run P w2 = .ok news.toArray w2 := fun w2 hw =>
    run_firstCells (by rw [hsz]; omega) fun j u hu => by rw [cell_heap hw]; simpa using hc j u hu
  have hd : ∀ k, (TypeDesc.slice e) ≠ .int k := fun k => by simp
  have out : ∀ {ba : Option Addr} {cap : Nat} (olds : List Value), olds = cells → (∀ w2 : World, w2.heap = W.heap → (Builtin.firstCells i.size n (.slice ba n cap)).run P w2 = .ok olds.toArray w2) → cap < n + 1 → 
      ∃ v' W' g', (Builtin.append_ #[t, t] ty #[.slice ba n cap, .slice (some ⟨ad, 0, none⟩) 1 c]).run P W = .ok v' W' ∧ RowAt s b0 base W' v' (n + 1) (cells ++ news) (some g') ∧ W.grownBy W' gb ∧ W.drawn ≤ W'.drawn ∧ (gb = some g' ∨ g' = W.heap.size) ∧
      ((g' = W.heap.size ∧ W.grownBy W' none) ∨ (gb = some g' ∧ ∀ cur e, W.heap[g']? = some (.cells cur e (0, 0)) → ∃ cur', W'.heap[g']? = some (.cells cur' e (0, 0)) ∧ cur'.size = cur.size ∧ cur'.toList.take (n * s) = cur.toList.take (n * s))) := by
    intro ba cap olds ho hol hcap
    subst ho
    have hrun := run_append_out (P := P) (w := W) (ty := ty) (base := ba) (sLen := n) (sCap := cap) ht ht hd hi hz hlo hf hol hcap (by omega) hb
    have hge := grownCap_ge W (n + 1) cap e
    have hgc : (olds.toArray ++ news.toArray ++ Builtin.zeroCells z.cells (grownCap W (n + 1) cap e - (n + 1))).size = grownCap W (n + 1) cap e * s := by
      simp only [Array.size_append, List.size_toArray, size_zeroCells, hzs, h.len, hn]
      have : (n + 1 + (grownCap W (n + 1) cap e - (n + 1))) * s = n * s + s + (grownCap W (n + 1) cap e - (n + 1)) * s := by rw [Nat.add_mul, Nat.add_mul]; omega
      rw [← this]; congr 1; omega
    refine ⟨_, _, _, hrun, ⟨hlen, hone, .inr ⟨_, _, _, e, rfl, rfl, .inr hbase, heap_alloc_new W.drew _, hge, grownCap_le_maxLen W (n + 1) cap e (by unfold maxLen; omega), hgc.symm, ?_⟩⟩, ⟨rfl, rfl, rfl, by simp, fun k hk _ => heap_alloc_old W.drew _ hk⟩, Nat.le_succ _, .inr rfl, .inl ⟨rfl, ⟨rfl, rfl, rfl, by simp, fun k hk _ => heap_alloc_old W.drew _ hk⟩⟩⟩
    rw [← hlen]
    simp only [Array.toList_append, List.append_assoc]
    rw [← List.append_assoc, List.take_left]
  rcases h.lies with ⟨rfl, rfl, a, rfl⟩ | ⟨g, cap, cur, e', rfl, rfl, hbg, hblk, hnc, hcm, hcs, htk⟩
  · have hc0 : cells = [] := List.eq_nil_of_length_eq_zero (by simpa using h.len)
    refine out [] hc0.symm (fun w2 _ => by cases a <;> simp [Builtin.firstCells, loadCells, loadCellsFrom]) (by omega)
  · by_cases hroom : n + 1 ≤ cap
    · have hfit : n * s + news.length ≤ cur.size := by
        rw [hn, ← hcs]
        have : (n + 1) * s ≤ cap * s := Nat.mul_le_mul_right _ hroom
        rw [Nat.add_mul] at this; omega
      have hrun := run_append_in (P := P) (w := W) (ty := ty) (base := some ⟨g, 0, none⟩) (sLen := n) (sCap := cap) ht ht hd hi hlo hf hroom
      have hst := run_storeCells_at P g (n * s) e' news 0 cur W hblk (by omega) h1
      simp only [Nat.add_zero] at hst
      simp only [Addr.add_lit, Nat.zero_add, hsz] at hrun
      rw [hst] at hrun
      have hcl : cur.toList.length = cur.size := by simp
      refine ⟨_, _, g, hrun, ⟨hlen, hone, .inr ⟨g, cap, _, e', rfl, rfl, hbg, setRow_heap W g cur _ e' (0, 0) hblk, hroom, hcm, ?_, ?_⟩⟩, ⟨rfl, rfl, rfl, by simp, fun k _ hk => setRow_other W g k _ (fun e => hk (by rw [e]))⟩, Nat.le_refl _, .inl rfl, .inr ⟨rfl, fun cur2 e2 hc2 => ?_⟩⟩
      · rw [hcs]; simp only [List.size_toArray, List.length_append, List.length_take, List.length_drop, hcl]; omega
      · simp only [htk]
        rw [List.append_assoc, ← List.append_assoc, ← hlen, List.take_left]
      · rw [hblk] at hc2; injection hc2 with hc2; injection hc2 with p1 p2; subst p1; subst p2
        refine ⟨_, setRow_heap W g cur _ e' (0, 0) hblk, ?_, ?_⟩
        · simp only [List.size_toArray, List.length_append, List.length_take, List.length_drop, hcl]; omega
        · simp only [htk]
          rw [List.append_assoc, ← h.len, List.take_left]
    · refine out (cur.toList.take (n * s)) htk (fun w2 hw => ?_) (by omega)
      refine run_firstCells (by rw [hsz, List.length_take, Array.length_toList, ← hcs]; have : n * s ≤ cap * s := Nat.mul_le_mul_right _ hnc; omega) fun j u hu => ?_
      rw [cell_heap hw, cell_of_row W g _ cur e' (0, 0) hblk]
      rw [List.getElem?_take] at hu
      split at hu
      · simpa using hu
      · cases hu

theorem wpListIn_append_row {F : Fence} {nF : Nat} {P : Program} (W : World) {ops : Array Oper} {rest : List Oper} {o : Oper} {a : Act} {Q : Exit → Act → World → Prop} (hg : o.guard = none) (sl x : Operand) (t : TypeId) (ho : o.op = .call { callee := .builtin .append, args := #[sl, x], argTypes := #[t, t] })
    {e : TypeId} {i : TypeInfo} {z : Value} {s : Nat} (ht : P.underlying t = some (.slice e)) (hi : P.info? e = some i) (hz : i.zero = some z) (hsz : i.size = s) (hzs : z.cells.size = s) (hs : 0 < s)
    {b0 : Option Nat} {base : Nat} {v : Value} {n : Nat} {cells : List Value} {gb : Option Nat} (hv : a.eval sl = v) (h : RowAt s b0 base W v n cells gb) (hbase : base ≤ W.heap.size) {ad c : Nat} {news : List Value} (hx : a.eval x = .slice (some ⟨ad, 0, none⟩) 1 c) (hn : news.length = s) (h1 : ∀ u ∈ news, u.oneCell' = true)
    (hc : ∀ (j : Nat) (u : Value), news[j]? = some u → W.cell? ⟨ad, j, none⟩ = some u) (hb : (n + 1) * i.bytes ≤ 140737488355328) (hm : n + 1 ≤ 140737488355328)
    (hK : ∀ v' W' g', RowAt s b0 base W' v' (n + 1) (cells ++ news) (some g') → W.grownBy W' gb → W.drawn ≤ W'.drawn → (gb = some g' ∨ g' = W.heap.size) →
      ((g' = W.heap.size ∧ W.grownBy W' none) ∨ (gb = some g' ∧ ∀ cur e, W.heap[g']? = some (.cells cur e (0, 0)) → ∃ cur', W'.heap[g']? = some (.cells cur' e (0, 0)) ∧ cur'.size = cur.size ∧ cur'.toList.take (n * s) = cur.toList.take (n * s))) → wpListIn F nF P ops Q rest (a.put o.dst v') W') : wpListIn F nF P ops Q (o :: rest) a W := by
  refine wpListIn_plain hg fun K hK' => ?_
  obtain ⟨v', W', g', hr, h2, h3, h4, h5, h6⟩ := h.append o.type ht hi hz hsz hzs hs hbase hn h1 hc hb hm
  unfold Oper.wpIn
  refine ⟨by simp [Oper.about, ho, resolve, Target.leads, Sem.run_pure], ?_⟩
  rw [Oper.semAt_plain F _ _ (by rw [ho]; intro c hc'; cases hc')]
  simp [execOp, ho, resolve, invoke, builtin, hv, hx, Result.andThen]
  rw [hr]
  exact hK' _ _ (hK v' W' g' h2 h3 h4 h5 h6)

/-- Nothing that lay in W0 has turned but the row b0. -/
structure Still (b0 : Option Nat) (W0 W : World) : Prop where
  os : W.os = W0.os
  tape : W.tape = W0.tape
  output : W.output = W0.output
  size : W0.heap.size ≤ W.heap.size
  block : ∀ k, k < W0.heap.size → some k ≠ b0 → W.heap[k]? = W0.heap[k]?
  drawn : W0.drawn ≤ W.drawn
theorem Still.refl (b0 : Option Nat) (W : World) : Still b0 W W := ⟨rfl, rfl, rfl, Nat.le_refl _, fun _ _ _ => rfl, Nat.le_refl _⟩
theorem Still.step {b0 : Option Nat} {W0 W W' : World} {row : Option Nat} (h : Still b0 W0 W) (hg : W.grownBy W' row) (hd : W.drawn ≤ W'.drawn) (hr : ∀ r, row = some r → b0 = some r ∨ W0.heap.size ≤ r) : Still b0 W0 W' :=
  ⟨hg.os.trans h.os, hg.tape.trans h.tape, hg.output.trans h.output, Nat.le_trans h.size hg.size, fun k hk hb => (hg.block k (Nat.lt_of_lt_of_le hk h.size) (fun e => by rcases hr k e.symm with q | q; exact hb q.symm; omega)).trans (h.block k hk hb), Nat.le_trans h.drawn hd⟩

/-- The head of the row b0 is as it was. -/
def Head0 (m : Nat) (b0 : Option Nat) (W0 W : World) : Prop := ∀ g cur0 e0, b0 = some g → W0.heap[g]? = some (.cells cur0 e0 (0, 0)) → ∃ cur, W.heap[g]? = some (.cells cur e0 (0, 0)) ∧ cur.size = cur0.size ∧ cur.toList.take m = cur0.toList.take m
theorem Head0.refl (m : Nat) (b0 : Option Nat) (W : World) : Head0 m b0 W W := fun _ cur0 _ _ h => ⟨cur0, h, rfl, rfl⟩
theorem Head0.step {m : Nat} {b0 : Option Nat} {W0 W W' : World} {row : Option Nat} (h : Head0 m b0 W0 W) (hg : W.grownBy W' row) (hr : b0 = none ∨ b0 ≠ row) : Head0 m b0 W0 W' := fun g cur0 e0 hb h0 => by
  obtain ⟨cur, h1, h2, h3⟩ := h g cur0 e0 hb h0
  refine ⟨cur, (hg.block g (Array.getElem?_eq_some_iff.1 h1).1 (fun e => ?_)).trans h1, h2, h3⟩
  rcases hr with hr | hr
  · rw [hr] at hb; cases hb
  · exact hr (hb.trans e)
theorem Head0.write {m n : Nat} {b0 gb : Option Nat} {W0 W W' : World} {g' : Nat} (h : Head0 m b0 W0 W) (hn : m ≤ n) (hg : W.grownBy W' gb)
    (hw : (g' = W.heap.size ∧ W.grownBy W' none) ∨ (gb = some g' ∧ ∀ cur e, W.heap[g']? = some (.cells cur e (0, 0)) → ∃ cur', W'.heap[g']? = some (.cells cur' e (0, 0)) ∧ cur'.size = cur.size ∧ cur'.toList.take n = cur.toList.take n)) : Head0 m b0 W0 W' := by
  rcases hw with ⟨_, hg'⟩ | ⟨hgb, hw⟩
  · exact h.step hg' (by cases b0 <;> simp)
  · by_cases e : b0 = gb
    · intro g cur0 e0 hb h0
      rw [e, hgb] at hb; injection hb with hb; subst hb
      obtain ⟨cur, h1, h2, h3⟩ := h g' cur0 e0 (e.trans hgb) h0
      obtain ⟨cur', q1, q2, q3⟩ := hw cur e0 h1
      refine ⟨cur', q1, q2.trans h2, ?_⟩
      have := congrArg (List.take m) q3
      rw [List.take_take, List.take_take, Nat.min_eq_left hn] at this
      exact this.trans h3
    · exact h.step hg (.inr e)

section
variable {w0 : Base} {X : Nat → Prop} {H : Nat → LObj} {β : Nat → Option Nat} {w w' : World} {α : Type} [Inhabited α] {k : Nat} {d : α → DV} {enc : α → List Value}
theorem Cells.flat_len (C : Cells k d enc) (l : List α) : (l.flatMap enc).length = l.length * k := by rw [← flatK_list C l]; simp
theorem Cells.flatD_len {α : Type} {k : Nat} {d : α → DV} {enc : α → List Value} (C : Cells k d enc) (l : List α) : (flatD (l.map d)).length = l.length * k := by
  rw [Go.Eng.flat_len (size := k) (fun x hx => by obtain ⟨y, _, rfl⟩ := List.mem_map.1 hx; exact C.lenD y)]; simp
theorem Cells.all {α : Type} {k : Nat} {d : α → DV} {enc : α → List Value} (C : Cells k d enc) (l : List α) : ∀ x ∈ l.map d, (cellsD x).length = k := fun x hx => by obtain ⟨y, _, rfl⟩ := List.mem_map.1 hx; exact C.lenD y
/-- A row whose head holds elements reads as them. -/
theorem Cells.reads (C : Cells k d enc) {l : List α} {cur : Array Value} (h : cur.toList.take (l.length * k) = l.flatMap enc) : l.length * k ≤ cur.size ∧ ∀ (E : Nat → Prop) (W : World) (i : Nat) (c : DV) (v : Value), (flatD (l.map d))[i]? = some c → cur[i]? = some v → v.oneCell' = true ∧ RD W E c v := by
  have hl := congrArg List.length h
  rw [List.length_take, C.flat_len] at hl
  have hcl : cur.toList.length = cur.size := by simp
  refine ⟨by omega, fun E W i c v hc hv => ?_⟩
  have hi : i < l.length * k := by have := (List.getElem?_eq_some_iff.1 hc).1; rw [C.flatD_len] at this; exact this
  have hv' : (l.flatMap enc)[i]? = some v := by rw [← h, List.getElem?_take, if_pos hi]; simpa using hv
  refine ⟨?_, (flat_cells C l i c v hc hv' _ _ _).2 rfl⟩
  obtain ⟨x, _, hx⟩ := List.mem_flatMap.1 (List.mem_of_getElem? hv')
  exact C.one x v hx
/-- A row that reads as elements holds them. -/
theorem Cells.holds (C : Cells k d enc) {l : List α} {cur : Array Value} (hn : l.length * k ≤ cur.size) {E : Nat → Prop} {W : World} (h : ∀ (i : Nat) (c : DV) (v : Value), (flatD (l.map d))[i]? = some c → cur[i]? = some v → RD W E c v) : cur.toList.take (l.length * k) = l.flatMap enc := by
  apply List.ext_getElem?
  intro i
  rw [List.getElem?_take]
  by_cases hi : i < l.length * k
  · rw [if_pos hi]
    have h1 : i < cur.size := by omega
    have h2 : i < (l.flatMap enc).length := by rw [C.flat_len]; exact hi
    have h3 : i < (flatD (l.map d)).length := by rw [C.flatD_len]; exact hi
    have := (flat_cells C l i _ _ (List.getElem?_eq_getElem h3) (List.getElem?_eq_getElem h2) W E _).1 (h i _ _ (List.getElem?_eq_getElem h3) (Array.getElem?_eq_getElem h1))
    rw [List.getElem?_eq_getElem h2, ← this]
    simp [h1]
  · rw [if_neg hi, List.getElem?_eq_none (by rw [C.flat_len]; omega)]
theorem upd_upd (f : Nat → LObj) (i : Nat) (x y : LObj) : upd (upd f i x) i y = upd f i y := by funext j; simp only [upd]; split <;> rfl

/-- A slice of the call's own has been appended to, somewhere out of sight: it is a new object. -/
theorem Mem.appended (C : Cells k d enc) (m : Mem w0 X H β w) {id new : Nat} {l p : List α} {b0 gb : Option Nat} {v : Value} (hH : H id = .row false k (l.map d)) (hnew : H new = .absent) (hb0 : (b0 = none ∧ l = []) ∨ (∃ b, b0 = some b ∧ β id = some b ∧ ∃ cur e, w.heap[b]? = some (.cells cur e (0, 0)) ∧ cur.toList.take (l.length * k) = l.flatMap enc))
    (hr : RowAt k b0 w.heap.size w' v (l.length + p.length) ((l ++ p).flatMap enc) gb) (hs : Still b0 w w') (hh : Head0 (l.length * k) b0 w w') :
    ∃ β', Mem w0 X (upd (upd H id .dead) new (.row false k ((l ++ p).map d))) β' w' ∧ R w' (Ex X β' (upd (upd H id .dead) new (.row false k ((l ++ p).map d)))) β' (upd (upd H id .dead) new (.row false k ((l ++ p).map d))) (.ow new 0 (l.length + p.length)) v := by
  have hne : id ≠ new := fun e => by rw [e, hnew] at hH; cases hH
  have hlive : (H id).live = true := by rw [hH]; rfl
  have hmut : (H id).mut = true := by rw [hH]; rfl
  have hn' : (l ++ p).length = l.length + p.length := by simp
  -- the world without what is new
  obtain ⟨wm, hwm⟩ : ∃ wm : World, wm = { w with heap := w'.heap.extract 0 w.heap.size } := ⟨_, rfl⟩
  have hms : wm.heap.size = w.heap.size := by rw [hwm]; simp [hs.size]
  have hmk : ∀ j, j < w.heap.size → wm.heap[j]? = w'.heap[j]? := fun j hj => by
    rw [hwm]; simp only [Array.getElem?_extract]; have := hs.size
    rw [if_pos (by omega)]; congr 1; omega
  have hbel : Bel wm.heap.size wm w' := by
    refine ⟨?_, ?_, ?_, by rw [hms]; exact hs.size, fun j hj => (hmk j (by omega)).symm, ?_⟩ <;> rw [hwm]
    · exact hs.os
    · exact hs.tape
    · exact hs.output
    · exact hs.drawn
  have hm1 : Mem w0 X H β wm := by
    rcases hb0 with ⟨rfl, _⟩ | ⟨b, rfl, hb, cur, e, hblk, htk⟩
    · have e : wm = w := by
        have : w'.heap.extract 0 w.heap.size = w.heap := by
          apply Array.ext_getElem?
          intro j
          by_cases hj : j < w.heap.size
          · have h1 := hmk j hj
            rw [hwm] at h1
            exact h1.trans (hs.block j hj (by simp))
          · have := hs.size
            rw [Array.getElem?_extract, if_neg (by omega), Array.getElem?_eq_none (by omega)]
        rw [hwm, this]
      rw [e]; exact m
    · obtain ⟨cur', q1, q2, q3⟩ := hh b cur e rfl hblk
      have hbl := (Array.getElem?_eq_some_iff.1 hblk).1
      have hwb : wm.heap[b]? = some (.cells cur' e (0, 0)) := (hmk b hbl).trans q1
      have := m.rewriteG (id := id) (b := b) (o' := .row false k (l.map d)) (w' := wm) hmut hb (by rw [hwm]) (by rw [hwm]) (by rw [hwm]) (by rw [hwm]; exact Nat.le_refl _) hms (fun j hj => by
          by_cases hjl : j < w.heap.size
          · rw [hmk j hjl]; exact hs.block j hjl (fun e => hj (by injection e))
          · rw [Array.getElem?_eq_none (by omega), Array.getElem?_eq_none (by omega)]) (by
          unfold Passes
          rw [hH, upd_same]
          refine .inr ⟨⟨false, _, rfl, Nat.le_refl _⟩, rfl, fun b' c' t hbb hblk' => ?_⟩
          rw [hb] at hbb; injection hbb with hbb; subst hbb
          rw [hblk] at hblk'; injection hblk' with hblk'; injection hblk' with p1 p2; subst p1; subst p2
          exact ⟨cur', e, hwb, q2⟩) (fun _ _ => by
          unfold ObjR
          rw [upd_same]
          obtain ⟨r1, r2⟩ := C.reads (q3.trans htk)
          exact ⟨C.pos, C.all l, .inr ⟨b, e, cur', hb, hwb, by simpa using r1, r2 _ _⟩⟩)
      rw [upd_id hH] at this
      exact this.1
  -- the new object
  rcases hr.lies with ⟨rfl, hz, a, rfl⟩ | ⟨g, cap, cur, e, rfl, rfl, hbg, hblk, hnc, hcm, hcs, htk⟩
  · have hl0 : l = [] := List.eq_nil_of_length_eq_zero (by omega)
    have hp0 : p = [] := List.eq_nil_of_length_eq_zero (by omega)
    subst hl0; subst hp0
    obtain ⟨m2, _⟩ := hm1.kill id hlive
    obtain ⟨m3, _⟩ := m2.grow hbel
    obtain ⟨m4, _⟩ := new_none m3 (d := new) (by rw [upd_ne _ _ (Ne.symm hne)]; exact hnew) C.pos
    exact ⟨_, m4, .ow0 new 0 a false k [] (by rw [upd_same]; rfl) (.inl ⟨by rw [upd_same], rfl⟩)⟩
  · rw [← hn'] at htk
    obtain ⟨r1, r2⟩ := C.reads htk
    have hbr : ∀ (β' : Nat → Option Nat) (H' : Nat → LObj), H' new = .row false k ((l ++ p).map d) → β' new = some g → R w' (Ex X β' H') β' H' (.ow new 0 (l.length + p.length)) (.slice (some ⟨g, 0, none⟩) (l.length + p.length) cap) := fun β' H' h1 h2 => by
      have hR := R.ow (w := w') (E := Ex X β' H') (β := β') (H := H') new 0 (l.length + p.length) g cap false k ((l ++ p).map d) cur e h1 h2 (by simp) hnc hcm hblk (by rw [Nat.zero_add]; exact hcs)
      rw [Nat.zero_mul] at hR
      exact hR
    by_cases hgl : g < w.heap.size
    · have hbg' : b0 = some g := hbg.resolve_right (by omega)
      have hβ : β id = some g := by
        rcases hb0 with ⟨h, _⟩ | ⟨b, h, hb, _⟩
        · rw [h] at hbg'; cases hbg'
        · rw [h] at hbg'; injection hbg' with hbg'; rw [← hbg']; exact hb
      obtain ⟨m2, _⟩ := hm1.grow hbel
      obtain ⟨m3, _⟩ := m2.moveObj (id := id) (d := new) l.length hH hnew
      have := m3.rewriteG (id := new) (b := g) (o' := .row false k ((l ++ p).map d)) (w' := w') (by rw [upd_same]; rfl) (by rw [upd_same]; exact hβ) rfl rfl rfl (Nat.le_refl _) rfl (fun _ _ => rfl) (by
          unfold Passes
          rw [upd_same, upd_same]
          exact .inr ⟨⟨false, _, rfl, by simp⟩, rfl, fun b' c' t _ hblk' => ⟨c', t, hblk', rfl⟩⟩) (fun _ _ => by
          unfold ObjR
          rw [upd_same]
          exact ⟨C.pos, C.all _, .inr ⟨g, e, cur, by rw [upd_same]; exact hβ, hblk, by simpa using r1, r2 _ _⟩⟩)
      rw [upd_upd] at this
      exact ⟨_, this.1, hbr _ _ (by rw [upd_same]) (by rw [upd_same]; exact hβ)⟩
    · obtain ⟨m2, _⟩ := hm1.kill id hlive
      have hgs := (Array.getElem?_eq_some_iff.1 hblk).1
      have := m2.newObj hbel (d := new) (by rw [upd_ne _ _ (Ne.symm hne)]; exact hnew) (o := .row false k ((l ++ p).map d)) (some g) (fun b hb => by injection hb with hb; subst hb; exact ⟨by omega, hgs⟩) (fun _ _ => by
          unfold ObjR
          rw [upd_same]
          exact ⟨C.pos, C.all _, .inr ⟨g, e, cur, by rw [upd_same], hblk, by simpa using r1, r2 _ _⟩⟩)
      exact ⟨_, this.1, hbr _ _ (by rw [upd_same]) (by rw [upd_same])⟩
end
end Go.Eng

/-
  maps.Keys over a map whose keys are structs, and slices.AppendSeq of it. No condition.
-/
namespace Go.Eng
open Go.RowKit Go.Maps Go.Sort Go.Shelf Go.Proofs
open Go.ChangeMaps (setBlock)

section
variable {P : Program} {F : Fence} {n : Nat} (w : World) {ops : Array Oper} {rest : List Oper} {o : Oper} {a : Act} {Q : Exit → Act → World → Prop}

/-- Which entries of a map have come. -/
structure Came (es : Array MapEntry) (vs : List MapEntry) (seen : Array Nat) : Prop where
  mem : ∀ e ∈ vs, e ∈ es.toList
  nd : (vs.map (·.born)).Nodup
  seen : seen.toList = vs.map (·.born)

theorem born_nodup {es : Array MapEntry} {clock : Nat} (h : BornOk es clock) : (es.toList.map (·.born)).Nodup := by
  rw [List.Nodup, List.pairwise_map, List.pairwise_iff_getElem]
  intro i j hi hj hij e
  have := h.2 i j _ _ (by simp) (by simp) e
  omega
theorem nodup_of_map {α β : Type} {f : α → β} : ∀ {l : List α}, (l.map f).Nodup → l.Nodup
  | [], _ => by simp
  | a :: l, h => by
    simp only [List.map_cons, List.nodup_cons] at h ⊢
    exact ⟨fun hm => h.1 (List.mem_map.2 ⟨a, hm, rfl⟩), nodup_of_map h.2⟩
theorem Came.perm {es : Array MapEntry} {clock : Nat} {vs : List MapEntry} {seen : Array Nat} (h : Came es vs seen) (hb : BornOk es clock) (hl : (leftOf es seen).size = 0) : vs.Perm es.toList := by
  refine (List.perm_ext_iff_of_nodup (nodup_of_map h.nd) (nodup_of_map (born_nodup hb))).2 fun e => ⟨h.mem e, fun he => ?_⟩
  have hs : e.born ∈ seen := by
    have : leftOf es seen = #[] := Array.eq_empty_of_size_eq_zero hl
    unfold leftOf at this
    rw [Array.filter_eq_empty_iff] at this
    have := this e (by simpa using he)
    simpa using this
  have hs' : e.born ∈ vs.map (·.born) := by rw [← h.seen]; simpa using hs
  obtain ⟨e', he', hee⟩ := List.mem_map.1 hs'
  obtain ⟨i, hi, hie⟩ := List.getElem_of_mem he
  obtain ⟨j, hj, hje⟩ := List.getElem_of_mem (h.mem e' he')
  have := hb.2 j i e' e (by rw [← hje]; simp) (by rw [← hie]; simp) hee
  subst this
  rw [← hie, hje]; exact he'
theorem Came.step {es : Array MapEntry} {vs : List MapEntry} {seen : Array Nat} (h : Came es vs seen) {e : MapEntry} (he : e ∈ (leftOf es seen).toList) : Came es (vs ++ [e]) (seen.push e.born) := by
  unfold leftOf at he
  simp only [Array.toList_filter, List.mem_filter, Bool.not_eq_true'] at he
  refine ⟨fun x hx => ?_, ?_, by simp [h.seen]⟩
  · rcases List.mem_append.1 hx with hx | hx
    · exact h.mem x hx
    · simp at hx; subst hx; exact he.1
  · rw [List.map_append, List.nodup_append]
    refine ⟨h.nd, by simp, fun x hx y hy e' => ?_⟩
    simp at hy; subst hy; subst e'
    rw [← h.seen] at hx
    have := he.2
    simp at this
    exact this (by simpa using hx)
theorem nodup_le : ∀ {l m : List Nat}, l.Nodup → (∀ x ∈ l, x ∈ m) → l.length ≤ m.length
  | [], _, _, _ => Nat.zero_le _
  | a :: l, m, h, hs => by
    simp only [List.nodup_cons] at h
    have ha : a ∈ m := hs a (List.mem_cons_self ..)
    have := nodup_le h.2 (m := m.erase a) (fun x hx => (List.mem_erase_of_ne (show x ≠ a from fun e => by subst e; exact h.1 hx)).2 (hs x (List.mem_cons_of_mem _ hx)))
    rw [List.length_erase_of_mem ha] at this
    have := List.length_pos_of_mem ha
    simp only [List.length_cons]; omega
theorem Came.size {es : Array MapEntry} {clock : Nat} {vs : List MapEntry} {seen : Array Nat} (h : Came es vs seen) (hb : BornOk es clock) : seen.size ≤ es.size := by
  have h1 : seen.size = vs.length := by have := congrArg List.length h.seen; simpa using this
  rw [h1]
  have := nodup_le h.nd (m := es.toList.map (·.born)) (fun x hx => by obtain ⟨e, he, rfl⟩ := List.mem_map.1 hx; exact List.mem_map.2 ⟨e, h.mem e he, rfl⟩)
  simpa using this

theorem setBlock_heap {w : World} {r : Nat} {o o' : Obj} (h : w.heap[r]? = some o) : (setBlock w r o').heap[r]? = some o' ∧ ∀ k, k ≠ r → (setBlock w r o').heap[k]? = w.heap[k]? := by
  have hlt := (Array.getElem?_eq_some_iff.1 h).1
  refine ⟨by simp [setBlock, hlt], fun k hk => ?_⟩
  simp only [setBlock]
  rw [Array.getElem?_setIfInBounds_ne (fun e => hk e.symm)]

theorem wpListIn_range_map (hg : o.guard = none) (m : Operand) (t : TypeId) (hop : o.op = Op.range t m) (k e : TypeId) (ht : P.underlying t = some (.map k e)) {b clock : Nat} {es : Array MapEntry} (hm : a.eval m = .map (some b)) (hb : w.heap[b]? = some (.map es clock))
    (hK : wpListIn F n P ops Q rest (a.put o.dst (.pointer (some ⟨w.heap.size, 0, none⟩))) (w.alloc (.mapIter (some b) clock #[] clock))) : wpListIn F n P ops Q (o :: rest) a w := by
  refine wpListIn_plain hg fun K' hK' => ?_
  have hrun : (Instr.range t (.map (some b))).run P w = .ok (.pointer (some ⟨w.heap.size, 0, none⟩)) (w.alloc (.mapIter (some b) clock #[] clock)) := by
    simp [Instr.range, run_underlying ht, getObj, Sem.run, hb, Result.andThen, run_newObj_alloc]
  unfold Oper.wpIn
  refine ⟨by simp [Oper.about, hop], ?_⟩
  rw [Oper.semAt_plain F _ _ (by rw [hop]; intro c hc'; cases hc')]
  simp [execOp, hop, hm, hrun, Result.andThen]
  exact hK' _ _ hK

theorem wpListIn_next_map (hg : o.guard = none) (it : Operand) (hop : o.op = Op.next it false) {b r clock since c0 : Nat} {es : Array MapEntry} {seen : Array Nat} {vs : List MapEntry} (hne : r ≠ b) (hit : a.eval it = .pointer (some ⟨r, 0, none⟩))
    (hr : w.heap[r]? = some (.mapIter (some b) since seen c0)) (hb : w.heap[b]? = some (.map es clock)) (hborn : BornOk es clock) (hsc : since ≤ c0) (hcs : clock ≤ since) (hC : Came es vs seen)
    (hDone : vs.Perm es.toList → wpListIn F n P ops Q rest (a.put o.dst (.tuple #[.bool false])) w)
    (hMore : ∀ (e : MapEntry) (w' : World), e ∈ es.toList → Came es (vs ++ [e]) (seen.push e.born) → w'.heap[r]? = some (.mapIter (some b) since (seen.push e.born) clock) → w.grownBy w' (some r) → w.drawn ≤ w'.drawn →
      (Instr.entry (.pointer (some ⟨r, 0, none⟩))).run P w' = .ok (.tuple #[e.key, e.val]) w' → wpListIn F n P ops Q rest (a.put o.dst (.tuple #[.bool true, e.key, e.val])) w') :
    wpListIn F n P ops Q (o :: rest) a w := by
  refine wpListIn_plain hg fun K' hK' => ?_
  unfold Oper.wpIn
  refine ⟨by simp [Oper.about, hop], ?_⟩
  rw [Oper.semAt_plain F _ _ (by rw [hop]; intro c hc'; cases hc')]
  have hold : ∀ x ∈ es.toList, x.born < since := fun x hx => by
    obtain ⟨i, hi, hix⟩ := List.getElem_of_mem hx
    have := hborn.1 i x (by rw [← hix]; simp)
    omega
  rcases run_next_at (P := P) w o.type r b since c0 seen es clock hr hb hold hsc with ⟨h0, hrun⟩ | ⟨e, he, w1, hal, hrun⟩
  · simp [execOp, hop, hit, hrun, Result.andThen]
    exact hK' _ _ (hDone (hC.perm hborn h0))
  · have hr1 : w1.heap[r]? = some (.mapIter (some b) since seen c0) := by rcases hal with rfl | rfl <;> exact hr
    have hb1 : w1.heap[b]? = some (.map es clock) := by rcases hal with rfl | rfl <;> exact hb
    have hset := setBlock_heap (o' := .mapIter (some b) since (seen.push e.born) clock) hr1
    have hb' : (setBlock w1 r (.mapIter (some b) since (seen.push e.born) clock)).heap[b]? = some (.map es clock) := (hset.2 b (fun e1 => hne e1.symm)).trans hb1
    have hem : e ∈ es.toList := (mem_left he).1
    simp [execOp, hop, hit, hrun, Result.andThen]
    refine hK' _ _ (hMore e _ hem (hC.step he) hset.1 ?_ ?_ (run_entry_at _ r b since seen es clock e hset.1 hb' hem (born_nodup hborn)))
    · rcases hal with rfl | rfl <;> exact ⟨rfl, rfl, rfl, by simp [setBlock], fun i _ hi => hset.2 i (fun e1 => hi (by rw [e1]))⟩
    · rcases hal with rfl | rfl
      · exact Nat.le_refl _
      · exact Nat.le_succ _
end

/-- How far an iterator over a map of n entries is from its end. -/
def toCome (n r : Nat) (W : World) : Nat := n - (match W.heap[r]? with | some (.mapIter _ _ seen _) => seen.size | _ => 0)
theorem toCome_eq {n r : Nat} {W : World} {m : Option Nat} {a c : Nat} {seen : Array Nat} (h : W.heap[r]? = some (.mapIter m a seen c)) : toCome n r W = n - seen.size := by simp [toCome, h]

def keyV (x : Nm) : Value := .agg #[.int .i64 x.who, .int .i64 x.seq]

set_option maxRecDepth 100000 in
set_option maxHeartbeats 2000000 in
/-- The iterator that maps.Keys hands back: the keys come, each once, in some order. -/
theorem keysNm_gives (F : Fence) (n : Nat) (hf : F.fn 129) (hro : F.round = none) (hn : 1 ≤ n) {Bm ob b clock : Nat} {es : Array MapEntry} (W : World) (hm' : W.cell? ⟨Bm, ob, none⟩ = some (.map (some b)))
    (hb' : W.heap[b]? = some (.map es clock)) (hborn : BornOk es clock) (key : MapEntry → Nm) (hkey : ∀ e ∈ es.toList, e.key = keyV (key e)) (l : Nat) (J : List Nm → World → Prop) (hJ : AbW W.heap.size J)
    (hY : ∀ pre x W1, J pre W1 → pre.length < es.size → YieldAt F (n - 1) Tryz.prog l #[keyV x] W1 fun e W' => e = .returned (.bool true) ∧ J (pre ++ [x]) W' ∧ KeepsWalks W1 W') (h0 : J [] W) :
    CallsIn F n Tryz.prog 129 #[.func (.yield l) #[] #[], .pointer (some ⟨Bm, ob, none⟩)] W fun e W' => (∃ v, e = .returned v) ∧ ∃ ss : List Nm, ss.Perm (es.toList.map key) ∧ J ss W' := by
  have hbW : b < W.heap.size := (Array.getElem?_eq_some_iff.1 hb').1
  refine callsIn_of_wp Tryz.func129 rfl hf ?_ hro
  simp only [Tryz.ntmps129, List.size_toArray, List.length_cons, List.length_nil, Nat.reduceAdd, Nat.reduceSub, Array.replicate_succ, Array.replicate_zero, List.push_toArray, List.append_toArray, List.nil_append, List.cons_append]
  gi_wp2_with (first
    | (gi_at_range; refine wpListIn_range_map _ rfl _ _ rfl _ _ Tryz.underlying112 rfl hb' ?_)
    | gi_in)
  have hg0 : W.grownBy (W.alloc (.mapIter (some b) clock #[] clock)) none := World.grownBy_alloc W _ none
  have hr0 : (W.alloc (.mapIter (some b) clock #[] clock)).heap[W.heap.size]? = some (.mapIter (some b) clock #[] clock) := heap_alloc_new W _
  have hb0 : (W.alloc (.mapIter (some b) clock #[] clock)).heap[b]? = some (.map es clock) := (hg0.block b hbW (by simp)).trans hb'
  have hJ0 := hJ [] W _ none h0 hg0 (Nat.le_refl _) (fun r e => by cases e)
  generalize W.alloc (.mapIter (some b) clock #[] clock) = w0 at *
  try go_frame
  gi_loopw [3] (fun _ wr => ∃ (vs : List MapEntry) (seen : Array Nat) (c0 : Nat), wr.heap[W.heap.size]? = some (.mapIter (some b) clock seen c0) ∧ wr.heap[b]? = some (.map es clock) ∧ clock ≤ c0 ∧ Came es vs seen ∧ J (vs.map key) wr)
    (fun _ wr => toCome es.size W.heap.size wr)
  case atStart =>
    exact ⟨[], #[], clock, hr0, hb0, Nat.le_refl _, ⟨by simp, by simp, by simp⟩, hJ0⟩
  case round =>
    obtain ⟨vs, seen, c0, hr, hbr, hcc, hC, hJs⟩ := hrel
    gi_wp2_with (first
      | (gi_at_next; refine wpListIn_next_map _ rfl _ rfl (Nat.ne_of_gt hbW) rfl hr hbr hborn hcc (Nat.le_refl _) hC ?_ ?_)
      | gi_in)
    · intro hp
      gi_wp2
      go_end0
      exact ⟨⟨_, rfl⟩, vs.map key, hp.map key, hJs⟩
    · intro e w2 he hC2 hr2 hg2 hd2 hen
      have hJ2 : J (vs.map key) w2 := hJ _ wr w2 (some W.heap.size) hJs hg2 hd2 (fun r e => by cases e; exact ⟨Nat.le_refl _, _, hr, rfl⟩)
      have hb2 : w2.heap[b]? = some (.map es clock) := (hg2.block b (Array.getElem?_eq_some_iff.1 hbr).1 (fun e => by injection e with e; omega)).trans hbr
      have hsz := hC2.size hborn
      have hvs : seen.size = vs.length := by have := congrArg List.length hC.seen; simpa using this
      have hg3 : w2.grownBy (w2.alloc (.cells #[.int .i64 (key e).who, .int .i64 (key e).seq] 42)) none := World.grownBy_alloc w2 _ none
      obtain ⟨fn, tmps, assign, body, hy, hR⟩ := hY (vs.map key) (key e) _ (hJ _ _ _ none hJ2 hg3 (Nat.le_refl _) (fun r e => by cases e)) (by simp at hsz ⊢; omega)
      have hr3 := (hg3.block _ (Array.getElem?_eq_some_iff.1 hr2).1 (by simp)).trans hr2
      have hb3 := (hg3.block _ (Array.getElem?_eq_some_iff.1 hb2).1 (by simp)).trans hb2
      rw [hkey e (by simpa using he)] at hen ⊢
      unfold keyV at hen hy ⊢
      gi_wp2
      refine hR.mono ?_
      rintro e' W3 ⟨rfl, hJ3, hk3⟩
      gi_wp2
      have hr4 := hk3.same _ _ hr3 rfl
      have hb4 := hk3.same _ _ hb3 rfl
      go_roundw
      case rel => exact ⟨vs ++ [e], seen.push e.born, clock, hr4, hb4, Nat.le_refl _, hC2, by simpa using hJ3⟩
      case measure => rw [toCome_eq hr4, toCome_eq hr]; simp at hsz ⊢; omega

/-- Between two rounds: the box holds what has come so far. -/
def AppI (b0 : Option Nat) (W0 : World) (l : List Nm) (ss : List Nm) (W : World) : Prop :=
  ∃ v gb, W.heap[W0.heap.size]? = some (.cells #[v] 33 (0, 0)) ∧ RowAt 2 b0 W0.heap.size W v (l.length + ss.length) ((l ++ ss).flatMap Nm.enc) gb ∧ gb ≠ some W0.heap.size ∧ Still b0 W0 W ∧ Head0 (l.length * 2) b0 W0 W
theorem appI_abW (b0 : Option Nat) (W0 : World) (l : List Nm) (hb0 : ∀ b, b0 = some b → b < W0.heap.size) : AbW (W0.heap.size + 1) (AppI b0 W0 l) := by
  rintro ss W W' row ⟨v, gb, h1, h2, h3, h4, h5⟩ hg hd hr
  have hrow : ∀ {k : Nat} {cur : Array Value} {e : TypeId}, W.heap[k]? = some (.cells cur e (0, 0)) → some k ≠ row := fun hk e => by
    obtain ⟨_, o, ho, hc⟩ := hr _ e.symm
    rw [hk] at ho; cases ho; cases hc
  refine ⟨v, gb, (hg.block _ (Array.getElem?_eq_some_iff.1 h1).1 (hrow h1)).trans h1, h2.kept hg ?_, h3, h4.step hg hd (fun r e => .inr (by have := (hr r e).1; omega)), h5.step hg ?_⟩
  rcases h2.lies with ⟨rfl, _⟩ | ⟨g, cap, cur, e, rfl, _, _, hb, _⟩
  · exact .inl rfl
  · exact .inr (hrow hb)
  · cases hb : b0 with
    | none => exact .inl rfl
    | some g => exact .inr fun e => by have := (hr g e.symm).1; have := hb0 g hb; omega

set_option maxRecDepth 100000 in
set_option maxHeartbeats 4000000 in
theorem appendSeqNm (W0 : World) (v0 : Value) (l : List Nm) (b0 : Option Nat) (hrow : RowAt 2 b0 W0.heap.size W0 v0 l.length (l.flatMap Nm.enc) b0) (hb0 : ∀ b, b0 = some b → b < W0.heap.size) {Bm ob b clock : Nat} {es : Array MapEntry} (hm : W0.cell? ⟨Bm, ob, none⟩ = some (.map (some b))) (hBm : some Bm ≠ b0)
    (hb : W0.heap[b]? = some (.map es clock)) (hbb : some b ≠ b0) (hborn : BornOk es clock) (key : MapEntry → Nm) (hkey : ∀ e ∈ es.toList, e.key = keyV (key e)) (hN : (l.length + es.size) * 16 ≤ 140737488355328) :
    Calls Tryz.prog 72 #[v0, .func (.func 129) #[] #[.pointer (some ⟨Bm, ob, none⟩)]] W0 fun e W' =>
      ∃ v ss gb, e = .returned v ∧ List.Perm ss (es.toList.map key) ∧ RowAt 2 b0 W0.heap.size W' v (l.length + ss.length) ((l ++ ss).flatMap Nm.enc) gb ∧ Still b0 W0 W' ∧ Head0 (l.length * 2) b0 W0 W' := by
  refine (callsIn_wide (n := 6)).1 ?_
  obtain ⟨ba, bn, bc, hv0⟩ : ∃ ba bn bc, v0 = .slice ba bn bc := by
    rcases hrow.lies with ⟨_, _, a, rfl⟩ | ⟨g, cap, cur, e, _, rfl, _⟩
    · exact ⟨_, _, _, rfl⟩
    · exact ⟨_, _, _, rfl⟩
  subst hv0
  have hBml : Bm < W0.heap.size := World.block_lt_of_cell? W0 _ hm
  have hbl : b < W0.heap.size := (Array.getElem?_eq_some_iff.1 hb).1
  refine callsIn_of_wp_marks Tryz.func72 rfl trivial ?_ rfl
  simp only [Tryz.ntmps72, List.size_toArray, List.length_cons, List.length_nil, Nat.reduceAdd, Nat.reduceSub, Array.replicate_succ, Array.replicate_zero, List.push_toArray, List.append_toArray, List.nil_append, List.cons_append]
  gi_wp2
  obtain ⟨W1, hW1⟩ : ∃ W1, W0.alloc (.cells #[.slice ba bn bc] 33) = W1 := ⟨_, rfl⟩
  have hs1 : W1.heap.size = W0.heap.size + 1 := by rw [← hW1]; simp
  have hg1 : W0.grownBy W1 none := by rw [← hW1]; exact World.grownBy_alloc W0 _ none
  have hd1 : W0.drawn ≤ W1.drawn := by rw [← hW1]; exact Nat.le_refl _
  have hv1 : W1.heap[W0.heap.size]? = some (.cells #[.slice ba bn bc] 33 (0, 0)) := by rw [← hW1]; exact heap_alloc_new W0 _
  rw [hW1]
  clear hW1
  refine wpIn_rangeFunc_gives (enc := keyV) (N := es.size) (S := fun ss => List.Perm ss (es.toList.map key)) rfl (by omega) rfl trivial (enters_of Tryz.func129 (by kernel_rfl) rfl) (AppI b0 W0 l) (by rw [hs1]; exact appI_abW b0 W0 l hb0)
    ⟨.slice ba bn bc, b0, hv1, by simpa using hrow.kept hg1 (by cases b0 <;> simp), fun e => by have := hb0 _ e; omega, (Still.refl b0 W0).step hg1 hd1 (fun r e => by cases e), (Head0.refl _ b0 W0).step hg1 (by cases b0 <;> simp)⟩ ?_
    (fun x a' W => ∃ Bv, a' = ⟨#[.slice ba bn bc, .func (.func 129) #[] #[.pointer (some ⟨Bm, ob, none⟩)], .pointer (some ⟨W0.heap.size, 0, none⟩), undef, .slice none 0 0, .pointer (some ⟨Bv, 0, none⟩), .func (.func 129) #[] #[.pointer (some ⟨Bm, ob, none⟩)], keyV x, undef, undef, undef, undef, undef], []⟩ ∧ W.heap[Bv]? = some (.cells #[.int .i64 x.who, .int .i64 x.seq] 42 (0, 0))) ?_ ?_ ?_ ?_
  · intro l' J W2 hI hsz hJ hY hJ0
    obtain ⟨v, gb, q1, q2, q3, q4, q6⟩ := hI
    exact keysNm_gives _ 5 trivial rfl (by omega) W2 ((World.cell?_of_block (q4.block Bm hBml hBm)).trans hm) ((q4.block b hbl hbb).trans hb) hborn key hkey l' J hJ hY hJ0
  · rintro x a' s W W' row ⟨Bv, h1, h2⟩ hg hd hr
    refine ⟨Bv, h1, (hg.block _ (Array.getElem?_eq_some_iff.1 h2).1 (fun e => ?_)).trans h2⟩
    obtain ⟨_, o, ho, hc⟩ := hr _ e.symm
    rw [h2] at ho; cases ho; cases hc
  · intro l' pre x W K hI hK
    change Code.wpIn (Fence.wide.inRound l') (6 - 1 - 1) Tryz.prog _ _ ⟨#[.slice ba bn bc, .func (.func 129) #[] #[.pointer (some ⟨Bm, ob, none⟩)], .pointer (some ⟨W0.heap.size, 0, none⟩), undef, .slice none 0 0, undef, .func (.func 129) #[] #[.pointer (some ⟨Bm, ob, none⟩)], keyV x, undef, undef, undef, undef, undef], []⟩ W
    have hK' := hK _ (W.alloc (.cells #[.int .i64 x.who, .int .i64 x.seq] 42)) (World.grownBy_alloc W _ none) (Nat.le_refl _) ⟨W.heap.size, rfl, heap_alloc_new W _⟩
    clear hK
    unfold keyV at hK' ⊢
    gi_wp2_with gi_round_op_a
    exact hK'
  · rintro l' pre x a' W ⟨v, gb, q1, q2, q3, q4, q6⟩ ⟨Bv, rfl, hBv⟩ hlen
    obtain ⟨hc1, hf1⟩ := cell_of_box_a q1
    have hk0 : W.cell? ⟨Bv, 0, none⟩ = some (.int .i64 x.who) := by simp [World.cell?, hBv]
    have hk1 : W.cell? ⟨Bv, 1, none⟩ = some (.int .i64 x.seq) := by simp [World.cell?, hBv]
    obtain ⟨inf, d, z, i1, i2, i3, i4, i5, i6, i7⟩ := hT.parts (t := 42) (by simp [TK.isNone])
    simp at i4 i5 i7
    obtain ⟨va, vn, vc, hv⟩ : ∃ va vn vc, v = .slice va vn vc := by
      rcases q2.lies with ⟨_, _, a, rfl⟩ | ⟨g, cap, cur, e, _, rfl, _⟩
      · exact ⟨_, _, _, rfl⟩
      · exact ⟨_, _, _, rfl⟩
    subst hv
    have hWs : W0.heap.size < W.heap.size := (Array.getElem?_eq_some_iff.1 q1).1
    have q5 : RowAt 2 b0 W0.heap.size (W.alloc (.cells #[.int .i64 x.who, .int .i64 x.seq] 42)) (.slice va vn vc) (l.length + pre.length) ((l ++ pre).flatMap Nm.enc) gb := q2.kept (World.grownBy_alloc W _ none) (by cases gb <;> simp)
    have hnew : ∀ (j : Nat) (u : Value), [Value.int .i64 x.who, Value.int .i64 x.seq][j]? = some u → (W.alloc (.cells #[.int .i64 x.who, .int .i64 x.seq] 42)).cell? ⟨W.heap.size, j, none⟩ = some u := fun j u hj => by
      have := heap_alloc_new W (.cells #[.int .i64 x.who, .int .i64 x.seq] 42)
      simp only [World.cell?, this]
      simpa using hj
    gi_wp2_with (first
      | (gi_at_builtin; refine wpListIn_append_row _ rfl _ _ 33 rfl Tryz.underlying33 i1 i6 i4 (by rw [← Array.length_toList, i7]; rfl) (by decide) rfl q5 (by simp; omega) rfl (news := [.int .i64 x.who, .int .i64 x.seq]) rfl (by simp [Value.oneCell']) hnew (by rw [i5]; omega) (by omega) ?_; intro v' W3 g' r1 r2 r3 r4 r5
         have hv3 : W3.heap[W0.heap.size]? = some (.cells #[.slice va vn vc] 33 (0, 0)) := (r2.block _ (by simp; omega) (fun e => q3 e.symm)).trans ((heap_alloc_old W _ hWs).trans q1)
         obtain ⟨hc3, hf3⟩ := cell_of_box_a hv3
         obtain ⟨cap', cur', e', rfl, s2, s3, s4, s5, s6, s7⟩ : ∃ cap' cur' e', v' = .slice (some ⟨g', 0, none⟩) (l.length + pre.length + 1) cap' ∧ (b0 = some g' ∨ W0.heap.size ≤ g') ∧ W3.heap[g']? = some (.cells cur' e' (0, 0)) ∧ l.length + pre.length + 1 ≤ cap' ∧ cap' ≤ maxLen ∧ cap' * 2 = cur'.size ∧ cur'.toList.take ((l.length + pre.length + 1) * 2) = (l ++ pre).flatMap Nm.enc ++ [.int .i64 x.who, .int .i64 x.seq] := by
           rcases r1.lies with ⟨h, _⟩ | ⟨g, cap, cur, e, h, h1, h2, h3, h4, h5, h6, h7⟩
           · cases h
           · injection h with h; subst h; exact ⟨cap, cur, e, h1, h2, h3, h4, h5, h6, h7⟩
         go_frame)
      | gi_round_op_a)
    have hg0 : W.grownBy (W.alloc (.cells #[.int .i64 x.who, .int .i64 x.seq] 42)) none := World.grownBy_alloc W _ none
    have hd0 : W.drawn ≤ (W.alloc (.cells #[.int .i64 x.who, .int .i64 x.seq] 42)).drawn := Nat.le_refl _
    have hgb : ∀ r, gb = some r → (b0 = some r ∨ W0.heap.size ≤ r) ∧ ∃ cur e, W.heap[r]? = some (.cells cur e (0, 0)) := fun r e => by
      rcases q2.lies with ⟨h, _⟩ | ⟨g, cap, cur, e', h, _, h2, h3, _⟩
      · rw [h] at e; cases e
      · rw [h] at e; injection e with e; subst e; exact ⟨h2, cur, e', h3⟩
    have hgne : g' ≠ W0.heap.size := by
      rcases r4 with h | h
      · exact fun e => q3 (by rw [h, e])
      · rw [h]; simp; omega
    generalize W.alloc (.cells #[.int .i64 x.who, .int .i64 x.seq] 42) = W2 at *
    have hg4 : W3.grownBy (W3.setCell ⟨W0.heap.size, 0, none⟩ (.slice (some ⟨g', 0, none⟩) (l.length + pre.length + 1) cap')) (some W0.heap.size) := grownBy_setCell0_a _ _ _
    refine ⟨⟨Nat.le_trans hg0.size (Nat.le_trans r2.size hg4.size), fun k o hk ho hcell => ?_⟩, ((KeepsWalks.of_grownBy hg0 (fun j o e => by cases e)).trans (KeepsWalks.of_grownBy r2 (fun j o e ho => ?_))).trans (KeepsWalks.setCell _ _ _),
      .slice (some ⟨g', 0, none⟩) (l.length + pre.length + 1) cap', some g', heap_setCell_box_a _ hv3, ?_, fun e => hgne (by injection e), ((q4.step hg0 hd0 (fun r e => by cases e)).step r2 r3 (fun r e => (hgb r e).1)).step hg4 (Nat.le_refl _) (fun r e => .inr (by injection e with e; omega)), ((q6.step hg0 (by cases b0 <;> simp)).write (by rw [Nat.add_mul]; omega) r2 r5).step hg4 ?_⟩
    · have h2 := (hg0.block k (Array.getElem?_eq_some_iff.1 ho).1 (by simp)).trans ho
      have h3 := (r2.block k (Array.getElem?_eq_some_iff.1 h2).1 (fun e => by
        obtain ⟨_, cur, e', h⟩ := hgb k e.symm
        rw [ho] at h; cases h; cases hcell)).trans h2
      exact (hg4.block k (Array.getElem?_eq_some_iff.1 h3).1 (fun e => by injection e with e; omega)).trans h3
    · obtain ⟨_, cur, e', h⟩ := hgb j e
      have h2 := (hg0.block j (Array.getElem?_eq_some_iff.1 h).1 (by simp)).trans h
      rw [ho] at h2; cases h2; rfl
    · have := r1.kept hg4 (.inr (fun e => hgne (by injection e)))
      simpa [Nm.enc, Nat.add_assoc] using this
    · cases hb : b0 with
      | none => exact .inl rfl
      | some g => exact .inr fun e => by injection e with e; have := hb0 g hb; omega
  · rintro D xs W hD hS ⟨v, gb, q1, q2, q3, q4, q6⟩ hdef
    obtain ⟨hc1, hf1⟩ := cell_of_box_a q1
    gi_wp2
    refine ⟨by simp, .inl ⟨_, _, rfl, run_takeDeferred hdef, ?_⟩⟩
    refine ⟨_, results_tmp rfl _ _ _, v, xs, gb, rfl, hS, q2.kept (grownBy_putObj_a _ _ _) ?_, q4.step (grownBy_putObj_a _ _ _) (Nat.le_refl _) (fun r e => .inr (by injection e with e; omega)), q6.step (grownBy_putObj_a _ _ _) ?_⟩
    rcases q2.lies with ⟨h, _⟩ | ⟨g, cap, cur, e', h, _, h2, h3, _⟩
    · exact .inl h
    · refine .inr fun e => ?_
      rw [h] at e; injection e with e; subst e
      rw [hdef] at h3; cases h3
    · cases hb : b0 with
      | none => exact .inl rfl
      | some g => exact .inr fun e => by injection e with e; have := hb0 g hb; omega
end Go.Eng

/-
  Chapter 22: edit.Closure. No condition.
-/
namespace Go.Eng
open Go.Proofs
attribute [local simp] runL stepL evalG evalOp opLV constLV putEnv dstOk upd upds Res.plain Res.cond Res.fail evalBin evalUn seqQ blockQ argsEnv lookL lookH RetIs memless freshL evalPick evalMin bval bok evalLen evalIn strip whenC guardOps guardC slotsOf
  runM foldS stepI stepM maskE wrIn lk renO lookN evalCall evalCallee optAll resLV resObj retLV retObj retsLV retsObj evalLoad evalIndexAddr evalField solid cellsD_agg cellsD_int cellsD_bool cellsD_str cellsD_sl cellsD_ro cellsD_fn cellsL_agg cellsL_dagg cellsL_int cellsL_bool cellsL_str cellsL_sl cellsL_fn cellsL_ow cellsL_bx cellsL_lfn cellsL_nl takeL takeD mkAgg allD eqD eqDs kindsAre kindIs LObj.live TK.isNone TK.agg TK.isBool TK.isStr TK.isStruct Op.operands Call.operands
  evalBuildSlice evalAppend elemsOf evalStore evalBuild fillL lookupF putL evalSlice bound evalConv elemsS freezes frozen loadR
  mkEnv_at mkObs_at close_d close_agg close_ow close_bx close_fn close_nl touch_d touch_agg touch_ow touch_bx touch_fn touch_nl ren_d ren_agg ren_bx ren_rp ren_ow ren_fn ren_nl ren_junk retQ_ret retQ2_ret condQ_bool Nm.d Df.d Ed.d nmsD dfsD strsD edsD retC_ret nm_eq df_eq take_map_len take_map_app
  nm_t nm_d nm_td df_t df_d df_td str_t str_d str_td ed_t ed_d ed_td
  evalAppendIn evalCut evalClear evalCopy evalMake evalWrap evalCap evalNil isNilC lenL isInp gorc
  mapOf findD keyEq keyOk evalMakeMap evalRange zeroD zeroDV argsG shutG outN lenv retG0_ret retG0_normal retG1_ret renO close_mp touch_mp ren_mp optAll_d optAll_d' touch_ds cellsL_mp cellsD_mp cellsL_dmp

def entryKey (e : MapEntry) : Nm := match e.key with
  | .agg cs => match cs.toList with
    | [.int _ a, .int _ b] => ⟨a, b⟩
    | _ => default
  | _ => default
theorem rd_nm {w : World} {E : Nat → Prop} {n : Nm} {v : Value} (h : RD w E n.d v) : v = keyV n := (nmAgg n w E v).1 h
theorem row_len {l : List Nm} : (l.map Nm.d).length = l.length := by simp

theorem AppendKeys_ok (l s : List Nm) (ds : List DV) (hN : (l.length + s.length) * 16 ≤ 140737488355328) :
    OkGR Tryz.prog 72 [.ow 0 0 l.length, .d (.fn 129 [.ro [.mp (s.map Nm.d) ds]])] [(0, .row false 2 (l.map Nm.d))]
      (fun fin ret => ∃ p : List Nm, p.Perm s ∧ fin = [(0, .dead), (1, .row false 2 ((l ++ p).map Nm.d))] ∧ ret = .ow 1 0 (l.length + p.length)) := by
  refine ⟨⟨_, Tryz.func72, by kernel_rfl, by rfl⟩, fun w X β vs m hvl hr => ?_⟩
  have hH : mkObs [(0, LObj.row false 2 (l.map Nm.d))] 0 = .row false 2 (l.map Nm.d) := by simp [mkObs, lookH]
  have hH1 : mkObs [(0, LObj.row false 2 (l.map Nm.d))] 1 = .absent := by simp [mkObs, lookH]
  have hfin : ∀ o, mkObs [(0, .dead), (1, o)] = upd (upd (mkObs [(0, LObj.row false 2 (l.map Nm.d))]) 0 .dead) 1 o := fun o => by
    funext j; simp only [mkObs, lookH, upd]; by_cases h0 : j = 0 <;> by_cases h1 : j = 1 <;> simp_all
  generalize hHd : mkObs [(0, LObj.row false 2 (l.map Nm.d))] = H at *
  match vs, hvl with
  | [v0, v1], _ =>
  have r0 := hr 0 _ _ rfl rfl
  have r1 := hr 1 _ _ rfl rfl
  obtain ⟨Bm, ob, b, clock, arr, rfl, hcell, hBm, hblk, hb, hk, hborn, hkey⟩ : ∃ Bm ob b clock arr, v1 = .func (.func 129) #[] #[.pointer (some ⟨Bm, ob, none⟩)] ∧ w.cell? ⟨Bm, ob, none⟩ = some (.map (some b)) ∧ ¬ Ex X β H Bm ∧ w.heap[b]? = some (.map arr clock) ∧ ¬ Ex X β H b ∧
      (s.map Nm.d).length = arr.size ∧ BornOk arr clock ∧ ∀ (i : Nat) (d : DV) (e : MapEntry), (s.map Nm.d)[i]? = some d → arr[i]? = some e → RD w (Ex X β H) d e.key := by
    cases r1 with
    | d _ _ h => cases h with
      | fn _ _ us hl hc =>
        match us, hl with
        | [u], _ =>
        have h0 := hc 0 _ u rfl rfl
        cases h0 with
        | ro _ Bm ob us2 hBm hul _ _ hcell h =>
          match us2, hul with
          | [u2], _ =>
          have h2 := h 0 _ u2 rfl rfl
          have hc2 := hcell 0 u2 rfl
          cases h2 with
          | mp _ _ b clock arr hb _ hblk hk _ hborn hkey _ => exact ⟨Bm, ob, b, clock, arr, rfl, by simpa using hc2, hBm, hblk, hb, hk, hborn, hkey⟩
  rw [row_len] at hk
  have hkeys : ∀ (i : Nat) (h1 : i < s.length) (h2 : i < arr.size), arr[i].key = keyV s[i] := fun i h1 h2 => rd_nm (hkey i _ _ (by simp [h1]) (Array.getElem?_eq_getElem h2))
  have hk2 : ∀ e ∈ arr.toList, e.key = keyV (entryKey e) := fun e he => by
    obtain ⟨i, hi, rfl⟩ := List.getElem_of_mem he
    have hi' : i < arr.size := by simpa using hi
    have := hkeys i (by omega) hi'
    simp only [Array.getElem_toList]
    simp [entryKey, this, keyV]
  have hmap : arr.toList.map entryKey = s := by
    apply List.ext_getElem (by simpa using hk.symm)
    intro i h1 h2
    have := hkeys i h2 (by omega)
    simp [entryKey, this, keyV]
  have hmut : (H 0).mut = true := by rw [hH]; rfl
  have finish : ∀ (b0 : Option Nat), ((b0 = none ∧ l = []) ∨ (∃ g, b0 = some g ∧ β 0 = some g ∧ ∃ cur e, w.heap[g]? = some (.cells cur e (0, 0)) ∧ cur.toList.take (l.length * 2) = l.flatMap Nm.enc)) → RowAt 2 b0 w.heap.size w v0 l.length (l.flatMap Nm.enc) b0 →
      Calls Tryz.prog 72 #[v0, .func (.func 129) #[] #[.pointer (some ⟨Bm, ob, none⟩)]] w fun e w' => ∃ v β' fin ret, (∃ p : List Nm, p.Perm s ∧ fin = [(0, .dead), (1, .row false 2 ((l ++ p).map Nm.d))] ∧ ret = .ow 1 0 (l.length + p.length)) ∧ e = .returned v ∧
        Mem ⟨w, β, H, [(0, LObj.row false 2 (l.map Nm.d))].map (·.1)⟩ X (mkObs fin) β' w' ∧ R w' (Ex X β' (mkObs fin)) β' (mkObs fin) ret v := by
    intro b0 hb0 hrow
    have hE : ∀ x, ¬ Ex X β H x → some x ≠ b0 := fun x hx e => by
      rcases hb0 with ⟨h, _⟩ | ⟨g, h, hg, _⟩
      · rw [h] at e; cases e
      · rw [h] at e; injection e with e; subst e; exact hx (.inr ⟨0, hmut, hg⟩)
    refine (appendSeqNm w v0 l b0 hrow (fun g hg => ?_) hcell (hE _ hBm) hblk (hE _ hb) hborn entryKey hk2 (by rw [← hk]; exact hN)).mono ?_
    · rcases hb0 with ⟨h, _⟩ | ⟨g', h, _, cur, e, hc, _⟩
      · rw [h] at hg; cases hg
      · rw [h] at hg; injection hg with hg; subst hg; exact (Array.getElem?_eq_some_iff.1 hc).1
    · rintro e w' ⟨v, ss, gb, rfl, hp, hr', hst, hhd⟩
      rw [hmap] at hp
      obtain ⟨β', hm, hR⟩ := m.appended nmCells (id := 0) (new := 1) hH hH1 hb0 hr' hst hhd
      exact ⟨v, β', _, _, ⟨ss, hp, rfl, rfl⟩, rfl, by rw [hfin]; exact hm, by rw [hfin]; exact hR⟩
  rcases ow_cases m hH r0 with ⟨g, c, cur, e, rfl, hg, hkn, hn, hc, hblk', hroom, hcap⟩ | ⟨p, rfl, hz, _⟩
  · have hob := m.obj 0
    simp only [ObjR, hH] at hob
    obtain ⟨hpos, hall, hob⟩ := hob
    rcases hob with ⟨hnone, _⟩ | ⟨b', e', cur', hb', hblk2, hlen', hpo⟩
    · rw [hnone] at hg; cases hg
    rw [hg] at hb'; injection hb' with hb'; subst hb'
    rw [hblk'] at hblk2; injection hblk2 with hblk2; injection hblk2 with p1 p2; subst p1; subst p2
    rw [row_len] at hlen'
    have htk := nmCells.holds hlen' (fun i c v hc hv => (hpo i c v hc hv).2)
    refine finish (some g) (.inr ⟨g, rfl, hg, cur, e, hblk', htk⟩) ⟨nmCells.flat_len l, fun u hu => ?_, .inr ⟨g, c, cur, e, rfl, by simp, .inl rfl, hblk', hn, hc, by simpa using hroom, htk⟩⟩
    obtain ⟨x, _, hx⟩ := List.mem_flatMap.1 hu
    exact nmCells.one x u hx
  · have hl0 : l = [] := List.eq_nil_of_length_eq_zero hz
    subst hl0
    exact finish none (.inl ⟨rfl, rfl⟩) ⟨rfl, by simp, .inl ⟨rfl, rfl, p, rfl⟩⟩

/-- maps.Keys[map[culprit/api.Name]bool,culprit/api.Name,bool] -/
theorem KeysNm_ok (ks vs : List DV) : Ok Tryz.prog 73 [.mp ks vs] ⟨.d (.fn 129 [.ro [.mp ks vs]]), false⟩ := by
  refine Ok.ret Tryz.func73 (by kernel_rfl) (c := _) rfl Tryz.ntmps73 (by simp) Tryz.results73 (by intro _ h; cases h) fun w0 X hp => ?_
  refine LWp.seq ?_
  refine LWp.reg hT hW (fun _ => none) (fun _ => ⟨rfl, fun _ h => h⟩) ?_
  simp
  refine LWp.seq ?_
  refine LWp.reg hT hW (fun _ => none) (fun _ => ⟨rfl, fun _ h => h⟩) ?_
  simp
  refine LWp.ret ?_
  simp

theorem nodup_le' {α : Type} [DecidableEq α] : ∀ {l m : List α}, l.Nodup → (∀ x ∈ l, x ∈ m) → l.length ≤ m.length
  | [], _, _, _ => Nat.zero_le _
  | a :: l, m, h, hs => by
    simp only [List.nodup_cons] at h
    have ha : a ∈ m := hs a (List.mem_cons_self ..)
    have := nodup_le' h.2 (m := m.erase a) (fun x hx => (List.mem_erase_of_ne (show x ≠ a from fun e => by subst e; exact h.1 hx)).2 (hs x (List.mem_cons_of_mem _ hx)))
    rw [List.length_erase_of_mem ha] at this
    have := List.length_pos_of_mem ha
    simp only [List.length_cons]; omega
theorem reach_all {l : List Ed} {n m : Nm} (h : Reach l n m) : m ∈ allNeeds l := by
  induction h with
  | one h => exact needs_all h
  | next _ _ ih => exact ih
theorem aboveL_len (l : List Ed) (n : Nm) : (aboveL l n).length ≤ (allNeeds l).length := nodup_le' (aboveL_nodup l n) fun x hx => reach_all (mem_aboveL.1 hx)

/-- culprit/edit.Closure -/
theorem EClosure_ok (l : List Ed) (set : List Nm) (hl : set.length ≤ 1000000) (hn : (allNeeds l).length ≤ 1000000) : Ok Tryz.prog 17 [edsD l, nmsD set] ⟨.tup [.own 2 ((closureV l set).1.map Nm.d), .d (I64 (closureV l set).2)], true⟩ := by
  refine Ok.two Tryz.func17 (by kernel_rfl) (c := _) rfl Tryz.ntmps17 (by simp) Tryz.results17 rfl fun w0 X hp => ?_
  refine LWp.seq ?_
  refine LWp.reg hT hW (fun _ => none) (fun _ => ⟨rfl, fun _ h => h⟩) ?_
  simp
  refine LWp.seq ?_
  refine LWp.reg hT hW (fun | 10 => some <| .plain ⟨.own 2 (set.map Nm.d), true⟩ | _ => none) (by intro d; first | exact ⟨rfl, fun _ h => h⟩ | (split <;> exact ⟨rfl, fun _ h => h⟩)) ?_
  simp
  refine ⟨CloneNm_ok set (by omega), ?_⟩
  refine LWp.seq ?_
  refine LWp.seq ?_
  refine LWp.reg hT hW (fun _ => none) (fun _ => ⟨rfl, fun _ h => h⟩) ?_
  simp
  refine LWp.block ?_
  refine LWp.loopW (ι := Nat × List Nm) (fun ⟨i, out⟩ => mkEnv [(0, .d (edsD l)), (6, .ow 6 0 out.length), (11, .d (nmsD set)), (12, .d (I64 set.length)), (13, .d (I64 i))]) (fun ⟨i, out⟩ => mkObs [(6, .row false 2 (out.map Nm.d))]) (fun ⟨i, out⟩ => i ≤ set.length ∧ out.length ≤ set.length + i * 1000000 ∧ out.Perm (set ++ (set.take i).flatMap (aboveL l))) (fun ⟨i, out⟩ => set.length - i) (0, set) (Weak.to [0, 6, 11, 12, 13] [(10, 6)] (by decide) (by decide) (by simp [hp]) (by simp) (by simp)) (by simp) fun ⟨i, out⟩ hi3 => ?_
  refine LWp.seq ?_
  refine LWp.reg hT hW (fun _ => none) (fun _ => ⟨rfl, fun _ h => h⟩) ?_
  simp
  refine LWp.seq ?_
  refine LWp.iff ?_
  simp
  refine ⟨fun h3 => ?_, fun h3 => ?_⟩
  · refine LWp.skip ?_
    simp
    refine LWp.seq ?_
    refine LWp.block ?_
    refine LWp.seq ?_
    refine LWp.reg hT hW (fun _ => none) (fun _ => ⟨rfl, fun _ h => h⟩) ?_
    simp [h3]
    obtain ⟨q1, q2, q3⟩ := hi3
    have hab := aboveL_len l set[i]
    have hip : i * 1000000 ≤ set.length * 1000000 := Nat.mul_le_mul_right _ q1
    refine LWp.regGenR hT hW 22 [(6, 0)] [(1, 22)] [1] (fun fin ret => ∃ p : List Nm, p.Perm (aboveL l set[i]) ∧ fin = [(0, .dead), (1, .row false 2 ((out ++ p).map Nm.d))] ∧ ret = .ow 1 0 (out.length + p.length)) _ _ ⟨aboveL l set[i], List.Perm.refl _, rfl, rfl⟩ (fun | 20 => some <| .plain ⟨.d (.mp (List.map Nm.d (aboveL l set[i])) (List.map (fun _ => .bool true) (aboveL l set[i]))), false⟩ | 21 => some <| .plain ⟨.d (.fn 129 [.ro [.mp (List.map Nm.d (aboveL l set[i])) (List.map (fun _ => .bool true) (aboveL l set[i]))]]), false⟩ | _ => none) (by intro d; first | exact ⟨rfl, fun _ h => h⟩ | (split <;> exact ⟨rfl, fun _ h => h⟩)) (by kernel_rfl) fun r5 hr5 => ?_
    obtain ⟨fin5, ret5⟩ := r5
    obtain ⟨p, hp5, rfl, rfl⟩ := hr5
    simp
    refine ⟨⟨⟨above_ok l set[i], KeysNm_ok _ _⟩, by simpa using AppendKeys_ok out (aboveL l set[i]) _ (by omega)⟩, ?_⟩
    refine LWp.reg hT hW (fun _ => none) (fun _ => ⟨rfl, fun _ h => h⟩) ?_
    simp
    refine ⟨by omega, ?_⟩
    refine loopQ.mk (i + 1, out ++ p) (Weak.to [0, 6, 11, 12, 13] [(22, 6)] (by decide) (by decide) (by simp [hp]) (by simp) (by simp)) ?_ ?_
    · refine ⟨h3, ?_, ?_⟩
      · have := hp5.length_eq
        simp only [List.length_append, Nat.add_mul]; omega
      · rw [List.take_succ_eq_append_getElem h3, List.flatMap_append]
        simp only [List.flatMap_cons, List.flatMap_nil, List.append_nil]
        rw [← List.append_assoc]
        exact q3.append hp5
    · omega
  · refine LWp.exit ?_
    simp
    refine LWp.seq ?_
    refine LWp.seq ?_
    obtain ⟨q1, q2, q3⟩ := hi3
    have hi' : i = set.length := by omega
    rw [hi', List.take_length] at q3
    have hcv := closureV_perm q3
    have hil : i * 1000000 ≤ 1000000 * 1000000 := Nat.mul_le_mul_right _ (by omega)
    refine LWp.reg hT hW (fun | 26 => some <| .plain ⟨.d (.bool (closedB l out)), true⟩ | _ => none) (by intro d; first | exact ⟨rfl, fun _ h => h⟩ | (split <;> exact ⟨rfl, fun _ h => h⟩)) ?_
    simp
    refine ⟨EClosed_ok l out, ?_⟩
    refine LWp.iff ?_
    simp
    refine ⟨fun h7 => ?_, fun h7 => ?_⟩
    · refine LWp.seq ?_
      refine LWp.reg hT hW (fun _ => none) (fun _ => ⟨rfl, fun _ h => h⟩) ?_
      simp
      refine LWp.ret ?_
      simp [hcv, h7]
    · refine LWp.skip ?_
      simp
      refine LWp.seq ?_
      refine LWp.reg hT hW (fun | 29 => some <| .plain ⟨.own 2 ((sortN out).map Nm.d), true⟩ | _ => none) (by intro d; first | exact ⟨rfl, fun _ h => h⟩ | (split <;> exact ⟨rfl, fun _ h => h⟩)) ?_
      simp
      refine ⟨ESort_ok out (by omega), ?_⟩
      refine LWp.ret ?_
      simp [hcv, h7]

end Go.Eng

/-
  Chapter 22: the reference model's Above, Before, Closed, Closure. No condition.
-/
namespace Go.Eng
open Go.Proofs
attribute [local simp] runL stepL evalG evalOp opLV constLV putEnv dstOk upd upds Res.plain Res.cond Res.fail evalBin evalUn seqQ blockQ argsEnv lookL lookH RetIs memless freshL evalPick evalMin bval bok evalLen evalIn strip whenC guardOps guardC slotsOf
  runM foldS stepI stepM maskE wrIn lk renO lookN evalCall evalCallee optAll resLV resObj retLV retObj retsLV retsObj evalLoad evalIndexAddr evalField solid cellsD_agg cellsD_int cellsD_bool cellsD_str cellsD_sl cellsD_ro cellsD_fn cellsL_agg cellsL_dagg cellsL_int cellsL_bool cellsL_str cellsL_sl cellsL_fn cellsL_ow cellsL_bx cellsL_lfn cellsL_nl takeL takeD mkAgg allD eqD eqDs kindsAre kindIs LObj.live TK.isNone TK.agg TK.isBool TK.isStr TK.isStruct Op.operands Call.operands
  evalBuildSlice evalAppend elemsOf evalStore evalBuild fillL lookupF putL evalSlice bound evalConv elemsS freezes frozen loadR
  mkEnv_at mkObs_at close_d close_agg close_ow close_bx close_fn close_nl touch_d touch_agg touch_ow touch_bx touch_fn touch_nl ren_d ren_agg ren_bx ren_rp ren_ow ren_fn ren_nl ren_junk retQ_ret retQ2_ret condQ_bool Nm.d Df.d Ed.d nmsD dfsD strsD edsD retC_ret nm_eq df_eq take_map_len take_map_app
  nm_t nm_d nm_td df_t df_d df_td str_t str_d str_td ed_t ed_d ed_td
  evalAppendIn evalCut evalClear evalCopy evalMake evalWrap evalCap evalNil isNilC lenL isInp gorc
  mapOf findD keyEq keyOk evalMakeMap evalRange zeroD zeroDV argsG shutG outN lenv retG0_ret retG0_normal retG1_ret renO close_mp touch_mp ren_mp optAll_d optAll_d' touch_ds cellsL_mp cellsD_mp cellsL_dmp

/-- What is above: the names to which needs lead, perhaps some twice. -/
def IsAbove (l : List Ed) (n : Nm) (o : List Nm) : Prop := (∀ x, x ∈ o ↔ Reach l n x) ∧ o.length ≤ 2 * (allNeeds l).length
theorem flat_mem_len : ∀ {l : List Ed} {e : Ed}, e ∈ l → e.needs.length ≤ (l.flatMap Ed.needs).length
  | a :: l, e, h => by
    simp only [List.flatMap_cons, List.length_append]
    rcases List.mem_cons.1 h with rfl | h
    · omega
    · have := flat_mem_len h; omega
theorem needsOf_len {l : List Ed} {n : Nm} : (needsOf l n).length ≤ (allNeeds l).length := by
  unfold needsOf
  split
  · rename_i i h
    obtain ⟨hi, _, _⟩ := find_at h
    simp only [List.getD_eq_getElem?_getD, List.getElem?_eq_getElem hi, Option.getD_some]
    exact flat_mem_len (List.getElem_mem hi)
  · simp
theorem mu_nil (l : List Ed) (M : List Nm) : mu l M ≤ (allNeeds l).length := List.length_filter_le _ _
/-- Where the search stands: what is known is above; the needs of the first i are known. -/
structure Sofar (l : List Ed) (n : Nm) (out : List Nm) (i : Nat) : Prop where
  reach : ∀ x ∈ out, Reach l n x
  first : ∀ x ∈ needsOf l n, x ∈ out
  done : ∀ (j : Nat) (h : j < out.length), j < i → ∀ x ∈ needsOf l out[j], x ∈ out
  size : mu l out + out.length ≤ 2 * (allNeeds l).length
theorem Sofar.start (l : List Ed) (n : Nm) : Sofar l n (needsOf l n) 0 :=
  ⟨fun x h => .one h, fun x h => h, fun j _ h => absurd h (Nat.not_lt_zero _), by have := mu_nil l (needsOf l n); have := needsOf_len (l := l) (n := n); omega⟩
theorem Sofar.step {l : List Ed} {n : Nm} {out o : List Nm} {i : Nat} (h : Sofar l n out i) (hi : i < out.length) (hp : out <+: o) (hr : ∀ x ∈ o, Reach l n x) (hd : ∀ x ∈ needsOf l out[i], x ∈ o) (hs : mu l o + o.length ≤ mu l out + out.length) : Sofar l n o (i + 1) := by
  have hsub : ∀ x ∈ out, x ∈ o := fun x hx => hp.subset hx
  refine ⟨hr, fun x hx => hsub x (h.first x hx), fun j hj hji x hx => ?_, by have := h.size; omega⟩
  have hjo : j < out.length := by omega
  have e : o[j] = out[j] := (List.IsPrefix.getElem hp hjo).symm
  rw [e] at hx
  by_cases hj2 : j < i
  · exact hsub x (h.done j hjo hj2 x hx)
  · have : j = i := by omega
    subst this
    exact hd x hx
theorem Sofar.above {l : List Ed} {n : Nm} {out : List Nm} {i : Nat} (h : Sofar l n out i) (hi : out.length ≤ i) : IsAbove l n out := by
  refine ⟨fun x => ⟨h.reach x, fun hr => ?_⟩, by have := h.size; omega⟩
  have key : ∀ {m k : Nm}, Reach l m k → (m = n ∨ m ∈ out) → k ∈ out := by
    intro m k hr
    induction hr with
    | one hm =>
      rintro (rfl | hmo)
      · exact h.first _ hm
      · obtain ⟨j, hj, rfl⟩ := List.getElem_of_mem hmo
        exact h.done j hj (by omega) _ hm
    | next hm _ ih =>
      rintro (rfl | hmo)
      · exact ih (.inr (h.first _ hm))
      · obtain ⟨j, hj, rfl⟩ := List.getElem_of_mem hmo
        exact ih (.inr (h.done j hj (by omega) _ hm))
  exact key hr (.inl rfl)

/-- culprit/culpritref22.Above -/
theorem Above_ok (l : List Ed) (n : Nm) (hn : (allNeeds l).length ≤ 1000000) : OkR Tryz.prog 75 [edsD l, n.d] (fun r => (fun v => ∃ o : List Nm, IsAbove l n o ∧ v = .d (nmsD o)) r.v ∧ r.fresh = true) := by
  refine OkR.ret (Rel := fun v => ∃ o : List Nm, IsAbove l n o ∧ v = .d (nmsD o)) Tryz.func75 (by kernel_rfl) (c := _) rfl Tryz.ntmps75 (by simp) Tryz.results75 fun w0 X hp => ?_
  have hnl := needsOf_len (l := l) (n := n)
  refine LWp.seq ?_
  refine LWp.reg hT hW (fun _ => none) (fun _ => ⟨rfl, fun _ h => h⟩) ?_
  simp
  refine LWp.seq ?_
  refine LWp.reg hT hW (fun | 12 => some <| .plain ⟨.d (nmsD (needsOf l n)), false⟩ | _ => none) (by intro d; first | exact ⟨rfl, fun _ h => h⟩ | (split <;> exact ⟨rfl, fun _ h => h⟩)) ?_
  simp
  refine ⟨⟨Needs_ok l n, by omega⟩, ?_⟩
  refine LWp.seq ?_
  refine LWp.seq ?_
  refine LWp.reg hT hW (fun _ => none) (fun _ => ⟨rfl, fun _ h => h⟩) ?_
  simp
  refine LWp.block ?_
  refine LWp.loopW (ι := Nat × List Nm) (fun ⟨i, out⟩ => mkEnv [(0, .d (edsD l)), (5, .ow 5 0 out.length), (6, .d (I64 i))]) (fun ⟨i, out⟩ => mkObs [(5, .row false 2 (out.map Nm.d))]) (fun ⟨i, out⟩ => Sofar l n out i) (fun ⟨i, out⟩ => mu l out + (out.length - i)) (0, needsOf l n) (Weak.to [0, 5, 6] [(13, 5)] (by decide) (by decide) (by simp [hp]) (by simp) (by simp)) (Sofar.start l n) fun ⟨i, out⟩ hi3 => ?_
  refine LWp.seq ?_
  refine LWp.seq ?_
  refine LWp.reg hT hW (fun _ => none) (fun _ => ⟨rfl, fun _ h => h⟩) ?_
  simp
  refine LWp.iff ?_
  simp
  refine ⟨fun h3 => ?_, fun h3 => ?_⟩
  · refine LWp.skip ?_
    simp
    refine LWp.seq ?_
    refine LWp.block ?_
    refine LWp.seq ?_
    refine LWp.reg hT hW (fun | 25 => some <| .plain ⟨.d (nmsD (needsOf l out[i])), false⟩ | _ => none) (by intro d; first | exact ⟨rfl, fun _ h => h⟩ | (split <;> exact ⟨rfl, fun _ h => h⟩)) ?_
    simp [h3]
    refine ⟨Needs_ok l out[i], ?_⟩
    refine LWp.seq ?_
    refine LWp.reg hT hW (fun _ => none) (fun _ => ⟨rfl, fun _ h => h⟩) ?_
    simp
    refine LWp.block ?_
    refine LWp.loopW (ι := Nat × List Nm) (fun ⟨k, o⟩ => mkEnv [(0, .d (edsD l)), (5, .ow 5 0 o.length), (6, .d (I64 i)), (7, .d (nmsD (needsOf l out[i]))), (8, .d (I64 k))]) (fun ⟨k, o⟩ => mkObs [(5, .row false 2 (o.map Nm.d))]) (fun ⟨k, o⟩ => k ≤ (needsOf l out[i]).length ∧ out <+: o ∧ (∀ x ∈ o, Reach l n x) ∧ (∀ (j : Nat) (h : j < (needsOf l out[i]).length), j < k → (needsOf l out[i])[j] ∈ o) ∧ mu l o + o.length ≤ mu l out + out.length) (fun ⟨k, o⟩ => (needsOf l out[i]).length - k) (0, out) (Weak.to [0, 5, 6, 7, 8] [(5, 5)] (by decide) (by decide) (by simp [hp]) (by simp) (by simp)) (⟨Nat.zero_le _, List.prefix_refl _, hi3.reach, fun j _ h => absurd h (Nat.not_lt_zero _), Nat.le_refl _⟩) fun ⟨k, o⟩ hi7 => ?_
    refine LWp.seq ?_
    refine LWp.seq ?_
    refine LWp.reg hT hW (fun _ => none) (fun _ => ⟨rfl, fun _ h => h⟩) ?_
    simp
    refine LWp.iff ?_
    simp
    refine ⟨fun h7 => ?_, fun h7 => ?_⟩
    · refine LWp.skip ?_
      simp
      refine LWp.seq ?_
      refine LWp.block ?_
      refine LWp.seq ?_
      refine LWp.reg hT hW (fun | 37 => some <| .plain ⟨.d (.bool (decide ((needsOf l out[i])[k] ∈ o))), true⟩ | _ => none) (by intro d; first | exact ⟨rfl, fun _ h => h⟩ | (split <;> exact ⟨rfl, fun _ h => h⟩)) ?_
      simp [h7]
      refine ⟨Has_ok o _, ?_⟩
      refine LWp.iff ?_
      simp
      refine ⟨fun h9 => ?_, fun h9 => ?_⟩
      · refine LWp.reg hT hW (fun _ => none) (fun _ => ⟨rfl, fun _ h => h⟩) ?_
        simp [h7]
        have hb1 := hi7.2.2.2.2
        have hb2 := hi3.size
        refine ⟨by omega, ?_⟩
        refine LWp.reg hT hW (fun _ => none) (fun _ => ⟨rfl, fun _ h => h⟩) ?_
        simp
        have hk := needsOf_len (l := l) (n := out[i])
        refine ⟨by omega, ?_⟩
        refine loopQ.mk (k + 1, o ++ [(needsOf l out[i])[k]]) (Weak.to [0, 5, 6, 7, 8] [(45, 5)] (by decide) (by decide) (by simp [hp]) (by simp) (by simp)) ?_ ?_
        · obtain ⟨q1, q2, q3, q4, q5⟩ := hi7
          have hm : (needsOf l out[i])[k] ∈ needsOf l out[i] := List.getElem_mem h7
          refine ⟨h7, q2.trans (List.prefix_append _ _), fun x hx => ?_, fun j hj hjk => ?_, ?_⟩
          · rcases List.mem_append.1 hx with hx | hx
            · exact q3 x hx
            · simp at hx; subst hx; exact (hi3.reach _ (List.getElem_mem h3)).snoc hm
          · by_cases e : j = k
            · subst e; simp
            · exact List.mem_append_left _ (q4 j hj (by omega))
          · have := mu_lt (needs_all hm) h9
            simp only [List.length_append, List.length_singleton]; omega
        · omega
      · refine LWp.skip ?_
        simp
        refine LWp.reg hT hW (fun _ => none) (fun _ => ⟨rfl, fun _ h => h⟩) ?_
        simp
        have hk := needsOf_len (l := l) (n := out[i])
        refine ⟨by omega, ?_⟩
        refine loopQ.mk (k + 1, o) (Weak.to [0, 5, 6, 7, 8] [(5, 5)] (by decide) (by decide) (by simp [hp]) (by simp) (by simp)) ?_ ?_
        · obtain ⟨q1, q2, q3, q4, q5⟩ := hi7
          refine ⟨h7, q2, q3, fun j hj hjk => ?_, q5⟩
          by_cases e : j = k
          · subst e; exact h9
          · exact q4 j hj (by omega)
        · omega
    · refine LWp.exit ?_
      simp
      refine LWp.reg hT hW (fun _ => none) (fun _ => ⟨rfl, fun _ h => h⟩) ?_
      simp
      have hb2 := hi3.size
      refine ⟨by omega, ?_⟩
      refine loopQ.mk (i + 1, o) (Weak.to [0, 5, 6] [(5, 5)] (by decide) (by decide) (by simp [hp]) (by simp) (by simp)) ?_ ?_
      · exact hi3.step h3 hi7.2.1 hi7.2.2.1 (fun x hx => by obtain ⟨j, hj, rfl⟩ := List.getElem_of_mem hx; exact hi7.2.2.2.1 j hj (by omega)) hi7.2.2.2.2
      · have := hi7.2.2.2.2
        have := (hi7.2.1).length_le
        dsimp only
        omega
  · refine LWp.exit ?_
    simp
    refine LWp.seq ?_
    refine LWp.reg hT hW (fun _ => none) (fun _ => ⟨rfl, fun _ h => h⟩) ?_
    simp
    refine LWp.ret ?_
    simp only [retR_ret]
    refine ⟨_, ⟨out, hi3.above (by omega), rfl⟩, by simp, ?_⟩
    simp

/-- culprit/culpritref22.Before -/
theorem Before_ok (l : List Ed) (a b : Nm) (hn : (allNeeds l).length ≤ 1000000) : Ok Tryz.prog 28 [edsD l, a.d, b.d] ⟨.d (.bool (decide (a ∈ aboveL l b))), true⟩ := by
  refine Ok.ret Tryz.func28 (by kernel_rfl) (c := _) rfl Tryz.ntmps28 (by simp) Tryz.results28 (by intro _ h; cases h) fun w0 X hp => ?_
  refine LWp.seq ?_
  refine LWp.reg hT hW (fun _ => none) (fun _ => ⟨rfl, fun _ h => h⟩) ?_
  simp
  refine LWp.seq ?_
  refine LWp.anyRel hT hW hMixed (lk [[], [], [0, 1], [], [0, 1, 2, 3], [0, 1, 2, 3, 4]]) (lk [[], [], [], [9], [], []]) (lk [[], [], [9], [], [11], []]) (by kernel_rfl) 9 (fun r => (∃ o : List Nm, IsAbove l b o ∧ r.v = .d (nmsD o)) ∧ r.fresh = true) true ⟨.d (nmsD (aboveL l b)), true⟩ ⟨⟨⟨aboveL l b, ⟨fun x => mem_aboveL, by have := aboveL_len l b; omega⟩, rfl⟩, rfl⟩, rfl⟩ (fun | 11 => some <| .plain ⟨.d (.bool (decide (a ∈ aboveL l b))), true⟩ | _ => none) (by intro d; first | exact ⟨rfl, fun _ h => h⟩ | (split <;> exact ⟨rfl, fun _ h => h⟩)) (by kernel_rfl) fun r1 hr1 => ?_
  obtain ⟨v1, f1⟩ := r1
  obtain ⟨⟨o, ho, hv⟩, hf⟩ := hr1
  dsimp only at hv hf
  subst hv; subst hf
  have hmo : decide (a ∈ o) = decide (a ∈ aboveL l b) := by rw [decide_eq_decide, ho.1, mem_aboveL]
  simp
  refine ⟨⟨Above_ok l b hn, by rw [← hmo]; exact Has_ok o a⟩, ?_⟩
  refine LWp.ret ?_
  simp

/-- culprit/culpritref22.Closed -/
theorem Closed_ok (l : List Ed) (set : List Nm) (hn : (allNeeds l).length ≤ 1000000) (hs : set.length ≤ 1000000000000) : Ok Tryz.prog 21 [edsD l, nmsD set] ⟨.d (.bool (closedB l set)), true⟩ := by
  refine Ok.ret Tryz.func21 (by kernel_rfl) (c := _) rfl Tryz.ntmps21 (by simp) Tryz.results21 (by intro _ h; cases h) fun w0 X hp => ?_
  refine LWp.seq ?_
  refine LWp.reg hT hW (fun _ => none) (fun _ => ⟨rfl, fun _ h => h⟩) ?_
  simp
  refine LWp.seq ?_
  refine LWp.seq ?_
  refine LWp.reg hT hW (fun _ => none) (fun _ => ⟨rfl, fun _ h => h⟩) ?_
  simp
  refine LWp.block ?_
  refine LWp.loopW (ι := Nat) (fun i => mkEnv [(0, .d (edsD l)), (1, .d (nmsD set)), (5, .d (I64 i))]) (fun i => mkObs []) (fun i => i ≤ set.length ∧ Pre (fun n => !closedAt l set n) set i) (fun i => set.length - i) 0 (Weak.to [0, 1, 5] [] (by decide) (by decide) (by simp [hp]) (by simp) (by simp)) (⟨Nat.zero_le _, Pre.zero⟩) fun i hi2 => ?_
  refine LWp.seq ?_
  refine LWp.seq ?_
  refine LWp.reg hT hW (fun _ => none) (fun _ => ⟨rfl, fun _ h => h⟩) ?_
  simp
  refine LWp.iff ?_
  simp
  refine ⟨fun h2 => ?_, fun h2 => ?_⟩
  · refine LWp.skip ?_
    simp
    refine LWp.seq ?_
    refine LWp.block ?_
    refine LWp.seq ?_
    refine LWp.seq ?_
    refine LWp.reg hT hW (fun | 19 => some <| .plain ⟨.d (I64 (findI l set[i])), true⟩ | _ => none) (by intro d; first | exact ⟨rfl, fun _ h => h⟩ | (split <;> exact ⟨rfl, fun _ h => h⟩)) ?_
    simp [h2]
    refine ⟨Find_ok l _, ?_⟩
    refine LWp.iff ?_
    simp
    refine ⟨fun h4 => ?_, fun h4 => ?_⟩
    · refine LWp.seq ?_
      refine LWp.reg hT hW (fun _ => none) (fun _ => ⟨rfl, fun _ h => h⟩) ?_
      simp
      refine LWp.ret ?_
      simp
      exact closedB_false h2 (by simp [closedAt, h4])
    · refine LWp.skip ?_
      simp
      refine LWp.seq ?_
      refine LWp.reg hT hW (fun | 26 => some <| .plain ⟨.d (nmsD (needsOf l set[i])), false⟩ | _ => none) (by intro d; first | exact ⟨rfl, fun _ h => h⟩ | (split <;> exact ⟨rfl, fun _ h => h⟩)) ?_
      simp [h2]
      refine ⟨Needs_ok l _, ?_⟩
      refine LWp.seq ?_
      refine LWp.reg hT hW (fun _ => none) (fun _ => ⟨rfl, fun _ h => h⟩) ?_
      simp
      refine LWp.block ?_
      refine LWp.loopW (ι := Nat) (fun k => mkEnv [(0, .d (edsD l)), (1, .d (nmsD set)), (5, .d (I64 i)), (6, .d (nmsD (needsOf l set[i]))), (7, .d (I64 k))]) (fun k => mkObs []) (fun k => k ≤ (needsOf l set[i]).length ∧ Pre (fun m => !decide (m ∈ set)) (needsOf l set[i]) k) (fun k => (needsOf l set[i]).length - k) 0 (Weak.to [0, 1, 5, 6, 7] [] (by decide) (by decide) (by simp [hp]) (by simp) (by simp)) (⟨Nat.zero_le _, Pre.zero⟩) fun k hi8 => ?_
      refine LWp.seq ?_
      refine LWp.seq ?_
      refine LWp.reg hT hW (fun _ => none) (fun _ => ⟨rfl, fun _ h => h⟩) ?_
      simp
      refine LWp.iff ?_
      simp
      refine ⟨fun h8 => ?_, fun h8 => ?_⟩
      · refine LWp.skip ?_
        simp
        refine LWp.seq ?_
        refine LWp.block ?_
        refine LWp.seq ?_
        refine LWp.reg hT hW (fun | 38 => some <| .plain ⟨.d (.bool (decide ((needsOf l set[i])[k] ∈ set))), true⟩ | _ => none) (by intro d; first | exact ⟨rfl, fun _ h => h⟩ | (split <;> exact ⟨rfl, fun _ h => h⟩)) ?_
        simp [h8]
        refine ⟨Has_ok set _, ?_⟩
        refine LWp.iff ?_
        simp
        refine ⟨fun h10 => ?_, fun h10 => ?_⟩
        · refine LWp.seq ?_
          refine LWp.reg hT hW (fun _ => none) (fun _ => ⟨rfl, fun _ h => h⟩) ?_
          simp
          refine LWp.ret ?_
          simp
          refine closedB_false h2 ?_
          simp only [closedAt, Bool.and_eq_false_iff]
          refine .inr ?_
          rw [List.all_eq_false]
          exact ⟨_, List.getElem_mem h8, by simpa using h10⟩
        · refine LWp.skip ?_
          simp
          refine LWp.reg hT hW (fun _ => none) (fun _ => ⟨rfl, fun _ h => h⟩) ?_
          simp
          have hk := needsOf_len (l := l) (n := set[i])
          refine ⟨by omega, ?_⟩
          refine loopQ.mk (k + 1) (Weak.to [0, 1, 5, 6, 7] [] (by decide) (by decide) (by simp [hp]) (by simp) (by simp)) ?_ ?_
          · exact ⟨h8, hi8.2.succ h8 (by simpa using h10)⟩
          · omega
      · refine LWp.exit ?_
        simp
        refine LWp.reg hT hW (fun _ => none) (fun _ => ⟨rfl, fun _ h => h⟩) ?_
        simp
        refine ⟨by omega, ?_⟩
        refine loopQ.mk (i + 1) (Weak.to [0, 1, 5] [] (by decide) (by decide) (by simp [hp]) (by simp) (by simp)) ?_ ?_
        · refine ⟨h2, hi2.2.succ h2 ?_⟩
          have hneg : ¬ findI l set[i] < 0 := by omega
          simp [closedAt, hneg]
          intro m hm
          obtain ⟨j, hj, rfl⟩ := List.getElem_of_mem hm
          have := hi8.2 j hj (by omega)
          simpa using this
        · omega
  · refine LWp.exit ?_
    simp
    refine LWp.seq ?_
    refine LWp.reg hT hW (fun _ => none) (fun _ => ⟨rfl, fun _ h => h⟩) ?_
    simp
    refine LWp.ret ?_
    simp
    exact closedB_true hi2.2 h2

/-- culprit/culpritref22.Closure -/
theorem Closure_ok (l : List Ed) (set : List Nm) (hn : (allNeeds l).length ≤ 1000) (hs : set.length ≤ 200) : Ok Tryz.prog 18 [edsD l, nmsD set] ⟨.tup [.d (nmsD (closureV l set).1), .d (I64 (closureV l set).2)], false⟩ := by
  refine Ok.two Tryz.func18 (by kernel_rfl) (c := _) rfl Tryz.ntmps18 (by simp) Tryz.results18 rfl fun w0 X hp => ?_
  refine LWp.seq ?_
  refine LWp.reg hT hW (fun _ => none) (fun _ => ⟨rfl, fun _ h => h⟩) ?_
  simp
  refine LWp.seq ?_
  refine LWp.reg hT hW (fun _ => none) (fun _ => ⟨rfl, fun _ h => h⟩) ?_
  simp
  refine ⟨by omega, ?_⟩
  refine LWp.seq ?_
  refine LWp.seq ?_
  refine LWp.reg hT hW (fun _ => none) (fun _ => ⟨rfl, fun _ h => h⟩) ?_
  simp
  refine LWp.block ?_
  refine LWp.loopW (ι := Nat × List Nm) (fun ⟨i, out⟩ => mkEnv [(0, .d (edsD l)), (1, .d (nmsD set)), (6, .ow 6 0 out.length), (7, .d (I64 i))]) (fun ⟨i, out⟩ => mkObs [(6, .row false 2 (out.map Nm.d))]) (fun ⟨i, out⟩ => i ≤ set.length ∧ out.length ≤ set.length + i * 2000 ∧ ∀ x, x ∈ out ↔ x ∈ set ++ (set.take i).flatMap (aboveL l)) (fun ⟨i, out⟩ => set.length - i) (0, set) (Weak.to [0, 1, 6, 7] [(10, 6)] (by decide) (by decide) (by simp [hp]) (by simp) (by simp)) (by simp) fun ⟨i, out⟩ hi3 => ?_
  refine LWp.seq ?_
  refine LWp.seq ?_
  refine LWp.reg hT hW (fun _ => none) (fun _ => ⟨rfl, fun _ h => h⟩) ?_
  simp
  refine LWp.iff ?_
  simp
  refine ⟨fun h3 => ?_, fun h3 => ?_⟩
  · refine LWp.skip ?_
    simp
    refine LWp.seq ?_
    refine LWp.block ?_
    obtain ⟨q1, q2, q3⟩ := hi3
    have hip : i * 2000 ≤ set.length * 2000 := Nat.mul_le_mul_right _ q1
    have hab := aboveL_len l set[i]
    refine LWp.regRel hT hW 23 (fun r => (∃ o : List Nm, IsAbove l set[i] o ∧ r.v = .d (nmsD o)) ∧ r.fresh = true) true ⟨.d (nmsD (aboveL l set[i])), true⟩ ⟨⟨⟨aboveL l set[i], ⟨fun x => mem_aboveL, by omega⟩, rfl⟩, rfl⟩, rfl⟩ (fun | 99 => none | _ => none) (by intro d; first | exact ⟨rfl, fun _ h => h⟩ | (split <;> exact ⟨rfl, fun _ h => h⟩)) (by kernel_rfl) fun r5 hr5 => ?_
    obtain ⟨v1, f1⟩ := r5
    obtain ⟨⟨o, ho, hv⟩, hf⟩ := hr5
    dsimp only at hv hf
    subst hv; subst hf
    have hol := ho.2
    simp [h3]
    refine ⟨⟨Above_ok l set[i] (by omega), by omega⟩, ?_⟩
    refine LWp.reg hT hW (fun _ => none) (fun _ => ⟨rfl, fun _ h => h⟩) ?_
    simp
    refine ⟨by omega, ?_⟩
    refine loopQ.mk (i + 1, out ++ o) (Weak.to [0, 1, 6, 7] [(24, 6)] (by decide) (by decide) (by simp [hp]) (by simp) (by simp)) ?_ ?_
    · refine ⟨h3, ?_, fun x => ?_⟩
      · have := ho.2
        simp only [List.length_append, Nat.add_mul]; omega
      · have e : set ++ (set.take (i + 1)).flatMap (aboveL l) = (set ++ (set.take i).flatMap (aboveL l)) ++ aboveL l set[i] := by
          rw [List.take_succ_eq_append_getElem h3, List.flatMap_append]; simp
        have h5 : x ∈ out ++ o ↔ x ∈ set ++ (set.take (i + 1)).flatMap (aboveL l) := by
          rw [e, List.mem_append, List.mem_append (s := set ++ _), q3 x, ho.1 x, mem_aboveL]
        simpa using h5
    · omega
  · refine LWp.exit ?_
    simp
    refine LWp.seq ?_
    refine LWp.seq ?_
    obtain ⟨q1, q2, q3⟩ := hi3
    have hi' : i = set.length := by omega
    rw [hi', List.take_length] at q3
    have hcl : closedB l out = closedB l (set ++ set.flatMap (aboveL l)) := closedB_mem q3
    have hso : sortN out = sortN (set ++ set.flatMap (aboveL l)) := sortN_mem q3
    have hil : i * 2000 ≤ 200 * 2000 := Nat.mul_le_mul_right _ (by omega)
    refine LWp.reg hT hW (fun | 27 => some <| .plain ⟨.d (.bool (closedB l out)), true⟩ | _ => none) (by intro d; first | exact ⟨rfl, fun _ h => h⟩ | (split <;> exact ⟨rfl, fun _ h => h⟩)) ?_
    simp
    refine ⟨Closed_ok l out (by omega) (by omega), ?_⟩
    refine LWp.iff ?_
    simp
    refine ⟨fun h6 => ?_, fun h6 => ?_⟩
    · refine LWp.seq ?_
      refine LWp.reg hT hW (fun _ => none) (fun _ => ⟨rfl, fun _ h => h⟩) ?_
      simp
      refine LWp.ret ?_
      have e : closureV l set = ([], 6) := by unfold closureV; rw [← hcl, if_pos (by simpa using h6)]
      simp [e]
    · refine LWp.skip ?_
      simp
      refine LWp.seq ?_
      refine LWp.reg hT hW (fun | 30 => some <| .plain ⟨.d (nmsD (sortN out)), true⟩ | _ => none) (by intro d; first | exact ⟨rfl, fun _ h => h⟩ | (split <;> exact ⟨rfl, fun _ h => h⟩)) ?_
      simp
      refine ⟨Sort_ok out (by omega), ?_⟩
      refine LWp.ret ?_
      have e : closureV l set = (sortN out, 0) := by unfold closureV; rw [← hcl, ← hso, if_neg (by simpa using h6)]
      simp [e]

end Go.Eng
