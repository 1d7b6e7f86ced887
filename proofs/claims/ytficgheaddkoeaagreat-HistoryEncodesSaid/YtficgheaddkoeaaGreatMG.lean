/-
  Texts of the proofs of this seat, part 7. No condition.
-/
import Derived.Test.YtficgheaddkoeaaGreatMF
set_option linter.unusedVariables false
set_option linter.unusedSimpArgs false
namespace Go.Eng
open Go.Proofs
attribute [local simp] runL stepL evalG evalOp opLV constLV putEnv dstOk upd upds Res.plain Res.cond Res.fail evalBin evalUn seqQ blockQ argsEnv lookL lookH RetIs memless freshL evalPick evalMin bval bok evalLen evalIn strip whenC guardOps guardC slotsOf
  runM foldS stepI stepM maskE wrIn lk renO lookN evalCall evalCallee optAll resLV resObj retLV retObj retsLV retsObj evalLoad evalIndexAddr evalField solid cellsD_agg cellsD_int cellsD_bool cellsD_str cellsD_sl cellsD_ro cellsD_fn cellsL_agg cellsL_dagg cellsL_int cellsL_bool cellsL_str cellsL_sl cellsL_fn cellsL_ow cellsL_bx cellsL_lfn cellsL_nl takeL takeD mkAgg allD eqD eqDs kindsAre kindIs LObj.live TK.isNone TK.agg TK.isBool TK.isStr TK.isStruct Op.operands Call.operands
  evalBuildSlice evalAppend elemsOf evalStore evalBuild fillL lookupF putL evalSlice bound evalConv elemsS freezes frozen loadR
  mkEnv_at mkObs_at close_d close_agg close_ow close_bx close_fn close_nl touch_d touch_agg touch_ow touch_bx touch_fn touch_nl ren_d ren_agg ren_bx ren_rp ren_ow ren_fn ren_nl ren_junk retQ_ret retQ2_ret condQ_bool Nm.d Df.d Ed.d nmsD dfsD strsD edsD retC_ret nm_eq df_eq take_map_len take_map_app
  nm_t nm_d nm_td df_t df_d df_td str_t str_d str_td ed_t ed_d ed_td
  evalAppendIn evalBuildSliceC evalCopyC shortL evalApart evalAppendC evalAppendZ evalAppendG evalCapC isOc TK.isInt close_oc touch_oc ren_oc cellsL_oc evalCut evalClear evalCopy evalMake evalWrap evalCap evalNil isNilC lenL isInp gorc gorc2
  mapOf findD keyEq keyOk evalMakeMap evalRange zeroD zeroDV argsG shutG outN lenv retG0_ret retG0_normal retG1_ret retGR_ret renO close_mp touch_mp ren_mp optAll_d optAll_d' touch_ds cellsL_mp cellsD_mp cellsL_dmp
  evalMapSet evalPtr TK.isPtr evalToArr firstL retN_ret retsQ rvarL close_bm touch_bm ren_bm cellsD_bm cellsL_bm cellsL_lbm
theorem apart_nm : Apart Tryz.prog T 167 := ⟨_, 28, 4, 31, Tryz.func167, by kernel_rfl, by kernel_rfl, by kernel_rfl, by kernel_rfl, by simp, by simp⟩
def putV (A V : List DV) (i j : Nat) : List DV := A.take i ++ (V ++ A.drop j)
def RepR (A B V : List DV) (i j : Nat) (fin : List (Nat × LObj)) (ret : LV) : Prop :=
  (∃ L, L.length = A.length + B.length ∧ (∀ y ∈ L, (cellsD y).length = 1) ∧ i + V.length + (A.length - j) ≤ A.length + B.length ∧ L.take (i + V.length + (A.length - j)) = putV A V i j ∧ fin = [(0, .row false 1 L), (3, .row false 1 V)] ∧ ret = .oc 0 0 (i + V.length + (A.length - j)) (A.length + B.length)) ∨
  (fin = [(0, .row false 1 (A ++ B)), (3, .row false 1 V), (9, .row false 1 (putV A V i j))] ∧ ret = .ow 9 0 (i + V.length + (A.length - j)))
theorem putL_take {L V : List DV} {k q : Nat} (hk : k + V.length ≤ L.length) (hq : q = k + V.length) : (putL k L V).take q = L.take k ++ V := by
  subst hq
  unfold putL
  have : (L.take k ++ V).length = k + V.length := by simp; omega
  rw [List.take_append_of_le_length (by omega), List.take_of_length_le (by omega)]
theorem putL_take_le {L V : List DV} {k q : Nat} (hq : q ≤ k) (hk : k ≤ L.length) : (putL k L V).take q = L.take q := by
  unfold putL
  have : (L.take k).length = k := by simp; omega
  rw [List.append_assoc, List.take_append_of_le_length (by omega), List.take_take, show min q k = q by omega]
theorem zero_one {n : Nat} : ∀ y ∈ List.replicate n (DV.sl []), (cellsD y).length = 1 := fun y hy => by rw [(List.mem_replicate.1 hy).2]; rfl
theorem ReplaceA_ok (A B V : List DV) (i : Nat) (hi : i < A.length) (hV : 0 < V.length) (hA : A.length ≤ 1000000) (hVl : V.length ≤ 1000000) (hB : A.length + B.length ≤ maxLen) (hs : ∀ y ∈ A ++ B, (cellsD y).length = 1) (hv : ∀ y ∈ V, (cellsD y).length = 1) (hc : i + V.length ≤ A.length + B.length) : OkGR Tryz.prog 136 [.oc 0 0 A.length (A.length + B.length), .d (I64 i), .d (I64 A.length), .oc 3 0 V.length V.length] [(0, .row false 1 (A ++ B)), (3, .row false 1 V)] (RepR A B V i A.length) := by
  refine OkGR.one Tryz.func136 (by kernel_rfl) (c := _) rfl Tryz.ntmps136 (by simp) Tryz.results136 fun w0 X hp => ?_
  refine LWp.seq ?_
  refine LWp.rz hT hW ?_
  simp
  refine LWp.seq ?_
  refine LWp.rz hT hW ?_
  simp
  refine ⟨by omega, ?_⟩
  refine LWp.seq ?_
  refine LWp.seq ?_
  refine LWp.rz hT hW ?_
  simp [(show ¬ ((i : Int) = (A.length : Int)) by omega)]
  refine LWp.iff ?_
  simp
  refine LWp.skip ?_
  simp
  refine LWp.seq ?_
  refine LWp.seq ?_
  refine LWp.rz hT hW ?_
  simp
  refine LWp.iff ?_
  simp
  refine LWp.seq ?_
  refine LWp.rz hT hW ?_
  simp [hc, all_one hv]
  refine ⟨by omega, ?_⟩
  refine LWp.seq ?_
  refine LWp.seq ?_
  refine LWp.rz hT hW ?_
  simp
  refine LWp.iff ?_
  simp
  refine ⟨fun h6 => ?_, fun h6 => ?_⟩
  · refine LWp.rz hT hW ?_
    simp [(show ((A.length : Int) - ((i : Int) + (V.length : Int))).toNat = A.length - (i + V.length) by omega), (show ((i : Int) + (V.length : Int)).toNat = i + V.length by omega)]
    refine ⟨by omega, ?_⟩
    refine LWp.seq ?_
    refine LWp.rz hT hW ?_
    simp
    refine LWp.ret ?_
    have hl0 : (putL i (A ++ B) V).length = A.length + B.length := by rw [putL_len (by simp; omega)]; simp
    have hl1 : (i + V.length) + (List.replicate (A.length - (i + V.length)) (DV.sl [])).length ≤ (putL i (A ++ B) V).length := by rw [hl0]; simp; omega
    simp
    refine ⟨_, _, .inl ⟨putL (i + V.length) (putL i (A ++ B) V) (List.replicate (A.length - (i + V.length)) (.sl [])), by rw [putL_len hl1, hl0], putL_mem (putL_mem hs hv) zero_one, by omega, ?_, rfl, rfl⟩, Weak.to [8] [(0, 0), (3, 3)] (by decide) (by decide) (by simp [hp]) ?_ ?_⟩
    · rw [putL_take_le (by omega) (by omega), putL_take (by simp; omega) (by omega), List.take_append_of_le_length (by omega)]
      simp [putV]
    · simp
    · simp [putL]
  · refine LWp.skip ?_
    simp
    refine LWp.seq ?_
    refine LWp.rz hT hW ?_
    simp
    refine LWp.ret ?_
    simp
    refine ⟨_, _, .inl ⟨putL i (A ++ B) V, by rw [putL_len (by simp; omega)]; simp, putL_mem hs hv, by omega, ?_, rfl, rfl⟩, Weak.to [8] [(0, 0), (3, 3)] (by decide) (by decide) (by simp [hp]) ?_ ?_⟩
    · rw [putL_take (by simp; omega) (by omega), List.take_append_of_le_length (by omega)]
      simp [putV]
    · simp
    · simp [putL]
theorem ReplaceB_ok (A B V : List DV) (i : Nat) (hi : i < A.length) (hV : 0 < V.length) (hA : A.length ≤ 1000000) (hVl : V.length ≤ 1000000) (hB : A.length + B.length ≤ maxLen) (hs : ∀ y ∈ A ++ B, (cellsD y).length = 1) (hv : ∀ y ∈ V, (cellsD y).length = 1) (hc : ¬ (i + V.length ≤ A.length + B.length)) : OkGR Tryz.prog 136 [.oc 0 0 A.length (A.length + B.length), .d (I64 i), .d (I64 A.length), .oc 3 0 V.length V.length] [(0, .row false 1 (A ++ B)), (3, .row false 1 V)] (RepR A B V i A.length) := by
  refine OkGR.one Tryz.func136 (by kernel_rfl) (c := _) rfl Tryz.ntmps136 (by simp) Tryz.results136 fun w0 X hp => ?_
  refine LWp.seq ?_
  refine LWp.rz hT hW ?_
  simp
  refine LWp.seq ?_
  refine LWp.rz hT hW ?_
  simp
  refine ⟨by omega, ?_⟩
  refine LWp.seq ?_
  refine LWp.seq ?_
  refine LWp.rz hT hW ?_
  simp [(show ¬ ((i : Int) = (A.length : Int)) by omega)]
  refine LWp.iff ?_
  simp
  refine LWp.skip ?_
  simp
  refine LWp.seq ?_
  refine LWp.seq ?_
  refine LWp.rz hT hW ?_
  simp
  refine LWp.iff ?_
  simp
  refine LWp.seq ?_
  refine LWp.rz hT hW ?_
  simp [hc, all_one hv]
  refine ⟨by omega, ?_⟩
  refine LWp.seq ?_
  refine LWp.seq ?_
  refine LWp.rz hT hW ?_
  simp [(show ¬ ((i : Int) + (V.length : Int) < (A.length : Int)) by omega)]
  refine LWp.iff ?_
  simp
  refine LWp.skip ?_
  simp
  refine LWp.seq ?_
  refine LWp.rz hT hW ?_
  simp
  refine LWp.ret ?_
  simp
  refine ⟨_, _, .inr ⟨rfl, rfl⟩, Weak.to [8] [(0, 0), (3, 3), (34, 9)] (by decide) (by decide) (by simp [hp]) ?_ ?_⟩
  · simp
  · simp [putV, List.take_append_of_le_length (show i ≤ A.length by omega)]
theorem part_drop {A B : List DV} {j : Nat} (hj : j ≤ A.length) : List.take (A.length - j) (List.drop j (A ++ B)) = A.drop j := by
  rw [List.drop_append_of_le_length hj, List.take_append_of_le_length (by simp), List.take_of_length_le (by simp)]
theorem two_put {L V W : List DV} {i m k q : Nat} (hm : m = i + V.length) (hk : m + W.length ≤ L.length) (hq : q = m + W.length) : (putL m (putL i L V) W).take q = L.take i ++ (V ++ W) := by
  subst hm
  have hl : (putL i L V).length = L.length := putL_len (by omega)
  rw [putL_take (by omega) hq, putL_take (by omega) rfl, List.append_assoc]
theorem two_put' {L V W : List DV} {i m q : Nat} (hm : m = i + V.length) (hk : m + W.length ≤ L.length) (hq : q = m + W.length) : (putL i (putL m L W) V).take q = L.take i ++ (V ++ W) := by
  subst hm
  have hl : (putL (i + V.length) L W).length = L.length := putL_len (by omega)
  apply List.ext_getElem?
  intro r
  have e1 : (L.take i).length = i := by simp; omega
  rw [List.getElem?_take, putL_get (by omega), putL_get (by omega)]
  by_cases h1 : r < i
  · rw [if_pos (by omega), if_pos h1, if_pos (by omega), List.getElem?_append_left (by omega), List.getElem?_take, if_pos h1]
  · rw [List.getElem?_append_right (by omega), e1]
    by_cases h2 : r < i + V.length
    · rw [if_pos (by omega), if_neg h1, if_pos h2, List.getElem?_append_left (by omega)]
    · rw [List.getElem?_append_right (by omega), if_neg h1, if_neg h2, if_neg h2]
      by_cases h3 : r < q
      · rw [if_pos h3, if_pos (by omega)]; congr 1; omega
      · rw [if_neg h3, List.getElem?_eq_none (by omega)]
theorem drop_put {L V : List DV} {i j : Nat} (h : i + V.length ≤ j) (hl : i ≤ L.length) : (putL i L V).drop j = L.drop j := by
  unfold putL
  have e : (L.take i ++ V).length = i + V.length := by simp; omega
  rw [List.drop_append, List.drop_of_length_le (by omega), List.nil_append, e, List.drop_drop]
  congr 1; omega
theorem ReplaceC_ok (A B V : List DV) (i j : Nat) (hij : i < j) (hj : j < A.length) (hV : 0 < V.length) (hA : A.length ≤ 1000000) (hVl : V.length ≤ 1000000) (hB : A.length + B.length ≤ maxLen) (hs : ∀ y ∈ A ++ B, (cellsD y).length = 1) (hv : ∀ y ∈ V, (cellsD y).length = 1) (hc : A.length + B.length < i + V.length + (A.length - j)) : OkGR Tryz.prog 136 [.oc 0 0 A.length (A.length + B.length), .d (I64 i), .d (I64 j), .oc 3 0 V.length V.length] [(0, .row false 1 (A ++ B)), (3, .row false 1 V)] (RepR A B V i j) := by
  refine OkGR.one Tryz.func136 (by kernel_rfl) (c := _) rfl Tryz.ntmps136 (by simp) Tryz.results136 fun w0 X hp => ?_
  refine LWp.seq ?_
  refine LWp.rz hT hW ?_
  simp
  refine LWp.seq ?_
  refine LWp.rz hT hW ?_
  simp
  refine ⟨by omega, ?_⟩
  refine LWp.seq ?_
  refine LWp.seq ?_
  refine LWp.rz hT hW ?_
  simp [(show ¬ ((i : Int) = (j : Int)) by omega)]
  refine LWp.iff ?_
  simp
  refine LWp.skip ?_
  simp
  refine LWp.seq ?_
  refine LWp.seq ?_
  refine LWp.rz hT hW ?_
  simp [(show ¬ ((j : Int) = (A.length : Int)) by omega)]
  refine LWp.iff ?_
  simp
  refine LWp.skip ?_
  simp
  refine LWp.seq ?_
  obtain ⟨tot, htot⟩ : ∃ tot, tot = i + V.length + (A.length - j) := ⟨_, rfl⟩
  have htI : (i : Int) + (V.length : Int) + ((A.length - j : Nat) : Int) = (tot : Int) := by omega
  have him : ((i : Int) + (V.length : Int)).toNat = i + V.length := by omega
  have htm : ((tot : Int) - ((i : Int) + (V.length : Int))).toNat = A.length - j := by omega
  have hmn : min (A.length - j) (A.length + B.length - j) = A.length - j := by omega
  refine LWp.regAny hT hW hMixed (lk [[],[],[0,1],[0,1,2],[],[4],[0,1,2,3,4,5],[],[],[7,8],[7,8,9],[0,1,2,3,4,5,6,7,8,9,10],[0,1,2,3,4,5,6,7,8,9,10,11]]) (lk [[],[],[],[],[],[],[],[],[],[],[],[],[]]) (lk [[],[],[],[],[],[],[],[],[],[],[],[],[]]) (by kernel_rfl) (fun _ => none) (fun _ => ⟨rfl, fun _ h => h⟩) ?_
  simp [(show ((A.length : Int) - (j : Int)).toNat = A.length - j by omega), htI]
  refine ⟨by omega, ?_⟩
  refine LWp.seq ?_
  refine LWp.seq ?_
  refine LWp.rz hT hW ?_
  simp [(show (A.length : Int) + (B.length : Int) < (tot : Int) by omega)]
  refine LWp.iff ?_
  simp
  refine LWp.seq ?_
  refine LWp.rz hT hW ?_
  simp [(show ((tot : Int) - (i : Int)).toNat = V.length + (A.length - j) by omega), (show i + (V.length + (A.length - j)) = tot by omega)]
  refine ⟨by omega, ?_⟩
  refine LWp.seq ?_
  refine LWp.rz hT hW ?_
  simp [all_one hv]
  refine ⟨by omega, ?_⟩
  refine LWp.seq ?_
  refine LWp.regAny hT hW hMixed (lk [[],[],[],[2],[1,2,3],[0,1,2,3,4],[],[],[6,7],[0,1,2,3,4,5,6,7,8]]) (lk [[],[],[],[],[],[],[],[],[],[]]) (lk [[],[],[],[],[],[],[],[],[],[67]]) (by kernel_rfl) (fun _ => none) (fun _ => ⟨rfl, fun _ h => h⟩) ?_
  simp [part_one hs, htm, him, hmn]
  refine ⟨by omega, ?_⟩
  refine LWp.seq ?_
  refine LWp.rz hT hW ?_
  simp
  refine LWp.ret ?_
  have e : putL (i + V.length) (putL i (List.take i (A ++ B) ++ List.replicate (V.length + (A.length - j)) (.sl [])) V) (List.take (A.length - j) (List.drop j (A ++ B))) = putV A V i j := by
    have hl : (putL (i + V.length) (putL i (List.take i (A ++ B) ++ List.replicate (V.length + (A.length - j)) (.sl [])) V) (List.take (A.length - j) (List.drop j (A ++ B)))).length = i + V.length + (A.length - j) := by
      have h1 : (putL i (List.take i (A ++ B) ++ List.replicate (V.length + (A.length - j)) (.sl [])) V).length = i + V.length + (A.length - j) := by rw [putL_len (by simp; omega)]; simp; omega
      rw [putL_len (by rw [h1]; simp; omega), h1]
    rw [← List.take_of_length_le (Nat.le_of_eq hl), two_put (k := 0) rfl (by simp; omega) (by simp; omega), part_drop (by omega)]
    rw [List.take_append_of_le_length (by simp; omega), List.take_take, Nat.min_self, List.take_append_of_le_length (by omega)]
    rfl
  simp
  refine ⟨_, _, .inr ⟨rfl, rfl⟩, Weak.to [8] [(0, 0), (3, 3), (67, 9)] (by decide) (by decide) (by simp [hp]) ?_ ?_⟩
  · simp [htot]
  · rw [← e]
    simp [putL, htm, him, hmn]
theorem ReplaceD_ok (A B V : List DV) (i j : Nat) (hij : i + V.length ≤ j) (hj : j < A.length) (hV : 0 < V.length) (hA : A.length ≤ 1000000) (hVl : V.length ≤ 1000000) (hB : A.length + B.length ≤ maxLen) (hs : ∀ y ∈ A ++ B, (cellsD y).length = 1) (hv : ∀ y ∈ V, (cellsD y).length = 1) : OkGR Tryz.prog 136 [.oc 0 0 A.length (A.length + B.length), .d (I64 i), .d (I64 j), .oc 3 0 V.length V.length] [(0, .row false 1 (A ++ B)), (3, .row false 1 V)] (RepR A B V i j) := by
  refine OkGR.one Tryz.func136 (by kernel_rfl) (c := _) rfl Tryz.ntmps136 (by simp) Tryz.results136 fun w0 X hp => ?_
  refine LWp.seq ?_
  refine LWp.rz hT hW ?_
  simp
  refine LWp.seq ?_
  refine LWp.rz hT hW ?_
  simp
  refine ⟨by omega, ?_⟩
  refine LWp.seq ?_
  refine LWp.seq ?_
  refine LWp.rz hT hW ?_
  simp [(show ¬ ((i : Int) = (j : Int)) by omega)]
  refine LWp.iff ?_
  simp
  refine LWp.skip ?_
  simp
  refine LWp.seq ?_
  refine LWp.seq ?_
  refine LWp.rz hT hW ?_
  simp [(show ¬ ((j : Int) = (A.length : Int)) by omega)]
  refine LWp.iff ?_
  simp
  refine LWp.skip ?_
  simp
  refine LWp.seq ?_
  obtain ⟨tot, htot⟩ : ∃ tot, tot = i + V.length + (A.length - j) := ⟨_, rfl⟩
  have htI : (i : Int) + (V.length : Int) + ((A.length - j : Nat) : Int) = (tot : Int) := by omega
  have him : ((i : Int) + (V.length : Int)).toNat = i + V.length := by omega
  have htm : ((tot : Int) - ((i : Int) + (V.length : Int))).toNat = A.length - j := by omega
  have hmn : min (A.length - j) (A.length + B.length - j) = A.length - j := by omega
  refine LWp.regAny hT hW hMixed (lk [[],[],[0,1],[0,1,2],[],[4],[0,1,2,3,4,5],[],[],[7,8],[7,8,9],[0,1,2,3,4,5,6,7,8,9,10],[0,1,2,3,4,5,6,7,8,9,10,11]]) (lk [[],[],[],[],[],[],[],[],[],[],[],[],[]]) (lk [[],[],[],[],[],[],[],[],[],[],[],[],[]]) (by kernel_rfl) (fun _ => none) (fun _ => ⟨rfl, fun _ h => h⟩) ?_
  simp [(show ((A.length : Int) - (j : Int)).toNat = A.length - j by omega), htI]
  refine ⟨by omega, ?_⟩
  refine LWp.seq ?_
  refine LWp.seq ?_
  refine LWp.rz hT hW ?_
  simp [(show ¬ ((A.length : Int) + (B.length : Int) < (tot : Int)) by omega)]
  refine LWp.iff ?_
  simp
  refine LWp.skip ?_
  simp
  refine LWp.seq ?_
  refine LWp.rz hT hW ?_
  simp
  refine ⟨by omega, ?_⟩
  refine LWp.seq ?_
  refine LWp.seq ?_
  refine LWp.rz hT hW ?_
  simp [(show (i : Int) + (V.length : Int) ≤ (j : Int) by omega)]
  refine ⟨by omega, ?_⟩
  refine LWp.iff ?_
  simp
  refine LWp.seq ?_
  refine LWp.rz hT hW ?_
  simp [all_one hv, (show min V.length (tot - i) = V.length by omega)]
  refine ⟨by omega, ?_⟩
  refine LWp.seq ?_
  have hsL := putL_mem (off := i) hs hv
  unfold putL at hsL
  rw [List.append_assoc] at hsL
  refine LWp.regAny hT hW hMixed (lk [[],[],[],[2],[1,2,3],[0,1,2,3,4],[],[],[6,7],[0,1,2,3,4,5,6,7,8]]) (lk [[],[],[],[],[],[],[],[],[],[]]) (lk [[],[],[],[],[],[],[],[],[],[0]]) (by kernel_rfl) (fun _ => none) (fun _ => ⟨rfl, fun _ h => h⟩) ?_
  simp [htm, him, part_one hsL, hmn]
  refine ⟨by omega, ?_⟩
  refine LWp.seq ?_
  refine LWp.rz hT hW ?_
  simp [(show ((A.length : Int) - (tot : Int)).toNat = A.length - tot by omega)]
  refine ⟨by omega, ?_⟩
  refine LWp.seq ?_
  refine LWp.rz hT hW ?_
  simp
  refine LWp.ret ?_
  have h1 : (putL i (A ++ B) V).length = A.length + B.length := by rw [putL_len (by simp; omega)]; simp
  have hw : List.take (A.length - j) (List.drop j (putL i (A ++ B) V)) = A.drop j := by rw [drop_put (by omega) (by simp; omega), part_drop (by omega)]
  have h2 : (putL (i + V.length) (putL i (A ++ B) V) (List.take (A.length - j) (List.drop j (putL i (A ++ B) V)))).length = A.length + B.length := by rw [putL_len (by rw [hw, h1]; simp; omega), h1]
  have h3 : tot + (List.replicate (A.length - tot) (DV.sl [])).length ≤ (putL (i + V.length) (putL i (A ++ B) V) (List.take (A.length - j) (List.drop j (putL i (A ++ B) V)))).length := by rw [h2]; simp; omega
  have hsL := putL_mem (off := i) hs hv
  simp
  refine ⟨_, _, .inl ⟨putL tot (putL (i + V.length) (putL i (A ++ B) V) (List.take (A.length - j) (List.drop j (putL i (A ++ B) V)))) (List.replicate (A.length - tot) (.sl [])), by rw [putL_len h3, h2], putL_mem (putL_mem hsL fun y hy => hsL y (mem_part hy)) zero_one, by omega, ?_, rfl, rfl⟩, Weak.to [8] [(0, 0), (3, 3)] (by decide) (by decide) (by simp [hp]) ?_ ?_⟩
  · rw [putL_take_le (by omega) (by omega), hw, two_put (k := 0) rfl (by simp; omega) (by simp <;> omega), List.take_append_of_le_length (by omega)]
    rfl
  · simp [htot]
  · simp [putL, htm, him, hmn]
theorem ReplaceE_ok (A B V : List DV) (i j : Nat) (hij : i < j) (hij2 : j < i + V.length) (hj : j < A.length) (hV : 0 < V.length) (hA : A.length ≤ 1000000) (hVl : V.length ≤ 1000000) (hB : A.length + B.length ≤ maxLen) (hs : ∀ y ∈ A ++ B, (cellsD y).length = 1) (hv : ∀ y ∈ V, (cellsD y).length = 1) (hc : i + V.length + (A.length - j) ≤ A.length + B.length) : OkGR Tryz.prog 136 [.oc 0 0 A.length (A.length + B.length), .d (I64 i), .d (I64 j), .oc 3 0 V.length V.length] [(0, .row false 1 (A ++ B)), (3, .row false 1 V)] (RepR A B V i j) := by
  refine OkGR.one Tryz.func136 (by kernel_rfl) (c := _) rfl Tryz.ntmps136 (by simp) Tryz.results136 fun w0 X hp => ?_
  refine LWp.seq ?_
  refine LWp.rz hT hW ?_
  simp
  refine LWp.seq ?_
  refine LWp.rz hT hW ?_
  simp
  refine ⟨by omega, ?_⟩
  refine LWp.seq ?_
  refine LWp.seq ?_
  refine LWp.rz hT hW ?_
  simp [(show ¬ ((i : Int) = (j : Int)) by omega)]
  refine LWp.iff ?_
  simp
  refine LWp.skip ?_
  simp
  refine LWp.seq ?_
  refine LWp.seq ?_
  refine LWp.rz hT hW ?_
  simp [(show ¬ ((j : Int) = (A.length : Int)) by omega)]
  refine LWp.iff ?_
  simp
  refine LWp.skip ?_
  simp
  refine LWp.seq ?_
  obtain ⟨tot, htot⟩ : ∃ tot, tot = i + V.length + (A.length - j) := ⟨_, rfl⟩
  have htI : (i : Int) + (V.length : Int) + ((A.length - j : Nat) : Int) = (tot : Int) := by omega
  have him : ((i : Int) + (V.length : Int)).toNat = i + V.length := by omega
  have htm : ((tot : Int) - ((i : Int) + (V.length : Int))).toNat = A.length - j := by omega
  have hmn : min (A.length - j) (A.length + B.length - j) = A.length - j := by omega
  refine LWp.regAny hT hW hMixed (lk [[],[],[0,1],[0,1,2],[],[4],[0,1,2,3,4,5],[],[],[7,8],[7,8,9],[0,1,2,3,4,5,6,7,8,9,10],[0,1,2,3,4,5,6,7,8,9,10,11]]) (lk [[],[],[],[],[],[],[],[],[],[],[],[],[]]) (lk [[],[],[],[],[],[],[],[],[],[],[],[],[]]) (by kernel_rfl) (fun _ => none) (fun _ => ⟨rfl, fun _ h => h⟩) ?_
  simp [(show ((A.length : Int) - (j : Int)).toNat = A.length - j by omega), htI]
  refine ⟨by omega, ?_⟩
  refine LWp.seq ?_
  refine LWp.seq ?_
  refine LWp.rz hT hW ?_
  simp [(show ¬ ((A.length : Int) + (B.length : Int) < (tot : Int)) by omega)]
  refine LWp.iff ?_
  simp
  refine LWp.skip ?_
  simp
  refine LWp.seq ?_
  refine LWp.rz hT hW ?_
  simp
  refine ⟨by omega, ?_⟩
  refine LWp.seq ?_
  refine LWp.seq ?_
  refine LWp.rz hT hW ?_
  simp [(show ¬ ((i : Int) + (V.length : Int) ≤ (j : Int)) by omega)]
  refine ⟨by omega, ?_⟩
  refine LWp.iff ?_
  simp
  refine LWp.skip ?_
  simp
  refine LWp.seq ?_
  refine LWp.seq ?_
  refine LWp.ro hT hW (fun | 119 => some .inp | _ => none) ?_
  simp [him, htm]
  refine ⟨⟨by omega, by omega, hV, apart_nm⟩, ?_⟩
  refine LWp.iff ?_
  simp
  refine LWp.seq ?_
  refine LWp.regAny hT hW hMixed (lk [[],[],[],[2],[1,2,3],[0,1,2,3,4],[],[],[6,7],[0,1,2,3,4,5,6,7,8]]) (lk [[],[],[],[],[],[],[],[],[],[]]) (lk [[],[],[],[],[],[],[],[],[],[0]]) (by kernel_rfl) (fun _ => none) (fun _ => ⟨rfl, fun _ h => h⟩) ?_
  simp [htm, him, part_one hs, hmn]
  refine ⟨by omega, ?_⟩
  refine LWp.seq ?_
  refine LWp.rz hT hW ?_
  simp [all_one hv, (show min V.length (tot - i) = V.length by omega)]
  refine ⟨by omega, ?_⟩
  refine LWp.seq ?_
  refine LWp.rz hT hW ?_
  simp
  refine LWp.ret ?_
  simp
  refine ⟨_, _, .inl ⟨putL i (putL (i + V.length) (A ++ B) (List.take (A.length - j) (List.drop j (A ++ B)))) V, ?_, ?_, by omega, ?_, rfl, rfl⟩, Weak.to [8] [(0, 0), (3, 3)] (by decide) (by decide) (by simp [hp]) ?_ ?_⟩
  · have h1 : (putL (i + V.length) (A ++ B) (List.take (A.length - j) (List.drop j (A ++ B)))).length = A.length + B.length := by rw [putL_len (by simp; omega)]; simp
    rw [putL_len (by omega), h1]
  · exact putL_mem (putL_mem hs fun y hy => hs y (mem_part hy)) hv
  · rw [two_put' rfl (by simp; omega) (by simp; omega), part_drop (by omega), List.take_append_of_le_length (by omega)]
    rfl
  · simp [htot]
  · simp [putL, htm, him, hmn]
open Go.Proofs
section
attribute [local simp] Res.cond
theorem Replace_ok (A B V : List DV) (i j : Nat) (hij : i < j) (hj : j ≤ A.length) (hV : 0 < V.length) (hA : A.length ≤ 1000000) (hVl : V.length ≤ 1000000) (hB : A.length + B.length ≤ maxLen) (hs : ∀ y ∈ A ++ B, (cellsD y).length = 1) (hv : ∀ y ∈ V, (cellsD y).length = 1) :
    OkGR Tryz.prog 136 [.oc 0 0 A.length (A.length + B.length), .d (I64 i), .d (I64 j), .oc 3 0 V.length V.length] [(0, .row false 1 (A ++ B)), (3, .row false 1 V)] (RepR A B V i j) := by
  rcases Nat.lt_or_ge j A.length with h | h
  · by_cases h1 : A.length + B.length < i + V.length + (A.length - j)
    · exact ReplaceC_ok A B V i j hij h hV hA hVl hB hs hv h1
    · by_cases h2 : i + V.length ≤ j
      · exact ReplaceD_ok A B V i j h2 h hV hA hVl hB hs hv
      · exact ReplaceE_ok A B V i j hij (by omega) h hV hA hVl hB hs hv (by omega)
  · have e : j = A.length := by omega
    subst e
    by_cases h1 : i + V.length ≤ A.length + B.length
    · exact ReplaceA_ok A B V i hij hV hA hVl hB hs hv h1
    · exact ReplaceB_ok A B V i hij hV hA hVl hB hs hv h1
def rowsD (h : Hs) : List DV := h.map nmsD
def actD (k a n : Int) (names : List Nm) : DV := .agg [I64 k, I64 a, I64 n, nmsD names]
def ActR (x : Hs) (fin : List (Nat × LObj)) (ret : LV) : Prop :=
  (∃ L c, c ≤ L.length ∧ (∀ y ∈ L, (cellsD y).length = 1) ∧ x.length ≤ c ∧ L.take x.length = x.map nmsD ∧ fin = [(0, .row false 1 L)] ∧ ret = .oc 0 0 x.length c) ∨
  (∃ L, fin = [(0, .row false 1 L), (9, .row false 1 (x.map nmsD))] ∧ ret = .ow 9 0 x.length)
def squashH (h : Hs) (a n : Nat) : Hs := h.take a ++ (sortN (cat ((h.drop a).take n)) :: h.drop (a + n))
def splitH (h : Hs) (a : Nat) (names : List Nm) : Hs := h.take a ++ (names :: restN (h.getD a []) names :: h.drop (a + 1))
def moveH (h : Hs) (a n : Nat) : Hs := (h.eraseIdx a).take n ++ (h.getD a [] :: (h.eraseIdx a).drop n)
def dropH (h : Hs) (a : Nat) : Hs := h.eraseIdx a
def lastH (h : Hs) (names : List Nm) : Hs := h ++ [names]
theorem rows_one {h : Hs} {z : List DV} (hz : ∀ y ∈ z, (cellsD y).length = 1) : ∀ y ∈ h.map nmsD ++ z, (cellsD y).length = 1 := fun y hy => by
  rcases List.mem_append.1 hy with hy | hy
  · obtain ⟨c, _, rfl⟩ := List.mem_map.1 hy; rfl
  · exact hz y hy
theorem rows_part {h : Hs} {z : List DV} {a n : Nat} (hn : a + n ≤ h.length) : List.take n (List.drop a (h.map nmsD ++ z)) = ((h.drop a).take n).map nmsD := by
  rw [List.drop_append_of_le_length (by simp; omega), List.take_append_of_le_length (by simp; omega), List.map_take, List.map_drop]
attribute [local simp] actD
theorem DeleteFuncNm_ok (l : List Nm) (hl : l.length ≤ 8000000000000) (p : Nm → Bool) (g : FuncId) (cs : List DV) (hg : ∀ x ∈ l, Ok Tryz.prog g (x.d :: cs) ⟨.d (.bool (p x)), true⟩) : OkG Tryz.prog 138 [.ow 0 0 l.length, .d (.fn g cs)] [(0, .row false 2 (l.map Nm.d))] [(0, .row false 2 ((l.filter fun x => !p x).map Nm.d ++ List.replicate (l.length - (l.filter fun x => !p x).length) zeroNm.d))] (.ow 0 0 (l.filter fun x => !p x).length) := by
  refine OkG.one Tryz.func138 (by kernel_rfl) (c := _) rfl Tryz.ntmps138 (by simp) Tryz.results138 fun w0 X hp => ?_
  refine LWp.seq ?_
  refine LWp.rz hT hW ?_
  simp
  refine LWp.seq ?_
  refine LWp.ro hT hW (fun | 10 => some <| .plain ⟨.d (I64 (idxI p l)), true⟩ | _ => none) ?_
  simp
  refine ⟨by simpa [nmsD] using IndexNm_ok l p g cs hg, ?_⟩
  refine LWp.seq ?_
  refine LWp.seq ?_
  refine LWp.rz hT hW ?_
  simp
  refine LWp.iff ?_
  simp
  refine ⟨fun h2 => ?_, fun h2 => ?_⟩
  · refine LWp.seq ?_
    refine LWp.rz hT hW ?_
    simp
    refine LWp.ret ?_
    simp
    refine Weak.to [4] [(0, 0)] (by decide) (by decide) (by simp [hp]) ?_ ?_
    · simp [idxI_neg h2]
    · simp [idxI_neg h2]
  · obtain ⟨k, hk, hkl, hpk, htk⟩ := idxI_cases h2
    refine LWp.skip ?_
    simp
    refine LWp.seq ?_
    refine LWp.seq ?_
    refine LWp.rz hT hW ?_
    simp [hk]
    refine ⟨by omega, ?_⟩
    refine LWp.block ?_
    refine LWp.loopW (ι := Nat × Nat × List Nm) (fun ⟨q, i, r⟩ => mkEnv [(0, .ow 0 0 l.length), (1, .d (.fn g cs)), (5, .d (I64 i)), (6, .d (I64 q))]) (fun ⟨q, i, r⟩ => mkObs [(0, .row false 2 (r.map Nm.d))]) (fun ⟨q, i, r⟩ => q ≤ l.length ∧ i < q ∧ r.length = l.length ∧ r.take i = (l.take q).filter (fun x => !p x) ∧ r.drop q = l.drop q) (fun ⟨q, i, r⟩ => l.length - q) (k + 1, k, l) (Weak.to [0, 1, 5, 6] [(0, 0)] (by decide) (by decide) (by simp [hp]) (by simp) (by simp)) (⟨hkl, by omega, rfl, htk.symm, rfl⟩) fun ⟨q, i, r⟩ hi5 => ?_
    refine LWp.seq ?_
    refine LWp.seq ?_
    refine LWp.rz hT hW ?_
    simp
    refine LWp.iff ?_
    simp
    refine ⟨fun h5 => ?_, fun h5 => ?_⟩
    · refine LWp.skip ?_
      simp
      refine LWp.seq ?_
      refine LWp.block ?_
      refine LWp.seq ?_
      obtain ⟨g1, g2, g3, g4, g5⟩ := hi5
      have e1 : r[q]'(by omega) = l[q] := drop_get g5 (by omega) (by omega) h5
      refine LWp.rz hT hW ?_
      simp [(show q < r.length by omega), e1]
      refine ⟨by omega, ?_⟩
      refine LWp.seq ?_
      refine LWp.ro hT hW (fun | 28 => some <| .plain ⟨.d (.bool (p l[q])), true⟩ | _ => none) ?_
      simp
      refine ⟨hg l[q] (List.getElem_mem h5), ?_⟩
      refine LWp.iff ?_
      simp
      refine ⟨fun h8 => ?_, fun h8 => ?_⟩
      · refine LWp.seq ?_
        refine LWp.rz hT hW ?_
        simp [(show i < r.length by omega)]
        refine ⟨by omega, ?_⟩
        refine LWp.rz hT hW ?_
        simp
        refine ⟨by omega, ?_⟩
        refine LWp.rz hT hW ?_
        simp
        refine ⟨by omega, ?_⟩
        refine loopQ.mk (q + 1, i + 1, r.set i l[q]) (Weak.to [0, 1, 5, 6] [(0, 0)] (by decide) (by decide) (by simp [hp]) (by simp) (by simp)) ?_ ?_
        · dsimp only
          refine ⟨by omega, by omega, by simp [g3], ?_, ?_⟩
          · rw [List.take_succ_eq_append_getElem (by simpa using (show i < r.length by omega)), List.getElem_set_self, List.take_set_of_le (by omega), g4, List.take_succ_eq_append_getElem h5, List.filter_append]
            simp [h8]
          · have g8 := congrArg (List.drop 1) g5
            rw [List.drop_drop, List.drop_drop] at g8
            rw [List.drop_set_of_lt (by omega), g8]
        · omega
      · refine LWp.skip ?_
        simp
        refine LWp.rz hT hW ?_
        simp
        refine ⟨by omega, ?_⟩
        refine loopQ.mk (q + 1, i, r) (Weak.to [0, 1, 5, 6] [(0, 0)] (by decide) (by decide) (by simp [hp]) (by simp) (by simp)) ?_ ?_
        · dsimp only
          refine ⟨by omega, by omega, g3, ?_, ?_⟩
          · rw [g4, List.take_succ_eq_append_getElem h5, List.filter_append]
            simp [h8]
          · have g8 := congrArg (List.drop 1) g5
            rw [List.drop_drop, List.drop_drop] at g8
            exact g8
        · omega
    · refine LWp.exit ?_
      simp
      refine LWp.seq ?_
      refine LWp.rz hT hW ?_
      simp
      refine ⟨by omega, ?_⟩
      refine LWp.seq ?_
      refine LWp.rz hT hW ?_
      simp
      refine ⟨by omega, ?_⟩
      refine LWp.ret ?_
      simp
      obtain ⟨g1, g2, g3, g4, g5⟩ := hi5
      have hq : q = l.length := by omega
      rw [hq, List.take_length] at g4
      have hkl : (l.filter fun x => !p x).length = i := by rw [← g4]; simp; omega
      refine Weak.to [4] [(0, 0)] (by decide) (by decide) (by simp [hp]) ?_ ?_
      · simp [hkl]
      · have hd : List.drop (i + (l.length - i)) (List.map Nm.d r) = [] := List.drop_eq_nil_of_le (by simp; omega)
        simp
        rw [hd, hkl, ← g4, List.map_take, List.append_nil]
        rfl
theorem last_ok (h : Hs) (z : List DV) (k a n : Int) (names : List Nm) (hl : h.length ≤ 1000000) (hz : ∀ y ∈ z, (cellsD y).length = 1) : OkGR Tryz.prog 134 [.oc 0 0 h.length (h.length + z.length), .d (actD k a n names)] [(0, .row false 1 (h.map nmsD ++ z))] (ActR (lastH h names)) := by
  refine OkGR.one Tryz.func134 (by kernel_rfl) (c := _) rfl Tryz.ntmps134 (by simp) Tryz.results134 fun w0 X hp => ?_
  refine LWp.seq ?_
  refine LWp.rz hT hW ?_
  simp
  refine LWp.seq ?_
  rcases Decidable.em (1 ≤ z.length) with hc0 | hc1
  · refine LWp.rz hT hW ?_
    simp [hc0]
    first | refine ⟨by omega, ?_⟩ | skip
    refine LWp.ret ?_
    have e : (rowsD (lastH h names) ++ z.drop 1).length = h.length + z.length := by simp [rowsD, lastH]; omega
    have e2 : List.drop (h.length + 1) (h.map nmsD ++ z) = z.drop 1 := by rw [List.drop_append]; simp
    simp
    refine ⟨_, _, .inl ⟨rowsD (lastH h names) ++ z.drop 1, h.length + z.length, Nat.le_of_eq e.symm, rows_one fun y hy => hz y (List.mem_of_mem_drop hy), by simp [lastH]; omega, by simp [rowsD], rfl, rfl⟩, Weak.to [4] [(0, 0)] (by decide) (by decide) (by simp [hp]) ?_ ?_⟩
    · simp [lastH]
    · simp [lastH, rowsD, e2]
  · refine LWp.rz hT hW ?_
    simp [hc1]
    first | refine ⟨by omega, ?_⟩ | skip
    refine LWp.ret ?_
    simp
    refine ⟨_, _, .inr ⟨h.map nmsD ++ z, rfl, rfl⟩, Weak.to [4] [(0, 0), (9, 9)] (by decide) (by decide) (by simp [hp]) ?_ ?_⟩
    · simp [lastH]
    · simp [lastH]
theorem acts1_ok (h : Hs) (z : List DV) (k : Int) (a n : Nat) (names : List Nm) (hl : h.length ≤ 1000000) (hf : (cat h).length ≤ 1000000) (hz : ∀ y ∈ z, (cellsD y).length = 1) (hm : h.length + z.length ≤ maxLen) (hn : 1 ≤ n) (han : a + n ≤ h.length) : OkGR Tryz.prog 135 [.oc 0 0 h.length (h.length + z.length), .d (actD k a n names)] [(0, .row false 1 (h.map nmsD ++ z))] (ActR (squashH h a n)) := by
  refine OkGR.one Tryz.func135 (by kernel_rfl) (c := _) rfl Tryz.ntmps135 (by simp) Tryz.results135 fun w0 X hp => ?_
  refine LWp.seq ?_
  refine LWp.rz hT hW ?_
  simp
  refine LWp.seq ?_
  obtain ⟨one, hone⟩ : ∃ one, one = cat ((h.drop a).take n) := ⟨_, rfl⟩
  have hol : one.length ≤ 1000000 := by
    have h1 := cat_tot (h := h.drop a) n
    have h2 : (cat (h.drop a)).length ≤ (cat h).length := by
      have := congrArg (fun l => (cat l).length) (List.take_append_drop a h)
      simp only [cat_app, List.length_append] at this
      omega
    rw [hone]; omega
  have hpart := rows_part (z := z) han
  have hc := ConcatNm_ok ((h.drop a).take n) (by simp; omega) (by rw [← hone]; omega)
  rw [← hone] at hc
  refine LWp.ro hT hW (fun | 15 => some <| .plain ⟨.d (nmsD one), true⟩ | 16 => some <| .plain ⟨.own 2 ((sortN one).map Nm.d), true⟩ | _ => none) ?_
  simp [(show ((a : Int) + (n : Int) - (a : Int)).toNat = n by omega), hpart]
  refine ⟨⟨⟨by omega, by simpa using hc⟩, by simpa using ESort_ok one (by omega)⟩, ?_⟩
  refine LWp.seq ?_
  have hR := Replace_ok (h.map nmsD) z [nmsD (sortN one)] a (a + n) (by omega) (by simpa using han) (by simp) (by simpa using hl) (by simp) (by simpa using hm) (rows_one hz) (by simp [nmsD])
  refine LWp.regGenR hT hW 27 [(0, 0), (26, 3)] [(9, 27)] [] (RepR (h.map nmsD) z [nmsD (sortN one)] a (a + n)) [(0, .row false 1 (h.map nmsD ++ z)), (3, .row false 1 [nmsD (sortN one)]), (9, .row false 1 (putV (h.map nmsD) [nmsD (sortN one)] a (a + n)))] (.ow 9 0 (a + [nmsD (sortN one)].length + ((h.map nmsD).length - (a + n)))) (.inr ⟨rfl, rfl⟩) (fun | 26 => some .inp | _ => none) (by intro d; first | exact ⟨rfl, fun _ h => h⟩ | (split <;> exact ⟨rfl, fun _ h => h⟩)) (by kernel_rfl) fun r2 hr2 => ?_
  obtain ⟨fin2, ret2⟩ := r2
  simp only at hr2
  rcases hr2 with ⟨L, hL1, hL2, hL3, hL4, rfl, rfl⟩ | ⟨rfl, rfl⟩
  · simp
    refine ⟨⟨by omega, by simpa [nmsD] using hR⟩, ?_⟩
    refine LWp.ret ?_
    have hx : (squashH h a n).map nmsD = putV (h.map nmsD) [nmsD (sortN one)] a (a + n) := by simp [squashH, putV, hone]
    have hxl : (squashH h a n).length = a + 1 + (h.length - (a + n)) := by simp [squashH]; omega
    simp
    refine ⟨_, _, .inl ⟨L, h.length + z.length, Nat.le_of_eq (by simpa using hL1.symm), hL2, by simpa [hxl] using hL3, by rw [hx, ← hL4]; congr 1; simp [hxl], rfl, rfl⟩, Weak.to [4] [(0, 0)] (by decide) (by decide) (by simp [hp]) ?_ ?_⟩
    · simp [hxl]
    · simp
  · simp
    refine ⟨⟨by omega, by simpa [nmsD] using hR⟩, ?_⟩
    refine LWp.ret ?_
    have hx : (squashH h a n).map nmsD = putV (h.map nmsD) [nmsD (sortN one)] a (a + n) := by simp [squashH, putV, hone]
    have hxl : (squashH h a n).length = a + 1 + (h.length - (a + n)) := by simp [squashH]; omega
    simp
    refine ⟨_, _, .inr ⟨h.map nmsD ++ z, rfl, rfl⟩, Weak.to [4] [(0, 0), (27, 9)] (by decide) (by decide) (by simp [hp]) ?_ ?_⟩
    · simp [hxl]
    · simp [hx]
theorem acts21_ok (names : List Nm) (n : Nm) (k a m : Int) : Ok Tryz.prog 139 [n.d, .ro [I64 k, I64 a, I64 m, nmsD names]] ⟨.d (.bool (decide (n ∈ names))), true⟩ := by
  refine Ok.ret Tryz.func139 (by kernel_rfl) (c := _) rfl Tryz.ntmps139 (by simp) Tryz.results139 (by intro _ h; cases h) fun w0 X hp => ?_
  refine LWp.seq ?_
  refine LWp.rz hT hW ?_
  simp
  refine LWp.seq ?_
  refine LWp.ro hT hW (fun | 7 => some <| .plain ⟨.d (.bool (decide (n ∈ names))), true⟩ | _ => none) ?_
  simp
  refine ⟨InNm_ok names n, ?_⟩
  refine LWp.ret ?_
  simp
theorem acts2_ok (h : Hs) (z : List DV) (k m : Int) (a : Nat) (names : List Nm) (hl : h.length ≤ 1000000) (hf : (cat h).length ≤ 1000000) (hz : ∀ y ∈ z, (cellsD y).length = 1) (hm : h.length + z.length ≤ maxLen) (ha : a < h.length) : OkGR Tryz.prog 137 [.oc 0 0 h.length (h.length + z.length), .d (actD k a m names)] [(0, .row false 1 (h.map nmsD ++ z))] (ActR (splitH h a names)) := by
  refine OkGR.one Tryz.func137 (by kernel_rfl) (c := _) rfl Tryz.ntmps137 (by simp) Tryz.results137 fun w0 X hp => ?_
  refine LWp.seq ?_
  refine LWp.rz hT hW ?_
  simp
  refine LWp.seq ?_
  have hal : h[a].length ≤ 1000000 := by
    have h1 := cat_le ha
    have h2 := cat_tot (h := h) (a + 1)
    omega
  obtain ⟨r, hr⟩ : ∃ r, r = h[a].filter (fun x => !decide (x ∈ names)) := ⟨_, rfl⟩
  have hd := DeleteFuncNm_ok h[a] (by omega) (fun x => decide (x ∈ names)) 139 [.ro [I64 k, I64 a, I64 m, nmsD names]] fun x _ => acts21_ok names x k a m
  rw [← hr] at hd
  refine LWp.ro hT hW (fun | 11 => some <| .plain ⟨.own 2 (h[a].map Nm.d), true⟩ | 13 => some (.gen ⟨[(11, 0)], [], [1], [(0, .row false 2 (r.map Nm.d ++ List.replicate (h[a].length - r.length) zeroNm.d))], .ow 0 0 r.length⟩) | _ => none) ?_
  simp [app_get ha]
  refine ⟨⟨⟨by omega, CloneNm_ok h[a] (by omega)⟩, by simpa using hd⟩, ?_⟩
  refine LWp.seq ?_
  have hR := Replace_ok (h.map nmsD) z [nmsD names, nmsD r] a (a + 1) (by omega) (by simp; omega) (by simp) (by simpa using hl) (by simp) (by simpa using hm) (rows_one hz) (by simp [nmsD])
  refine LWp.regGenR hT hW 24 [(0, 0), (23, 3)] [(9, 24)] [] (RepR (h.map nmsD) z [nmsD names, nmsD r] a (a + 1)) [(0, .row false 1 (h.map nmsD ++ z)), (3, .row false 1 [nmsD names, nmsD r]), (9, .row false 1 (putV (h.map nmsD) [nmsD names, nmsD r] a (a + 1)))] (.ow 9 0 (a + [nmsD names, nmsD r].length + ((h.map nmsD).length - (a + 1)))) (.inr ⟨rfl, rfl⟩) (fun | 23 => some .inp | _ => none) (by intro d; first | exact ⟨rfl, fun _ h => h⟩ | (split <;> exact ⟨rfl, fun _ h => h⟩)) (by kernel_rfl) fun r2 hr2 => ?_
  obtain ⟨fin2, ret2⟩ := r2
  simp only at hr2
  rcases hr2 with ⟨L, hL1, hL2, hL3, hL4, rfl, rfl⟩ | ⟨rfl, rfl⟩
  · simp
    refine ⟨⟨⟨by omega, by decide⟩, by simpa [nmsD] using hR⟩, ?_⟩
    refine LWp.ret ?_
    have hx : (splitH h a names).map nmsD = putV (h.map nmsD) [nmsD names, nmsD r] a (a + 1) := by simp [splitH, putV, hr, restN, List.getD_eq_getElem?_getD, ha]
    have hxl : (splitH h a names).length = a + 2 + (h.length - (a + 1)) := by simp [splitH]; omega
    simp
    refine ⟨_, _, .inl ⟨L, h.length + z.length, Nat.le_of_eq (by simpa using hL1.symm), hL2, by simpa [hxl] using hL3, by rw [hx, ← hL4]; congr 1; simp [hxl], rfl, rfl⟩, Weak.to [4] [(0, 0)] (by decide) (by decide) (by simp [hp]) ?_ ?_⟩
    · simp [hxl]
    · simp
  · simp
    refine ⟨⟨⟨by omega, by decide⟩, by simpa [nmsD] using hR⟩, ?_⟩
    refine LWp.ret ?_
    have hx : (splitH h a names).map nmsD = putV (h.map nmsD) [nmsD names, nmsD r] a (a + 1) := by simp [splitH, putV, hr, restN, List.getD_eq_getElem?_getD, ha]
    have hxl : (splitH h a names).length = a + 2 + (h.length - (a + 1)) := by simp [splitH]; omega
    simp
    refine ⟨_, _, .inr ⟨h.map nmsD ++ z, rfl, rfl⟩, Weak.to [4] [(0, 0), (24, 9)] (by decide) (by decide) (by simp [hp]) ?_ ?_⟩
    · simp [hxl]
    · simp [hx]
theorem acts3_ok (h : Hs) (z : List DV) (k : Int) (a n : Nat) (names : List Nm) (hl : h.length ≤ 1000000) (hz : ∀ y ∈ z, (cellsD y).length = 1) (hm : h.length + z.length ≤ maxLen) (ha : a < h.length) (hn : n < h.length) : OkGR Tryz.prog 140 [.oc 0 0 h.length (h.length + z.length), .d (actD k a n names)] [(0, .row false 1 (h.map nmsD ++ z))] (ActR (moveH h a n)) := by
  refine OkGR.one Tryz.func140 (by kernel_rfl) (c := _) rfl Tryz.ntmps140 (by simp) Tryz.results140 fun w0 X hp => ?_
  refine LWp.seq ?_
  refine LWp.rz hT hW ?_
  simp
  refine LWp.seq ?_
  refine LWp.rz hT hW ?_
  simp [app_get ha]
  refine ⟨by omega, ?_⟩
  refine LWp.seq ?_
  have hE : ((h.map nmsD).eraseIdx a) = (h.eraseIdx a).map nmsD := map_erase _ _ _
  have hel : (h.eraseIdx a).length = h.length - 1 := by simp [List.length_eraseIdx, ha]
  have hD := DeleteH_ok (h.map nmsD) z a (by simpa using ha) (by simpa using hl) (by simpa using hm) (rows_one hz)
  rw [hE] at hD
  have hI := InsertH_ok ((h.eraseIdx a).map nmsD) z (nmsD h[a]) (.sl []) n (by simp [hel]; omega) (by simp [hel]; omega) (by simp [hel]; omega) (rows_one fun y hy => by rcases List.mem_cons.1 hy with rfl | hy; exact rfl; exact hz y hy) rfl
  simp only [List.length_map, hel, show h.length - 1 + (z.length + 1) = h.length + z.length by omega, show h.length - 1 + 1 = h.length by omega] at hI
  simp only [List.length_map] at hD
  refine LWp.regAny hT hW hMixed (lk [[],[],[1],[],[3],[3,4],[0,1,2,3,4,5],[],[7],[],[9],[0,1,2,3,4,5,6,7,8,9,10],[0,1,2,3,4,5,6,7,8,9,10,11]]) (lk [[21],[21],[21],[21],[21],[21],[21],[0,21],[0,21],[0],[0],[],[]]) (lk [[],[],[],[],[],[],[0],[],[],[],[21],[0,21],[]]) (by kernel_rfl) (fun | 17 => some (.gen ⟨[(0, 0)], [], [], [(0, .row false 1 ((h.eraseIdx a).map nmsD ++ .sl [] :: z))], .oc 0 0 (h.length - 1) (h.length + z.length)⟩) | 21 => some .inp | 22 => some (.gen ⟨[(0, 0), (21, 2)], [], [], [(0, .row false 1 (((h.eraseIdx a).map nmsD).take n ++ nmsD h[a] :: ((h.eraseIdx a).map nmsD).drop n ++ z)), (2, .row false 1 [nmsD h[a]])], .oc 0 0 h.length (h.length + z.length)⟩) | _ => none) (by intro d; first | exact ⟨rfl, fun _ h => h⟩ | (split <;> exact ⟨rfl, fun _ h => h⟩)) ?_
  simp
  refine ⟨⟨⟨by omega, by simpa using hD⟩, by simpa [nmsD] using hI⟩, ?_⟩
  refine LWp.ret ?_
  have hxl : (moveH h a n).length = h.length := by simp [moveH, List.length_eraseIdx, ha]; omega
  have hx : (moveH h a n).map nmsD = ((h.eraseIdx a).map nmsD).take n ++ nmsD h[a] :: ((h.eraseIdx a).map nmsD).drop n := by simp [moveH, List.getD_eq_getElem?_getD, ha]
  simp
  refine ⟨_, _, .inl ⟨(moveH h a n).map nmsD ++ z, h.length + z.length, by simp [hxl], rows_one hz, by simp [hxl], by simp, rfl, rfl⟩, Weak.to [4] [(0, 0)] (by decide) (by decide) (by simp [hp]) ?_ ?_⟩
  · simp [hxl]
  · rw [hx]; simp
theorem acts4_ok (h : Hs) (z : List DV) (k n : Int) (a : Nat) (names : List Nm) (hl : h.length ≤ 1000000) (hz : ∀ y ∈ z, (cellsD y).length = 1) (hm : h.length + z.length ≤ maxLen) (ha : a < h.length) : OkGR Tryz.prog 143 [.oc 0 0 h.length (h.length + z.length), .d (actD k a n names)] [(0, .row false 1 (h.map nmsD ++ z))] (ActR (dropH h a)) := by
  refine OkGR.one Tryz.func143 (by kernel_rfl) (c := _) rfl Tryz.ntmps143 (by simp) Tryz.results143 fun w0 X hp => ?_
  refine LWp.seq ?_
  refine LWp.rz hT hW ?_
  simp
  refine LWp.seq ?_
  rcases Decidable.em (a + (h.length - (a + 1)) ≤ a) with hc0 | hc1
  · have hpart := rows_part (h := h) (z := z) (a := a + 1) (n := h.length - (a + 1)) (by omega)
    have hone := rows_one (h := h) hz
    have hi2 : ((h.length : Int) - ((a : Int) + 1)).toNat = h.length - (a + 1) := by omega
    have hmn : min (h.length - (a + 1)) (h.length + z.length - (a + 1)) = h.length - (a + 1) := by omega
    refine LWp.regAny hT hW hMixed (lk [[],[],[1],[],[3],[0,1,2,3,4],[],[],[7],[7,8],[6,7,8,9],[0,1,2,3,4,5,6,7,8,9,10],[0,1,2,3,4,5,6,7,8,9,10,11]]) (lk [[],[],[],[],[],[],[],[],[],[],[],[],[]]) (lk [[],[],[],[],[],[],[],[],[],[],[],[0,16],[]]) (by kernel_rfl) (fun | 10 => some .inp | _ => none) (by intro d; first | exact ⟨rfl, fun _ h => h⟩ | (split <;> exact ⟨rfl, fun _ h => h⟩)) ?_
    simp [hi2, hmn, hc0, part_one hone]
    refine ⟨by omega, ?_⟩
    refine LWp.ret ?_
    have hdr : dropH h a = h.take a := by unfold dropH; rw [List.eraseIdx_eq_take_drop_succ, List.drop_of_length_le (by omega), List.append_nil]
    have hxl : (dropH h a).length = a := by rw [hdr]; simp; omega
    have hh : h.length - (a + 1) = 0 := by omega
    simp
    refine ⟨_, _, .inl ⟨h.map nmsD ++ z, a, by simp; omega, hone, by rw [hxl]; exact Nat.le_refl _, ?_, rfl, rfl⟩, Weak.to [4] [(0, 0)] (by decide) (by decide) (by simp [hp]) ?_ ?_⟩
    · rw [hxl, hdr, List.take_append_of_le_length (by simp; omega), List.map_take]
    · simp [hxl, hh]
    · simp [hh]
  · have hpart := rows_part (h := h) (z := z) (a := a + 1) (n := h.length - (a + 1)) (by omega)
    have hone := rows_one (h := h) hz
    have hi2 : ((h.length : Int) - ((a : Int) + 1)).toNat = h.length - (a + 1) := by omega
    have hmn : min (h.length - (a + 1)) (h.length + z.length - (a + 1)) = h.length - (a + 1) := by omega
    refine LWp.regAny hT hW hMixed (lk [[],[],[1],[],[3],[0,1,2,3,4],[],[],[7],[7,8],[6,7,8,9],[0,1,2,3,4,5,6,7,8,9,10],[0,1,2,3,4,5,6,7,8,9,10,11]]) (lk [[],[],[],[],[],[],[],[],[],[],[],[],[]]) (lk [[],[],[],[],[],[],[],[],[],[],[],[0,16],[]]) (by kernel_rfl) (fun | 10 => some .inp | _ => none) (by intro d; first | exact ⟨rfl, fun _ h => h⟩ | (split <;> exact ⟨rfl, fun _ h => h⟩)) ?_
    simp [hi2, hmn, hc1, part_one hone]
    refine ⟨by omega, ?_⟩
    refine LWp.ret ?_
    have hxl : (dropH h a).length = h.length - 1 := by simp [dropH, List.length_eraseIdx, ha]
    have hd : (dropH h a).map nmsD = List.take a (h.map nmsD ++ z) ++ List.take (h.length - (a + 1)) (List.drop (a + 1) (h.map nmsD ++ z)) := by
      have e1 : List.take (h.length - (a + 1)) (List.drop (a + 1) h) = List.drop (a + 1) h := List.take_of_length_le (by simp)
      rw [hpart, e1, List.take_append_of_le_length (by simp; omega)]
      unfold dropH
      rw [List.eraseIdx_eq_take_drop_succ, List.map_append, List.map_take]
    simp
    refine ⟨_, _, .inr ⟨h.map nmsD ++ z, rfl, rfl⟩, Weak.to [4] [(0, 0), (16, 9)] (by decide) (by decide) (by simp [hp]) ?_ ?_⟩
    · simp [hxl, show a + (h.length - (a + 1)) = h.length - 1 by omega]
    · rw [hd]; simp
end
open Go.Proofs
section
attribute [local simp] Res.cond actD
def actBad (h : Hs) (k a n : Int) : Bool := (decide (k = 1) && (decide (n < 1) || decide (h.length - a < n))) || (decide (k = 3) && (decide (n < 0) || decide (h.length ≤ n)))
def splitBad (c names : List Nm) : Bool := names.isEmpty || decide (c.length ≤ names.length) || !incr Nm.less names || !partB names c
def undoBad (k : Int) (c needs : List Nm) : Bool := (decide (k = 5) && !partB c needs) || (decide (k = 6) && c.any fun n => decide (n ∈ needs))
def fitsC (l : List Ed) (h : Hs) (k a n : Int) (names : List Nm) : Int :=
  if k < 0 ∨ 7 ≤ k then 1 else if k = 0 then 0 else if a < 0 ∨ h.length ≤ a then 5 else if actBad h k a n = true then 5
  else if k = 2 then (if splitBad (h.getD a.toNat []) names = true then 1 else 0)
  else if k = 5 ∨ k = 6 then (match names with
    | [m] => if findI l m < 0 then 1 else if undoBad k (h.getD a.toNat []) (needsOf l m) = true then 1 else 0
    | _ => 1)
  else 0
theorem getD_h {h : Hs} {a : Int} (h0 : 0 ≤ a) (h1 : a < h.length) : ∃ i, ∃ (hi : i < h.length), a = (i : Int) ∧ h.getD a.toNat [] = h[i] := by
  refine ⟨a.toNat, by omega, by omega, ?_⟩
  rw [List.getD_eq_getElem?_getD, List.getElem?_eq_getElem (by omega)]; rfl
def atV (h : Hs) (k : Int) : List Nm × Int := if k < 0 ∨ (h.length : Int) ≤ k then ([], 5) else (sortN (cat (h.take (k.toNat + 1))), 0)
theorem atV_bad {h : Hs} {k : Int} (hk : k < 0 ∨ (h.length : Int) ≤ k) : atV h k = ([], 5) := if_pos hk
theorem atV_ok {h : Hs} {i : Nat} (hi : i < h.length) : atV h (i : Int) = (sortN (cat (h.take (i + 1))), 0) := by unfold atV; rw [if_neg (by omega)]; simp
theorem fits1_ok (l : List Ed) (m n : Nm) (i : Nat) (hi : i < l.length) : Ok Tryz.prog 133 [n.d, .ro [edsD l], .ro [I64 i]] ⟨.d (.bool (decide (n ∈ l[i].needs))), true⟩ := by
  refine Ok.ret Tryz.func133 (by kernel_rfl) (c := _) rfl Tryz.ntmps133 (by simp) Tryz.results133 (by intro _ h; cases h) fun w0 X hp => ?_
  refine LWp.seq ?_
  refine LWp.rz hT hW ?_
  simp
  refine LWp.seq ?_
  refine LWp.regAny hT hW hMixed (lk [[],[],[0,1],[0,1,2],[0,1,2,3],[],[0,1,2,3,4,5],[0,1,2,3,4,5,6]]) (lk [[],[],[],[],[],[],[],[]]) (lk [[],[],[],[],[],[],[11],[]]) (by kernel_rfl) (fun | 11 => some <| .plain ⟨.d (.bool (decide (n ∈ l[i].needs))), true⟩ | _ => none) (by intro d; first | exact ⟨rfl, fun _ h => h⟩ | (split <;> exact ⟨rfl, fun _ h => h⟩)) ?_
  simp [hi]
  refine ⟨InNm_ok l[i].needs n, ?_⟩
  refine LWp.ret ?_
  simp
theorem hAt_ok (h : Hs) (k : Int) (hl : h.length ≤ 1000000) (hf : (cat h).length ≤ 1000000) : Ok Tryz.prog 28 [cmD h, I64 k] ⟨.tup [.d (nmsD (atV h k).1), .d (I64 (atV h k).2)], true⟩ := by
  refine Ok.two Tryz.func28 (by kernel_rfl) (c := _) rfl Tryz.ntmps28 (by simp) Tryz.results28 rfl fun w0 X hp => ?_
  refine LWp.seq ?_
  refine LWp.rz hT hW ?_
  simp
  refine LWp.seq ?_
  refine LWp.seq ?_
  refine LWp.rz hT hW ?_
  simp [cmD]
  refine LWp.iff ?_
  simp
  refine ⟨fun h1 => ?_, fun g1 g2 => ?_⟩
  · refine LWp.seq ?_
    refine LWp.rz hT hW ?_
    simp
    refine LWp.ret ?_
    simp [atV_bad h1]
  · refine LWp.skip ?_
    simp
    refine LWp.seq ?_
    obtain ⟨i, rfl⟩ : ∃ i : Nat, k = (i : Int) := ⟨k.toNat, by omega⟩
    have hct := cat_tot (h := h) (i + 1)
    have hcc := ConcatNm_ok (h.take (i + 1)) (by simp; omega) (by omega)
    rw [List.map_take] at hcc
    obtain ⟨q, hq⟩ : ∃ q, q = cat (h.take (i + 1)) := ⟨_, rfl⟩
    rw [← hq] at hcc hct
    refine LWp.ro hT hW (fun | 20 => some <| .plain ⟨.d (nmsD q), true⟩ | 21 => some <| .plain ⟨.own 2 ((sortN q).map Nm.d), true⟩ | _ => none) ?_
    simp [(show ((i : Int) + 1).toNat = i + 1 by omega)]
    refine ⟨⟨⟨by omega, by simpa using hcc⟩, by simpa using ESort_ok q (by omega)⟩, ?_⟩
    refine LWp.ret ?_
    simp [atV_ok (show i < h.length by omega), hq]
theorem hHead_ok (h : Hs) (hl : h.length ≤ 1000000) (hf : (cat h).length ≤ 1000000) : Ok Tryz.prog 25 [cmD h] ⟨.own 2 ((sortN (cat h)).map Nm.d), true⟩ := by
  refine Ok.ret Tryz.func25 (by kernel_rfl) (c := _) rfl Tryz.ntmps25 (by simp) Tryz.results25 (by intro _ h; cases h) fun w0 X hp => ?_
  refine LWp.seq ?_
  refine LWp.rz hT hW ?_
  simp
  refine LWp.seq ?_
  refine LWp.ro hT hW (fun | 5 => some <| .plain ⟨.d (nmsD (cat h)), true⟩ | 6 => some <| .plain ⟨.own 2 ((sortN (cat h)).map Nm.d), true⟩ | _ => none) ?_
  simp [cmD]
  refine ⟨⟨ConcatNm_ok h hl (by omega), by simpa using ESort_ok (cat h) (by omega)⟩, ?_⟩
  refine LWp.ret ?_
  simp
theorem Valid25_ok (l : List Ed) (h : Hs) (hs : small l) (hn : (allNeeds l).length ≤ 1000000) (hl : h.length ≤ 1000000) (hf : (cat h).length ≤ 1000000) : Ok Tryz.prog 24 [edsD l, cmD h] ⟨.tup [.d (I64 (validH l h).1), .d (I64 (validH l h).2)], true⟩ := by
  refine Ok.two Tryz.func24 (by kernel_rfl) (c := _) rfl Tryz.ntmps24 (by simp) Tryz.results24 rfl fun w0 X hp => ?_
  refine LWp.seq ?_
  refine LWp.rz hT hW ?_
  simp
  refine LWp.seq ?_
  refine LWp.ro hT hW (fun | 13 => some <| .plain ⟨.tup [.d (I64 (validV l).1), .d (I64 (validV l).2)], true⟩ | _ => none) ?_
  simp [evalExtract]
  refine ⟨Valid_ok l hs (by omega), ?_⟩
  refine LWp.seq ?_
  refine LWp.seq ?_
  refine LWp.rz hT hW ?_
  simp
  refine LWp.iff ?_
  simp
  refine ⟨fun h2 => ?_, fun h2 => ?_⟩
  · refine LWp.seq ?_
    refine LWp.rz hT hW ?_
    simp
    refine LWp.ret ?_
    simp [validH_1 (h := h) h2]
  · refine LWp.skip ?_
    simp
    refine LWp.seq ?_
    refine LWp.seq ?_
    refine LWp.rz hT hW ?_
    simp [cmD]
    refine LWp.iff ?_
    simp
    refine ⟨fun h4 => ?_, fun h4 => ?_⟩
    · refine LWp.seq ?_
      refine LWp.rz hT hW ?_
      simp
      refine LWp.ret ?_
      simp [validH_2 (by simpa using h2) (show 32 < h.length by omega)]
    · refine LWp.skip ?_
      simp
      refine LWp.seq ?_
      refine LWp.rz hT hW ?_
      simp
      refine LWp.seq ?_
      refine LWp.seq ?_
      refine LWp.rz hT hW ?_
      simp
      refine LWp.block ?_
      refine LWp.loopW (ι := Nat) (fun i => mkEnv [(0, .d (edsD l)), (3, .bx 3 0), (8, .ow 8 0 (cat (h.take i)).length), (9, .d (I64 i))]) (fun i => mkObs [(3, .box false [.d (.sl (h.map nmsD))]), (8, .row false 2 ((cat (h.take i)).map Nm.d))]) (fun i => i ≤ h.length ∧ ∀ j, j < i → badAt l h j = 0) (fun i => h.length - i) 0 (Weak.to [0, 3, 8, 9] [(3, 3), (8, 8)] (by decide) (by decide) (by simp [hp]) (by simp [cat_nil]) (by simp [cat_nil])) (⟨by omega, fun j hj => by omega⟩) fun i hi8 => ?_
      refine LWp.seq ?_
      refine LWp.seq ?_
      refine LWp.rz hT hW ?_
      simp
      refine LWp.iff ?_
      simp
      refine ⟨fun h8 => ?_, fun h8 => ?_⟩
      · refine LWp.skip ?_
        simp
        refine LWp.seq ?_
        refine LWp.block ?_
        refine LWp.seq ?_
        have hf1 := cat_le h8
        have hf2 := cat_tot (h := h) (i + 1)
        refine LWp.ro hT hW (fun | 37 => some <| .plain ⟨.d (I64 (orderC l h[i] (cat (h.take i)))), true⟩ | _ => none) ?_
        simp [h8]
        refine ⟨by simpa using order25_ok l h[i] (cat (h.take i)) hn (by omega) (by omega), ?_⟩
        refine LWp.seq ?_
        refine LWp.seq ?_
        refine LWp.rz hT hW ?_
        simp
        refine LWp.iff ?_
        simp
        refine ⟨fun h11 => ?_, fun h11 => ?_⟩
        · refine LWp.seq ?_
          refine LWp.rz hT hW ?_
          simp
          refine LWp.ret ?_
          rw [validH_3 (by simpa using h2) (by omega) h8 hi8.2 (by rw [badAt_get h8]; simpa using h11)]
          simp [badAt_get h8]
        · refine LWp.skip ?_
          simp
          refine LWp.rz hT hW ?_
          simp [h8]
          refine ⟨by omega, ?_⟩
          refine LWp.rz hT hW ?_
          simp
          refine ⟨by omega, ?_⟩
          refine loopQ.mk (i + 1) (Weak.to [0, 3, 8, 9] [(3, 3), (48, 8)] (by decide) (by decide) (by simp [hp]) (by simp [cat_le h8]) (by simp [cat_succ h8])) ?_ ?_
          · refine ⟨h8, fun j hj => ?_⟩
            rcases Nat.lt_or_ge j i with q | q
            · exact hi8.2 j q
            · rw [show j = i by omega, badAt_get h8]; simpa using h11
          · omega
      · refine LWp.exit ?_
        simp
        refine LWp.seq ?_
        refine LWp.rz hT hW ?_
        simp
        refine LWp.ret ?_
        have hi : i = h.length := by omega
        rw [validH_4 (by simpa using h2) (by omega) (hi ▸ hi8.2)]
        simp
end
open Go.Proofs
section
attribute [local simp] Res.cond actD
theorem fits_1 {l : List Ed} {h : Hs} {k a n : Int} {names : List Nm} (h1 : k < 0 ∨ 7 ≤ k) : fitsC l h k a n names = 1 := if_pos h1
theorem fits_0 {l : List Ed} {h : Hs} {a n : Int} {names : List Nm} : fitsC l h 0 a n names = 0 := by simp [fitsC]
theorem fits_5 {l : List Ed} {h : Hs} {k a n : Int} {names : List Nm} (h1 : ¬ (k < 0 ∨ 7 ≤ k)) (h0 : k ≠ 0) (h2 : a < 0 ∨ h.length ≤ a ∨ actBad h k a n = true) : fitsC l h k a n names = 5 := by
  unfold fitsC
  rw [if_neg h1, if_neg h0]
  by_cases q : a < 0 ∨ (h.length : Int) ≤ a
  · rw [if_pos q]
  · rw [if_neg q, if_pos (by rcases h2 with h2 | h2 | h2; exact absurd (.inl h2) q; exact absurd (.inr h2) q; exact h2)]
theorem fits_go {l : List Ed} {h : Hs} {k a n : Int} {names : List Nm} (h1 : ¬ (k < 0 ∨ 7 ≤ k)) (h0 : k ≠ 0) (h2 : ¬ (a < 0 ∨ h.length ≤ a)) (h3 : actBad h k a n = false) :
    fitsC l h k a n names = if k = 2 then (if splitBad (h.getD a.toNat []) names = true then 1 else 0)
  else if k = 5 ∨ k = 6 then (match names with
    | [m] => if findI l m < 0 then 1 else if undoBad k (h.getD a.toNat []) (needsOf l m) = true then 1 else 0
    | _ => 1)
  else 0 := by
  unfold fitsC
  rw [if_neg h1, if_neg h0, if_neg h2, if_neg (by rw [h3]; simp)]
  first | done | rfl
theorem hfitsO_ok (l : List Ed) (h : Hs) (k a n : Int) (names : List Nm) (hl : h.length ≤ 1000000) (hnm : names.length ≤ 1000000) (hf : (cat h).length ≤ 1000000) (hk2 : ¬ k = 2) (hk5 : ¬ k = 5) (hk6 : ¬ k = 6) : Ok Tryz.prog 77 [edsD l, cmD h, actD k a n names] ⟨.d (I64 (fitsC l h k a n names)), true⟩ := by
  refine Ok.ret Tryz.func77 (by kernel_rfl) (c := _) rfl Tryz.ntmps77 (by simp) Tryz.results77 (by intro _ h; cases h) fun w0 X hp => ?_
  refine LWp.seq ?_
  refine LWp.rz hT hW ?_
  simp
  refine LWp.seq ?_
  refine LWp.rz hT hW ?_
  simp [cmD]
  refine LWp.seq ?_
  refine LWp.block ?_
  refine LWp.seq ?_
  refine LWp.rz hT hW ?_
  simp
  refine LWp.iff ?_
  simp
  refine ⟨fun h2 => ?_, fun g1 g2 => ?_⟩
  · refine LWp.seq ?_
    refine LWp.rz hT hW ?_
    simp
    refine LWp.ret ?_
    simp [fits_1 h2]
  · refine LWp.seq ?_
    refine LWp.rz hT hW ?_
    simp
    refine LWp.iff ?_
    simp
    refine ⟨fun h4 => ?_, fun h4 => ?_⟩
    · refine LWp.seq ?_
      refine LWp.rz hT hW ?_
      simp
      refine LWp.ret ?_
      simp [h4, fits_0]
    · refine LWp.seq ?_
      refine LWp.weak (Weak.shrink [0, 3, 4, 5, 7] [(3, 3), (4, 4), (5, 5)] (by decide) (by decide) (by simp [hp])) ?_
      simp
      refine LWp.rz hT hW ?_
      simp
      refine LWp.iff ?_
      simp
      refine ⟨fun h6 => ?_, fun g3 g4 => ?_⟩
      · refine LWp.seq ?_
        refine LWp.rz hT hW ?_
        simp
        refine LWp.ret ?_
        simp [fits_5 (by omega) h4 (h6.elim .inl fun q => .inr (.inl q))]
      · refine LWp.seq ?_
        refine LWp.rz hT hW ?_
        simp
        refine ⟨by omega, ?_⟩
        refine LWp.iff ?_
        simp
        refine ⟨fun h8 => ?_, fun m1 m2 => ?_⟩
        · refine LWp.seq ?_
          refine LWp.rz hT hW ?_
          simp
          refine LWp.ret ?_
          simp [fits_5 (by omega) h4 (.inr (.inr (by simpa [actBad] using h8)))]
        · refine LWp.skip ?_
          simp
          refine LWp.seq ?_
          obtain ⟨i, hi, rfl, hgd⟩ := getD_h g3 g4
          have hil : h[i].length ≤ 1000000 := by
            have q1 := cat_le hi
            have q2 := cat_tot (h := h) (i + 1)
            omega
          refine LWp.rz hT hW ?_
          simp [hi]
          refine LWp.seq ?_
          refine LWp.seq ?_
          refine LWp.rz hT hW ?_
          simp
          refine LWp.block ?_
          refine LWp.seq ?_
          refine LWp.rz hT hW ?_
          simp
          refine LWp.iff ?_
          simp [hk2]
          refine LWp.seq ?_
          refine LWp.seq ?_
          refine LWp.rz hT hW ?_
          simp
          refine LWp.iff ?_
          simp [hk5]
          refine LWp.rz hT hW ?_
          simp
          refine LWp.iff ?_
          simp [hk6]
          refine LWp.skip ?_
          simp
          refine LWp.seq ?_
          refine LWp.rz hT hW ?_
          simp
          refine LWp.ret ?_
          have hb : actBad h k (i : Int) n = false := by
            rw [Bool.eq_false_iff]
            intro q
            simp [actBad] at q
            rcases q with ⟨q1, q2⟩ | ⟨q1, q2⟩
            · have := m1 q1; omega
            · have := m2 q1; omega
          simp [fits_go (by omega) h4 (by omega) hb, hk2, hk5, hk6]
theorem hfits2_ok (l : List Ed) (h : Hs) (a n : Int) (names : List Nm) (hl : h.length ≤ 1000000) (hnm : names.length ≤ 1000000) (hf : (cat h).length ≤ 1000000) : Ok Tryz.prog 77 [edsD l, cmD h, actD 2 a n names] ⟨.d (I64 (fitsC l h 2 a n names)), true⟩ := by
  refine Ok.ret Tryz.func77 (by kernel_rfl) (c := _) rfl Tryz.ntmps77 (by simp) Tryz.results77 (by intro _ h; cases h) fun w0 X hp => ?_
  refine LWp.seq ?_
  refine LWp.rz hT hW ?_
  simp
  refine LWp.seq ?_
  refine LWp.rz hT hW ?_
  simp [cmD]
  refine LWp.seq ?_
  refine LWp.block ?_
  refine LWp.seq ?_
  refine LWp.rz hT hW ?_
  simp
  refine LWp.iff ?_
  simp
  refine LWp.seq ?_
  refine LWp.rz hT hW ?_
  simp
  refine LWp.iff ?_
  simp
  refine LWp.seq ?_
  refine LWp.weak (Weak.shrink [0, 3, 4, 5, 7] [(3, 3), (4, 4), (5, 5)] (by decide) (by decide) (by simp [hp])) ?_
  simp
  refine LWp.rz hT hW ?_
  simp
  refine LWp.iff ?_
  simp
  refine ⟨fun h6 => ?_, fun g3 g4 => ?_⟩
  · refine LWp.seq ?_
    refine LWp.rz hT hW ?_
    simp
    refine LWp.ret ?_
    simp [fits_5 (l := l) (h := h) (k := 2) (a := a) (n := n) (names := names) (by omega) (by omega) (h6.elim .inl fun q => .inr (.inl q))]
  · refine LWp.seq ?_
    refine LWp.rz hT hW ?_
    simp
    refine LWp.iff ?_
    simp
    refine LWp.skip ?_
    simp
    refine LWp.seq ?_
    obtain ⟨i, hi, rfl, hgd⟩ := getD_h g3 g4
    have hil : h[i].length ≤ 1000000 := by
      have q1 := cat_le hi
      have q2 := cat_tot (h := h) (i + 1)
      omega
    refine LWp.rz hT hW ?_
    simp [hi]
    refine LWp.seq ?_
    refine LWp.seq ?_
    refine LWp.rz hT hW ?_
    simp
    refine LWp.block ?_
    refine LWp.seq ?_
    refine LWp.rz hT hW ?_
    simp
    refine LWp.iff ?_
    simp
    refine LWp.seq ?_
    refine LWp.weak (Weak.shrink [3, 4, 5, 8] [(3, 3), (4, 4), (5, 5)] (by decide) (by decide) (by simp [hp])) ?_
    simp
    refine LWp.ro hT hW (fun | 96 => some <| .plain ⟨.d (.bool (incr Nm.less names)), true⟩ | 103 => some <| .plain ⟨.d (.bool (partB names h[i])), true⟩ | _ => none) ?_
    simp
    refine ⟨⟨fun _ _ => by simpa using hrising_ok names hnm, fun _ _ _ => by simpa using hpart_ok names h[i]⟩, ?_⟩
    refine LWp.iff ?_
    simp
    refine ⟨fun h13 => ?_, fun m1 m2 m3 m4 => ?_⟩
    · refine LWp.seq ?_
      refine LWp.rz hT hW ?_
      simp
      refine LWp.ret ?_
      rw [fits_go (by omega) (by omega) (by omega) (by simp [actBad]), hgd]
      have hsb : splitBad h[i] names = true := by simp [splitBad]; simpa using h13
      simp [hsb]
    · refine LWp.skip ?_
      simp
      refine LWp.seq ?_
      refine LWp.rz hT hW ?_
      simp
      refine LWp.ret ?_
      rw [fits_go (by omega) (by omega) (by omega) (by simp [actBad]), hgd]
      have hsb : splitBad h[i] names = false := by simp [splitBad]; exact ⟨⟨⟨m1, m2⟩, by simpa using m3⟩, by simpa using m4⟩
      simp [hsb]
theorem hfits5_ok (l : List Ed) (h : Hs) (a n : Int) (names : List Nm) (hl : h.length ≤ 1000000) (hnm : names.length ≤ 1000000) (hf : (cat h).length ≤ 1000000) : Ok Tryz.prog 77 [edsD l, cmD h, actD 5 a n names] ⟨.d (I64 (fitsC l h 5 a n names)), true⟩ := by
  refine Ok.ret Tryz.func77 (by kernel_rfl) (c := _) rfl Tryz.ntmps77 (by simp) Tryz.results77 (by intro _ h; cases h) fun w0 X hp => ?_
  refine LWp.seq ?_
  refine LWp.rz hT hW ?_
  simp
  refine LWp.seq ?_
  refine LWp.rz hT hW ?_
  simp [cmD]
  refine LWp.seq ?_
  refine LWp.block ?_
  refine LWp.seq ?_
  refine LWp.rz hT hW ?_
  simp
  refine LWp.iff ?_
  simp
  refine LWp.seq ?_
  refine LWp.rz hT hW ?_
  simp
  refine LWp.iff ?_
  simp
  refine LWp.seq ?_
  refine LWp.weak (Weak.shrink [0, 3, 4, 5, 7] [(3, 3), (4, 4), (5, 5)] (by decide) (by decide) (by simp [hp])) ?_
  simp
  refine LWp.rz hT hW ?_
  simp
  refine LWp.iff ?_
  simp
  refine ⟨fun h6 => ?_, fun g3 g4 => ?_⟩
  · refine LWp.seq ?_
    refine LWp.rz hT hW ?_
    simp
    refine LWp.ret ?_
    simp [fits_5 (l := l) (h := h) (k := 5) (a := a) (n := n) (names := names) (by omega) (by omega) (h6.elim .inl fun q => .inr (.inl q))]
  · refine LWp.seq ?_
    refine LWp.rz hT hW ?_
    simp
    refine LWp.iff ?_
    simp
    refine LWp.skip ?_
    simp
    refine LWp.seq ?_
    obtain ⟨i, hi, rfl, hgd⟩ := getD_h g3 g4
    have hil : h[i].length ≤ 1000000 := by
      have q1 := cat_le hi
      have q2 := cat_tot (h := h) (i + 1)
      omega
    refine LWp.rz hT hW ?_
    simp [hi]
    refine LWp.seq ?_
    refine LWp.seq ?_
    refine LWp.rz hT hW ?_
    simp
    refine LWp.block ?_
    refine LWp.seq ?_
    refine LWp.rz hT hW ?_
    simp
    refine LWp.iff ?_
    simp
    refine LWp.seq ?_
    refine LWp.seq ?_
    refine LWp.rz hT hW ?_
    simp
    refine LWp.iff ?_
    simp
    refine LWp.skip ?_
    simp
    refine LWp.iff ?_
    simp
    refine LWp.seq ?_
    refine LWp.seq ?_
    refine LWp.weak (Weak.shrink [0, 3, 4, 5, 8] [(3, 3), (4, 4), (5, 5)] (by decide) (by decide) (by simp [hp])) ?_
    simp
    refine LWp.rz hT hW ?_
    simp
    refine LWp.iff ?_
    simp
    refine ⟨fun h17 => ?_, fun h17 => ?_⟩
    · refine LWp.seq ?_
      refine LWp.rz hT hW ?_
      simp
      refine LWp.ret ?_
      rw [fits_go (by omega) (by omega) (by omega) (by simp [actBad]), hgd]
      simp
      split
      · rename_i m; simp at h17
      · rfl
    · obtain ⟨m, rfl⟩ : ∃ m, names = [m] := by
        match names, h17 with
        | [m], _ => exact ⟨m, rfl⟩
        | [], q => simp at q
        | _ :: _ :: _, q => simp at q; omega
      refine LWp.skip ?_
      simp
      refine LWp.seq ?_
      refine LWp.regAny hT hW hMixed (lk [[],[],[1],[1,2],[1,2,3],[0,1,2,3,4],[],[0,1,2,3,4,5,6]]) (lk [[9],[9],[9],[9],[9],[9],[118],[]]) (lk [[],[],[],[],[],[118],[9],[9]]) (by kernel_rfl) (fun | 118 => some <| .plain ⟨.d (I64 (findI l m)), true⟩ | _ => none) (by intro d; first | exact ⟨rfl, fun _ h => h⟩ | (split <;> exact ⟨rfl, fun _ h => h⟩)) ?_
      simp
      refine ⟨by simpa using EFind_ok l m, ?_⟩
      refine LWp.seq ?_
      refine LWp.seq ?_
      refine LWp.rz hT hW ?_
      simp
      refine LWp.iff ?_
      simp
      refine ⟨fun h20 => ?_, fun h20 => ?_⟩
      · refine LWp.seq ?_
        refine LWp.rz hT hW ?_
        simp
        refine LWp.ret ?_
        rw [fits_go (by omega) (by omega) (by omega) (by simp [actBad]), hgd]
        simp [h20]
      · refine LWp.skip ?_
        simp
        refine LWp.seq ?_
        obtain ⟨j, hj, hfi, hfe, hne⟩ := edit_find (show ¬ findI l m < 0 by omega)
        refine LWp.rz hT hW ?_
        simp
        refine LWp.seq ?_
        refine LWp.weak (Weak.shrink [3, 4, 5, 8, 9, 10] [(3, 3), (4, 4), (5, 5), (9, 9)] (by decide) (by decide) (by simp [hp])) ?_
        simp
        refine LWp.ro hT hW (fun | 132 => some <| .plain ⟨.d (.bool (partB h[i] l[j].needs)), true⟩ | _ => none) ?_
        simp [hfe, hj]
        refine ⟨by simpa using hpart_ok h[i] l[j].needs, ?_⟩
        refine LWp.iff ?_
        simp
        refine ⟨fun h23 => ?_, fun h23 => ?_⟩
        · refine LWp.seq ?_
          refine LWp.rz hT hW ?_
          simp
          refine LWp.ret ?_
          rw [fits_go (by omega) (by omega) (by omega) (by simp [actBad]), hgd]
          have hub : undoBad 5 h[i] (needsOf l m) = true := by simp [undoBad, hne, h23]
          simp [show ¬ findI l m < 0 by omega, hub]
        · refine LWp.skip ?_
          simp
          refine LWp.seq ?_
          refine LWp.rz hT hW ?_
          simp
          refine LWp.ret ?_
          rw [fits_go (by omega) (by omega) (by omega) (by simp [actBad]), hgd]
          have hub : undoBad 5 h[i] (needsOf l m) = false := by simp [undoBad, hne, h23]
          simp [show ¬ findI l m < 0 by omega, hub]
theorem hfits6_ok (l : List Ed) (h : Hs) (a n : Int) (names : List Nm) (hl : h.length ≤ 1000000) (hnm : names.length ≤ 1000000) (hf : (cat h).length ≤ 1000000) : Ok Tryz.prog 77 [edsD l, cmD h, actD 6 a n names] ⟨.d (I64 (fitsC l h 6 a n names)), true⟩ := by
  refine Ok.ret Tryz.func77 (by kernel_rfl) (c := _) rfl Tryz.ntmps77 (by simp) Tryz.results77 (by intro _ h; cases h) fun w0 X hp => ?_
  refine LWp.seq ?_
  refine LWp.rz hT hW ?_
  simp
  refine LWp.seq ?_
  refine LWp.rz hT hW ?_
  simp [cmD]
  refine LWp.seq ?_
  refine LWp.block ?_
  refine LWp.seq ?_
  refine LWp.rz hT hW ?_
  simp
  refine LWp.iff ?_
  simp
  refine LWp.seq ?_
  refine LWp.rz hT hW ?_
  simp
  refine LWp.iff ?_
  simp
  refine LWp.seq ?_
  refine LWp.weak (Weak.shrink [0, 3, 4, 5, 7] [(3, 3), (4, 4), (5, 5)] (by decide) (by decide) (by simp [hp])) ?_
  simp
  refine LWp.rz hT hW ?_
  simp
  refine LWp.iff ?_
  simp
  refine ⟨fun h6 => ?_, fun g3 g4 => ?_⟩
  · refine LWp.seq ?_
    refine LWp.rz hT hW ?_
    simp
    refine LWp.ret ?_
    simp [fits_5 (l := l) (h := h) (k := 6) (a := a) (n := n) (names := names) (by omega) (by omega) (h6.elim .inl fun q => .inr (.inl q))]
  · refine LWp.seq ?_
    refine LWp.rz hT hW ?_
    simp
    refine LWp.iff ?_
    simp
    refine LWp.skip ?_
    simp
    refine LWp.seq ?_
    obtain ⟨i, hi, rfl, hgd⟩ := getD_h g3 g4
    have hil : h[i].length ≤ 1000000 := by
      have q1 := cat_le hi
      have q2 := cat_tot (h := h) (i + 1)
      omega
    refine LWp.rz hT hW ?_
    simp [hi]
    refine LWp.seq ?_
    refine LWp.seq ?_
    refine LWp.rz hT hW ?_
    simp
    refine LWp.block ?_
    refine LWp.seq ?_
    refine LWp.rz hT hW ?_
    simp
    refine LWp.iff ?_
    simp
    refine LWp.seq ?_
    refine LWp.seq ?_
    refine LWp.rz hT hW ?_
    simp
    refine LWp.iff ?_
    simp
    refine LWp.rz hT hW ?_
    simp
    refine LWp.iff ?_
    simp
    refine LWp.seq ?_
    refine LWp.seq ?_
    refine LWp.weak (Weak.shrink [0, 3, 4, 5, 8] [(3, 3), (4, 4), (5, 5)] (by decide) (by decide) (by simp [hp])) ?_
    simp
    refine LWp.rz hT hW ?_
    simp
    refine LWp.iff ?_
    simp
    refine ⟨fun h17 => ?_, fun h17 => ?_⟩
    · refine LWp.seq ?_
      refine LWp.rz hT hW ?_
      simp
      refine LWp.ret ?_
      rw [fits_go (by omega) (by omega) (by omega) (by simp [actBad]), hgd]
      simp
      split
      · rename_i m; simp at h17
      · rfl
    · obtain ⟨m, rfl⟩ : ∃ m, names = [m] := by
        match names, h17 with
        | [m], _ => exact ⟨m, rfl⟩
        | [], q => simp at q
        | _ :: _ :: _, q => simp at q; omega
      refine LWp.skip ?_
      simp
      refine LWp.seq ?_
      refine LWp.regAny hT hW hMixed (lk [[],[],[1],[1,2],[1,2,3],[0,1,2,3,4],[],[0,1,2,3,4,5,6]]) (lk [[9],[9],[9],[9],[9],[9],[118],[]]) (lk [[],[],[],[],[],[118],[9],[9]]) (by kernel_rfl) (fun | 118 => some <| .plain ⟨.d (I64 (findI l m)), true⟩ | _ => none) (by intro d; first | exact ⟨rfl, fun _ h => h⟩ | (split <;> exact ⟨rfl, fun _ h => h⟩)) ?_
      simp
      refine ⟨by simpa using EFind_ok l m, ?_⟩
      refine LWp.seq ?_
      refine LWp.seq ?_
      refine LWp.rz hT hW ?_
      simp
      refine LWp.iff ?_
      simp
      refine ⟨fun h20 => ?_, fun h20 => ?_⟩
      · refine LWp.seq ?_
        refine LWp.rz hT hW ?_
        simp
        refine LWp.ret ?_
        rw [fits_go (by omega) (by omega) (by omega) (by simp [actBad]), hgd]
        simp [h20]
      · refine LWp.skip ?_
        simp
        refine LWp.seq ?_
        obtain ⟨j, hj, hfi, hfe, hne⟩ := edit_find (show ¬ findI l m < 0 by omega)
        refine LWp.rz hT hW ?_
        simp
        refine LWp.seq ?_
        skip
        obtain ⟨b23, hb23⟩ : ∃ b, b = (h[i].any fun x => decide (x ∈ l[j].needs)) := ⟨_, rfl⟩
        refine LWp.weak (Weak.shrink [3, 4, 5, 8, 9, 10] [(3, 3), (4, 4), (5, 5), (9, 9)] (by decide) (by decide) (by simp [hp])) ?_
        simp
        refine LWp.ro hT hW (fun | 142 => some <| .plain ⟨.d (.bool b23), true⟩ | _ => none) ?_
        simp [hfe, hj]
        refine ⟨by rw [hb23]; simpa [nmsD] using AnyNm_ok h[i] (fun x => decide (x ∈ l[j].needs)) _ _ fun x _ => fits1_ok l m x j hj, ?_⟩
        refine LWp.iff ?_
        simp
        refine ⟨fun h23 => ?_, fun h23 => ?_⟩
        · refine LWp.seq ?_
          refine LWp.rz hT hW ?_
          simp
          refine LWp.ret ?_
          rw [fits_go (by omega) (by omega) (by omega) (by simp [actBad]), hgd]
          have hub : undoBad 6 h[i] (needsOf l m) = true := by simp only [undoBad, hne, ← hb23, h23]; simp
          simp [show ¬ findI l m < 0 by omega, hub]
        · refine LWp.skip ?_
          simp
          refine LWp.seq ?_
          refine LWp.rz hT hW ?_
          simp
          refine LWp.ret ?_
          rw [fits_go (by omega) (by omega) (by omega) (by simp [actBad]), hgd]
          have hub : undoBad 6 h[i] (needsOf l m) = false := by simp only [undoBad, hne, ← hb23, h23]; simp
          simp [show ¬ findI l m < 0 by omega, hub]
theorem hfits_ok (l : List Ed) (h : Hs) (k a n : Int) (names : List Nm) (hl : h.length ≤ 1000000) (hnm : names.length ≤ 1000000) (hf : (cat h).length ≤ 1000000) : Ok Tryz.prog 77 [edsD l, cmD h, actD k a n names] ⟨.d (I64 (fitsC l h k a n names)), true⟩ := by
  by_cases h2 : k = 2
  · subst h2; exact hfits2_ok l h a n names hl hnm hf
  · by_cases h5 : k = 5
    · subst h5; exact hfits5_ok l h a n names hl hnm hf
    · by_cases h6 : k = 6
      · subst h6; exact hfits6_ok l h a n names hl hnm hf
      · exact hfitsO_ok l h k a n names hl hnm hf h2 h5 h6
end
open Go.Proofs
section
attribute [local simp] Res.cond actD
theorem rest_lt (c m : List Nm) : decide ((restN c m).length < c.length) = c.any fun n => decide (n ∈ m) := by
  unfold restN
  rw [Bool.eq_iff_iff]
  simp only [decide_eq_true_eq, List.any_eq_true]
  constructor
  · intro h
    apply Decidable.byContradiction
    intro q
    have : c.filter (fun n => decide (n ∉ m)) = c := List.filter_eq_self.2 fun x hx => by
      simp only [decide_eq_true_eq]
      exact fun hm => q ⟨x, hx, hm⟩
    rw [this] at h
    omega
  · rintro ⟨x, hx, hm⟩
    rcases Nat.lt_or_ge (c.filter fun n => decide (n ∉ m)).length c.length with h | h
    · exact h
    · have := List.filter_eq_self.1 (List.filter_sublist.eq_of_length_le h) x hx
      simp at this
      exact absurd hm this
theorem rows1 (h : Hs) : ∀ y ∈ h.map nmsD, (cellsD y).length = 1 := fun y hy => by obtain ⟨c, _, rfl⟩ := List.mem_map.1 hy; rfl
theorem drop_one {L : List DV} (hs : ∀ y ∈ L, (cellsD y).length = 1) {n : Nat} : (∀ y ∈ List.drop n L, (cellsD y).length = 1) ↔ True := iff_true_intro fun y hy => hs y (List.mem_of_mem_drop hy)
theorem replaced_ok (h g : Hs) (i j : Nat) (hi : i ≤ h.length) (hj : j ≤ h.length) (hl : h.length ≤ 1000000) (hg : g.length ≤ 1000000) : Ok Tryz.prog 82 [.sl (h.map nmsD), I64 i, I64 j, .sl (g.map nmsD)] ⟨.d (.sl ((h.take i ++ (g ++ h.drop j)).map nmsD)), false⟩ := by
  refine Ok.ret Tryz.func82 (by kernel_rfl) (c := _) rfl Tryz.ntmps82 (by simp) Tryz.results82 (by intro _ h; cases h) fun w0 X hp => ?_
  refine LWp.seq ?_
  refine LWp.rz hT hW ?_
  simp
  refine LWp.seq ?_
  refine LWp.rz hT hW ?_
  simp [take_one (rows1 h)]
  refine ⟨by omega, ?_⟩
  refine LWp.seq ?_
  refine LWp.rz hT hW ?_
  simp [all_one (rows1 g)]
  refine ⟨by omega, ?_⟩
  refine LWp.seq ?_
  refine LWp.rz hT hW ?_
  simp [drop_one (rows1 h)]
  refine ⟨by omega, ?_⟩
  refine LWp.ret ?_
  simp
  have e1 : min i h.length = i := by omega
  rw [e1, List.take_take, Nat.min_self]
  have e2 : (List.take i (h.map nmsD) ++ g.map nmsD).length = i + g.length := by simp; omega
  have e3 : (List.take i (h.map nmsD) ++ g.map nmsD ++ List.drop j (h.map nmsD)).length = i + g.length + (h.length - j) := by rw [List.length_append, e2]; simp
  rw [List.take_of_length_le (Nat.le_of_eq e2), List.take_of_length_le (Nat.le_of_eq e3), List.append_assoc]
theorem fits25O_ok (l : List Ed) (h : Hs) (k a n : Int) (names : List Nm) (hl : h.length ≤ 1000000) (hnm : names.length ≤ 1000000) (hf : (cat h).length ≤ 1000000) (hk2 : ¬ k = 2) (hk5 : ¬ k = 5) (hk6 : ¬ k = 6) : Ok Tryz.prog 81 [edsD l, cmD h, actD k a n names] ⟨.d (I64 (fitsC l h k a n names)), true⟩ := by
  refine Ok.ret Tryz.func81 (by kernel_rfl) (c := _) rfl Tryz.ntmps81 (by simp) Tryz.results81 (by intro _ h; cases h) fun w0 X hp => ?_
  refine LWp.seq ?_
  refine LWp.rz hT hW ?_
  simp
  refine LWp.seq ?_
  refine LWp.rz hT hW ?_
  simp [cmD]
  refine LWp.seq ?_
  refine LWp.seq ?_
  refine LWp.rz hT hW ?_
  simp
  refine LWp.iff ?_
  simp
  refine ⟨fun h2 => ?_, fun g1 g2 => ?_⟩
  · refine LWp.seq ?_
    refine LWp.rz hT hW ?_
    simp
    refine LWp.ret ?_
    simp [fits_1 (show k < 0 ∨ 7 ≤ k by omega)]
  · refine LWp.skip ?_
    simp
    refine LWp.seq ?_
    refine LWp.seq ?_
    refine LWp.rz hT hW ?_
    simp
    refine LWp.iff ?_
    simp
    refine ⟨fun h4 => ?_, fun h4 => ?_⟩
    · refine LWp.seq ?_
      refine LWp.rz hT hW ?_
      simp
      refine LWp.ret ?_
      simp [h4, fits_0]
    · refine LWp.skip ?_
      simp
      refine LWp.seq ?_
      refine LWp.seq ?_
      refine LWp.weak (Weak.shrink [0, 4, 5, 7] [(4, 4), (5, 5)] (by decide) (by decide) (by simp [hp])) ?_
      simp
      refine LWp.rz hT hW ?_
      simp
      refine LWp.iff ?_
      simp
      refine ⟨fun h6 => ?_, fun g3 g4 => ?_⟩
      · refine LWp.seq ?_
        refine LWp.rz hT hW ?_
        simp
        refine LWp.ret ?_
        simp [fits_5 (by omega) h4 (h6.elim .inl fun q => .inr (.inl q))]
      · refine LWp.skip ?_
        simp
        refine LWp.seq ?_
        refine LWp.seq ?_
        refine LWp.rz hT hW ?_
        simp
        refine ⟨by omega, ?_⟩
        refine LWp.iff ?_
        simp
        refine ⟨fun h8 => ?_, fun m1 m2 => ?_⟩
        · refine LWp.seq ?_
          refine LWp.rz hT hW ?_
          simp
          refine LWp.ret ?_
          simp [fits_5 (by omega) h4 (.inr (.inr (by simp [actBad]; rcases h8 with h8 | h8; exact .inl h8; exact .inr ⟨h8.1, by omega⟩)))]
        · refine LWp.skip ?_
          simp
          refine LWp.seq ?_
          obtain ⟨i, hi, rfl, hgd⟩ := getD_h g3 g4
          have hil : h[i].length ≤ 1000000 := by
            have q1 := cat_le hi
            have q2 := cat_tot (h := h) (i + 1)
            omega
          refine LWp.rz hT hW ?_
          simp [hi]
          refine LWp.seq ?_
          refine LWp.seq ?_
          refine LWp.weak (Weak.shrink [0, 4, 5, 8] [(4, 4), (5, 5)] (by decide) (by decide) (by simp [hp])) ?_
          simp
          refine LWp.ro hT hW (fun | 0 => none | _ => none) ?_
          simp [hk2]
          refine LWp.iff ?_
          simp [hk2]
          refine LWp.skip ?_
          simp
          refine LWp.seq ?_
          refine LWp.seq ?_
          refine LWp.rz hT hW ?_
          simp [hk5, hk6]
          refine LWp.iff ?_
          simp [hk5, hk6]
          refine LWp.skip ?_
          simp
          refine LWp.seq ?_
          refine LWp.rz hT hW ?_
          simp
          refine LWp.ret ?_
          have hb : actBad h k (i : Int) n = false := by
            rw [Bool.eq_false_iff]
            intro q
            simp [actBad] at q
            rcases q with ⟨q1, q2⟩ | ⟨q1, q2⟩
            · have := m1 q1; omega
            · have := m2 q1; omega
          simp [fits_go (by omega) h4 (by omega) hb, hk2, hk5, hk6]
theorem fits252_ok (l : List Ed) (h : Hs) (a n : Int) (names : List Nm) (hl : h.length ≤ 1000000) (hnm : names.length ≤ 1000000) (hf : (cat h).length ≤ 1000000) : Ok Tryz.prog 81 [edsD l, cmD h, actD 2 a n names] ⟨.d (I64 (fitsC l h 2 a n names)), true⟩ := by
  refine Ok.ret Tryz.func81 (by kernel_rfl) (c := _) rfl Tryz.ntmps81 (by simp) Tryz.results81 (by intro _ h; cases h) fun w0 X hp => ?_
  refine LWp.seq ?_
  refine LWp.rz hT hW ?_
  simp
  refine LWp.seq ?_
  refine LWp.rz hT hW ?_
  simp [cmD]
  refine LWp.seq ?_
  refine LWp.seq ?_
  refine LWp.rz hT hW ?_
  simp
  refine LWp.iff ?_
  simp
  refine LWp.skip ?_
  simp
  refine LWp.seq ?_
  refine LWp.seq ?_
  refine LWp.rz hT hW ?_
  simp
  refine LWp.iff ?_
  simp
  refine LWp.skip ?_
  simp
  refine LWp.seq ?_
  refine LWp.seq ?_
  refine LWp.weak (Weak.shrink [0, 4, 5, 7] [(4, 4), (5, 5)] (by decide) (by decide) (by simp [hp])) ?_
  simp
  refine LWp.rz hT hW ?_
  simp
  refine LWp.iff ?_
  simp
  refine ⟨fun h6 => ?_, fun g3 g4 => ?_⟩
  · refine LWp.seq ?_
    refine LWp.rz hT hW ?_
    simp
    refine LWp.ret ?_
    simp [fits_5 (l := l) (h := h) (k := 2) (a := a) (n := n) (names := names) (by omega) (by omega) (h6.elim .inl fun q => .inr (.inl q))]
  · refine LWp.skip ?_
    simp
    refine LWp.seq ?_
    refine LWp.seq ?_
    refine LWp.rz hT hW ?_
    simp
    refine LWp.iff ?_
    simp
    refine LWp.skip ?_
    simp
    refine LWp.seq ?_
    obtain ⟨i, hi, rfl, hgd⟩ := getD_h g3 g4
    have hil : h[i].length ≤ 1000000 := by
      have q1 := cat_le hi
      have q2 := cat_tot (h := h) (i + 1)
      omega
    refine LWp.rz hT hW ?_
    simp [hi]
    refine LWp.seq ?_
    refine LWp.seq ?_
    refine LWp.weak (Weak.shrink [0, 4, 5, 8] [(4, 4), (5, 5)] (by decide) (by decide) (by simp [hp])) ?_
    simp
    refine LWp.ro hT hW (fun | 92 => some <| .plain ⟨.d (.bool (incr Nm.less names)), true⟩ | 99 => some <| .plain ⟨.d (.bool (partB names h[i])), true⟩ | _ => none) ?_
    simp
    refine ⟨⟨fun _ _ => by simpa using Rising_ok names hnm, fun _ _ _ => by simpa using part_ok names h[i] hnm⟩, ?_⟩
    refine LWp.iff ?_
    simp
    refine ⟨fun h13 => ?_, fun m1 m2 m3 m4 => ?_⟩
    · refine LWp.seq ?_
      refine LWp.rz hT hW ?_
      simp
      refine LWp.ret ?_
      rw [fits_go (by omega) (by omega) (by omega) (by simp [actBad]), hgd]
      have hsb : splitBad h[i] names = true := by simp [splitBad]; simpa using h13
      simp [hsb]
    · refine LWp.skip ?_
      simp
      refine LWp.seq ?_
      refine LWp.seq ?_
      refine LWp.rz hT hW ?_
      simp
      refine LWp.iff ?_
      simp
      refine LWp.skip ?_
      simp
      refine LWp.seq ?_
      refine LWp.rz hT hW ?_
      simp
      refine LWp.ret ?_
      rw [fits_go (by omega) (by omega) (by omega) (by simp [actBad]), hgd]
      have hsb : splitBad h[i] names = false := by simp [splitBad]; exact ⟨⟨⟨m1, m2⟩, by simpa using m3⟩, by simpa using m4⟩
      simp [hsb]
theorem fits255a_ok (l : List Ed) (h : Hs) (a n : Int) (m : Nm) (hl : h.length ≤ 1000000) (hf : (cat h).length ≤ 1000000) : Ok Tryz.prog 81 [edsD l, cmD h, actD 5 a n [m]] ⟨.d (I64 (fitsC l h 5 a n [m])), true⟩ := by
  refine Ok.ret Tryz.func81 (by kernel_rfl) (c := _) rfl Tryz.ntmps81 (by simp) Tryz.results81 (by intro _ h; cases h) fun w0 X hp => ?_
  refine LWp.seq ?_
  refine LWp.rz hT hW ?_
  simp
  refine LWp.seq ?_
  refine LWp.rz hT hW ?_
  simp [cmD]
  refine LWp.seq ?_
  refine LWp.seq ?_
  refine LWp.rz hT hW ?_
  simp
  refine LWp.iff ?_
  simp
  refine LWp.skip ?_
  simp
  refine LWp.seq ?_
  refine LWp.seq ?_
  refine LWp.rz hT hW ?_
  simp
  refine LWp.iff ?_
  simp
  refine LWp.skip ?_
  simp
  refine LWp.seq ?_
  refine LWp.seq ?_
  refine LWp.weak (Weak.shrink [0, 4, 5, 7] [(4, 4), (5, 5)] (by decide) (by decide) (by simp [hp])) ?_
  simp
  refine LWp.rz hT hW ?_
  simp
  refine LWp.iff ?_
  simp
  refine ⟨fun h6 => ?_, fun g3 g4 => ?_⟩
  · refine LWp.seq ?_
    refine LWp.rz hT hW ?_
    simp
    refine LWp.ret ?_
    simp [fits_5 (l := l) (h := h) (k := 5) (a := a) (n := n) (names := [m]) (by omega) (by omega) (h6.elim .inl fun q => .inr (.inl q))]
  · refine LWp.skip ?_
    simp
    refine LWp.seq ?_
    refine LWp.seq ?_
    refine LWp.rz hT hW ?_
    simp
    refine LWp.iff ?_
    simp
    refine LWp.skip ?_
    simp
    refine LWp.seq ?_
    obtain ⟨i, hi, rfl, hgd⟩ := getD_h g3 g4
    have hil : h[i].length ≤ 1000000 := by
      have q1 := cat_le hi
      have q2 := cat_tot (h := h) (i + 1)
      omega
    refine LWp.rz hT hW ?_
    simp [hi]
    refine LWp.seq ?_
    refine LWp.seq ?_
    refine LWp.weak (Weak.shrink [0, 4, 5, 8] [(4, 4), (5, 5)] (by decide) (by decide) (by simp [hp])) ?_
    simp
    refine LWp.ro hT hW (fun | 0 => none | _ => none) ?_
    simp
    refine LWp.iff ?_
    simp
    refine LWp.skip ?_
    simp
    refine LWp.seq ?_
    refine LWp.seq ?_
    refine LWp.rz hT hW ?_
    simp
    refine LWp.iff ?_
    simp
    refine LWp.seq ?_
    refine LWp.seq ?_
    refine LWp.weak (Weak.shrink [0, 4, 5, 8] [(4, 4), (5, 5)] (by decide) (by decide) (by simp [hp])) ?_
    simp
    refine LWp.ro hT hW (fun | 121 => some <| .plain ⟨.d (I64 (findI l m)), true⟩ | _ => none) ?_
    simp
    refine ⟨by simpa using Find_ok l m, ?_⟩
    refine LWp.iff ?_
    simp
    refine ⟨fun h14 => ?_, fun h14 => ?_⟩
    · refine LWp.seq ?_
      refine LWp.rz hT hW ?_
      simp
      refine LWp.ret ?_
      rw [fits_go (by omega) (by omega) (by omega) (by simp [actBad]), hgd]
      simp [h14]
    · refine LWp.skip ?_
      simp
      refine LWp.seq ?_
      refine LWp.ro hT hW (fun | 129 => some <| .plain ⟨.d (nmsD (needsOf l m)), false⟩ | _ => none) ?_
      simp
      refine ⟨by simpa using Needs_ok l m, ?_⟩
      refine LWp.seq ?_
      refine LWp.weak (Weak.shrink [5, 8, 9] [(5, 5)] (by decide) (by decide) (by simp [hp])) ?_
      simp
      refine LWp.ro hT hW (fun | 136 => some <| .plain ⟨.d (.bool (partB h[i] (needsOf l m))), true⟩ | _ => none) ?_
      simp
      refine ⟨by simpa using part_ok h[i] (needsOf l m) hil, ?_⟩
      refine LWp.iff ?_
      simp
      refine ⟨fun h17 => ?_, fun h17 => ?_⟩
      · refine LWp.seq ?_
        refine LWp.rz hT hW ?_
        simp
        refine LWp.ret ?_
        rw [fits_go (by omega) (by omega) (by omega) (by simp [actBad]), hgd]
        have hub : undoBad 5 h[i] (needsOf l m) = true := by simp [undoBad, h17]
        simp [show ¬ findI l m < 0 by omega, hub]
      · refine LWp.skip ?_
        simp
        refine LWp.seq ?_
        refine LWp.rz hT hW ?_
        simp
        refine LWp.ret ?_
        rw [fits_go (by omega) (by omega) (by omega) (by simp [actBad]), hgd]
        have hub : undoBad 5 h[i] (needsOf l m) = false := by simp [undoBad, h17]
        simp [show ¬ findI l m < 0 by omega, hub]
theorem fits255b_ok (l : List Ed) (h : Hs) (a n : Int) (names : List Nm) (hn1 : ¬ ((names.length : Int) = 1)) (hl : h.length ≤ 1000000) (hnm : names.length ≤ 1000000) (hf : (cat h).length ≤ 1000000) : Ok Tryz.prog 81 [edsD l, cmD h, actD 5 a n names] ⟨.d (I64 (fitsC l h 5 a n names)), true⟩ := by
  refine Ok.ret Tryz.func81 (by kernel_rfl) (c := _) rfl Tryz.ntmps81 (by simp) Tryz.results81 (by intro _ h; cases h) fun w0 X hp => ?_
  refine LWp.seq ?_
  refine LWp.rz hT hW ?_
  simp
  refine LWp.seq ?_
  refine LWp.rz hT hW ?_
  simp [cmD]
  refine LWp.seq ?_
  refine LWp.seq ?_
  refine LWp.rz hT hW ?_
  simp
  refine LWp.iff ?_
  simp
  refine LWp.skip ?_
  simp
  refine LWp.seq ?_
  refine LWp.seq ?_
  refine LWp.rz hT hW ?_
  simp
  refine LWp.iff ?_
  simp
  refine LWp.skip ?_
  simp
  refine LWp.seq ?_
  refine LWp.seq ?_
  refine LWp.weak (Weak.shrink [0, 4, 5, 7] [(4, 4), (5, 5)] (by decide) (by decide) (by simp [hp])) ?_
  simp
  refine LWp.rz hT hW ?_
  simp
  refine LWp.iff ?_
  simp
  refine ⟨fun h6 => ?_, fun g3 g4 => ?_⟩
  · refine LWp.seq ?_
    refine LWp.rz hT hW ?_
    simp
    refine LWp.ret ?_
    simp [fits_5 (l := l) (h := h) (k := 5) (a := a) (n := n) (names := names) (by omega) (by omega) (h6.elim .inl fun q => .inr (.inl q))]
  · refine LWp.skip ?_
    simp
    refine LWp.seq ?_
    refine LWp.seq ?_
    refine LWp.rz hT hW ?_
    simp
    refine LWp.iff ?_
    simp
    refine LWp.skip ?_
    simp
    refine LWp.seq ?_
    obtain ⟨i, hi, rfl, hgd⟩ := getD_h g3 g4
    have hil : h[i].length ≤ 1000000 := by
      have q1 := cat_le hi
      have q2 := cat_tot (h := h) (i + 1)
      omega
    refine LWp.rz hT hW ?_
    simp [hi]
    refine LWp.seq ?_
    refine LWp.seq ?_
    refine LWp.weak (Weak.shrink [0, 4, 5, 8] [(4, 4), (5, 5)] (by decide) (by decide) (by simp [hp])) ?_
    simp
    refine LWp.ro hT hW (fun | 0 => none | _ => none) ?_
    simp
    refine LWp.iff ?_
    simp
    refine LWp.skip ?_
    simp
    refine LWp.seq ?_
    refine LWp.seq ?_
    refine LWp.rz hT hW ?_
    simp
    refine LWp.iff ?_
    simp
    refine LWp.seq ?_
    refine LWp.seq ?_
    refine LWp.weak (Weak.shrink [0, 4, 5, 8] [(4, 4), (5, 5)] (by decide) (by decide) (by simp [hp])) ?_
    simp
    refine LWp.ro hT hW (fun | 0 => none | _ => none) ?_
    simp [hn1]
    refine LWp.iff ?_
    simp
    refine LWp.seq ?_
    refine LWp.rz hT hW ?_
    simp
    refine LWp.ret ?_
    rw [fits_go (by omega) (by omega) (by omega) (by simp [actBad]), hgd]
    simp
    split
    · simp at hn1
    · rfl
theorem fits256a_ok (l : List Ed) (h : Hs) (a n : Int) (m : Nm) (hl : h.length ≤ 1000000) (hf : (cat h).length ≤ 1000000) : Ok Tryz.prog 81 [edsD l, cmD h, actD 6 a n [m]] ⟨.d (I64 (fitsC l h 6 a n [m])), true⟩ := by
  refine Ok.ret Tryz.func81 (by kernel_rfl) (c := _) rfl Tryz.ntmps81 (by simp) Tryz.results81 (by intro _ h; cases h) fun w0 X hp => ?_
  refine LWp.seq ?_
  refine LWp.rz hT hW ?_
  simp
  refine LWp.seq ?_
  refine LWp.rz hT hW ?_
  simp [cmD]
  refine LWp.seq ?_
  refine LWp.seq ?_
  refine LWp.rz hT hW ?_
  simp
  refine LWp.iff ?_
  simp
  refine LWp.skip ?_
  simp
  refine LWp.seq ?_
  refine LWp.seq ?_
  refine LWp.rz hT hW ?_
  simp
  refine LWp.iff ?_
  simp
  refine LWp.skip ?_
  simp
  refine LWp.seq ?_
  refine LWp.seq ?_
  refine LWp.weak (Weak.shrink [0, 4, 5, 7] [(4, 4), (5, 5)] (by decide) (by decide) (by simp [hp])) ?_
  simp
  refine LWp.rz hT hW ?_
  simp
  refine LWp.iff ?_
  simp
  refine ⟨fun h6 => ?_, fun g3 g4 => ?_⟩
  · refine LWp.seq ?_
    refine LWp.rz hT hW ?_
    simp
    refine LWp.ret ?_
    simp [fits_5 (l := l) (h := h) (k := 6) (a := a) (n := n) (names := [m]) (by omega) (by omega) (h6.elim .inl fun q => .inr (.inl q))]
  · refine LWp.skip ?_
    simp
    refine LWp.seq ?_
    refine LWp.seq ?_
    refine LWp.rz hT hW ?_
    simp
    refine LWp.iff ?_
    simp
    refine LWp.skip ?_
    simp
    refine LWp.seq ?_
    obtain ⟨i, hi, rfl, hgd⟩ := getD_h g3 g4
    have hil : h[i].length ≤ 1000000 := by
      have q1 := cat_le hi
      have q2 := cat_tot (h := h) (i + 1)
      omega
    refine LWp.rz hT hW ?_
    simp [hi]
    refine LWp.seq ?_
    refine LWp.seq ?_
    refine LWp.weak (Weak.shrink [0, 4, 5, 8] [(4, 4), (5, 5)] (by decide) (by decide) (by simp [hp])) ?_
    simp
    refine LWp.ro hT hW (fun | 0 => none | _ => none) ?_
    simp
    refine LWp.iff ?_
    simp
    refine LWp.skip ?_
    simp
    refine LWp.seq ?_
    refine LWp.seq ?_
    refine LWp.rz hT hW ?_
    simp
    refine LWp.iff ?_
    simp
    refine LWp.seq ?_
    refine LWp.seq ?_
    refine LWp.weak (Weak.shrink [0, 4, 5, 8] [(4, 4), (5, 5)] (by decide) (by decide) (by simp [hp])) ?_
    simp
    refine LWp.ro hT hW (fun | 121 => some <| .plain ⟨.d (I64 (findI l m)), true⟩ | _ => none) ?_
    simp
    refine ⟨by simpa using Find_ok l m, ?_⟩
    refine LWp.iff ?_
    simp
    refine ⟨fun h14 => ?_, fun h14 => ?_⟩
    · refine LWp.seq ?_
      refine LWp.rz hT hW ?_
      simp
      refine LWp.ret ?_
      rw [fits_go (by omega) (by omega) (by omega) (by simp [actBad]), hgd]
      simp [h14]
    · refine LWp.skip ?_
      simp
      refine LWp.seq ?_
      refine LWp.ro hT hW (fun | 129 => some <| .plain ⟨.d (nmsD (needsOf l m)), false⟩ | _ => none) ?_
      simp
      refine ⟨by simpa using Needs_ok l m, ?_⟩
      refine LWp.seq ?_
      refine LWp.weak (Weak.shrink [5, 8, 9] [(5, 5)] (by decide) (by decide) (by simp [hp])) ?_
      simp
      refine LWp.ro hT hW (fun | 146 => some <| .plain ⟨.d (nmsD (restN h[i] (needsOf l m))), true⟩ | _ => none) ?_
      simp
      refine ⟨by simpa using rest_ok h[i] (needsOf l m) hil, ?_⟩
      refine LWp.iff ?_
      simp
      refine ⟨fun h17 => ?_, fun h17 => ?_⟩
      · refine LWp.seq ?_
        refine LWp.rz hT hW ?_
        simp
        refine LWp.ret ?_
        rw [fits_go (by omega) (by omega) (by omega) (by simp [actBad]), hgd]
        have hub : undoBad 6 h[i] (needsOf l m) = true := by rw [undoBad, ← rest_lt]; simpa using h17
        simp [show ¬ findI l m < 0 by omega, hub]
      · refine LWp.skip ?_
        simp
        refine LWp.seq ?_
        refine LWp.rz hT hW ?_
        simp
        refine LWp.ret ?_
        rw [fits_go (by omega) (by omega) (by omega) (by simp [actBad]), hgd]
        have hub : undoBad 6 h[i] (needsOf l m) = false := by rw [undoBad, ← rest_lt]; simpa using h17
        simp [show ¬ findI l m < 0 by omega, hub]
theorem fits256b_ok (l : List Ed) (h : Hs) (a n : Int) (names : List Nm) (hn1 : ¬ ((names.length : Int) = 1)) (hl : h.length ≤ 1000000) (hnm : names.length ≤ 1000000) (hf : (cat h).length ≤ 1000000) : Ok Tryz.prog 81 [edsD l, cmD h, actD 6 a n names] ⟨.d (I64 (fitsC l h 6 a n names)), true⟩ := by
  refine Ok.ret Tryz.func81 (by kernel_rfl) (c := _) rfl Tryz.ntmps81 (by simp) Tryz.results81 (by intro _ h; cases h) fun w0 X hp => ?_
  refine LWp.seq ?_
  refine LWp.rz hT hW ?_
  simp
  refine LWp.seq ?_
  refine LWp.rz hT hW ?_
  simp [cmD]
  refine LWp.seq ?_
  refine LWp.seq ?_
  refine LWp.rz hT hW ?_
  simp
  refine LWp.iff ?_
  simp
  refine LWp.skip ?_
  simp
  refine LWp.seq ?_
  refine LWp.seq ?_
  refine LWp.rz hT hW ?_
  simp
  refine LWp.iff ?_
  simp
  refine LWp.skip ?_
  simp
  refine LWp.seq ?_
  refine LWp.seq ?_
  refine LWp.weak (Weak.shrink [0, 4, 5, 7] [(4, 4), (5, 5)] (by decide) (by decide) (by simp [hp])) ?_
  simp
  refine LWp.rz hT hW ?_
  simp
  refine LWp.iff ?_
  simp
  refine ⟨fun h6 => ?_, fun g3 g4 => ?_⟩
  · refine LWp.seq ?_
    refine LWp.rz hT hW ?_
    simp
    refine LWp.ret ?_
    simp [fits_5 (l := l) (h := h) (k := 6) (a := a) (n := n) (names := names) (by omega) (by omega) (h6.elim .inl fun q => .inr (.inl q))]
  · refine LWp.skip ?_
    simp
    refine LWp.seq ?_
    refine LWp.seq ?_
    refine LWp.rz hT hW ?_
    simp
    refine LWp.iff ?_
    simp
    refine LWp.skip ?_
    simp
    refine LWp.seq ?_
    obtain ⟨i, hi, rfl, hgd⟩ := getD_h g3 g4
    have hil : h[i].length ≤ 1000000 := by
      have q1 := cat_le hi
      have q2 := cat_tot (h := h) (i + 1)
      omega
    refine LWp.rz hT hW ?_
    simp [hi]
    refine LWp.seq ?_
    refine LWp.seq ?_
    refine LWp.weak (Weak.shrink [0, 4, 5, 8] [(4, 4), (5, 5)] (by decide) (by decide) (by simp [hp])) ?_
    simp
    refine LWp.ro hT hW (fun | 0 => none | _ => none) ?_
    simp
    refine LWp.iff ?_
    simp
    refine LWp.skip ?_
    simp
    refine LWp.seq ?_
    refine LWp.seq ?_
    refine LWp.rz hT hW ?_
    simp
    refine LWp.iff ?_
    simp
    refine LWp.seq ?_
    refine LWp.seq ?_
    refine LWp.weak (Weak.shrink [0, 4, 5, 8] [(4, 4), (5, 5)] (by decide) (by decide) (by simp [hp])) ?_
    simp
    refine LWp.ro hT hW (fun | 0 => none | _ => none) ?_
    simp [hn1]
    refine LWp.iff ?_
    simp
    refine LWp.seq ?_
    refine LWp.rz hT hW ?_
    simp
    refine LWp.ret ?_
    rw [fits_go (by omega) (by omega) (by omega) (by simp [actBad]), hgd]
    simp
    split
    · simp at hn1
    · rfl
theorem fits25_ok (l : List Ed) (h : Hs) (k a n : Int) (names : List Nm) (hl : h.length ≤ 1000000) (hnm : names.length ≤ 1000000) (hf : (cat h).length ≤ 1000000) : Ok Tryz.prog 81 [edsD l, cmD h, actD k a n names] ⟨.d (I64 (fitsC l h k a n names)), true⟩ := by
  by_cases h2 : k = 2
  · subst h2; exact fits252_ok l h a n names hl hnm hf
  · by_cases h5 : k = 5
    · subst h5
      by_cases q : (names.length : Int) = 1
      · match names, q with
        | [m], _ => exact fits255a_ok l h a n m hl hf
      · exact fits255b_ok l h a n names q hl hnm hf
    · by_cases h6 : k = 6
      · subst h6
        by_cases q : (names.length : Int) = 1
        · match names, q with
          | [m], _ => exact fits256a_ok l h a n m hl hf
        · exact fits256b_ok l h a n names q hl hnm hf
      · exact fits25O_ok l h k a n names hl hnm hf h2 h5 h6
end
open Go.Proofs
section
attribute [local simp] Res.cond actD
def actH (h : Hs) (k a n : Int) (names : List Nm) : Hs :=
  if k = 1 then squashH h a.toNat n.toNat else if k = 2 then splitH h a.toNat names else if k = 3 then moveH h a.toNat n.toNat else if k = 4 then dropH h a.toNat else lastH h names
def doV (l : List Ed) (h : Hs) (k a n : Int) (names : List Nm) : Hs × Int :=
  if (validH l h).2 ≠ 0 then ([], (validH l h).2) else if fitsC l h k a n names ≠ 0 then ([], fitsC l h k a n names)
  else if (validH l (actH h k a n names)).2 ≠ 0 then ([], (validH l (actH h k a n names)).2) else (actH h k a n names, 0)
theorem doV_1 {l : List Ed} {h : Hs} {k a n : Int} {names : List Nm} (h1 : (validH l h).2 ≠ 0) : doV l h k a n names = ([], (validH l h).2) := if_pos h1
theorem doV_2 {l : List Ed} {h : Hs} {k a n : Int} {names : List Nm} (h1 : (validH l h).2 = 0) (h2 : fitsC l h k a n names ≠ 0) : doV l h k a n names = ([], fitsC l h k a n names) := by unfold doV; rw [if_neg (by simp [h1]), if_pos h2]
theorem doV_3 {l : List Ed} {h : Hs} {k a n : Int} {names : List Nm} (h1 : (validH l h).2 = 0) (h2 : fitsC l h k a n names = 0) (h3 : (validH l (actH h k a n names)).2 ≠ 0) : doV l h k a n names = ([], (validH l (actH h k a n names)).2) := by
  unfold doV; rw [if_neg (by simp [h1]), if_neg (by simp [h2]), if_pos h3]
theorem doV_4 {l : List Ed} {h : Hs} {k a n : Int} {names : List Nm} (h1 : (validH l h).2 = 0) (h2 : fitsC l h k a n names = 0) (h3 : (validH l (actH h k a n names)).2 = 0) : doV l h k a n names = (actH h k a n names, 0) := by
  unfold doV; rw [if_neg (by simp [h1]), if_neg (by simp [h2]), if_neg (by simp [h3])]
theorem fits_inv {l : List Ed} {h : Hs} {k a n : Int} {names : List Nm} (hf : fitsC l h k a n names = 0) : 0 ≤ k ∧ k < 7 ∧ (k ≠ 0 → 0 ≤ a ∧ a < h.length) ∧ (k = 1 → 1 ≤ n ∧ n ≤ h.length - a) ∧ (k = 3 → 0 ≤ n ∧ n < h.length) := by
  have h1 : ¬ (k < 0 ∨ 7 ≤ k) := fun q => by rw [fits_1 q] at hf; cases hf
  by_cases h0 : k = 0
  · subst h0; exact ⟨by omega, by omega, fun q => absurd rfl q, fun q => by omega, fun q => by omega⟩
  · have h2 : ¬ (a < 0 ∨ h.length ≤ a ∨ actBad h k a n = true) := fun q => by rw [fits_5 h1 h0 q] at hf; cases hf
    simp only [not_or] at h2
    obtain ⟨q1, q2, q3⟩ := h2
    simp only [actBad, Bool.or_eq_true, Bool.and_eq_true, decide_eq_true_eq, not_or, not_and] at q3
    refine ⟨by omega, by omega, fun _ => by omega, fun q => ?_, fun q => ?_⟩
    · have := q3.1 q; omega
    · have := q3.2 q; omega
theorem cat_drop_le {h : Hs} (i : Nat) : (cat (h.drop i)).length ≤ (cat h).length := by
  have := congrArg (fun l => (cat l).length) (List.take_append_drop i h)
  simp only [cat_app, List.length_append] at this
  omega
theorem cat_split {h : Hs} (i : Nat) : (cat (h.take i)).length + (cat (h.drop i)).length = (cat h).length := by
  have := congrArg (fun l => (cat l).length) (List.take_append_drop i h)
  simpa only [cat_app, List.length_append] using this
theorem cat_erase {h : Hs} {i : Nat} (hi : i < h.length) : (cat (h.eraseIdx i)).length + h[i].length = (cat h).length := by
  have e := cat_split (h := h) i
  rw [List.drop_eq_getElem_cons hi, cat_cons, List.length_append] at e
  rw [List.eraseIdx_eq_take_drop_succ, cat_app, List.length_append]
  omega
theorem act_bound {l : List Ed} {h : Hs} {k a n : Int} {names : List Nm} (hf : fitsC l h k a n names = 0) : (actH h k a n names).length ≤ h.length + 1 ∧ (cat (actH h k a n names)).length ≤ (cat h).length + names.length := by
  obtain ⟨f1, f2, f3, f4, f5⟩ := fits_inv hf
  unfold actH
  by_cases k1 : k = 1
  · rw [if_pos k1]
    have := f4 k1
    have := f3 (by omega)
    unfold squashH
    constructor
    · simp; omega
    · have e1 := cat_split (h := h) a.toNat
      have e2 := cat_split (h := h.drop a.toNat) n.toNat
      have e3 := sortN_len (cat ((h.drop a.toNat).take n.toNat))
      rw [List.drop_drop] at e2
      simp only [cat_app, cat_cons, List.length_append]
      omega
  · rw [if_neg k1]
    by_cases k2 : k = 2
    · rw [if_pos k2]
      have := f3 (by omega)
      have hi : a.toNat < h.length := by omega
      unfold splitH
      rw [List.getD_eq_getElem?_getD, List.getElem?_eq_getElem hi, Option.getD_some]
      constructor
      · simp; omega
      · have e1 := cat_split (h := h) a.toNat
        rw [List.drop_eq_getElem_cons hi, cat_cons, List.length_append] at e1
        have e3 : (restN h[a.toNat] names).length ≤ h[a.toNat].length := List.length_filter_le _ _
        simp only [cat_app, cat_cons, List.length_append]
        omega
    · rw [if_neg k2]
      by_cases k3 : k = 3
      · rw [if_pos k3]
        have := f5 k3
        have := f3 (by omega)
        have hi : a.toNat < h.length := by omega
        unfold moveH
        rw [List.getD_eq_getElem?_getD, List.getElem?_eq_getElem hi, Option.getD_some]
        constructor
        · simp [List.length_eraseIdx, hi]; omega
        · have e1 := cat_erase hi
          have e2 := cat_split (h := h.eraseIdx a.toNat) n.toNat
          simp only [cat_app, cat_cons, List.length_append]
          omega
      · rw [if_neg k3]
        by_cases k4 : k = 4
        · rw [if_pos k4]
          have := f3 (by omega)
          have hi : a.toNat < h.length := by omega
          unfold dropH
          have e1 := cat_erase hi
          constructor
          · simp [List.length_eraseIdx, hi]; omega
          · omega
        · rw [if_neg k4]
          unfold lastH
          constructor
          · simp
          · simp [cat_app, cat_cons, cat_nil]
theorem Do25_ok (l : List Ed) (h : Hs) (k a n : Int) (names : List Nm) (hs : small l) (hn : (allNeeds l).length ≤ 1000000) (hl : h.length ≤ 400000) (hf : (cat h).length ≤ 400000) (hnm : names.length ≤ 400000) : Ok Tryz.prog 34 [edsD l, cmD h, actD k a n names] ⟨.tup [.d (cmD (doV l h k a n names).1), .d (I64 (doV l h k a n names).2)], false⟩ := by
  refine Ok.many hT Tryz.func34 (by kernel_rfl) (c := _) rfl Tryz.ntmps34 (by simp) Tryz.results34 (by simp) (by rfl) fun w0 X hp => ?_
  refine LWp.seq ?_
  refine LWp.rz hT hW ?_
  simp
  refine LWp.seq ?_
  refine LWp.ro hT hW (fun | 20 => some <| .plain ⟨.tup [.d (I64 (validH l h).1), .d (I64 (validH l h).2)], true⟩ | _ => none) ?_
  simp [evalExtract, cmD]
  refine ⟨by simpa [cmD] using Valid25_ok l h hs hn (by omega) (by omega), ?_⟩
  refine LWp.seq ?_
  refine LWp.seq ?_
  refine LWp.rz hT hW ?_
  simp
  refine LWp.iff ?_
  simp
  refine ⟨fun h2 => ?_, fun h2 => ?_⟩
  · refine LWp.seq ?_
    refine LWp.rz hT hW ?_
    simp
    refine LWp.ret ?_
    simp [doV_1 h2, cmD]
  · refine LWp.skip ?_
    simp
    refine LWp.seq ?_
    refine LWp.ro hT hW (fun | 30 => some <| .plain ⟨.d (I64 (fitsC l h k a n names)), true⟩ | _ => none) ?_
    simp
    refine ⟨by simpa [cmD] using fits25_ok l h k a n names (by omega) (by omega) (by omega), ?_⟩
    refine LWp.seq ?_
    refine LWp.seq ?_
    refine LWp.rz hT hW ?_
    simp
    refine LWp.iff ?_
    simp
    refine ⟨fun h5 => ?_, fun h5 => ?_⟩
    · refine LWp.seq ?_
      refine LWp.rz hT hW ?_
      simp
      refine LWp.ret ?_
      simp [doV_2 h2 h5, cmD]
    · refine LWp.skip ?_
      simp
      refine LWp.seq ?_
      refine LWp.rz hT hW ?_
      simp
      refine LWp.seqCut (ι := Hs) (fun x => mkEnv [(0, .d (edsD l)), (6, .bx 6 0), (11, .bx 11 0)]) (fun x => mkObs [(6, .box false [.nl]), (11, .box false [.d (.sl (x.map nmsD))])]) (fun x => x = actH h k a n names) ?_ fun x hc24 => ?_
      · refine LWp.seq ?_
        obtain ⟨f1, f2, f3, f4, f5⟩ := fits_inv h5
        have hbd := act_bound h5
        refine LWp.rz hT hW ?_
        simp
        refine LWp.block ?_
        refine LWp.seq ?_
        refine LWp.rz hT hW ?_
        simp
        refine LWp.iff ?_
        simp
        refine ⟨fun h10 => ?_, fun h10 => ?_⟩
        · obtain ⟨q1, q2⟩ := f4 h10
          obtain ⟨q3, q4⟩ := f3 (by omega)
          obtain ⟨i0, rfl⟩ : ∃ i0 : Nat, a = (i0 : Int) := ⟨a.toNat, by omega⟩
          obtain ⟨n0, rfl⟩ : ∃ n0 : Nat, n = (n0 : Int) := ⟨n.toNat, by omega⟩
          refine LWp.seq ?_
          refine LWp.rz hT hW ?_
          simp
          refine LWp.seq ?_
          refine LWp.seq ?_
          refine LWp.rz hT hW ?_
          simp
          refine LWp.block ?_
          refine LWp.loopW (ι := Nat) (fun i => mkEnv [(0, .d (edsD l)), (4, .bx 4 0), (5, .bx 5 0), (6, .bx 6 0), (11, .bx 11 0), (12, .ow 12 0 (cat ((h.drop i0).take i)).length), (13, .d (I64 i))]) (fun i => mkObs [(4, .box false [.d (.sl (h.map nmsD))]), (5, .box false [.d (I64 k), .d (I64 i0), .d (I64 n0), .d (nmsD names)]), (6, .box false [.nl]), (11, .box false [.nl]), (12, .row false 2 ((cat ((h.drop i0).take i)).map Nm.d))]) (fun i => i ≤ n0) (fun i => n0 - i) 0 (Weak.to [0, 4, 5, 6, 11, 12, 13] [(4, 4), (5, 5), (6, 6), (11, 11), (12, 12)] (by decide) (by decide) (by simp [hp]) (by simp [cat_nil]) (by simp [cat_nil])) (Nat.zero_le _) fun i hi13 => ?_
          refine LWp.seq ?_
          refine LWp.seq ?_
          refine LWp.rz hT hW ?_
          simp
          refine LWp.iff ?_
          simp
          refine ⟨fun h13 => ?_, fun h13 => ?_⟩
          · refine LWp.skip ?_
            simp
            refine LWp.seq ?_
            refine LWp.block ?_
            have hil : i < (h.drop i0).length := by simp; omega
            have hig : (h.drop i0)[i] = h[i0 + i]'(by omega) := by simp
            have hf1 := cat_le hil
            rw [hig] at hf1
            have hf2 := cat_tot (h := h.drop i0) (i + 1)
            have hf3 := cat_drop_le (h := h) i0
            refine LWp.rz hT hW ?_
            simp [(show ((i0 : Int) + (i : Int)).toNat = i0 + i by omega), (show i0 + i < h.length by omega)]
            refine ⟨by omega, ?_⟩
            refine LWp.rz hT hW ?_
            simp
            refine ⟨by omega, ?_⟩
            refine loopQ.mk (i + 1) (Weak.to [0, 4, 5, 6, 11, 12, 13] [(4, 4), (5, 5), (6, 6), (11, 11), (68, 12)] (by decide) (by decide) (by simp [hp]) (by simp [cat_le hil, hig]) (by simp [cat_succ hil, hig])) ?_ ?_
            · exact h13
            · omega
          · refine LWp.exit ?_
            simp
            have hi : i = n0 := by omega
            subst hi
            obtain ⟨one, hone⟩ : ∃ one, one = cat ((h.drop i0).take i) := ⟨_, rfl⟩
            have hf2 := cat_tot (h := h.drop i0) i
            have hf3 := cat_drop_le (h := h) i0
            rw [← hone] at hf2 ⊢
            have hrp := replaced_ok h [sortN one] i0 (i0 + i) (by omega) (by omega) (by omega) (by simp)
            refine LWp.regAny hT hW hMixed (lk [[],[0],[],[2],[],[4],[],[6],[4,5,6,7],[],[9],[9,10],[0,1,2,3,4,5,6,7,8,9,10,11],[0,1,2,3,4,5,6,7,8,9,10,11,12],[0,1,2,3,4,5,6,7,8,9,10,11,12,13]]) (lk [[79,80],[79,80],[79,80],[79,80],[79,80],[79,80],[79,80],[79,80],[79,80],[],[],[],[],[],[]]) (lk [[],[],[],[],[],[],[],[],[],[],[79],[80],[80,81],[],[11]]) (by kernel_rfl) (fun | 79 => some <| .plain ⟨.d (nmsD (sortN one)), true⟩ | 81 => some <| .plain ⟨.d (.sl ((h.take i0 ++ ([sortN one] ++ h.drop (i0 + i))).map nmsD)), false⟩ | _ => none) (by intro d; first | exact ⟨rfl, fun _ h => h⟩ | (split <;> exact ⟨rfl, fun _ h => h⟩)) ?_
            simp
            refine ⟨⟨⟨by omega, by simpa using Sort_ok one (by omega)⟩, by simpa using hrp⟩, ?_⟩
            refine cutQ.mk (squashH h i0 i) (Weak.to [0, 6, 11] [(6, 6), (11, 11)] (by decide) (by decide) (by simp [hp]) (by simp) (by simp [squashH, hone])) ?_
            simp [actH, h10]
        · refine LWp.seq ?_
          refine LWp.rz hT hW ?_
          simp
          refine LWp.iff ?_
          simp
          refine ⟨fun h17 => ?_, fun h17 => ?_⟩
          · obtain ⟨q3, q4⟩ := f3 (by omega)
            obtain ⟨i0, rfl⟩ : ∃ i0 : Nat, a = (i0 : Int) := ⟨a.toNat, by omega⟩
            have hil : i0 < h.length := by omega
            have hir : h[i0].length ≤ 1000000 := by
              have q1 := cat_le hil
              have q2 := cat_tot (h := h) (i0 + 1)
              omega
            have hrp := replaced_ok h [names, restN h[i0] names] i0 (i0 + 1) (by omega) (by omega) (by omega) (by simp)
            refine LWp.regAny hT hW hMixed (lk [[],[0],[],[2],[],[4],[4,5],[],[7],[],[9],[],[11],[9,10,11,12],[9,10,11,12,13],[],[15],[9,10,11,12,13,14,15,16],[7,8,9,10,11,12,13,14,15,16,17],[0,1,2,3,4,5,6,7,8,9,10,11,12,13,14,15,16,17,18],[0,1,2,3,4,5,6,7,8,9,10,11,12,13,14,15,16,17,18,19],[0,1,2,3,4,5,6,7,8,9,10,11,12,13,14,15,16,17,18,19,20]]) (lk [[102,103],[102,103],[102,103],[102,103],[102,103],[102,103],[102,103],[102],[102],[],[],[],[],[],[],[],[],[],[],[],[],[]]) (lk [[],[],[],[],[],[],[],[],[],[],[],[],[],[],[],[],[],[102],[103],[103,104],[],[11]]) (by kernel_rfl) (fun | 102 => some <| .plain ⟨.d (nmsD (restN h[i0] names)), true⟩ | 104 => some <| .plain ⟨.d (.sl ((h.take i0 ++ ([names, restN h[i0] names] ++ h.drop (i0 + 1))).map nmsD)), false⟩ | _ => none) (by intro d; first | exact ⟨rfl, fun _ h => h⟩ | (split <;> exact ⟨rfl, fun _ h => h⟩)) ?_
            simp [hil]
            refine ⟨⟨⟨⟨by omega, by simpa using rest_ok h[i0] names hir⟩, by decide⟩, by simpa using hrp⟩, ?_⟩
            refine cutQ.mk (splitH h i0 names) (Weak.to [0, 6, 11] [(6, 6), (11, 11)] (by decide) (by decide) (by simp [hp]) (by simp) (by simp [splitH, List.getD_eq_getElem?_getD, show i0 < h.length by omega])) ?_
            simp [actH, h17]
          · refine LWp.seq ?_
            refine LWp.rz hT hW ?_
            simp
            refine LWp.iff ?_
            simp
            refine ⟨fun h19 => ?_, fun h19 => ?_⟩
            · refine LWp.seq ?_
              obtain ⟨q3, q4⟩ := f3 (by omega)
              obtain ⟨q1, q2⟩ := f5 h19
              obtain ⟨i0, rfl⟩ : ∃ i0 : Nat, a = (i0 : Int) := ⟨a.toNat, by omega⟩
              obtain ⟨n0, rfl⟩ : ∃ n0 : Nat, n = (n0 : Int) := ⟨n.toNat, by omega⟩
              have hil : i0 < h.length := by omega
              have hrp := replaced_ok h [] i0 (i0 + 1) (by omega) (by omega) (by omega) (by simp)
              have he : h.eraseIdx i0 = h.take i0 ++ ([] ++ h.drop (i0 + 1)) := by rw [List.eraseIdx_eq_take_drop_succ, List.nil_append]
              rw [← he] at hrp
              have hel : (h.eraseIdx i0).length = h.length - 1 := by simp [List.length_eraseIdx, hil]
              have hrq := replaced_ok (h.eraseIdx i0) [h[i0]] n0 n0 (by omega) (by omega) (by omega) (by simp)
              refine LWp.ro hT hW (fun | 115 => some <| .plain ⟨.d (.sl ((h.eraseIdx i0).map nmsD)), false⟩ | _ => none) ?_
              simp
              refine ⟨⟨by omega, by simpa using hrp⟩, ?_⟩
              refine LWp.regAny hT hW hMixed (lk [[],[],[1],[],[3],[],[5],[],[7],[5,6,7,8],[5,6,7,8,9],[5,6,7,8,9,10],[0,1,2,3,4,5,6,7,8,9,10,11],[0,1,2,3,4,5,6,7,8,9,10,11,12],[0,1,2,3,4,5,6,7,8,9,10,11,12,13]]) (lk [[127],[127],[127],[127],[127],[],[],[],[],[],[],[],[],[],[]]) (lk [[],[],[],[],[],[],[],[],[],[],[],[127],[127,128],[],[11]]) (by kernel_rfl) (fun | 128 => some <| .plain ⟨.d (.sl (((h.eraseIdx i0).take n0 ++ ([h[i0]] ++ (h.eraseIdx i0).drop n0)).map nmsD)), false⟩ | _ => none) (by intro d; first | exact ⟨rfl, fun _ h => h⟩ | (split <;> exact ⟨rfl, fun _ h => h⟩)) ?_
              simp [hil]
              refine ⟨by simpa using hrq, ?_⟩
              refine cutQ.mk (moveH h i0 n0) (Weak.to [0, 6, 11] [(6, 6), (11, 11)] (by decide) (by decide) (by simp [hp]) (by simp) (by simp [moveH, he, List.getD_eq_getElem?_getD, show i0 < h.length by omega])) ?_
              simp [actH, h19]
            · refine LWp.seq ?_
              refine LWp.rz hT hW ?_
              simp
              refine LWp.iff ?_
              simp
              refine ⟨fun h22 => ?_, fun h22 => ?_⟩
              · obtain ⟨q3, q4⟩ := f3 (by omega)
                obtain ⟨i0, rfl⟩ : ∃ i0 : Nat, a = (i0 : Int) := ⟨a.toNat, by omega⟩
                have hil : i0 < h.length := by omega
                have hrp := replaced_ok h [] i0 (i0 + 1) (by omega) (by omega) (by omega) (by simp)
                refine LWp.ro hT hW (fun | 139 => some <| .plain ⟨.d (.sl ((h.take i0 ++ ([] ++ h.drop (i0 + 1))).map nmsD)), false⟩ | _ => none) ?_
                simp
                refine ⟨⟨by omega, by simpa using hrp⟩, ?_⟩
                refine cutQ.mk (dropH h i0) (Weak.to [0, 6, 11] [(6, 6), (11, 11)] (by decide) (by decide) (by simp [hp]) (by simp) (by simp [dropH, List.eraseIdx_eq_take_drop_succ])) ?_
                simp [actH, h22]
              · have hrp := replaced_ok h [names] h.length h.length (by omega) (by omega) (by omega) (by simp)
                refine LWp.ro hT hW (fun | 49 => some <| .plain ⟨.d (.sl ((h.take h.length ++ ([names] ++ h.drop h.length)).map nmsD)), false⟩ | _ => none) ?_
                simp
                refine ⟨by simpa using hrp, ?_⟩
                refine cutQ.mk (lastH h names) (Weak.to [0, 6, 11] [(6, 6), (11, 11)] (by decide) (by decide) (by simp [hp]) (by simp) (by simp [lastH])) ?_
                simp [actH, h10, h17, h19, h22]
      · refine LWp.seq ?_
        subst hc24
        have hbd := act_bound h5
        refine LWp.ro hT hW (fun | 144 => some <| .plain ⟨.tup [.d (I64 (validH l (actH h k a n names)).1), .d (I64 (validH l (actH h k a n names)).2)], true⟩ | _ => none) ?_
        simp [evalExtract]
        refine ⟨by simpa [cmD] using Valid25_ok l (actH h k a n names) hs hn (by omega) (by omega), ?_⟩
        refine LWp.seq ?_
        refine LWp.seq ?_
        refine LWp.rz hT hW ?_
        simp
        refine LWp.iff ?_
        simp
        refine ⟨fun h25 => ?_, fun h25 => ?_⟩
        · refine LWp.seq ?_
          refine LWp.rz hT hW ?_
          simp
          refine LWp.ret ?_
          simp [doV_3 h2 h5 h25, cmD]
        · refine LWp.skip ?_
          simp
          refine LWp.seq ?_
          refine LWp.rz hT hW ?_
          simp
          refine LWp.ret ?_
          simp [doV_4 h2 h5 h25, cmD]
end
open Go.Proofs
section
attribute [local simp] Res.cond actD
theorem OkGR.mono {P : Program} {f : FuncId} {args : List LV} {o : List (Nat × LObj)} {Rel Rel' : List (Nat × LObj) → LV → Prop} (h : OkGR P f args o Rel) (hr : ∀ fin ret, Rel fin ret → Rel' fin ret) : OkGR P f args o Rel' :=
  ⟨h.1, fun w X β vs m hl hv => (h.2 w X β vs m hl hv).mono fun _ _ ⟨v, β', fin, ret, h0, h1, h2, h3⟩ => ⟨v, β', fin, ret, hr _ _ h0, h1, h2, h3⟩⟩
theorem Weak.ocNl {w0 : Base} {env : Env} {H : Obs} {t id k : Nat} (he : env t = .oc id k 0 0) (hl : (H id).live = true) : Weak w0 env H (upd env t .nl) H := by
  intro N X β a w s
  refine ⟨β, s.defers, s.size, s.ext, s.xold, s.fresh, s.inj, fun u => ?_, s.obj, s.pin⟩
  unfold upd
  split
  · rename_i e
    subst e
    have := s.env u
    rw [he] at this
    generalize a.tmps.getD u undef = v at this
    cases this with
    | oc _ _ _ _ p => exact .nl p
    | ocdead _ _ _ _ _ hd => rw [hd] at hl; cases hl
  · exact s.env u
theorem CloneH0_ok  : OkG Tryz.prog 79 [.d (.sl [])] [] [] (.nl) := by
  refine OkG.one Tryz.func79 (by kernel_rfl) (c := _) rfl Tryz.ntmps79 (by simp) Tryz.results79 fun w0 X hp => ?_
  refine LWp.seq ?_
  refine LWp.rz hT hW ?_
  simp
  refine LWp.seq ?_
  refine LWp.seq ?_
  refine LWp.regNil hT hW 4 true (fun _ => none) (fun _ => ⟨rfl, fun _ h => h⟩) (by kernel_rfl) fun b1 hb1 => ?_
  simp
  refine LWp.iff ?_
  simp
  refine ⟨fun h1 => ?_, fun h1 => ?_⟩
  · refine LWp.seq ?_
    refine LWp.rz hT hW ?_
    simp
    refine LWp.ret ?_
    simp
    exact Weak.to [2] [] (by decide) (by decide) (by simp [hp]) (by simp) (by simp)
  · refine LWp.skip ?_
    simp
    refine LWp.seq ?_
    refine LWp.ro hT hW (fun | 5 => some .inp | _ => none) ?_
    simp
    refine LWp.weak (Weak.ocNl (t := 2) (id := 5) (k := 0) (by simp) (by simp)) ?_
    refine LWp.ret ?_
    simp
    exact Weak.to [2] [] (by decide) (by decide) (by simp [hp]) (by simp) (by simp)
def CloneR (h : Hs) (fin : List (Nat × LObj)) (ret : LV) : Prop := ∃ z : List DV, h.length + z.length ≤ maxLen ∧ (∀ y ∈ z, (cellsD y).length = 1) ∧ fin = [(7, .row false 1 (h.map nmsD ++ z))] ∧ ret = .oc 7 0 h.length (h.length + z.length)
theorem CloneH1_ok (h : Hs) (hl : h.length ≤ 1000000) (hne : h ≠ []) : OkGR Tryz.prog 79 [.d (.sl (h.map nmsD))] [] (CloneR h) :=
  (CloneH_ok h hl).mono fun fin ret hr => by
    rcases hr with ⟨q, _⟩ | ⟨c, h1, h2, h3, h4⟩
    · exact absurd q hne
    · exact ⟨List.replicate (c - h.length) (.sl []), by simp; omega, zero_one, h3, by rw [h4]; simp; omega⟩
theorem last00_ok (k a n : Int) (names : List Nm) : OkG Tryz.prog 134 [.nl, .d (actD k a n names)] [] [(9, .row false 1 [nmsD names])] (.ow 9 0 1) := by
  refine OkG.one Tryz.func134 (by kernel_rfl) (c := _) rfl Tryz.ntmps134 (by simp) Tryz.results134 fun w0 X hp => ?_
  refine LWp.seq ?_
  refine LWp.rz hT hW ?_
  simp
  refine LWp.seq ?_
  refine LWp.rz hT hW ?_
  simp
  refine LWp.ret ?_
  simp
  exact Weak.to [4] [(9, 9)] (by decide) (by decide) (by simp [hp]) (by simp) (by simp)
def actKeys : List DV := [I64 0, I64 5, I64 6, I64 1, I64 2, I64 3, I64 4]
def actF (k : Int) : FuncId := if k = 1 then 135 else if k = 2 then 137 else if k = 3 then 140 else if k = 4 then 143 else 134
def actFns : List DV := [.fn (actF 0) [], .fn (actF 5) [], .fn (actF 6) [], .fn (actF 1) [], .fn (actF 2) [], .fn (actF 3) [], .fn (actF 4) []]
theorem act_find {k : Int} (h0 : 0 ≤ k) (h1 : k < 7) : ∃ j, findD (I64 k) actKeys 0 = some (some j) ∧ actFns.getD j default = .fn (actF k) [] := by
  have : k = 0 ∨ k = 1 ∨ k = 2 ∨ k = 3 ∨ k = 4 ∨ k = 5 ∨ k = 6 := by omega
  rcases this with rfl | rfl | rfl | rfl | rfl | rfl | rfl
  · exact ⟨0, rfl, rfl⟩
  · exact ⟨3, rfl, rfl⟩
  · exact ⟨4, rfl, rfl⟩
  · exact ⟨5, rfl, rfl⟩
  · exact ⟨6, rfl, rfl⟩
  · exact ⟨1, rfl, rfl⟩
  · exact ⟨2, rfl, rfl⟩
theorem act_ok (l : List Ed) (h : Hs) (z : List DV) (k a n : Int) (names : List Nm) (hfit : fitsC l h k a n names = 0) (hl : h.length ≤ 1000000) (hf : (cat h).length ≤ 1000000) (hz : ∀ y ∈ z, (cellsD y).length = 1) (hm : h.length + z.length ≤ maxLen) :
    OkGR Tryz.prog (actF k) [.oc 0 0 h.length (h.length + z.length), .d (actD k a n names)] [(0, .row false 1 (h.map nmsD ++ z))] (ActR (actH h k a n names)) := by
  obtain ⟨f1, f2, f3, f4, f5⟩ := fits_inv hfit
  unfold actF actH
  by_cases k1 : k = 1
  · obtain ⟨q1, q2⟩ := f4 k1
    obtain ⟨q3, q4⟩ := f3 (by omega)
    have := acts1_ok h z k a.toNat n.toNat names hl hf hz hm (by omega) (by omega)
    rw [show ((a.toNat : Nat) : Int) = a by omega, show ((n.toNat : Nat) : Int) = n by omega] at this
    rw [if_pos k1, if_pos k1]; exact this
  · rw [if_neg k1, if_neg k1]
    by_cases k2 : k = 2
    · obtain ⟨q3, q4⟩ := f3 (by omega)
      have := acts2_ok h z k n a.toNat names hl hf hz hm (by omega)
      rw [show ((a.toNat : Nat) : Int) = a by omega] at this
      rw [if_pos k2, if_pos k2]; exact this
    · rw [if_neg k2, if_neg k2]
      by_cases k3 : k = 3
      · obtain ⟨q1, q2⟩ := f5 k3
        obtain ⟨q3, q4⟩ := f3 (by omega)
        have := acts3_ok h z k a.toNat n.toNat names hl hz hm (by omega) (by omega)
        rw [show ((a.toNat : Nat) : Int) = a by omega, show ((n.toNat : Nat) : Int) = n by omega] at this
        rw [if_pos k3, if_pos k3]; exact this
      · rw [if_neg k3, if_neg k3]
        by_cases k4 : k = 4
        · obtain ⟨q3, q4⟩ := f3 (by omega)
          have := acts4_ok h z k n a.toNat names hl hz hm (by omega)
          rw [show ((a.toNat : Nat) : Int) = a by omega] at this
          rw [if_pos k4, if_pos k4]; exact this
        · rw [if_neg k4, if_neg k4]
          exact last_ok h z k a n names hl hz
theorem acts_ok  : Ok Tryz.prog 78 [] ⟨.d (.mp actKeys actFns), false⟩ := by
  refine Ok.ret Tryz.func78 (by kernel_rfl) (c := _) rfl Tryz.ntmps78 (by simp) Tryz.results78 (by intro _ h; cases h) fun w0 X hp => ?_
  refine LWp.seq ?_
  refine LWp.rz hT hW ?_
  simp
  refine LWp.seq ?_
  refine LWp.rz hT hW ?_
  simp [evalMapUpdate]
  refine LWp.ret ?_
  simp [actKeys, actFns, actF]
end
open Go.Proofs
section
attribute [local simp] Res.cond actD
abbrev rv0 (m c : Nat) : LV := .oc 40 0 m c
abbrev rv1 (m _c : Nat) : LV := .ow 40 0 m
abbrev rw0 (_x : Hs) (L : List DV) : List DV := L
abbrev rw1 (x : Hs) (_L : List DV) : List DV := x.map nmsD
theorem get_row {x : Hs} {L : List DV} (h : L.take x.length = x.map nmsD) {i : Nat} (hi : i < x.length) : L[i]? = some (nmsD x[i]) := by
  have := congrArg (fun l => l[i]?) h
  simpa [List.getElem?_take, hi] using this
theorem set_row {L : List DV} {i : Nat} {d : DV} (h : L[i]? = some d) : L.set i d = L := by
  apply List.ext_getElem?
  intro j
  rw [List.getElem?_set]
  split
  · rename_i e
    subst e
    rw [h]
    split
    · rfl
    · have := (List.getElem?_eq_some_iff.1 h).1; omega
  · rfl
attribute [local simp] rv0 rv1 rw0 rw1
theorem Do1_ok (l : List Ed) (h : Hs) (k a n : Int) (names : List Nm) (hs : small l) (hn : (allNeeds l).length ≤ 1000000) (hl : h.length ≤ 400000) (hf : (cat h).length ≤ 400000) (hnm : names.length ≤ 400000) (hne : h ≠ []) : Ok Tryz.prog 32 [edsD l, cmD h, actD k a n names] ⟨.tup [.d (cmD (doV l h k a n names).1), .d (I64 (doV l h k a n names).2)], false⟩ := by
  refine Ok.many hT Tryz.func32 (by kernel_rfl) (c := _) rfl Tryz.ntmps32 (by simp) Tryz.results32 (by simp) (by rfl) fun w0 X hp => ?_
  refine LWp.seq ?_
  refine LWp.rz hT hW ?_
  simp
  refine LWp.seq ?_
  refine LWp.seq ?_
  refine LWp.ro hT hW (fun | 19 => some <| .plain ⟨.tup [.d (I64 (validH l h).1), .d (I64 (validH l h).2)], true⟩ | _ => none) ?_
  simp [evalExtract, cmD]
  refine ⟨by simpa [cmD] using hValid_ok l h hs hn (by omega) (by omega), ?_⟩
  refine LWp.seq ?_
  refine LWp.rz hT hW ?_
  simp
  refine LWp.iff ?_
  simp
  refine ⟨fun h2 => ?_, fun h2 => ?_⟩
  · refine LWp.seq ?_
    refine LWp.rz hT hW ?_
    simp
    refine LWp.ret ?_
    simp [doV_1 h2, cmD]
  · refine LWp.skip ?_
    simp
    refine LWp.seq ?_
    refine LWp.seq ?_
    refine LWp.ro hT hW (fun | 29 => some <| .plain ⟨.d (I64 (fitsC l h k a n names)), true⟩ | _ => none) ?_
    simp
    refine ⟨by simpa [cmD] using hfits_ok l h k a n names (by omega) (by omega) (by omega), ?_⟩
    refine LWp.seq ?_
    refine LWp.rz hT hW ?_
    simp
    refine LWp.iff ?_
    simp
    refine ⟨fun h5 => ?_, fun h5 => ?_⟩
    · refine LWp.seq ?_
      refine LWp.rz hT hW ?_
      simp
      refine LWp.ret ?_
      simp [doV_2 h2 h5, cmD]
    · refine LWp.skip ?_
      simp
      refine LWp.seq ?_
      obtain ⟨f1, f2, _⟩ := fits_inv h5
      have hbd := act_bound h5
      obtain ⟨jj, hj1, hj2⟩ := act_find f1 f2
      rw [List.getD_eq_getElem?_getD] at hj2
      have hact := fun (z : List DV) (q : h.length + z.length ≤ maxLen) (q2 : ∀ y ∈ z, (cellsD y).length = 1) => act_ok l h z k a n names h5 (by omega) (by omega) q2 q
      obtain ⟨x, hx⟩ : ∃ x, x = actH h k a n names := ⟨_, rfl⟩
      rw [← hx] at hact
      rw [← hx] at hbd
      refine LWp.anyGen2 hT hW hMixed (lk [[],[],[1],[0,1,2],[],[4],[0,4,5],[],[0,1,2,3,4,5,6,7],[0,1,2,3,4,5,6,7,8],[],[0,1,2,3,4,5,6,7,8,9,10]]) (lk [[11],[11,34,40],[11,34,40],[11,40],[11,34],[11,34],[11],[11,34,40],[11],[11],[34,40,42],[]]) (lk [[34],[],[],[],[],[],[40],[],[40,42],[],[11],[11]]) (by kernel_rfl) 40 42 (by decide) [] [(7, 40)] [] (CloneR h) [(7, .row false 1 (h.map nmsD ++ []))] (.oc 7 0 h.length (h.length + ([] : List DV).length)) ⟨[], by simp; unfold maxLen; omega, by simp, rfl, rfl⟩ [(40, 0)] [(9, 42)] [] (ActR x) [(0, .row false 1 []), (9, .row false 1 (x.map nmsD))] (.ow 9 0 x.length) (.inr ⟨[], rfl, rfl⟩) (fun | 34 => some <| .plain ⟨.d (.mp actKeys actFns), false⟩ | _ => none) (by intro d; first | exact ⟨rfl, fun _ h => h⟩ | (split <;> exact ⟨rfl, fun _ h => h⟩)) (by kernel_rfl) (by kernel_rfl) fun r7 q7 hr7 hq7 => ?_
      obtain ⟨fin1, ret1⟩ := r7
      obtain ⟨fin2, ret2⟩ := q7
      simp only at hr7 hq7
      obtain ⟨z, hz1, hz2, rfl, rfl⟩ := hr7
      rcases hq7 with ⟨L, c, hL1, hL2, hL3, hL4, rfl, rfl⟩ | ⟨L, rfl, rfl⟩
      · simp [evalLookup, hj1, hj2]
        have hr0 := hL4
        have hgt : ∀ i (hi : i < x.length), (rw0 x L)[i]? = some (nmsD x[i]) := fun i hi => get_row hL4 hi
        refine ⟨⟨⟨acts_ok, CloneH1_ok h (by omega) hne⟩, by simpa using hact z hz1 hz2⟩, ?_⟩
        refine LWp.seq ?_
        refine LWp.seq ?_
        refine LWp.ro hT hW (fun | 47 => some <| .plain ⟨.tup [.d (I64 (validH l x).1), .d (I64 (validH l x).2)], true⟩ | _ => none) ?_
        simp [evalExtract, hr0]
        refine ⟨by simpa [cmD] using hValid_ok l x hs hn (by omega) (by omega), ?_⟩
        refine LWp.seq ?_
        refine LWp.rz hT hW ?_
        simp
        refine LWp.iff ?_
        simp
        refine ⟨fun h9 => ?_, fun h9 => ?_⟩
        · refine LWp.seq ?_
          refine LWp.rz hT hW ?_
          simp
          refine LWp.ret ?_
          simp [doV_3 h2 h5 (hx ▸ h9), cmD, hx]
        · refine LWp.skip ?_
          simp
          refine LWp.seq ?_
          refine LWp.seq ?_
          refine LWp.rz hT hW ?_
          simp
          refine LWp.block ?_
          refine LWp.loopW (ι := Nat) (fun i => mkEnv [(6, .bx 6 0), (11, .bx 11 0), (55, rv0 x.length c), (56, .d (I64 x.length)), (57, .d (I64 i))]) (fun i => mkObs [(6, .box false [.nl]), (11, .box false [rv0 x.length c]), (40, .row false 1 (rw0 x L))]) (fun i => i ≤ x.length) (fun i => x.length - i) 0 (Weak.to [6, 11, 55, 56, 57] [(6, 6), (11, 11), (40 + 2 * 0, 40)] (by decide) (by decide) (by simp [hp]) (by simp) (by simp)) (Nat.zero_le _) fun i hi12 => ?_
          refine LWp.seq ?_
          refine LWp.rz hT hW ?_
          simp
          refine LWp.seq ?_
          refine LWp.iff ?_
          simp
          refine ⟨fun h12 => ?_, fun h12 => ?_⟩
          · refine LWp.skip ?_
            simp
            refine LWp.seq ?_
            refine LWp.block ?_
            refine LWp.seq ?_
            have hg := hgt i h12
            have hgl := (List.getElem?_eq_some_iff.1 hg).1
            refine LWp.rz hT hW ?_
            simp [hg]
            refine ⟨by first | exact ⟨h12, hgl⟩ | exact h12, ?_⟩
            have hset := set_row hg
            have hxi : x[i].length ≤ 1000000 := by
              have q1 := cat_le h12
              have q2 := cat_tot (h := x) (i + 1)
              omega
            refine LWp.regAny hT hW hMixed (lk [[],[0],[],[],[3],[0,1,2,3,4],[0,1,2,3,4,5]]) (lk [[66],[66],[66],[],[],[],[]]) (lk [[],[],[],[],[66],[],[40,66]]) (by kernel_rfl) (fun | 66 => some <| .plain ⟨.own 2 (x[i].map Nm.d), true⟩ | _ => none) (by intro d; first | exact ⟨rfl, fun _ h => h⟩ | (split <;> exact ⟨rfl, fun _ h => h⟩)) ?_
            simp
            refine ⟨by first | exact ⟨⟨CloneNm_ok x[i] (by omega), h12⟩, hgl⟩ | exact ⟨CloneNm_ok x[i] (by omega), h12⟩, ?_⟩
            refine LWp.rz hT hW ?_
            simp
            refine ⟨by omega, ?_⟩
            refine loopQ.mk (i + 1) (Weak.to [6, 11, 55, 56, 57] [(6, 6), (11, 11), (40, 40)] (by decide) (by decide) (by simp [hp]) (by simp) (by simp only [rw0, rw1, nmsD] at hset; simp [hset])) ?_ ?_
            · exact h12
            · omega
          · refine LWp.exit ?_
            simp
            refine LWp.seq ?_
            refine LWp.rz hT hW ?_
            simp
            refine LWp.ret ?_
            simp [doV_4 h2 h5 (hx ▸ h9), cmD, ← hx, hr0]
      · simp [evalLookup, hj1, hj2]
        obtain ⟨c, hc⟩ : ∃ c : Nat, c = 0 := ⟨_, rfl⟩
        have hr1 : List.take x.length (List.map nmsD x) = List.map nmsD x := List.take_of_length_le (by simp)
        have hgt : ∀ i (hi : i < x.length), (rw1 x L)[i]? = some (nmsD x[i]) := fun i hi => by simp [hi]
        refine ⟨⟨⟨acts_ok, CloneH1_ok h (by omega) hne⟩, by simpa using hact z hz1 hz2⟩, ?_⟩
        refine LWp.seq ?_
        refine LWp.seq ?_
        refine LWp.ro hT hW (fun | 47 => some <| .plain ⟨.tup [.d (I64 (validH l x).1), .d (I64 (validH l x).2)], true⟩ | _ => none) ?_
        simp [evalExtract, hr1]
        refine ⟨by simpa [cmD] using hValid_ok l x hs hn (by omega) (by omega), ?_⟩
        refine LWp.seq ?_
        refine LWp.rz hT hW ?_
        simp
        refine LWp.iff ?_
        simp
        refine ⟨fun h9 => ?_, fun h9 => ?_⟩
        · refine LWp.seq ?_
          refine LWp.rz hT hW ?_
          simp
          refine LWp.ret ?_
          simp [doV_3 h2 h5 (hx ▸ h9), cmD, hx]
        · refine LWp.skip ?_
          simp
          refine LWp.seq ?_
          refine LWp.seq ?_
          refine LWp.rz hT hW ?_
          simp
          refine LWp.block ?_
          refine LWp.loopW (ι := Nat) (fun i => mkEnv [(6, .bx 6 0), (11, .bx 11 0), (55, rv1 x.length c), (56, .d (I64 x.length)), (57, .d (I64 i))]) (fun i => mkObs [(6, .box false [.nl]), (11, .box false [rv1 x.length c]), (40, .row false 1 (rw1 x L))]) (fun i => i ≤ x.length) (fun i => x.length - i) 0 (Weak.to [6, 11, 55, 56, 57] [(6, 6), (11, 11), (40 + 2 * 1, 40)] (by decide) (by decide) (by simp [hp]) (by simp) (by simp)) (Nat.zero_le _) fun i hi12 => ?_
          refine LWp.seq ?_
          refine LWp.rz hT hW ?_
          simp
          refine LWp.seq ?_
          refine LWp.iff ?_
          simp
          refine ⟨fun h12 => ?_, fun h12 => ?_⟩
          · refine LWp.skip ?_
            simp
            refine LWp.seq ?_
            refine LWp.block ?_
            refine LWp.seq ?_
            have hg := hgt i h12
            have hgl := (List.getElem?_eq_some_iff.1 hg).1
            refine LWp.rz hT hW ?_
            simp [hg]
            refine ⟨by first | exact ⟨h12, hgl⟩ | exact h12, ?_⟩
            have hset := set_row hg
            have hxi : x[i].length ≤ 1000000 := by
              have q1 := cat_le h12
              have q2 := cat_tot (h := x) (i + 1)
              omega
            refine LWp.regAny hT hW hMixed (lk [[],[0],[],[],[3],[0,1,2,3,4],[0,1,2,3,4,5]]) (lk [[66],[66],[66],[],[],[],[]]) (lk [[],[],[],[],[66],[],[40,66]]) (by kernel_rfl) (fun | 66 => some <| .plain ⟨.own 2 (x[i].map Nm.d), true⟩ | _ => none) (by intro d; first | exact ⟨rfl, fun _ h => h⟩ | (split <;> exact ⟨rfl, fun _ h => h⟩)) ?_
            simp
            refine ⟨by first | exact ⟨⟨CloneNm_ok x[i] (by omega), h12⟩, hgl⟩ | exact ⟨CloneNm_ok x[i] (by omega), h12⟩, ?_⟩
            refine LWp.rz hT hW ?_
            simp
            refine ⟨by omega, ?_⟩
            refine loopQ.mk (i + 1) (Weak.to [6, 11, 55, 56, 57] [(6, 6), (11, 11), (40, 40)] (by decide) (by decide) (by simp [hp]) (by simp) (by simp only [rw0, rw1, nmsD] at hset; simp [hset])) ?_ ?_
            · exact h12
            · omega
          · refine LWp.exit ?_
            simp
            refine LWp.seq ?_
            refine LWp.rz hT hW ?_
            simp
            refine LWp.ret ?_
            simp [doV_4 h2 h5 (hx ▸ h9), cmD, ← hx, hr1]
theorem Do0_ok (l : List Ed) (k a n : Int) (names : List Nm) (hs : small l) (hn : (allNeeds l).length ≤ 1000000) (hnm : names.length ≤ 400000) : Ok Tryz.prog 32 [edsD l, cmD [], actD k a n names] ⟨.tup [.d (cmD (doV l [] k a n names).1), .d (I64 (doV l [] k a n names).2)], false⟩ := by
  refine Ok.many hT Tryz.func32 (by kernel_rfl) (c := _) rfl Tryz.ntmps32 (by simp) Tryz.results32 (by simp) (by rfl) fun w0 X hp => ?_
  refine LWp.seq ?_
  refine LWp.rz hT hW ?_
  simp
  refine LWp.seq ?_
  refine LWp.seq ?_
  refine LWp.ro hT hW (fun | 19 => some <| .plain ⟨.tup [.d (I64 (validH l []).1), .d (I64 (validH l []).2)], true⟩ | _ => none) ?_
  simp [evalExtract, cmD]
  refine ⟨by simpa [cmD] using hValid_ok l [] hs hn (by simp) (by simp [cat_nil]), ?_⟩
  refine LWp.seq ?_
  refine LWp.rz hT hW ?_
  simp
  refine LWp.iff ?_
  simp
  refine ⟨fun h2 => ?_, fun h2 => ?_⟩
  · refine LWp.seq ?_
    refine LWp.rz hT hW ?_
    simp
    refine LWp.ret ?_
    simp [doV_1 h2, cmD]
  · refine LWp.skip ?_
    simp
    refine LWp.seq ?_
    refine LWp.seq ?_
    refine LWp.ro hT hW (fun | 29 => some <| .plain ⟨.d (I64 (fitsC l [] k a n names)), true⟩ | _ => none) ?_
    simp
    refine ⟨by simpa [cmD] using hfits_ok l [] k a n names (by simp) (by omega) (by simp [cat_nil]), ?_⟩
    refine LWp.seq ?_
    refine LWp.rz hT hW ?_
    simp
    refine LWp.iff ?_
    simp
    refine ⟨fun h5 => ?_, fun h5 => ?_⟩
    · refine LWp.seq ?_
      refine LWp.rz hT hW ?_
      simp
      refine LWp.ret ?_
      simp [doV_2 h2 h5, cmD]
    · refine LWp.skip ?_
      simp
      refine LWp.seq ?_
      obtain ⟨f1, f2, f3, _⟩ := fits_inv h5
      have hk : k = 0 := by
        apply Decidable.byContradiction
        intro q
        have := f3 q
        simp at this
        omega
      subst hk
      obtain ⟨jj, hj1, hj2⟩ := act_find f1 f2
      rw [List.getD_eq_getElem?_getD] at hj2
      have hx : actH [] 0 a n names = [names] := rfl
      refine LWp.regAny hT hW hMixed (lk [[],[],[1],[0,1,2],[],[4],[0,4,5],[],[0,1,2,3,4,5,6,7],[0,1,2,3,4,5,6,7,8],[],[0,1,2,3,4,5,6,7,8,9,10]]) (lk [[11],[11,34,40],[11,34,40],[11,40],[11,34],[11,34],[11],[11,34,40],[11],[11],[34,40,42],[]]) (lk [[34],[],[],[],[],[],[40],[],[42],[],[11],[11]]) (by kernel_rfl) (fun | 34 => some <| .plain ⟨.d (.mp actKeys actFns), false⟩ | 40 => some (.gen ⟨[], [], [], [], .nl⟩) | 42 => some (.gen ⟨[], [(9, 42)], [], [(9, .row false 1 [nmsD names])], .ow 9 0 1⟩) | _ => none) (by intro d; first | exact ⟨rfl, fun _ h => h⟩ | (split <;> exact ⟨rfl, fun _ h => h⟩)) ?_
      simp [evalLookup, hj1, hj2]
      refine ⟨⟨⟨acts_ok, CloneH0_ok⟩, by have q := last00_ok 0 a n names; have e : actF 0 = 134 := rfl; rw [e]; simpa using q⟩, ?_⟩
      refine LWp.seq ?_
      refine LWp.seq ?_
      refine LWp.ro hT hW (fun | 47 => some <| .plain ⟨.tup [.d (I64 (validH l [names]).1), .d (I64 (validH l [names]).2)], true⟩ | _ => none) ?_
      simp [evalExtract]
      refine ⟨by simpa [cmD] using hValid_ok l [names] hs hn (by simp) (by simp [cat_cons, cat_nil]; omega), ?_⟩
      refine LWp.seq ?_
      refine LWp.rz hT hW ?_
      simp
      refine LWp.iff ?_
      simp
      refine ⟨fun h9 => ?_, fun h9 => ?_⟩
      · refine LWp.seq ?_
        refine LWp.rz hT hW ?_
        simp
        refine LWp.ret ?_
        simp [doV_3 h2 h5 (hx ▸ h9), cmD, hx]
      · refine LWp.skip ?_
        simp
        refine LWp.seq ?_
        refine LWp.seq ?_
        refine LWp.rz hT hW ?_
        simp
        refine LWp.block ?_
        refine LWp.loopW (ι := Nat) (fun i => mkEnv [(6, .bx 6 0), (11, .bx 11 0), (55, .ow 42 0 1), (56, .d (I64 1)), (57, .d (I64 i))]) (fun i => mkObs [(6, .box false [.nl]), (11, .box false [.ow 42 0 1]), (42, .row false 1 [nmsD names])]) (fun i => i ≤ 1) (fun i => 1 - i) 0 (Weak.to [6, 11, 55, 56, 57] [(6, 6), (11, 11), (42, 42)] (by decide) (by decide) (by simp [hp]) (by simp) (by simp)) (Nat.zero_le _) fun i hi12 => ?_
        refine LWp.seq ?_
        refine LWp.rz hT hW ?_
        simp
        refine LWp.seq ?_
        refine LWp.iff ?_
        simp
        refine ⟨fun h12 => ?_, fun h12 => ?_⟩
        · refine LWp.skip ?_
          simp
          refine LWp.seq ?_
          refine LWp.block ?_
          refine LWp.seq ?_
          have hi0 : i = 0 := by omega
          subst hi0
          refine LWp.rz hT hW ?_
          simp
          refine LWp.regAny hT hW hMixed (lk [[],[0],[],[],[3],[0,1,2,3,4],[0,1,2,3,4,5]]) (lk [[66],[66],[66],[],[],[],[]]) (lk [[],[],[],[],[66],[],[42,66]]) (by kernel_rfl) (fun | 66 => some <| .plain ⟨.own 2 (names.map Nm.d), true⟩ | _ => none) (by intro d; first | exact ⟨rfl, fun _ h => h⟩ | (split <;> exact ⟨rfl, fun _ h => h⟩)) ?_
          simp
          refine ⟨by simpa using CloneNm_ok names (by omega), ?_⟩
          refine LWp.rz hT hW ?_
          simp
          refine loopQ.mk 1 (Weak.to [6, 11, 55, 56, 57] [(6, 6), (11, 11), (42, 42)] (by decide) (by decide) (by simp [hp]) (by simp) (by simp)) ?_ ?_
          · exact Nat.le_refl 1
          · omega
        · refine LWp.exit ?_
          simp
          refine LWp.seq ?_
          refine LWp.rz hT hW ?_
          simp
          refine LWp.ret ?_
          simp [doV_4 h2 h5 (hx ▸ h9), cmD, hx]
theorem Do_ok (l : List Ed) (h : Hs) (k a n : Int) (names : List Nm) (hs : small l) (hn : (allNeeds l).length ≤ 1000000) (hl : h.length ≤ 400000) (hf : (cat h).length ≤ 400000) (hnm : names.length ≤ 400000) : Ok Tryz.prog 32 [edsD l, cmD h, actD k a n names] ⟨.tup [.d (cmD (doV l h k a n names).1), .d (I64 (doV l h k a n names).2)], false⟩ := by
  by_cases q : h = []
  · subst q; exact Do0_ok l k a n names hs hn hnm
  · exact Do1_ok l h k a n names hs hn hl hf hnm q
end
open Go.Proofs
theorem Order_ok (l : List Ed) (set : List Nm) (hs : small l) (hn : (allNeeds l).length ≤ 1100000) (hl : set.length ≤ 1100000) : Ok Tryz.prog 12 [edsD l, nmsD set] ⟨.tup [.d (nmsD (orderV l set).1), .d (I64 (orderV l set).2)], true⟩ := by
  refine Ok.two Tryz.func12 (by kernel_rfl) (c := _) rfl Tryz.ntmps12 (by simp) Tryz.results12 rfl fun w0 X hp => ?_
  refine LWp.seq ?_
  refine LWp.rz hT hW ?_
  simp
  refine LWp.seq ?_
  refine LWp.ro hT hW (fun | 13 => some <| .plain ⟨.tup [.d (I64 (validV l).1), .d (I64 (validV l).2)], true⟩ | _ => none) ?_
  simp [evalExtract]
  refine ⟨Valid_ok l hs hn, ?_⟩
  refine LWp.seq ?_
  refine LWp.seq ?_
  refine LWp.rz hT hW ?_
  simp
  refine LWp.iff ?_
  simp
  refine ⟨fun h2 => ?_, fun h2 => ?_⟩
  · refine LWp.seq ?_
    refine LWp.rz hT hW ?_
    simp
    refine LWp.ret ?_
    simp [orderV, h2]
  · refine LWp.skip ?_
    simp
    refine LWp.seq ?_
    refine LWp.seq ?_
    refine LWp.ro hT hW (fun | 21 => some <| .plain ⟨.d (.bool (closedB l set)), true⟩ | _ => none) ?_
    simp
    refine ⟨Closed_ok l set hn (by omega), ?_⟩
    refine LWp.iff ?_
    simp
    refine ⟨fun h4 => ?_, fun h4 => ?_⟩
    · refine LWp.seq ?_
      refine LWp.rz hT hW ?_
      simp
      refine LWp.ret ?_
      simp [orderV, h2, h4]
    · refine LWp.skip ?_
      simp
      refine LWp.seq ?_
      have hal := sortN_len set
      refine LWp.ro hT hW (fun | 24 => some <| .plain ⟨.d (nmsD (sortN set)), true⟩ | _ => none) ?_
      simp
      refine ⟨Sort_ok set hl, ?_⟩
      refine LWp.seq ?_
      refine LWp.rz hT hW ?_
      simp
      refine LWp.seq ?_
      refine LWp.block ?_
      refine LWp.loopW (ι := List Nm) (fun out => mkEnv [(0, .d (edsD l)), (8, .d (nmsD (sortN set))), (9, .ow 9 0 out.length)]) (fun out => mkObs [(9, .row false 2 (out.map Nm.d))]) (fun out => OrdI l set out) (fun out => (sortN set).length - out.length) [] (Weak.to [0, 8, 9] [(9, 9)] (by decide) (by decide) (by simp [hp]) (by simp) (by simp)) (OrdI.start (by simpa using h4)) fun out hi8 => ?_
      refine LWp.seq ?_
      refine LWp.seq ?_
      refine LWp.rz hT hW ?_
      simp
      refine LWp.iff ?_
      simp
      refine ⟨fun h8 => ?_, fun h8 => ?_⟩
      · refine LWp.skip ?_
        simp
        refine LWp.block ?_
        refine LWp.seq ?_
        refine LWp.rz hT hW ?_
        simp
        refine LWp.block ?_
        refine LWp.loopW (ι := Nat) (fun i => mkEnv [(0, .d (edsD l)), (8, .d (nmsD (sortN set))), (9, .ow 9 0 out.length), (10, .d (I64 i))]) (fun i => mkObs [(9, .row false 2 (out.map Nm.d))]) (fun i => i ≤ (sortN set).length ∧ ∀ (j : Nat) (h : j < (sortN set).length), j < i → (sortN set)[j] ∈ out ∨ readyN l out (sortN set)[j] = false) (fun i => (sortN set).length - i) 0 (Weak.to [0, 8, 9, 10] [(9, 9)] (by decide) (by decide) (by simp [hp]) (by simp) (by simp)) (⟨Nat.zero_le _, fun j _ h => absurd h (Nat.not_lt_zero _)⟩) fun i hi10 => ?_
        refine LWp.seq ?_
        refine LWp.seq ?_
        refine LWp.rz hT hW ?_
        simp
        refine LWp.iff ?_
        simp
        refine ⟨fun h10 => ?_, fun h10 => ?_⟩
        · refine LWp.skip ?_
          simp
          refine LWp.seq ?_
          refine LWp.block ?_
          refine LWp.seq ?_
          refine LWp.ro hT hW (fun | 41 => some <| .plain ⟨.d (.bool (decide ((sortN set)[i] ∈ out))), true⟩ | 49 => some <| .plain ⟨.d (nmsD (needsOf l (sortN set)[i])), false⟩ | 51 => some <| .plain ⟨.d (.bool (readyN l out (sortN set)[i])), true⟩ | _ => none) ?_
          simp [h10]
          refine ⟨⟨⟨Has_ok out _, by intros; exact Needs_ok l _⟩, by intros; exact ready_ok _ out⟩, ?_⟩
          refine LWp.iff ?_
          simp
          refine ⟨fun h12a h12b => ?_, fun h12 => ?_⟩
          · refine LWp.seq ?_
            refine LWp.rz hT hW ?_
            simp [h10]
            refine ⟨by omega, ?_⟩
            refine LWp.exit ?_
            simp
            refine loopQ.mk (out ++ [(sortN set)[i]]) (Weak.to [0, 8, 9] [(59, 9)] (by decide) (by decide) (by simp [hp]) (by simp) (by simp)) ?_ ?_
            · exact hi8.step h10 h12a h12b hi10.2
            · simp; omega
          · refine LWp.skip ?_
            simp
            refine LWp.rz hT hW ?_
            simp
            refine ⟨by omega, ?_⟩
            refine loopQ.mk (i + 1) (Weak.to [0, 8, 9, 10] [(9, 9)] (by decide) (by decide) (by simp [hp]) (by simp) (by simp)) ?_ ?_
            · refine ⟨h10, fun j hj hji => ?_⟩
              by_cases e : j = i
              · subst e
                by_cases q : (sortN set)[j] ∈ out
                · exact .inl q
                · exact .inr (h12 q)
              · exact hi10.2 j hj (by omega)
            · omega
        · have hF : False := hi8.found (valid_acyc (by simpa using h2)) h8 fun j hj => hi10.2 j hj (by omega)
          refine LWp.exit ?_
          simp
          refine loopQ.mk out (Weak.to [0, 8, 9] [(9, 9)] (by decide) (by decide) (by simp [hp]) (by simp) (by simp)) ?_ ?_
          · exact hF.elim
          · exact hF.elim
      · refine LWp.exit ?_
        simp
        refine LWp.seq ?_
        refine LWp.rz hT hW ?_
        simp
        refine LWp.ret ?_
        simp [orderV, h2, h4, ← hi8.done (by omega)]
set_option maxRecDepth 10000
open Go.Proofs
section
attribute [local simp] Res.cond actD
def rowsV (h : Hs) : DV := .sl (h.map nmsD)
theorem EqualNm_ok (a b : List Nm) : Ok Tryz.prog 90 [nmsD a, nmsD b] ⟨.d (.bool (decide (a = b))), true⟩ := by
  refine Ok.ret Tryz.func90 (by kernel_rfl) (c := _) rfl Tryz.ntmps90 (by simp) Tryz.results90 (by intro _ h; cases h) fun w0 X hp => ?_
  refine LWp.len (t := 0) rfl fun hlen => ?_
  simp at hlen
  refine LWp.seq ?_
  refine LWp.rz hT hW ?_
  simp
  refine LWp.seq ?_
  refine LWp.seq ?_
  refine LWp.rz hT hW ?_
  simp
  refine LWp.iff ?_
  simp
  refine ⟨fun h1 => ?_, fun h1 => ?_⟩
  · refine LWp.seq ?_
    refine LWp.rz hT hW ?_
    simp
    refine LWp.ret ?_
    simp
    intro q
    subst q
    simp at h1
  · refine LWp.skip ?_
    simp
    refine LWp.seq ?_
    refine LWp.seq ?_
    refine LWp.rz hT hW ?_
    simp
    refine LWp.block ?_
    refine LWp.loopW (ι := Nat) (fun i => mkEnv [(0, .d (nmsD a)), (1, .d (nmsD b)), (11, .d (nmsD a)), (12, .d (I64 a.length)), (13, .d (I64 i))]) (fun i => mkObs []) (fun i => i ≤ a.length ∧ a.take i = b.take i) (fun i => a.length - i) 0 (Weak.to [0, 1, 11, 12, 13] [] (by decide) (by decide) (by simp [hp]) (by simp) (by simp)) (⟨Nat.zero_le _, rfl⟩) fun i hi4 => ?_
    refine LWp.seq ?_
    refine LWp.rz hT hW ?_
    simp
    refine LWp.seq ?_
    refine LWp.iff ?_
    simp
    refine ⟨fun h4 => ?_, fun h4 => ?_⟩
    · refine LWp.skip ?_
      simp
      refine LWp.seq ?_
      refine LWp.block ?_
      refine LWp.seq ?_
      refine LWp.rz hT hW ?_
      simp
      refine LWp.seq ?_
      refine LWp.regAny hT hW hMixed (lk [[],[],[0,1],[0,1,2],[],[],[4,5],[4,5,6],[0,1,2,3,4,5,6,7]]) (lk [[],[],[],[],[],[],[],[],[]]) (lk [[],[],[],[],[],[],[],[],[]]) (by kernel_rfl) (fun _ => none) (fun _ => ⟨rfl, fun _ h => h⟩) ?_
      simp [h4, (show i < b.length by omega)]
      refine LWp.iff ?_
      simp
      refine ⟨fun h6 => ?_, fun h6 => ?_⟩
      · refine LWp.seq ?_
        refine LWp.rz hT hW ?_
        simp
        refine LWp.ret ?_
        simp
        intro q
        subst q
        simp at h6
      · refine LWp.skip ?_
        simp
        refine LWp.rz hT hW ?_
        simp
        refine ⟨by omega, ?_⟩
        refine loopQ.mk (i + 1) (Weak.to [0, 1, 11, 12, 13] [] (by decide) (by decide) (by simp [hp]) (by simp) (by simp)) ?_ ?_
        · exact ⟨h4, take_eq_succ hi4.2 h4 (by omega) (by simpa using h6)⟩
        · omega
    · refine LWp.exit ?_
      simp
      refine LWp.seq ?_
      refine LWp.rz hT hW ?_
      simp
      refine LWp.ret ?_
      simp
      have hi : i = a.length := by omega
      have := hi4.2
      rw [hi, List.take_length, List.take_of_length_le (by omega)] at this
      exact this
theorem take_eq_h {a b : Hs} {i : Nat} (h : a.take i = b.take i) (ha : i < a.length) (hb : i < b.length) (he : a[i] = b[i]) : a.take (i + 1) = b.take (i + 1) := by
  rw [List.take_succ_eq_append_getElem ha, List.take_succ_eq_append_getElem hb, h, he]
theorem SameSets_ok (a b : Hs) : Ok Tryz.prog 74 [rowsV a, rowsV b] ⟨.d (.bool (decide (a = b))), true⟩ := by
  unfold rowsV
  refine Ok.ret Tryz.func74 (by kernel_rfl) (c := _) rfl Tryz.ntmps74 (by simp) Tryz.results74 (by intro _ h; cases h) fun w0 X hp => ?_
  refine LWp.len (t := 0) rfl fun hlen => ?_
  simp at hlen
  refine LWp.seq ?_
  refine LWp.rz hT hW ?_
  simp
  refine LWp.seq ?_
  refine LWp.seq ?_
  refine LWp.rz hT hW ?_
  simp
  refine LWp.iff ?_
  simp
  refine ⟨fun h1 => ?_, fun h1 => ?_⟩
  · refine LWp.seq ?_
    refine LWp.rz hT hW ?_
    simp
    refine LWp.ret ?_
    simp
    intro q
    subst q
    simp at h1
  · refine LWp.skip ?_
    simp
    refine LWp.seq ?_
    refine LWp.seq ?_
    refine LWp.rz hT hW ?_
    simp
    refine LWp.block ?_
    refine LWp.loopW (ι := Nat) (fun i => mkEnv [(0, .d (.sl (a.map nmsD))), (1, .d (.sl (b.map nmsD))), (5, .d (I64 i))]) (fun i => mkObs []) (fun i => i ≤ a.length ∧ a.take i = b.take i) (fun i => a.length - i) 0 (Weak.to [0, 1, 5] [] (by decide) (by decide) (by simp [hp]) (by simp) (by simp)) (⟨Nat.zero_le _, rfl⟩) fun i hi4 => ?_
    refine LWp.seq ?_
    refine LWp.seq ?_
    refine LWp.rz hT hW ?_
    simp
    refine LWp.iff ?_
    simp
    refine ⟨fun h4 => ?_, fun h4 => ?_⟩
    · refine LWp.skip ?_
      simp
      refine LWp.seq ?_
      refine LWp.block ?_
      refine LWp.seq ?_
      refine LWp.regAny hT hW hMixed (lk [[],[],[0,1],[0,1,2],[],[],[4,5],[4,5,6],[0,1,2,3,4,5,6,7],[0,1,2,3,4,5,6,7,8]]) (lk [[],[],[],[],[],[],[],[],[],[]]) (lk [[],[],[],[],[],[],[],[],[25],[]]) (by kernel_rfl) (fun | 25 => some <| .plain ⟨.d (.bool (decide (a[i] = b[i]'(by omega)))), true⟩ | _ => none) (by intro d; first | exact ⟨rfl, fun _ h => h⟩ | (split <;> exact ⟨rfl, fun _ h => h⟩)) ?_
      simp [h4, (show i < b.length by omega)]
      refine ⟨by simpa using SameNames_ok a[i] (b[i]'(by omega)), ?_⟩
      refine LWp.iff ?_
      simp
      refine ⟨fun h6 => ?_, fun h6 => ?_⟩
      · refine LWp.seq ?_
        refine LWp.rz hT hW ?_
        simp
        refine LWp.ret ?_
        simp
        intro q
        subst q
        simp at h6
      · refine LWp.skip ?_
        simp
        refine LWp.rz hT hW ?_
        simp
        refine ⟨by omega, ?_⟩
        refine loopQ.mk (i + 1) (Weak.to [0, 1, 5] [] (by decide) (by decide) (by simp [hp]) (by simp) (by simp)) ?_ ?_
        · exact ⟨h4, take_eq_h hi4.2 h4 (by omega) (by simpa using h6)⟩
        · omega
    · refine LWp.exit ?_
      simp
      refine LWp.seq ?_
      refine LWp.rz hT hW ?_
      simp
      refine LWp.ret ?_
      simp
      have hi : i = a.length := by omega
      have := hi4.2
      rw [hi, List.take_length, List.take_of_length_le (by omega)] at this
      exact this
theorem Same25_ok (a b : Hs) : Ok Tryz.prog 35 [cmD a, cmD b] ⟨.d (.bool (decide (a = b))), true⟩ := by
  refine Ok.ret Tryz.func35 (by kernel_rfl) (c := _) rfl Tryz.ntmps35 (by simp) Tryz.results35 (by intro _ h; cases h) fun w0 X hp => ?_
  refine LWp.seq ?_
  refine LWp.rz hT hW ?_
  simp
  refine LWp.seq ?_
  refine LWp.ro hT hW (fun | 9 => some <| .plain ⟨.d (.bool (decide (a = b))), true⟩ | _ => none) ?_
  simp [cmD]
  refine ⟨by simpa [rowsV] using SameSets_ok a b, ?_⟩
  refine LWp.ret ?_
  simp
theorem own_ok (a : Hs) : Ok Tryz.prog 23 [cmD a] ⟨.d (cmD a), false⟩ := by
  refine Ok.cell hT Tryz.func23 (by kernel_rfl) (c := _) rfl Tryz.ntmps23 (by simp) Tryz.results23 (by intro _ h; cases h) fun w0 X hp => ?_
  refine LWp.seq ?_
  refine LWp.rz hT hW ?_
  simp
  refine LWp.seq ?_
  refine LWp.rz hT hW ?_
  simp [cmD]
  refine LWp.ret ?_
  simp [cmD]
def lineV (l : List Ed) (set : List Nm) : Hs × Int := if (orderV l set).2 ≠ 0 then ([], (orderV l set).2) else if 32 < (orderV l set).1.length then ([], 4) else ((orderV l set).1.map fun n => [n], 0)
theorem lineV_1 {l : List Ed} {set : List Nm} (h : (orderV l set).2 ≠ 0) : lineV l set = ([], (orderV l set).2) := if_pos h
theorem lineV_2 {l : List Ed} {set : List Nm} (h : (orderV l set).2 = 0) (h2 : 32 < (orderV l set).1.length) : lineV l set = ([], 4) := by unfold lineV; rw [if_neg (by simp [h]), if_pos h2]
theorem lineV_3 {l : List Ed} {set : List Nm} (h : (orderV l set).2 = 0) (h2 : (orderV l set).1.length ≤ 32) : lineV l set = ((orderV l set).1.map fun n => [n], 0) := by unfold lineV; rw [if_neg (by simp [h]), if_neg (by omega)]
def onesD (ns : List Nm) : List DV := ns.map fun n => nmsD [n]
theorem ones_succ {ns : List Nm} {i : Nat} (hi : i < ns.length) : onesD (ns.take (i + 1)) = onesD (ns.take i) ++ [nmsD [ns[i]]] := by
  unfold onesD
  rw [List.take_succ_eq_append_getElem hi, List.map_append]; rfl
theorem ones_len {ns : List Nm} : (onesD ns).length = ns.length := by simp [onesD]
theorem ones_map {ns : List Nm} : onesD ns = (ns.map fun n => [n]).map nmsD := by simp [onesD]
theorem Line25_ok (l : List Ed) (set : List Nm) (hs : small l) (hn : (allNeeds l).length ≤ 1100000) (hl : set.length ≤ 1100000) : Ok Tryz.prog 69 [edsD l, nmsD set] ⟨.tup [.d (cmD (lineV l set).1), .d (I64 (lineV l set).2)], false⟩ := by
  refine Ok.many hT Tryz.func69 (by kernel_rfl) (c := _) rfl Tryz.ntmps69 (by simp) Tryz.results69 (by simp) (by rfl) fun w0 X hp => ?_
  refine LWp.seq ?_
  refine LWp.rz hT hW ?_
  simp
  refine LWp.seq ?_
  refine LWp.ro hT hW (fun | 13 => some <| .plain ⟨.tup [.d (nmsD (orderV l set).1), .d (I64 (orderV l set).2)], true⟩ | _ => none) ?_
  simp [evalExtract]
  refine ⟨by simpa using Order_ok l set hs hn hl, ?_⟩
  refine LWp.seq ?_
  refine LWp.seq ?_
  refine LWp.rz hT hW ?_
  simp
  refine LWp.iff ?_
  simp
  refine ⟨fun h2 => ?_, fun h2 => ?_⟩
  · refine LWp.seq ?_
    refine LWp.rz hT hW ?_
    simp
    refine LWp.ret ?_
    simp [lineV_1 h2, cmD]
  · refine LWp.skip ?_
    simp
    refine LWp.seq ?_
    refine LWp.seq ?_
    refine LWp.rz hT hW ?_
    simp
    refine LWp.iff ?_
    simp
    refine ⟨fun h4 => ?_, fun h4 => ?_⟩
    · refine LWp.seq ?_
      refine LWp.rz hT hW ?_
      simp
      refine LWp.ret ?_
      simp [lineV_2 h2 (show 32 < (orderV l set).1.length by omega), cmD]
    · refine LWp.skip ?_
      simp
      refine LWp.seq ?_
      refine LWp.rz hT hW ?_
      simp
      refine LWp.seq ?_
      refine LWp.seq ?_
      obtain ⟨ns, hns⟩ : ∃ ns, ns = (orderV l set).1 := ⟨_, rfl⟩
      rw [← hns] at h4 ⊢
      refine LWp.nlBox (fz := false) 8 7 1 (by decide) ⟨by simp, by simp, ?_⟩
      refine LWp.rz hT hW ?_
      simp
      refine LWp.block ?_
      refine LWp.loopW (ι := Nat) (fun i => mkEnv [(4, .bx 4 0), (6, .d (nmsD ns)), (8, .bx 8 0), (9, .d (I64 i))]) (fun i => mkObs [(4, .box false [.nl]), (8, .box false [.ow 7 0 i]), (7, .row false 1 (onesD (ns.take i)))]) (fun i => i ≤ ns.length) (fun i => ns.length - i) 0 (Weak.to [4, 6, 8, 9] [(4, 4), (8, 8), (7, 7)] (by decide) (by decide) (by simp [hp]) (by simp) (by simp [onesD])) (Nat.zero_le _) fun i hi8 => ?_
      refine LWp.seq ?_
      refine LWp.seq ?_
      refine LWp.rz hT hW ?_
      simp
      refine LWp.iff ?_
      simp
      refine ⟨fun h8 => ?_, fun h8 => ?_⟩
      · refine LWp.skip ?_
        simp
        refine LWp.seq ?_
        refine LWp.block ?_
        have htk : List.take i (onesD (List.take i ns)) = onesD (List.take i ns) := List.take_of_length_le (by simp [ones_len]; omega)
        refine LWp.regAny hT hW hMixed (lk [[],[0],[],[],[2,3],[2,3,4],[2,3,4,5],[2,3,4,5,6],[0,1,2,3,4,5,6,7],[0,1,2,3,4,5,6,7,8],[0,1,2,3,4,5,6,7,8,9]]) (lk [[37,38],[37,38],[],[],[],[],[],[],[],[],[]]) (lk [[],[],[],[],[],[],[37],[37,38],[7,39],[],[8]]) (by kernel_rfl) (fun _ => none) (fun _ => ⟨rfl, fun _ h => h⟩) ?_
        simp [h8]
        refine ⟨by omega, ?_⟩
        refine LWp.rz hT hW ?_
        simp
        refine ⟨by omega, ?_⟩
        refine loopQ.mk (i + 1) (Weak.to [4, 6, 8, 9] [(4, 4), (8, 8), (39, 7)] (by decide) (by decide) (by simp [hp]) (by simp) (by simp [ones_succ h8, htk])) ?_ ?_
        · exact h8
        · omega
      · refine LWp.exit ?_
        simp
        refine LWp.seq ?_
        refine LWp.rz hT hW ?_
        simp
        refine LWp.ret ?_
        have hi : i = ns.length := by omega
        simp [lineV_3 h2 (by rw [← hns]; omega), cmD, ← hns, hi, ones_map, ones_len]
theorem hLine_ok (l : List Ed) (set : List Nm) (hs : small l) (hl : set.length ≤ 1100000) : Ok Tryz.prog 75 [edsD l, nmsD set] ⟨.tup [.d (cmD (lineV l set).1), .d (I64 (lineV l set).2)], false⟩ := by
  refine Ok.many hT Tryz.func75 (by kernel_rfl) (c := _) rfl Tryz.ntmps75 (by simp) Tryz.results75 (by simp) (by rfl) fun w0 X hp => ?_
  refine LWp.seq ?_
  refine LWp.rz hT hW ?_
  simp
  refine LWp.seq ?_
  refine LWp.ro hT hW (fun | 13 => some <| .plain ⟨.tup [.own 2 ((orderV l set).1.map Nm.d), .d (I64 (orderV l set).2)], true⟩ | _ => none) ?_
  simp [evalExtract]
  refine ⟨by simpa using EOrder_ok l set hs hl, ?_⟩
  refine LWp.seq ?_
  refine LWp.seq ?_
  refine LWp.rz hT hW ?_
  simp
  refine LWp.iff ?_
  simp
  refine ⟨fun h2 => ?_, fun h2 => ?_⟩
  · refine LWp.seq ?_
    refine LWp.rz hT hW ?_
    simp
    refine LWp.ret ?_
    simp [lineV_1 h2, cmD]
  · refine LWp.skip ?_
    simp
    refine LWp.seq ?_
    refine LWp.seq ?_
    refine LWp.rz hT hW ?_
    simp
    refine LWp.iff ?_
    simp
    refine ⟨fun h4 => ?_, fun h4 => ?_⟩
    · refine LWp.seq ?_
      refine LWp.rz hT hW ?_
      simp
      refine LWp.ret ?_
      simp [lineV_2 h2 (show 32 < (orderV l set).1.length by omega), cmD]
    · refine LWp.skip ?_
      simp
      refine LWp.seq ?_
      refine LWp.rz hT hW ?_
      simp
      refine LWp.seq ?_
      refine LWp.seq ?_
      obtain ⟨ns, hns⟩ : ∃ ns, ns = (orderV l set).1 := ⟨_, rfl⟩
      rw [← hns] at h4 ⊢
      refine LWp.weak (Weak.close 6 (x := nmsD ns) (by simp)) ?_
      simp
      refine LWp.nlBox (fz := false) 8 7 1 (by decide) ⟨by simp, by simp, ?_⟩
      refine LWp.rz hT hW ?_
      simp
      refine LWp.block ?_
      refine LWp.loopW (ι := Nat) (fun i => mkEnv [(4, .bx 4 0), (6, .d (nmsD ns)), (8, .bx 8 0), (25, .d (I64 ns.length)), (26, .d (I64 i))]) (fun i => mkObs [(4, .box false [.nl]), (8, .box false [.ow 7 0 i]), (7, .row false 1 (onesD (ns.take i)))]) (fun i => i ≤ ns.length) (fun i => ns.length - i) 0 (Weak.to [4, 6, 8, 25, 26] [(4, 4), (8, 8), (7, 7)] (by decide) (by decide) (by simp [hp]) (by simp) (by simp [onesD])) (Nat.zero_le _) fun i hi8 => ?_
      refine LWp.seq ?_
      refine LWp.rz hT hW ?_
      simp
      refine LWp.seq ?_
      refine LWp.iff ?_
      simp
      refine ⟨fun h8 => ?_, fun h8 => ?_⟩
      · refine LWp.skip ?_
        simp
        refine LWp.seq ?_
        refine LWp.block ?_
        refine LWp.seq ?_
        refine LWp.rz hT hW ?_
        simp
        have htk : List.take i (onesD (List.take i ns)) = onesD (List.take i ns) := List.take_of_length_le (by simp [ones_len]; omega)
        have hcut : List.drop i (List.take (i + 1) (List.map Nm.d ns)) = [ns[i].d] := by
          rw [List.take_succ_eq_append_getElem (by simpa using h8), List.drop_append]
          simp [show i ≤ ns.length by omega]
        refine LWp.regAny hT hW hMixed (lk [[],[0],[],[],[],[4],[],[6],[2,3,4,5,6,7],[2,3,4,5,6,7,8],[0,1,2,3,4,5,6,7,8,9],[0,1,2,3,4,5,6,7,8,9,10],[0,1,2,3,4,5,6,7,8,9,10,11]]) (lk [[38],[38],[],[],[],[],[],[],[],[],[],[],[]]) (lk [[],[],[],[],[],[],[],[],[],[38],[7,39],[],[8]]) (by kernel_rfl) (fun | 37 => some .inp | _ => none) (by intro d; first | exact ⟨rfl, fun _ h => h⟩ | (split <;> exact ⟨rfl, fun _ h => h⟩)) ?_
        simp [hcut]
        refine ⟨by omega, ?_⟩
        refine LWp.rz hT hW ?_
        simp
        refine ⟨by omega, ?_⟩
        refine loopQ.mk (i + 1) (Weak.to [4, 6, 8, 25, 26] [(4, 4), (8, 8), (39, 7)] (by decide) (by decide) (by simp [hp]) (by simp) (by simp [ones_succ h8, htk])) ?_ ?_
        · exact h8
        · omega
      · refine LWp.exit ?_
        simp
        refine LWp.seq ?_
        refine LWp.rz hT hW ?_
        simp
        refine LWp.ret ?_
        have hi : i = ns.length := by omega
        simp [lineV_3 h2 (by rw [← hns]; omega), cmD, ← hns, hi, ones_map, ones_len]
theorem IndexH_ok (h : Hs) (p : List Nm → Bool) (g : FuncId) (cs : List DV) (hg : ∀ x ∈ h, Ok Tryz.prog g (nmsD x :: cs) ⟨.d (.bool (p x)), true⟩) : Ok Tryz.prog 166 [.sl (h.map nmsD), .fn g cs] ⟨.d (I64 (idxI p h)), true⟩ := by
  refine Ok.ret Tryz.func166 (by kernel_rfl) (c := _) rfl Tryz.ntmps166 (by simp) Tryz.results166 (by intro _ h; cases h) fun w0 X hp => ?_
  refine LWp.len (t := 0) rfl fun hlen => ?_
  simp at hlen
  refine LWp.seq ?_
  refine LWp.rz hT hW ?_
  simp
  refine LWp.seq ?_
  refine LWp.seq ?_
  refine LWp.rz hT hW ?_
  simp
  refine LWp.block ?_
  refine LWp.loopW (ι := Nat) (fun i => mkEnv [(0, .d (.sl (h.map nmsD))), (1, .d (.fn g cs)), (7, .d (I64 h.length)), (8, .d (I64 i))]) (fun i => mkObs []) (fun i => i ≤ h.length ∧ Pre p h i) (fun i => h.length - i) 0 (Weak.to [0, 1, 7, 8] [] (by decide) (by decide) (by simp [hp]) (by simp) (by simp)) (⟨Nat.zero_le _, Pre.zero⟩) fun i hi2 => ?_
  refine LWp.seq ?_
  refine LWp.rz hT hW ?_
  simp
  refine LWp.seq ?_
  refine LWp.iff ?_
  simp
  refine ⟨fun h2 => ?_, fun h2 => ?_⟩
  · refine LWp.skip ?_
    simp
    refine LWp.seq ?_
    refine LWp.block ?_
    refine LWp.seq ?_
    refine LWp.rz hT hW ?_
    simp
    refine LWp.seq ?_
    refine LWp.ro hT hW (fun | 16 => some <| .plain ⟨.d (.bool (p h[i])), true⟩ | _ => none) ?_
    simp [h2]
    refine ⟨by simpa using hg h[i] (List.getElem_mem h2), ?_⟩
    refine LWp.iff ?_
    simp
    refine ⟨fun h4 => ?_, fun h4 => ?_⟩
    · refine LWp.seq ?_
      refine LWp.rz hT hW ?_
      simp
      refine LWp.ret ?_
      simp [idxI_some (hi2.2.found h2 h4)]
    · refine LWp.skip ?_
      simp
      refine LWp.rz hT hW ?_
      simp
      refine ⟨by omega, ?_⟩
      refine loopQ.mk (i + 1) (Weak.to [0, 1, 7, 8] [] (by decide) (by decide) (by simp [hp]) (by simp) (by simp)) ?_ ?_
      · exact ⟨h2, hi2.2.succ h2 h4⟩
      · omega
  · refine LWp.exit ?_
    simp
    refine LWp.seq ?_
    refine LWp.rz hT hW ?_
    simp
    refine LWp.ret ?_
    simp [idxI_none (hi2.2.none (by omega))]
theorem AnyH_ok (h : Hs) (p : List Nm → Bool) (g : FuncId) (cs : List DV) (hg : ∀ x ∈ h, Ok Tryz.prog g (nmsD x :: cs) ⟨.d (.bool (p x)), true⟩) : Ok Tryz.prog 130 [.sl (h.map nmsD), .fn g cs] ⟨.d (.bool (h.any p)), true⟩ := by
  refine Ok.ret Tryz.func130 (by kernel_rfl) (c := _) rfl Tryz.ntmps130 (by simp) Tryz.results130 (by intro _ h; cases h) fun w0 X hp => ?_
  refine LWp.seq ?_
  refine LWp.rz hT hW ?_
  simp
  refine LWp.seq ?_
  refine LWp.ro hT hW (fun | 7 => some <| .plain ⟨.d (I64 (idxI p h)), true⟩ | _ => none) ?_
  simp
  refine ⟨IndexH_ok h p g cs hg, ?_⟩
  refine LWp.ret ?_
  simp [← idxI_nonneg]
theorem Shared11_ok (s x : List Nm) : Ok Tryz.prog 131 [nmsD x, .ro [nmsD s]] ⟨.d (.bool (decide (x = s))), true⟩ := by
  refine Ok.ret Tryz.func131 (by kernel_rfl) (c := _) rfl Tryz.ntmps131 (by simp) Tryz.results131 (by intro _ h; cases h) fun w0 X hp => ?_
  refine LWp.seq ?_
  refine LWp.rz hT hW ?_
  simp
  refine LWp.seq ?_
  refine LWp.ro hT hW (fun | 6 => some <| .plain ⟨.d (.bool (decide (x = s))), true⟩ | _ => none) ?_
  simp
  refine ⟨by simpa using EqualNm_ok x s, ?_⟩
  refine LWp.ret ?_
  simp
theorem Shared1_ok (h : Hs) (s : List Nm) : Ok Tryz.prog 129 [.sl (h.map nmsD), nmsD s] ⟨.d (.bool (decide (s ∈ h))), true⟩ := by
  refine Ok.ret Tryz.func129 (by kernel_rfl) (c := _) rfl Tryz.ntmps129 (by simp) Tryz.results129 (by intro _ h; cases h) fun w0 X hp => ?_
  refine LWp.seq ?_
  refine LWp.rz hT hW ?_
  simp
  refine LWp.seq ?_
  have han : (h.any fun x => decide (x = s)) = decide (s ∈ h) := by
    rw [Bool.eq_iff_iff]
    simp
  refine LWp.ro hT hW (fun | 7 => some <| .plain ⟨.d (.bool (decide (s ∈ h))), true⟩ | _ => none) ?_
  simp
  refine ⟨by have q := AnyH_ok h (fun x => decide (x = s)) 131 [.ro [nmsD s]] fun x _ => Shared11_ok s x; rw [han] at q; simpa using q, ?_⟩
  refine LWp.ret ?_
  simp
def stationsH (h : Hs) : Hs := (List.range h.length).map fun i => sortN (cat (h.take (i + 1)))
theorem stat_len {h : Hs} : (stationsH h).length = h.length := by simp [stationsH]
theorem stat_get {h : Hs} {i : Nat} (hi : i < (stationsH h).length) : (stationsH h)[i] = sortN (cat (h.take (i + 1))) := by simp [stationsH]
theorem stat_succ {h : Hs} {i : Nat} (hi : i < h.length) : (stationsH h).take (i + 1) = (stationsH h).take i ++ [sortN (cat (h.take (i + 1)))] := by
  have hi' : i < (stationsH h).length := by rw [stat_len]; exact hi
  rw [List.take_succ_eq_append_getElem hi', stat_get hi']
theorem stat_succ2 {h : Hs} {i : Nat} (hi : i < h.length) : List.take (i + 1) ((stationsH h).map nmsD) = List.take i ((stationsH h).map nmsD) ++ [nmsD (sortN (cat (h.take (i + 1))))] := by
  rw [← List.map_take, stat_succ hi, List.map_append, List.map_take]; rfl
theorem stations_ok (h : Hs) (hl : h.length ≤ 1000000) (hf : (cat h).length ≤ 1000000) : Ok Tryz.prog 132 [cmD h] ⟨.d (.sl ((stationsH h).map nmsD)), false⟩ := by
  refine Ok.ret Tryz.func132 (by kernel_rfl) (c := _) rfl Tryz.ntmps132 (by simp) Tryz.results132 (by intro _ h; cases h) fun w0 X hp => ?_
  refine LWp.seq ?_
  refine LWp.rz hT hW ?_
  simp
  refine LWp.seq ?_
  refine LWp.rz hT hW ?_
  simp
  refine LWp.seq ?_
  refine LWp.seq ?_
  refine LWp.rz hT hW ?_
  simp [cmD]
  refine LWp.block ?_
  refine LWp.loopW (ι := Nat) (fun i => mkEnv [(1, .bx 1 0), (3, .ow 3 0 i), (9, .d (I64 h.length)), (10, .d (I64 i))]) (fun i => mkObs [(1, .box false [.d (.sl (h.map nmsD))]), (3, .row false 1 (((stationsH h).take i).map nmsD))]) (fun i => i ≤ h.length) (fun i => h.length - i) 0 (Weak.to [1, 3, 9, 10] [(1, 1), (3, 3)] (by decide) (by decide) (by simp [hp]) (by simp) (by simp)) (Nat.zero_le _) fun i hi3 => ?_
  refine LWp.seq ?_
  refine LWp.rz hT hW ?_
  simp
  refine LWp.seq ?_
  refine LWp.iff ?_
  simp
  refine ⟨fun h3 => ?_, fun h3 => ?_⟩
  · refine LWp.skip ?_
    simp
    refine LWp.seq ?_
    refine LWp.block ?_
    refine LWp.seq ?_
    refine LWp.rz hT hW ?_
    simp
    refine LWp.seq ?_
    refine LWp.ro hT hW (fun | 16 => some <| .plain ⟨.tup [.d (nmsD (sortN (cat (h.take (i + 1))))), .d (I64 0)], true⟩ | _ => none) ?_
    simp [evalExtract]
    refine ⟨by have q := hAt_ok h i hl hf; rw [atV_ok h3] at q; simpa [cmD] using q, ?_⟩
    refine LWp.rz hT hW ?_
    simp
    refine ⟨by omega, ?_⟩
    refine LWp.rz hT hW ?_
    simp
    refine ⟨by omega, ?_⟩
    refine loopQ.mk (i + 1) (Weak.to [1, 3, 9, 10] [(1, 1), (22, 3)] (by decide) (by decide) (by simp [hp]) (by simp) (by simp [stat_succ2 h3, List.take_take])) ?_ ?_
    · exact h3
    · omega
  · refine LWp.exit ?_
    simp
    refine LWp.seq ?_
    refine LWp.rz hT hW ?_
    simp
    refine LWp.ret ?_
    have hi : i = (stationsH h).length := by rw [stat_len]; omega
    simp [hi]
def addH (B o : Hs) (s : List Nm) : Hs := if s ∈ B ∧ s ∉ o then o ++ [s] else o
def sharedH (A B : Hs) : Hs := A.foldl (addH B) []
theorem add_len {B o : Hs} {s : List Nm} : (addH B o s).length ≤ o.length + 1 := by unfold addH; split <;> simp
theorem shared_succ {A B : Hs} {i : Nat} (hi : i < A.length) : (A.take (i + 1)).foldl (addH B) [] = addH B ((A.take i).foldl (addH B) []) A[i] := by
  rw [List.take_succ_eq_append_getElem hi, List.foldl_append]; rfl
theorem shared_len {A B : Hs} : ∀ i, ((A.take i).foldl (addH B) []).length ≤ i
  | 0 => by simp
  | i + 1 => by
    rcases Nat.lt_or_ge i A.length with h | h
    · rw [shared_succ h]
      have h1 := shared_len (A := A) (B := B) i
      have h2 := add_len (B := B) (o := (A.take i).foldl (addH B) []) (s := A[i])
      omega
    · have h1 := shared_len (A := A) (B := B) i
      rw [List.take_of_length_le h] at h1
      rw [List.take_of_length_le (by omega)]
      omega
theorem hShared_ok (a b : Hs) (ha : a.length ≤ 1000000) (hb : b.length ≤ 1000000) (hfa : (cat a).length ≤ 1000000) (hfb : (cat b).length ≤ 1000000) : Ok Tryz.prog 76 [cmD a, cmD b] ⟨.d (.sl ((sharedH (stationsH a) (stationsH b)).map nmsD)), false⟩ := by
  refine Ok.ret Tryz.func76 (by kernel_rfl) (c := _) rfl Tryz.ntmps76 (by simp) Tryz.results76 (by intro _ h; cases h) fun w0 X hp => ?_
  refine LWp.seq ?_
  refine LWp.rz hT hW ?_
  simp
  refine LWp.seq ?_
  refine LWp.rz hT hW ?_
  simp
  refine LWp.seq ?_
  refine LWp.ro hT hW (fun | 11 => some <| .plain ⟨.d (.sl ((stationsH b).map nmsD)), false⟩ | _ => none) ?_
  simp [cmD]
  refine ⟨by simpa [cmD] using stations_ok b hb hfb, ?_⟩
  refine LWp.seq ?_
  refine LWp.rz hT hW ?_
  simp
  refine LWp.seq ?_
  refine LWp.seq ?_
  obtain ⟨A, hA⟩ : ∃ A, A = stationsH a := ⟨_, rfl⟩
  obtain ⟨B, hB⟩ : ∃ B, B = stationsH b := ⟨_, rfl⟩
  have hAl : A.length = a.length := by rw [hA, stat_len]
  rw [← hA, ← hB]
  refine LWp.ro hT hW (fun | 13 => some <| .plain ⟨.d (.sl (A.map nmsD)), false⟩ | _ => none) ?_
  simp
  refine ⟨by rw [hA]; simpa [cmD] using stations_ok a ha hfa, ?_⟩
  refine LWp.block ?_
  refine LWp.loopW (ι := Nat × Hs) (fun ⟨i, o⟩ => mkEnv [(5, .d (.fn 129 [])), (6, .d (.sl (B.map nmsD))), (7, .ow 7 0 o.length), (13, .d (.sl (A.map nmsD))), (14, .d (I64 A.length)), (15, .d (I64 i))]) (fun ⟨i, o⟩ => mkObs [(7, .row false 1 (o.map nmsD))]) (fun ⟨i, o⟩ => i ≤ A.length ∧ o = (A.take i).foldl (addH B) []) (fun ⟨i, o⟩ => A.length - i) (0, []) (Weak.to [5, 6, 7, 13, 14, 15] [(7, 7)] (by decide) (by decide) (by simp [hp]) (by simp) (by simp)) (⟨Nat.zero_le _, rfl⟩) fun ⟨i, o⟩ hi5 => ?_
  refine LWp.seq ?_
  refine LWp.rz hT hW ?_
  simp
  refine LWp.seq ?_
  refine LWp.iff ?_
  simp
  refine ⟨fun h5 => ?_, fun h5 => ?_⟩
  · refine LWp.skip ?_
    simp
    refine LWp.seq ?_
    refine LWp.block ?_
    refine LWp.seq ?_
    refine LWp.rz hT hW ?_
    simp [h5]
    refine LWp.seq ?_
    refine LWp.ro hT hW (fun | 22 => some <| .plain ⟨.d (.bool (decide (A[i] ∈ B))), true⟩ | 27 => some <| .plain ⟨.d (.bool (decide (A[i] ∈ o))), true⟩ | _ => none) ?_
    simp
    refine ⟨⟨by simpa using Shared1_ok B A[i], fun _ => by simpa using Shared1_ok o A[i]⟩, ?_⟩
    refine LWp.iff ?_
    simp
    refine ⟨fun p1 p2 => ?_, fun h7' => ?_⟩
    · have h7 : A[i] ∈ B ∧ A[i] ∉ o := ⟨p1, p2⟩
      have hol := shared_len (A := A) (B := B) i
      rw [← hi5.2] at hol
      refine LWp.rz hT hW ?_
      simp
      refine ⟨by omega, ?_⟩
      refine LWp.rz hT hW ?_
      simp
      refine ⟨by omega, ?_⟩
      refine loopQ.mk (i + 1, o ++ [A[i]]) (Weak.to [5, 6, 7, 13, 14, 15] [(33, 7)] (by decide) (by decide) (by simp [hp]) (by simp) (by simp)) ?_ ?_
      · exact ⟨h5, by rw [shared_succ h5, ← hi5.2]; unfold addH; rw [if_pos h7]⟩
      · omega
    · have h7 : ¬ (A[i] ∈ B ∧ A[i] ∉ o) := fun q => absurd (h7' q.1) q.2
      refine LWp.skip ?_
      simp
      refine LWp.rz hT hW ?_
      simp
      refine ⟨by omega, ?_⟩
      refine loopQ.mk (i + 1, o) (Weak.to [5, 6, 7, 13, 14, 15] [(7, 7)] (by decide) (by decide) (by simp [hp]) (by simp) (by simp)) ?_ ?_
      · exact ⟨h5, by rw [shared_succ h5, ← hi5.2]; unfold addH; rw [if_neg h7]⟩
      · omega
  · refine LWp.exit ?_
    simp
    refine LWp.seq ?_
    refine LWp.rz hT hW ?_
    simp
    refine LWp.ret ?_
    have hi : i = A.length := by omega
    have e := hi5.2
    rw [hi, List.take_length] at e
    have e2 : sharedH A B = o := by rw [e]; rfl
    simp [e2]
end
end Go.Eng
