/-
  Texts of the proofs of this seat, part 8. No condition.
-/
import Derived.Test.YtficgheaddkoeaaGreatMG
import Derived.Scope
set_option linter.unusedVariables false
set_option linter.unusedSimpArgs false
namespace Go.Eng
open Go.Proofs
attribute [local simp] runL stepL evalG evalOp opLV constLV putEnv dstOk upd upds Res.plain Res.cond Res.fail evalBin evalUn seqQ blockQ argsEnv lookL lookH RetIs memless freshL evalPick evalMin bval bok evalLen evalIn strip whenC guardOps guardC slotsOf
  runM foldS stepI stepM maskE wrIn lk renO lookN evalCall evalCallee optAll resLV resObj retLV retObj retsLV retsObj evalLoad evalIndexAddr evalField solid cellsD_agg cellsD_int cellsD_bool cellsD_str cellsD_sl cellsD_ro cellsD_fn cellsL_agg cellsL_dagg cellsL_int cellsL_bool cellsL_str cellsL_sl cellsL_fn cellsL_ow cellsL_bx cellsL_lfn cellsL_nl takeL takeD mkAgg allD eqD eqDs kindsAre kindIs LObj.live TK.isNone TK.agg TK.isBool TK.isStr TK.isStruct Op.operands Call.operands
  evalBuildSlice evalAppend elemsOf evalStore evalBuild fillL lookupF putL evalSlice bound evalConv elemsS freezes frozen loadR
  mkEnv_at mkObs_at close_d close_agg close_ow close_bx close_fn close_nl touch_d touch_agg touch_ow touch_bx touch_fn touch_nl ren_d ren_agg ren_bx ren_rp ren_ow ren_fn ren_nl ren_junk retQ_ret retQ2_ret condQ_bool Nm.d Df.d Ed.d nmsD dfsD strsD edsD retC_ret nm_eq df_eq take_map_len take_map_app
  nm_t nm_d nm_td df_t df_d df_td str_t str_d str_td ed_t ed_d ed_td
  evalAppendIn evalBuildSliceC evalCopyC shortL evalApart evalAppendC evalAppendZ evalAppendG evalCapC isOc TK.isInt close_oc touch_oc ren_oc cellsL_oc evalCut evalClear evalCopy evalMake evalWrap evalCap evalNil isNilC lenL isInp gorc gorc2
  mapOf findD keyEq keyOk evalMakeMap evalRange zeroD zeroDV argsG shutG outN lenv retG0_ret retG0_normal retG1_ret retGR_ret renO close_mp touch_mp ren_mp optAll_d optAll_d' touch_ds cellsL_mp cellsD_mp cellsL_dmp
  evalMapSet evalPtr TK.isPtr evalToArr firstL retN_ret retsQ rvarL close_bm touch_bm ren_bm cellsD_bm cellsL_bm cellsL_lbm
section
attribute [local simp] Res.cond actD
def bit10 (q : Int) (i : Nat) : Bool := decide ((q.fdiv (2 ^ ((i : Int).tmod 10).toNat)).tmod 2 = 1)
theorem bit10_at {q : Int} {i k : Nat} (h : (k : Int) = (i : Int).tmod 10) : (bit10 q i = true) = ((q.fdiv (2 ^ k)).tmod 2 = 1) := by
  unfold bit10
  rw [← h]
  simp
def bitsTo (q : Int) (c : List Nm) : Nat → List Nm
  | 0 => []
  | i + 1 => if bit10 q i = true then bitsTo q c i ++ [c.getD i default] else bitsTo q c i
theorem bits_len {q : Int} {c : List Nm} : ∀ i, (bitsTo q c i).length ≤ i
  | 0 => Nat.le_refl _
  | i + 1 => by
    have := bits_len (q := q) (c := c) i
    unfold bitsTo
    split <;> simp <;> omega
theorem bits_yes {q : Int} {c : List Nm} {i : Nat} (hi : i < c.length) (h : bit10 q i = true) : bitsTo q c (i + 1) = bitsTo q c i ++ [c[i]] := by
  rw [bitsTo, if_pos h, List.getD_eq_getElem?_getD, List.getElem?_eq_getElem hi]; rfl
theorem bits_no {q : Int} {c : List Nm} {i : Nat} (h : ¬ bit10 q i = true) : bitsTo q c (i + 1) = bitsTo q c i := by
  rw [bitsTo, if_neg h]
def lenM (h : Hs) : Int := if (h.length : Int) < 1 then 1 else h.length
def sk (n : Int) : Int := (around n 1048576).tmod 7
def sa (h : Hs) (n : Int) : Int := ((around n 1048576).tdiv 7).tmod (lenM h)
def sn (h : Hs) (n : Int) : Int := if sk n = 1 then 1 + ((around n 1048576).tdiv 49).tmod (lenM h + 1) else ((around n 1048576).tdiv 49).tmod (lenM h + 1)
def snm (l : List Ed) (h : Hs) (n : Int) : List Nm :=
  if sk n = 2 ∧ sa h n < h.length then bitsTo ((around n 1048576).tdiv 343) (h.getD (sa h n).toNat []) (h.getD (sa h n).toNat []).length
  else if l = [] then [] else [(l.getD (((around n 1048576).tdiv 343).tmod l.length).toNat default).name]
theorem lenM_pos (h : Hs) : 1 ≤ lenM h ∧ lenM h ≤ h.length + 1 := by unfold lenM; split <;> omega
theorem snm_len (l : List Ed) (h : Hs) (n : Int) : (snm l h n).length ≤ (cat h).length + 1 := by
  unfold snm
  split
  · rename_i q
    have h1 := bits_len (q := (around n 1048576).tdiv 343) (c := h.getD (sa h n).toNat []) (h.getD (sa h n).toNat []).length
    have h0 : 0 ≤ sa h n := Int.tmod_nonneg _ (by
      rw [Int.tdiv_eq_ediv_of_nonneg (around_lt n 1048576 (by decide)).1]
      have := (around_lt n 1048576 (by decide)).1
      omega)
    have hi : (sa h n).toNat < h.length := by omega
    rw [List.getD_eq_getElem?_getD, List.getElem?_eq_getElem hi, Option.getD_some] at h1 ⊢
    have h2 := cat_le hi
    have h3 := cat_tot (h := h) ((sa h n).toNat + 1)
    omega
  · split <;> simp
theorem Some25_ok (l : List Ed) (h : Hs) (n : Int) (h1 : -9223372036854775808 ≤ n) (h2 : n ≤ 9223372036854775807) (hL : l.length ≤ 1000000) (hl : h.length ≤ 1000000) (hf : (cat h).length ≤ 1000000) : Ok Tryz.prog 31 [edsD l, cmD h, I64 n] ⟨.d (actD (sk n) (sa h n) (sn h n) (snm l h n)), false⟩ := by
  refine Ok.cell hT Tryz.func31 (by kernel_rfl) (c := _) rfl Tryz.ntmps31 (by simp) Tryz.results31 (by intro _ h; cases h) fun w0 X hp => ?_
  refine LWp.seq ?_
  refine LWp.rz hT hW ?_
  simp
  refine LWp.seq ?_
  obtain ⟨N, hN⟩ : ∃ N, N = around n 1048576 := ⟨_, rfl⟩
  obtain ⟨hN0, hN1⟩ : 0 ≤ N ∧ N < 1048576 := by rw [hN]; exact around_lt _ _ (by decide)
  have hq7 : 0 ≤ N.tdiv 7 ∧ N.tdiv 7 ≤ 1048576 := by rw [Int.tdiv_eq_ediv_of_nonneg hN0]; omega
  have hq49 : 0 ≤ N.tdiv 49 ∧ N.tdiv 49 ≤ 1048576 := by rw [Int.tdiv_eq_ediv_of_nonneg hN0]; omega
  have hq343 : 0 ≤ N.tdiv 343 ∧ N.tdiv 343 ≤ 1048576 := by rw [Int.tdiv_eq_ediv_of_nonneg hN0]; omega
  obtain ⟨M, hM⟩ : ∃ M, M = lenM h := ⟨_, rfl⟩
  have hMp := lenM_pos h
  rw [← hM] at hMp
  have hMe : (if (h.length : Int) < 1 then 1 else (h.length : Int)) = M := hM.symm
  obtain ⟨k, hk⟩ : ∃ k, k = N.tmod 7 := ⟨_, rfl⟩
  obtain ⟨a, ha⟩ : ∃ a, a = (N.tdiv 7).tmod M := ⟨_, rfl⟩
  obtain ⟨m, hm⟩ : ∃ m, m = (N.tdiv 49).tmod (M + 1) := ⟨_, rfl⟩
  have ha0 : 0 ≤ a := by rw [ha]; exact Int.tmod_nonneg _ hq7.1
  have hm0 : 0 ≤ m ∧ m < M + 1 := by rw [hm]; exact ⟨Int.tmod_nonneg _ hq49.1, Int.tmod_lt_of_pos _ (by omega)⟩
  have esk : sk n = k := by rw [sk, ← hN, hk]
  have esa : sa h n = a := by rw [sa, ← hN, ← hM, ha]
  have esn : sn h n = if k = 1 then 1 + m else m := by rw [sn, esk, ← hN, ← hM, hm]
  refine LWp.ro hT hW (fun | 12 => some <| .plain ⟨.d (I64 N), true⟩ | _ => none) ?_
  simp [cmD]
  refine ⟨by rw [hN]; exact Around_ok n 1048576 h1 h2 (by decide), ?_⟩
  refine LWp.seq ?_
  refine LWp.rz hT hW ?_
  simp
  refine LWp.seq ?_
  refine LWp.regAny hT hW hMixed (lk [[],[0],[],[2],[],[2,3,4],[],[6],[],[8],[6,7,8,9],[0,1,2,3,4,5,6,7,8,9,10],[],[0,1,2,3,4,5,6,7,8,9,10,11,12]]) (lk [[8],[8],[8],[8],[8],[8],[8],[8],[8],[8],[8],[8],[],[]]) (lk [[],[],[],[],[],[],[],[],[],[],[],[],[8],[8]]) (by kernel_rfl) (fun _ => none) (fun _ => ⟨rfl, fun _ h => h⟩) ?_
  simp [hMe, ← hk, ← ha, ← hm]
  refine ⟨by omega, ?_⟩
  refine LWp.seq ?_
  refine LWp.seq ?_
  refine LWp.rz hT hW ?_
  simp
  refine LWp.iff ?_
  simp
  refine ⟨fun h4 => ?_, fun h4 => ?_⟩
  · have esn2 : sn h n = 1 + m := by rw [esn, if_pos h4]
    refine LWp.rz hT hW ?_
    simp
    refine ⟨by omega, ?_⟩
    refine LWp.seq ?_
    refine LWp.seq ?_
    refine LWp.rz hT hW ?_
    simp
    refine LWp.iff ?_
    simp
    refine ⟨fun h6 => ?_, fun h6 => ?_⟩
    · have hln : 0 < l.length := h6
      have hne : l ≠ [] := List.ne_nil_of_length_pos h6
      obtain ⟨jj, hjj⟩ : ∃ jj : Nat, (jj : Int) = (N.tdiv 343).tmod l.length := ⟨((N.tdiv 343).tmod l.length).toNat, by have := Int.tmod_nonneg (l.length : Int) hq343.1; omega⟩
      have hjl : jj < l.length := by have := Int.tmod_lt_of_pos (N.tdiv 343) (show (0 : Int) < (l.length : Int) by omega); omega
      have esm : ¬ (k = 2 ∧ a < h.length) → snm l h n = [l[jj].name] := fun q => by
        unfold snm
        rw [esk, esa, if_neg q, if_neg hne, ← hN, ← hjj]
        simp [List.getD_eq_getElem?_getD, hjl]
      refine LWp.rz hT hW ?_
      simp [← hjj, hjl]
      refine ⟨⟨by omega, hne⟩, ?_⟩
      refine LWp.seq ?_
      refine LWp.seq ?_
      refine LWp.rz hT hW ?_
      simp
      refine LWp.iff ?_
      simp
      refine ⟨fun p1 p2 => ?_, fun h8 => ?_⟩
      · obtain ⟨ja, rfl⟩ : ∃ ja : Nat, a = (ja : Int) := ⟨a.toNat, by omega⟩
        have hja : ja < h.length := by omega
        obtain ⟨c, hc⟩ : ∃ c, c = h[ja] := ⟨_, rfl⟩
        have hcl : c.length ≤ 1000000 := by
          have q1 := cat_le hja
          have q2 := cat_tot (h := h) (ja + 1)
          rw [hc]; omega
        have esb : snm l h n = bitsTo (N.tdiv 343) c c.length := by
          unfold snm
          rw [esk, esa, if_pos ⟨p1, p2⟩, ← hN, hc]
          simp [List.getD_eq_getElem?_getD, hja]
        refine LWp.seq ?_
        refine LWp.rz hT hW ?_
        simp
        refine LWp.seq ?_
        rw [← esn2]
        refine LWp.rz hT hW ?_
        simp [hja, ← hc]
        refine LWp.seq ?_
        refine LWp.rz hT hW ?_
        simp
        refine LWp.nlCell (fz := false) (cs := [.d (I64 k), .d (I64 ja), .d (I64 (sn h n)), .nl]) 8 3 1089 2 (by decide) ⟨by simp, by simp, by simp, ?_⟩
        refine LWp.block ?_
        refine LWp.loopW (ι := Nat) (fun i => mkEnv [(2, .d (I64 N)), (6, .bx 6 0), (8, .bx 8 0), (9, .d (nmsD c)), (10, .d (I64 i))]) (fun i => mkObs [(6, .box false [.d (I64 0), .d (I64 0), .d (I64 0), .nl]), (8, .box false [.d (I64 k), .d (I64 ja), .d (I64 (sn h n)), .ow 1089 0 (bitsTo (N.tdiv 343) c i).length]), (1089, .row false 2 ((bitsTo (N.tdiv 343) c i).map Nm.d))]) (fun i => i ≤ c.length) (fun i => c.length - i) 0 (Weak.to [2, 6, 8, 9, 10] [(6, 6), (8, 8), (1089, 1089)] (by decide) (by decide) (by simp [hp]) (by simp) (by simp [bitsTo])) (Nat.zero_le _) fun i hi12 => ?_
        refine LWp.seq ?_
        refine LWp.seq ?_
        refine LWp.rz hT hW ?_
        simp
        refine LWp.iff ?_
        simp
        refine ⟨fun h12 => ?_, fun h12 => ?_⟩
        · refine LWp.skip ?_
          simp
          refine LWp.seq ?_
          refine LWp.block ?_
          refine LWp.seq ?_
          have hm1 : 0 ≤ ((i : Int)).tmod 10 := Int.tmod_nonneg _ (by omega)
          have hm2 : ((i : Int)).tmod 10 < 10 := Int.tmod_lt_of_pos _ (by omega)
          obtain ⟨k0, hk0⟩ : ∃ k0 : Nat, (k0 : Int) = ((i : Int)).tmod 10 := ⟨(((i : Int)).tmod 10).toNat, by omega⟩
          have hkw := u64_nat (k := k0) (by omega)
          have hk64 : min k0 64 = k0 := by omega
          have hbl := bits_len (q := N.tdiv 343) (c := c) i
          refine LWp.rz hT hW ?_
          simp [← hk0, hkw, IntKind.bits, hk64]
          refine ⟨by omega, ?_⟩
          refine LWp.iff ?_
          simp
          refine ⟨fun h14 => ?_, fun h14 => ?_⟩
          · refine LWp.regAny hT hW hMixed (lk [[],[0],[],[],[2,3],[2,3,4],[2,3,4,5],[0,1,2,3,4,5,6],[0,1,2,3,4,5,6,7],[0,1,2,3,4,5,6,7,8]]) (lk [[88],[88],[],[],[],[],[],[],[],[]]) (lk [[],[],[],[],[],[],[88],[83,89],[],[8]]) (by kernel_rfl) (fun _ => none) (fun _ => ⟨rfl, fun _ h => h⟩) ?_
            simp [h12]
            refine ⟨by omega, ?_⟩
            refine LWp.rz hT hW ?_
            simp
            refine ⟨by omega, ?_⟩
            refine loopQ.mk (i + 1) (Weak.to [2, 6, 8, 9, 10] [(6, 6), (8, 8), (89, 1089)] (by decide) (by decide) (by simp [hp]) (by simp) (by simp [bits_yes h12 ((bit10_at hk0).mpr h14)])) ?_ ?_
            · exact h12
            · omega
          · refine LWp.skip ?_
            simp
            refine LWp.rz hT hW ?_
            simp
            refine ⟨by omega, ?_⟩
            refine loopQ.mk (i + 1) (Weak.to [2, 6, 8, 9, 10] [(6, 6), (8, 8), (1089, 1089)] (by decide) (by decide) (by simp [hp]) (by simp) (by simp [bits_no (fun q => h14 ((bit10_at hk0).mp q))])) ?_ ?_
            · exact h12
            · omega
        · refine LWp.exit ?_
          simp
          refine LWp.seq ?_
          refine LWp.rz hT hW ?_
          simp
          refine LWp.ret ?_
          have hi : i = c.length := by omega
          simp [esk, esa, esb, hi]
      · have h8' : ¬ (k = 2 ∧ a < h.length) := fun q => by have := h8 q.1; omega
        have esb := esm h8'
        refine LWp.skip ?_
        simp
        refine LWp.seq ?_
        refine LWp.rz hT hW ?_
        simp
        refine LWp.ret ?_
        simp [esk, esa, esn2, esb]
    · have esm : ¬ (k = 2 ∧ a < h.length) → snm l h n = [] := fun q => by
        unfold snm
        rw [esk, esa, if_neg q, if_pos h6]
      refine LWp.skip ?_
      simp
      refine LWp.seq ?_
      refine LWp.seq ?_
      refine LWp.rz hT hW ?_
      simp
      refine LWp.iff ?_
      simp
      refine ⟨fun p1 p2 => ?_, fun h8 => ?_⟩
      · obtain ⟨ja, rfl⟩ : ∃ ja : Nat, a = (ja : Int) := ⟨a.toNat, by omega⟩
        have hja : ja < h.length := by omega
        obtain ⟨c, hc⟩ : ∃ c, c = h[ja] := ⟨_, rfl⟩
        have hcl : c.length ≤ 1000000 := by
          have q1 := cat_le hja
          have q2 := cat_tot (h := h) (ja + 1)
          rw [hc]; omega
        have esb : snm l h n = bitsTo (N.tdiv 343) c c.length := by
          unfold snm
          rw [esk, esa, if_pos ⟨p1, p2⟩, ← hN, hc]
          simp [List.getD_eq_getElem?_getD, hja]
        refine LWp.seq ?_
        refine LWp.rz hT hW ?_
        simp
        refine LWp.seq ?_
        rw [← esn2]
        refine LWp.rz hT hW ?_
        simp [hja, ← hc]
        refine LWp.seq ?_
        refine LWp.rz hT hW ?_
        simp
        refine LWp.nlCell (fz := false) (cs := [.d (I64 k), .d (I64 ja), .d (I64 (sn h n)), .nl]) 8 3 1089 2 (by decide) ⟨by simp, by simp, by simp, ?_⟩
        refine LWp.block ?_
        refine LWp.loopW (ι := Nat) (fun i => mkEnv [(2, .d (I64 N)), (6, .bx 6 0), (8, .bx 8 0), (9, .d (nmsD c)), (10, .d (I64 i))]) (fun i => mkObs [(6, .box false [.d (I64 0), .d (I64 0), .d (I64 0), .nl]), (8, .box false [.d (I64 k), .d (I64 ja), .d (I64 (sn h n)), .ow 1089 0 (bitsTo (N.tdiv 343) c i).length]), (1089, .row false 2 ((bitsTo (N.tdiv 343) c i).map Nm.d))]) (fun i => i ≤ c.length) (fun i => c.length - i) 0 (Weak.to [2, 6, 8, 9, 10] [(6, 6), (8, 8), (1089, 1089)] (by decide) (by decide) (by simp [hp]) (by simp) (by simp [bitsTo])) (Nat.zero_le _) fun i hi12 => ?_
        refine LWp.seq ?_
        refine LWp.seq ?_
        refine LWp.rz hT hW ?_
        simp
        refine LWp.iff ?_
        simp
        refine ⟨fun h12 => ?_, fun h12 => ?_⟩
        · refine LWp.skip ?_
          simp
          refine LWp.seq ?_
          refine LWp.block ?_
          refine LWp.seq ?_
          have hm1 : 0 ≤ ((i : Int)).tmod 10 := Int.tmod_nonneg _ (by omega)
          have hm2 : ((i : Int)).tmod 10 < 10 := Int.tmod_lt_of_pos _ (by omega)
          obtain ⟨k0, hk0⟩ : ∃ k0 : Nat, (k0 : Int) = ((i : Int)).tmod 10 := ⟨(((i : Int)).tmod 10).toNat, by omega⟩
          have hkw := u64_nat (k := k0) (by omega)
          have hk64 : min k0 64 = k0 := by omega
          have hbl := bits_len (q := N.tdiv 343) (c := c) i
          refine LWp.rz hT hW ?_
          simp [← hk0, hkw, IntKind.bits, hk64]
          refine ⟨by omega, ?_⟩
          refine LWp.iff ?_
          simp
          refine ⟨fun h14 => ?_, fun h14 => ?_⟩
          · refine LWp.regAny hT hW hMixed (lk [[],[0],[],[],[2,3],[2,3,4],[2,3,4,5],[0,1,2,3,4,5,6],[0,1,2,3,4,5,6,7],[0,1,2,3,4,5,6,7,8]]) (lk [[88],[88],[],[],[],[],[],[],[],[]]) (lk [[],[],[],[],[],[],[88],[83,89],[],[8]]) (by kernel_rfl) (fun _ => none) (fun _ => ⟨rfl, fun _ h => h⟩) ?_
            simp [h12]
            refine ⟨by omega, ?_⟩
            refine LWp.rz hT hW ?_
            simp
            refine ⟨by omega, ?_⟩
            refine loopQ.mk (i + 1) (Weak.to [2, 6, 8, 9, 10] [(6, 6), (8, 8), (89, 1089)] (by decide) (by decide) (by simp [hp]) (by simp) (by simp [bits_yes h12 ((bit10_at hk0).mpr h14)])) ?_ ?_
            · exact h12
            · omega
          · refine LWp.skip ?_
            simp
            refine LWp.rz hT hW ?_
            simp
            refine ⟨by omega, ?_⟩
            refine loopQ.mk (i + 1) (Weak.to [2, 6, 8, 9, 10] [(6, 6), (8, 8), (1089, 1089)] (by decide) (by decide) (by simp [hp]) (by simp) (by simp [bits_no (fun q => h14 ((bit10_at hk0).mp q))])) ?_ ?_
            · exact h12
            · omega
        · refine LWp.exit ?_
          simp
          refine LWp.seq ?_
          refine LWp.rz hT hW ?_
          simp
          refine LWp.ret ?_
          have hi : i = c.length := by omega
          simp [esk, esa, esb, hi]
      · have h8' : ¬ (k = 2 ∧ a < h.length) := fun q => by have := h8 q.1; omega
        have esb := esm h8'
        refine LWp.skip ?_
        simp
        refine LWp.seq ?_
        refine LWp.rz hT hW ?_
        simp
        refine LWp.ret ?_
        simp [esk, esa, esn2, esb]
  · have esn2 : sn h n = m := by rw [esn, if_neg h4]
    refine LWp.skip ?_
    simp
    refine LWp.seq ?_
    refine LWp.seq ?_
    refine LWp.rz hT hW ?_
    simp
    refine LWp.iff ?_
    simp
    refine ⟨fun h6 => ?_, fun h6 => ?_⟩
    · have hln : 0 < l.length := h6
      have hne : l ≠ [] := List.ne_nil_of_length_pos h6
      obtain ⟨jj, hjj⟩ : ∃ jj : Nat, (jj : Int) = (N.tdiv 343).tmod l.length := ⟨((N.tdiv 343).tmod l.length).toNat, by have := Int.tmod_nonneg (l.length : Int) hq343.1; omega⟩
      have hjl : jj < l.length := by have := Int.tmod_lt_of_pos (N.tdiv 343) (show (0 : Int) < (l.length : Int) by omega); omega
      have esm : ¬ (k = 2 ∧ a < h.length) → snm l h n = [l[jj].name] := fun q => by
        unfold snm
        rw [esk, esa, if_neg q, if_neg hne, ← hN, ← hjj]
        simp [List.getD_eq_getElem?_getD, hjl]
      refine LWp.rz hT hW ?_
      simp [← hjj, hjl]
      refine ⟨⟨by omega, hne⟩, ?_⟩
      refine LWp.seq ?_
      refine LWp.seq ?_
      refine LWp.rz hT hW ?_
      simp
      refine LWp.iff ?_
      simp
      refine ⟨fun p1 p2 => ?_, fun h8 => ?_⟩
      · obtain ⟨ja, rfl⟩ : ∃ ja : Nat, a = (ja : Int) := ⟨a.toNat, by omega⟩
        have hja : ja < h.length := by omega
        obtain ⟨c, hc⟩ : ∃ c, c = h[ja] := ⟨_, rfl⟩
        have hcl : c.length ≤ 1000000 := by
          have q1 := cat_le hja
          have q2 := cat_tot (h := h) (ja + 1)
          rw [hc]; omega
        have esb : snm l h n = bitsTo (N.tdiv 343) c c.length := by
          unfold snm
          rw [esk, esa, if_pos ⟨p1, p2⟩, ← hN, hc]
          simp [List.getD_eq_getElem?_getD, hja]
        refine LWp.seq ?_
        refine LWp.rz hT hW ?_
        simp
        refine LWp.seq ?_
        rw [← esn2]
        refine LWp.rz hT hW ?_
        simp [hja, ← hc]
        refine LWp.seq ?_
        refine LWp.rz hT hW ?_
        simp
        refine LWp.nlCell (fz := false) (cs := [.d (I64 k), .d (I64 ja), .d (I64 (sn h n)), .nl]) 8 3 1089 2 (by decide) ⟨by simp, by simp, by simp, ?_⟩
        refine LWp.block ?_
        refine LWp.loopW (ι := Nat) (fun i => mkEnv [(2, .d (I64 N)), (6, .bx 6 0), (8, .bx 8 0), (9, .d (nmsD c)), (10, .d (I64 i))]) (fun i => mkObs [(6, .box false [.d (I64 0), .d (I64 0), .d (I64 0), .nl]), (8, .box false [.d (I64 k), .d (I64 ja), .d (I64 (sn h n)), .ow 1089 0 (bitsTo (N.tdiv 343) c i).length]), (1089, .row false 2 ((bitsTo (N.tdiv 343) c i).map Nm.d))]) (fun i => i ≤ c.length) (fun i => c.length - i) 0 (Weak.to [2, 6, 8, 9, 10] [(6, 6), (8, 8), (1089, 1089)] (by decide) (by decide) (by simp [hp]) (by simp) (by simp [bitsTo])) (Nat.zero_le _) fun i hi12 => ?_
        refine LWp.seq ?_
        refine LWp.seq ?_
        refine LWp.rz hT hW ?_
        simp
        refine LWp.iff ?_
        simp
        refine ⟨fun h12 => ?_, fun h12 => ?_⟩
        · refine LWp.skip ?_
          simp
          refine LWp.seq ?_
          refine LWp.block ?_
          refine LWp.seq ?_
          have hm1 : 0 ≤ ((i : Int)).tmod 10 := Int.tmod_nonneg _ (by omega)
          have hm2 : ((i : Int)).tmod 10 < 10 := Int.tmod_lt_of_pos _ (by omega)
          obtain ⟨k0, hk0⟩ : ∃ k0 : Nat, (k0 : Int) = ((i : Int)).tmod 10 := ⟨(((i : Int)).tmod 10).toNat, by omega⟩
          have hkw := u64_nat (k := k0) (by omega)
          have hk64 : min k0 64 = k0 := by omega
          have hbl := bits_len (q := N.tdiv 343) (c := c) i
          refine LWp.rz hT hW ?_
          simp [← hk0, hkw, IntKind.bits, hk64]
          refine ⟨by omega, ?_⟩
          refine LWp.iff ?_
          simp
          refine ⟨fun h14 => ?_, fun h14 => ?_⟩
          · refine LWp.regAny hT hW hMixed (lk [[],[0],[],[],[2,3],[2,3,4],[2,3,4,5],[0,1,2,3,4,5,6],[0,1,2,3,4,5,6,7],[0,1,2,3,4,5,6,7,8]]) (lk [[88],[88],[],[],[],[],[],[],[],[]]) (lk [[],[],[],[],[],[],[88],[83,89],[],[8]]) (by kernel_rfl) (fun _ => none) (fun _ => ⟨rfl, fun _ h => h⟩) ?_
            simp [h12]
            refine ⟨by omega, ?_⟩
            refine LWp.rz hT hW ?_
            simp
            refine ⟨by omega, ?_⟩
            refine loopQ.mk (i + 1) (Weak.to [2, 6, 8, 9, 10] [(6, 6), (8, 8), (89, 1089)] (by decide) (by decide) (by simp [hp]) (by simp) (by simp [bits_yes h12 ((bit10_at hk0).mpr h14)])) ?_ ?_
            · exact h12
            · omega
          · refine LWp.skip ?_
            simp
            refine LWp.rz hT hW ?_
            simp
            refine ⟨by omega, ?_⟩
            refine loopQ.mk (i + 1) (Weak.to [2, 6, 8, 9, 10] [(6, 6), (8, 8), (1089, 1089)] (by decide) (by decide) (by simp [hp]) (by simp) (by simp [bits_no (fun q => h14 ((bit10_at hk0).mp q))])) ?_ ?_
            · exact h12
            · omega
        · refine LWp.exit ?_
          simp
          refine LWp.seq ?_
          refine LWp.rz hT hW ?_
          simp
          refine LWp.ret ?_
          have hi : i = c.length := by omega
          simp [esk, esa, esb, hi]
      · have h8' : ¬ (k = 2 ∧ a < h.length) := fun q => by have := h8 q.1; omega
        have esb := esm h8'
        refine LWp.skip ?_
        simp
        refine LWp.seq ?_
        refine LWp.rz hT hW ?_
        simp
        refine LWp.ret ?_
        simp [esk, esa, esn2, esb]
    · have esm : ¬ (k = 2 ∧ a < h.length) → snm l h n = [] := fun q => by
        unfold snm
        rw [esk, esa, if_neg q, if_pos h6]
      refine LWp.skip ?_
      simp
      refine LWp.seq ?_
      refine LWp.seq ?_
      refine LWp.rz hT hW ?_
      simp
      refine LWp.iff ?_
      simp
      refine ⟨fun p1 p2 => ?_, fun h8 => ?_⟩
      · obtain ⟨ja, rfl⟩ : ∃ ja : Nat, a = (ja : Int) := ⟨a.toNat, by omega⟩
        have hja : ja < h.length := by omega
        obtain ⟨c, hc⟩ : ∃ c, c = h[ja] := ⟨_, rfl⟩
        have hcl : c.length ≤ 1000000 := by
          have q1 := cat_le hja
          have q2 := cat_tot (h := h) (ja + 1)
          rw [hc]; omega
        have esb : snm l h n = bitsTo (N.tdiv 343) c c.length := by
          unfold snm
          rw [esk, esa, if_pos ⟨p1, p2⟩, ← hN, hc]
          simp [List.getD_eq_getElem?_getD, hja]
        refine LWp.seq ?_
        refine LWp.rz hT hW ?_
        simp
        refine LWp.seq ?_
        rw [← esn2]
        refine LWp.rz hT hW ?_
        simp [hja, ← hc]
        refine LWp.seq ?_
        refine LWp.rz hT hW ?_
        simp
        refine LWp.nlCell (fz := false) (cs := [.d (I64 k), .d (I64 ja), .d (I64 (sn h n)), .nl]) 8 3 1089 2 (by decide) ⟨by simp, by simp, by simp, ?_⟩
        refine LWp.block ?_
        refine LWp.loopW (ι := Nat) (fun i => mkEnv [(2, .d (I64 N)), (6, .bx 6 0), (8, .bx 8 0), (9, .d (nmsD c)), (10, .d (I64 i))]) (fun i => mkObs [(6, .box false [.d (I64 0), .d (I64 0), .d (I64 0), .nl]), (8, .box false [.d (I64 k), .d (I64 ja), .d (I64 (sn h n)), .ow 1089 0 (bitsTo (N.tdiv 343) c i).length]), (1089, .row false 2 ((bitsTo (N.tdiv 343) c i).map Nm.d))]) (fun i => i ≤ c.length) (fun i => c.length - i) 0 (Weak.to [2, 6, 8, 9, 10] [(6, 6), (8, 8), (1089, 1089)] (by decide) (by decide) (by simp [hp]) (by simp) (by simp [bitsTo])) (Nat.zero_le _) fun i hi12 => ?_
        refine LWp.seq ?_
        refine LWp.seq ?_
        refine LWp.rz hT hW ?_
        simp
        refine LWp.iff ?_
        simp
        refine ⟨fun h12 => ?_, fun h12 => ?_⟩
        · refine LWp.skip ?_
          simp
          refine LWp.seq ?_
          refine LWp.block ?_
          refine LWp.seq ?_
          have hm1 : 0 ≤ ((i : Int)).tmod 10 := Int.tmod_nonneg _ (by omega)
          have hm2 : ((i : Int)).tmod 10 < 10 := Int.tmod_lt_of_pos _ (by omega)
          obtain ⟨k0, hk0⟩ : ∃ k0 : Nat, (k0 : Int) = ((i : Int)).tmod 10 := ⟨(((i : Int)).tmod 10).toNat, by omega⟩
          have hkw := u64_nat (k := k0) (by omega)
          have hk64 : min k0 64 = k0 := by omega
          have hbl := bits_len (q := N.tdiv 343) (c := c) i
          refine LWp.rz hT hW ?_
          simp [← hk0, hkw, IntKind.bits, hk64]
          refine ⟨by omega, ?_⟩
          refine LWp.iff ?_
          simp
          refine ⟨fun h14 => ?_, fun h14 => ?_⟩
          · refine LWp.regAny hT hW hMixed (lk [[],[0],[],[],[2,3],[2,3,4],[2,3,4,5],[0,1,2,3,4,5,6],[0,1,2,3,4,5,6,7],[0,1,2,3,4,5,6,7,8]]) (lk [[88],[88],[],[],[],[],[],[],[],[]]) (lk [[],[],[],[],[],[],[88],[83,89],[],[8]]) (by kernel_rfl) (fun _ => none) (fun _ => ⟨rfl, fun _ h => h⟩) ?_
            simp [h12]
            refine ⟨by omega, ?_⟩
            refine LWp.rz hT hW ?_
            simp
            refine ⟨by omega, ?_⟩
            refine loopQ.mk (i + 1) (Weak.to [2, 6, 8, 9, 10] [(6, 6), (8, 8), (89, 1089)] (by decide) (by decide) (by simp [hp]) (by simp) (by simp [bits_yes h12 ((bit10_at hk0).mpr h14)])) ?_ ?_
            · exact h12
            · omega
          · refine LWp.skip ?_
            simp
            refine LWp.rz hT hW ?_
            simp
            refine ⟨by omega, ?_⟩
            refine loopQ.mk (i + 1) (Weak.to [2, 6, 8, 9, 10] [(6, 6), (8, 8), (1089, 1089)] (by decide) (by decide) (by simp [hp]) (by simp) (by simp [bits_no (fun q => h14 ((bit10_at hk0).mp q))])) ?_ ?_
            · exact h12
            · omega
        · refine LWp.exit ?_
          simp
          refine LWp.seq ?_
          refine LWp.rz hT hW ?_
          simp
          refine LWp.ret ?_
          have hi : i = c.length := by omega
          simp [esk, esa, esb, hi]
      · have h8' : ¬ (k = 2 ∧ a < h.length) := fun q => by have := h8 q.1; omega
        have esb := esm h8'
        refine LWp.skip ?_
        simp
        refine LWp.seq ?_
        refine LWp.rz hT hW ?_
        simp
        refine LWp.ret ?_
        simp [esk, esa, esn2, esb]
end
open Go.Proofs
section
attribute [local simp] Res.cond
theorem someN_le (l : List Ed) (b : Int) : (someN l b).length ≤ l.length := by
  unfold someN
  rw [List.length_map]
  exact Nat.le_trans (List.length_filter_le _ _) (by simp)
theorem closure_len25 {l : List Ed} {S : List Nm} : (closureV l S).1.length ≤ l.length := by
  unfold closureV
  split
  · simp
  · rename_i h
    have hc : closedB l (S ++ S.flatMap (aboveL l)) = true := by simpa using h
    have := nodup_le' (sortN_nodup (S ++ S.flatMap (aboveL l))) (m := l.map Ed.name) fun n hn => found_iff.1 ((closedB_iff.1 hc n (((sortN_spec _).2 n).1 hn)).1)
    simpa using this
def stepH (l : List Ed) (h : Hs) (q : Int) : Hs := if (doV l h (sk q) (sa h q) (sn h q) (snm l h q)).2 = 0 then (doV l h (sk q) (sa h q) (sn h q) (snm l h q)).1 else h
def madeTo25 (l : List Ed) (m : List Int) : Nat → Hs
  | 0 => (lineV l (closureV l (someN l (atL m 0 65536))).1).1
  | i + 1 => stepH l (madeTo25 l m i) (atL m (2 + (i : Nat)) 1048576)
theorem line_b (l : List Ed) (set : List Nm) : (lineV l set).1.length ≤ 32 ∧ (cat (lineV l set).1).length ≤ 32 := by
  unfold lineV
  split
  · simp [cat_nil]
  · split
    · simp [cat_nil]
    · rename_i h1 h2
      have e : ∀ ns : List Nm, cat (ns.map fun n => [n]) = ns := fun ns => by
        induction ns with
        | nil => rfl
        | cons n ns ih => rw [List.map_cons, cat_cons, ih]; rfl
      rw [e, List.length_map]
      omega
theorem doV_b {l : List Ed} {h : Hs} {k a n : Int} {names : List Nm} : (doV l h k a n names).1.length ≤ h.length + 1 ∧ (cat (doV l h k a n names).1).length ≤ (cat h).length + names.length := by
  by_cases h1 : (validH l h).2 = 0
  · by_cases h2 : fitsC l h k a n names = 0
    · by_cases h3 : (validH l (actH h k a n names)).2 = 0
      · rw [doV_4 h1 h2 h3]; exact act_bound h2
      · rw [doV_3 h1 h2 h3]; simp [cat_nil]
    · rw [doV_2 h1 h2]; simp [cat_nil]
  · rw [doV_1 h1]; simp [cat_nil]
theorem made25_b (l : List Ed) (m : List Int) : ∀ i, (madeTo25 l m i).length ≤ 32 + i ∧ (cat (madeTo25 l m i)).length + 1 ≤ 33 * 2 ^ i
  | 0 => by have := line_b l (closureV l (someN l (atL m 0 65536))).1; simp only [madeTo25]; omega
  | i + 1 => by
    have ih := made25_b l m i
    have h1 := snm_len l (madeTo25 l m i) (atL m (2 + (i : Nat)) 1048576)
    have h2 := doV_b (l := l) (h := madeTo25 l m i) (k := sk (atL m (2 + (i : Nat)) 1048576)) (a := sa (madeTo25 l m i) (atL m (2 + (i : Nat)) 1048576)) (n := sn (madeTo25 l m i) (atL m (2 + (i : Nat)) 1048576)) (names := snm l (madeTo25 l m i) (atL m (2 + (i : Nat)) 1048576))
    have e : 33 * 2 ^ (i + 1) = 2 * (33 * 2 ^ i) := by rw [Nat.pow_succ]; omega
    rw [e]
    simp only [madeTo25, stepH]
    split <;> omega
def madeH (l : List Ed) (m : List Int) : Hs := madeTo25 l m (atL m 1 6).toNat
theorem madeH_b (l : List Ed) (m : List Int) : (madeH l m).length ≤ 40 ∧ (cat (madeH l m)).length ≤ 2200 := by
  have hr := atL_range m 1 6 (by decide)
  have h := made25_b l m (atL m 1 6).toNat
  have : (2 : Nat) ^ (atL m 1 6).toNat ≤ 2 ^ 6 := Nat.pow_le_pow_right (by decide) (by omega)
  unfold madeH
  omega
theorem Made25_ok (l : List Ed) (m : List Int) (hs : small l) (hn : (allNeeds l).length ≤ 1000) (hL : l.length ≤ 400) (hm : ∀ n ∈ m, -9223372036854775808 ≤ n ∧ n ≤ 9223372036854775807) : Ok Tryz.prog 19 [edsD l, .sl (m.map I64)] ⟨.d (cmD (madeH l m)), false⟩ := by
  refine Ok.cell hT Tryz.func19 (by kernel_rfl) (c := _) rfl Tryz.ntmps19 (by simp) Tryz.results19 (by intro _ h; cases h) fun w0 X hp => ?_
  obtain ⟨cnt, hcnt⟩ : ∃ cnt : Nat, (cnt : Int) = atL m 1 6 := ⟨(atL m 1 6).toNat, by have := (atL_range m 1 6 (by decide)).1; omega⟩
  have hc6 : cnt < 6 := by have := (atL_range m 1 6 (by decide)).2; omega
  refine LWp.seq ?_
  refine LWp.rz hT hW ?_
  simp
  refine LWp.seq ?_
  have hr0 := atL_range m 0 65536 (by decide)
  have hsl := someN_le l (atL m 0 65536)
  obtain ⟨q, hq⟩ : ∃ q, q = closureV l (someN l (atL m 0 65536)) := ⟨_, rfl⟩
  have hco := Closure_ok l (someN l (atL m 0 65536)) hn (by omega)
  rw [← hq] at hco
  refine LWp.ro hT hW (fun | 16 => some <| .plain ⟨.d (I64 (atL m 0 65536)), true⟩ | 17 => some <| .plain ⟨.d (nmsD (someN l (atL m 0 65536))), true⟩ | 18 => some <| .plain ⟨.tup [.d (nmsD q.1), .d (I64 q.2)], false⟩ | _ => none) ?_
  simp [evalExtract]
  refine ⟨⟨⟨by simpa using At_ok m 0 65536 hm (by decide), by simpa using Some_ok l (atL m 0 65536) (by omega) (by omega) (by omega)⟩, by simpa using hco⟩, ?_⟩
  refine LWp.seq ?_
  have hql : q.1.length ≤ l.length := by rw [hq]; exact closure_len25
  have hli := Line25_ok l q.1 hs (by omega) (by omega)
  have hm0 : madeTo25 l m 0 = (lineV l q.1).1 := by rw [hq]; rfl
  rw [← hm0] at hli
  refine LWp.ro hT hW (fun | 24 => some <| .plain ⟨.tup [.d (cmD (madeTo25 l m 0)), .d (I64 (lineV l q.1).2)], false⟩ | _ => none) ?_
  simp [evalExtract, cmD]
  refine ⟨by simpa [cmD] using hli, ?_⟩
  refine LWp.seq ?_
  refine LWp.seq ?_
  refine LWp.rz hT hW ?_
  simp
  refine LWp.block ?_
  refine LWp.loopW (ι := Nat) (fun i => mkEnv [(0, .d (edsD l)), (1, .d (.sl (m.map I64))), (4, .bx 4 0), (7, .bx 7 0), (9, .d (I64 i))]) (fun i => mkObs [(4, .box false [.nl]), (7, .box false [.d (.sl ((madeTo25 l m i).map nmsD))])]) (fun i => i ≤ cnt) (fun i => cnt - i) 0 (Weak.to [0, 1, 4, 7, 9] [(4, 4), (7, 7)] (by decide) (by decide) (by simp [hp]) (by simp) (by simp)) (Nat.zero_le _) fun i hi4 => ?_
  refine LWp.seq ?_
  refine LWp.seq ?_
  refine LWp.ro hT hW (fun | 29 => some <| .plain ⟨.d (I64 (cnt : Nat)), true⟩ | _ => none) ?_
  simp
  refine ⟨by rw [hcnt]; exact At_ok m 1 6 hm (by decide), ?_⟩
  refine LWp.iff ?_
  simp
  refine ⟨fun h4 => ?_, fun h4 => ?_⟩
  · refine LWp.skip ?_
    simp
    refine LWp.seq ?_
    refine LWp.block ?_
    refine LWp.seq ?_
    obtain ⟨hmb1, hmb2⟩ := made25_b l m i
    have hpw : (2 : Nat) ^ i ≤ 2 ^ 6 := Nat.pow_le_pow_right (by decide) (by omega)
    obtain ⟨v, hv⟩ : ∃ v, v = atL m (2 + (i : Nat)) 1048576 := ⟨_, rfl⟩
    have hvr := atL_range m (2 + (i : Nat)) 1048576 (by decide)
    rw [← hv] at hvr
    have hnl := snm_len l (madeTo25 l m i) v
    have hso := Some25_ok l (madeTo25 l m i) v (by omega) (by omega) (by omega) (by omega) (by omega)
    have hdo := Do25_ok l (madeTo25 l m i) (sk v) (sa (madeTo25 l m i) v) (sn (madeTo25 l m i) v) (snm l (madeTo25 l m i) v) hs (by omega) (by omega) (by omega) (by omega)
    obtain ⟨d, hd⟩ : ∃ d, d = doV l (madeTo25 l m i) (sk v) (sa (madeTo25 l m i) v) (sn (madeTo25 l m i) v) (snm l (madeTo25 l m i) v) := ⟨_, rfl⟩
    rw [← hd] at hdo
    have hst : madeTo25 l m (i + 1) = if d.2 = 0 then d.1 else madeTo25 l m i := by
      show stepH l (madeTo25 l m i) (atL m (2 + (i : Nat)) 1048576) = _
      rw [← hv, stepH, ← hd]
    refine LWp.regAny hT hW hMixed (lk [[],[],[],[],[],[],[5],[4,5,6],[2,3,4,5,6,7],[0,1,2,3,4,5,6,7,8],[0,1,2,3,4,5,6,7,8,9],[0,1,2,3,4,5,6,7,8,9,10],[0,1,2,3,4,5,6,7,8,9,10],[],[0,1,2,3,4,5,6,7,8,9,10,11,13],[0,1,2,3,4,5,6,7,8,9,10,11,12,13,14]]) (lk [[10,41,42],[10,41,42],[10,41],[10,41],[10],[10],[10],[10],[10],[10],[10],[10],[10],[41,42,43],[],[]]) (lk [[],[],[],[],[],[],[],[41],[42],[43],[],[],[],[10],[10],[]]) (by kernel_rfl) (fun | 41 => some <| .plain ⟨.d (I64 v), true⟩ | 42 => some <| .plain ⟨.d (actD (sk v) (sa (madeTo25 l m i) v) (sn (madeTo25 l m i) v) (snm l (madeTo25 l m i) v)), false⟩ | 43 => some <| .plain ⟨.tup [.d (cmD d.1), .d (I64 d.2)], false⟩ | _ => none) (by intro d; first | exact ⟨rfl, fun _ h => h⟩ | (split <;> exact ⟨rfl, fun _ h => h⟩)) ?_
    simp [evalExtract, cmD]
    refine ⟨⟨⟨⟨by omega, by rw [hv]; simpa using At_ok m (2 + (i : Nat)) 1048576 hm (by decide)⟩, by simpa [cmD] using hso⟩, by simpa [cmD] using hdo⟩, ?_⟩
    refine LWp.seq ?_
    refine LWp.rz hT hW ?_
    simp
    refine LWp.iff ?_
    simp
    refine ⟨fun h7 => ?_, fun h7 => ?_⟩
    · have hst1 : madeTo25 l m (i + 1) = d.1 := by rw [hst, if_pos h7]
      refine LWp.rz hT hW ?_
      simp
      refine LWp.rz hT hW ?_
      simp
      refine ⟨by omega, ?_⟩
      refine loopQ.mk (i + 1) (Weak.to [0, 1, 4, 7, 9] [(4, 4), (7, 7)] (by decide) (by decide) (by simp [hp]) (by simp) (by simp [hst1])) ?_ ?_
      · omega
      · omega
    · have hst2 : madeTo25 l m (i + 1) = madeTo25 l m i := by rw [hst, if_neg h7]
      refine LWp.skip ?_
      simp
      refine LWp.rz hT hW ?_
      simp
      refine ⟨by omega, ?_⟩
      refine loopQ.mk (i + 1) (Weak.to [0, 1, 4, 7, 9] [(4, 4), (7, 7)] (by decide) (by decide) (by simp [hp]) (by simp) (by simp [hst2])) ?_ ?_
      · omega
      · omega
  · refine LWp.exit ?_
    simp
    refine LWp.seq ?_
    refine LWp.rz hT hW ?_
    simp
    refine LWp.ret ?_
    have hi : i = cnt := by omega
    have e : madeH l m = madeTo25 l m cnt := by rw [madeH, ← hcnt]; rfl
    simp [e, hi, cmD]
end
open Go.Proofs
section
attribute [local simp] Res.cond actD
def hxL : List Ed := [⟨⟨0, 1⟩, [], [], []⟩, ⟨⟨0, 2⟩, [⟨0, 1⟩], [], []⟩, ⟨⟨1, 0⟩, [], [], []⟩, ⟨⟨1, 1⟩, [⟨0, 2⟩], [], []⟩]
def hxH : Hs := [[⟨0, 1⟩, ⟨0, 2⟩], [⟨1, 0⟩]]
def hxA : List (Int × Int × Int × List Nm) := [(2, 0, 0, [⟨0, 1⟩]), (2, 0, 0, [⟨0, 2⟩]), (3, 1, 0, []), (4, 0, 0, []), (4, 1, 0, []), (5, 0, 0, [⟨1, 1⟩]), (6, 1, 0, [⟨1, 1⟩])]
def hxW : List Hs := [[[⟨0, 1⟩], [⟨0, 2⟩], [⟨1, 0⟩]], [], [[⟨1, 0⟩], [⟨0, 1⟩, ⟨0, 2⟩]], [[⟨1, 0⟩]], [[⟨0, 1⟩, ⟨0, 2⟩]], [], [[⟨0, 1⟩, ⟨0, 2⟩], [⟨1, 0⟩], [⟨1, 1⟩]]]
def hxE : List Int := [0, 10, 0, 0, 0, 1, 0]
def actT (p : Int × Int × Int × List Nm) : DV := actD p.1 p.2.1 p.2.2.1 p.2.2.2
def hxN : Hs := [[⟨0, 1⟩], [⟨0, 2⟩], [⟨1, 0⟩]]
def hxS : Hs := [[⟨0, 1⟩, ⟨0, 2⟩], [⟨0, 1⟩, ⟨0, 2⟩, ⟨1, 0⟩]]
theorem hxL_small : small hxL := by unfold small; decide
set_option maxRecDepth 100000 in
theorem hx_do : hxA.map (fun p => doV hxL hxH p.1 p.2.1 p.2.2.1 p.2.2.2) = hxW.zip hxE := by decide
set_option maxRecDepth 100000 in
theorem hx_at : atV hxH 0 = ([⟨0, 1⟩, ⟨0, 2⟩], 0) := by decide
set_option maxRecDepth 100000 in
theorem hx_head : sortN (cat hxH) = [⟨0, 1⟩, ⟨0, 2⟩, ⟨1, 0⟩] := by decide
set_option maxRecDepth 100000 in
theorem hx_line : lineV hxL [⟨0, 2⟩, ⟨1, 0⟩, ⟨0, 1⟩] = (hxN, 0) := by decide
set_option maxRecDepth 100000 in
theorem hx_shared : sharedH (stationsH hxH) (stationsH hxN) = hxS := by decide
theorem hx_at_i {i : Nat} (hi : i < hxA.length) : doV hxL hxH hxA[i].1 hxA[i].2.1 hxA[i].2.2.1 hxA[i].2.2.2 = (hxW[i]'hi, hxE[i]'hi) := by
  have h1 : (hxA.map (fun p => doV hxL hxH p.1 p.2.1 p.2.2.1 p.2.2.2))[i]? = (hxW.zip hxE)[i]? := congrArg (fun l => l[i]?) hx_do
  have h2 : (hxW.zip hxE)[i]? = some (hxW[i]'hi, hxE[i]'hi) := by
    rw [List.getElem?_eq_getElem (show i < (hxW.zip hxE).length from hi), List.getElem_zip]; rfl
  rw [h2, List.getElem?_map, List.getElem?_eq_getElem hi] at h1
  exact Option.some.inj h1
end
open Go.Proofs
section
set_option maxRecDepth 10000
set_option maxHeartbeats 4000000
attribute [local simp] Res.cond
theorem hx_sets (a : Hs) : Ok Tryz.prog 74 [rowsV a, rowsV a] ⟨.d (.bool true), true⟩ := by
  have := SameSets_ok a a
  rwa [decide_eq_true rfl] at this
theorem hx_names (a : List Nm) : Ok Tryz.prog 13 [nmsD a, nmsD a] ⟨.d (.bool true), true⟩ := by
  have := SameNames_ok a a
  rwa [decide_eq_true rfl] at this
theorem hxA_len : hxA.length = 7 := rfl
theorem hxA_nm : ∀ p ∈ hxA, p.2.2.2.length ≤ 400000 := by decide
theorem hx_Do {i : Nat} (hi : i < hxA.length) : Ok Tryz.prog 32 [edsD hxL, cmD hxH, actT hxA[i]] ⟨.tup [.d (cmD (hxW[i]'hi)), .d (I64 (hxE[i]'hi))], false⟩ := by
  have := Do_ok hxL hxH hxA[i].1 hxA[i].2.1 hxA[i].2.2.1 hxA[i].2.2.2 hxL_small (by decide) (by decide) (by decide) (hxA_nm _ (List.getElem_mem hi))
  rw [hx_at_i hi] at this
  exact this
theorem lives25_ok  : Ok Tryz.prog 30 [] ⟨.d (.bool true), true⟩ := by
  refine Ok.ret Tryz.func30 (by kernel_rfl) (c := _) rfl Tryz.ntmps30 (by simp) Tryz.results30 (by intro _ h; cases h) fun w0 X hp => ?_
  have k2 := hAt_ok hxH 0 (by decide) (by decide)
  have k3 := hLine_ok hxL [⟨0, 2⟩, ⟨1, 0⟩, ⟨0, 1⟩] hxL_small (by decide)
  have k4 := hShared_ok hxH hxN (by decide) (by decide) (by decide) (by decide)
  have k5 := hHead_ok hxH (by decide) (by decide)
  rw [hx_at] at k2
  rw [hx_line] at k3
  rw [hx_shared] at k4
  rw [hx_head] at k5
  refine LWp.seq ?_
  refine LWp.rz hT hW ?_
  simp
  refine LWp.seq ?_
  refine LWp.rz hT hW ?_
  simp
  refine LWp.seq ?_
  refine LWp.rz hT hW ?_
  simp
  refine LWp.seq ?_
  refine LWp.rz hT hW ?_
  simp
  refine LWp.seq ?_
  refine LWp.rz hT hW ?_
  simp
  refine LWp.weak (Weak.close 1 (x := .ro [I64 0, I64 1]) (by simp)) ?_
  simp
  refine LWp.weak (Weak.close 2 (x := .ro [I64 0, I64 2]) (by simp)) ?_
  simp
  refine LWp.weak (Weak.close 3 (x := .ro [I64 1, I64 0]) (by simp)) ?_
  simp
  refine LWp.weak (Weak.close 4 (x := .ro [I64 1, I64 1]) (by simp)) ?_
  simp
  refine LWp.seq ?_
  refine LWp.weak (Weak.shrink [1, 2, 3, 4] [] (by decide) (by decide) (by simp [hp])) ?_
  simp
  refine LWp.rz hT hW ?_
  simp
  refine ⟨by decide, ?_⟩
  refine LWp.weak (Weak.close 5 (x := edsD hxL) (by simp [hxL])) ?_
  simp
  refine LWp.seq ?_
  refine LWp.weak (Weak.shrink [1, 2, 3, 4, 5] [] (by decide) (by decide) (by simp [hp])) ?_
  simp
  refine LWp.rz hT hW ?_
  simp
  refine ⟨by decide, ?_⟩
  refine LWp.weak (Weak.close 6 (x := .ro [rowsV hxH]) (by simp [hxH, rowsV])) ?_
  simp
  refine LWp.seq ?_
  refine LWp.weak (Weak.shrink [1, 2, 3, 4, 5, 6] [] (by decide) (by decide) (by simp [hp])) ?_
  simp
  refine LWp.rz hT hW ?_
  simp
  refine ⟨by decide, ?_⟩
  refine LWp.weak (Weak.close 7 (x := .sl (hxA.map actT)) (by simp [hxA, actT, actD])) ?_
  simp
  refine LWp.seq ?_
  refine LWp.weak (Weak.shrink [1, 2, 3, 4, 5, 6, 7] [] (by decide) (by decide) (by simp [hp])) ?_
  simp
  refine LWp.rz hT hW ?_
  simp
  refine ⟨by decide, ?_⟩
  refine LWp.weak (Weak.close 8 (x := .sl (hxW.map rowsV)) (by simp [hxW, rowsV])) ?_
  simp
  refine LWp.seq ?_
  refine LWp.weak (Weak.shrink [1, 2, 3, 4, 5, 6, 7, 8] [] (by decide) (by decide) (by simp [hp])) ?_
  simp
  refine LWp.rz hT hW ?_
  simp
  refine ⟨by decide, ?_⟩
  refine LWp.weak (Weak.close 9 (x := .sl (hxE.map I64)) (by simp [hxE])) ?_
  simp
  refine LWp.seq ?_
  refine LWp.seq ?_
  refine LWp.weak (Weak.shrink [1, 2, 3, 5, 6, 7, 8, 9] [] (by decide) (by decide) (by simp [hp])) ?_
  simp
  refine LWp.rz hT hW ?_
  simp
  refine LWp.block ?_
  refine LWp.loopW (ι := Nat) (fun i => mkEnv [(1, .d (.ro [I64 0, I64 1])), (2, .d (.ro [I64 0, I64 2])), (3, .d (.ro [I64 1, I64 0])), (5, .d (edsD hxL)), (6, .d (.ro [rowsV hxH])), (7, .d (.sl (hxA.map actT))), (8, .d (.sl (hxW.map rowsV))), (9, .d (.sl (hxE.map I64))), (10, .d (I64 i))]) (fun i => mkObs []) (fun i => i ≤ 7) (fun i => 7 - i) 0 (Weak.to [1, 2, 3, 5, 6, 7, 8, 9, 10] [] (by decide) (by decide) (by simp [hp]) (by simp) (by simp)) (Nat.zero_le _) fun i hi11 => ?_
  refine LWp.seq ?_
  refine LWp.seq ?_
  refine LWp.rz hT hW ?_
  simp [hxA_len]
  refine LWp.iff ?_
  simp
  refine ⟨fun h11 => ?_, fun h11 => ?_⟩
  · refine LWp.skip ?_
    simp
    refine LWp.seq ?_
    refine LWp.block ?_
    refine LWp.seq ?_
    have q1 : i < hxA.length := by rw [hxA_len]; omega
    have q2 : i < hxW.length := q1
    have q3 : i < hxE.length := q1
    have k1 := hx_Do q1
    refine LWp.regAny hT hW hMixed (lk [[],[],[],[],[2,3],[2,3,4],[0,1,2,3,4,5],[0,1,2,3,4,5,6],[0,1,2,3,4,5,6,7],[0,1,2,3,4,5,6,7],[],[0,1,2,3,4,5,6,7,8,10],[0,1,2,3,4,5,6,7,8,9,10,11]]) (lk [[11],[11],[11],[11],[11],[11],[11],[11],[11],[11],[101],[],[]]) (lk [[],[],[],[],[],[],[101],[],[],[],[11],[11],[]]) (by kernel_rfl) (fun | 101 => some <| .plain ⟨.tup [.d (cmD hxW[i]), .d (I64 hxE[i])], false⟩ | _ => none) (by intro d; first | exact ⟨rfl, fun _ h => h⟩ | (split <;> exact ⟨rfl, fun _ h => h⟩)) ?_
    simp [q1, evalExtract, rowsV, actT, actD, cmD]
    refine ⟨by exact k1, ?_⟩
    refine LWp.seq ?_
    refine LWp.regAny hT hW hMixed (lk [[],[],[],[1,2],[1,2,3],[0,1,2,3,4],[0,1,2,3,4,5],[0,1,2,3,4,5,6],[0,1,2,3,4,5,6,7],[0,1,2,3,4,5,6],[0,1,2,3,4,5,6],[0,1,2,3,4,5,6,9,10],[0,1,2,3,4,5,6,9,10,11],[0,1,2,3,4,5,6,7,8,9,10,11,12],[0,1,2,3,4,5,6,7,8,9,10,11,12,13],[0,1,2,3,4,5,6,7,8,9,10,11,12,13,14]]) (lk [[],[],[],[],[],[],[],[],[],[],[],[],[],[],[],[]]) (lk [[],[],[],[],[],[],[],[],[],[],[],[],[],[117],[],[]]) (by kernel_rfl) (fun | 117 => some <| .plain ⟨.d (.bool true), true⟩ | _ => none) (by intro d; first | exact ⟨rfl, fun _ h => h⟩ | (split <;> exact ⟨rfl, fun _ h => h⟩)) ?_
    simp [q2, q3, rowsV]
    refine ⟨by exact hx_sets hxW[i], ?_⟩
    refine LWp.iff ?_
    simp
    refine LWp.skip ?_
    simp
    refine LWp.rz hT hW ?_
    simp
    refine ⟨by omega, ?_⟩
    refine loopQ.mk (i + 1) (Weak.to [1, 2, 3, 5, 6, 7, 8, 9, 10] [] (by decide) (by decide) (by simp [hp]) (by simp) (by simp)) ?_ ?_
    · omega
    · omega
  · refine LWp.exit ?_
    simp
    refine LWp.seq ?_
    refine LWp.ro hT hW (fun | 122 => some <| .plain ⟨.tup [.d (nmsD [⟨0, 1⟩, ⟨0, 2⟩]), .d (I64 0)], true⟩ | _ => none) ?_
    simp [evalExtract]
    refine ⟨by simpa [cmD, rowsV] using k2, ?_⟩
    refine LWp.seq ?_
    refine LWp.ro hT hW (fun | 131 => some <| .plain ⟨.tup [.d (cmD hxN), .d (I64 0)], false⟩ | _ => none) ?_
    simp [evalExtract, cmD]
    refine ⟨⟨by decide, by simpa [cmD] using k3⟩, ?_⟩
    refine LWp.seq ?_
    refine LWp.ro hT hW (fun | 136 => some <| .plain ⟨.d (rowsV hxS), false⟩ | _ => none) ?_
    simp
    refine ⟨by simpa [cmD, rowsV] using k4, ?_⟩
    refine LWp.seq ?_
    refine LWp.weak (Weak.shrink [1, 2, 3, 6, 13, 14, 15, 16, 17] [(15, 15)] (by decide) (by decide) (by simp [hp])) ?_
    simp
    refine LWp.regAny hT hW hMixed (lk [[],[0],[0,1],[0,1,2],[0,1,2,3],[0,1,2,3,4],[0,1,2,3,4,5],[0,1,2,3,4,5,6],[0,1,2,3,4,5,6],[0,1,2,3,4,5,6],[0,1,2,3,4,5,6,8,9],[0,1,2,3,4,5,6,7,8,9,10],[0,1,2,3,4,5,6,7,8,9,10,11],[0,1,2,3,4,5,6,7,8,9,10,11,12],[0,1,2,3,4,5,6,7,8,9,10,11,12,13],[0,1,2,3,4,5,6,7,8,9,10,11,12,13,14],[0,1,2,3,4,5,6,7,8,9,10,11,12,13],[0,1,2,3,4,5,6,7,8,9,10,11,12,13],[0,1,2,3,4,5,6,7,8,9,10,11,12,13],[0,1,2,3,4,5,6,7,8,9,10,11,12,13,16,17,18],[0,1,2,3,4,5,6,7,8,9,10,11,12,13,14,15,16,17,18,19],[0,1,2,3,4,5,6,7,8,9,10,11,12,13,14,15,16,17,18,19,20],[0,1,2,3,4,5,6,7,8,9,10,11,12,13,14,15,16,17,18,19,20,21],[0,1,2,3,4,5,6,7,8,9,10,11,12,13,14,15,16,17,18,19,20,21,22],[0,1,2,3,4,5,6,7,8,9,10,11,12,13,14,15,16,17,18,19,20,21,22,23],[0,1,2,3,4,5,6,7,8,9,10,11,12,13,14,15,16,17,18,19,20,21,22],[0,1,2,3,4,5,6,7,8,9,10,11,12,13,14,15,16,17,18,19,20,21,22,25],[0,1,2,3,4,5,6,7,8,9,10,11,12,13,14,15,16,17,18,19,20,21,22],[0,1,2,3,4,5,6,7,8,9,10,11,12,13,14,15,16,17,18,19,20,21,22,27],[0,1,2,3,4,5,6,7,8,9,10,11,12,13,14,15,16,17,18,19,20,21,22],[0,1,2,3,4,5,6,7,8,9,10,11,12,13,14,15,16,17,18,19,20,21,22,29],[0,1,2,3,4,5,6,7,8,9,10,11,12,13,14,15,16,17,18,19,20,21,22,25,26,27,28,29,30],[0,1,2,3,4,5,6,7,8,9,10,11,12,13,14,15,16,17,18,19,20,21,22,23,24,25,26,27,28,29,30,31],[0,1,2,3,4,5,6,7,8,9,10,11,12,13,14,15,16,17,18,19,20,21,22,23,24,25,26,27,28,29,30,31,32],[0,1,2,3,4,5,6,7,8,9,10,11,12,13,14,15,16,17,18,19,20,21,22,23,24,25,26,27,28,29,30,31,32,33],[0,1,2,3,4,5,6,7,8,9,10,11,12,13,14,15,16,17,18,19,20,21,22,23,24,25,26,27,28,29,30,31,32,33,34],[0,1,2,3,4,5,6,7,8,9,10,11,12,13,14,15,16,17,18,19,20,21,22,23,24,25,26,27,28,29,30,31,32,33,34],[0,1,2,3,4,5,6,7,8,9,10,11,12,13,14,15,16,17,18,19,20,21,22,23,24,25,26,27,28,29,30,31,32,33,34],[0,1,2,3,4,5,6,7,8,9,10,11,12,13,14,15,16,17,18,19,20,21,22,23,24,25,26,27,28,29,30,31,32,33,34,36,37],[0,1,2,3,4,5,6,7,8,9,10,11,12,13,14,15,16,17,18,19,20,21,22,23,24,25,26,27,28,29,30,31,32,33,34],[0,1,2,3,4,5,6,7,8,9,10,11,12,13,14,15,16,17,18,19,20,21,22,23,24,25,26,27,28,29,30,31,32,33,34],[0,1,2,3,4,5,6,7,8,9,10,11,12,13,14,15,16,17,18,19,20,21,22,23,24,25,26,27,28,29,30,31,32,33,34],[0,1,2,3,4,5,6,7,8,9,10,11,12,13,14,15,16,17,18,19,20,21,22,23,24,25,26,27,28,29,30,31,32,33,34,39,40,41],[0,1,2,3,4,5,6,7,8,9,10,11,12,13,14,15,16,17,18,19,20,21,22,23,24,25,26,27,28,29,30,31,32,33,34,36,37,38,39,40,41,42],[0,1,2,3,4,5,6,7,8,9,10,11,12,13,14,15,16,17,18,19,20,21,22,23,24,25,26,27,28,29,30,31,32,33,34,35,36,37,38,39,40,41,42,43],[0,1,2,3,4,5,6,7,8,9,10,11,12,13,14,15,16,17,18,19,20,21,22,23,24,25,26,27,28,29,30,31,32,33,34,35,36,37,38,39,40,41,42,43,44],[0,1,2,3,4,5,6,7,8,9,10,11,12,13,14,15,16,17,18,19,20,21,22,23,24,25,26,27,28,29,30,31,32,33,34,35,36,37,38,39,40,41,42,43,44,45]]) (lk [[],[],[],[],[],[],[],[147],[],[],[],[],[],[],[156],[156],[152],[152],[152],[152],[],[],[],[163,165,167,168],[163,165,167,168],[165,167],[165,167],[163,167],[163,167],[163,165],[163,165],[],[],[],[],[175,179,180],[179],[179],[179],[175],[175],[175],[175],[],[],[],[]]) (lk [[],[],[],[],[],[],[],[],[],[],[147],[148],[],[],[],[152],[],[],[],[156],[157],[],[],[],[],[],[163],[],[165],[],[167],[168,163,165,167],[169],[],[],[],[],[],[175],[],[],[],[179],[180,175,179],[181],[],[]]) (by kernel_rfl) (fun | 148 => some <| .plain ⟨.d (.bool true), true⟩ | 152 => some <| .plain ⟨.own 2 ([⟨0, 1⟩, ⟨0, 2⟩, ⟨1, 0⟩].map Nm.d), true⟩ | 157 => some <| .plain ⟨.d (.bool true), true⟩ | 169 => some <| .plain ⟨.d (.bool true), true⟩ | 181 => some <| .plain ⟨.d (.bool true), true⟩ | _ => none) (by intro d; first | exact ⟨rfl, fun _ h => h⟩ | (split <;> exact ⟨rfl, fun _ h => h⟩)) ?_
    simp
    refine ⟨⟨⟨⟨⟨⟨⟨⟨⟨⟨⟨by decide, by simpa using hx_names [⟨0, 1⟩, ⟨0, 2⟩]⟩, by simpa [cmD, rowsV] using k5⟩, by decide⟩, by simpa using hx_names [⟨0, 1⟩, ⟨0, 2⟩, ⟨1, 0⟩]⟩, by decide⟩, by simpa [rowsV, hxN] using hx_sets hxN⟩, by decide⟩, by decide⟩, by decide⟩, by simpa [rowsV, hxS] using hx_sets hxS⟩, ?_⟩
    refine LWp.ret ?_
    simp
end
open Go.Proofs
section
attribute [local simp] Res.cond
def spoilK (h : Hs) (k : Nat) (odd : Nm) (c : Int) : Hs :=
  if c = 0 then h ++ [[odd]] else if c = 1 then h ++ [[]] else
  if k < h.length then (if c = 2 then h.set k (h.getD k [] ++ [odd]) else if c = 3 then h ++ [h.getD k []] else if c = 4 then (h.set 0 (h.getD k [])).set k (h.getD 0 []) else h.take k ++ h.drop (k + 1)) else h
def oddH (b : Int) : Nm := ⟨b.tmod 5 - 1, b.tmod 9⟩
def spoilH (h : Hs) (how b : Int) : Hs := spoilK h (around b (max h.length 1 : Nat)).toNat (oddH b) (around how 6)
def rowN (h : Hs) (i : Nat) : List DV := (h.take i).map nmsD
theorem rowN_zero {h : Hs} : rowN h 0 = [] := rfl
theorem rowN_all {h : Hs} : rowN h h.length = h.map nmsD := by rw [rowN, List.take_length]
theorem rowN_len {h : Hs} {i : Nat} (hi : i ≤ h.length) : (rowN h i).length = i := by simp [rowN]; omega
theorem rowN_take {h : Hs} {i : Nat} (hi : i ≤ h.length) : (rowN h i).take i = rowN h i := List.take_of_length_le (by rw [rowN_len hi]; exact Nat.le_refl _)
theorem rowN_succ {h : Hs} {i : Nat} (hi : i < h.length) : rowN h (i + 1) = rowN h i ++ [nmsD h[i]] := by
  unfold rowN
  rw [← List.take_append_getElem hi, List.map_append]
  rfl
theorem tmod_lt (b : Int) (n : Int) (hn : 0 < n) : -n < b.tmod n ∧ b.tmod n < n := by
  rcases Int.le_total 0 b with hb | hb
  · rw [Int.tmod_eq_emod_of_nonneg hb]
    have := Int.emod_nonneg b (show n ≠ 0 by omega)
    have := Int.emod_lt_of_pos b hn
    omega
  · have : b.tmod n = -((-b) % n) := by rw [show b = -(-b) by omega, Int.neg_tmod, Int.tmod_eq_emod_of_nonneg (by omega)]; simp
    have := Int.emod_nonneg (-b) (show n ≠ 0 by omega)
    have := Int.emod_lt_of_pos (-b) hn
    omega
theorem take_all {L : List DV} {n : Nat} (h : L.length ≤ n) : L.take n = L := List.take_of_length_le h
theorem max1 {n : Nat} : (if (n : Int) < 1 then 1 else (n : Int)) = ((max n 1 : Nat) : Int) := by split <;> omega
theorem SpoiltN_ok (h : Hs) (how b : Int) (k : Nat) (c : Int) (hk : (k : Int) = around b (max h.length 1 : Nat)) (hc : c = around how 6) (hN : c = 2 → ¬ k < h.length) (hl : h.length ≤ 1000000) (hf : (cat h).length ≤ 1000000) (h1 : -9223372036854775808 ≤ b) (h2 : b ≤ 9223372036854775807) (g3 : -9223372036854775808 ≤ how) (g4 : how ≤ 9223372036854775807) : Ok Tryz.prog 20 [cmD h, I64 how, I64 b] ⟨.d (cmD (spoilK h k (oddH b) c)), false⟩ := by
  refine Ok.cell hT Tryz.func20 (by kernel_rfl) (c := _) rfl Tryz.ntmps20 (by simp) Tryz.results20 (by intro _ h; cases h) fun w0 X hp => ?_
  refine LWp.seq ?_
  refine LWp.rz hT hW ?_
  simp [cmD]
  refine LWp.seq ?_
  refine LWp.rz hT hW ?_
  simp
  refine LWp.seq ?_
  refine LWp.seq ?_
  refine LWp.rz hT hW ?_
  simp
  refine LWp.nlBox (fz := false) 7 9 1 (by decide) ⟨by simp, by simp, ?_⟩
  refine LWp.block ?_
  refine LWp.loopW (ι := Nat) (fun i => mkEnv [(1, .d (I64 how)), (2, .d (I64 b)), (3, .bx 3 0), (6, .bx 6 0), (7, .bx 7 0), (8, .d (I64 i))]) (fun i => mkObs [(3, .box false [.d (.sl (h.map nmsD))]), (6, .box false [.nl]), (7, .box false [.ow 9 0 i]), (9, .row false 1 (rowN h i))]) (fun i => i ≤ h.length) (fun i => h.length - i) 0 (Weak.to [1, 2, 3, 6, 7, 8] [(3, 3), (6, 6), (7, 7), (9, 9)] (by decide) (by decide) (by simp [hp]) (by simp) (by simp [rowN_zero])) (Nat.zero_le _) fun i hi3 => ?_
  refine LWp.seq ?_
  refine LWp.seq ?_
  refine LWp.rz hT hW ?_
  simp
  refine LWp.iff ?_
  simp
  refine ⟨fun h3 => ?_, fun h3 => ?_⟩
  · refine LWp.skip ?_
    simp
    refine LWp.seq ?_
    refine LWp.block ?_
    have hi3' : i < h.length := by omega
    have hil := cat_le hi3'
    have q2 := cat_tot (h := h) (i + 1)
    have htk := rowN_take (h := h) (i := i) (by omega)
    have hln := rowN_len (h := h) (i := i) (by omega)
    refine LWp.regAny hT hW hMixed (lk [[],[0],[],[],[3],[],[3,4,5],[3,4,5,6],[2,3,4,5,6,7],[2,3,4,5,6,7,8],[0,1,2,3,4,5,6,7,8,9],[0,1,2,3,4,5,6,7,8,9,10],[0,1,2,3,4,5,6,7,8,9,10,11]]) (lk [[21,27,28],[21,27,28],[],[21],[21],[21],[21],[21],[],[],[],[],[]]) (lk [[],[],[21],[],[],[],[],[],[21,27],[27,28],[9,29],[],[7]]) (by kernel_rfl) (fun _ => none) (fun _ => ⟨rfl, fun _ h => h⟩) ?_
    simp [hi3', htk, hln]
    refine ⟨by omega, ?_⟩
    refine LWp.rz hT hW ?_
    simp
    refine ⟨by omega, ?_⟩
    refine loopQ.mk (i + 1) (Weak.to [1, 2, 3, 6, 7, 8] [(3, 3), (6, 6), (7, 7), (29, 9)] (by decide) (by decide) (by simp [hp]) (by simp) (by simp [rowN_succ hi3', nmsD])) ?_ ?_
    · exact hi3'
    · omega
  · refine LWp.exit ?_
    simp
    refine LWp.seq ?_
    have hi : i = h.length := by omega
    subst hi
    obtain ⟨R, hR⟩ : ∃ R, R = rowN h h.length := ⟨_, rfl⟩
    rw [← hR]
    have hln : R.length = h.length := by rw [hR]; exact rowN_len (Nat.le_refl h.length)
    have hrt : R.take h.length = R := by rw [hR]; exact rowN_take (Nat.le_refl h.length)
    have hg : ∀ (j : Nat) (q : j < h.length), R[j]? = some (nmsD h[j]) := fun j q => by rw [hR, rowN_all]; simp [q]
    have hg2 : ∀ (j : Nat) (q : j < h.length) (q' : j < R.length), R[j]'q' = nmsD h[j] := fun j q q' => by have := hg j q; rw [List.getElem?_eq_getElem q'] at this; exact Option.some.inj this
    have hR' : R = h.map nmsD := by rw [hR, rowN_all]
    have hone : ∀ y ∈ R, (cellsD y).length = 1 := by rw [hR']; exact rows1 h
    clear hR
    refine LWp.ro hT hW (fun | 36 => some <| .plain ⟨.d (I64 k), true⟩ | _ => none) ?_
    simp [hln]
    refine ⟨by rw [hk, max1]; exact Around_ok b _ h1 h2 (by omega), ?_⟩
    refine LWp.seq ?_
    have m5 := tmod_lt b 5 (by decide)
    have m9 := tmod_lt b 9 (by decide)
    refine LWp.rz hT hW ?_
    simp
    refine ⟨by omega, ?_⟩
    refine LWp.seq ?_
    refine LWp.seq ?_
    refine LWp.ro hT hW (fun | 44 => some <| .plain ⟨.d (I64 c), true⟩ | _ => none) ?_
    simp
    refine ⟨by rw [hc]; exact Around_ok how 6 g3 g4 (by decide), ?_⟩
    refine LWp.block ?_
    refine LWp.seq ?_
    refine LWp.rz hT hW ?_
    simp
    refine LWp.iff ?_
    simp
    refine ⟨fun h11 => ?_, fun h11 => ?_⟩
    · refine LWp.rz hT hW ?_
      simp [hrt, hln]
      refine ⟨by omega, ?_⟩
      refine LWp.seq ?_
      refine LWp.rz hT hW ?_
      simp
      refine LWp.ret ?_
      simp
      rw [take_all (by simp [hln]), hR', h11]
      simp [spoilK, nmsD, Nm.d, oddH]
    · refine LWp.seq ?_
      refine LWp.rz hT hW ?_
      simp
      refine LWp.iff ?_
      simp
      refine ⟨fun h13 => ?_, fun h13 => ?_⟩
      · refine LWp.rz hT hW ?_
        simp [hrt, hln]
        refine ⟨by omega, ?_⟩
        refine LWp.seq ?_
        refine LWp.rz hT hW ?_
        simp
        refine LWp.ret ?_
        simp
        rw [take_all (by simp [hln]), hR', h13]
        simp [spoilK, nmsD]
      · refine LWp.seq ?_
        refine LWp.rz hT hW ?_
        simp
        refine LWp.iff ?_
        simp
        refine ⟨fun h15 => ?_, fun h15 => ?_⟩
        · refine LWp.seq ?_
          refine LWp.rz hT hW ?_
          simp [hN h15]
          refine LWp.iff ?_
          simp [hN h15]
          refine LWp.skip ?_
          simp
          refine LWp.seq ?_
          refine LWp.rz hT hW ?_
          simp
          refine LWp.ret ?_
          simp
          rw [hrt, hR', h15]
          simp [spoilK, hN h15]
        · refine LWp.seq ?_
          refine LWp.rz hT hW ?_
          simp
          refine LWp.iff ?_
          simp
          refine ⟨fun h18 => ?_, fun h18 => ?_⟩
          · refine LWp.seq ?_
            refine LWp.rz hT hW ?_
            simp
            refine LWp.iff ?_
            simp
            refine ⟨fun h19 => ?_, fun h19 => ?_⟩
            · refine LWp.regAny hT hW hMixed (lk [[],[0],[],[2],[],[2,3,4],[2,3,4,5],[2,3,4,5,6],[0,1,2,3,4,5,6,7],[0,1,2,3,4,5,6,7,8],[0,1,2,3,4,5,6,7,8,9]]) (lk [[110],[110],[],[],[],[],[],[],[],[],[]]) (lk [[],[],[],[],[],[],[],[110],[9,111],[],[7]]) (by kernel_rfl) (fun _ => none) (fun _ => ⟨rfl, fun _ h => h⟩) ?_
              simp [hrt, hln, h19, hg2 k h19]
              refine ⟨by omega, ?_⟩
              refine LWp.seq ?_
              refine LWp.rz hT hW ?_
              simp
              refine LWp.ret ?_
              simp
              rw [take_all (by simp [hln]), hR', h18]
              simp [spoilK, h19, nmsD]
            · refine LWp.skip ?_
              simp
              refine LWp.seq ?_
              refine LWp.rz hT hW ?_
              simp
              refine LWp.ret ?_
              simp
              rw [hrt, hR', h18]
              simp [spoilK, show ¬ k < h.length by omega]
          · refine LWp.seq ?_
            refine LWp.rz hT hW ?_
            simp
            refine LWp.iff ?_
            simp
            refine ⟨fun h21 => ?_, fun h21 => ?_⟩
            · refine LWp.seq ?_
              refine LWp.rz hT hW ?_
              simp
              refine LWp.iff ?_
              simp
              refine ⟨fun h22 => ?_, fun h22 => ?_⟩
              · have hz : 0 < h.length := by omega
                refine LWp.regAny hT hW hMixed (lk [[],[0],[],[2],[],[],[5],[],[5,6,7],[5,6,7,8],[],[10],[10,11],[10,11,12],[0,1,5,6,7,8,9,10,11,12,13],[0,1,5,6,7,8,9,10,11,12,13,14],[0,1,2,3,4,5,6,7,8,9,10,11,12,13,14,15],[0,1,2,3,4,5,6,7,8,9,10,11,12,13,14,15,16]]) (lk [[],[],[9],[9],[9],[],[],[],[],[],[],[],[],[],[],[],[],[]]) (lk [[],[],[],[],[],[],[],[],[],[],[],[],[],[],[],[9],[],[9]]) (by kernel_rfl) (fun _ => none) (fun _ => ⟨rfl, fun _ h => h⟩) ?_
                simp [hrt, hln, h22, hz, hg2 k h22, hg2 0 hz]
                refine LWp.seq ?_
                refine LWp.rz hT hW ?_
                simp
                refine LWp.ret ?_
                simp
                rw [take_all (by simp [hln]), hR', h21]
                simp [spoilK, h22, nmsD, List.map_set, hz]
              · refine LWp.skip ?_
                simp
                refine LWp.seq ?_
                refine LWp.rz hT hW ?_
                simp
                refine LWp.ret ?_
                simp
                rw [hrt, hR', h21]
                simp [spoilK, show ¬ k < h.length by omega]
            · refine LWp.seq ?_
              refine LWp.rz hT hW ?_
              simp
              refine LWp.iff ?_
              simp
              refine ⟨fun h9 => ?_, fun h9 => ?_⟩
              · refine LWp.regAny hT hW hMixed (lk [[],[0],[],[0,1,2],[],[4],[],[6],[4,5,6,7],[0,1,2,3,4,5,6,7,8],[0,1,2,3,4,5,6,7,8,9],[0,1,2,3,4,5,6,7,8,9,10]]) (lk [[],[],[],[],[],[],[],[],[],[],[],[]]) (lk [[],[],[],[],[],[],[],[],[],[9],[],[7]]) (by kernel_rfl) (fun | 59 => some .inp | _ => none) (by intro d; first | exact ⟨rfl, fun _ h => h⟩ | (split <;> exact ⟨rfl, fun _ h => h⟩)) ?_
                simp [hln, h9, (show ((h.length : Int) - ((k : Int) + 1)).toNat = h.length - (k + 1) by omega), (show k + (h.length - (k + 1)) = h.length - 1 by omega)]
                refine ⟨⟨by omega, fun y hy => hone y (List.mem_of_mem_drop (List.mem_of_mem_take hy))⟩, ?_⟩
                refine LWp.seq ?_
                refine LWp.rz hT hW ?_
                simp
                refine LWp.ret ?_
                simp
                rw [← List.append_assoc, List.take_append_of_le_length (by simp [hln]; omega), take_all (by simp [hln]; omega), hR', spoilK, if_neg h11, if_neg h13, if_pos h9, if_neg h15, if_neg h18, if_neg h21]
                simp
                rw [take_all (by simp)]
              · refine LWp.skip ?_
                simp
                refine LWp.seq ?_
                refine LWp.rz hT hW ?_
                simp
                refine LWp.ret ?_
                simp
                rw [hrt, hR', spoilK, if_neg h11, if_neg h13, if_neg (by omega)]
end
open Go.Proofs
section
theorem cellsD_val (v : Value) : cellsD (.val v) = [.val v] := rfl
attribute [local simp] Res.cond evalAppendV evalAppendT cellsD_val
def rowK (h : Hs) (k : Nat) (v : Value) (i : Nat) : List DV := (rowN h i).set k (.val v)
theorem rowK_len {h : Hs} {k : Nat} {v : Value} {i : Nat} (hi : i ≤ h.length) : (rowK h k v i).length = i := by rw [rowK, List.length_set, rowN_len hi]
theorem rowK_take {h : Hs} {k : Nat} {v : Value} {i : Nat} (hi : i ≤ h.length) : (rowK h k v i).take i = rowK h k v i := List.take_of_length_le (by rw [rowK_len hi]; exact Nat.le_refl _)
theorem rowK_zero {h : Hs} {k : Nat} {v : Value} : rowK h k v 0 = [] := by simp [rowK, rowN_zero]
theorem rowK_succ {h : Hs} {k : Nat} {v : Value} {i : Nat} (hi : i < h.length) (hne : ¬ i = k) : rowK h k v (i + 1) = rowK h k v i ++ [nmsD h[i]] := by
  have hl := rowN_len (h := h) (i := i) (by omega)
  unfold rowK
  rw [rowN_succ hi]
  rcases Nat.lt_or_ge k i with hk | hk
  · rw [List.set_append, if_pos (by omega)]
  · rw [List.set_eq_of_length_le (by rw [List.length_append, hl]; simp; omega), List.set_eq_of_length_le (by omega)]
theorem rowK_at {h : Hs} {k : Nat} {v v' : Value} (hk : k < h.length) : rowK h k v' (k + 1) = rowK h k v k ++ [.val v'] := by
  have hl := rowN_len (h := h) (i := k) (by omega)
  unfold rowK
  rw [rowN_succ hk, List.set_append, if_neg (by omega), List.set_eq_of_length_le (i := k) (l := rowN h k) (by omega), hl, Nat.sub_self]
  rfl
theorem rowK_get {h : Hs} {k : Nat} {v : Value} (hk : k < h.length) : (rowK h k v h.length)[k]? = some (.val v) := by
  unfold rowK
  rw [List.getElem?_set]
  simp [hk, rowN_len (Nat.le_refl h.length)]
theorem rowK_set {h : Hs} {k : Nat} {v : Value} {s : List Nm} : (rowK h k v h.length).set k (nmsD s) = (h.set k s).map nmsD := by
  unfold rowK
  rw [List.set_set, rowN_all, List.map_set]
def grown (s : List Nm) (c : Nat) : List DV := s.map Nm.d ++ List.replicate (c - s.length) zeroNm.d
theorem grown_take {s : List Nm} {c : Nat} : (grown s c).take s.length = s.map Nm.d := by simp [grown]
theorem take_put {A D : List DV} {x : DV} {m : Nat} (h : A.length = m) : (A ++ x :: D).take (m + 1) = A ++ [x] := by subst h; rw [List.take_append, List.take_of_length_le (by omega)]; simp
theorem SpoiltG_ok (h : Hs) (how b : Int) (k : Nat) (hk : (k : Int) = around b (max h.length 1 : Nat)) (hc : 2 = around how 6) (hkl : k < h.length) (hl : h.length ≤ 1000000) (hf : (cat h).length ≤ 1000000) (h1 : -9223372036854775808 ≤ b) (h2 : b ≤ 9223372036854775807) (g3 : -9223372036854775808 ≤ how) (g4 : how ≤ 9223372036854775807) : Ok Tryz.prog 20 [cmD h, I64 how, I64 b] ⟨.d (cmD (spoilK h k (oddH b) 2)), false⟩ := by
  refine Ok.cell hT Tryz.func20 (by kernel_rfl) (c := _) rfl Tryz.ntmps20 (by simp) Tryz.results20 (by intro _ h; cases h) fun w0 X hp => ?_
  refine LWp.seq ?_
  refine LWp.rz hT hW ?_
  simp [cmD]
  refine LWp.seq ?_
  refine LWp.rz hT hW ?_
  simp
  refine LWp.seq ?_
  refine LWp.seq ?_
  refine LWp.rz hT hW ?_
  simp
  refine LWp.nlBox (fz := false) 7 9 1 (by decide) ⟨by simp, by simp, ?_⟩
  refine LWp.block ?_
  refine LWp.loopW (ι := Nat × Value × LObj × LObj) (fun ⟨i, v, ob, kn⟩ => mkEnv [(1, .d (I64 how)), (2, .d (I64 b)), (3, .bx 3 0), (6, .bx 6 0), (7, .bx 7 0), (8, .d (I64 i))]) (fun ⟨i, v, ob, kn⟩ => mkObs [(3, .box false [.d (.sl (h.map nmsD))]), (6, .box false [.nl]), (7, .box false [.ow 9 0 i]), (9, .row false 1 (rowK h k v i)), (2027, ob), (3027, kn)]) (fun ⟨i, v, ob, kn⟩ => i ≤ h.length ∧ ((i ≤ k ∧ ob = .absent ∧ kn = .absent) ∨ (k < i ∧ ∃ c, h[k].length ≤ c ∧ c ≤ maxLen ∧ ob = .row false 2 (grown h[k] c) ∧ kn = .know (.oc 2027 0 h[k].length c) v))) (fun ⟨i, v, ob, kn⟩ => h.length - i) (0, undef, .absent, .absent) (Weak.to [1, 2, 3, 6, 7, 8] [(3, 3), (6, 6), (7, 7), (9, 9), (2027, 2027), (3027, 3027)] (by decide) (by decide) (by simp [hp]) (by simp) (by simp [rowK_zero])) (⟨Nat.zero_le _, .inl ⟨Nat.zero_le _, rfl, rfl⟩⟩) fun ⟨i, v, ob, kn⟩ hi3 => ?_
  refine LWp.seq ?_
  refine LWp.seq ?_
  refine LWp.rz hT hW ?_
  simp
  refine LWp.iff ?_
  simp
  refine ⟨fun h3 => ?_, fun h3 => ?_⟩
  · refine LWp.skip ?_
    simp
    refine LWp.seq ?_
    refine LWp.block ?_
    obtain ⟨hi3, hi4⟩ := hi3
    have hi3' : i < h.length := by omega
    have hil := cat_le hi3'
    have q2 := cat_tot (h := h) (i + 1)
    have htk := rowK_take (k := k) (v := v) hi3
    have hln := rowK_len (k := k) (v := v) hi3
    rcases hi4 with ⟨hik, rfl, rfl⟩ | ⟨hik, c, hc1, hc2, rfl, rfl⟩
    rcases Nat.lt_or_ge i k with hlt | hge
    · have hne : ¬ i = k := by omega
      refine LWp.regAny hT hW hMixed (lk [[],[0],[],[],[3],[],[3,4,5],[3,4,5,6],[2,3,4,5,6,7],[2,3,4,5,6,7,8],[0,1,2,3,4,5,6,7,8,9],[0,1,2,3,4,5,6,7,8,9,10],[0,1,2,3,4,5,6,7,8,9,10,11]]) (lk [[21,27,28],[21,27,28],[],[21],[21],[21],[21],[21],[],[],[],[],[]]) (lk [[],[],[21],[],[],[],[],[],[21,27],[27,28],[9,29],[],[7]]) (by kernel_rfl) (fun _ => none) (fun _ => ⟨rfl, fun _ h => h⟩) ?_
      simp [hi3', htk, hln]
      refine ⟨by omega, ?_⟩
      refine LWp.rz hT hW ?_
      simp
      refine ⟨by omega, ?_⟩
      refine loopQ.mk (i + 1, v, .absent, .absent) (Weak.to [1, 2, 3, 6, 7, 8] [(3, 3), (6, 6), (7, 7), (29, 9), (2027, 2027), (3027, 3027)] (by decide) (by decide) (by simp [hp]) (by simp) (by simp [rowK_succ hi3' hne, nmsD])) ?_ ?_
      · exact ⟨hi3', .inl ⟨by omega, rfl, rfl⟩⟩
      · omega
    · obtain rfl : k = i := by omega
      refine LWp.anyAppV hT hW hMixed (lk [[],[0],[],[],[3],[],[3,4,5],[3,4,5,6],[2,3,4,5,6,7],[2,3,4,5,6,7,8],[0,1,2,3,4,5,6,7,8,9],[0,1,2,3,4,5,6,7,8,9,10],[0,1,2,3,4,5,6,7,8,9,10,11]]) (lk [[21,27,28],[21,27,28],[],[21],[21],[21],[21],[21],[],[],[],[],[]]) (lk [[],[],[21],[],[],[],[],[],[21,27],[27,28],[9,29],[],[7]]) (by kernel_rfl) 27 h[k].length (by unfold maxLen; omega) (fun | 21 => some .inp | _ => none) (by intro d; first | exact ⟨rfl, fun _ h => h⟩ | (split <;> exact ⟨rfl, fun _ h => h⟩)) (by kernel_rfl) fun ⟨c5, v5⟩ hc5 hm5 => ?_
      simp [hi3', htk, hln]
      refine ⟨by omega, ?_⟩
      refine LWp.rz hT hW ?_
      simp
      refine ⟨by omega, ?_⟩
      refine loopQ.mk (k + 1, v5, .row false 2 (grown h[k] c5), .know (.oc 2027 0 h[k].length c5) v5) (Weak.to [1, 2, 3, 6, 7, 8] [(3, 3), (6, 6), (7, 7), (29, 9), (27, 2027), (1027, 3027)] (by decide) (by decide) (by simp [hp]) (by simp) (by simp [rowK_at (v := v) hi3', grown, zeroNm, Nm.d])) ?_ ?_
      · exact ⟨hi3', .inr ⟨by omega, c5, hc5, hm5, rfl, rfl⟩⟩
      · omega
    · have hne : ¬ i = k := by omega
      refine LWp.regAny hT hW hMixed (lk [[],[0],[],[],[3],[],[3,4,5],[3,4,5,6],[2,3,4,5,6,7],[2,3,4,5,6,7,8],[0,1,2,3,4,5,6,7,8,9],[0,1,2,3,4,5,6,7,8,9,10],[0,1,2,3,4,5,6,7,8,9,10,11]]) (lk [[21,27,28],[21,27,28],[],[21],[21],[21],[21],[21],[],[],[],[],[]]) (lk [[],[],[21],[],[],[],[],[],[21,27],[27,28],[9,29],[],[7]]) (by kernel_rfl) (fun _ => none) (fun _ => ⟨rfl, fun _ h => h⟩) ?_
      simp [hi3', htk, hln]
      refine ⟨by omega, ?_⟩
      refine LWp.rz hT hW ?_
      simp
      refine ⟨by omega, ?_⟩
      refine loopQ.mk (i + 1, v, .row false 2 (grown h[k] c), .know (.oc 2027 0 h[k].length c) v) (Weak.to [1, 2, 3, 6, 7, 8] [(3, 3), (6, 6), (7, 7), (29, 9), (2027, 2027), (3027, 3027)] (by decide) (by decide) (by simp [hp]) (by simp) (by simp [rowK_succ hi3' hne, nmsD])) ?_ ?_
      · exact ⟨hi3', .inr ⟨by omega, c, hc1, hc2, rfl, rfl⟩⟩
      · omega
  · refine LWp.exit ?_
    simp
    refine LWp.seq ?_
    obtain ⟨hi3, hi4⟩ := hi3
    have hi : i = h.length := by omega
    subst hi
    obtain ⟨_, c, hc1, hc2, rfl, rfl⟩ := hi4.resolve_left (by omega)
    refine LWp.ro hT hW (fun | 36 => some <| .plain ⟨.d (I64 k), true⟩ | _ => none) ?_
    simp
    refine ⟨by rw [hk, max1]; exact Around_ok b _ h1 h2 (by omega), ?_⟩
    refine LWp.seq ?_
    have m5 := tmod_lt b 5 (by decide)
    have m9 := tmod_lt b 9 (by decide)
    refine LWp.rz hT hW ?_
    simp
    refine ⟨by omega, ?_⟩
    refine LWp.seq ?_
    refine LWp.seq ?_
    refine LWp.ro hT hW (fun | 44 => some <| .plain ⟨.d (I64 2), true⟩ | _ => none) ?_
    simp
    refine ⟨by rw [hc]; exact Around_ok how 6 g3 g4 (by decide), ?_⟩
    refine LWp.block ?_
    refine LWp.seq ?_
    refine LWp.rz hT hW ?_
    simp
    refine LWp.iff ?_
    simp
    refine LWp.seq ?_
    refine LWp.rz hT hW ?_
    simp
    refine LWp.iff ?_
    simp
    refine LWp.seq ?_
    refine LWp.rz hT hW ?_
    simp
    refine LWp.iff ?_
    simp
    refine LWp.seq ?_
    refine LWp.rz hT hW ?_
    simp [hkl]
    refine LWp.iff ?_
    simp [hkl]
    have hln := rowK_len (k := k) (v := v) (Nat.le_refl h.length)
    have hgt : ∀ (q : k < (rowK h k v h.length).length), (rowK h k v h.length)[k]'q = .val v := fun q => by
      have := rowK_get (v := v) hkl
      rw [List.getElem?_eq_getElem q] at this
      exact Option.some.inj this
    have hgl : (grown h[k] c).length = c := by simp [grown]; omega
    have hkk := cat_le hkl
    have hk2 := cat_tot (h := h) (k + 1)
    rcases (by omega : h[k].length + 1 ≤ c ∨ ¬ h[k].length + 1 ≤ c) with hr | hr
    · refine LWp.regAny hT hW hMixed (lk [[],[0],[],[],[3],[],[3,4,5],[3,4,5,6],[],[8],[3,4,5,6,7,8,9],[0,1,2,3,4,5,6,7,8,9,10],[0,1,2,3,4,5,6,7,8,9,10,11]]) (lk [[27,93,94],[27,93,94],[27,93,94],[93],[93],[93],[93],[93],[],[],[],[],[]]) (lk [[],[],[],[],[],[],[],[],[],[93],[27,94],[],[9,27,94]]) (by kernel_rfl) (fun | 94 => some (.tie 3027) | _ => none) (by intro d; first | exact ⟨rfl, fun _ h => h⟩ | (split <;> exact ⟨rfl, fun _ h => h⟩)) ?_
      simp [hkl, hln, hgt, hr, hgl]
      refine LWp.seq ?_
      refine LWp.rz hT hW ?_
      simp
      refine LWp.ret ?_
      simp
      rw [take_all (by simp [hln]), grown_take, take_put (by simp)]
      rw [show (DV.sl (List.map Nm.d h[k] ++ [DV.agg [DV.int IntKind.i64 (b.tmod 5 - 1), DV.int IntKind.i64 (b.tmod 9)]])) = nmsD (h[k] ++ [oddH b]) by simp [nmsD, Nm.d, oddH], rowK_set]
      simp [spoilK, hkl]
    · refine LWp.regAny hT hW hMixed (lk [[],[0],[],[],[3],[],[3,4,5],[3,4,5,6],[],[8],[3,4,5,6,7,8,9],[0,1,2,3,4,5,6,7,8,9,10],[0,1,2,3,4,5,6,7,8,9,10,11]]) (lk [[27,93,94],[27,93,94],[27,93,94],[93],[93],[93],[93],[93],[],[],[],[],[]]) (lk [[],[],[],[],[],[],[],[],[],[93],[27,94],[],[9,27,94]]) (by kernel_rfl) (fun | 94 => some (.tie 3027) | _ => none) (by intro d; first | exact ⟨rfl, fun _ h => h⟩ | (split <;> exact ⟨rfl, fun _ h => h⟩)) ?_
      simp [hkl, hln, hgt, hr, hgl]
      refine ⟨by omega, ?_⟩
      refine LWp.seq ?_
      refine LWp.rz hT hW ?_
      simp
      refine LWp.ret ?_
      simp
      rw [take_all (by simp [hln]), take_all (by simp; omega)]
      rw [show (DV.sl (List.take h[k].length (grown h[k] c) ++ [DV.agg [DV.int IntKind.i64 (b.tmod 5 - 1), DV.int IntKind.i64 (b.tmod 9)]])) = nmsD (h[k] ++ [oddH b]) by simp [grown, nmsD, Nm.d, oddH], rowK_set]
      simp [spoilK, hkl]
theorem Spoilt25_ok (h : Hs) (how b : Int) (hl : h.length ≤ 1000000) (hf : (cat h).length ≤ 1000000) (h1 : -9223372036854775808 ≤ b) (h2 : b ≤ 9223372036854775807) (g3 : -9223372036854775808 ≤ how) (g4 : how ≤ 9223372036854775807) :
    Ok Tryz.prog 20 [cmD h, I64 how, I64 b] ⟨.d (cmD (spoilH h how b)), false⟩ := by
  obtain ⟨a1, a2⟩ := around_lt b (max h.length 1 : Nat) (by omega)
  have hk : (((around b (max h.length 1 : Nat)).toNat : Nat) : Int) = around b (max h.length 1 : Nat) := by omega
  unfold spoilH
  generalize (around b (max h.length 1 : Nat)).toNat = k at *
  by_cases hc : around how 6 = 2 ∧ k < h.length
  · rw [hc.1]
    exact SpoiltG_ok h how b k hk hc.1.symm hc.2 hl hf h1 h2 g3 g4
  · exact SpoiltN_ok h how b k _ hk rfl (fun h2 hk => hc ⟨h2, hk⟩) hl hf h1 h2 g3 g4
end
open Go.Proofs
section
attribute [local simp] Res.cond
theorem cat_bound {g : Hs} {B : Nat} (h : ∀ s ∈ g, s.length ≤ B) : (cat g).length ≤ g.length * B := by
  induction g with
  | nil => simp [cat]
  | cons a g ih =>
    have h1 := h a (List.mem_cons_self ..)
    have h2 := ih fun s hs => h s (List.mem_cons_of_mem _ hs)
    rw [cat_cons, List.length_append, List.length_cons, Nat.add_mul]
    omega
theorem mem_cat {h : Hs} {s : List Nm} (hs : s ∈ h) : s.length ≤ (cat h).length := by
  obtain ⟨i, hi, rfl⟩ := List.mem_iff_getElem.1 hs
  have h1 := cat_le hi
  have h2 := cat_tot (h := h) (i + 1)
  omega
def HB (h : Hs) (n B : Nat) : Prop := h.length ≤ n ∧ ∀ s ∈ h, s.length ≤ B
theorem HB.cat {h : Hs} {n B : Nat} (k : HB h n B) : (Eng.cat h).length ≤ n * B := Nat.le_trans (cat_bound k.2) (Nat.mul_le_mul_right _ k.1)
theorem spoil_b {h : Hs} {n B : Nat} (hb : HB h n B) (how b : Int) : HB (spoilH h how b) (n + 1) (B + 1) := by
  obtain ⟨h1, h2⟩ := hb
  have h2' : ∀ s ∈ h, s.length ≤ B + 1 := fun s hs => by have := h2 s hs; omega
  unfold spoilH
  generalize (around b (max h.length 1 : Nat)).toNat = k
  generalize around how 6 = c
  have app : ∀ t : List Nm, t.length ≤ B + 1 → HB (h ++ [t]) (n + 1) (B + 1) := fun t ht => ⟨by simp; omega, fun s hs => by
    rcases List.mem_append.1 hs with hs | hs
    · exact h2' s hs
    · rw [List.mem_singleton.1 hs]; exact ht⟩
  have set : ∀ (g : Hs) (i : Nat) (t : List Nm), HB g (n + 1) (B + 1) → t.length ≤ B + 1 → HB (g.set i t) (n + 1) (B + 1) := fun g i t hg ht => ⟨by rw [List.length_set]; exact hg.1, fun s hs => by
    rcases List.mem_or_eq_of_mem_set hs with hs | rfl
    · exact hg.2 s hs
    · exact ht⟩
  have self : HB h (n + 1) (B + 1) := ⟨by omega, h2'⟩
  unfold spoilK
  split
  · exact app _ (by simp)
  · split
    · exact app _ (by simp)
    · split
      · rename_i hk
        have hg : h.getD k [] ∈ h := by rw [List.getD_eq_getElem?_getD, List.getElem?_eq_getElem hk]; exact List.getElem_mem hk
        have h0 : (h.getD 0 []).length ≤ B + 1 := by
          rw [List.getD_eq_getElem?_getD, List.getElem?_eq_getElem (show 0 < h.length by omega)]
          exact h2' _ (List.getElem_mem _)
        have hgl := h2 _ hg
        split
        · exact set _ _ _ self (by simp only [List.length_append, List.length_singleton]; omega)
        · split
          · exact app _ (by omega)
          · split
            · exact set _ _ _ (set _ _ _ self (by omega)) h0
            · refine ⟨by simp only [List.length_append, List.length_take, List.length_drop]; omega, fun s hs => ?_⟩
              rcases List.mem_append.1 hs with hs | hs
              · exact h2' s (List.mem_of_mem_take hs)
              · exact h2' s (List.mem_of_mem_drop hs)
      · exact self
theorem made_hb (l : List Ed) (m : List Int) : HB (madeH l m) 40 2200 := by
  have h := madeH_b l m
  exact ⟨h.1, fun s hs => by have := mem_cat hs; omega⟩
end
open Go.Proofs
section
attribute [local simp] Res.cond
end
open Go.Proofs
section
attribute [local simp] Res.cond
def bD (x : Nat) : DV := .int .u8 (x : Int)
theorem u8_wrap {x : Int} (h0 : 0 ≤ x) (h : x < 256) : IntKind.u8.wrap x = x := by
  unfold IntKind.wrap
  simp [IntKind.bits, IntKind.signed]
  omega
theorem digF_zero (f : Nat) : digF f 0 = [] := by cases f <;> simp [digF]
theorem digF_step {f m : Nat} (h : 0 < m) : digF (f + 1) m = m % 256 :: digF f (m / 256) := by rw [digF, if_neg (by omega)]
def outB (hd : Nat) (L : List Nat) (j : Nat) : List DV := (hd :: L.take j).map bD
theorem outB_zero {hd : Nat} {L : List Nat} : outB hd L 0 = [bD hd] := rfl
theorem outB_len {hd : Nat} {L : List Nat} {j : Nat} (hj : j ≤ L.length) : (outB hd L j).length = j + 1 := by simp [outB]; omega
theorem outB_take {hd : Nat} {L : List Nat} {j : Nat} (hj : j ≤ L.length) : (outB hd L j).take (j + 1) = outB hd L j := List.take_of_length_le (by rw [outB_len hj]; exact Nat.le_refl _)
theorem outB_succ {hd : Nat} {L : List Nat} {j : Nat} (hj : j < L.length) : outB hd L (j + 1) = outB hd L j ++ [bD L[j]] := by
  unfold outB
  rw [← List.take_append_getElem hj, List.map_cons, List.map_cons, List.map_append]
  rfl
theorem outB_all {hd : Nat} {L : List Nat} {j : Nat} (hj : L.length ≤ j) : outB hd L j = (hd :: L).map bD := by rw [outB, List.take_of_length_le hj]
theorem IntP_ok (n : Int) (hn : 0 ≤ n) (h : I64R n) : Ok Tryz.prog 86 [I64 n] ⟨.own 1 ((intE n).map bD), true⟩ := by
  refine Ok.ret Tryz.func86 (by kernel_rfl) (c := _) rfl Tryz.ntmps86 (by simp) Tryz.results86 (by intro _ h; cases h) fun w0 X hp => ?_
  have habs : (absE n : Int) = n := by unfold absE; rw [if_neg (by omega)]; omega
  have hlt := absE_lt h
  have hE : intE n = (128 + (digF 8 (absE n)).length) :: (digF 8 (absE n)).reverse := by unfold intE; rw [if_neg (by omega)]; simp [show ¬ n < 0 by omega]
  obtain ⟨h1, h2⟩ := h
  obtain ⟨M, hM⟩ : ∃ M, M = absE n := ⟨_, rfl⟩
  rw [← hM] at habs hlt hE
  refine LWp.seq ?_
  refine LWp.rz hT hW ?_
  simp
  refine LWp.seq ?_
  refine LWp.rz hT hW ?_
  simp
  refine LWp.seq ?_
  refine LWp.seq ?_
  refine LWp.rz hT hW ?_
  simp
  refine LWp.iff ?_
  simp [(show ¬ n < 0 by omega)]
  refine LWp.skip ?_
  simp
  refine LWp.seq ?_
  refine LWp.rz hT hW ?_
  simp
  refine LWp.seq ?_
  refine LWp.block ?_
  refine LWp.loopW (ι := List Nat × Nat) (fun ⟨D, q⟩ => mkEnv [(0, .d (I64 n)), (3, .d (I64 q)), (4, .ow 4 0 D.length)]) (fun ⟨D, q⟩ => mkObs [(4, .row false 1 (D.map bD))]) (fun ⟨D, q⟩ => digF 8 M = D ++ digF (8 - D.length) q ∧ D.length ≤ 8 ∧ q < 256 ^ (8 - D.length) ∧ q ≤ M) (fun ⟨D, q⟩ => q) ([], M) (Weak.to [0, 3, 4] [(4, 4)] (by decide) (by decide) (by simp [hp]) (by simp [habs]) (by simp)) (⟨rfl, by simp, by simpa using hlt, Nat.le_refl _⟩) fun ⟨D, q⟩ hi5 => ?_
  refine LWp.seq ?_
  refine LWp.seq ?_
  refine LWp.rz hT hW ?_
  simp
  refine LWp.iff ?_
  simp
  refine ⟨fun h5 => ?_, fun h5 => ?_⟩
  · refine LWp.skip ?_
    simp
    refine LWp.block ?_
    refine LWp.seq ?_
    obtain ⟨i1, i2, i3, i4⟩ := hi5
    have h5' : 0 < q := by omega
    have hl8 : D.length < 8 := by
      rcases Nat.lt_or_ge D.length 8 with h | h
      · exact h
      · rw [show 8 - D.length = 0 by omega] at i3; simp at i3; omega
    have hst : digF (8 - D.length) q = q % 256 :: digF (8 - (D.length + 1)) (q / 256) := by rw [show 8 - D.length = (8 - (D.length + 1)) + 1 by omega, digF_step h5']
    have htm : (q : Int).tmod 256 = ((q % 256 : Nat) : Int) := by rw [Int.tmod_eq_emod_of_nonneg (by omega)]; omega
    have htd : (q : Int).tdiv 256 = ((q / 256 : Nat) : Int) := by rw [Int.tdiv_eq_ediv_of_nonneg (by omega)]; omega
    have hw : IntKind.u8.wrap ((q % 256 : Nat) : Int) = ((q % 256 : Nat) : Int) := u8_wrap (by omega) (by omega)
    have hw3 : IntKind.u8.wrap ((q : Int) % 256) = (q : Int) % 256 := u8_wrap (by omega) (by omega)
    have htk : List.take D.length (D.map bD) = D.map bD := List.take_of_length_le (by simp)
    refine LWp.rz hT hW ?_
    simp [htm, hw, htk]
    refine ⟨by omega, ?_⟩
    refine LWp.rz hT hW ?_
    simp [htd]
    refine ⟨by omega, ?_⟩
    refine loopQ.mk (D ++ [q % 256], q / 256) (Weak.to [0, 3, 4] [(21, 4)] (by decide) (by decide) (by simp [hp]) (by simp) (by simp [bD, hw3])) ?_ ?_
    · show digF 8 M = (D ++ [q % 256]) ++ digF (8 - (D ++ [q % 256]).length) (q / 256) ∧ (D ++ [q % 256]).length ≤ 8 ∧ q / 256 < 256 ^ (8 - (D ++ [q % 256]).length) ∧ q / 256 ≤ M
      rw [List.length_append, List.length_singleton]
      refine ⟨by rw [i1, hst]; simp, by omega, ?_, by omega⟩
      rw [show 8 - D.length = (8 - (D.length + 1)) + 1 by omega, Nat.pow_succ] at i3
      omega
    · show q / 256 < q
      omega
  · refine LWp.exit ?_
    simp
    refine LWp.seq ?_
    obtain ⟨i1, i2, i3, i4⟩ := hi5
    have hq : q = 0 := by omega
    subst hq
    rw [digF_zero, List.append_nil] at i1
    rw [i1] at hE
    have hw2 : IntKind.u8.wrap (128 + (D.length : Int)) = ((128 + D.length : Nat) : Int) := by rw [u8_wrap (by omega) (by omega)]; omega
    refine LWp.rz hT hW ?_
    simp
    refine LWp.seq ?_
    refine LWp.rz hT hW ?_
    simp
    refine LWp.seq ?_
    refine LWp.seq ?_
    refine LWp.rz hT hW ?_
    simp
    refine LWp.iff ?_
    simp [hn]
    refine LWp.rz hT hW ?_
    simp [hw2]
    refine ⟨by omega, ?_⟩
    refine LWp.seq ?_
    refine LWp.seq ?_
    refine LWp.rz hT hW ?_
    simp
    refine ⟨by omega, ?_⟩
    refine LWp.block ?_
    refine LWp.loopW (ι := Nat) (fun j => mkEnv [(0, .d (I64 n)), (4, .ow 4 0 D.length), (6, .ow 6 0 (j + 1)), (7, .d (I64 ((D.length : Int) - 1 - (j : Int))))]) (fun j => mkObs [(4, .row false 1 (D.map bD)), (6, .row false 1 (outB (128 + D.length) D.reverse j))]) (fun j => j ≤ D.length) (fun j => D.length - j) 0 (Weak.to [0, 4, 6, 7] [(4, 4), (33, 6)] (by decide) (by decide) (by simp [hp]) (by simp) (by simp [bD, outB_zero])) (Nat.zero_le _) fun j hi14 => ?_
    refine LWp.seq ?_
    refine LWp.seq ?_
    refine LWp.rz hT hW ?_
    simp
    refine LWp.iff ?_
    simp
    refine ⟨fun h14 => ?_, fun h14 => ?_⟩
    · refine LWp.skip ?_
      simp
      refine LWp.seq ?_
      refine LWp.block ?_
      refine LWp.seq ?_
      have hj : j < D.length := by omega
      have hix : ((D.length : Int) - 1 - (j : Int)).toNat = D.length - 1 - j := by omega
      have hlr : D.reverse.length = D.length := List.length_reverse
      have hsc := outB_succ (hd := 128 + D.length) (L := D.reverse) (j := j) (by omega)
      rw [List.getElem_reverse] at hsc
      have htk2 := outB_take (hd := 128 + D.length) (L := D.reverse) (j := j) (by omega)
      have hln2 := outB_len (hd := 128 + D.length) (L := D.reverse) (j := j) (by omega)
      have hgd : D[D.length - 1 - j]? = some D[D.length - 1 - j] := List.getElem?_eq_getElem (by omega)
      refine LWp.rz hT hW ?_
      simp [hix, hgd, bD]
      refine ⟨by omega, ?_⟩
      refine LWp.seq ?_
      refine LWp.seq ?_
      refine LWp.rz hT hW ?_
      simp
      refine LWp.iff ?_
      simp [(show ¬ n < 0 by omega)]
      refine LWp.skip ?_
      simp
      refine LWp.rz hT hW ?_
      simp [htk2, hln2]
      refine ⟨by omega, ?_⟩
      refine LWp.rz hT hW ?_
      simp
      refine ⟨by omega, ?_⟩
      refine loopQ.mk (j + 1) (Weak.to [0, 4, 6, 7] [(4, 4), (57, 6)] (by decide) (by decide) (by simp [hp]) (by simp [show ((D.length : Int) - 1 - (j : Int) - 1) = (D.length : Int) - 1 - ((j : Int) + 1) by omega]) (by simp [hsc, bD])) ?_ ?_
      · omega
      · omega
    · refine LWp.exit ?_
      simp
      refine LWp.seq ?_
      refine LWp.rz hT hW ?_
      simp
      refine LWp.ret ?_
      have hj : j = D.length := by omega
      subst hj
      have hlr : D.reverse.length = D.length := List.length_reverse
      have hln2 := outB_len (hd := 128 + D.length) (L := D.reverse) (j := D.length) (by omega)
      rw [hE, ← outB_all (hd := 128 + D.length) (L := D.reverse) (j := D.length) (by omega)]
      have htk2 := outB_take (hd := 128 + D.length) (L := D.reverse) (j := D.length) (by omega)
      simp [hln2, htk2]
      intro x hx c hc
      obtain ⟨y, _, rfl⟩ := List.mem_map.1 hx
      simp [bD, cellsD] at hc
      subst hc
      rfl
end
open Go.Proofs
section
attribute [local simp] Res.cond
theorem IntN_ok (n : Int) (hn : n < 0) (h : I64R n) : Ok Tryz.prog 86 [I64 n] ⟨.own 1 ((intE n).map bD), true⟩ := by
  refine Ok.ret Tryz.func86 (by kernel_rfl) (c := _) rfl Tryz.ntmps86 (by simp) Tryz.results86 (by intro _ h; cases h) fun w0 X hp => ?_
  have habs : (absE n : Int) = -1 - n := by unfold absE; rw [if_pos hn]; omega
  have hlt := absE_lt h
  have hE : intE n = (127 - (digF 8 (absE n)).length) :: ((digF 8 (absE n)).map (fun d => 255 - d)).reverse := by unfold intE; rw [if_pos hn]; simp [hn]
  have hdl := digF_lt 8 (absE n)
  obtain ⟨h1, h2⟩ := h
  obtain ⟨M, hM⟩ : ∃ M, M = absE n := ⟨_, rfl⟩
  rw [← hM] at habs hlt hE hdl
  refine LWp.seq ?_
  refine LWp.rz hT hW ?_
  simp
  refine LWp.seq ?_
  refine LWp.rz hT hW ?_
  simp
  refine LWp.seq ?_
  refine LWp.seq ?_
  refine LWp.rz hT hW ?_
  simp
  refine LWp.iff ?_
  simp [hn]
  refine LWp.rz hT hW ?_
  simp
  refine ⟨by omega, ?_⟩
  refine LWp.seq ?_
  refine LWp.rz hT hW ?_
  simp
  refine LWp.seq ?_
  refine LWp.block ?_
  refine LWp.loopW (ι := List Nat × Nat) (fun ⟨D, q⟩ => mkEnv [(0, .d (I64 n)), (3, .d (I64 q)), (4, .ow 4 0 D.length)]) (fun ⟨D, q⟩ => mkObs [(4, .row false 1 (D.map bD))]) (fun ⟨D, q⟩ => digF 8 M = D ++ digF (8 - D.length) q ∧ D.length ≤ 8 ∧ q < 256 ^ (8 - D.length) ∧ q ≤ M) (fun ⟨D, q⟩ => q) ([], M) (Weak.to [0, 3, 4] [(4, 4)] (by decide) (by decide) (by simp [hp]) (by simp [habs]) (by simp)) (⟨rfl, by simp, by simpa using hlt, Nat.le_refl _⟩) fun ⟨D, q⟩ hi5 => ?_
  refine LWp.seq ?_
  refine LWp.seq ?_
  refine LWp.rz hT hW ?_
  simp
  refine LWp.iff ?_
  simp
  refine ⟨fun h5 => ?_, fun h5 => ?_⟩
  · refine LWp.skip ?_
    simp
    refine LWp.block ?_
    refine LWp.seq ?_
    obtain ⟨i1, i2, i3, i4⟩ := hi5
    have h5' : 0 < q := by omega
    have hl8 : D.length < 8 := by
      rcases Nat.lt_or_ge D.length 8 with h | h
      · exact h
      · rw [show 8 - D.length = 0 by omega] at i3; simp at i3; omega
    have hst : digF (8 - D.length) q = q % 256 :: digF (8 - (D.length + 1)) (q / 256) := by rw [show 8 - D.length = (8 - (D.length + 1)) + 1 by omega, digF_step h5']
    have htm : (q : Int).tmod 256 = ((q % 256 : Nat) : Int) := by rw [Int.tmod_eq_emod_of_nonneg (by omega)]; omega
    have htd : (q : Int).tdiv 256 = ((q / 256 : Nat) : Int) := by rw [Int.tdiv_eq_ediv_of_nonneg (by omega)]; omega
    have hw : IntKind.u8.wrap ((q % 256 : Nat) : Int) = ((q % 256 : Nat) : Int) := u8_wrap (by omega) (by omega)
    have hw3 : IntKind.u8.wrap ((q : Int) % 256) = (q : Int) % 256 := u8_wrap (by omega) (by omega)
    have htk : List.take D.length (D.map bD) = D.map bD := List.take_of_length_le (by simp)
    refine LWp.rz hT hW ?_
    simp [htm, hw, htk]
    refine ⟨by omega, ?_⟩
    refine LWp.rz hT hW ?_
    simp [htd]
    refine ⟨by omega, ?_⟩
    refine loopQ.mk (D ++ [q % 256], q / 256) (Weak.to [0, 3, 4] [(21, 4)] (by decide) (by decide) (by simp [hp]) (by simp) (by simp [bD, hw3])) ?_ ?_
    · show digF 8 M = (D ++ [q % 256]) ++ digF (8 - (D ++ [q % 256]).length) (q / 256) ∧ (D ++ [q % 256]).length ≤ 8 ∧ q / 256 < 256 ^ (8 - (D ++ [q % 256]).length) ∧ q / 256 ≤ M
      rw [List.length_append, List.length_singleton]
      refine ⟨by rw [i1, hst]; simp, by omega, ?_, by omega⟩
      rw [show 8 - D.length = (8 - (D.length + 1)) + 1 by omega, Nat.pow_succ] at i3
      omega
    · show q / 256 < q
      omega
  · refine LWp.exit ?_
    simp
    refine LWp.seq ?_
    obtain ⟨i1, i2, i3, i4⟩ := hi5
    have hq : q = 0 := by omega
    subst hq
    rw [digF_zero, List.append_nil] at i1
    rw [i1] at hE hdl
    have hw2 : IntKind.u8.wrap (127 - (D.length : Int)) = ((127 - D.length : Nat) : Int) := by rw [u8_wrap (by omega) (by omega)]; omega
    refine LWp.rz hT hW ?_
    simp
    refine LWp.seq ?_
    refine LWp.rz hT hW ?_
    simp
    refine LWp.seq ?_
    refine LWp.seq ?_
    refine LWp.rz hT hW ?_
    simp
    refine LWp.iff ?_
    simp [(show ¬ 0 ≤ n by omega)]
    refine LWp.rz hT hW ?_
    simp [hw2]
    refine ⟨by omega, ?_⟩
    refine LWp.seq ?_
    refine LWp.seq ?_
    refine LWp.rz hT hW ?_
    simp
    refine ⟨by omega, ?_⟩
    refine LWp.block ?_
    refine LWp.loopW (ι := Nat) (fun j => mkEnv [(0, .d (I64 n)), (4, .ow 4 0 D.length), (6, .ow 6 0 (j + 1)), (7, .d (I64 ((D.length : Int) - 1 - (j : Int))))]) (fun j => mkObs [(4, .row false 1 (D.map bD)), (6, .row false 1 (outB (127 - D.length) ((D.map (fun d => 255 - d)).reverse) j))]) (fun j => j ≤ D.length) (fun j => D.length - j) 0 (Weak.to [0, 4, 6, 7] [(4, 4), (39, 6)] (by decide) (by decide) (by simp [hp]) (by simp) (by simp [bD, outB_zero])) (Nat.zero_le _) fun j hi14 => ?_
    refine LWp.seq ?_
    refine LWp.seq ?_
    refine LWp.rz hT hW ?_
    simp
    refine LWp.iff ?_
    simp
    refine ⟨fun h14 => ?_, fun h14 => ?_⟩
    · refine LWp.skip ?_
      simp
      refine LWp.seq ?_
      refine LWp.block ?_
      refine LWp.seq ?_
      have hj : j < D.length := by omega
      have hix : ((D.length : Int) - 1 - (j : Int)).toNat = D.length - 1 - j := by omega
      have hlr : ((D.map (fun d => 255 - d)).reverse).length = D.length := by simp
      have hsc := outB_succ (hd := 127 - D.length) (L := (D.map (fun d => 255 - d)).reverse) (j := j) (by omega)
      rw [List.getElem_reverse, List.getElem_map] at hsc
      simp only [List.length_map] at hsc
      have hdq := hdl _ (List.getElem_mem (show D.length - 1 - j < D.length by omega))
      have hw5 : IntKind.u8.wrap (255 - ((D[D.length - 1 - j] : Nat) : Int)) = ((255 - D[D.length - 1 - j] : Nat) : Int) := by rw [u8_wrap (by omega) (by omega)]; omega
      have htk2 := outB_take (hd := 127 - D.length) (L := (D.map (fun d => 255 - d)).reverse) (j := j) (by omega)
      have hln2 := outB_len (hd := 127 - D.length) (L := (D.map (fun d => 255 - d)).reverse) (j := j) (by omega)
      have hgd : D[D.length - 1 - j]? = some D[D.length - 1 - j] := List.getElem?_eq_getElem (by omega)
      refine LWp.rz hT hW ?_
      simp [hix, hgd, bD]
      refine ⟨by omega, ?_⟩
      refine LWp.seq ?_
      refine LWp.seq ?_
      refine LWp.rz hT hW ?_
      simp
      refine LWp.iff ?_
      simp [hn]
      refine LWp.rz hT hW ?_
      simp [hw5]
      refine LWp.rz hT hW ?_
      simp [htk2, hln2]
      refine ⟨by omega, ?_⟩
      refine LWp.rz hT hW ?_
      simp
      refine ⟨by omega, ?_⟩
      refine loopQ.mk (j + 1) (Weak.to [0, 4, 6, 7] [(4, 4), (57, 6)] (by decide) (by decide) (by simp [hp]) (by simp [show ((D.length : Int) - 1 - (j : Int) - 1) = (D.length : Int) - 1 - ((j : Int) + 1) by omega]) (by simp [hsc, bD])) ?_ ?_
      · omega
      · omega
    · refine LWp.exit ?_
      simp
      refine LWp.seq ?_
      refine LWp.rz hT hW ?_
      simp
      refine LWp.ret ?_
      have hj : j = D.length := by omega
      subst hj
      have hlr : ((D.map (fun d => 255 - d)).reverse).length = D.length := by simp
      have hln2 := outB_len (hd := 127 - D.length) (L := (D.map (fun d => 255 - d)).reverse) (j := D.length) (by omega)
      rw [hE, ← outB_all (hd := 127 - D.length) (L := (D.map (fun d => 255 - d)).reverse) (j := D.length) (by omega)]
      have htk2 := outB_take (hd := 127 - D.length) (L := (D.map (fun d => 255 - d)).reverse) (j := D.length) (by omega)
      simp [hln2, htk2]
      intro x hx c hc
      obtain ⟨y, _, rfl⟩ := List.mem_map.1 hx
      simp [bD, cellsD] at hc
      subst hc
      rfl
theorem Int25_ok (n : Int) (h : I64R n) : Ok Tryz.prog 86 [I64 n] ⟨.own 1 ((intE n).map bD), true⟩ := by
  rcases Int.lt_or_le n 0 with q | q
  · exact IntN_ok n q h
  · exact IntP_ok n q h
theorem intE_len (n : Int) : (intE n).length ≤ 9 := by
  have := digF_len 8 (absE n)
  unfold intE
  simp; omega
end
open Go.Proofs
section
attribute [local simp] Res.cond
def outS (l : List Int) (k : Nat) : List Nat := intE l.length ++ (l.take k).flatMap intE
theorem outS_zero {l : List Int} : outS l 0 = intE l.length := by simp [outS]
theorem outS_succ {l : List Int} {k : Nat} (hk : k < l.length) : outS l (k + 1) = outS l k ++ intE l[k] := by
  unfold outS
  rw [← List.take_append_getElem hk, List.flatMap_append, ← List.append_assoc]
  simp
theorem outS_all {l : List Int} : outS l l.length = intsE l := by rw [outS, List.take_length]; rfl
theorem outS_len {l : List Int} : ∀ {k : Nat}, k ≤ l.length → (outS l k).length ≤ 9 * (k + 1)
  | 0, _ => by rw [outS_zero]; exact intE_len _
  | k + 1, h => by
    have := outS_len (l := l) (k := k) (by omega)
    have := intE_len l[k]
    rw [outS_succ (by omega), List.length_append]
    omega
theorem Ints25_ok (l : List Int) (hl : l.length ≤ 1000000) (hr : ∀ n ∈ l, I64R n) : Ok Tryz.prog 87 [.sl (l.map I64)] ⟨.own 1 ((intsE l).map bD), true⟩ := by
  refine Ok.ret Tryz.func87 (by kernel_rfl) (c := _) rfl Tryz.ntmps87 (by simp) Tryz.results87 (by intro _ h; cases h) fun w0 X hp => ?_
  refine LWp.seq ?_
  refine LWp.rz hT hW ?_
  simp
  refine LWp.seq ?_
  refine LWp.ro hT hW (fun | 7 => some <| .plain ⟨.own 1 ((intE l.length).map bD), true⟩ | _ => none) ?_
  simp
  refine ⟨Int25_ok _ (len_R (by omega)), ?_⟩
  refine LWp.seq ?_
  refine LWp.seq ?_
  refine LWp.rz hT hW ?_
  simp
  refine LWp.block ?_
  refine LWp.loopW (ι := Nat) (fun k => mkEnv [(0, .d (.sl (l.map I64))), (3, .ow 3 0 (outS l k).length), (4, .d (I64 k))]) (fun k => mkObs [(3, .row false 1 ((outS l k).map bD))]) (fun k => k ≤ l.length) (fun k => l.length - k) 0 (Weak.to [0, 3, 4] [(7, 3)] (by decide) (by decide) (by simp [hp]) (by simp [outS_zero]) (by simp [outS_zero])) (Nat.zero_le _) fun k hi3 => ?_
  refine LWp.seq ?_
  refine LWp.seq ?_
  refine LWp.rz hT hW ?_
  simp
  refine LWp.iff ?_
  simp
  refine ⟨fun h3 => ?_, fun h3 => ?_⟩
  · refine LWp.skip ?_
    simp
    refine LWp.seq ?_
    refine LWp.block ?_
    have hk : k < l.length := by omega
    have hb1 := outS_len (l := l) (k := k) (by omega)
    have hb2 := intE_len l[k]
    have k1 := Int25_ok l[k] (hr _ (List.getElem_mem hk))
    have htk : List.take (outS l k).length ((outS l k).map bD) = (outS l k).map bD := List.take_of_length_le (by simp)
    refine LWp.ro hT hW (fun | 19 => some <| .plain ⟨.own 1 ((intE l[k]).map bD), true⟩ | _ => none) ?_
    simp [hk, htk]
    refine ⟨⟨by exact k1, fun _ _ => rfl, by omega⟩, ?_⟩
    refine LWp.rz hT hW ?_
    simp
    refine ⟨by omega, ?_⟩
    refine loopQ.mk (k + 1) (Weak.to [0, 3, 4] [(20, 3)] (by decide) (by decide) (by simp [hp]) (by simp [outS_succ hk]) (by simp [outS_succ hk])) ?_ ?_
    · omega
    · omega
  · refine LWp.exit ?_
    simp
    refine LWp.seq ?_
    refine LWp.rz hT hW ?_
    simp
    refine LWp.ret ?_
    have hk : k = l.length := by omega
    subst hk
    rw [outS_all]
    simp
    intro x hx c hc
    simp [bD, cellsD] at hc
    subst hc
    rfl
end
open Go.Proofs
section
attribute [local simp] Res.cond
def flatT (c : List Nm) (k : Nat) : List Int := flatN (c.take k)
theorem flatT_zero {c : List Nm} : flatT c 0 = [] := by simp [flatT, flatN]
theorem flatT_succ {c : List Nm} {k : Nat} (hk : k < c.length) : flatT c (k + 1) = flatT c k ++ [c[k].who, c[k].seq] := by
  unfold flatT flatN
  rw [← List.take_append_getElem hk, List.flatMap_append]
  simp
theorem flatT_all {c : List Nm} : flatT c c.length = flatN c := by rw [flatT, List.take_length]
theorem flatT_len {c : List Nm} : ∀ {k : Nat}, k ≤ c.length → (flatT c k).length = 2 * k
  | 0, _ => by rw [flatT_zero]; rfl
  | k + 1, h => by
    have := flatT_len (c := c) (k := k) (by omega)
    rw [flatT_succ (by omega), List.length_append]
    simp; omega
theorem Flat_ok (c : List Nm) (hl : c.length ≤ 1000000) : Ok Tryz.prog 88 [nmsD c] ⟨.own 1 ((flatN c).map I64), true⟩ := by
  refine Ok.ret Tryz.func88 (by kernel_rfl) (c := _) rfl Tryz.ntmps88 (by simp) Tryz.results88 (by intro _ h; cases h) fun w0 X hp => ?_
  refine LWp.seq ?_
  refine LWp.rz hT hW ?_
  simp
  refine LWp.seq ?_
  refine LWp.rz hT hW ?_
  simp
  refine LWp.seq ?_
  refine LWp.seq ?_
  refine LWp.rz hT hW ?_
  simp
  refine LWp.block ?_
  refine LWp.loopW (ι := Nat) (fun k => mkEnv [(0, .d (nmsD c)), (3, .ow 3 0 (2 * k)), (4, .d (I64 k))]) (fun k => mkObs [(3, .row false 1 ((flatT c k).map I64))]) (fun k => k ≤ c.length) (fun k => c.length - k) 0 (Weak.to [0, 3, 4] [(3, 3)] (by decide) (by decide) (by simp [hp]) (by simp) (by simp [flatT_zero])) (Nat.zero_le _) fun k hi3 => ?_
  refine LWp.seq ?_
  refine LWp.seq ?_
  refine LWp.rz hT hW ?_
  simp
  refine LWp.iff ?_
  simp
  refine ⟨fun h3 => ?_, fun h3 => ?_⟩
  · refine LWp.skip ?_
    simp
    refine LWp.seq ?_
    refine LWp.block ?_
    have hk : k < c.length := by omega
    have hln := flatT_len (c := c) (k := k) (by omega)
    have htk : List.take (2 * k) ((flatT c k).map I64) = (flatT c k).map I64 := List.take_of_length_le (by simp [hln])
    refine LWp.regAny hT hW hMixed (lk [[],[],[],[1,2],[1,2,3],[1,2,3,4],[],[],[6,7],[6,7,8],[6,7,8,9],[1,2,3,4,5,6,7,8,9,10],[0,1,2,3,4,5,6,7,8,9,10,11],[0,1,2,3,4,5,6,7,8,9,10,11,12]]) (lk [[22],[],[],[],[],[],[],[],[],[],[],[],[],[]]) (lk [[],[],[],[],[],[],[],[],[],[],[],[22],[3,23],[]]) (by kernel_rfl) (fun _ => none) (fun _ => ⟨rfl, fun _ h => h⟩) ?_
    simp [hk, htk]
    refine ⟨by refine ⟨?_, ?_⟩ <;> first | omega | (intros; rfl) | skip, ?_⟩
    refine LWp.rz hT hW ?_
    simp
    refine ⟨by omega, ?_⟩
    refine loopQ.mk (k + 1) (Weak.to [0, 3, 4] [(23, 3)] (by decide) (by decide) (by simp [hp]) (by simp [show 2 * k + 2 = 2 * (k + 1) by omega]) (by simp [flatT_succ hk])) ?_ ?_
    · omega
    · omega
  · refine LWp.exit ?_
    simp
    refine LWp.seq ?_
    refine LWp.rz hT hW ?_
    simp
    refine LWp.ret ?_
    have hk : k = c.length := by omega
    subst hk
    have hln := flatT_len (c := c) (Nat.le_refl _)
    rw [flatT_all] at hln ⊢
    simp [hln]
    exact List.take_of_length_le (by simp [hln])
theorem intsE_len {l : List Int} : (intsE l).length ≤ 9 * (l.length + 1) := by
  rw [← outS_all]; exact outS_len (Nat.le_refl _)
def outH (h : Hs) (i : Nat) : List Nat := intE h.length ++ (h.take i).flatMap fun c => intsE (flatN c)
theorem outH_zero {h : Hs} : outH h 0 = intE h.length := by simp [outH]
theorem outH_succ {h : Hs} {i : Nat} (hi : i < h.length) : outH h (i + 1) = outH h i ++ intsE (flatN h[i]) := by
  unfold outH
  rw [← List.take_append_getElem hi, List.flatMap_append, ← List.append_assoc]
  simp
theorem outH_all {h : Hs} : outH h h.length = encH h := by rw [outH, List.take_length]; rfl
theorem outH_len {h : Hs} : ∀ {i : Nat}, i ≤ h.length → (outH h i).length ≤ 9 + 9 * i + 18 * (cat (h.take i)).length
  | 0, _ => by rw [outH_zero]; have := intE_len h.length; omega
  | i + 1, hi => by
    have h1 := outH_len (h := h) (i := i) (by omega)
    have h2 := intsE_len (l := flatN h[i])
    have h3 := flatT_len (c := h[i]) (Nat.le_refl _)
    have h4 := cat_le (h := h) (i := i) (by omega)
    rw [flatT_all] at h3
    rw [outH_succ (by omega), List.length_append]
    omega
theorem Encode25_ok (h : Hs) (hl : h.length ≤ 100000) (hf : (cat h).length ≤ 100000) (hr : ∀ c ∈ h, IsR (flatN c)) : Ok Tryz.prog 39 [cmD h] ⟨.own 1 ((encH h).map bD), true⟩ := by
  refine Ok.ret Tryz.func39 (by kernel_rfl) (c := _) rfl Tryz.ntmps39 (by simp) Tryz.results39 (by intro _ h; cases h) fun w0 X hp => ?_
  refine LWp.seq ?_
  refine LWp.rz hT hW ?_
  simp [cmD]
  refine LWp.seq ?_
  refine LWp.ro hT hW (fun | 8 => some <| .plain ⟨.own 1 ((intE h.length).map bD), true⟩ | _ => none) ?_
  simp
  refine ⟨by simpa using Int25_ok _ (len_R (n := h.length) (by omega)), ?_⟩
  refine LWp.seq ?_
  refine LWp.seq ?_
  refine LWp.rz hT hW ?_
  simp
  refine LWp.block ?_
  refine LWp.loopW (ι := Nat) (fun i => mkEnv [(1, .bx 1 0), (3, .ow 3 0 (outH h i).length), (4, .d (I64 i))]) (fun i => mkObs [(1, .box false [.d (.sl (h.map nmsD))]), (3, .row false 1 ((outH h i).map bD))]) (fun i => i ≤ h.length) (fun i => h.length - i) 0 (Weak.to [1, 3, 4] [(1, 1), (8, 3)] (by decide) (by decide) (by simp [hp]) (by simp [outH_zero]) (by simp [outH_zero])) (Nat.zero_le _) fun i hi3 => ?_
  refine LWp.seq ?_
  refine LWp.seq ?_
  refine LWp.rz hT hW ?_
  simp
  refine LWp.iff ?_
  simp
  refine ⟨fun h3 => ?_, fun h3 => ?_⟩
  · refine LWp.skip ?_
    simp
    refine LWp.seq ?_
    refine LWp.block ?_
    have hi : i < h.length := by omega
    have hb1 := outH_len (h := h) (i := i) (by omega)
    have hb2 := cat_le hi
    have hb3 := cat_tot (h := h) (i + 1)
    have hb4 := flatT_len (c := h[i]) (Nat.le_refl _)
    rw [flatT_all] at hb4
    have hb5 := intsE_len (l := flatN h[i])
    have k1 := Flat_ok h[i] (by omega)
    have k2 := Ints25_ok (flatN h[i]) (by omega) (hr _ (List.getElem_mem hi)).2
    have htk : List.take (outH h i).length ((outH h i).map bD) = (outH h i).map bD := List.take_of_length_le (by simp)
    refine LWp.ro hT hW (fun | 22 => some <| .plain ⟨.own 1 ((flatN h[i]).map I64), true⟩ | 23 => some <| .plain ⟨.own 1 ((intsE (flatN h[i])).map bD), true⟩ | _ => none) ?_
    simp [hi, htk]
    refine ⟨⟨⟨by exact k1, by simpa using k2⟩, fun _ _ => rfl, by omega⟩, ?_⟩
    refine LWp.rz hT hW ?_
    simp
    refine ⟨by omega, ?_⟩
    refine loopQ.mk (i + 1) (Weak.to [1, 3, 4] [(1, 1), (24, 3)] (by decide) (by decide) (by simp [hp]) (by simp [outH_succ hi]) (by simp [outH_succ hi])) ?_ ?_
    · omega
    · omega
  · refine LWp.exit ?_
    simp
    refine LWp.seq ?_
    refine LWp.rz hT hW ?_
    simp
    refine LWp.ret ?_
    have hi : i = h.length := by omega
    subst hi
    rw [outH_all]
    simp
    intro x hx c hc
    simp [bD, cellsD] at hc
    subst hc
    rfl
end
open Go.Proofs
section
attribute [local simp] Res.cond bD
theorem SameB_ok (a b : List Nat) : Ok Tryz.prog 37 [.sl (a.map bD), .sl (b.map bD)] ⟨.d (.bool (decide (a = b))), true⟩ := by
  refine Ok.ret Tryz.func37 (by kernel_rfl) (c := _) rfl Tryz.ntmps37 (by simp) Tryz.results37 (by intro _ h; cases h) fun w0 X hp => ?_
  refine LWp.len (t := 0) rfl fun hlen => ?_
  simp at hlen
  refine LWp.seq ?_
  refine LWp.rz hT hW ?_
  simp
  refine LWp.seq ?_
  refine LWp.seq ?_
  refine LWp.rz hT hW ?_
  simp
  refine LWp.iff ?_
  simp
  refine ⟨fun h1 => ?_, fun h1 => ?_⟩
  · refine LWp.seq ?_
    refine LWp.rz hT hW ?_
    simp
    refine LWp.ret ?_
    simp
    exact fun e => h1 (by rw [e])
  · refine LWp.skip ?_
    simp
    refine LWp.seq ?_
    refine LWp.seq ?_
    refine LWp.rz hT hW ?_
    simp
    refine LWp.block ?_
    refine LWp.loopW (ι := Nat) (fun i => mkEnv [(0, .d (.sl (a.map bD))), (1, .d (.sl (b.map bD))), (5, .d (I64 i))]) (fun i => mkObs []) (fun i => i ≤ a.length ∧ a.take i = b.take i) (fun i => a.length - i) 0 (Weak.to [0, 1, 5] [] (by decide) (by decide) (by simp [hp]) (by simp) (by simp)) (by simp) fun i hi4 => ?_
    refine LWp.seq ?_
    refine LWp.seq ?_
    refine LWp.rz hT hW ?_
    simp
    refine LWp.iff ?_
    simp
    refine ⟨fun h4 => ?_, fun h4 => ?_⟩
    · refine LWp.skip ?_
      simp
      refine LWp.seq ?_
      refine LWp.block ?_
      refine LWp.seq ?_
      refine LWp.regAny hT hW hMixed (lk [[],[],[0,1],[0,1,2],[],[],[4,5],[4,5,6],[0,1,2,3,4,5,6,7]]) (lk [[],[],[],[],[],[],[],[],[]]) (lk [[],[],[],[],[],[],[],[],[]]) (by kernel_rfl) (fun _ => none) (fun _ => ⟨rfl, fun _ h => h⟩) ?_
      simp [h4, show i < b.length by omega]
      refine LWp.iff ?_
      simp
      refine ⟨fun h6 => ?_, fun h6 => ?_⟩
      · refine LWp.seq ?_
        refine LWp.rz hT hW ?_
        simp
        refine LWp.ret ?_
        simp
        intro e
        subst e
        simp at h6
      · refine LWp.skip ?_
        simp
        refine LWp.rz hT hW ?_
        simp
        refine ⟨by omega, ?_⟩
        refine loopQ.mk (i + 1) (Weak.to [0, 1, 5] [] (by decide) (by decide) (by simp [hp]) (by simp) (by simp)) ?_ ?_
        · exact ⟨h4, take_eq_succ hi4.2 h4 (by omega) (by omega)⟩
        · omega
    · refine LWp.exit ?_
      simp
      refine LWp.seq ?_
      refine LWp.rz hT hW ?_
      simp
      refine LWp.ret ?_
      have hi : i = a.length := by omega
      have h2 := hi4.2
      rw [hi, List.take_length, List.take_of_length_le (by omega)] at h2
      simp [h2]
end
open Go.Proofs
section
attribute [local simp] Res.cond
theorem EqualFuncH_ok (a b : Hs) : Ok Tryz.prog 89 [rowsV a, rowsV b, .fn 90 []] ⟨.d (.bool (decide (a = b))), true⟩ := by
  unfold rowsV
  refine Ok.ret Tryz.func89 (by kernel_rfl) (c := _) rfl Tryz.ntmps89 (by simp) Tryz.results89 (by intro _ h; cases h) fun w0 X hp => ?_
  refine LWp.len (t := 0) rfl fun hlen => ?_
  simp at hlen
  refine LWp.seq ?_
  refine LWp.rz hT hW ?_
  simp
  refine LWp.seq ?_
  refine LWp.seq ?_
  refine LWp.rz hT hW ?_
  simp
  refine LWp.iff ?_
  simp
  refine ⟨fun h1 => ?_, fun h1 => ?_⟩
  · refine LWp.seq ?_
    refine LWp.rz hT hW ?_
    simp
    refine LWp.ret ?_
    simp
    exact fun e => h1 (by rw [e])
  · refine LWp.skip ?_
    simp
    refine LWp.seq ?_
    refine LWp.seq ?_
    refine LWp.rz hT hW ?_
    simp
    refine LWp.block ?_
    refine LWp.loopW (ι := Nat) (fun i => mkEnv [(1, .d (.sl (b.map nmsD))), (2, .d (.fn 90 [])), (15, .d (.sl (a.map nmsD))), (16, .d (I64 a.length)), (17, .d (I64 i))]) (fun i => mkObs []) (fun i => i ≤ a.length ∧ a.take i = b.take i) (fun i => a.length - i) 0 (Weak.to [1, 2, 15, 16, 17] [] (by decide) (by decide) (by simp [hp]) (by simp) (by simp)) (by simp) fun i hi4 => ?_
    refine LWp.seq ?_
    refine LWp.rz hT hW ?_
    simp
    refine LWp.seq ?_
    refine LWp.iff ?_
    simp
    refine ⟨fun h4 => ?_, fun h4 => ?_⟩
    · refine LWp.skip ?_
      simp
      refine LWp.seq ?_
      refine LWp.block ?_
      refine LWp.seq ?_
      refine LWp.rz hT hW ?_
      simp [h4]
      refine LWp.seq ?_
      refine LWp.rz hT hW ?_
      simp [show i < b.length by omega]
      refine LWp.seq ?_
      have hb : i < b.length := by omega
      refine LWp.ro hT hW (fun | 29 => some <| .plain ⟨.d (.bool (decide (a[i] = b[i]))), true⟩ | _ => none) ?_
      simp [evalCallee]
      refine ⟨by simpa using EqualNm_ok a[i] b[i], ?_⟩
      refine LWp.iff ?_
      simp
      refine ⟨fun h7 => ?_, fun h7 => ?_⟩
      · refine LWp.seq ?_
        refine LWp.rz hT hW ?_
        simp
        refine LWp.ret ?_
        simp
        intro e
        subst e
        simp at h7
      · refine LWp.skip ?_
        simp
        refine LWp.rz hT hW ?_
        simp
        refine ⟨by omega, ?_⟩
        refine loopQ.mk (i + 1) (Weak.to [1, 2, 15, 16, 17] [] (by decide) (by decide) (by simp [hp]) (by simp) (by simp)) ?_ ?_
        · exact ⟨h4, take_eq_succ hi4.2 h4 (by omega) (by simpa using h7)⟩
        · omega
    · refine LWp.exit ?_
      simp
      refine LWp.seq ?_
      refine LWp.rz hT hW ?_
      simp
      refine LWp.ret ?_
      simp
      have e : i = a.length := by omega
      have h2 := hi4.2
      rw [e, List.take_length] at h2
      have h1' : a.length = b.length := by omega
      rw [h2, h1', List.take_length]
theorem hSame_ok (a b : Hs) : Ok Tryz.prog 40 [cmD a, cmD b] ⟨.d (.bool (decide (a = b))), true⟩ := by
  refine Ok.ret Tryz.func40 (by kernel_rfl) (c := _) rfl Tryz.ntmps40 (by simp) Tryz.results40 (by intro _ h; cases h) fun w0 X hp => ?_
  refine LWp.seq ?_
  refine LWp.rz hT hW ?_
  simp [cmD]
  refine LWp.seq ?_
  refine LWp.ro hT hW (fun | 9 => some <| .plain ⟨.d (.bool (decide (a = b))), true⟩ | _ => none) ?_
  simp
  refine ⟨by simpa [rowsV] using EqualFuncH_ok a b, ?_⟩
  refine LWp.ret ?_
  simp
end
end Go.Eng
namespace Go.Eng
theorem digF_size : ∀ (f m k : Nat), m < 256 ^ k → (k = 0 ∨ 256 ^ (k - 1) ≤ m) → k ≤ f → (digF f m).length = k
  | 0, m, k, _, _, hk => by have : k = 0 := by omega
                            subst this; rfl
  | f + 1, m, 0, h, _, _ => by simp at h; subst h; simp [digF]
  | f + 1, m, k + 1, h, h1, hk => by
    have hp : 0 < 256 ^ k := Nat.pow_pos (by decide)
    have h1' : 256 ^ k ≤ m := by rcases h1 with h1 | h1; omega; simpa using h1
    unfold digF
    rw [if_neg (by omega), List.length_cons, digF_size f (m / 256) k ?_ ?_ (by omega)]
    · rw [Nat.pow_succ] at h; omega
    · cases k with
      | zero => exact .inl rfl
      | succ k => right; simp only [Nat.add_sub_cancel]; rw [Nat.pow_succ] at h1'; omega
theorem digF_get : ∀ (f m i : Nat), i < (digF f m).length → (digF f m)[i]? = some (m / 256 ^ i % 256)
  | 0, _, _, h => by simp [digF] at h
  | f + 1, m, i, h => by
    unfold digF at h ⊢
    split
    · rename_i h0; rw [if_pos h0] at h; simp at h
    · rename_i h0
      rw [if_neg h0] at h
      cases i with
      | zero => simp
      | succ i =>
        rw [List.getElem?_cons_succ, digF_get f (m / 256) i (by simpa using h), Nat.div_div_eq_div_mul, Nat.pow_succ, Nat.mul_comm]
theorem compl64 {n : Int} (h1 : -9223372036854775808 ≤ n) (h2 : n < 0) : IntKind.u64.wrap (BitVec.ofInt 64 IntKind.u64.max ^^^ BitVec.ofInt 64 (IntKind.u64.wrap n)).toNat = -1 - n := by
  have e1 : BitVec.ofInt 64 IntKind.u64.max = BitVec.allOnes 64 := by decide
  have e2 : IntKind.u64.wrap n = n + 18446744073709551616 := by
    unfold IntKind.wrap
    simp [IntKind.bits, IntKind.signed]
    omega
  rw [e1, BitVec.allOnes_xor, BitVec.toNat_not, e2, BitVec.toNat_ofInt]
  unfold IntKind.wrap
  simp [IntKind.bits, IntKind.signed]
  omega
theorem u64_id {n : Int} (h1 : 0 ≤ n) (h2 : n ≤ 9223372036854775807) : IntKind.u64.wrap n = n := by
  unfold IntKind.wrap
  simp [IntKind.bits, IntKind.signed]
  omega
set_option maxRecDepth 100000 in
theorem xor_none : ∀ x : Nat, x < 256 → IntKind.u8.wrap (BitVec.ofInt IntKind.u8.bits (x : Int) ^^^ BitVec.ofInt IntKind.u8.bits 0).toNat = (x : Int) := by decide
set_option maxRecDepth 100000 in
theorem xor_all : ∀ x : Nat, x < 256 → IntKind.u8.wrap (BitVec.ofInt IntKind.u8.bits (x : Int) ^^^ BitVec.ofInt IntKind.u8.bits 255).toNat = ((255 - x : Nat) : Int) := by decide
theorem u8_mod (x : Nat) : IntKind.u8.wrap (x : Int) = ((x % 256 : Nat) : Int) := by
  unfold IntKind.wrap
  simp [IntKind.bits, IntKind.signed]
theorem shr_dig (M i : Nat) (h : i < 8) : (M : Int).fdiv (2 ^ min (8 * (i : Int)).toNat IntKind.u64.bits) = ((M / 256 ^ i : Nat) : Int) := by
  show (M : Int).fdiv (2 ^ min (8 * (i : Int)).toNat 64) = ((M / 256 ^ i : Nat) : Int)
  have e : (2 : Int) ^ (8 * i) = ((256 ^ i : Nat) : Int) := by
    rw [Int.pow_mul, Int.natCast_pow]
    rfl
  rw [show min (8 * (i : Int)).toNat 64 = 8 * i by omega, e, Int.fdiv_eq_ediv_of_nonneg _ (Int.natCast_nonneg _), Int.natCast_ediv]
end Go.Eng
namespace Go.Eng
section
variable {P : Program} {N : Nat} {w0 : Base} {X : Nat → Prop} {Q : LX → Env → Obs → Prop} {env : Env} {H : Obs} {c : Code}
theorem LWp.label {l : Nat} (h : Q .normal env H) : LWp P N w0 X (.label l) Q env H := fun β _ _ s => wp_label ⟨.normal, env, H, β, trivial, s, h⟩
theorem LWp.scope (h : LWp P N w0 X c Q env H) : LWp P N w0 X (.scope c) Q env H := fun β a w s => wp_scope_straight (wp_mono (h β a w s) fun e a' w' k => by
  obtain ⟨lx, env', H', β', h1, h2, h3⟩ := k
  cases e with
  | goto l => cases lx <;> exact h1.elim
  | _ => exact ⟨lx, env', H', β', h1, h2, h3⟩)
end
end Go.Eng
namespace Go.Eng
open Go.Proofs
attribute [local simp] runL stepL evalG evalOp opLV constLV putEnv dstOk upd upds Res.plain Res.cond Res.fail evalBin evalUn seqQ blockQ argsEnv lookL lookH RetIs memless freshL evalPick evalMin bval bok evalLen evalIn strip whenC guardOps guardC slotsOf
  runM foldS stepI stepM maskE wrIn lk renO lookN evalCall evalCallee optAll resLV resObj retLV retObj retsLV retsObj evalLoad evalIndexAddr evalField solid cellsD_agg cellsD_int cellsD_bool cellsD_str cellsD_sl cellsD_ro cellsD_fn cellsL_agg cellsL_dagg cellsL_int cellsL_bool cellsL_str cellsL_sl cellsL_fn cellsL_ow cellsL_bx cellsL_lfn cellsL_nl takeL takeD mkAgg allD eqD eqDs kindsAre kindIs LObj.live TK.isNone TK.agg TK.isBool TK.isStr TK.isStruct Op.operands Call.operands
  evalBuildSlice evalAppend elemsOf evalStore evalBuild fillL lookupF putL evalSlice bound evalConv elemsS freezes frozen loadR
  mkEnv_at mkObs_at close_d close_agg close_ow close_bx close_fn close_nl touch_d touch_agg touch_ow touch_bx touch_fn touch_nl ren_d ren_agg ren_bx ren_rp ren_ow ren_fn ren_nl ren_junk retQ_ret retQ2_ret condQ_bool Nm.d Df.d Ed.d nmsD dfsD strsD edsD retC_ret nm_eq df_eq take_map_len take_map_app
  nm_t nm_d nm_td df_t df_d df_td str_t str_d str_td ed_t ed_d ed_td
  evalAppendIn evalBuildSliceC evalCopyC shortL evalApart evalAppendC evalAppendZ evalAppendG evalCapC isOc TK.isInt close_oc touch_oc ren_oc cellsL_oc evalCut evalClear evalCopy evalMake evalWrap evalCap evalNil isNilC lenL isInp gorc gorc2
  mapOf findD keyEq keyOk evalMakeMap evalRange zeroD zeroDV argsG shutG outN lenv retG0_ret retG0_normal retG1_ret retGR_ret renO close_mp touch_mp ren_mp optAll_d optAll_d' touch_ds cellsL_mp cellsD_mp cellsL_dmp
  evalMapSet evalPtr TK.isPtr evalToArr firstL retN_ret retsQ rvarL close_bm touch_bm ren_bm cellsD_bm cellsL_bm cellsL_lbm
section
attribute [local simp] Res.cond
theorem WIntP_ok (n : Int) (hn : 0 ≤ n) (h : I64R n) : Ok Tryz.prog 84 [I64 n] ⟨.own 1 ((intE n).map bD), true⟩ := by
  refine Ok.ret Tryz.func84 (by kernel_rfl) (c := _) rfl Tryz.ntmps84 (by simp) Tryz.results84 (by intro _ h; cases h) fun w0 X hp => ?_
  have hlt := absE_lt h
  have habs : (absE n : Int) = n := by unfold absE; rw [if_neg (by omega)]; omega
  have hE : intE n = (128 + (digF 8 (absE n)).length) :: (digF 8 (absE n)).reverse := by unfold intE; rw [if_neg (by omega)]; simp [show ¬ n < 0 by omega]
  have hdl := digF_lt 8 (absE n)
  obtain ⟨h1, h2⟩ := h
  obtain ⟨M, hM⟩ : ∃ M, M = absE n := ⟨_, rfl⟩
  rw [← hM] at habs hlt hE hdl
  refine LWp.seq ?_
  refine LWp.rz hT hW ?_
  simp
  refine LWp.scope ?_
  refine LWp.seq ?_
  refine LWp.rz hT hW ?_
  simp [u64_id hn h2]
  refine LWp.seq ?_
  refine LWp.seq ?_
  refine LWp.rz hT hW ?_
  simp
  refine LWp.iff ?_
  simp [(show ¬ n < 0 by omega)]
  refine LWp.skip ?_
  simp
  refine LWp.seq ?_
  refine LWp.rz hT hW ?_
  simp
  refine LWp.seq ?_
  refine LWp.label ?_
  simp
  refine LWp.seqCut (ι := Nat × Int) (fun ⟨k, fl⟩ => mkEnv [(3, .d (.int .u64 (M : Int))), (4, .d (.int .u8 fl)), (5, .d (I64 k))]) (fun ⟨k, fl⟩ => mkObs []) (fun ⟨k, fl⟩ => (digF 8 M).length = k ∧ k ≤ 8 ∧ fl = 0) ?_ fun ⟨k, fl⟩ hc8 => ?_
  · refine LWp.block ?_
    refine LWp.loopW (ι := Nat) (fun k => mkEnv [(3, .d (.int .u64 (M : Int))), (4, .d (.int .u8 0)), (5, .d (I64 k))]) (fun k => mkObs []) (fun k => k ≤ 8 ∧ M < 256 ^ k) (fun k => k) 8 (Weak.to [3, 4, 5] [] (by decide) (by decide) (by simp [hp]) (by simp [habs]) (by simp)) (⟨Nat.le_refl _, hlt⟩) fun k hi5 => ?_
    refine LWp.seq ?_
    refine LWp.seq ?_
    refine LWp.rz hT hW ?_
    simp
    refine LWp.iff ?_
    simp
    refine ⟨fun h5 => ?_, fun h5 => ?_⟩
    · refine LWp.skip ?_
      simp
      refine LWp.block ?_
      refine LWp.seq ?_
      refine LWp.seq ?_
      have hk0 : 0 < k := by omega
      obtain ⟨i, hi⟩ : ∃ i, k = i + 1 := ⟨k - 1, by omega⟩
      have hi8 : i < 8 := by omega
      have hsh := shr_dig M i hi8
      obtain ⟨D, hD⟩ : ∃ D, D = M / 256 ^ i := ⟨_, rfl⟩
      rw [← hD] at hsh
      have hkm : ((k : Int) - 1) = (i : Int) := by omega
      refine LWp.rz hT hW ?_
      simp [hkm, hsh]
      refine ⟨by omega, ?_⟩
      refine LWp.iff ?_
      simp
      refine ⟨fun h6 => ?_, fun h6 => ?_⟩
      · refine LWp.exit ?_
        simp
        refine cutQ.mk (k, 0) (Weak.to [3, 4, 5] [] (by decide) (by decide) (by simp [hp]) (by simp) (by simp)) ?_
        refine ⟨digF_size 8 M k hi5.2 (.inr ?_) hi5.1, hi5.1, rfl⟩
        subst hi
        have h6' : 0 < M / 256 ^ i := by rw [← hD]; omega
        rw [Nat.add_sub_cancel]
        exact (Nat.le_div_iff_mul_le (Nat.pow_pos (by decide))).1 h6' |> fun h => by simpa using h
      · refine LWp.skip ?_
        simp
        refine LWp.rz hT hW ?_
        simp
        refine ⟨by omega, ?_⟩
        refine loopQ.mk (k - 1) (Weak.to [3, 4, 5] [] (by decide) (by decide) (by simp [hp]) (by simp [show ((k - 1 : Nat) : Int) = (k : Int) - 1 by omega]) (by simp)) ?_ ?_
        · refine ⟨by omega, ?_⟩
          rw [show k - 1 = i by omega]
          have h6' : M / 256 ^ i < 1 := by rw [← hD]; omega
          simpa using (Nat.div_lt_iff_lt_mul (Nat.pow_pos (by decide))).1 h6'
        · omega
    · refine LWp.exit ?_
      simp
      refine cutQ.mk (k, 0) (Weak.to [3, 4, 5] [] (by decide) (by decide) (by simp [hp]) (by simp) (by simp)) ?_
      exact ⟨digF_size 8 M k hi5.2 (.inl (by omega)) hi5.1, hi5.1, rfl⟩
  · refine LWp.seq ?_
    obtain ⟨c1, c2, c3⟩ := hc8
    have hw2 : IntKind.u8.wrap (128 + (k : Int)) = 128 + (k : Int) := u8_wrap (by omega) (by omega)
    have hx := xor_none (128 + k) (by omega)
    rw [← c3] at hx
    rw [show ((128 + k : Nat) : Int) = 128 + (k : Int) by omega] at hx
    simp at hx
    refine LWp.rz hT hW ?_
    simp [hw2, hx]
    refine ⟨by omega, ?_⟩
    refine LWp.seq ?_
    refine LWp.seq ?_
    refine LWp.rz hT hW ?_
    simp
    refine ⟨by omega, ?_⟩
    refine LWp.block ?_
    refine LWp.loopW (ι := Nat) (fun j => mkEnv [(3, .d (.int .u64 (M : Int))), (4, .d (.int .u8 fl)), (6, .ow 6 0 (j + 1)), (7, .d (I64 ((k : Int) - 1 - (j : Int))))]) (fun j => mkObs [(6, .row false 1 (outB (128 + k) (digF 8 M).reverse j))]) (fun j => j ≤ k) (fun j => k - j) 0 (Weak.to [3, 4, 6, 7] [(29, 6)] (by decide) (by decide) (by simp [hp]) (by simp) (by simp [bD, outB_zero])) (Nat.zero_le _) fun j hi10 => ?_
    refine LWp.seq ?_
    refine LWp.seq ?_
    refine LWp.rz hT hW ?_
    simp
    refine LWp.iff ?_
    simp
    refine ⟨fun h10 => ?_, fun h10 => ?_⟩
    · refine LWp.skip ?_
      simp
      refine LWp.seq ?_
      refine LWp.block ?_
      have hj : j < k := by omega
      have hix : (k : Int) - 1 - (j : Int) = ((k - 1 - j : Nat) : Int) := by omega
      have hsh := shr_dig M (k - 1 - j) (by omega)
      have hlr : (digF 8 M).reverse.length = k := by rw [List.length_reverse]; exact c1
      have hsc := outB_succ (hd := 128 + k) (L := (digF 8 M).reverse) (j := j) (by omega)
      have hgt : (digF 8 M).reverse[j]'(by omega) = M / 256 ^ (k - 1 - j) % 256 := by
        have h := digF_get 8 M (k - 1 - j) (by omega)
        rw [List.getElem_reverse]
        rw [List.getElem?_eq_getElem (by omega)] at h
        simp only [c1]
        exact Option.some.inj h
      rw [hgt] at hsc
      have hu := u8_mod (M / 256 ^ (k - 1 - j))
      have hx := xor_none (M / 256 ^ (k - 1 - j) % 256) (Nat.mod_lt _ (by decide))
      rw [← c3] at hx
      obtain ⟨D, hD⟩ : ∃ D, D = M / 256 ^ (k - 1 - j) := ⟨_, rfl⟩
      rw [← hD] at hsh hu hx hsc
      obtain ⟨D2, hD2⟩ : ∃ D2, D2 = D % 256 := ⟨_, rfl⟩
      rw [← hD2] at hu hx hsc
      simp at hx
      have htk2 := outB_take (hd := 128 + k) (L := (digF 8 M).reverse) (j := j) (by omega)
      have hln2 := outB_len (hd := 128 + k) (L := (digF 8 M).reverse) (j := j) (by omega)
      refine LWp.rz hT hW ?_
      simp [hix, hsh, hu, hx, htk2, hln2]
      refine ⟨by omega, ?_⟩
      refine LWp.rz hT hW ?_
      simp
      refine ⟨by omega, ?_⟩
      refine loopQ.mk (j + 1) (Weak.to [3, 4, 6, 7] [(45, 6)] (by decide) (by decide) (by simp [hp]) (by simp [show ((k - 1 - j : Nat) : Int) - 1 = (k : Int) - 1 - ((j : Int) + 1) by omega]) (by simp [hsc, bD])) ?_ ?_
      · omega
      · omega
    · refine LWp.exit ?_
      simp
      refine LWp.seq ?_
      refine LWp.rz hT hW ?_
      simp
      refine LWp.ret ?_
      have hj : j = k := by omega
      subst hj
      have hlr : (digF 8 M).reverse.length = j := by rw [List.length_reverse]; exact c1
      have hln2 := outB_len (hd := 128 + j) (L := (digF 8 M).reverse) (j := j) (by omega)
      have htk2 := outB_take (hd := 128 + j) (L := (digF 8 M).reverse) (j := j) (by omega)
      rw [hE, c1, ← outB_all (hd := 128 + j) (L := (digF 8 M).reverse) (j := j) (by omega)]
      simp [hln2, htk2]
      intro x hx c hc
      obtain ⟨y, _, rfl⟩ := List.mem_map.1 hx
      simp [bD, cellsD] at hc
      subst hc
      rfl
end
open Go.Proofs
section
attribute [local simp] Res.cond
theorem WIntN_ok (n : Int) (hn : n < 0) (h : I64R n) : Ok Tryz.prog 84 [I64 n] ⟨.own 1 ((intE n).map bD), true⟩ := by
  refine Ok.ret Tryz.func84 (by kernel_rfl) (c := _) rfl Tryz.ntmps84 (by simp) Tryz.results84 (by intro _ h; cases h) fun w0 X hp => ?_
  have hlt := absE_lt h
  have habs : (absE n : Int) = -1 - n := by unfold absE; rw [if_pos hn]; omega
  have hE : intE n = (127 - (digF 8 (absE n)).length) :: ((digF 8 (absE n)).map (fun d => 255 - d)).reverse := by unfold intE; rw [if_pos hn]; simp [hn]
  have hdl := digF_lt 8 (absE n)
  obtain ⟨h1, h2⟩ := h
  obtain ⟨M, hM⟩ : ∃ M, M = absE n := ⟨_, rfl⟩
  rw [← hM] at habs hlt hE hdl
  refine LWp.seq ?_
  refine LWp.rz hT hW ?_
  simp
  refine LWp.scope ?_
  refine LWp.seq ?_
  refine LWp.rz hT hW ?_
  simp
  refine LWp.seq ?_
  refine LWp.seq ?_
  refine LWp.rz hT hW ?_
  simp
  refine LWp.iff ?_
  simp [hn]
  have hcq := compl64 h1 hn
  simp at hcq
  have hcp : IntKind.u64.wrap ((((if IntKind.u64.signed = true then -1 else IntKind.u64.max) % 2 ^ IntKind.u64.bits).toNat ^^^ (IntKind.u64.wrap n % 2 ^ IntKind.u64.bits).toNat : Nat) : Int) = -1 - n := by
    rw [if_neg (by decide), show (2 : Int) ^ IntKind.u64.bits = 18446744073709551616 by rfl]
    exact hcq
  refine LWp.rz hT hW ?_
  simp [hcp]
  refine LWp.seq ?_
  refine LWp.rz hT hW ?_
  simp
  refine LWp.seq ?_
  refine LWp.label ?_
  simp
  refine LWp.seqCut (ι := Nat × Int) (fun ⟨k, fl⟩ => mkEnv [(3, .d (.int .u64 (M : Int))), (4, .d (.int .u8 fl)), (5, .d (I64 k))]) (fun ⟨k, fl⟩ => mkObs []) (fun ⟨k, fl⟩ => (digF 8 M).length = k ∧ k ≤ 8 ∧ fl = 255) ?_ fun ⟨k, fl⟩ hc8 => ?_
  · refine LWp.block ?_
    refine LWp.loopW (ι := Nat) (fun k => mkEnv [(3, .d (.int .u64 (M : Int))), (4, .d (.int .u8 255)), (5, .d (I64 k))]) (fun k => mkObs []) (fun k => k ≤ 8 ∧ M < 256 ^ k) (fun k => k) 8 (Weak.to [3, 4, 5] [] (by decide) (by decide) (by simp [hp]) (by simp [habs]) (by simp)) (⟨Nat.le_refl _, hlt⟩) fun k hi5 => ?_
    refine LWp.seq ?_
    refine LWp.seq ?_
    refine LWp.rz hT hW ?_
    simp
    refine LWp.iff ?_
    simp
    refine ⟨fun h5 => ?_, fun h5 => ?_⟩
    · refine LWp.skip ?_
      simp
      refine LWp.block ?_
      refine LWp.seq ?_
      refine LWp.seq ?_
      have hk0 : 0 < k := by omega
      obtain ⟨i, hi⟩ : ∃ i, k = i + 1 := ⟨k - 1, by omega⟩
      have hi8 : i < 8 := by omega
      have hsh := shr_dig M i hi8
      obtain ⟨D, hD⟩ : ∃ D, D = M / 256 ^ i := ⟨_, rfl⟩
      rw [← hD] at hsh
      have hkm : ((k : Int) - 1) = (i : Int) := by omega
      refine LWp.rz hT hW ?_
      simp [hkm, hsh]
      refine ⟨by omega, ?_⟩
      refine LWp.iff ?_
      simp
      refine ⟨fun h6 => ?_, fun h6 => ?_⟩
      · refine LWp.exit ?_
        simp
        refine cutQ.mk (k, 255) (Weak.to [3, 4, 5] [] (by decide) (by decide) (by simp [hp]) (by simp) (by simp)) ?_
        refine ⟨digF_size 8 M k hi5.2 (.inr ?_) hi5.1, hi5.1, rfl⟩
        subst hi
        have h6' : 0 < M / 256 ^ i := by rw [← hD]; omega
        rw [Nat.add_sub_cancel]
        exact (Nat.le_div_iff_mul_le (Nat.pow_pos (by decide))).1 h6' |> fun h => by simpa using h
      · refine LWp.skip ?_
        simp
        refine LWp.rz hT hW ?_
        simp
        refine ⟨by omega, ?_⟩
        refine loopQ.mk (k - 1) (Weak.to [3, 4, 5] [] (by decide) (by decide) (by simp [hp]) (by simp [show ((k - 1 : Nat) : Int) = (k : Int) - 1 by omega]) (by simp)) ?_ ?_
        · refine ⟨by omega, ?_⟩
          rw [show k - 1 = i by omega]
          have h6' : M / 256 ^ i < 1 := by rw [← hD]; omega
          simpa using (Nat.div_lt_iff_lt_mul (Nat.pow_pos (by decide))).1 h6'
        · omega
    · refine LWp.exit ?_
      simp
      refine cutQ.mk (k, 255) (Weak.to [3, 4, 5] [] (by decide) (by decide) (by simp [hp]) (by simp) (by simp)) ?_
      exact ⟨digF_size 8 M k hi5.2 (.inl (by omega)) hi5.1, hi5.1, rfl⟩
  · refine LWp.seq ?_
    obtain ⟨c1, c2, c3⟩ := hc8
    have hw2 : IntKind.u8.wrap (128 + (k : Int)) = 128 + (k : Int) := u8_wrap (by omega) (by omega)
    have hx := xor_all (128 + k) (by omega)
    rw [← c3] at hx
    rw [show ((128 + k : Nat) : Int) = 128 + (k : Int) by omega, show 255 - (128 + k) = 127 - k by omega] at hx
    simp at hx
    refine LWp.rz hT hW ?_
    simp [hw2, hx]
    refine ⟨by omega, ?_⟩
    refine LWp.seq ?_
    refine LWp.seq ?_
    refine LWp.rz hT hW ?_
    simp
    refine ⟨by omega, ?_⟩
    refine LWp.block ?_
    refine LWp.loopW (ι := Nat) (fun j => mkEnv [(3, .d (.int .u64 (M : Int))), (4, .d (.int .u8 fl)), (6, .ow 6 0 (j + 1)), (7, .d (I64 ((k : Int) - 1 - (j : Int))))]) (fun j => mkObs [(6, .row false 1 (outB (127 - k) ((digF 8 M).map (fun d => 255 - d)).reverse j))]) (fun j => j ≤ k) (fun j => k - j) 0 (Weak.to [3, 4, 6, 7] [(29, 6)] (by decide) (by decide) (by simp [hp]) (by simp) (by simp [bD, outB_zero])) (Nat.zero_le _) fun j hi10 => ?_
    refine LWp.seq ?_
    refine LWp.seq ?_
    refine LWp.rz hT hW ?_
    simp
    refine LWp.iff ?_
    simp
    refine ⟨fun h10 => ?_, fun h10 => ?_⟩
    · refine LWp.skip ?_
      simp
      refine LWp.seq ?_
      refine LWp.block ?_
      have hj : j < k := by omega
      have hix : (k : Int) - 1 - (j : Int) = ((k - 1 - j : Nat) : Int) := by omega
      have hsh := shr_dig M (k - 1 - j) (by omega)
      have hlr : ((digF 8 M).map (fun d => 255 - d)).reverse.length = k := by rw [List.length_reverse, List.length_map]; exact c1
      have hsc := outB_succ (hd := 127 - k) (L := ((digF 8 M).map (fun d => 255 - d)).reverse) (j := j) (by omega)
      have hgt : ((digF 8 M).map (fun d => 255 - d)).reverse[j]'(by omega) = 255 - M / 256 ^ (k - 1 - j) % 256 := by
        have h := digF_get 8 M (k - 1 - j) (by omega)
        rw [List.getElem_reverse, List.getElem_map]
        rw [List.getElem?_eq_getElem (by omega)] at h
        simp only [List.length_map, c1]
        rw [Option.some.inj h]
      rw [hgt] at hsc
      have hu := u8_mod (M / 256 ^ (k - 1 - j))
      have hx := xor_all (M / 256 ^ (k - 1 - j) % 256) (Nat.mod_lt _ (by decide))
      rw [← c3] at hx
      obtain ⟨D, hD⟩ : ∃ D, D = M / 256 ^ (k - 1 - j) := ⟨_, rfl⟩
      rw [← hD] at hsh hu hx hsc
      obtain ⟨D2, hD2⟩ : ∃ D2, D2 = D % 256 := ⟨_, rfl⟩
      rw [← hD2] at hu hx hsc
      simp at hx
      have htk2 := outB_take (hd := 127 - k) (L := ((digF 8 M).map (fun d => 255 - d)).reverse) (j := j) (by omega)
      have hln2 := outB_len (hd := 127 - k) (L := ((digF 8 M).map (fun d => 255 - d)).reverse) (j := j) (by omega)
      refine LWp.rz hT hW ?_
      simp [hix, hsh, hu, hx, htk2, hln2]
      refine ⟨by omega, ?_⟩
      refine LWp.rz hT hW ?_
      simp
      refine ⟨by omega, ?_⟩
      refine loopQ.mk (j + 1) (Weak.to [3, 4, 6, 7] [(45, 6)] (by decide) (by decide) (by simp [hp]) (by simp [show ((k - 1 - j : Nat) : Int) - 1 = (k : Int) - 1 - ((j : Int) + 1) by omega]) (by simp [hsc, bD])) ?_ ?_
      · omega
      · omega
    · refine LWp.exit ?_
      simp
      refine LWp.seq ?_
      refine LWp.rz hT hW ?_
      simp
      refine LWp.ret ?_
      have hj : j = k := by omega
      subst hj
      have hlr : ((digF 8 M).map (fun d => 255 - d)).reverse.length = j := by rw [List.length_reverse, List.length_map]; exact c1
      have hln2 := outB_len (hd := 127 - j) (L := ((digF 8 M).map (fun d => 255 - d)).reverse) (j := j) (by omega)
      have htk2 := outB_take (hd := 127 - j) (L := ((digF 8 M).map (fun d => 255 - d)).reverse) (j := j) (by omega)
      rw [hE, c1, ← outB_all (hd := 127 - j) (L := ((digF 8 M).map (fun d => 255 - d)).reverse) (j := j) (by omega)]
      simp [hln2, htk2]
      intro x hx c hc
      obtain ⟨y, _, rfl⟩ := List.mem_map.1 hx
      simp [bD, cellsD] at hc
      subst hc
      rfl
theorem WInt_ok (n : Int) (h : I64R n) : Ok Tryz.prog 84 [I64 n] ⟨.own 1 ((intE n).map bD), true⟩ := by
  rcases Int.lt_or_le n 0 with q | q
  · exact WIntN_ok n q h
  · exact WIntP_ok n q h
end
open Go.Proofs
section
attribute [local simp] Res.cond
theorem WInts_ok (l : List Int) (hl : l.length ≤ 1000000) (hr : ∀ n ∈ l, I64R n) : Ok Tryz.prog 85 [.sl (l.map I64)] ⟨.own 1 ((intsE l).map bD), true⟩ := by
  refine Ok.ret Tryz.func85 (by kernel_rfl) (c := _) rfl Tryz.ntmps85 (by simp) Tryz.results85 (by intro _ h; cases h) fun w0 X hp => ?_
  refine LWp.seq ?_
  refine LWp.rz hT hW ?_
  simp
  refine LWp.seq ?_
  refine LWp.ro hT hW (fun | 8 => some <| .plain ⟨.own 1 ((intE l.length).map bD), true⟩ | _ => none) ?_
  simp
  refine ⟨WInt_ok _ (len_R (by omega)), ?_⟩
  refine LWp.seq ?_
  refine LWp.seq ?_
  refine LWp.rz hT hW ?_
  simp
  refine LWp.block ?_
  refine LWp.loopW (ι := Nat) (fun k => mkEnv [(3, .ow 3 0 (outS l k).length), (9, .d (.sl (l.map I64))), (10, .d (I64 l.length)), (11, .d (I64 k))]) (fun k => mkObs [(3, .row false 1 ((outS l k).map bD))]) (fun k => k ≤ l.length) (fun k => l.length - k) 0 (Weak.to [3, 9, 10, 11] [(8, 3)] (by decide) (by decide) (by simp [hp]) (by simp [outS_zero]) (by simp [outS_zero])) (Nat.zero_le _) fun k hi3 => ?_
  refine LWp.seq ?_
  refine LWp.rz hT hW ?_
  simp
  refine LWp.seq ?_
  refine LWp.iff ?_
  simp
  refine ⟨fun h3 => ?_, fun h3 => ?_⟩
  · refine LWp.skip ?_
    simp
    refine LWp.seq ?_
    refine LWp.block ?_
    refine LWp.seq ?_
    have hk : k < l.length := by omega
    refine LWp.rz hT hW ?_
    simp [hk]
    have hk : k < l.length := by omega
    have hb1 := outS_len (l := l) (k := k) (by omega)
    have hb2 := intE_len l[k]
    have k1 := WInt_ok l[k] (hr _ (List.getElem_mem hk))
    have htk : List.take (outS l k).length ((outS l k).map bD) = (outS l k).map bD := List.take_of_length_le (by simp)
    refine LWp.ro hT hW (fun | 17 => some <| .plain ⟨.own 1 ((intE l[k]).map bD), true⟩ | _ => none) ?_
    simp [hk, htk]
    refine ⟨⟨by exact k1, fun _ _ => rfl, by omega⟩, ?_⟩
    refine LWp.rz hT hW ?_
    simp
    refine ⟨by omega, ?_⟩
    refine loopQ.mk (k + 1) (Weak.to [3, 9, 10, 11] [(18, 3)] (by decide) (by decide) (by simp [hp]) (by simp [outS_succ hk]) (by simp [outS_succ hk])) ?_ ?_
    · omega
    · omega
  · refine LWp.exit ?_
    simp
    refine LWp.seq ?_
    refine LWp.rz hT hW ?_
    simp
    refine LWp.ret ?_
    have hk : k = l.length := by omega
    subst hk
    rw [outS_all]
    simp
    intro x hx c hc
    simp [bD, cellsD] at hc
    subst hc
    rfl
theorem hEncode_ok (h : Hs) (hl : h.length ≤ 100000) (hf : (cat h).length ≤ 100000) (hr : ∀ c ∈ h, IsR (flatN c)) : Ok Tryz.prog 38 [cmD h] ⟨.own 1 ((encH h).map bD), true⟩ := by
  refine Ok.ret Tryz.func38 (by kernel_rfl) (c := _) rfl Tryz.ntmps38 (by simp) Tryz.results38 (by intro _ h; cases h) fun w0 X hp => ?_
  refine LWp.seq ?_
  refine LWp.rz hT hW ?_
  simp [cmD]
  refine LWp.seq ?_
  refine LWp.ro hT hW (fun | 12 => some <| .plain ⟨.own 1 ((intE h.length).map bD), true⟩ | _ => none) ?_
  simp
  refine ⟨by simpa using WInt_ok _ (len_R (n := h.length) (by omega)), ?_⟩
  refine LWp.seq ?_
  refine LWp.seq ?_
  refine LWp.rz hT hW ?_
  simp
  refine LWp.block ?_
  refine LWp.loopW (ι := Nat) (fun i => mkEnv [(3, .ow 3 0 (outH h i).length), (14, .d (.sl (h.map nmsD))), (15, .d (I64 h.length)), (16, .d (I64 i))]) (fun i => mkObs [(3, .row false 1 ((outH h i).map bD))]) (fun i => i ≤ h.length) (fun i => h.length - i) 0 (Weak.to [3, 14, 15, 16] [(12, 3)] (by decide) (by decide) (by simp [hp]) (by simp [outH_zero]) (by simp [outH_zero])) (Nat.zero_le _) fun i hi3 => ?_
  refine LWp.seq ?_
  refine LWp.rz hT hW ?_
  simp
  refine LWp.seq ?_
  refine LWp.iff ?_
  simp
  refine ⟨fun h3 => ?_, fun h3 => ?_⟩
  · refine LWp.skip ?_
    simp
    refine LWp.seq ?_
    refine LWp.block ?_
    refine LWp.seq ?_
    have hi : i < h.length := by omega
    refine LWp.rz hT hW ?_
    simp [hi]
    refine LWp.seq ?_
    refine LWp.rz hT hW ?_
    simp
    refine LWp.seq ?_
    refine LWp.seq ?_
    refine LWp.rz hT hW ?_
    simp
    refine LWp.block ?_
    refine LWp.loopW (ι := Nat) (fun j => mkEnv [(3, .ow 3 0 (outH h i).length), (6, .ow 6 0 (2 * j)), (14, .d (.sl (h.map nmsD))), (15, .d (I64 h.length)), (16, .d (I64 i)), (20, .d (nmsD h[i])), (21, .d (I64 h[i].length)), (22, .d (I64 j))]) (fun j => mkObs [(3, .row false 1 ((outH h i).map bD)), (6, .row false 1 ((flatT h[i] j).map I64))]) (fun j => j ≤ h[i].length) (fun j => h[i].length - j) 0 (Weak.to [3, 6, 14, 15, 16, 20, 21, 22] [(3, 3), (6, 6)] (by decide) (by decide) (by simp [hp]) (by simp) (by simp [flatT_zero])) (Nat.zero_le _) fun j hi7 => ?_
    refine LWp.seq ?_
    refine LWp.rz hT hW ?_
    simp
    refine LWp.seq ?_
    refine LWp.iff ?_
    simp
    refine ⟨fun h7 => ?_, fun h7 => ?_⟩
    · refine LWp.skip ?_
      simp
      refine LWp.seq ?_
      refine LWp.block ?_
      refine LWp.seq ?_
      have hj : j < h[i].length := by omega
      refine LWp.rz hT hW ?_
      simp [hj]
      have hln := flatT_len (c := h[i]) (k := j) (by omega)
      have hb2 := cat_le hi
      have hb3 := cat_tot (h := h) (i + 1)
      have htk : List.take (2 * j) ((flatT h[i] j).map I64) = (flatT h[i] j).map I64 := List.take_of_length_le (by simp [hln])
      refine LWp.rz hT hW ?_
      simp [hj, htk]
      refine ⟨by refine ⟨?_, ?_⟩ <;> first | omega | (intros; rfl) | skip, ?_⟩
      refine LWp.rz hT hW ?_
      simp
      refine ⟨by omega, ?_⟩
      refine loopQ.mk (j + 1) (Weak.to [3, 6, 14, 15, 16, 20, 21, 22] [(3, 3), (32, 6)] (by decide) (by decide) (by simp [hp]) (by simp [show 2 * j + 2 = 2 * (j + 1) by omega]) (by simp [flatT_succ hj])) ?_ ?_
      · omega
      · omega
    · refine LWp.exit ?_
      simp
      have hj : j = h[i].length := by omega
      subst hj
      have hb1 := outH_len (h := h) (i := i) (by omega)
      have hb2 := cat_le hi
      have hb3 := cat_tot (h := h) (i + 1)
      have hb4 := flatT_len (c := h[i]) (Nat.le_refl _)
      rw [flatT_all] at hb4
      have hb5 := intsE_len (l := flatN h[i])
      have k2 := WInts_ok (flatN h[i]) (by omega) (hr _ (List.getElem_mem hi)).2
      have htk : List.take (outH h i).length ((outH h i).map bD) = (outH h i).map bD := List.take_of_length_le (by simp)
      have htk3 : List.take (2 * h[i].length) ((flatT h[i] h[i].length).map I64) = (flatN h[i]).map I64 := by rw [flatT_all]; exact List.take_of_length_le (by simp [hb4])
      refine LWp.ro hT hW (fun | 36 => some <| .plain ⟨.own 1 ((intsE (flatN h[i])).map bD), true⟩ | _ => none) ?_
      simp [htk, htk3]
      refine ⟨⟨by simpa using k2, fun _ _ => rfl, by omega⟩, ?_⟩
      refine LWp.rz hT hW ?_
      simp
      refine ⟨by omega, ?_⟩
      refine loopQ.mk (i + 1) (Weak.to [3, 14, 15, 16] [(37, 3)] (by decide) (by decide) (by simp [hp]) (by simp [outH_succ hi]) (by simp [outH_succ hi])) ?_ ?_
      · omega
      · omega
  · refine LWp.exit ?_
    simp
    refine LWp.seq ?_
    refine LWp.rz hT hW ?_
    simp
    refine LWp.ret ?_
    have hi : i = h.length := by omega
    subst hi
    rw [outH_all]
    simp
    intro x hx c hc
    simp [bD, cellsD] at hc
    subst hc
    rfl
end
end Go.Eng
namespace Go.Eng
def NmR (n : Nm) : Prop := I64R n.who ∧ I64R n.seq
def HN (h : Hs) : Prop := ∀ c ∈ h, ∀ n ∈ c, NmR n
theorem flatN_len : ∀ c : List Nm, (flatN c).length = 2 * c.length
  | [] => rfl
  | n :: c => by
    have := flatN_len c
    simp only [flatN, List.flatMap_cons, List.length_append, List.length_cons, List.length_nil] at this ⊢
    omega
theorem flat_R {c : List Nm} (hl : c.length ≤ 1000000) (h : ∀ n ∈ c, NmR n) : IsR (flatN c) := by
  refine ⟨by rw [flatN_len]; omega, fun n hn => ?_⟩
  obtain ⟨x, hx, hn⟩ := List.mem_flatMap.1 hn
  simp only [List.mem_cons, List.not_mem_nil, or_false] at hn
  rcases hn with rfl | rfl
  · exact (h x hx).1
  · exact (h x hx).2
theorem valid_names {l : List Ed} {h : Hs} (hv : (validH l h).2 = 0) {c : List Nm} (hc : c ∈ h) {n : Nm} (hn : n ∈ c) : n ∈ l.map Ed.name := by
  obtain ⟨i, hi, rfl⟩ := List.mem_iff_getElem.1 hc
  have hb : badAt l h i = 0 := by
    unfold validH at hv
    split at hv
    · rename_i h1; exact absurd hv h1
    · split at hv
      · simp at hv
      · split at hv
        · rename_i j hj
          have := List.find?_some hj
          simp only [ne_eq, decide_not, Bool.not_eq_true', decide_eq_false_iff_not] at this
          exact absurd hv this
        · rename_i hj
          rw [List.find?_eq_none] at hj
          have := hj i (List.mem_range.2 hi)
          simpa using this
  rw [badAt_get hi] at hb
  have hf : h[i].any (fun n => decide (findI l n < 0)) = false := by
    unfold orderC at hb
    split at hb
    · simp at hb
    · split at hb
      · simp at hb
      · rename_i h2; simpa using h2
  rw [List.any_eq_false] at hf
  have := hf n hn
  exact found_iff.1 (by simpa using this)
theorem line_names {l : List Ed} {set : List Nm} {c : List Nm} (hc : c ∈ (lineV l set).1) {n : Nm} (hn : n ∈ c) : n ∈ l.map Ed.name := by
  by_cases h1 : (orderV l set).2 = 0
  · by_cases h2 : (orderV l set).1.length ≤ 32
    · rw [lineV_3 h1 h2] at hc
      obtain ⟨m, hm, rfl⟩ := List.mem_map.1 hc
      obtain rfl := List.mem_singleton.1 hn
      unfold orderV at hm h1
      by_cases q : (validV l).2 = 0
      · rw [if_neg (by simp [q])] at hm
        by_cases hcl : closedB l set = false
        · rw [if_pos hcl] at hm; cases hm
        · rw [if_neg hcl] at hm
          have hcl' : closedB l set = true := by simpa using hcl
          have := (orderN_perm q hcl').mem_iff.1 hm
          exact (found_iff.1 (closedB_iff.1 hcl' n (((sortN_spec set).2 n).1 this)).1)
      · rw [if_pos q] at hm; cases hm
    · rw [lineV_2 h1 (by omega)] at hc; cases hc
  · rw [lineV_1 h1] at hc; cases hc
theorem made25_names (l : List Ed) (m : List Int) : ∀ i, ∀ c ∈ madeTo25 l m i, ∀ n ∈ c, n ∈ l.map Ed.name
  | 0 => fun c hc n hn => line_names hc hn
  | i + 1 => by
    have ih := made25_names l m i
    intro c hc n hn
    simp only [madeTo25, stepH] at hc
    generalize atL m (2 + (i : Nat)) 1048576 = q at hc
    generalize madeTo25 l m i = h at hc ih
    split at hc
    · by_cases h1 : (validH l h).2 = 0
      · by_cases h2 : fitsC l h (sk q) (sa h q) (sn h q) (snm l h q) = 0
        · by_cases h3 : (validH l (actH h (sk q) (sa h q) (sn h q) (snm l h q))).2 = 0
          · rw [doV_4 h1 h2 h3] at hc; exact valid_names h3 hc hn
          · rw [doV_3 h1 h2 h3] at hc; cases hc
        · rw [doV_2 h1 h2] at hc; cases hc
      · rw [doV_1 h1] at hc; cases hc
    · exact ih c hc n hn
theorem madeL_R {l : List Int} {n : Nm} (hn : n ∈ (madeL l).map Ed.name) : NmR n := by
  obtain ⟨e, he, rfl⟩ := List.mem_map.1 hn
  obtain ⟨i, hi, rfl⟩ := madeTo_mem he
  have := (atL_range l 0 7 (by decide)).2
  have h3 := tmod_lt (atL l (1 + 3 * i) 4096) 3 (by decide)
  have h8 := tmod_lt ((atL l (1 + 3 * i) 4096).tdiv 3) 8 (by decide)
  refine ⟨⟨?_, ?_⟩, ?_, ?_⟩ <;> simp only [madeE] <;> omega
theorem made_HN (l m : List Int) : HN (madeH (madeL l) m) := fun c hc n hn => madeL_R (made25_names _ _ _ c hc n hn)
theorem odd_R (b : Int) : NmR (oddH b) := by
  have h5 := tmod_lt b 5 (by decide)
  have h9 := tmod_lt b 9 (by decide)
  refine ⟨⟨?_, ?_⟩, ?_, ?_⟩ <;> simp only [oddH] <;> omega
theorem spoil_HN {h : Hs} (hh : HN h) (how b : Int) : HN (spoilH h how b) := by
  unfold spoilH
  generalize (around b (max h.length 1 : Nat)).toNat = k
  generalize around how 6 = c
  have hodd := odd_R b
  have app : ∀ t : List Nm, (∀ n ∈ t, NmR n) → HN (h ++ [t]) := fun t ht s hs => by
    rcases List.mem_append.1 hs with hs | hs
    · exact hh s hs
    · rw [List.mem_singleton.1 hs]; exact ht
  have set : ∀ (g : Hs) (i : Nat) (t : List Nm), HN g → (∀ n ∈ t, NmR n) → HN (g.set i t) := fun g i t hg ht s hs => by
    rcases List.mem_or_eq_of_mem_set hs with hs | rfl
    · exact hg s hs
    · exact ht
  unfold spoilK
  split
  · exact app _ fun n hn => by rw [List.mem_singleton.1 hn]; exact hodd
  · split
    · exact app _ fun n hn => by cases hn
    · split
      · rename_i hk
        have hg : h.getD k [] ∈ h := by rw [List.getD_eq_getElem?_getD, List.getElem?_eq_getElem hk]; exact List.getElem_mem hk
        have h0 : h.getD 0 [] ∈ h := by rw [List.getD_eq_getElem?_getD, List.getElem?_eq_getElem (show 0 < h.length by omega)]; exact List.getElem_mem _
        split
        · refine set _ _ _ hh fun n hn => ?_
          rcases List.mem_append.1 hn with hn | hn
          · exact hh _ hg n hn
          · rw [List.mem_singleton.1 hn]; exact hodd
        · split
          · exact app _ (hh _ hg)
          · split
            · exact set _ _ _ (set _ _ _ hh (hh _ hg)) (hh _ h0)
            · intro s hs
              rcases List.mem_append.1 hs with hs | hs
              · exact hh s (List.mem_of_mem_take hs)
              · exact hh s (List.mem_of_mem_drop hs)
      · exact hh
def five25 (h h2 : Hs) (how b : Int) : List Hs := [h, spoilH h how b, spoilH (spoilH h how b) b how, h2, []]
theorem five25_ok {l : List Int} {m n : List Int} {how b : Int} {g : Hs} (hg : g ∈ five25 (madeH (madeL l) m) (madeH (madeL l) n) how b) : g.length ≤ 100000 ∧ (cat g).length ≤ 100000 ∧ HsR g := by
  have h0 := made_hb (madeL l) m
  have h1 := spoil_b h0 how b
  have h2 := spoil_b h1 b how
  have h3 := made_hb (madeL l) n
  have n0 := made_HN l m
  have n1 := spoil_HN n0 how b
  have n2 := spoil_HN n1 b how
  have n3 := made_HN l n
  have key : ∀ {g : Hs} {p B : Nat}, HB g p B → p * B ≤ 100000 → p ≤ 100000 → B ≤ 100000 → HN g → g.length ≤ 100000 ∧ (cat g).length ≤ 100000 ∧ HsR g := fun {g p B} hb q1 q2 q3 hn => by
    have c := hb.cat
    have l := hb.1
    exact ⟨by omega, by omega, by omega, fun c hc => flat_R (by have := hb.2 c hc; omega) (hn c hc)⟩
  simp only [five25, List.mem_cons, List.not_mem_nil, or_false] at hg
  rcases hg with rfl | rfl | rfl | rfl | rfl
  · exact key h0 (by decide) (by decide) (by decide) n0
  · exact key h1 (by decide) (by decide) (by decide) n1
  · exact key h2 (by decide) (by decide) (by decide) n2
  · exact key h3 (by decide) (by decide) (by decide) n3
  · exact ⟨by simp, by simp [cat_nil], by simp, fun c hc => by cases hc⟩
end Go.Eng
namespace Go.Eng
open Go.Proofs
attribute [local simp] runL stepL evalG evalOp opLV constLV putEnv dstOk upd upds Res.plain Res.cond Res.fail evalBin evalUn seqQ blockQ argsEnv lookL lookH RetIs memless freshL evalPick evalMin bval bok evalLen evalIn strip whenC guardOps guardC slotsOf
  runM foldS stepI stepM maskE wrIn lk renO lookN evalCall evalCallee optAll resLV resObj retLV retObj retsLV retsObj evalLoad evalIndexAddr evalField solid cellsD_agg cellsD_int cellsD_bool cellsD_str cellsD_sl cellsD_ro cellsD_fn cellsL_agg cellsL_dagg cellsL_int cellsL_bool cellsL_str cellsL_sl cellsL_fn cellsL_ow cellsL_bx cellsL_lfn cellsL_nl takeL takeD mkAgg allD eqD eqDs kindsAre kindIs LObj.live TK.isNone TK.agg TK.isBool TK.isStr TK.isStruct Op.operands Call.operands
  evalBuildSlice evalAppend elemsOf evalStore evalBuild fillL lookupF putL evalSlice bound evalConv elemsS freezes frozen loadR
  mkEnv_at mkObs_at close_d close_agg close_ow close_bx close_fn close_nl touch_d touch_agg touch_ow touch_bx touch_fn touch_nl ren_d ren_agg ren_bx ren_rp ren_ow ren_fn ren_nl ren_junk retQ_ret retQ2_ret condQ_bool Nm.d Df.d Ed.d nmsD dfsD strsD edsD retC_ret nm_eq df_eq take_map_len take_map_app
  nm_t nm_d nm_td df_t df_d df_td str_t str_d str_td ed_t ed_d ed_td
  evalAppendIn evalBuildSliceC evalCopyC shortL evalApart evalAppendC evalAppendZ evalAppendG evalCapC isOc TK.isInt close_oc touch_oc ren_oc cellsL_oc evalCut evalClear evalCopy evalMake evalWrap evalCap evalNil isNilC lenL isInp gorc gorc2
  mapOf findD keyEq keyOk evalMakeMap evalRange zeroD zeroDV argsG shutG outN lenv retG0_ret retG0_normal retG1_ret retGR_ret renO close_mp touch_mp ren_mp optAll_d optAll_d' touch_ds cellsL_mp cellsD_mp cellsL_dmp
  evalMapSet evalPtr TK.isPtr evalToArr firstL retN_ret retsQ rvarL close_bm touch_bm ren_bm cellsD_bm cellsL_bm cellsL_lbm
section
attribute [local simp] Res.cond
theorem hx_sameB (a : List Nat) : Ok Tryz.prog 37 [.sl (a.map bD), .sl (a.map bD)] ⟨.d (.bool true), true⟩ := by
  have := SameB_ok a a
  rwa [decide_eq_true rfl] at this
theorem hx_enc {a b : Hs} (ha : HsR a) (hb : HsR b) : Ok Tryz.prog 37 [.sl ((encH a).map bD), .sl ((encH b).map bD)] ⟨.d (.bool (decide (a = b))), true⟩ := by
  have := SameB_ok (encH a) (encH b)
  rwa [decide_eq_decide.2 (encH_inj ha hb)] at this
set_option maxRecDepth 4000 in
theorem HistoryEncodes_ok (l m n : List Int) (how b : Int) (hr : ∀ n ∈ l, -9223372036854775808 ≤ n ∧ n ≤ 9223372036854775807) (hm : ∀ n ∈ m, -9223372036854775808 ≤ n ∧ n ≤ 9223372036854775807) (hn : ∀ q ∈ n, -9223372036854775808 ≤ q ∧ q ≤ 9223372036854775807) (q3 : -9223372036854775808 ≤ how) (q4 : how ≤ 9223372036854775807) (q1 : -9223372036854775808 ≤ b) (q2 : b ≤ 9223372036854775807) : Ok Tryz.prog 6 [.sl (l.map I64), .sl (m.map I64), .sl (n.map I64), I64 how, I64 b] ⟨.d (.bool true), true⟩ := by
  refine Ok.ret Tryz.func6 (by kernel_rfl) (c := _) rfl Tryz.ntmps6 (by simp) Tryz.results6 (by intro _ h; cases h) fun w0 X hp => ?_
  have hL1 := made_needs l
  have hL2 := madeL_len l
  have hL3 := made_small l
  have b0 := made_hb (madeL l) m
  have b1 := spoil_b b0 how b
  have c0 := b0.cat
  have c1 := b1.cat
  have l0 := b0.1
  have l1 := b1.1
  have k1 := Made_ok l hr
  have k2 := Made25_ok (madeL l) m hL3 (by omega) (by omega) hm
  have k2n := Made25_ok (madeL l) n hL3 (by omega) (by omega) hn
  have k3 := Spoilt25_ok (madeH (madeL l) m) how b (by omega) (by omega) q1 q2 q3 q4
  have k4 := Spoilt25_ok (spoilH (madeH (madeL l) m) how b) b how (by omega) (by omega) q3 q4 q1 q2
  have hA0 : ∀ g ∈ five25 (madeH (madeL l) m) (madeH (madeL l) n) how b, g.length ≤ 100000 ∧ (cat g).length ≤ 100000 ∧ HsR g := fun g hg => five25_ok hg
  obtain ⟨X0, hX0⟩ : ∃ X0, X0 = madeL l := ⟨_, rfl⟩
  obtain ⟨h0, hh0⟩ : ∃ h0, h0 = madeH (madeL l) m := ⟨_, rfl⟩
  obtain ⟨h2, hh2⟩ : ∃ h2, h2 = madeH (madeL l) n := ⟨_, rfl⟩
  rw [← hh0] at k2 k3 k4 hA0
  rw [← hh2] at k2n hA0
  rw [← hX0] at k1 k2 k2n
  obtain ⟨A, hA⟩ : ∃ A, A = five25 h0 h2 how b := ⟨_, rfl⟩
  rw [← hA] at hA0
  have hA5 : A.length = 5 := by rw [hA]; rfl
  refine LWp.seq ?_
  refine LWp.rz hT hW ?_
  simp
  refine LWp.seq ?_
  refine LWp.ro hT hW (fun | 19 => some <| .plain ⟨.d (edsD X0), false⟩ | _ => none) ?_
  simp
  refine ⟨by simpa using k1, ?_⟩
  refine LWp.seq ?_
  refine LWp.ro hT hW (fun | 22 => some <| .plain ⟨.d (cmD h0), false⟩ | _ => none) ?_
  simp [cmD]
  refine ⟨by simpa [cmD] using k2, ?_⟩
  refine LWp.seq ?_
  refine LWp.ro hT hW (fun | 26 => some <| .plain ⟨.d (cmD (spoilH h0 how b)), false⟩ | _ => none) ?_
  simp [cmD]
  refine ⟨by simpa [cmD] using k3, ?_⟩
  refine LWp.seq ?_
  refine LWp.regAny hT hW hMixed (lk [[],[],[],[],[],[2,3,4],[],[],[2,3,4,5,6,7],[],[0,1,2,3,4,5,6,7,8,9],[0,1,2,3,4,5,6,7,8,9,10]]) (lk [[32,35],[32,35],[],[],[],[],[32],[32],[],[32,35],[],[]]) (lk [[],[],[],[],[],[32],[],[],[35],[],[37],[]]) (by kernel_rfl) (fun | 32 => some <| .plain ⟨.d (cmD (spoilH (spoilH h0 how b) b how)), false⟩ | 35 => some <| .plain ⟨.d (cmD h2), false⟩ | _ => none) (by intro d; first | exact ⟨rfl, fun _ h => h⟩ | (split <;> exact ⟨rfl, fun _ h => h⟩)) ?_
  simp [cmD]
  refine ⟨⟨⟨by simpa [cmD] using k4, by simpa [cmD] using k2n⟩, by decide⟩, ?_⟩
  refine LWp.weak (Weak.close 14 (x := .sl (A.map cmD)) (by simp [hA, five25, cmD])) ?_
  simp
  refine LWp.seq ?_
  refine LWp.seq ?_
  refine LWp.weak (Weak.shrink [14] [] (by decide) (by decide) (by simp [hp])) ?_
  simp
  refine LWp.rz hT hW ?_
  simp
  refine LWp.block ?_
  refine LWp.loopW (ι := Nat) (fun i => mkEnv [(14, .d (.sl (A.map cmD))), (15, .d (I64 i))]) (fun i => mkObs []) (fun i => i ≤ 5) (fun i => 5 - i) 0 (Weak.to [14, 15] [] (by decide) (by decide) (by simp [hp]) (by simp) (by simp)) (Nat.zero_le _) fun i hi6 => ?_
  refine LWp.seq ?_
  refine LWp.seq ?_
  refine LWp.rz hT hW ?_
  simp [hA5]
  refine LWp.iff ?_
  simp
  refine ⟨fun h6 => ?_, fun h6 => ?_⟩
  · refine LWp.skip ?_
    simp
    refine LWp.seq ?_
    refine LWp.block ?_
    refine LWp.seq ?_
    refine LWp.seq ?_
    have p1 : i < A.length := by omega
    have pa := hA0 _ (List.getElem_mem p1)
    have k8 := own_ok A[i]
    have k6 := hEncode_ok A[i] pa.1 pa.2.1 pa.2.2.2
    have k7 := Encode25_ok A[i] pa.1 pa.2.1 pa.2.2.2
    have k9 := hx_sameB (encH A[i])
    refine LWp.regAny hT hW hMixed (lk [[],[],[0,1],[0,1,2],[0,1,2,3],[0,1,2,3,4],[],[],[6,7],[6,7,8],[0,1,2,3,4,5,6,7,8,9],[0,1,2,3,4,5,6,7,8,9,10],[0,1,2,3,4,5,6,7,8,9,10,11]]) (lk [[],[],[],[],[],[],[48,49],[48,49],[48,49],[48,49],[],[],[]]) (lk [[],[],[],[],[48],[49],[],[],[],[],[54],[55],[]]) (by kernel_rfl) (fun | 48 => some <| .plain ⟨.d (cmD A[i]), false⟩ | 49 => some <| .plain ⟨.own 1 ((encH A[i]).map bD), true⟩ | 54 => some <| .plain ⟨.own 1 ((encH A[i]).map bD), true⟩ | 55 => some <| .plain ⟨.d (.bool true), true⟩ | _ => none) (by intro d; first | exact ⟨rfl, fun _ h => h⟩ | (split <;> exact ⟨rfl, fun _ h => h⟩)) ?_
    simp [p1, cmD]
    refine ⟨⟨⟨⟨by exact k8, by exact k6⟩, by exact k7⟩, by simpa using k9⟩, ?_⟩
    refine LWp.iff ?_
    simp
    refine LWp.skip ?_
    simp
    refine LWp.seq ?_
    refine LWp.rz hT hW ?_
    simp
    refine LWp.block ?_
    refine LWp.loopW (ι := Nat) (fun j => mkEnv [(14, .d (.sl (A.map cmD))), (15, .d (I64 i)), (16, .d (I64 j))]) (fun j => mkObs []) (fun j => j ≤ 5) (fun j => 5 - j) 0 (Weak.to [14, 15, 16] [] (by decide) (by decide) (by simp [hp]) (by simp) (by simp)) (Nat.zero_le _) fun j hi11 => ?_
    refine LWp.seq ?_
    refine LWp.seq ?_
    refine LWp.rz hT hW ?_
    simp [hA5]
    refine LWp.iff ?_
    simp
    refine ⟨fun h11 => ?_, fun h11 => ?_⟩
    · refine LWp.skip ?_
      simp
      refine LWp.seq ?_
      refine LWp.block ?_
      refine LWp.seq ?_
      have p1 : i < A.length := by omega
      have p2 : j < A.length := by omega
      have pa := hA0 _ (List.getElem_mem p1)
      have pb := hA0 _ (List.getElem_mem p2)
      have k8 := own_ok A[i]
      have k9 := own_ok A[j]
      have k10 := hSame_ok A[i] A[j]
      have k11 := Same25_ok A[i] A[j]
      have k12 := hx_enc pa.2.2 pb.2.2
      obtain ⟨bq, hbq⟩ : ∃ bq, bq = decide (A[i] = A[j]) := ⟨_, rfl⟩
      rw [← hbq] at k10 k11 k12
      have k6 := hEncode_ok A[i] pa.1 pa.2.1 pa.2.2.2
      have k7 := hEncode_ok A[j] pb.1 pb.2.1 pb.2.2.2
      refine LWp.regAny hT hW hMixed (lk [[],[],[0,1],[0,1,2],[0,1,2,3],[],[],[5,6],[5,6,7],[0,1,2,3,4,5,6,7,8],[0,1,2,3,4,5,6,7,8,9],[0,1,2,3,4,5,6,7,8,9,10]]) (lk [[],[],[],[],[],[67],[67],[67],[67],[],[],[]]) (lk [[],[],[],[],[67],[],[],[],[],[72],[73],[]]) (by kernel_rfl) (fun | 67 => some <| .plain ⟨.d (cmD A[i]), false⟩ | 72 => some <| .plain ⟨.d (cmD A[j]), false⟩ | 73 => some <| .plain ⟨.d (.bool bq), true⟩ | _ => none) (by intro d; first | exact ⟨rfl, fun _ h => h⟩ | (split <;> exact ⟨rfl, fun _ h => h⟩)) ?_
      simp [p1, p2, cmD]
      refine ⟨⟨⟨by exact k8, by exact k9⟩, by exact k10⟩, ?_⟩
      refine LWp.seq ?_
      refine LWp.weak (Weak.shrink [14, 15, 16, 17] [] (by decide) (by decide) (by simp [hp])) ?_
      simp
      refine LWp.regAny hT hW hMixed (lk [[],[],[],[1,2],[1,2,3],[],[],[5,6],[5,6,7],[1,2,3,4,5,6,7,8],[0,1,2,3,4,5,6,7,8,9],[0,1,2,3,4,5,6,7,8,9,10],[0,1,2,3,4,5,6,7,8,9,10,11],[0,1,2,3,4,5,6,7,8,9,10,11],[0,1,2,3,4,5,6,7,8,9,10,11],[0,1,2,3,4,5,6,7,8,9,10,11,13,14],[0,1,2,3,4,5,6,7,8,9,10,11,13,14,15],[0,1,2,3,4,5,6,7,8,9,10,11,13,14,15,16],[0,1,2,3,4,5,6,7,8,9,10,11,13,14,15,16,17],[0,1,2,3,4,5,6,7,8,9,10,11],[0,1,2,3,4,5,6,7,8,9,10,11],[0,1,2,3,4,5,6,7,8,9,10,11,19,20],[0,1,2,3,4,5,6,7,8,9,10,11,19,20,21],[0,1,2,3,4,5,6,7,8,9,10,11,13,14,15,16,17,18,19,20,21,22],[0,1,2,3,4,5,6,7,8,9,10,11,13,14,15,16,17,18,19,20,21,22,23],[0,1,2,3,4,5,6,7,8,9,10,11,13,14,15,16,17,18,19,20,21,22,23,24],[0,1,2,3,4,5,6,7,8,9,10,11,12,13,14,15,16,17,18,19,20,21,22,23,24,25],[0,1,2,3,4,5,6,7,8,9,10,11,12,13,14,15,16,17,18,19,20,21,22,23,24,25,26]]) (lk [[83],[],[],[],[],[],[],[],[],[],[],[],[91,92,97,98,99],[],[],[],[],[],[],[91,92],[91,92],[91,92],[91,92],[],[],[],[],[]]) (lk [[],[],[],[],[],[],[],[],[],[83],[],[],[],[],[],[],[],[91],[92],[],[],[],[],[97],[98],[99],[],[]]) (by kernel_rfl) (fun | 83 => some <| .plain ⟨.d (.bool bq), true⟩ | 91 => some <| .plain ⟨.d (cmD A[i]), false⟩ | 92 => some <| .plain ⟨.own 1 ((encH A[i]).map bD), true⟩ | 97 => some <| .plain ⟨.d (cmD A[j]), false⟩ | 98 => some <| .plain ⟨.own 1 ((encH A[j]).map bD), true⟩ | 99 => some <| .plain ⟨.d (.bool bq), true⟩ | _ => none) (by intro d; first | exact ⟨rfl, fun _ h => h⟩ | (split <;> exact ⟨rfl, fun _ h => h⟩)) ?_
      simp [p1, p2, cmD]
      refine ⟨⟨⟨⟨⟨⟨by exact k11, by exact k8⟩, by exact k6⟩, by exact k9⟩, by exact k7⟩, by exact k12⟩, ?_⟩
      refine LWp.iff ?_
      simp
      refine LWp.skip ?_
      simp
      refine LWp.rz hT hW ?_
      simp
      refine ⟨by omega, ?_⟩
      refine loopQ.mk (j + 1) (Weak.to [14, 15, 16] [] (by decide) (by decide) (by simp [hp]) (by simp) (by simp)) ?_ ?_
      · omega
      · omega
    · refine LWp.exit ?_
      simp
      refine LWp.rz hT hW ?_
      simp
      refine ⟨by omega, ?_⟩
      refine loopQ.mk (i + 1) (Weak.to [14, 15] [] (by decide) (by decide) (by simp [hp]) (by simp) (by simp)) ?_ ?_
      · omega
      · omega
  · refine LWp.exit ?_
    simp
    refine LWp.seq ?_
    refine LWp.ro hT hW (fun | 102 => some <| .plain ⟨.d (.bool true), true⟩ | _ => none) ?_
    simp
    refine ⟨lives25_ok, ?_⟩
    refine LWp.ret ?_
    simp
end
end Go.Eng
