/-
  Texts of the proofs of this seat, part 7. No condition.
-/
import Derived.Test.YtmpfgfdjkjekcaaGreatDoorMF
import Derived.Test.YtmpfgfdjkjekcaaGreatDoorRows
import Derived.ChangeSame
import Derived.Lib.LaidTab
set_option linter.unusedVariables false
set_option linter.unusedSimpArgs false
namespace Go.Eng
open Go.Proofs
attribute [local simp] runL stepL evalG evalOp opLV constLV putEnv dstOk upd upds Res.plain Res.cond Res.fail evalBin evalUn seqQ blockQ argsEnv lookL lookH RetIs memless freshL evalPick evalMin bval bok evalLen evalIn strip whenC guardOps guardC slotsOf
 runM foldS stepI stepM maskE wrIn lk renO lookN evalCall evalCallee optAll resLV resObj retLV retObj retsLV retsObj evalLoad evalIndexAddr evalField solid cellsD_agg cellsD_int cellsD_bool cellsD_str cellsD_sl cellsD_ro cellsD_fn cellsL_agg cellsL_dagg cellsL_int cellsL_bool cellsL_str cellsL_sl cellsL_fn cellsL_ow cellsL_bx cellsL_lfn cellsL_nl takeL takeD mkAgg allD eqD eqDs kindsAre kindIs LObj.live TK.isNone TK.agg TK.isBool TK.isStr TK.isStruct Op.operands Call.operands
 evalBuildSlice evalAppend elemsOf evalStore evalBuild fillL lookupF putL evalSlice bound evalConv elemsS freezes frozen loadR
 mkEnv_at mkObs_at close_d close_agg close_ow close_bx close_fn close_nl touch_d touch_agg touch_ow touch_bx touch_fn touch_nl ren_d ren_agg ren_bx ren_rp ren_ow ren_fn ren_nl ren_junk retQ_ret retQ2_ret condQ_bool Nm.d Df.d Ed.d nmsD dfsD strsD edsD retC_ret nm_eq df_eq take_map_len take_map_app
 nm_t nm_d nm_td df_t df_d df_td str_t str_d str_td ed_t ed_d ed_td
 evalAppendIn evalBuildSliceC evalCopyC shortL evalApart evalAppendC evalAppendZ evalAppendG evalCapC isOc TK.isInt close_oc touch_oc ren_oc cellsL_oc evalCut evalClear evalCopy evalMake evalWrap evalCap evalNil isNilC lenL isInp gorc gorc2
 mapOf findD keyEq keyOk evalMakeMap evalRange zeroD zeroDV argsG shutG outN lenv retG0_ret retG0_normal retG1_ret retGR_ret renO close_mp touch_mp ren_mp optAll_d optAll_d' touch_ds cellsL_mp cellsD_mp cellsL_dmp
 evalMapSet evalPtr TK.isPtr evalToArr firstL retN_ret retsQ rvarL close_bm touch_bm ren_bm cellsD_bm cellsL_bm cellsL_lbm
attribute [local simp] cutQ_normal cutQ_ret cutQ_exit
section
attribute [local simp] Res.cond Nd.d_eq nd_t nd_dr nd_td ndsD evalIndex retGC_ret constL1 Int.add_assoc upds_same one_i one_s one_l all4 mkH
theorem take_min (l : List Int) : List.take (if (48 : Int) < (l.length : Int) then 48 else (l.length : Int)).toNat (l.map I64) = (l.take 48).map I64 := by
 rw [← List.map_take]
 congr 1
 split
 ·rfl
 ·rw [show ((l.length : Int)).toNat = l.length from rfl, List.take_length, List.take_of_length_le (by omega)]
theorem kind_at {L : List Int} : (treeKinds.map I64)[(atL L 0 10).toNat]?.getD default = I64 (treeKinds.getD (atL L 0 10).toNat 0) := by
 have h := atL_range L 0 10 (by decide)
 have hk : (atL L 0 10).toNat < treeKinds.length := by show _ < 10; omega
 rw [List.getElem?_map, List.getElem?_eq_getElem hk]
 simp [List.getD_eq_getElem?_getD, hk]
theorem kind_rng {L : List Int} : 0 ≤ treeKinds.getD (atL L 0 10).toNat 0 ∧ treeKinds.getD (atL L 0 10).toNat 0 ≤ 6 := by
 have h := atL_range L 0 10 (by decide)
 have key : ∀ n : Nat, n < 10 → 0 ≤ treeKinds.getD n 0 ∧ treeKinds.getD n 0 ≤ 6 := by decide
 exact key _ (by omega)
theorem place_up (L : List Int) (i : Nat) : i + 2 ≤ (placeM L i).2 := by unfold placeM; split <;> simp
theorem value_up (L : List Int) : ∀ (d i : Nat), i + 1 ≤ (valueM L d i).2 := fun d => by
 induction d with
 | zero =>
  intro i
  obtain ⟨r0, _, r2⟩ := valK_range L 0 i
  have r2 := r2 rfl
  by_cases h0 : valK L 0 i = 0 ∨ valK L 0 i = 1
  ·rw [value_num h0]; simp
  ·by_cases h1 : valK L 0 i = 2
   ·rw [value_loc h1]; simp
   ·by_cases h2 : valK L 0 i = 3 ∨ valK L 0 i = 4
    ·rw [value_place h2]; have := place_up L (i + 1); omega
    ·rw [value_kind (by omega)]; simp
 | succ e ih =>
  intro i
  obtain ⟨r0, _, _⟩ := valK_range L (e + 1) i
  by_cases h0 : valK L (e + 1) i = 0 ∨ valK L (e + 1) i = 1
  ·rw [value_num h0]; simp
  ·by_cases h1 : valK L (e + 1) i = 2
   ·rw [value_loc h1]; simp
   ·by_cases h3 : valK L (e + 1) i = 3 ∨ valK L (e + 1) i = 4
    ·rw [value_place h3]; have := place_up L (i + 1); omega
    ·by_cases h4 : valK L (e + 1) i = 5
     ·rw [value_kind h4]; simp
     ·rw [value_bin (by omega)]
      have a := ih (i + 1)
      have b := ih (valueM L e (i + 1)).2
      simp only
      omega
theorem oneB_up {L : List Int} {d i : Nat} {bl : Nat → Nd × Nat} (hb : 0 < d → ∀ j, j ≤ (bl j).2) : i + 1 ≤ (oneB L d bl i).2 := by
 rw [oneB_eq rfl]
 have hk := oneK_range (L := L) (d := d) (i := i) rfl
 have pl := place_up L (i + 1)
 have a1 := value_up L 1 (i + 1)
 have a2 := value_up L 1 (i + 2)
 have a3 := value_up L 2 (i + 1)
 have a4 := value_up L 2 (i + 2)
 have a5 := value_up L 2 (placeM L (i + 1)).2
 unfold oneC
 simp only [Nat.add_assoc, Nat.reduceAdd] at *
 split
 ·simp only; omega
 ·split
  ·simp only; omega
  ·split
   ·rename_i h
    have hb := hb (hk.2.2 h)
    have b1 := hb (valueM L 1 (i + 1)).2
    have b2 := hb ((bl (valueM L 1 (i + 1)).2).2 + 1)
    split
    ·split <;> simp only <;> omega
    ·simp only; omega
   ·repeat (first | (simp only; omega) | split)
theorem somes_up {L : List Int} {st : Nat → Nd × Nat} (h : ∀ j, j ≤ (st j).2) : ∀ (m : Nat) (ks : List Nd) (j : Nat), j ≤ (somesM L st m ks j).2
 | 0, ks, j => Nat.le_refl _
 | m + 1, ks, j => by
  unfold somesM
  split
  ·exact Nat.le_refl _
  ·have a := somes_up (L := L) h m (ks ++ [(st j).1]) (st j).2
   have b := h j
   omega
theorem one_up (L : List Int) : ∀ d i, i + 1 ≤ (oneM L d i).2
 | 0, i => by rw [oneM]; exact oneB_up fun h => absurd h (Nat.lt_irrefl _)
 | d + 1, i => by
  rw [oneM]
  refine oneB_up fun _ j => ?_
  have := somes_up (L := L) (st := oneM L d) (fun j => by have := one_up L d j; omega) (atL L j 4).toNat [] (j + 1)
  show j ≤ (somesM L (oneM L d) (atL L j 4).toNat [] (j + 1)).2
  omega
theorem body_end {L : List Int} {m : Nat} {ks : List Nd} {j : Nat} (h : L.length ≤ j) : bodyM L m ks j = ks := by
 cases m with
 | zero => rfl
 | succ m => unfold bodyM; rw [if_pos h]
theorem body_go {L : List Int} {m : Nat} {ks : List Nd} {j : Nat} (h0 : 0 < m) (h : j < L.length) : bodyM L m ks j = bodyM L (m - 1) (ks ++ [(oneM L 2 j).1]) (oneM L 2 j).2 := by
 obtain ⟨k, rfl⟩ : ∃ k, m = k + 1 := ⟨m - 1, by omega⟩
 rw [bodyM, if_neg (by omega)]
 rfl
theorem items_count (L : List Int) : ∀ c, (itemsM L c).length = c
 | 0 => rfl
 | c + 1 => by rw [itemsM, List.length_append, items_count L c]; rfl
structure NdC where
 x : Nd
structure CtC where
 c : Nat
section
variable {L : List Int} {k : Int} {t : Str} (hk : treeKinds.getD (atL L 0 10).toNat 0 = k) (ht : callM L 1 = t)
include hk ht
theorem tree_var (h : k = 0) : treeB L = .mk k t (atL L 2 1999 - 999) [] := by subst hk ht; unfold treeB; simp only []; rw [if_pos h]
theorem tree_chan (h : k = 2) : treeB L = .mk k t (atL L 2 4) [] := by subst hk ht; unfold treeB; simp only []; rw [if_neg (by omega), if_pos h]
theorem tree_rec (h : k = 1) : treeB L = .mk k t 0 (itemsM L (atL L 2 4).toNat) := by subst hk ht; unfold treeB; simp only []; rw [if_neg (by omega), if_neg (by omega), if_pos h]
theorem tree_proc (h : k = 5 ∨ k = 6) : treeB L = .mk k t 0 [.mk 8 [] 0 (bodyM L L.length [] 2)] := by subst hk ht; unfold treeB; simp only []; rw [if_neg (by omega), if_neg (by omega), if_neg (by omega), if_pos h]
theorem tree_else (h0 : ¬ k = 0) (h1 : ¬ k = 2) (h2 : ¬ k = 1) (h3 : ¬ (k = 5 ∨ k = 6)) : treeB L = .mk k t 0 [] := by subst hk ht; unfold treeB; simp only []; rw [if_neg h0, if_neg h1, if_neg h2, if_neg h3]
end
set_option maxHeartbeats 1000000 in
theorem MTree_ok (l : List Int) (hl : MkL l) : Ok Tryz.prog 10 [.sl (l.map I64)] ⟨.d (treeS l).d, false⟩ := by
 refine Ok.cell hT Tryz.func10 (by kernel_rfl) (c := _) rfl Tryz.ntmps10 (by simp) Tryz.results10 (by intro _ h; cases h) fun w0 X hp => ?_
 obtain ⟨L, hLl⟩ : ∃ L, L = l.take 48 := ⟨_, rfl⟩
 have hL : MkL L := fun n hn => hl n (by rw [hLl] at hn; exact List.mem_of_mem_take hn)
 have hll : L.length ≤ 48 := by rw [hLl, List.length_take]; omega
 have htr : treeS l = treeB L := by rw [hLl]; rfl
 refine LWp.sz hT hW ?_
 simp
 refine LWp.sz hT hW ?_
 simp [take_min, ← hLl]
 refine ⟨by split <;> omega, ?_⟩
 refine LWp.seq ?_
 have ha := MTake_ok L 0 10 hL (by omega) (by decide)
 have hr := atL_range L 0 10 (by decide)
 have hc := MCalled_ok L 1 hL (by omega)
 have hka := kind_at (L := L)
 have hkr := kind_rng (L := L)
 simp [treeKinds] at hka
 obtain ⟨k, hk⟩ : ∃ k, treeKinds.getD (atL L 0 10).toNat 0 = k := ⟨_, rfl⟩
 obtain ⟨t, ht⟩ : ∃ t, callM L 1 = t := ⟨_, rfl⟩
 refine LWp.regAny hT hW hMixed (lk [[],[],[1],[0,1,2],[0,1,2,3],[],[1,2,5],[0,1,2,3,4,5,6],[],[0,1,2,3,4,5,6,7,8]]) (lk [[4,15],[4,16],[4,16],[4,15],[4,15],[4,15,16],[4,16],[4],[15,16],[]]) (lk [[16],[],[15],[],[],[],[15],[],[4],[4]]) (by kernel_rfl) (fun | 18 => some (.gen ⟨[(15, 0)], [], [], mkH L 1, .d (I64 (atL L 0 10))⟩) | 22 => some (.gen ⟨[(15, 0)], [], [], mkH L 2, .d (.str t)⟩) | _ => none) (by intro d; first | exact ⟨rfl, fun _ h => h⟩ | (split <;> exact ⟨rfl, fun _ h => h⟩)) ?_
 simp [hka]
 rw [hk] at hkr
 rw [ht] at hc
 refine ⟨⟨⟨⟨⟨by decide, by simpa using ha⟩, by omega⟩, by omega⟩, by simpa using hc⟩, ?_⟩
 have hk' : [5, 6, 5, 6, 5, 0, 1, 2, 3, 4][(atL L 0 10).toNat]?.getD 0 = k := by rw [← hk]; simp [treeKinds]
 simp only [hk']
 refine LWp.seqCut (ι := NdC) (fun ⟨x⟩ => mkEnv [(2, .bx 2 0), (4, .bx 4 0)]) (fun ⟨x⟩ => mkObs [(2, .box false [.d (I64 0), .d (.str []), .d (I64 0), .nl]), (4, .box false [.d (I64 x.kind), .d (.str x.text), .d (I64 x.n), .d (ndsD x.kids)])]) (fun ⟨x⟩ => treeB L = x) ?_ fun ⟨x⟩ hc21 => ?_
 ·refine LWp.sz hT hW ?_
  simp
  refine LWp.block ?_
  refine LWp.sz hT hW ?_
  simp
  refine LWp.iff ?_
  simp
  refine ⟨fun h4 => ?_, fun h4 => ?_⟩
  ·have h5a := MTake_ok L 2 1999 hL (by omega) (by decide)
   have h5r := atL_range L 2 1999 (by decide)
   refine LWp.ro hT hW (fun | 29 => some (.gen ⟨[(15, 0)], [], [], mkH L 3, .d (I64 (atL L 2 1999))⟩) | _ => none) ?_
   simp
   refine ⟨⟨by simpa using h5a, by omega⟩, ?_⟩
   refine exWeak (Weak.shutBox 4 [] (fz := false) (cs := [.d (I64 k), .d (.str t), .d (I64 (atL L 2 1999 - 999)), .nl]) (ds := [I64 k, .str t, I64 (atL L 2 1999 - 999), .sl []]) (by simp) (by simp) (by simp) (by simp [LObj.mut])) ?_
   simp
   refine cutQ.mk ⟨.mk k t (atL L 2 1999 - 999) []⟩ (Weak.to [2, 4] [(2, 2), (4, 4)] (by decide) (by decide) (by simp [hp]) (by simp) (by simp)) ?_
   exact tree_var hk ht h4
  ·refine LWp.sz hT hW ?_
   simp
   refine LWp.iff ?_
   simp
   refine ⟨fun h6 => ?_, fun h6 => ?_⟩
   ·have h5a := MTake_ok L 2 4 hL (by omega) (by decide)
    refine LWp.ro hT hW (fun | 35 => some (.gen ⟨[(15, 0)], [], [], mkH L 3, .d (I64 (atL L 2 4))⟩) | _ => none) ?_
    simp
    refine ⟨by simpa using h5a, ?_⟩
    refine exWeak (Weak.shutBox 4 [] (fz := false) (cs := [.d (I64 k), .d (.str t), .d (I64 (atL L 2 4)), .nl]) (ds := [I64 k, .str t, I64 (atL L 2 4), .sl []]) (by simp) (by simp) (by simp) (by simp [LObj.mut])) ?_
    simp
    refine cutQ.mk ⟨.mk k t (atL L 2 4) []⟩ (Weak.to [2, 4] [(2, 2), (4, 4)] (by decide) (by decide) (by simp [hp]) (by simp) (by simp)) ?_
    exact tree_chan hk ht h6
   ·refine LWp.sz hT hW ?_
    simp
    refine LWp.iff ?_
    simp
    refine ⟨fun h8 => ?_, fun h8 => ?_⟩
    ·refine LWp.seq ?_
     have h5a := MTake_ok L 2 4 hL (by omega) (by decide)
     have h5r := atL_range L 2 4 (by decide)
     obtain ⟨m, hm9⟩ : ∃ m : Nat, (atL L 2 4).toNat = m := ⟨_, rfl⟩
     have hm9i : atL L 2 4 = (m : Int) := by omega
     refine LWp.ro hT hW (fun | 40 => some (.gen ⟨[(15, 0)], [], [], mkH L 3, .d (I64 (m : Nat))⟩) | _ => none) ?_
     simp
     refine ⟨by simpa [hm9i] using h5a, ?_⟩
     refine LWp.nlCell (fz := false) (cs := [.d (I64 k), .d (.str t), .d (I64 0), .nl]) 4 3 1056 4 (by decide) ⟨by simp, by simp, by simp, ?_⟩
     simp
     refine LWp.sz hT hW ?_
     simp
     refine LWp.block ?_
     refine LWp.loopW (ι := CtC) (fun ⟨c⟩ => mkEnv [(2, .bx 2 0), (3, .bx 15 0), (4, .bx 4 0), (5, .d (I64 (m : Nat))), (6, .d (I64 (c : Nat)))]) (fun ⟨c⟩ => mkObs [(2, .box false [.d (I64 0), .d (.str []), .d (I64 0), .nl]), (4, .box false [.d (I64 k), .d (.str t), .d (I64 0), .ow 1056 0 c]), (15, .box false [.d (.sl (L.map I64)), .d (I64 ((3 + 2 * c : Nat) : Int))]), (1056, .row false 4 ((itemsM L c).map Nd.d))]) (fun ⟨c⟩ => c ≤ m) (fun ⟨c⟩ => m - c) ⟨0⟩ (Weak.to [2, 3, 4, 5, 6] [(2, 2), (4, 4), (15, 15), (1056, 1056)] (by decide) (by decide) (by simp [hp]) (by simp) (by simp [itemsM])) (Nat.zero_le _) fun ⟨c⟩ hi11 => ?_
     refine LWp.seq ?_
     refine LWp.sz hT hW ?_
     simp
     refine LWp.iff ?_
     simp
     refine ⟨fun h11 => ?_, fun h11 => ?_⟩
     ·refine LWp.skip ?_
      simp
      refine LWp.seq ?_
      refine LWp.block ?_
      refine LWp.seq ?_
      have h13c := MCalled_ok L (3 + 2 * c) hL (by omega)
      refine LWp.ro hT hW (fun | 47 => some (.gen ⟨[(15, 0)], [], [], mkH L (3 + 2 * c + 1), .d (.str (callM L (3 + 2 * c)))⟩) | _ => none) ?_
      simp
      refine ⟨by simpa using h13c, ?_⟩
      have h14c := MTake_ok L (4 + 2 * c) 1999 hL (by omega) (by decide)
      have h14r := atL_range L (4 + 2 * (c : Int)) 1999 (by decide)
      have hcm : c ≤ m := hi11
      have e14 : (3 : Int) + (2 * (c : Int) + 1) = 4 + 2 * c := by omega
      have e15 : (4 : Int) + (2 * (c : Int) + 1) = 3 + (2 * c + 2) := by omega
      have hic := items_count L c
      refine LWp.regAny hT hW hMixed (lk [[],[0],[],[],[3],[3,4],[2,3,4,5],[2,3,4,5,6],[0,1,2,3,4,5,6,7],[0,1,2,3,4,5,6,7,8],[0,1,2,3,4,5,6,7,8,9]]) (lk [[15,55],[15,55],[15],[],[],[],[],[],[],[],[]]) (lk [[],[],[],[],[15],[],[],[55],[56,1056],[],[4]]) (by kernel_rfl) (fun | 52 => some (.gen ⟨[(15, 0)], [], [], mkH L (4 + 2 * c + 1), .d (I64 (atL L ((4 + 2 * c : Nat) : Int) 1999))⟩) | _ => none) (by intro d; first | exact ⟨rfl, fun _ h => h⟩ | (split <;> exact ⟨rfl, fun _ h => h⟩)) ?_
      simp [e14]
      refine ⟨⟨⟨by simpa using h14c, by omega, by omega⟩, by omega, by omega⟩, ?_⟩
      have hcm2 : c ≤ m := hi11
      refine LWp.rz hT hW ?_
      simp
      refine ⟨by omega, ?_⟩
      refine loopQ.mk ⟨c + 1⟩ (Weak.to [2, 3, 4, 5, 6] [(2, 2), (4, 4), (15, 15), (56, 1056)] (by decide) (by decide) (by simp [hp]) (by simp) (by simp [itemsM, Int.mul_add, items_count, List.take_of_length_le, e15])) ?_ ?_
      ·show c + 1 ≤ m
       omega
      ·show m - (c + 1) < m - c
       omega
     ·refine LWp.exit ?_
      simp
      refine exWeak (Weak.shutBox 4 [1056] (fz := false) (cs := [.d (I64 k), .d (.str t), .d (I64 0), .ow 1056 0 c]) (ds := [I64 k, .str t, I64 0, .sl ((itemsM L c).map Nd.d)]) (by simp) (by simp) (by simp [items_count, List.take_of_length_le]) (by simp [LObj.mut])) ?_
      simp
      refine cutQ.mk ⟨.mk k t 0 (itemsM L c)⟩ (Weak.to [2, 4] [(2, 2), (4, 4)] (by decide) (by decide) (by simp [hp]) (by simp) (by simp)) ?_
      rw [tree_rec hk ht h8, hm9]
      have e11 : c = m := by have := (show c ≤ m from hi11); omega
      rw [e11]
    ·refine LWp.seqCut (ι := BC) (fun ⟨b⟩ => mkEnv [(2, .bx 2 0), (3, .bx 15 0), (4, .bx 4 0), (25, .d (I64 (k))), (58, .d (.bool b))]) (fun ⟨b⟩ => mkObs [(2, .box false [.d (I64 0), .d (.str []), .d (I64 0), .nl]), (4, .box false [.d (I64 k), .d (.str t), .d (I64 0), .nl]), (15, .box false [.d (.sl (L.map I64)), .d (I64 2)])]) (fun ⟨b⟩ => b = true ↔ (k = 5 ∨ k = 6)) ?_ fun ⟨b⟩ hc17 => ?_
     ·refine LWp.sz hT hW ?_
      simp
      refine LWp.iff ?_
      simp
      refine ⟨fun h15 => ?_, fun h15 => ?_⟩
      ·refine LWp.skip ?_
       simp
       refine cutQ.mk ⟨decide (k = 5)⟩ (Weak.to [2, 3, 4, 25, 58] [(2, 2), (4, 4), (15, 15)] (by decide) (by decide) (by simp [hp]) (by simp) (by simp)) ?_
       simp [h15]
      ·refine LWp.rz hT hW ?_
       simp
       refine cutQ.mk ⟨decide (k = 6)⟩ (Weak.to [2, 3, 4, 25, 58] [(2, 2), (4, 4), (15, 15)] (by decide) (by decide) (by simp [hp]) (by simp) (by simp)) ?_
       simp only [decide_eq_true_eq]; omega
     ·refine LWp.iff ?_
      simp
      refine ⟨fun h17 => ?_, fun h17 => ?_⟩
      ·have q17 := hc17.1 h17
       refine LWp.sz hT hW ?_
       simp
       refine LWp.nlCell (fz := false) (cs := [.d (I64 8), .d (.str []), .d (I64 0), .nl]) 8 3 1077 4 (by decide) ⟨by simp, by simp, by simp, ?_⟩
       simp
       refine LWp.seq ?_
       refine LWp.block ?_
       refine LWp.loopW (ι := SmS) (fun ⟨m, ks, j⟩ => mkEnv [(2, .bx 2 0), (3, .bx 15 0), (4, .bx 4 0), (8, .bx 8 0)]) (fun ⟨m, ks, j⟩ => mkObs [(2, .box false [.d (I64 0), .d (.str []), .d (I64 0), .nl]), (4, .box false [.d (I64 k), .d (.str t), .d (I64 0), .nl]), (8, .box false [.d (I64 8), .d (.str []), .d (I64 0), .ow 1077 0 ks.length]), (15, .box false [.d (.sl (L.map I64)), .d (I64 (j : Nat))]), (1077, .row false 4 (ks.map Nd.d))]) (fun ⟨m, ks, j⟩ => j ≤ 3000 ∧ L.length ≤ m + j ∧ ks.length ≤ j ∧ bodyM L L.length [] 2 = bodyM L m ks j) (fun ⟨m, ks, j⟩ => L.length - j) ⟨L.length, [], 2⟩ (Weak.to [2, 3, 4, 8] [(2, 2), (4, 4), (8, 8), (15, 15), (1077, 1077)] (by decide) (by decide) (by simp [hp]) (by simp) (by simp)) (⟨by omega, by omega, by simp, rfl⟩) fun ⟨m, ks, j⟩ hi18 => ?_
       refine LWp.seq ?_
       refine LWp.seq ?_
       refine LWp.regAny hT hW hMixed (lk [[],[0],[0,1],[0,1,2],[],[4],[4,5],[4,5,6],[4,5,6,7],[0,1,2,3,4,5,6,7,8]]) (lk [[],[],[],[],[],[],[],[],[],[]]) (lk [[],[],[],[],[],[],[],[],[],[]]) (by kernel_rfl) (fun _ => none) (fun _ => ⟨rfl, fun _ h => h⟩) ?_
       simp
       refine LWp.iff ?_
       simp
       refine ⟨fun h18 => ?_, fun h18 => ?_⟩
       ·refine LWp.skip ?_
        simp
        refine LWp.block ?_
        have h19 := MOne_ok L hL (by omega) 2 (by omega) 5000 (by omega) j (by omega)
        have hup := one_up L 2 j
        have hto := one_to L 2 j
        have hto2 := oneTo_le (d := 2) (by omega)
        have hkl := hi18.2.2.1
        refine LWp.regAny hT hW hMixed (lk [[],[0],[],[2],[2,3],[0,1,2,3,4],[0,1,2,3,4,5],[0,1,2,3,4,5,6]]) (lk [[15,76],[15,76],[],[],[],[],[],[]]) (lk [[],[],[],[15],[76],[77,1077],[],[8]]) (by kernel_rfl) (fun | 75 => some (.gen ⟨[(15, 0)], [], [], mkH L (oneM L 2 j).2, .d (oneM L 2 j).1.d⟩) | _ => none) (by intro d; first | exact ⟨rfl, fun _ h => h⟩ | (split <;> exact ⟨rfl, fun _ h => h⟩)) ?_
        simp
        refine ⟨by (repeat' with_reducible apply And.intro) <;> first | omega | (simpa using h19), ?_⟩
        refine loopQ.mk ⟨m - 1, ks ++ [(oneM L 2 j).1], (oneM L 2 j).2⟩ (Weak.to [2, 3, 4, 8] [(2, 2), (4, 4), (8, 8), (15, 15), (77, 1077)] (by decide) (by decide) (by simp [hp]) (by simp) (by simp)) ?_ ?_
        ·refine ⟨(show (oneM L 2 j).2 ≤ 3000 by omega), (show L.length ≤ m - 1 + (oneM L 2 j).2 by omega), (by rw [List.length_append, List.length_singleton]; show ks.length + 1 ≤ (oneM L 2 j).2; omega), ?_⟩
         rw [hi18.2.2.2, body_go (by omega) (by omega)]
        ·show L.length - (oneM L 2 j).2 < L.length - j
         omega
       ·refine LWp.exit ?_
        simp
        refine LWp.rz hT hW ?_
        simp
        refine exWeak (Weak.shutBox 4 [80] (fz := false) (cs := [.d (I64 k), .d (.str t), .d (I64 0), .ow 80 0 1]) (ds := [I64 k, .str t, I64 0, .sl [(Nd.mk 8 [] 0 ks).d]]) (by simp) (by simp) (by simp) (by simp [LObj.mut])) ?_
        simp
        refine cutQ.mk ⟨.mk k t 0 [.mk 8 [] 0 ks]⟩ (Weak.to [2, 4] [(2, 2), (4, 4)] (by decide) (by decide) (by simp [hp]) (by simp) (by simp)) ?_
        rw [tree_proc hk ht q17, hi18.2.2.2, body_end (by omega)]
      ·have q17 : ¬ (k = 5 ∨ k = 6) := fun q => by simp [hc17.2 q] at h17
       refine LWp.skip ?_
       simp
       refine exWeak (Weak.shutBox 4 [] (fz := false) (cs := [.d (I64 k), .d (.str t), .d (I64 0), .nl]) (ds := [I64 k, .str t, I64 0, .sl []]) (by simp) (by simp) (by simp) (by simp [LObj.mut])) ?_
       simp
       refine cutQ.mk ⟨.mk k t 0 []⟩ (Weak.to [2, 4] [(2, 2), (4, 4)] (by decide) (by decide) (by simp [hp]) (by simp) (by simp)) ?_
       exact tree_else hk ht h4 h6 h8 q17
 ·refine LWp.sz hT hW ?_
  simp
  refine LWp.ret ?_
  have e : treeS l = x := htr.trans hc21
  simp [e]
end
open Go.Proofs
section
attribute [local simp] Res.cond Nd.d_eq nd_t nd_dr nd_td ndsD evalIndex constL1 upds_same one_i one_s one_l all4
end
end Go.Eng
namespace Go.Eng
open Go.Proofs
theorem own_len (L : List Int) (i : Nat) : (ownM L i).length ≤ 16 := by
 unfold ownM
 have : ∀ k : Nat, (ownL.getD k []).length ≤ 16 := fun k => by
  rw [List.getD_eq_getElem?_getD]
  cases e : ownL[k]? with
  | none => simp
  | some w =>
   have := List.mem_of_getElem? e
   exact (by decide : ∀ w ∈ ownL, w.length ≤ 16) w this
 exact this _
theorem weigh_leaf (k : Int) (t : Str) (n : Int) : weighN (.mk k t n []) = t.length + 1 := by simp [weighN, weighL]
theorem place_weigh (L : List Int) (i : Nat) : weighN (placeM L i).1 ≤ 34 := by
 have h1 := callM_len L (i + 1)
 have h2 := callM_len L (i + 2)
 unfold placeM
 split <;> simp only [weigh_leaf, List.length_append, List.length_cons] <;> omega
theorem value_weigh (L : List Int) : ∀ (d i : Nat), weighN (valueM L d i).1 + 1 ≤ 35 * 2 ^ d := fun d => by
 induction d with
 | zero =>
  intro i
  obtain ⟨r0, _, r2⟩ := valK_range L 0 i
  have r2 := r2 rfl
  have ho := own_len L (i + 1)
  have hp := place_weigh L (i + 1)
  by_cases h0 : valK L 0 i = 0 ∨ valK L 0 i = 1
  ·rw [value_num h0]; simp [weigh_leaf]
  ·by_cases h1 : valK L 0 i = 2
   ·rw [value_loc h1]; simp only [weigh_leaf]; omega
   ·by_cases h2 : valK L 0 i = 3 ∨ valK L 0 i = 4
    ·rw [value_place h2]; omega
    ·rw [value_kind (by omega)]; simp [weigh_leaf]
 | succ e ih =>
  intro i
  have hp1 : 1 ≤ 2 ^ e := Nat.one_le_two_pow
  have h2 : 2 ^ (e + 1) = 2 * 2 ^ e := by rw [Nat.pow_succ, Nat.mul_comm]
  have ho := own_len L (i + 1)
  have hp := place_weigh L (i + 1)
  obtain ⟨r0, _, _⟩ := valK_range L (e + 1) i
  by_cases h0 : valK L (e + 1) i = 0 ∨ valK L (e + 1) i = 1
  ·rw [value_num h0]; simp only [weigh_leaf, List.length_nil]; omega
  ·by_cases h1 : valK L (e + 1) i = 2
   ·rw [value_loc h1]; simp only [weigh_leaf]; omega
   ·by_cases h3 : valK L (e + 1) i = 3 ∨ valK L (e + 1) i = 4
    ·rw [value_place h3]; omega
    ·by_cases h4 : valK L (e + 1) i = 5
     ·rw [value_kind h4]; simp only [weigh_leaf, List.length_nil]; omega
     ·rw [value_bin (by omega)]
      have a := ih (i + 1)
      have b := ih (valueM L e (i + 1)).2
      simp only [weighN, weighL, List.length_nil]
      omega
theorem oneB_weigh {L : List Int} {d i C : Nat} {bl : Nat → Nd × Nat} (hb : ∀ j, weighN (bl j).1 ≤ C) : weighN (oneB L d bl i).1 ≤ 200 + 2 * C := by
 rw [oneB_eq rfl]
 have v1 := fun j => value_weigh L 1 j
 have v2 := fun j => value_weigh L 2 j
 have pl := place_weigh L (i + 1)
 have cl := callM_len L (i + 1)
 have ol := own_len L (i + 1)
 have ol2 := own_len L (i + 1 + 1)
 unfold oneC
 have a1 := v1 (i + 1)
 have a2 := v1 (i + 1 + 1)
 have a3 := v2 (i + 1)
 have a4 := v2 (i + 1 + 1)
 have a5 := v2 (placeM L (i + 1)).2
 have b1 := hb (valueM L 1 (i + 1)).2
 have b2 := hb ((bl (valueM L 1 (i + 1)).2).2 + 1)
 simp only [Nat.reducePow, Nat.reduceMul] at *
 repeat (first | (simp only [weighN, weighL, List.length_nil]; omega) | split)
theorem somes_weigh {L : List Int} {st : Nat → Nd × Nat} {C : Nat} (h : ∀ j, weighN (st j).1 ≤ C) : ∀ (m : Nat) (ks : List Nd) (j : Nat), weighL (somesM L st m ks j).1 ≤ weighL ks + m * C
 | 0, ks, j => by simp [somesM]
 | m + 1, ks, j => by
  unfold somesM
  split
  ·simp
  ·have a := somes_weigh (L := L) h m (ks ++ [(st j).1]) (st j).2
   have b := h j
   rw [weighL_append] at a
   simp only [weighL] at a
   rw [Nat.succ_mul]
   omega
theorem some_weigh {L : List Int} {st : Nat → Nd × Nat} {C : Nat} (h : ∀ j, weighN (st j).1 ≤ C) (i : Nat) : weighN (someM L st i).1 ≤ 1 + 3 * C := by
 have hr := atL_range L i 4 (by decide)
 have a := somes_weigh (L := L) h (atL L i 4).toNat [] (i + 1)
 have b : (atL L i 4).toNat * C ≤ 3 * C := Nat.mul_le_mul_right C (by omega)
 show weighN (.mk 8 [] 0 (somesM L st (atL L i 4).toNat [] (i + 1)).1) ≤ _
 simp only [weighN, weighL, List.length_nil] at *
 omega
def oneWt : Nat → Nat
 | 0 => 204
 | d + 1 => 200 + 2 * (1 + 3 * oneWt d)
theorem one_weigh (L : List Int) : ∀ d i, weighN (oneM L d i).1 ≤ oneWt d
 | 0, i => by
  rw [oneM]
  exact oneB_weigh (C := 2) fun j => by show weighN default ≤ 2; decide
 | d + 1, i => by
  rw [oneM]
  exact oneB_weigh (C := 1 + 3 * oneWt d) fun j => some_weigh (one_weigh L d) j
theorem body_weigh (L : List Int) : ∀ (m : Nat) (ks : List Nd) (j : Nat), weighL (bodyM L m ks j) ≤ weighL ks + m * oneWt 2
 | 0, ks, j => by simp [bodyM]
 | m + 1, ks, j => by
  unfold bodyM
  split
  ·simp
  ·have a := body_weigh L m (ks ++ [(oneM L 2 j).1]) (oneM L 2 j).2
   have b := one_weigh L 2 j
   rw [weighL_append] at a
   simp only [weighL] at a
   rw [Nat.succ_mul]
   omega
theorem items_weigh (L : List Int) : ∀ c, weighL (itemsM L c) ≤ 17 * c
 | 0 => Nat.le_refl _
 | c + 1 => by
  have a := items_weigh L c
  have b := callM_len L (3 + 2 * c)
  rw [itemsM, weighL_append]
  simp only [weighL, weigh_leaf]
  omega
theorem tree_weigh (l : List Int) : weighN (treeS l) ≤ 1000000 := by
 have hl : (l.take 48).length ≤ 48 := by rw [List.length_take]; omega
 have cl := callM_len (l.take 48) 1
 have r4 := atL_range (l.take 48) 2 4 (by decide)
 have bw := body_weigh (l.take 48) (l.take 48).length [] 2
 have b2 : (l.take 48).length * oneWt 2 ≤ 48 * oneWt 2 := Nat.mul_le_mul_right _ hl
 have b3 : oneWt 2 = 8758 := rfl
 have iw := items_weigh (l.take 48) (atL (l.take 48) 2 4).toNat
 unfold treeS treeB
 simp only []
 simp only [weighL] at bw
 repeat (first | (simp only [weighN, weighL, List.length_nil]; omega) | split)
def lvA : Str := [118, 97, 114, 32, 110, 61, 45, 55, 59]
def lvB : Str := [112, 114, 111, 99, 32, 112, 123, 36, 97, 61, 40, 120, 46, 121, 43, 49, 41, 42, 50, 59, 105, 102, 32, 36, 97, 60, 51, 123, 103, 111, 32, 113, 59, 125, 101, 108, 115, 101, 123, 125, 125]
def lvC : Str := [116, 101, 115, 116, 32, 116, 32, 123, 32, 99, 104, 101, 99, 107, 32, 49, 32, 61, 61, 32, 107, 105, 110, 100, 59, 32, 125]
def lvP : Str := [112, 114, 111, 99, 32, 112, 32, 123, 32, 36, 97, 32, 61, 32, 40, 120, 46, 121, 32, 43, 32, 49, 41, 32, 42, 32, 50, 59, 32, 105, 102, 32, 36, 97, 32, 60, 32, 51, 32, 123, 32, 103, 111, 32, 113, 59, 32, 125, 32, 101, 108, 115, 101, 32, 123, 32, 125, 32, 125]
def lvK : Nd := .mk 24 [] 0 [.mk 28 [] 0 [.mk 32 [] 1 [], .mk 36 [] 0 []]]
def lvT : List Str := [[99, 104, 97, 110, 32, 99, 32, 52, 59], [116, 101, 115, 116, 32, 116, 32, 123, 32, 120, 32, 61, 32, 59, 32, 125], [108, 111, 99, 107, 32, 108], [118, 97, 114, 32, 114, 101, 97, 100, 32, 61, 32, 49, 59]]
def lvO : List Int := [7, 13, 6, 4]
set_option maxRecDepth 10000
theorem lvA_parse : parseS lvA = (.mk 0 [110] (-7) [], 0, 0) := by decide
theorem lvA_print : printS (.mk 0 [110] (-7) []) = [118, 97, 114, 32, 110, 32, 61, 32, 45, 55, 59] := by decide
theorem lvB_parse : (parseS lvB).2 = (0, 0) := by decide
theorem lvB_size : sizeN (parseS lvB).1 = 15 := by decide
theorem lvB_weigh : weighN (parseS lvB).1 ≤ 1000 := by decide
theorem lvB_print : printS (parseS lvB).1 = lvP := by decide
theorem lvC_parse : parseS lvC = (.mk 6 [116] 0 [.mk 8 [] 0 [lvK]], 0, 0) := by decide
theorem lvC_head : headK (.mk 6 [116] 0 [.mk 8 [] 0 [lvK]]) = 6 ∧ headT (.mk 6 [116] 0 [.mk 8 [] 0 [lvK]]) = [116] := by decide
theorem lvT_parse : ∀ i, i < 4 → (parseS (lvT.getD i [])).2 = (lvO.getD i 0, if i = 0 then 5 else 2) := by decide
end Go.Eng
namespace Go.Eng
open Go.Proofs
theorem getD_all {α : Type} {p : α → Prop} {l : List α} {d : α} (h : ∀ x ∈ l, p x) {k : Nat} (hk : k < l.length) : p (l.getD k d) := by
 rw [List.getD_eq_getElem?_getD, List.getElem?_eq_getElem hk]
 exact h _ (List.getElem_mem hk)
theorem call_whole (L : List Int) (i : Nat) : wholeB (callM L i) true = true := by
 have h := atL_range L i 8 (by decide)
 exact getD_all (p := fun w => wholeB w true = true) (by decide : ∀ w ∈ callL, wholeB w true = true) (show (atL L i 8).toNat < 8 by omega)
theorem own_whole (L : List Int) (i : Nat) : wholeB (ownM L i) false = true := by
 have h := atL_range L i 4 (by decide)
 exact getD_all (p := fun w => wholeB w false = true) (by decide : ∀ w ∈ ownL, wholeB w false = true) (show (atL L i 4).toNat < 4 by omega)
theorem leaf_right {k : Int} {t : Str} {n : Int} (h0 : 0 ≤ k ∧ k < 37) (h1 : shapedK k [] = true) (h2 : loAt k ≤ n ∧ n ≤ hiAt k) (h3 : textB k t = true) : rightN (.mk k t n []) = true :=
 right_mk.2 ⟨h0.1, h0.2, h1, h2.1, h2.2, h3, fun x hx => by cases hx⟩
theorem local_right (L : List Int) (i : Nat) : rightN (.mk 33 (ownM L i) 0 []) = true := leaf_right (by decide) rfl (by decide) (own_whole L i)
theorem place_right (L : List Int) (i : Nat) : rightN (placeM L i).1 = true ∧ isPlaceK (placeM L i).1.kind = true := by
 unfold placeM
 split
 ·exact ⟨leaf_right (by decide) rfl (by decide) (call_whole L (i + 1)), rfl⟩
 ·exact ⟨leaf_right (by decide) rfl (by decide) (field_ok (call_whole L (i + 1)) (call_whole L (i + 2))), rfl⟩
theorem value_right (L : List Int) : ∀ (d i : Nat), rightN (valueM L d i).1 = true ∧ isExprK (valueM L d i).1.kind = true := fun d => by
 induction d with
 | zero =>
  intro i
  obtain ⟨r0, _, r2⟩ := valK_range L 0 i
  have r2 := r2 rfl
  by_cases h0 : valK L 0 i = 0 ∨ valK L 0 i = 1
  ·rw [value_num h0]
   have hr := atL_range L (i + 1) 6 (by decide)
   exact ⟨leaf_right (by decide) rfl (getD_all (p := fun n : Int => loAt 32 ≤ n ∧ n ≤ hiAt 32) (by decide : ∀ n ∈ numsM, loAt 32 ≤ n ∧ n ≤ hiAt 32) (show (atL L (i + 1) 6).toNat < 6 by omega)) rfl, rfl⟩
  ·by_cases h1 : valK L 0 i = 2
   ·rw [value_loc h1]; exact ⟨local_right L (i + 1), rfl⟩
   ·by_cases h2 : valK L 0 i = 3 ∨ valK L 0 i = 4
    ·rw [value_place h2]; exact ⟨(place_right L (i + 1)).1, place_expr (place_right L (i + 1)).2⟩
    ·rw [value_kind (by omega)]; exact ⟨leaf_right (by decide) rfl (by decide) rfl, rfl⟩
 | succ e ih =>
  intro i
  obtain ⟨r0, r1, _⟩ := valK_range L (e + 1) i
  by_cases h0 : valK L (e + 1) i = 0 ∨ valK L (e + 1) i = 1
  ·rw [value_num h0]
   have hr := atL_range L (i + 1) 6 (by decide)
   exact ⟨leaf_right (by decide) rfl (getD_all (p := fun n : Int => loAt 32 ≤ n ∧ n ≤ hiAt 32) (by decide : ∀ n ∈ numsM, loAt 32 ≤ n ∧ n ≤ hiAt 32) (show (atL L (i + 1) 6).toNat < 6 by omega)) rfl, rfl⟩
  ·by_cases h1 : valK L (e + 1) i = 2
   ·rw [value_loc h1]; exact ⟨local_right L (i + 1), rfl⟩
   ·by_cases h3 : valK L (e + 1) i = 3 ∨ valK L (e + 1) i = 4
    ·rw [value_place h3]; exact ⟨(place_right L (i + 1)).1, place_expr (place_right L (i + 1)).2⟩
    ·by_cases h4 : valK L (e + 1) i = 5
     ·rw [value_kind h4]; exact ⟨leaf_right (by decide) rfl (by decide) rfl, rfl⟩
     ·rw [value_bin (by omega)]
      exact bin_right (by omega) (by omega) (ih (i + 1)) (ih (valueM L e (i + 1)).2)
theorem stmt_mk {k : Int} {t : Str} {n : Int} {ks : List Nd} (hk : 9 ≤ k ∧ k ≤ 25) (h1 : textB k t = true) (h2 : loAt k ≤ n ∧ n ≤ hiAt k) (h3 : shapedK k ks = true) (h4 : ∀ x ∈ ks, rightN x = true) :
  rightN (.mk k t n ks) = true ∧ isStmtK (Nd.mk k t n ks).kind = true := ⟨right_mk.2 ⟨by omega, by omega, h3, h2.1, h2.2, h1, h4⟩, isStmtK_iff.2 hk⟩
theorem one1 {x : Nd} (h : rightN x = true) : ∀ y ∈ [x], rightN y = true := fun y hy => by rw [List.mem_singleton.1 hy]; exact h
theorem oneB_right {L : List Int} {d i : Nat} {bl : Nat → Nd × Nat} (hb : 0 < d → ∀ j, rightN (bl j).1 = true ∧ isBlockK (bl j).1.kind = true) : rightN (oneB L d bl i).1 = true ∧ isStmtK (oneB L d bl i).1.kind = true := by
 obtain ⟨k, hk⟩ : ∃ k, oneK L d i = k := ⟨_, rfl⟩
 obtain ⟨r0, r1, r2⟩ := oneK_range hk
 rw [oneB_eq hk]
 have v1 := fun j => value_right L 1 j
 have v2 := fun j => value_right L 2 j
 have pl := place_right L (i + 1)
 have cl := call_whole L (i + 1)
 have ol := own_whole L (i + 1)
 unfold oneC
 split
 ·rename_i q; subst q
  exact stmt_mk (by decide) ol (by decide) (by simp [shapedK, kidsB, (v2 (i + 1 + 1)).2]) (one1 (v2 (i + 1 + 1)).1)
 split
 ·rename_i q; subst q
  refine stmt_mk (by decide) rfl (by decide) (by simp [shapedK, kidsB, pl.2, (v2 (placeM L (i + 1)).2).2]) fun y hy => ?_
  simp only [List.mem_cons, List.not_mem_nil, or_false] at hy
  rcases hy with rfl | rfl
  ·exact pl.1
  ·exact (v2 _).1
 split
 ·rename_i q
  have hb := hb (r2 q)
  have a1 := v1 (i + 1)
  have a2 := hb (valueM L 1 (i + 1)).2
  have a3 := hb ((bl (valueM L 1 (i + 1)).2).2 + 1)
  have m2 : ∀ y ∈ [(valueM L 1 (i + 1)).1, (bl (valueM L 1 (i + 1)).2).1], rightN y = true := fun y hy => by
   simp only [List.mem_cons, List.not_mem_nil, or_false] at hy
   rcases hy with rfl | rfl
   ·exact a1.1
   ·exact a2.1
  have m3 : ∀ y ∈ [(valueM L 1 (i + 1)).1, (bl (valueM L 1 (i + 1)).2).1, (bl ((bl (valueM L 1 (i + 1)).2).2 + 1)).1], rightN y = true := fun y hy => by
   simp only [List.mem_cons, List.not_mem_nil, or_false] at hy
   rcases hy with rfl | rfl | rfl
   ·exact a1.1
   ·exact a2.1
   ·exact a3.1
  split
  ·rename_i q2; subst q2
   split
   ·exact stmt_mk (by decide) rfl (by decide) (by simp [shapedK, kidsB, a1.2, a2.2, a3.2]) m3
   ·exact stmt_mk (by decide) rfl (by decide) (by simp [shapedK, kidsB, a1.2, a2.2]) m2
  ·rename_i q2
   have q3 : k = 12 := by omega
   subst q3
   exact stmt_mk (by decide) rfl (by decide) (by simp [shapedK, kidsB, a1.2, a2.2]) m2
 split
 ·rename_i q
  rcases q with rfl | rfl | rfl | rfl <;> exact stmt_mk (by decide) cl (by decide) rfl fun x hx => by cases hx
 split
 ·rename_i q
  rcases q with rfl | rfl <;> exact stmt_mk (by decide) cl (by decide) (by simp [shapedK, kidsB, (v1 (i + 1 + 1)).2]) (one1 (v1 (i + 1 + 1)).1)
 split
 ·rename_i q
  rcases q with rfl | rfl <;> exact stmt_mk (by decide) cl (by decide) rfl (one1 (local_right L (i + 1 + 1)))
 split
 ·rename_i q; subst q
  have hr := atL_range L (((i + 1 : Nat) : Int) + 1) 5 (by decide)
  have e1 : loAt 19 = 2 := rfl
  have e2 : hiAt 19 = 6 := rfl
  exact stmt_mk (by decide) ol (by omega) rfl fun x hx => by cases hx
 split
 ·rename_i q; subst q
  exact stmt_mk (by decide) ol (by decide) rfl fun x hx => by cases hx
 split
 ·rename_i q; subst q
  have hr := atL_range L ((i + 1 : Nat) : Int) 9 (by decide)
  have e1 : loAt 21 = 1 := rfl
  have e2 : hiAt 21 = 9 := rfl
  exact stmt_mk (by decide) rfl (by omega) rfl fun x hx => by cases hx
 split
 ·rename_i q; subst q
  have hr := atL_range L ((i + 1 : Nat) : Int) 99 (by decide)
  have e1 : loAt 25 = 1 := rfl
  have e2 : hiAt 25 = 99 := rfl
  exact stmt_mk (by decide) rfl (by omega) rfl fun x hx => by cases hx
 ·have q : k = 24 := by omega
  subst q
  exact stmt_mk (by decide) rfl (by decide) (by simp [shapedK, kidsB, (v2 (i + 1)).2]) (one1 (v2 (i + 1)).1)
theorem somes_right {L : List Int} {st : Nat → Nd × Nat} (h : ∀ j, rightN (st j).1 = true ∧ isStmtK (st j).1.kind = true) : ∀ (m : Nat) (ks : List Nd) (j : Nat), (∀ x ∈ ks, rightN x = true ∧ isStmtK x.kind = true) → ∀ x ∈ (somesM L st m ks j).1, rightN x = true ∧ isStmtK x.kind = true
 | 0, ks, j, hk => by simpa [somesM] using hk
 | m + 1, ks, j, hk => by
  unfold somesM
  split
  ·exact hk
  ·refine somes_right h m _ _ fun x hx => ?_
   rcases List.mem_append.1 hx with hx | hx
   ·exact hk x hx
   ·rw [List.mem_singleton.1 hx]; exact h j
theorem some_right {L : List Int} {st : Nat → Nd × Nat} (h : ∀ j, rightN (st j).1 = true ∧ isStmtK (st j).1.kind = true) (i : Nat) : rightN (someM L st i).1 = true ∧ isBlockK (someM L st i).1.kind = true :=
 ⟨block_right (somes_right h _ [] _ fun x hx => by cases hx), rfl⟩
theorem one_right (L : List Int) : ∀ d i, rightN (oneM L d i).1 = true ∧ isStmtK (oneM L d i).1.kind = true
 | 0, i => by rw [oneM]; exact oneB_right fun h => absurd h (Nat.lt_irrefl 0)
 | d + 1, i => by rw [oneM]; exact oneB_right fun _ j => some_right (one_right L d) j
theorem body_right (L : List Int) : ∀ (m : Nat) (ks : List Nd) (j : Nat), (∀ x ∈ ks, rightN x = true ∧ isStmtK x.kind = true) → ∀ x ∈ bodyM L m ks j, rightN x = true ∧ isStmtK x.kind = true
 | 0, ks, j, hk => by simpa [bodyM] using hk
 | m + 1, ks, j, hk => by
  unfold bodyM
  split
  ·exact hk
  ·refine body_right L m _ _ fun x hx => ?_
   rcases List.mem_append.1 hx with hx | hx
   ·exact hk x hx
   ·rw [List.mem_singleton.1 hx]; exact one_right L 2 j
end Go.Eng
namespace Go.Eng
open Go.Proofs
structure VB (L : List Int) (d i : Nat) (x : Nd × Nat) : Prop where
 bytes : (exprT x.1).length + 2 + 10 * i ≤ 10 * x.2
 lt : i < x.2
 ends : x.2 ≤ max (i + 2) (L.length + 3 + 2 * d)
 depth : depthN x.1 ≤ d + 1
theorem place_b (L : List Int) (i : Nat) : (exprT (placeM L i).1).length + 11 * i ≤ 11 * (placeM L i).2 ∧ i + 2 ≤ (placeM L i).2 ∧ (placeM L i).2 ≤ i + 3 ∧ depthN (placeM L i).1 = 1 := by
 have c1 := callM_len L (i + 1)
 have c2 := callM_len L (i + 2)
 unfold placeM
 split
 ·have e : exprT (.mk 34 (callM L (i + 1)) 0 []) = callM L (i + 1) := by simp [exprT]
  refine ⟨?_, ?_, ?_, rfl⟩ <;> simp only [e] <;> omega
 ·have e : exprT (.mk 35 (callM L (i + 1) ++ 46 :: callM L (i + 2)) 0 []) = callM L (i + 1) ++ 46 :: callM L (i + 2) := by simp [exprT]
  refine ⟨?_, ?_, ?_, rfl⟩ <;> simp only [e, List.length_append, List.length_cons] <;> omega
theorem valK_over {L : List Int} {d i : Nat} (h : L.length ≤ i) : valK L d i = 0 := by
 unfold valK
 rw [if_pos (.inr (by omega))]
 unfold atL
 rw [if_pos (.inr (by omega))]
 rfl
theorem num_b (L : List Int) (d i : Nat) (n : Int) : VB L d i (.mk 32 [] n [], i + 2) := by
 have := itoa_len n
 refine ⟨?_, by simp only; omega, by simp only; omega, by simp [depthN, depthL]⟩
 have e : exprT (.mk 32 [] n []) = itoaS n := by simp [exprT]
 simp only [e]; omega
theorem value_b (L : List Int) : ∀ (d i : Nat), VB L d i (valueM L d i) := fun d => by
 have leaf : ∀ d i, valK L d i < 6 → VB L d i (valueM L d i) := fun d i h6 => by
  obtain ⟨r0, _, _⟩ := valK_range L d i
  by_cases h0 : valK L d i = 0 ∨ valK L d i = 1
  ·rw [value_num h0]; exact num_b L d i _
  ·have hi : i < L.length := Nat.lt_of_not_le fun q => h0 (.inl (valK_over q))
   by_cases h1 : valK L d i = 2
   ·rw [value_loc h1]
    have ho := own_len L (i + 1)
    have e : exprT (.mk 33 (ownM L (i + 1)) 0 []) = 36 :: ownM L (i + 1) := by simp [exprT]
    refine ⟨?_, by simp only; omega, by simp only; omega, by simp [depthN, depthL]⟩
    simp only [e, List.length_cons]; omega
   ·by_cases h2 : valK L d i = 3 ∨ valK L d i = 4
    ·rw [value_place h2]
     obtain ⟨p1, p2, p3, p4⟩ := place_b L (i + 1)
     exact ⟨by omega, by omega, by omega, by omega⟩
    ·rw [value_kind (by omega)]
     have e : exprT (.mk 36 [] 0 []) = sKind := by simp [exprT]
     have ek : sKind.length = 4 := rfl
     refine ⟨?_, by simp only; omega, by simp only; omega, by simp [depthN, depthL]⟩
     simp only [e, ek]; omega
 induction d with
 | zero => exact fun i => leaf 0 i ((valK_range L 0 i).2.2 rfl)
 | succ e ih =>
  intro i
  by_cases h6 : valK L (e + 1) i < 6
  ·exact leaf (e + 1) i h6
  ·have hi : i < L.length := Nat.lt_of_not_le fun q => h6 (by rw [valK_over q]; decide)
   obtain ⟨_, r1, _⟩ := valK_range L (e + 1) i
   rw [value_bin (by omega)]
   obtain ⟨a1, a2, a3, a4⟩ := ih (i + 1)
   obtain ⟨b1, b2, b3, b4⟩ := ih (valueM L e (i + 1)).2
   generalize valK L (e + 1) i = k at h6 r1
   have e1 := paren_len (decide (lvlN (valueM L e (i + 1)).1.kind < (if levelAt (26 + k - 6) = 1 then 2 else levelAt (26 + k - 6)))) (exprT (valueM L e (i + 1)).1)
   have e2 := paren_len (decide (lvlN (valueM L e (valueM L e (i + 1)).2).1.kind < levelAt (26 + k - 6) + 1)) (exprT (valueM L e (valueM L e (i + 1)).2).1)
   have e3 := sign_len (26 + k - 6) (by omega)
   refine ⟨?_, by simp only; omega, by simp only; omega, ?_⟩
   ·simp only
    rw [exprT_bin (by omega) (by omega)]
    simp only [List.length_append, List.length_cons]
    omega
   ·simp only [depthN, depthL]; omega
structure SB (L : List Int) (c e i : Nat) (x : Nd × Nat) : Prop where
 bytes : (stmtT x.1).length + 1 + 14 * i ≤ 14 * x.2
 lt : i < x.2
 ends : x.2 ≤ L.length + c
 depth : depthN x.1 ≤ e
structure BB (L : List Int) (c e j : Nat) (x : Nd × Nat) : Prop where
 bytes : (blockT x.1).length + 14 * j ≤ 14 * x.2
 lt : j < x.2
 ends : x.2 ≤ max (j + 1) (L.length + c)
 depth : depthN x.1 ≤ e
theorem cmd_b {L : List Int} {c e i j : Nat} {k : Int} {t : Str} {n : Int} {ks : List Nd} (hk : 13 ≤ k) (hb : (wordAt k).length + (midT k t).length + (withN n).length + (withE ks).length + 2 + 14 * i ≤ 14 * j) (h1 : i < j) (h2 : j ≤ L.length + c) (h3 : depthL ks + 1 ≤ e) :
  SB L c e i (.mk k t n ks, j) := by
 refine ⟨?_, h1, h2, by simp only [depthN]; exact h3⟩
 simp only
 rw [stmtT_cmd t n ks hk]
 simp only [List.length_append, List.length_cons, List.length_nil]
 omega
theorem withE_1 (x : Nd) : (withE [x]).length = (exprT x).length + 1 := by simp [withE]
theorem withE_0 : (withE []).length = 0 := rfl
theorem withN_0 : (withN 0).length = 0 := rfl
theorem depthL_1 (x : Nd) : depthL [x] = depthN x := by simp [depthL]
set_option maxHeartbeats 4000000 in
theorem oneB_b {L : List Int} {d i c e : Nat} {bl : Nat → Nd × Nat} (hi : i < L.length) (hc : 7 ≤ c) (he : 2 ≤ e) (hb : 0 < d → ∀ j, BB L c e j (bl j)) : SB L (c + 2) (e + 2) i (oneB L d bl i) := by
 obtain ⟨k, hk⟩ : ∃ k, oneK L d i = k := ⟨_, rfl⟩
 obtain ⟨r0, r1, r2⟩ := oneK_range hk
 rw [oneB_eq hk]
 have cl := callM_len L (i + 1)
 have ol := own_len L (i + 1)
 have ol2 := own_len L (i + 1 + 1)
 obtain ⟨p1, p2, p3, p4⟩ := place_b L (i + 1)
 obtain ⟨x1, x2, x3, x4⟩ := value_b L 2 (i + 1 + 1)
 obtain ⟨y1, y2, y3, y4⟩ := value_b L 2 (placeM L (i + 1)).2
 obtain ⟨u1, u2, u3, u4⟩ := value_b L 1 (i + 1)
 obtain ⟨v1, v2, v3, v4⟩ := value_b L 1 (i + 1 + 1)
 obtain ⟨w1, w2, w3, w4⟩ := value_b L 2 (i + 1)
 have nl := withN_len
 unfold oneC
 split
 ·rename_i q; subst q
  refine ⟨?_, by simp only; omega, by simp only; omega, by simp only [depthN, depthL]; omega⟩
  have et : stmtT (.mk 9 (ownM L (i + 1)) 0 [(valueM L 2 (i + 1 + 1)).1]) = 36 :: ownM L (i + 1) ++ 32 :: 61 :: 32 :: (exprT (valueM L 2 (i + 1 + 1)).1 ++ [59]) := by simp [stmtT]
  simp only [et, List.length_append, List.length_cons, List.length_nil]; omega
 split
 ·rename_i q; subst q
  refine ⟨?_, by simp only; omega, by simp only; omega, by simp only [depthN, depthL]; omega⟩
  have et : stmtT (.mk 10 [] 0 [(placeM L (i + 1)).1, (valueM L 2 (placeM L (i + 1)).2).1]) = exprT (placeM L (i + 1)).1 ++ 32 :: 61 :: 32 :: (exprT (valueM L 2 (placeM L (i + 1)).2).1 ++ [59]) := by simp [stmtT]
  simp only [et, List.length_append, List.length_cons, List.length_nil]; omega
 split
 ·rename_i q
  have hb := hb (r2 q)
  obtain ⟨b1, b2, b3, b4⟩ := hb (valueM L 1 (i + 1)).2
  obtain ⟨c1, c2, c3, c4⟩ := hb ((bl (valueM L 1 (i + 1)).2).2 + 1)
  have w11 : (wordAt 11).length = 2 := rfl
  have w12 : (wordAt 12).length = 5 := rfl
  have wE : sElse.length = 4 := rfl
  split
  ·rename_i q2; subst q2
   split
   ·refine ⟨?_, by simp only; omega, by simp only; omega, by simp only [depthN, depthL]; omega⟩
    have et : stmtT (.mk 11 [] 0 [(valueM L 1 (i + 1)).1, (bl (valueM L 1 (i + 1)).2).1, (bl ((bl (valueM L 1 (i + 1)).2).2 + 1)).1]) =
     wordAt 11 ++ 32 :: (exprT (valueM L 1 (i + 1)).1 ++ 32 :: blockT (bl (valueM L 1 (i + 1)).2).1) ++ 32 :: (sElse ++ 32 :: blockT (bl ((bl (valueM L 1 (i + 1)).2).2 + 1)).1) := by simp [stmtT]
    simp only [et, List.length_append, List.length_cons, List.length_nil]; omega
   ·refine ⟨?_, by simp only; omega, by simp only; omega, by simp only [depthN, depthL]; omega⟩
    have et : stmtT (.mk 11 [] 0 [(valueM L 1 (i + 1)).1, (bl (valueM L 1 (i + 1)).2).1]) = wordAt 11 ++ 32 :: (exprT (valueM L 1 (i + 1)).1 ++ 32 :: blockT (bl (valueM L 1 (i + 1)).2).1) := by simp [stmtT]
    simp only [et, List.length_append, List.length_cons, List.length_nil]; omega
  ·rename_i q2
   have q3 : k = 12 := by omega
   subst q3
   refine ⟨?_, by simp only; omega, by simp only; omega, by simp only [depthN, depthL]; omega⟩
   have et : stmtT (.mk 12 [] 0 [(valueM L 1 (i + 1)).1, (bl (valueM L 1 (i + 1)).2).1]) = wordAt 12 ++ 32 :: (exprT (valueM L 1 (i + 1)).1 ++ 32 :: blockT (bl (valueM L 1 (i + 1)).2).1) := by simp [stmtT]
   simp only [et, List.length_append, List.length_cons, List.length_nil]; omega
 have wk := word_len k
 have md := mid_len k (callM L (i + 1))
 have mo := mid_len k (ownM L (i + 1))
 split
 ·rename_i q
  have m1 : (midT k (callM L (i + 1))).length = (callM L (i + 1)).length + 1 := by unfold midT; rw [if_neg (by omega), if_neg (by omega)]; simp
  exact cmd_b (by omega) (by rw [withN_0, withE_0, m1]; omega) (by omega) (by omega) (by simp [depthL])
 split
 ·rename_i q
  have m1 : (midT k (callM L (i + 1))).length = (callM L (i + 1)).length + 1 := by unfold midT; rw [if_neg (by omega), if_neg (by omega)]; simp
  exact cmd_b (by omega) (by rw [withN_0, withE_1, m1]; omega) (by omega) (by omega) (by rw [depthL_1]; omega)
 split
 ·rename_i q
  have m1 : (midT k (callM L (i + 1))).length = (callM L (i + 1)).length + 1 := by unfold midT; rw [if_neg (by omega), if_neg (by omega)]; simp
  have e1 : exprT (.mk 33 (ownM L (i + 1 + 1)) 0 []) = 36 :: ownM L (i + 1 + 1) := by simp [exprT]
  have w4 : (wordAt k).length = 4 := by rcases q with rfl | rfl <;> rfl
  exact cmd_b (by omega) (by rw [withN_0, withE_1, m1, e1, w4, List.length_cons]; omega) (by omega) (by omega) (by rw [depthL_1]; simp [depthN, depthL])
 split
 ·rename_i q; subst q
  have := nl (2 + atL L (((i + 1 : Nat) : Int) + 1) 5)
  have w4 : (wordAt 19).length = 4 := rfl
  exact cmd_b (by omega) (by rw [withE_0, w4]; omega) (by omega) (by omega) (by simp [depthL])
 split
 ·rename_i q; subst q
  have w4 : (wordAt 20).length = 3 := rfl
  exact cmd_b (by omega) (by rw [withN_0, withE_0, w4]; omega) (by omega) (by omega) (by simp [depthL])
 split
 ·rename_i q; subst q
  have := nl (1 + atL L ((i + 1 : Nat) : Int) 9)
  have m0 : (midT 21 []).length = 0 := rfl
  exact cmd_b (by omega) (by rw [withE_0, m0]; omega) (by omega) (by omega) (by simp [depthL])
 split
 ·rename_i q; subst q
  have := nl (1 + atL L ((i + 1 : Nat) : Int) 99)
  have m0 : (midT 25 []).length = 0 := rfl
  exact cmd_b (by omega) (by rw [withE_0, m0]; omega) (by omega) (by omega) (by simp [depthL])
 ·have q : k = 24 := by omega
  subst q
  have m0 : (midT 24 []).length = 0 := rfl
  have w4 : (wordAt 24).length = 5 := rfl
  exact cmd_b (by omega) (by rw [withN_0, withE_1, m0, w4]; omega) (by omega) (by omega) (by rw [depthL_1]; omega)
theorem somes_b {L : List Int} {c e : Nat} {st : Nat → Nd × Nat} (h : ∀ j, j < L.length → SB L c e j (st j)) : ∀ (m : Nat) (ks : List Nd) (j : Nat), depthL ks ≤ e →
  (stmtsT (somesM L st m ks j).1).length + 14 * j ≤ (stmtsT ks).length + 14 * (somesM L st m ks j).2 ∧ j ≤ (somesM L st m ks j).2 ∧ (somesM L st m ks j).2 ≤ max j (L.length + c) ∧ depthL (somesM L st m ks j).1 ≤ e
 | 0, ks, j, hk => by simp only [somesM]; exact ⟨by omega, Nat.le_refl _, by omega, hk⟩
 | m + 1, ks, j, hk => by
  unfold somesM
  split
  ·exact ⟨by simp only; omega, Nat.le_refl _, by simp only; omega, hk⟩
  ·rename_i q
   obtain ⟨a1, a2, a3, a4⟩ := h j (by omega)
   obtain ⟨b1, b2, b3, b4⟩ := somes_b h m (ks ++ [(st j).1]) (st j).2 (by rw [depthL_append, depthL_1]; omega)
   have et : (stmtsT (ks ++ [(st j).1])).length = (stmtsT ks).length + (stmtT (st j).1).length + 1 := by rw [stmtsT_append]; simp [stmtsT]; omega
   rw [et] at b1
   exact ⟨by omega, by omega, by omega, b4⟩
theorem block_len (ks : List Nd) : (blockT (.mk 8 [] 0 ks)).length = (stmtsT ks).length + 3 := by simp [blockT]
theorem some_b {L : List Int} {c e : Nat} {st : Nat → Nd × Nat} (h : ∀ j, j < L.length → SB L c e j (st j)) (j : Nat) : BB L c (e + 1) j (someM L st j) := by
 obtain ⟨a1, a2, a3, a4⟩ := somes_b h (atL L j 4).toNat [] (j + 1) (Nat.zero_le _)
 have e1 : (someM L st j).1 = .mk 8 [] 0 (somesM L st (atL L j 4).toNat [] (j + 1)).1 := rfl
 have e2 : (someM L st j).2 = (somesM L st (atL L j 4).toNat [] (j + 1)).2 := rfl
 have e3 : (stmtsT []).length = 0 := rfl
 refine ⟨?_, by rw [e2]; omega, by rw [e2]; omega, by rw [e1, depthN]; omega⟩
 rw [e1, e2, block_len]; omega
theorem one_b (L : List Int) : ∀ d i, i < L.length → SB L (9 + 2 * d) (4 + 3 * d) i (oneM L d i)
 | 0, i, hi => by rw [oneM]; exact oneB_b hi (Nat.le_refl 7) (Nat.le_refl 2) fun h => absurd h (Nat.lt_irrefl 0)
 | d + 1, i, hi => by
  rw [oneM]
  have := oneB_b (c := 9 + 2 * d) (e := 4 + 3 * d + 1) (bl := someM L (oneM L d)) (d := d + 1) hi (by omega) (by omega) fun _ j => some_b (one_b L d) j
  exact ⟨this.bytes, this.lt, by have := this.ends; omega, by have := this.depth; omega⟩
theorem body_b (L : List Int) : ∀ (m : Nat) (ks : List Nd) (j : Nat), depthL ks ≤ 10 → (stmtsT (bodyM L m ks j)).length + 14 * j ≤ (stmtsT ks).length + 14 * max j (L.length + 13) ∧ depthL (bodyM L m ks j) ≤ 10
 | 0, ks, j, hk => by simp only [bodyM]; exact ⟨by omega, hk⟩
 | m + 1, ks, j, hk => by
  unfold bodyM
  split
  ·exact ⟨by omega, hk⟩
  ·rename_i q
   obtain ⟨a1, a2, a3, a4⟩ := one_b L 2 j (by omega)
   obtain ⟨b1, b2⟩ := body_b L m (ks ++ [(oneM L 2 j).1]) (oneM L 2 j).2 (by rw [depthL_append, depthL_1]; omega)
   have et : (stmtsT (ks ++ [(oneM L 2 j).1])).length = (stmtsT ks).length + (stmtT (oneM L 2 j).1).length + 1 := by rw [stmtsT_append]; simp [stmtsT]; omega
   rw [et] at b1
   exact ⟨by omega, b2⟩
theorem items_b (L : List Int) : ∀ c, ((itemsM L c).flatMap itemT).length ≤ 25 * c ∧ depthL (itemsM L c) ≤ 1
 | 0 => ⟨Nat.le_refl _, Nat.zero_le _⟩
 | c + 1 => by
  obtain ⟨a, b⟩ := items_b L c
  have h1 := callM_len L (3 + 2 * c)
  have h2 := itoa_len (atL L (4 + 2 * c) 1999 - 999)
  rw [itemsM, List.flatMap_append, depthL_append, depthL_1]
  refine ⟨?_, by simp only [depthN, depthL]; omega⟩
  simp only [List.flatMap_cons, List.flatMap_nil, itemT, List.length_append, List.length_cons, List.length_nil, Nd.text_mk, Nd.n_mk]
  omega
theorem tree_small (l : List Int) : (textT (treeS l)).length ≤ 900 ∧ depthN (treeS l) ≤ 12 := by
 have hl : (l.take 48).length ≤ 48 := by rw [List.length_take]; omega
 have hx := getD_all (p := fun n : Int => 0 ≤ n ∧ n ≤ 6) (d := 0) (by decide : ∀ n ∈ treeKinds, 0 ≤ n ∧ n ≤ 6) (show (atL (l.take 48) 0 10).toNat < 10 by have := atL_range (l.take 48) 0 10 (by decide); omega)
 unfold treeS
 generalize l.take 48 = L at hl hx
 have cl := callM_len L 1
 have r4 := atL_range L 2 4 (by decide)
 obtain ⟨b1, b2⟩ := body_b L L.length [] 2 (Nat.zero_le _)
 obtain ⟨i1, i2⟩ := items_b L (atL L 2 4).toNat
 have e3 : (stmtsT []).length = 0 := rfl
 unfold treeB
 simp only []
 generalize treeKinds.getD (atL L 0 10).toNat 0 = k at hx
 have wl := word_len k
 split
 ·rename_i q; subst q
  have il := itoa_len (atL L 2 1999 - 999)
  refine ⟨?_, by simp only [depthN, depthL]; omega⟩
  have et : textT (.mk 0 (callM L 1) (atL L 2 1999 - 999) []) = (wordAt 0 ++ 32 :: callM L 1) ++ 32 :: 61 :: 32 :: (itoaS (atL L 2 1999 - 999) ++ [59]) := by simp [textT]
  rw [et]; simp only [List.length_append, List.length_cons, List.length_nil]; omega
 split
 ·rename_i q; subst q
  have il := itoa_len (atL L 2 4)
  refine ⟨?_, by simp only [depthN, depthL]; omega⟩
  have et : textT (.mk 2 (callM L 1) (atL L 2 4) []) = (wordAt 2 ++ 32 :: callM L 1) ++ 32 :: (itoaS (atL L 2 4) ++ [59]) := by simp [textT]
  rw [et]; simp only [List.length_append, List.length_cons, List.length_nil]; omega
 split
 ·rename_i q; subst q
  refine ⟨?_, by simp only [depthN]; omega⟩
  have et : textT (.mk 1 (callM L 1) 0 (itemsM L (atL L 2 4).toNat)) = (wordAt 1 ++ 32 :: callM L 1) ++ 32 :: 123 :: 32 :: ((itemsM L (atL L 2 4).toNat).flatMap itemT ++ [125]) := by simp [textT]
  rw [et]; simp only [List.length_append, List.length_cons, List.length_nil]; omega
 split
 ·rename_i q
  refine ⟨?_, by simp only [depthN, depthL]; omega⟩
  have et : textT (.mk k (callM L 1) 0 [.mk 8 [] 0 (bodyM L L.length [] 2)]) = (wordAt k ++ 32 :: callM L 1) ++ 32 :: blockT (.mk 8 [] 0 (bodyM L L.length [] 2)) := by rcases q with rfl | rfl <;> simp [textT]
  rw [et]; simp only [List.length_append, List.length_cons, block_len]; omega
 ·have q : k = 3 ∨ k = 4 := by omega
  refine ⟨?_, by simp only [depthN, depthL]; omega⟩
  have et : textT (.mk k (callM L 1) 0 []) = (wordAt k ++ 32 :: callM L 1) ++ [59] := by rcases q with rfl | rfl <;> simp [textT]
  rw [et]; simp only [List.length_append, List.length_cons, List.length_nil]; omega
end Go.Eng
namespace Go.Eng
open Go.Proofs
theorem blk_text {k : Int} (hk : k = 5 ∨ k = 6) (t : Str) (ks : List Nd) : textT (.mk k t 0 [.mk 8 [] 0 ks]) = wordAt k ++ 32 :: (t ++ 32 :: 123 :: 32 :: (stmtsT ks ++ [125])) := by
 rcases hk with rfl | rfl <;> simp [textT, blockT]
structure Blk (X : List Nd) : Prop where
 right : ∀ x ∈ X, rightN x = true ∧ isStmtK x.kind = true
 depth : depthL X ≤ 10
 len : (stmtsT X).length ≤ 900
theorem tree_blk {l : List Int} {k : Int} (hk : k = 5 ∨ k = 6) (h : treeKinds.getD (atL (l.take 48) 0 10).toNat 0 = k) : ∃ t X, treeS l = .mk k t 0 [.mk 8 [] 0 X] ∧ Blk X := by
 have e : treeS l = .mk k (callM (l.take 48) 1) 0 [.mk 8 [] 0 (bodyM (l.take 48) (l.take 48).length [] 2)] := by
  unfold treeS treeB
  simp only [h]
  rw [if_neg (by omega), if_neg (by omega), if_neg (by omega), if_pos hk]
 refine ⟨_, _, e, body_right _ _ [] 2 (fun x hx => by cases hx), (body_b _ _ [] 2 (Nat.zero_le _)).2, ?_⟩
 have := (tree_small l).1
 rw [e, blk_text hk] at this
 simp only [List.length_append, List.length_cons] at this
 omega
theorem tree_blk0 (l : List Int) : ∃ t X, treeS (0 :: l) = .mk 5 t 0 [.mk 8 [] 0 X] ∧ Blk X := tree_blk (.inl rfl) rfl
theorem tree_blk1 (l : List Int) : ∃ t X, treeS (1 :: l) = .mk 6 t 0 [.mk 8 [] 0 X] ∧ Blk X := tree_blk (.inr rfl) rfl
theorem blk_valid {k : Int} {c : UInt8} (hk : k = 5 ∨ k = 6) (hc : wholeB [c] true = true) {Z : List Nd} (hz : ∀ x ∈ Z, rightN x = true ∧ isStmtK x.kind = true) (hd : depthL Z ≤ 10) :
  validB (.mk k [c] 0 [.mk 8 [] 0 Z]) = decide ((textT (.mk k [c] 0 [.mk 8 [] 0 Z])).length ≤ 1024) := by
 have hr : rightN (.mk k [c] 0 [.mk 8 [] 0 Z]) = true := by
  have hb : rightN (.mk 8 [] 0 Z) = true := block_right hz
  rcases hk with rfl | rfl <;> exact right_mk.2 ⟨by decide, by decide, rfl, by decide, by decide, hc, one1 hb⟩
 have hdd : depthN (.mk k [c] 0 [.mk 8 [] 0 Z]) ≤ 24 := by simp only [depthN, depthL]; omega
 have h0 : decide (0 ≤ (Nd.mk k [c] 0 [.mk 8 [] 0 Z]).kind) = true := decide_eq_true (show 0 ≤ k by omega)
 have h6 : decide ((Nd.mk k [c] 0 [.mk 8 [] 0 Z]).kind ≤ 6) = true := decide_eq_true (show k ≤ 6 by omega)
 unfold validB
 rw [hr, decide_eq_true hdd, h0, h6]
 simp
theorem blk_weigh {Z : List Nd} {k : Int} {c : UInt8} {a : Nat} (h : weighL Z ≤ a) : weighN (.mk k [c] 0 [.mk 8 [] 0 Z]) ≤ a + 3 := by
 simp only [weighN, weighL, List.length_cons, List.length_nil]; omega
section
variable {X Y : List Nd} (hX : Blk X) (hY : Blk Y)
include hX hY
theorem blk_one : printS (.mk 5 [112] 0 [.mk 8 [] 0 X]) = [112, 114, 111, 99, 32, 112, 32, 123, 32] ++ (stmtsT X ++ [125]) ∧ printS (.mk 6 [113] 0 [.mk 8 [] 0 Y]) = [116, 101, 115, 116, 32, 113, 32, 123, 32] ++ (stmtsT Y ++ [125]) := by
 have e1 : textT (.mk 5 [112] 0 [.mk 8 [] 0 X]) = [112, 114, 111, 99, 32, 112, 32, 123, 32] ++ (stmtsT X ++ [125]) := by rw [blk_text (.inl rfl)]; rfl
 have e2 : textT (.mk 6 [113] 0 [.mk 8 [] 0 Y]) = [116, 101, 115, 116, 32, 113, 32, 123, 32] ++ (stmtsT Y ++ [125]) := by rw [blk_text (.inr rfl)]; rfl
 have h1 := hX.len
 have h2 := hY.len
 have v1 := blk_valid (k := 5) (c := 112) (.inl rfl) (by decide) hX.right hX.depth
 have v2 := blk_valid (k := 6) (c := 113) (.inr rfl) (by decide) hY.right hY.depth
 rw [e1, decide_eq_true (by simp only [List.length_append, List.length_cons, List.length_nil]; omega)] at v1
 rw [e2, decide_eq_true (by simp only [List.length_append, List.length_cons, List.length_nil]; omega)] at v2
 unfold printS
 rw [if_pos v1, if_pos v2]
 exact ⟨e1, e2⟩
theorem blk_two : (∀ x ∈ X ++ Y, rightN x = true ∧ isStmtK x.kind = true) ∧ depthL (X ++ Y) ≤ 10 := by
 refine ⟨fun x hx => (List.mem_append.1 hx).elim (hX.right x) (hY.right x), ?_⟩
 have := hX.depth
 have := hY.depth
 rw [depthL_append]; omega
theorem blk_both : textT (.mk 5 [112] 0 [.mk 8 [] 0 (X ++ Y)]) = [112, 114, 111, 99, 32, 112, 32, 123, 32] ++ (stmtsT X ++ (stmtsT Y ++ [125])) ∧ textT (.mk 6 [112] 0 [.mk 8 [] 0 (X ++ Y)]) = [116, 101, 115, 116, 32, 112, 32, 123, 32] ++ (stmtsT X ++ (stmtsT Y ++ [125])) ∧
  validB (.mk 5 [112] 0 [.mk 8 [] 0 (X ++ Y)]) = decide ((stmtsT X).length + (stmtsT Y).length + 10 ≤ 1024) ∧ validB (.mk 6 [112] 0 [.mk 8 [] 0 (X ++ Y)]) = decide ((stmtsT X).length + (stmtsT Y).length + 10 ≤ 1024) := by
 obtain ⟨h1, h2⟩ := blk_two hX hY
 have e1 : textT (.mk 5 [112] 0 [.mk 8 [] 0 (X ++ Y)]) = [112, 114, 111, 99, 32, 112, 32, 123, 32] ++ (stmtsT X ++ (stmtsT Y ++ [125])) := by rw [blk_text (.inl rfl), stmtsT_append, List.append_assoc]; rfl
 have e2 : textT (.mk 6 [112] 0 [.mk 8 [] 0 (X ++ Y)]) = [116, 101, 115, 116, 32, 112, 32, 123, 32] ++ (stmtsT X ++ (stmtsT Y ++ [125])) := by rw [blk_text (.inr rfl), stmtsT_append, List.append_assoc]; rfl
 refine ⟨e1, e2, ?_, ?_⟩
 ·rw [blk_valid (.inl rfl) (by decide) h1 h2, e1]
  congr 1
  simp only [List.length_append, List.length_cons, List.length_nil]
  apply propext; omega
 ·rw [blk_valid (.inr rfl) (by decide) h1 h2, e2]
  congr 1
  simp only [List.length_append, List.length_cons, List.length_nil]
  apply propext; omega
end
end Go.Eng
namespace Go.Eng
open Go.Proofs
attribute [local simp] runL stepL evalG evalOp opLV constLV putEnv dstOk upd upds Res.plain Res.cond Res.fail evalBin evalUn seqQ blockQ argsEnv lookL lookH RetIs memless freshL evalPick evalMin bval bok evalLen evalIn strip whenC guardOps guardC slotsOf
 runM foldS stepI stepM maskE wrIn lk renO lookN evalCall evalCallee optAll resLV resObj retLV retObj retsLV retsObj evalLoad evalIndexAddr evalField solid cellsD_agg cellsD_int cellsD_bool cellsD_str cellsD_sl cellsD_ro cellsD_fn cellsL_agg cellsL_dagg cellsL_int cellsL_bool cellsL_str cellsL_sl cellsL_fn cellsL_ow cellsL_bx cellsL_lfn cellsL_nl takeL takeD mkAgg allD eqD eqDs kindsAre kindIs LObj.live TK.isNone TK.agg TK.isBool TK.isStr TK.isStruct Op.operands Call.operands
 evalBuildSlice evalAppend elemsOf evalStore evalBuild fillL lookupF putL evalSlice bound evalConv elemsS freezes frozen loadR
 mkEnv_at mkObs_at close_d close_agg close_ow close_bx close_fn close_nl touch_d touch_agg touch_ow touch_bx touch_fn touch_nl ren_d ren_agg ren_bx ren_rp ren_ow ren_fn ren_nl ren_junk retQ_ret retQ2_ret condQ_bool Nm.d Df.d Ed.d nmsD dfsD strsD edsD retC_ret nm_eq df_eq take_map_len take_map_app
 nm_t nm_d nm_td df_t df_d df_td str_t str_d str_td ed_t ed_d ed_td
 evalAppendIn evalBuildSliceC evalCopyC shortL evalApart evalAppendC evalAppendZ evalAppendG evalCapC isOc TK.isInt close_oc touch_oc ren_oc cellsL_oc evalCut evalClear evalCopy evalMake evalWrap evalCap evalNil isNilC lenL isInp gorc gorc2
 mapOf findD keyEq keyOk evalMakeMap evalRange zeroD zeroDV argsG shutG outN lenv retG0_ret retG0_normal retG1_ret retGR_ret renO close_mp touch_mp ren_mp optAll_d optAll_d' touch_ds cellsL_mp cellsD_mp cellsL_dmp
 evalMapSet evalPtr TK.isPtr evalToArr firstL retN_ret retsQ rvarL close_bm touch_bm ren_bm cellsD_bm cellsL_bm cellsL_lbm
attribute [local simp] cutQ_normal cutQ_ret cutQ_exit
section
attribute [local simp] Res.cond Nd.d_eq nd_t nd_dr nd_td ndsD evalIndex retGC_ret tksD psH upds_same
attribute [local simp] constL1 one_i one_s one_l all4
theorem exprO_reads (n : Nat) : Reads n 140 (fun q => exprP false (q.l.length + 1) q) :=
 ⟨fun q _ hg => (Reads.expr (q.l.length + 1)).ok q (Nat.lt_succ_self _) hg, fun q hq hg => (exprO_rt n).le q hq hg⟩
theorem stmtP_eats : ∀ n, Eats n (stmtP false n)
 | 0 => fun q h => absurd h (Nat.not_lt_zero _)
 | n + 1 => stmtB_eats (exprO_stk false) (blockB_stk (stmtP_stk false n)) (exprO_rt (n + 1)) (blockB_rt (stmtP_stk false n) (stmtP_rt n))
theorem Reads.stmt : ∀ n : Nat, n ≤ 1100000 → Reads n 114 (stmtP false n)
 | 0, _ => ⟨fun q h _ => absurd h (Nat.not_lt_zero _), fun q h _ => absurd h (Nat.not_lt_zero _)⟩
 | n + 1, h => by
  have hB : Reads n 77 (blockB (stmtP false n)) :=
   ⟨fun q hq hg => block_ok q n (stmtP false n) (Reads.stmt n (by omega)) (stmtP_eats n) hq hg (by omega), fun q hq hg => (blockB_rt (stmtP_stk false n) (stmtP_rt n)).le q hq hg⟩
  refine ⟨fun q hq hg => ?_, fun q hq hg => (stmtP_rt (n + 1)).le q hq hg⟩
  exact stmt_rstep q n (fun q => exprP false (q.l.length + 1) q) (blockB (stmtP false n)) (exprO_reads (n + 1)) hB hq hg
theorem Reads.block (n : Nat) (h : n ≤ 1100000) : Reads n 77 (blockP false n) :=
 ⟨fun q hq hg => block_ok q n (stmtP false n) (Reads.stmt n h) (stmtP_eats n) hq hg (by omega), fun q hq hg => (blockB_rt (stmtP_stk false n) (stmtP_rt n)).le q hq hg⟩
theorem def_idx (s : Str) : defKind s = idxI (fun x => decide (s = x)) (wordsL.take 7) := by
 unfold defKind
 have e2 : (fun i => decide (wordsL.getD i [] = s)) = fun i => decide (s = wordsL.getD i []) := by funext i; rw [decide_eq_decide]; exact eq_comm
 have e := range_find (fun x => decide (s = x)) [] (wordsL.take 7)
 split
 ·rename_i h; subst h; rfl
 ·unfold idxI
  rw [← e]
  rw [e2]
  rfl
theorem def_range {s : Str} : -1 ≤ defKind s ∧ defKind s ≤ 6 := by
 unfold defKind
 split
 ·omega
 ·split
  ·rename_i i e
   have := List.mem_of_find?_eq_some e
   simp at this
   omega
  ·omega
theorem def_word {s : Str} (h : 0 ≤ defKind s) : wordAt (defKind s) = s ∧ s ≠ [] := by
 unfold defKind at *
 split at h
 ·omega
 ·rename_i hs
  split at h
  ·rename_i i e
   have := List.find?_some e
   simp only [decide_eq_true_eq] at this
   rw [if_neg hs]
   exact ⟨this, hs⟩
  ·omega
theorem def_neg {p : PS} (h : defKind p.peek < 0) : defP false p = (.mk 0 [] 0 [], p.fail 2) := by unfold defP; simp only []; rw [if_pos h]
theorem def_skip {p : PS} (h : ¬ defKind p.peek < 0) : p.skip = p.took (wordAt (defKind p.peek)) := by
 obtain ⟨h1, h2⟩ := def_word (s := p.peek) (by omega)
 rw [h1, took_is (is_iff.2 ⟨h2, rfl⟩)]
section
variable {p q : PS} {t : Str} {k : Int} (hk : defKind p.peek = k) (h : ¬ k < 0) (hn : nameP (p.took (wordAt k)) = (t, q))
include hk h hn
theorem def_block (h5 : k = 5 ∨ k = 6) : defP false p = (.mk k t 0 [(blockP false (q.l.length + 1) q).1], (blockP false (q.l.length + 1) q).2) := by
 subst hk
 unfold defP; simp only []; rw [if_neg h, def_skip h, hn, if_pos h5]
theorem def_rec (h1 : k = 1) : defP false p = (.mk k t 0 (itemsF ((q.need [123]).l.length + 1) [] (q.need [123])).1, (itemsF ((q.need [123]).l.length + 1) [] (q.need [123])).2.need [125]) := by
 subst hk
 unfold defP; simp only []; rw [if_neg h, def_skip h, hn, if_neg (by omega), if_pos h1]
theorem def_var (h1 : k = 0) : defP false p = (.mk k t (numberP (q.need [61])).1 [], (numberP (q.need [61])).2.need [59]) := by
 subst hk
 unfold defP; simp only []; rw [if_neg h, def_skip h, hn, if_neg (by omega), if_neg (by omega), if_pos h1]
theorem def_chan (h1 : k = 2) : defP false p = (.mk k t (numeralP 2 q).1 [], (numeralP 2 q).2.need [59]) := by
 subst hk
 unfold defP; simp only []; rw [if_neg h, def_skip h, hn, if_neg (by omega), if_neg (by omega), if_neg (by omega), if_pos h1]
theorem def_else (h1 : ¬ (k = 5 ∨ k = 6)) (h2 : ¬ k = 1) (h3 : ¬ k = 0) (h4 : ¬ k = 2) : defP false p = (.mk k t 0 [], q.need [59]) := by
 subst hk
 unfold defP; simp only []; rw [if_neg h, def_skip h, hn, if_neg h1, if_neg h2, if_neg h3, if_neg h4]
end
theorem items_end {ks : List Nd} {q : PS} (h : q.e = 0 → q.peek = [125]) : ∀ f, itemsF f ks q = (ks, q)
 | 0 => rfl
 | f + 1 => by
  rw [itemsF, if_pos]
  by_cases e : q.e = 0
  ·exact .inr (h e)
  ·exact .inl e
theorem items_go {ks : List Nd} {q : PS} {f : Nat} (hf : q.l.length < f) (h : q.e = 0) (hp : ¬ q.peek = [125]) :
  itemsF f ks q = itemsF (f - 1) (ks ++ [.mk 7 (nameP q).1 (numberP ((nameP q).2.need [61])).1 []]) ((numberP ((nameP q).2.need [61])).2.need [59]) := by
 obtain ⟨k, rfl⟩ : ∃ k, f = k + 1 := ⟨f - 1, by omega⟩
 rw [itemsF, if_neg]
 ·rfl
 ·rintro (e | e)
  ·exact e h
  ·exact hp e
theorem item_eats {q : PS} (h : GoodT q.l) : ((numberP ((nameP q).2.need [61])).2.need [59]).l.length ≤ q.l.length ∧ GoodT ((numberP ((nameP q).2.need [61])).2.need [59]).l ∧
  (((numberP ((nameP q).2.need [61])).2.need [59]).e = 0 → ((numberP ((nameP q).2.need [61])).2.need [59]).l.length < q.l.length) := by
 have g1 := nameP_good h
 have g2 := good_need (s := [61]) g1.2.1
 have g3 := numberP_good g2.2
 have g4 := good_need (s := [59]) g3.2.1
 refine ⟨by omega, g4.2, fun e => ?_⟩
 have e1 := (need_e e).1
 have l1 := is_len e1
 have : (numberP ((nameP q).2.need [61])).2.need [59] = (numberP ((nameP q).2.need [61])).2.skip := by rw [need_is e1, took_is e1]
 rw [this]
 omega
theorem glob0_cells : ∀ x ∈ List.take 26 glob0, (cellsD x).length = 1 := by
 intro x hx
 rw [glob0_take] at hx
 obtain ⟨a, _, rfl⟩ := List.mem_map.1 hx
 rfl
theorem glob0_take7 : List.take 7 glob0 = (wordsL.take 7).map DV.str := rfl
structure DnS where
 n : Int
 q : PS
theorem def_ok (p : PS) (hg : GoodT p.l) (hb : p.l.length ≤ 1000000) : OkG Tryz.prog 52 [.bx 0 0] (psH p) (psH (defP false p).2) (.d (defP false p).1.d) := by
 unfold psH
 refine OkG.cell hT Tryz.func52 (by kernel_rfl) (c := _) rfl Tryz.ntmps52 (by simp) Tryz.results52 fun w0 X hp => ?_
 refine LWp.sz hT hW ?_
 simp
 refine LWp.seq ?_
 have hi := IndexOfStr_ok (wordsL.take 7) p.peek
 have q2 := glob0_len
 rw [← def_idx] at hi
 have hr := def_range (s := p.peek)
 refine LWp.regAny hT hW hMixed (lk [[],[],[1],[0,1,2],[0,1,2,3]]) (lk [[0],[],[],[],[]]) (lk [[],[],[0],[],[]]) (by kernel_rfl) (fun | 8 => some (.gen ⟨[(0, 0)], [], [], psH p, .d (.str p.peek)⟩) | 9 => some <| .plain ⟨.d (I64 (defKind p.peek)), true⟩ | _ => none) (by intro d; first | exact ⟨rfl, fun _ h => h⟩ | (split <;> exact ⟨rfl, fun _ h => h⟩)) ?_
 simp [glob0_take7]
 refine ⟨⟨⟨⟨by omega, glob0_cells⟩, peek_ok p⟩, by simpa using hi⟩, ?_⟩
 refine LWp.seq ?_
 refine LWp.so hT hW (fun | 14 => some (.gen ⟨[(0, 0)], [], [], psH p, .d (.str p.peek)⟩) | _ => none) ?_
 simp [upds_then]
 refine ⟨fun _ => peek_ok p, ?_⟩
 refine LWp.iff ?_
 simp
 refine ⟨fun h2 => ?_, fun h2 h2b => ?_⟩
 ·have h2 : defKind p.peek < 0 := by
   rcases h2 with h | h
   ·exact h
   ·rw [h]; decide
  refine LWp.so hT hW (fun | 18 => some (.gen ⟨[(0, 0)], [], [], psH (p.fail 2), .tup []⟩) | _ => none) ?_
  simp
  refine ⟨fail_ok p 2, ?_⟩
  refine LWp.sz hT hW ?_
  simp
  refine LWp.ret ?_
  simp
  have e := def_neg h2
  refine Weak.closed (x := (defP false p).1.d) (by simp [e]) ?_
  simp
  exact Weak.to [0] [(0, 0)] (by decide) (by decide) (by simp [hp]) (by simp) (by simp [e])
 ·have hlt : ¬ defKind p.peek < 0 := by omega
  refine LWp.skip ?_
  simp
  refine LWp.seq ?_
  have hlt : ¬ defKind p.peek < 0 := by omega
  have wat := word_at (k := defKind p.peek) (by omega) (by omega)
  have htk := take_ok p (wordAt (defKind p.peek))
  refine LWp.ro hT hW (fun | 24 => some (.gen ⟨[(0, 0)], [], [], psH (p.took (wordAt (defKind p.peek))), .d (.bool (p.is (wordAt (defKind p.peek))))⟩) | _ => none) ?_
  simp [wat]
  refine ⟨⟨⟨by omega, by omega⟩, htk⟩, ?_⟩
  refine LWp.seq ?_
  have hna := name_ok (p.took (wordAt (defKind p.peek)))
  have gt := good_took (s := wordAt (defKind p.peek)) hg
  have gl := nameP_good gt
  have lt : (p.took (wordAt (defKind p.peek))).l.length ≤ p.l.length := by unfold PS.took; split; exact skip_len; exact Nat.le_refl _
  refine LWp.ro hT hW (fun | 27 => some (.gen ⟨[(0, 0)], [], [], psH (nameP (p.took (wordAt (defKind p.peek)))).2, .d (.str (nameP (p.took (wordAt (defKind p.peek)))).1)⟩) | _ => none) ?_
  simp
  refine ⟨hna, ?_⟩
  obtain ⟨k, hk⟩ : ∃ k, defKind p.peek = k := ⟨_, rfl⟩
  obtain ⟨⟨t, q⟩, hn⟩ : ∃ x, nameP (p.took (wordAt (defKind p.peek))) = x := ⟨_, rfl⟩
  simp only [hn] at gl
  have lq : q.l.length ≤ p.l.length := by omega
  simp only [hn]
  rw [hk] at hlt hn hr ⊢
  refine LWp.seqCut (ι := DnS) (fun ⟨n, r⟩ => mkEnv [(0, .bx 0 0), (2, .bx 2 0), (4, .bx 4 0)]) (fun ⟨n, r⟩ => mkObs [(0, .box false [.d (tksD r.l), .d (I64 r.e)]), (2, .box false [.d (I64 0), .d (.str []), .d (I64 0), .nl]), (4, .box false [.d (I64 k), .d (.str t), .d (I64 n), .nl])]) (fun ⟨n, r⟩ => defP false p = (.mk k t n [], r.need [59])) ?_ fun ⟨n, r⟩ hc27 => ?_
  ·refine LWp.sz hT hW ?_
   simp
   refine LWp.block ?_
   refine LWp.seqCut (ι := BC) (fun ⟨b⟩ => mkEnv [(0, .bx 0 0), (2, .bx 2 0), (4, .bx 4 0), (29, .d (I64 k)), (30, .d (.bool b))]) (fun ⟨b⟩ => mkObs [(0, .box false [.d (tksD q.l), .d (I64 q.e)]), (2, .box false [.d (I64 0), .d (.str []), .d (I64 0), .nl]), (4, .box false [.d (I64 k), .d (.str t), .d (I64 0), .nl])]) (fun ⟨b⟩ => b = true ↔ (k = 5 ∨ k = 6)) ?_ fun ⟨b⟩ hc10 => ?_
   ·refine LWp.sz hT hW ?_
    simp
    refine LWp.iff ?_
    simp
    refine ⟨fun h8 => ?_, fun h8 => ?_⟩
    ·refine LWp.skip ?_
     simp
     refine cutQ.mk ⟨decide (k = 5)⟩ (Weak.to [0, 2, 4, 29, 30] [(0, 0), (2, 2), (4, 4)] (by decide) (by decide) (by simp [hp]) (by simp) (by simp)) ?_
     simp [h8]
    ·refine LWp.rz hT hW ?_
     simp
     refine cutQ.mk ⟨decide (k = 6)⟩ (Weak.to [0, 2, 4, 29, 30] [(0, 0), (2, 2), (4, 4)] (by decide) (by decide) (by simp [hp]) (by simp) (by simp)) ?_
     simp only [decide_eq_true_eq]; omega
   ·refine LWp.iff ?_
    simp
    refine ⟨fun h10 => ?_, fun h10 => ?_⟩
    ·have q10 := hc10.1 h10
     refine LWp.seq ?_
     have hbl := (Reads.block (q.l.length + 1) (by omega)).ok q (Nat.lt_succ_self _) gl.2.1
     refine LWp.ro hT hW (fun | 34 => some (.gen ⟨[(0, 0)], [], [], psH (blockP false (q.l.length + 1) q).2, .d (blockP false (q.l.length + 1) q).1.d⟩) | _ => none) ?_
     simp
     refine ⟨by simpa using hbl, ?_⟩
     refine LWp.sz hT hW ?_
     simp
     refine LWp.ret ?_
     simp
     have e := def_block hk hlt hn q10
     refine Weak.closed (x := (defP false p).1.d) (by simp [e]) ?_
     simp
     exact Weak.to [0] [(0, 0)] (by decide) (by decide) (by simp [hp]) (by simp) (by simp [e])
    ·have q10 : ¬ (k = 5 ∨ k = 6) := fun z => by simp [hc10.2 z] at h10
     refine LWp.sz hT hW ?_
     simp
     refine LWp.iff ?_
     simp
     refine ⟨fun h12 => ?_, fun h12 => ?_⟩
     ·refine LWp.seq ?_
      have hne := need_ok q [123]
      have gn := good_need (s := [123]) gl.2.1
      refine LWp.ro hT hW (fun | 41 => some (.gen ⟨[(0, 0)], [], [], psH (q.need [123]), .tup []⟩) | _ => none) ?_
      simp
      refine ⟨hne, ?_⟩
      refine LWp.nlCell (fz := false) (cs := [.d (I64 k), .d (.str t), .d (I64 0), .nl]) 4 3 1066 4 (by decide) ⟨by simp, by simp, by simp, ?_⟩
      simp
      refine LWp.seq ?_
      refine LWp.block ?_
      refine LWp.loopW (ι := BlS) (fun ⟨f, ks, r⟩ => mkEnv [(0, .bx 0 0), (2, .bx 2 0), (4, .bx 4 0)]) (fun ⟨f, ks, r⟩ => mkObs [(0, .box false [.d (tksD r.l), .d (I64 r.e)]), (2, .box false [.d (I64 0), .d (.str []), .d (I64 0), .nl]), (4, .box false [.d (I64 k), .d (.str t), .d (I64 0), .ow 1066 0 ks.length]), (1066, .row false 4 (ks.map Nd.d))]) (fun ⟨f, ks, r⟩ => (r.e = 0 → r.l.length < f) ∧ GoodT r.l ∧ r.l.length ≤ p.l.length ∧ ks.length + r.l.length ≤ p.l.length + (if r.e = 0 then 0 else 1) ∧ itemsF ((q.need [123]).l.length + 1) [] (q.need [123]) = itemsF f ks r) (fun ⟨f, ks, r⟩ => 2 * r.l.length + (if r.e = 0 then 1 else 0)) ⟨(q.need [123]).l.length + 1, [], q.need [123]⟩ (Weak.to [0, 2, 4] [(0, 0), (2, 2), (4, 4), (1066, 1066)] (by decide) (by decide) (by simp [hp]) (by simp) (by simp)) (⟨fun _ => Nat.lt_succ_self _, gn.2, by have := gn.1; omega, by have := gn.1; simp only [List.length_nil]; omega, rfl⟩) fun ⟨f, ks, r⟩ hi14 => ?_
      refine LWp.seq ?_
      refine LWp.seq ?_
      have hpk := peek_ok r
      refine LWp.ro hT hW (fun | 49 => some (.gen ⟨[(0, 0)], [], [], psH r, .d (.str r.peek)⟩) | _ => none) ?_
      simp [upds_then]
      refine ⟨fun _ => hpk, ?_⟩
      refine LWp.iff ?_
      simp
      refine ⟨fun g1 g2 => ?_, fun g => ?_⟩
      ·refine LWp.skip ?_
       simp
       refine LWp.block ?_
       refine LWp.seq ?_
       have ha : r.l.length ≤ p.l.length := hi14.2.2.1
       have hks : ks.length + r.l.length ≤ p.l.length := by have z := hi14.2.2.2.1; simp only [g1, if_true] at z; omega
       have hle := item_eats (q := r) hi14.2.1
       have hn15 := name_ok r
       have g15 := nameP_good (p := r) hi14.2.1
       have g16 := good_need (s := [61]) g15.2.1
       refine LWp.ro hT hW (fun | 53 => some (.gen ⟨[(0, 0)], [], [], psH (nameP r).2, .d (.str (nameP r).1)⟩) | _ => none) ?_
       simp
       refine ⟨hn15, ?_⟩
       refine LWp.seq ?_
       have hn16 := need_ok (nameP r).2 [61]
       refine LWp.ro hT hW (fun | 56 => some (.gen ⟨[(0, 0)], [], [], psH ((nameP r).2.need [61]), .tup []⟩) | _ => none) ?_
       simp
       refine ⟨hn16, ?_⟩
       refine LWp.seq ?_
       have hn17 := number_ok ((nameP r).2.need [61]) g16.2
       refine LWp.ro hT hW (fun | 58 => some (.gen ⟨[(0, 0)], [], [], psH (numberP ((nameP r).2.need [61])).2, .d (I64 (numberP ((nameP r).2.need [61])).1)⟩) | _ => none) ?_
       simp
       refine ⟨hn17, ?_⟩
       refine LWp.seq ?_
       have hn18 := need_ok (numberP ((nameP r).2.need [61])).2 [59]
       refine LWp.ro hT hW (fun | 61 => some (.gen ⟨[(0, 0)], [], [], psH ((numberP ((nameP r).2.need [61])).2.need [59]), .tup []⟩) | _ => none) ?_
       simp
       refine ⟨hn18, ?_⟩
       refine LWp.rz hT hW ?_
       simp
       refine ⟨⟨by omega, by omega⟩, ?_⟩
       refine loopQ.mk ⟨f - 1, ks ++ [.mk 7 (nameP r).1 (numberP ((nameP r).2.need [61])).1 []], (numberP ((nameP r).2.need [61])).2.need [59]⟩ (Weak.to [0, 2, 4] [(0, 0), (2, 2), (4, 4), (66, 1066)] (by decide) (by decide) (by simp [hp]) (by simp) (by simp)) ?_ ?_
       ·refine ⟨fun e => ?_, hle.2.1, ?_, ?_, ?_⟩
        ·show ((numberP ((nameP r).2.need [61])).2.need [59]).l.length < f - 1
         have z := hi14.1 g1
         have h := hle.2.2 e
         omega
        ·show ((numberP ((nameP r).2.need [61])).2.need [59]).l.length ≤ p.l.length
         omega
        ·show (ks ++ [Nd.mk 7 (nameP r).1 (numberP ((nameP r).2.need [61])).1 []]).length + ((numberP ((nameP r).2.need [61])).2.need [59]).l.length ≤ p.l.length + (if ((numberP ((nameP r).2.need [61])).2.need [59]).e = 0 then 0 else 1)
         rw [List.length_append, List.length_singleton]
         by_cases e : ((numberP ((nameP r).2.need [61])).2.need [59]).e = 0
         ·rw [if_pos e]
          have h := hle.2.2 e
          omega
         ·rw [if_neg e]; omega
        ·rw [hi14.2.2.2.2]; exact items_go (hi14.1 g1) g1 g2
       ·show 2 * ((numberP ((nameP r).2.need [61])).2.need [59]).l.length + (if ((numberP ((nameP r).2.need [61])).2.need [59]).e = 0 then 1 else 0) < 2 * r.l.length + (if r.e = 0 then 1 else 0)
        rw [if_pos g1]
        by_cases e : ((numberP ((nameP r).2.need [61])).2.need [59]).e = 0
        ·rw [if_pos e]
         have h := hle.2.2 e
         omega
        ·rw [if_neg e]; omega
      ·refine LWp.exit ?_
       simp
       refine LWp.seq ?_
       have hn20 := need_ok r [125]
       refine LWp.ro hT hW (fun | 69 => some (.gen ⟨[(0, 0)], [], [], psH (r.need [125]), .tup []⟩) | _ => none) ?_
       simp
       refine ⟨hn20, ?_⟩
       refine LWp.sz hT hW ?_
       simp
       refine LWp.ret ?_
       simp
       have e : defP false p = (.mk k t 0 ks, r.need [125]) := by rw [def_rec hk hlt hn h12, hi14.2.2.2.2, items_end g]
       refine Weak.closed (x := (defP false p).1.d) (by simp [e]) ?_
       simp
       exact Weak.to [0] [(0, 0)] (by decide) (by decide) (by simp [hp]) (by simp) (by simp [e])
     ·refine LWp.sz hT hW ?_
      simp
      refine LWp.iff ?_
      simp
      refine ⟨fun h22 => ?_, fun h22 => ?_⟩
      ·refine LWp.seq ?_
       have hne := need_ok q [61]
       have gn := good_need (s := [61]) gl.2.1
       refine LWp.ro hT hW (fun | 74 => some (.gen ⟨[(0, 0)], [], [], psH (q.need [61]), .tup []⟩) | _ => none) ?_
       simp
       refine ⟨hne, ?_⟩
       have hnu := number_ok (q.need [61]) gn.2
       refine LWp.ro hT hW (fun | 76 => some (.gen ⟨[(0, 0)], [], [], psH (numberP (q.need [61])).2, .d (I64 (numberP (q.need [61])).1)⟩) | _ => none) ?_
       simp
       refine ⟨hnu, ?_⟩
       refine cutQ.mk ⟨(numberP (q.need [61])).1, (numberP (q.need [61])).2⟩ (Weak.to [0, 2, 4] [(0, 0), (2, 2), (4, 4)] (by decide) (by decide) (by simp [hp]) (by simp) (by simp)) ?_
       exact def_var hk hlt hn h22
      ·refine LWp.sz hT hW ?_
       simp
       refine LWp.iff ?_
       simp
       refine ⟨fun h25 => ?_, fun h25 => ?_⟩
       ·have hnu := numeral_ok q 2 gl.2.1 (by decide)
        refine LWp.ro hT hW (fun | 81 => some (.gen ⟨[(0, 0)], [], [], psH (numeralP 2 q).2, .d (I64 (numeralP 2 q).1)⟩) | _ => none) ?_
        simp
        refine ⟨hnu, ?_⟩
        refine cutQ.mk ⟨(numeralP 2 q).1, (numeralP 2 q).2⟩ (Weak.to [0, 2, 4] [(0, 0), (2, 2), (4, 4)] (by decide) (by decide) (by simp [hp]) (by simp) (by simp)) ?_
        exact def_chan hk hlt hn h25
       ·refine LWp.skip ?_
        simp
        refine cutQ.mk ⟨0, q⟩ (Weak.to [0, 2, 4] [(0, 0), (2, 2), (4, 4)] (by decide) (by decide) (by simp [hp]) (by simp) (by simp)) ?_
        exact def_else hk hlt hn q10 h12 h22 h25
  ·refine LWp.seq ?_
   have hne := need_ok r [59]
   refine LWp.ro hT hW (fun | 84 => some (.gen ⟨[(0, 0)], [], [], psH (r.need [59]), .tup []⟩) | _ => none) ?_
   simp
   refine ⟨hne, ?_⟩
   refine LWp.sz hT hW ?_
   simp
   refine LWp.ret ?_
   simp
   refine Weak.closed (x := (defP false p).1.d) (by simp [hc27]) ?_
   simp
   exact Weak.to [0] [(0, 0)] (by decide) (by decide) (by simp [hp]) (by simp) (by simp [hc27])
end
open Go.Proofs
section
attribute [local simp] Res.cond Nd.d_eq nd_t nd_dr nd_td ndsD evalIndex retGC_ret tksD psH upds_same
theorem parse_left {s : Str} {R : Nd × PS} (hR : defP false ⟨(scanS s).1, 0⟩ = R) (hl : s.length ≤ 1024) {x : Tk} {r : List Tk} (h : R.2.l = x :: r) : parseS s = (zeroNd, x.at_, if R.2.e ≠ 0 then R.2.e else 2) := by
 unfold parseS; rw [if_neg (by omega)]; simp only []; rw [hR, h]
theorem parse_short {s : Str} {R : Nd × PS} (hR : defP false ⟨(scanS s).1, 0⟩ = R) (hl : s.length ≤ 1024) (h : R.2.l = []) (h2 : ¬ R.2.e = 0 ∨ (scanS s).2 < s.length) : parseS s = (zeroNd, (scanS s).2, 2) := by
 unfold parseS; rw [if_neg (by omega)]; simp only []; rw [hR, h]; simp only []; rw [if_pos h2]
theorem parse_end {s : Str} {R : Nd × PS} (hR : defP false ⟨(scanS s).1, 0⟩ = R) (hl : s.length ≤ 1024) (h : R.2.l = []) (h2 : ¬ (¬ R.2.e = 0 ∨ (scanS s).2 < s.length)) : parseS s = if validB R.1 then (R.1, 0, 0) else (zeroNd, 0, 4) := by
 unfold parseS; rw [if_neg (by omega)]; simp only []; rw [hR, h]; simp only []; rw [if_neg h2]
theorem Parse_step (s : Str) (R : Nd × PS) (hR : defP false ⟨(scanS s).1, 0⟩ = R) (hD : s.length ≤ 1024 → OkG Tryz.prog 52 [.bx 0 0] (psH ⟨(scanS s).1, 0⟩) (psH R.2) (.d R.1.d)) (hw : s.length ≤ 1024 → weighN R.1 ≤ 1000000000) : Ok Tryz.prog 25 [.str s] ⟨.tup [.d (parseS s).1.d, .d (I64 (parseS s).2.1), .d (I64 (parseS s).2.2)], false⟩ := by
 refine Ok.many hT Tryz.func25 (by kernel_rfl) (c := _) rfl Tryz.ntmps25 (by simp) Tryz.results25 (by simp) (by rfl) fun w0 X hp => ?_
 refine LWp.sz hT hW ?_
 simp
 refine LWp.seq ?_
 refine LWp.sz hT hW ?_
 simp
 refine LWp.iff ?_
 simp
 refine ⟨fun h1 => ?_, fun h1 => ?_⟩
 ·refine LWp.sz hT hW ?_
  simp
  refine LWp.ret ?_
  have e : parseS s = (zeroNd, 1024, 4) := by unfold parseS; rw [if_pos (by omega)]
  simp [e, zeroNd]
 ·refine LWp.skip ?_
  simp
  refine LWp.seq ?_
  have hs := scan_ok s (by omega)
  refine LWp.ro hT hW (fun | 15 => some <| .plain ⟨.tup [.d (.sl ((scanS s).1.map Tk.d)), .d (I64 (scanS s).2)], true⟩ | _ => none) ?_
  simp [evalExtract]
  refine ⟨hs, ?_⟩
  refine LWp.sz hT hW ?_
  simp
  refine LWp.seq ?_
  have hd := hD (by omega)
  refine LWp.ro hT hW (fun | 22 => some (.gen ⟨[(20, 0)], [], [], psH R.2, .d R.1.d⟩) | _ => none) ?_
  simp
  refine ⟨by simpa using hd, ?_⟩
  refine LWp.seq ?_
  refine LWp.block ?_
  refine LWp.sz hT hW ?_
  simp
  refine LWp.iff ?_
  simp
  refine ⟨fun g1 g2 => ?_, fun g => ?_⟩
  ·refine LWp.seq ?_
   obtain ⟨x, r, hxr⟩ := List.exists_cons_of_length_pos g2
   have hx2 : (cellsD x.d).length = 2 := rfl
   refine LWp.regAny hT hW hMixed (lk [[],[],[1],[1,2],[1,2,3],[1,2,3,4],[1,2,3,4,5],[1,2,3,4,5,6],[],[8],[8,9],[8,9,10],[0],[0,1,2,3,4,5,6,7,12],[0,1,2,3,4,5,6,7,8,9,10,11,12,13]]) (lk [[],[2],[2],[2],[2],[2],[2],[2],[2],[2],[2],[2],[],[],[]]) (lk [[],[],[],[],[],[],[],[],[],[],[],[],[2],[],[]]) (by kernel_rfl) (fun _ => none) (fun _ => ⟨rfl, fun _ h => h⟩) ?_
   simp [hxr, Tk.d]
   refine LWp.ret ?_
   have e := parse_left hR (by omega) hxr
   simp [e, zeroNd, g1]
  ·refine LWp.sz hT hW ?_
   simp
   refine LWp.iff ?_
   simp
   refine ⟨fun h8 => ?_, fun h8 => ?_⟩
   ·refine LWp.seq ?_
    obtain ⟨x, r, hxr⟩ := List.exists_cons_of_length_pos h8
    refine LWp.regAny hT hW hMixed (lk [[],[],[1],[1,2],[1,2,3],[1,2,3,4],[1,2,3,4,5],[1,2,3,4,5,6],[0],[0,1,2,3,4,5,6,7,8],[0,1,2,3,4,5,6,7,8,9]]) (lk [[],[2],[2],[2],[2],[2],[2],[2],[],[],[]]) (lk [[],[],[],[],[],[],[],[],[2],[],[]]) (by kernel_rfl) (fun _ => none) (fun _ => ⟨rfl, fun _ h => h⟩) ?_
    simp [hxr, Tk.d]
    refine LWp.ret ?_
    have e := parse_left hR (by omega) hxr
    have g9 : R.2.e = 0 := Classical.byContradiction fun q => by have := g q; rw [this] at hxr; cases hxr
    simp [e, zeroNd, g9]
   ·refine LWp.sz hT hW ?_
    simp
    refine LWp.iff ?_
    simp
    refine ⟨fun h10 => ?_, fun h10 h11 => ?_⟩
    ·refine LWp.sz hT hW ?_
     simp
     refine LWp.ret ?_
     have e := parse_short hR (by omega) h8 h10
     simp [e, zeroNd]
    ·refine LWp.seq ?_
     have hv := Valid_ok R.1 (hw (by omega))
     refine LWp.ro hT hW (fun | 80 => some <| .plain ⟨.d (.bool (validB R.1)), true⟩ | _ => none) ?_
     simp
     refine ⟨by simpa using hv, ?_⟩
     refine LWp.iff ?_
     simp
     refine ⟨fun h12 => ?_, fun h12 => ?_⟩
     ·refine LWp.sz hT hW ?_
      simp
      refine LWp.ret ?_
      have e := parse_end hR (by omega) h8 (by omega)
      simp [e, h12, zeroNd]
     ·refine LWp.skip ?_
      simp
      refine LWp.sz hT hW ?_
      simp
      refine LWp.ret ?_
      have e := parse_end hR (by omega) h8 (by omega)
      simp [e, h12]
end
end Go.Eng
namespace Go.Eng
def Wt (x : PS → Nd × PS) : Prop := ∀ p : PS, GoodT p.l → weighN (x p).1 + 41 * (x p).2.l.length ≤ 41 * p.l.length + 40 ∧ GoodT (x p).2.l
theorem place_wt : Wt placeP := fun p h => by
 have a := nameP_good h
 have t1 := name_tl h
 unfold placeP
 split
 ·have b := nameP_good (good_skip a.2.1)
  have t2 := name_tl (p := (nameP p).2.skip) (good_skip a.2.1)
  have s := skip_len (p := (nameP p).2)
  refine ⟨?_, b.2.1⟩
  simp only [weighN, weighL, List.length_append, List.length_cons]
  omega
 ·refine ⟨?_, a.2.1⟩
  simp only [weighN, weighL]
  omega
theorem fact_wt {ex : PS → Nd × PS} (hx : Wt ex) : Wt (factP ex) := fun p h => by
 unfold factP
 split
 ·have a := hx p.skip (good_skip h)
  have s := skip_len (p := p)
  have n := need_le (p := (ex p.skip).2) (s := [41])
  exact ⟨by simp only; omega, (good_need a.2).2⟩
 ·split
  ·have s := skip_len (p := p)
   exact ⟨by simp only [weighN, weighL, List.length_nil]; omega, good_skip h⟩
  ·split
   ·split
    ·have a := numeralP_good (k := 32) h
     exact ⟨by simp only [weighN, weighL, List.length_nil]; omega, a.2.1⟩
    ·split
     ·have a := localP_good h
      have t : (localP p).1.length ≤ 17 := by
       by_cases q : p.peek.take 1 = [36]
       ·rw [(local_is q).2]
        have := peek_tl h
        simp only [List.length_drop]; omega
       ·rw [local_not q]; simp
      exact ⟨by simp only [weighN, weighL]; omega, a.2.1⟩
     ·exact place_wt p h
   ·exact place_wt p h
theorem chainF_wt {lv : Int} {x : PS → Nd × PS} (hx : Wt x) (B : Nat) : ∀ (f : Nat) (n : Nd) (p : PS), GoodT p.l → weighN n + 41 * p.l.length ≤ B → weighN (chainF lv x f n p).1 + 41 * (chainF lv x f n p).2.l.length ≤ B ∧ GoodT (chainF lv x f n p).2.l
 | 0, _, _, h, hn => ⟨hn, h⟩
 | f + 1, n, p, h, hn => by
  have o := good_op (lv := lv) h
  unfold chainF
  split
  ·exact ⟨hn, h⟩
  ·split
   ·exact ⟨by simp only; omega, o.2⟩
   ·rename_i q
    have ol := op_less (lv := lv) (q := p) (by omega)
    have a := hx (opP lv p).2 o.2
    refine chainF_wt hx B f _ _ a.2 ?_
    simp only [weighN, weighL, List.length_nil]
    omega
theorem chainP_wt {lv : Int} {x : PS → Nd × PS} (hx : Wt x) : Wt (chainP lv x) := fun p h => chainF_wt hx _ _ _ _ (hx p h).2 (hx p h).1
theorem sum_wt {ex : PS → Nd × PS} (hx : Wt ex) : Wt (sumP ex) := chainP_wt (chainP_wt (fact_wt hx))
theorem exprB_wt {ex : PS → Nd × PS} (hx : Wt ex) : Wt (exprB ex) := fun p h => by
 have a := sum_wt hx p h
 have o := good_op (lv := 1) a.2
 by_cases q : 0 ≤ (opP 1 (sumP ex p).2).1
 ·have ol := op_less q
  have b := sum_wt hx (opP 1 (sumP ex p).2).2 o.2
  rw [exprB_bin q]
  refine ⟨?_, b.2⟩
  simp only [weighN, weighL, List.length_nil]
  omega
 ·rw [exprB_one (by omega)]
  exact ⟨by simp only; omega, o.2⟩
theorem exprP_wt : ∀ f, Wt (exprP false f)
 | 0 => fun p h => ⟨by
   have : weighN (default : Nd) ≤ 40 := by decide
   show weighN default + 41 * p.l.length ≤ _
   omega, h⟩
 | f + 1 => fun p h => by
  rw [exprP, if_neg (by simp)]
  exact exprB_wt (exprP_wt f) p h
end Go.Eng
namespace Go.Eng
def Ws (n : Nat) (x : PS → Nd × PS) : Prop := ∀ p : PS, p.l.length < n → GoodT p.l → weighN (x p).1 + 240 * (x p).2.l.length ≤ 240 * p.l.length + 90 ∧ GoodT (x p).2.l ∧ ((x p).2.e = 0 → weighN (x p).1 + 240 * (x p).2.l.length ≤ 240 * p.l.length)
def Wb (n : Nat) (x : PS → Nd × PS) : Prop := ∀ p : PS, p.l.length < n → GoodT p.l → weighN (x p).1 + 240 * (x p).2.l.length ≤ 240 * p.l.length + 91 ∧ GoodT (x p).2.l
theorem weighL_app (a b : List Nd) : weighL (a ++ b) = weighL a + weighL b := by
 induction a with
 | nil => simp [weighL]
 | cons x a ih => simp only [List.cons_append, weighL, ih]; omega
theorem stmtsF_ws {m : Nat} {st : PS → Nd × PS} (hs : Ws m st) (B : Nat) : ∀ (f : Nat) (ks : List Nd) (p : PS), p.l.length < m → GoodT p.l → weighL ks + 240 * p.l.length ≤ B + 90 → (p.e = 0 → weighL ks + 240 * p.l.length ≤ B) →
  weighL (stmtsF st f ks p).1 + 240 * (stmtsF st f ks p).2.l.length ≤ B + 90 ∧ GoodT (stmtsF st f ks p).2.l
 | 0, _, _, _, h, h1, _ => ⟨h1, h⟩
 | f + 1, ks, p, hm, h, h1, h2 => by
  unfold stmtsF
  split
  ·exact ⟨h1, h⟩
  ·rename_i q
   have e0 : p.e = 0 := Classical.byContradiction fun z => q (.inl z)
   have a := hs p hm h
   have b := h2 e0
   refine stmtsF_ws hs B f _ _ (by have := a.1; omega) a.2.1 ?_ fun z => ?_
   ·rw [weighL_app]; simp only [weighL]; have := a.1; omega
   ·rw [weighL_app]; simp only [weighL]; have := a.2.2 z; omega
theorem blockB_wb {m : Nat} {st : PS → Nd × PS} (hs : Ws m st) : Wb m (blockB st) := fun p hm h => by
 have n := need_le (p := p) (s := [123])
 have g := (good_need (s := [123]) h).2
 unfold blockB
 simp only []
 have a := stmtsF_ws hs (240 * (p.need [123]).l.length) ((p.need [123]).l.length + 1) [] (p.need [123]) (by omega) g (by simp only [weighL]; omega) (fun _ => by simp only [weighL]; omega)
 have m := need_le (p := (stmtsF st ((p.need [123]).l.length + 1) [] (p.need [123])).2) (s := [125])
 refine ⟨?_, (good_need a.2).2⟩
 simp only [weighN, List.length_nil]
 have := a.1
 omega
theorem cmdP_wb {ex : PS → Nd × PS} (hx : Wt ex) {k : Int} : ∀ p : PS, GoodT p.l → weighN (cmdP ex k p).1 + 240 * (cmdP ex k p).2.l.length ≤ 240 * p.l.length + 90 ∧ GoodT (cmdP ex k p).2.l := fun p h => by
 have a := cmdA_good (k := k) h
 have t : (cmdA k p).1.length ≤ 17 := by
  unfold cmdA
  split
  ·by_cases q : p.peek.take 1 = [36]
   ·rw [(local_is q).2]
    have := peek_tl h
    simp only [List.length_drop]; omega
   ·rw [local_not q]; simp
  ·split
   ·simp
   ·exact name_tl h
 by_cases h1 : k = 15 ∨ k = 22 ∨ k = 24
 ·rw [cmd_ex h1]
  have b := hx (cmdA k p).2 a.2
  refine ⟨?_, b.2⟩
  simp only [weighN, weighL]; omega
 ·by_cases h2 : k = 16 ∨ k = 23
  ·rw [cmd_loc h1 h2]
   have b := localP_good a.2
   have t2 : (localP (cmdA k p).2).1.length ≤ 17 := by
    by_cases q : (cmdA k p).2.peek.take 1 = [36]
    ·rw [(local_is q).2]
     have := peek_tl a.2
     simp only [List.length_drop]; omega
    ·rw [local_not q]; simp
   refine ⟨?_, b.2.1⟩
   simp only [weighN, weighL]; omega
  ·by_cases h3 : k = 19 ∨ k = 21 ∨ k = 25
   ·rw [cmd_num h1 h2 h3]
    have b := numeralP_good (k := k) a.2
    refine ⟨?_, b.2.1⟩
    simp only [weighN, weighL]; omega
   ·rw [cmd_plain h1 h2 h3]
    refine ⟨?_, a.2⟩
    simp only [weighN, weighL]; omega
end Go.Eng
namespace Go.Eng
theorem place_eats {p : PS} (h : GoodT p.l) (he3 : (placeP p).2.e = 0) : (placeP p).2.l.length < p.l.length := by
 unfold placeP at he3 ⊢
 have nm : (nameP p).2.e = 0 → (nameP p).2.l.length < p.l.length := fun z => by
  cases q : isNameB p.peek with
  | false => rw [name_not q] at z; exact absurd z (fail_e (by decide))
  | true =>
   have ip : p.is p.peek = true := is_iff.2 ⟨fun e => (by rw [e] at q; cases q), rfl⟩
   have lp := is_len ip
   rw [name_is q, took_is ip]
   simp only; omega
 have ng := nameP_good h
 split at he3
 ·rename_i z
  rw [if_pos z]
  have z2 : (nameP p).2.skip.e = 0 := nameP_stk _ he3
  have z3 : (nameP p).2.e = 0 := z2
  have ll := (nameP_good (p := (nameP p).2.skip) (good_skip ng.2.1)).1
  have l3 := skip_len (p := (nameP p).2)
  have := nm z3
  simp only; omega
 ·rename_i z
  rw [if_neg z]
  exact nm he3
theorem stmtB_ws {m : Nat} {ex bl : PS → Nd × PS} (hs : Stk ex) (hx : Wt ex) (hb : Wb m bl) : Ws (m + 1) (stmtB ex bl) := fun p hm h => by
 obtain ⟨k, hk⟩ : ∃ k, kindP p.peek = k := ⟨_, rfl⟩
 by_cases h1 : k = 11 ∨ k = 12
 ·have ip := kind_pos (p := p) (by omega)
  have lp := is_len ip
  rw [← took_is ip] at lp
  have e0 := hx (p.took p.peek) (good_took h)
  have b0 := hb (ex (p.took p.peek)).2 (by have := e0.1; omega) e0.2
  by_cases h2 : k = 11 ∧ (bl (ex (p.took p.peek)).2).2.is sElse = true
  ·rw [st_else hk h2.1 h2.2]
   have l2 := is_len h2.2
   rw [← took_is h2.2] at l2
   have c0 := hb ((bl (ex (p.took p.peek)).2).2.took sElse) (by have := e0.1; have := b0.1; omega) (good_took b0.2)
   refine ⟨?_, c0.2, fun _ => ?_⟩ <;> (simp only [weighN, weighL, List.length_nil]; omega)
  ·rw [st_if hk h1 (fun q => by
    cases z : (bl (ex (p.took p.peek)).2).2.is sElse with
    | false => rfl
    | true => exact absurd ⟨q, z⟩ h2)]
   refine ⟨?_, b0.2, fun _ => ?_⟩ <;> (simp only [weighN, weighL, List.length_nil]; omega)
 ·by_cases h3 : 12 < k
  ·have ip := kind_pos (p := p) (by omega)
   have lp := is_len ip
   rw [← took_is ip] at lp
   have c0 := cmdP_wb hx (k := k) (p.took p.peek) (good_took h)
   rw [st_cmd hk h3]
   have n := need_le (p := (cmdP ex k (p.took p.peek)).2) (s := [59])
   refine ⟨?_, (good_need c0.2).2, fun _ => ?_⟩ <;> (simp only; omega)
  ·by_cases h4 : p.peek.take 1 = [36]
   ·obtain ⟨i1, i2⟩ := local_is h4
    have ip : p.is p.peek = true := is_iff.2 ⟨fun e => (by rw [e] at h4; cases h4), rfl⟩
    have lp := is_len ip
    rw [← took_is ip] at lp
    have t := peek_tl h
    rw [st_local hk h1 h3 h4, i2]
    have n1 := need_le (p := p.took p.peek) (s := [61])
    have e0 := hx ((p.took p.peek).need [61]) (good_need (good_took h)).2
    have n2 := need_le (p := (ex ((p.took p.peek).need [61])).2) (s := [59])
    refine ⟨?_, (good_need e0.2).2, fun _ => ?_⟩ <;> (simp only [weighN, weighL, List.length_drop]; omega)
   ·rw [st_place hk h1 h3 h4]
    have a := place_wt p h
    have le := (placeP_rt (p.l.length + 1) p (Nat.lt_succ_self _) h).1
    have n1 := need_le (p := (placeP p).2) (s := [61])
    have e0 := hx ((placeP p).2.need [61]) (good_need a.2).2
    have n2 := need_le (p := (ex ((placeP p).2.need [61])).2) (s := [59])
    refine ⟨?_, (good_need e0.2).2, fun z => ?_⟩
    ·simp only [weighN, weighL, List.length_nil]; omega
    ·have z : ((ex ((placeP p).2.need [61])).2.need [59]).e = 0 := z
     have pe := place_eats h (need_e (hs _ (need_e z).2)).2
     simp only [weighN, weighL, List.length_nil]; omega
theorem stmtP_ws : ∀ f, Ws f (stmtP false f)
 | 0 => fun p hm _ => absurd hm (Nat.not_lt_zero _)
 | f + 1 => stmtB_ws (exprO_stk false) (fun p h => exprP_wt _ p h) (blockB_wb (stmtP_ws f))
end Go.Eng
namespace Go.Eng
theorem name_eats {p : PS} (z : (nameP p).2.e = 0) : (nameP p).2.l.length < p.l.length := by
 cases q : isNameB p.peek with
 | false => rw [name_not q] at z; exact absurd z (fail_e (by decide))
 | true =>
  have ip : p.is p.peek = true := is_iff.2 ⟨fun e => (by rw [e] at q; cases q), rfl⟩
  have lp := is_len ip
  rw [name_is q, took_is ip]
  simp only; omega
theorem itemsF_ws (B : Nat) : ∀ (f : Nat) (ks : List Nd) (p : PS), GoodT p.l → weighL ks + 240 * p.l.length ≤ B + 90 → (p.e = 0 → weighL ks + 240 * p.l.length ≤ B) →
  weighL (itemsF f ks p).1 + 240 * (itemsF f ks p).2.l.length ≤ B + 90 ∧ GoodT (itemsF f ks p).2.l
 | 0, _, _, h, h1, _ => ⟨h1, h⟩
 | f + 1, ks, p, h, h1, h2 => by
  unfold itemsF
  split
  ·exact ⟨h1, h⟩
  ·rename_i q
   have e0 : p.e = 0 := Classical.byContradiction fun z => q (.inl z)
   have b := h2 e0
   have a := nameP_good h
   have t := name_tl h
   have g1 := good_need (s := [61]) a.2.1
   have v := numberP_good g1.2
   have g2 := good_need (s := [59]) v.2.1
   simp only []
   refine itemsF_ws B f _ _ g2.2 ?_ fun z => ?_
   ·rw [weighL_app]; simp only [weighN, weighL]; omega
   ·have z1 := numberP_stk _ (need_e z).2
    have ne := name_eats (need_e z1).2
    rw [weighL_app]; simp only [weighN, weighL]; omega
theorem defP_weigh {p : PS} (h : GoodT p.l) : weighN (defP false p).1 ≤ 240 * p.l.length + 300 := by
 have s := skip_len (p := p)
 have a := nameP_good (good_skip h)
 have t := name_tl (good_skip h)
 unfold defP
 simp only []
 split
 ·simp only [weighN, weighL, List.length_nil]; omega
 ·split
  ·have b := blockB_wb (stmtP_ws ((nameP p.skip).2.l.length + 1)) (nameP p.skip).2 (Nat.lt_succ_self _) a.2.1
   have b1 : weighN (blockP false ((nameP p.skip).2.l.length + 1) (nameP p.skip).2).1 ≤ 240 * (nameP p.skip).2.l.length + 91 := by
    have := b.1
    show weighN (blockB (stmtP false ((nameP p.skip).2.l.length + 1)) (nameP p.skip).2).1 ≤ _
    omega
   simp only [weighN, weighL]; omega
  ·split
   ·have g1 := good_need (s := [123]) a.2.1
    have i := itemsF_ws (240 * ((nameP p.skip).2.need [123]).l.length) (((nameP p.skip).2.need [123]).l.length + 1) [] ((nameP p.skip).2.need [123]) g1.2 (by simp only [weighL]; omega) (fun _ => by simp only [weighL]; omega)
    have i1 := i.1
    simp only [weighN]; omega
   ·split
    ·simp only [weighN, weighL]; omega
    ·split
     ·simp only [weighN, weighL]; omega
     ·simp only [weighN, weighL]; omega
theorem scanF_len : ∀ (f : Nat) (s : Str) (i : Int), (scanF f s i).1.length ≤ f
 | 0, _, _ => Nat.le_refl _
 | f + 1, s, i => by
  unfold scanF
  split
  ·simp
  ·split
   ·have := scanF_len f (by assumption) (i + 1); omega
   ·split
    ·simp
    ·simp only [List.length_cons]
     exact Nat.succ_le_succ (scanF_len f _ _)
theorem parse_weigh {s : Str} (hl : s.length ≤ 1024) : weighN (defP false ⟨(scanS s).1, 0⟩).1 ≤ 1000000000 := by
 have h1 : (scanS s).1.length ≤ s.length := scanF_len _ _ _
 have h2 := defP_weigh (p := ⟨(scanS s).1, 0⟩) (scanF_good _ _ _)
 have h3 : (PS.mk (scanS s).1 0).l.length = (scanS s).1.length := rfl
 omega
end Go.Eng
namespace Go.Eng
open Go.Proofs
theorem Parse_ok (s : Str) : Ok Tryz.prog 25 [.str s] ⟨.tup [.d (parseS s).1.d, .d (I64 (parseS s).2.1), .d (I64 (parseS s).2.2)], false⟩ :=
 Parse_step s _ rfl (fun hl => def_ok ⟨(scanS s).1, 0⟩ (scanF_good _ _ _) (by have := scanF_len s.length s 0; show (scanF s.length s 0).1.length ≤ 1000000; omega)) fun hl => parse_weigh hl
end Go.Eng
namespace Go.Eng
open Go.Proofs
attribute [local simp] runL stepL evalG evalOp opLV constLV putEnv dstOk upd upds Res.plain Res.cond Res.fail evalBin evalUn seqQ blockQ argsEnv lookL lookH RetIs memless freshL evalPick evalMin bval bok evalLen evalIn strip whenC guardOps guardC slotsOf
 runM foldS stepI stepM maskE wrIn lk renO lookN evalCall evalCallee optAll resLV resObj retLV retObj retsLV retsObj evalLoad evalIndexAddr evalField solid cellsD_agg cellsD_int cellsD_bool cellsD_str cellsD_sl cellsD_ro cellsD_fn cellsL_agg cellsL_dagg cellsL_int cellsL_bool cellsL_str cellsL_sl cellsL_fn cellsL_ow cellsL_bx cellsL_lfn cellsL_nl takeL takeD mkAgg allD eqD eqDs kindsAre kindIs LObj.live TK.isNone TK.agg TK.isBool TK.isStr TK.isStruct Op.operands Call.operands
 evalBuildSlice evalAppend elemsOf evalStore evalBuild fillL lookupF putL evalSlice bound evalConv elemsS freezes frozen loadR
 mkEnv_at mkObs_at close_d close_agg close_ow close_bx close_fn close_nl touch_d touch_agg touch_ow touch_bx touch_fn touch_nl ren_d ren_agg ren_bx ren_rp ren_ow ren_fn ren_nl ren_junk retQ_ret retQ2_ret condQ_bool Nm.d Df.d Ed.d nmsD dfsD strsD edsD retC_ret nm_eq df_eq take_map_len take_map_app
 nm_t nm_d nm_td df_t df_d df_td str_t str_d str_td ed_t ed_d ed_td
 evalAppendIn evalBuildSliceC evalCopyC shortL evalApart evalAppendC evalAppendZ evalAppendG evalCapC isOc TK.isInt close_oc touch_oc ren_oc cellsL_oc evalCut evalClear evalCopy evalMake evalWrap evalCap evalNil isNilC lenL isInp gorc gorc2
 mapOf findD keyEq keyOk evalMakeMap evalRange zeroD zeroDV argsG shutG outN lenv retG0_ret retG0_normal retG1_ret retGR_ret renO close_mp touch_mp ren_mp optAll_d optAll_d' touch_ds cellsL_mp cellsD_mp cellsL_dmp
 evalMapSet evalPtr TK.isPtr evalToArr firstL retN_ret retsQ rvarL close_bm touch_bm ren_bm cellsD_bm cellsL_bm cellsL_lbm
attribute [local simp] cutQ_normal cutQ_ret cutQ_exit
section
set_option maxRecDepth 10000
set_option maxHeartbeats 4000000
attribute [local simp] Res.cond Nd.d_eq nd_t nd_dr nd_td ndsD evalIndex constL1 upds_same one_i one_s one_l all4
theorem lvT_at {i : Nat} {s : Str} (hi : i < 4) (hs : lvT.getD i [] = s) : (lvT.map DV.str)[i]?.getD default = .str s := by
 have hk : i < lvT.length := hi
 subst hs
 rw [List.getElem?_map, List.getElem?_eq_getElem hk]
 simp [List.getD_eq_getElem?_getD, hk]
theorem lvO_at {i : Nat} {o : Int} (hi : i < 4) (hs : lvO.getD i 0 = o) : (lvO.map I64)[i]?.getD default = I64 o := by
 have hk : i < lvO.length := hi
 subst hs
 rw [List.getElem?_map, List.getElem?_eq_getElem hk]
 simp [List.getD_eq_getElem?_getD, hk]
theorem lives06_ok  : Ok Tryz.prog 20 [] ⟨.d (.bool true), true⟩ := by
 refine Ok.ret Tryz.func20 (by kernel_rfl) (c := _) rfl Tryz.ntmps20 (by simp) Tryz.results20 (by intro _ h; cases h) fun w0 X hp => ?_
 obtain ⟨TL, hTL⟩ : ∃ TL, lvT.map DV.str = TL := ⟨_, rfl⟩
 obtain ⟨OL, hOL⟩ : ∃ OL, lvO.map I64 = OL := ⟨_, rfl⟩
 have lT : TL.length = 4 := by rw [← hTL]; rfl
 have lO : OL.length = 4 := by rw [← hOL]; rfl
 have pA := Parse_ok lvA
 have pB := Parse_ok lvB
 have pC := Parse_ok lvC
 rw [lvA_parse] at pA
 rw [lvB_parse] at pB
 rw [lvC_parse] at pC
 obtain ⟨B, hB⟩ : ∃ B, (parseS lvB).1 = B := ⟨_, rfl⟩
 obtain ⟨K, hK⟩ : ∃ K, lvK = K := ⟨_, rfl⟩
 have hK24 : K.kind = 24 := by rw [← hK]; rfl
 have sB := lvB_size
 have wB := lvB_weigh
 have tB := lvB_print
 have hC := lvC_head
 have wC : weighN (.mk 6 [116] 0 [.mk 8 [] 0 [K]]) ≤ 1000000000 := by rw [← hK]; decide
 rw [hB] at pB sB wB tB
 rw [hK] at pC hC
 have kB := size_ok B (by omega)
 have nB := Print_ok B (by omega)
 have nA := Print_ok (.mk 0 [110] (-7) []) (by decide)
 have dC := Head_ok (.mk 6 [116] 0 [.mk 8 [] 0 [K]]) wC
 rw [sB] at kB
 rw [tB] at nB
 rw [lvA_print] at nA
 rw [hC.1, hC.2] at dC
 simp [lvA] at pA
 simp [lvB] at pB
 simp [lvC] at pC
 simp at kB nB nA dC
 refine LWp.sz hT hW ?_
 simp
 refine LWp.so hT hW (fun | 19 => some <| .plain ⟨.tup [.d (Nd.mk 0 [110] (-7) []).d, .d (I64 0), .d (I64 0)], false⟩ | _ => none) ?_
 simp [evalExtract]
 refine ⟨pA, ?_⟩
 refine LWp.so hT hW (fun | 24 => some <| .plain ⟨.tup [.d B.d, .d (I64 0), .d (I64 0)], false⟩ | _ => none) ?_
 simp [evalExtract]
 refine ⟨pB, ?_⟩
 refine LWp.so hT hW (fun | 29 => some <| .plain ⟨.tup [.d (Nd.mk 6 [116] 0 [.mk 8 [] 0 [K]]).d, .d (I64 0), .d (I64 0)], false⟩ | _ => none) ?_
 simp [evalExtract]
 refine ⟨pC, ?_⟩
 refine LWp.sz hT hW ?_
 simp
 refine ⟨by decide, ?_⟩
 refine LWp.weak (Weak.close 10 (x := .sl TL) (by simp [← hTL, lvT])) ?_
 simp
 refine LWp.sz hT hW ?_
 simp
 refine ⟨by decide, ?_⟩
 refine LWp.weak (Weak.close 11 (x := .sl OL) (by simp [← hOL, lvO])) ?_
 simp
 refine LWp.seq ?_
 refine LWp.sz hT hW ?_
 simp
 refine LWp.block ?_
 refine LWp.loopW (ι := Nat) (fun i => mkEnv [(1, .bx 1 0), (3, .d (I64 0)), (4, .bx 4 0), (6, .d (I64 0)), (7, .bx 7 0), (9, .d (I64 0)), (10, .d (.sl TL)), (11, .d (.sl OL)), (12, .d (I64 (i : Nat)))]) (fun i => mkObs [(1, .box false [.d (I64 0), .d (.str [110]), .d (I64 (-7)), .d (.sl [])]), (4, .box false [.d (I64 B.kind), .d (.str B.text), .d (I64 B.n), .d (ndsD B.kids)]), (7, .box false [.d (I64 6), .d (.str [116]), .d (I64 0), .d (.sl [.agg [I64 8, .str [], I64 0, .sl [.agg [I64 K.kind, .str K.text, I64 K.n, .sl (K.kids.map Nd.d)]]]])])]) (fun i => i ≤ 4) (fun i => 4 - i) 0 (Weak.to [1, 3, 4, 6, 7, 9, 10, 11, 12] [(1, 1), (4, 4), (7, 7)] (by decide) (by decide) (by simp [hp]) (by simp) (by simp)) (Nat.zero_le _) fun i hi7 => ?_
 refine LWp.seq ?_
 refine LWp.sz hT hW ?_
 simp
 refine LWp.iff ?_
 simp
 refine ⟨fun h7 => ?_, fun h7 => ?_⟩
 ·refine LWp.skip ?_
  simp
  refine LWp.seq ?_
  refine LWp.block ?_
  refine LWp.seq ?_
  have hi : i < 4 := by omega
  obtain ⟨s, hs⟩ : ∃ s, lvT.getD i [] = s := ⟨_, rfl⟩
  obtain ⟨o, ho⟩ : ∃ o, lvO.getD i 0 = o := ⟨_, rfl⟩
  have hsa := lvT_at hi hs
  have hoa := lvO_at hi ho
  have hps := Parse_ok s
  have hpe := lvT_parse i hi
  rw [hs, ho] at hpe
  rw [hTL] at hsa
  rw [hOL] at hoa
  rw [hpe] at hps
  simp at hps
  obtain ⟨Y, hY⟩ : ∃ Y, (parseS s).1 = Y := ⟨_, rfl⟩
  rw [hY] at hps
  refine LWp.ro hT hW (fun | 44 => some <| .plain ⟨.tup [.d Y.d, .d (I64 o), .d (I64 (if i = 0 then 5 else 2))], false⟩ | _ => none) ?_
  simp [evalExtract, hsa]
  refine ⟨⟨by omega, hps⟩, ?_⟩
  refine LWp.sz hT hW ?_
  simp [hoa]
  refine ⟨by omega, ?_⟩
  refine LWp.iff ?_
  simp
  refine ⟨fun a b => absurd b (by omega), fun _ => ?_⟩
  refine LWp.skip ?_
  simp
  refine LWp.rz hT hW ?_
  simp
  refine ⟨by omega, ?_⟩
  refine loopQ.mk (i + 1) (Weak.to [1, 3, 4, 6, 7, 9, 10, 11, 12] [(1, 1), (4, 4), (7, 7)] (by decide) (by decide) (by simp [hp]) (by simp) (by simp)) ?_ ?_
  ·omega
  ·omega
 ·refine LWp.exit ?_
  simp
  refine LWp.seq ?_
  refine LWp.so hT hW (fun | 93 => some <| .plain ⟨.d (I64 15), true⟩ | _ => none) ?_
  simp
  refine ⟨kB, ?_⟩
  refine LWp.iff ?_
  simp
  refine LWp.skip ?_
  simp
  refine LWp.so hT hW (fun | 98 => some <| .plain ⟨.tup [.d (I64 6), .d (.str [116])], true⟩ | _ => none) ?_
  simp [evalExtract]
  refine ⟨dC, ?_⟩
  refine LWp.so hT hW (fun | 102 => some <| .plain ⟨.d (.str [118, 97, 114, 32, 110, 32, 61, 32, 45, 55, 59]), true⟩ | 106 => some <| .plain ⟨.d (.str lvP), true⟩ | _ => none) ?_
  simp
  refine ⟨⟨nA, nB⟩, ?_⟩
  refine LWp.ret ?_
  simp [lvP, hK24]
end
open Go.Proofs
section
attribute [local simp] Res.cond Nd.d_eq nd_t nd_dr nd_td ndsD evalIndex
theorem treeK_weigh {l : List Int} {k : Int} {t : Str} {X : List Nd} (h : treeS l = .mk k t 0 [.mk 8 [] 0 X]) : weighL X ≤ 1000000 := by
 have := tree_weigh l
 rw [h] at this
 simp only [weighN, weighL] at this
 omega
theorem ones_mem {n : Int} {l : List Int} (hn : n = 0 ∨ n = 1) (hl : MkL l) : MkL (n :: l) := fun x hx => by
 rcases List.mem_cons.1 hx with h | h
 ·omega
 ·exact hl x h
set_option maxRecDepth 10000 in
theorem SourceBlocks_ok (l m : List Int) (hl : MkL l) (hm : MkL m) (hl2 : l.length * 8 ≤ 140737488351232) (hm2 : m.length * 8 ≤ 140737488351232) : Ok Tryz.prog 8 [.sl (l.map I64), .sl (m.map I64)] ⟨.d (.bool true), true⟩ := by
 refine Ok.ret Tryz.func8 (by kernel_rfl) (c := _) rfl Tryz.ntmps8 (by simp) Tryz.results8 (by intro _ h; cases h) fun w0 X hp => ?_
 obtain ⟨tx, X, hx, bX⟩ := tree_blk0 l
 obtain ⟨ty, Y, hy, bY⟩ := tree_blk1 m
 have wX := treeK_weigh hx
 have wY := treeK_weigh hy
 have kx := MTree_ok (0 :: l) (ones_mem (.inl rfl) hl)
 have ky := MTree_ok (1 :: m) (ones_mem (.inr rfl) hm)
 rw [hx] at kx
 rw [hy] at ky
 simp at kx ky
 have h0 : List.take (1 + l.length) (DV.int .i64 0 :: List.map I64 l) = DV.int .i64 0 :: l.map I64 := List.take_of_length_le (by simp; omega)
 have h1 : List.take (1 + m.length) (DV.int .i64 1 :: List.map I64 m) = DV.int .i64 1 :: m.map I64 := List.take_of_length_le (by simp; omega)
 have lX : X.length ≤ 1000000 := Nat.le_trans weigh_len wX
 have lY : Y.length ≤ 1000000 := Nat.le_trans weigh_len wY
 obtain ⟨pa, pb⟩ := blk_one bX bY
 obtain ⟨c1, c2, c3, c4⟩ := blk_both bX bY
 have wXY : weighL (X ++ Y) ≤ 2000000 := by rw [weighL_append]; omega
 have f1 := Print_ok (.mk 5 [112] 0 [.mk 8 [] 0 X]) (by have := blk_weigh (k := 5) (c := 112) wX; omega)
 have f2 := Print_ok (.mk 6 [113] 0 [.mk 8 [] 0 Y]) (by have := blk_weigh (k := 6) (c := 113) wY; omega)
 have f3 := Valid_ok (.mk 5 [112] 0 [.mk 8 [] 0 (X ++ Y)]) (by have := blk_weigh (k := 5) (c := 112) wXY; omega)
 have f4 := Valid_ok (.mk 6 [112] 0 [.mk 8 [] 0 (X ++ Y)]) (by have := blk_weigh (k := 6) (c := 112) wXY; omega)
 have f5 := Print_ok (.mk 5 [112] 0 [.mk 8 [] 0 (X ++ Y)]) (by have := blk_weigh (k := 5) (c := 112) wXY; omega)
 have f6 := Print_ok (.mk 6 [112] 0 [.mk 8 [] 0 (X ++ Y)]) (by have := blk_weigh (k := 6) (c := 112) wXY; omega)
 obtain ⟨SX, hSX⟩ : ∃ SX, stmtsT X = SX := ⟨_, rfl⟩
 obtain ⟨SY, hSY⟩ : ∃ SY, stmtsT Y = SY := ⟨_, rfl⟩
 have sX := bX.len
 have sY := bY.len
 rw [hSX] at pa c1 c2 c3 c4 sX
 rw [hSY] at pb c1 c2 c3 c4 sY
 obtain ⟨sa, hsa⟩ : ∃ sa, sa = [112, 114, 111, 99, 32, 112, 32, 123, 32] ++ (SX ++ [125]) := ⟨_, rfl⟩
 obtain ⟨sb, hsb⟩ : ∃ sb, sb = [116, 101, 115, 116, 32, 113, 32, 123, 32] ++ (SY ++ [125]) := ⟨_, rfl⟩
 obtain ⟨wt, hwt⟩ : ∃ wt, wt = [112, 114, 111, 99, 32, 112, 32, 123, 32] ++ (SX ++ (SY ++ [125])) := ⟨_, rfl⟩
 have la : sa.length = SX.length + 10 := by rw [hsa]; simp only [List.length_append, List.length_cons, List.length_nil]; omega
 have lb : sb.length = SY.length + 10 := by rw [hsb]; simp only [List.length_append, List.length_cons, List.length_nil]; omega
 have lw : wt.length = SX.length + SY.length + 10 := by rw [hwt]; simp only [List.length_append, List.length_cons, List.length_nil]; omega
 have tk : sa.take (sa.length - 1) ++ sb.drop 9 = wt := by
  have e1 : sa = ([112, 114, 111, 99, 32, 112, 32, 123, 32] ++ SX) ++ [125] := by rw [hsa, List.append_assoc]
  have e2 : sa.length - 1 = ([112, 114, 111, 99, 32, 112, 32, 123, 32] ++ SX).length := by rw [la]; simp only [List.length_append, List.length_cons, List.length_nil]; omega
  rw [e2, e1, List.take_left, hsb, hwt, List.append_assoc]
  rfl
 have dr : [116, 101, 115, 116] ++ wt.drop 4 = [116, 101, 115, 116, 32, 112, 32, 123, 32] ++ (SX ++ (SY ++ [125])) := by rw [hwt]; rfl
 rw [← hsa] at pa
 rw [← hsb] at pb
 rw [← hwt] at c1
 rw [← dr] at c2
 obtain ⟨Z, hZ⟩ : ∃ Z, X ++ Y = Z := ⟨_, rfl⟩
 rw [hZ] at c1 c2 c3 c4 f3 f4 f5 f6
 have p5 : printS (.mk 5 [112] 0 [.mk 8 [] 0 Z]) = if SX.length + SY.length + 10 ≤ 1024 then wt else [] := by unfold printS; rw [c3, c1]; simp
 have p6 : printS (.mk 6 [112] 0 [.mk 8 [] 0 Z]) = if SX.length + SY.length + 10 ≤ 1024 then [116, 101, 115, 116] ++ wt.drop 4 else [] := by unfold printS; rw [c4, c2]; simp
 rw [pa] at f1
 rw [pb] at f2
 rw [c3] at f3
 rw [c4] at f4
 rw [p5] at f5
 rw [p6] at f6
 simp at f1 f2
 have hlv := lives06_ok
 have hTk : List.take (X.length + Y.length) (List.map Nd.d X ++ List.map Nd.d Y) = List.map Nd.d Z := by rw [← hZ, List.map_append]; exact List.take_of_length_le (by simp)
 refine LWp.sz hT hW ?_
 simp
 refine LWp.so hT hW (fun | 16 => some <| .plain ⟨.d (.agg [I64 5, .str tx, I64 0, .sl [.agg [I64 8, .str [], I64 0, .sl (X.map Nd.d)]]]), false⟩ | _ => none) ?_
 simp [h0]
 refine ⟨⟨⟨by omega, by omega⟩, kx⟩, ?_⟩
 refine LWp.so hT hW (fun | 20 => some <| .plain ⟨.d (.agg [I64 6, .str ty, I64 0, .sl [.agg [I64 8, .str [], I64 0, .sl (Y.map Nd.d)]]]), false⟩ | _ => none) ?_
 simp [h1]
 refine ⟨⟨⟨by omega, by omega⟩, ky⟩, ?_⟩
 refine LWp.seq ?_
 refine LWp.sz hT hW ?_
 simp
 refine LWp.iff ?_
 simp
 refine LWp.skip ?_
 simp
 refine LWp.seq ?_
 refine LWp.regAny hT hW hMixed (lk [[],[],[1],[1,2],[1,2,3],[1,2,3,4],[0,1,2,3,4,5],[],[7],[7,8],[7,8,9],[7,8,9,10],[0,1,2,3,4,5,6,7,8,9,10,11],[0,1,2,3,4,5,6,7,8,9,10,11,12],[],[0,1,2,3,4,5,6,7,8,9,10,11,12,13,14]]) (lk [[7],[7,31],[7,31],[7,31],[7,31],[7,31],[7],[7,31,37],[7,31,37],[7,31,37],[7,31,37],[7,31,37],[7],[7],[31,37,43],[]]) (lk [[31],[],[],[],[],[],[37,31],[],[],[],[],[],[43,37],[],[7],[7]]) (by kernel_rfl) (fun _ => none) (fun _ => ⟨rfl, fun _ h => h⟩) ?_
 simp
 refine ⟨⟨⟨by omega, by omega⟩, by omega, by omega⟩, ?_⟩
 refine LWp.weak (Weak.shutBox 7 [43] (fz := false) (cs := [.d (I64 8), .d (.str []), .d (I64 0), .ow 43 0 (X.length + Y.length)]) (ds := [I64 8, .str [], I64 0, .sl (Z.map Nd.d)]) (by simp) (by simp) (by simp [hTk]) (by simp [LObj.mut])) ?_
 refine LWp.sz hT hW ?_
 simp
 refine LWp.weak (Weak.shutBox 8 [46] (fz := false) (cs := [.d (I64 5), .d (.str [112]), .d (I64 0), .ow 46 0 1]) (ds := [I64 5, .str [112], I64 0, .sl [.agg [I64 8, .str [], I64 0, .sl (Z.map Nd.d)]]]) (by simp) (by simp) (by simp) (by simp [LObj.mut])) ?_
 refine LWp.sz hT hW ?_
 simp
 refine LWp.weak (Weak.shutBox 9 [49] (fz := false) (cs := [.d (I64 6), .d (.str [112]), .d (I64 0), .ow 49 0 1]) (ds := [I64 6, .str [112], I64 0, .sl [.agg [I64 8, .str [], I64 0, .sl (Z.map Nd.d)]]]) (by simp) (by simp) (by simp) (by simp [LObj.mut])) ?_
 refine LWp.so hT hW (fun | 54 => some <| .plain ⟨.d (.str sa), true⟩ | _ => none) ?_
 simp
 refine ⟨f1, ?_⟩
 refine LWp.so hT hW (fun | 58 => some <| .plain ⟨.d (.str sb), true⟩ | _ => none) ?_
 simp
 refine ⟨f2, ?_⟩
 refine LWp.seq ?_
 refine LWp.sz hT hW ?_
 simp
 refine LWp.iff ?_
 simp
 refine ⟨fun q => absurd q (by omega), fun _ _ => ?_⟩
 refine LWp.skip ?_
 simp
 refine LWp.seq ?_
 refine LWp.regAny hT hW hMixed (lk [[],[],[1],[1,2],[0,1,2,3],[],[5],[0,1,2,3,4,5,6],[0,1,2,3,4,5,6,7]]) (lk [[],[],[],[],[],[],[],[],[]]) (lk [[],[],[],[],[],[],[],[],[]]) (by kernel_rfl) (fun _ => none) (fun _ => ⟨rfl, fun _ h => h⟩) ?_
 simp [tk]
 refine ⟨by (repeat' with_reducible apply And.intro) <;> omega, ?_⟩
 refine LWp.seq ?_
 refine LWp.sz hT hW ?_
 simp
 refine LWp.iff ?_
 simp
 refine ⟨fun h13 => ?_, fun h13 => ?_⟩
 ·have e : decide (SX.length + SY.length + 10 ≤ 1024) = false := decide_eq_false (by omega)
  rw [e] at f3 f4
  simp at f3 f4
  refine LWp.so hT hW (fun | 79 => some <| .plain ⟨.d (.bool false), true⟩ | 83 => some <| .plain ⟨.d (.bool false), true⟩ | 87 => some <| .plain ⟨.d (.bool true), true⟩ | _ => none) ?_
  simp
  refine ⟨by (repeat' with_reducible apply And.intro) <;> first | with_reducible assumption | (intros; with_reducible assumption), ?_⟩
  refine LWp.ret ?_
  simp
 ·have e : decide (SX.length + SY.length + 10 ≤ 1024) = true := decide_eq_true (by omega)
  have e2 : SX.length + SY.length + 10 ≤ 1024 := by omega
  rw [if_pos e2] at f5 f6
  simp at f5 f6
  refine LWp.skip ?_
  simp
  refine LWp.seq ?_
  refine LWp.regAny hT hW hMixed (lk [[],[0],[],[0,1,2],[0,1,2,3],[0,1,2,3,4],[0,1,2,3,4,5],[0,1,2,3,4],[0,1,2,3,4,7],[0,1,2,3,4,7,8],[0,1,2,3,4,5,6,7,8,9],[0,1,2,3,4,5,6,7,8,9,10],[0,1,2,3,4,5,6,7,8,9,10,11],[0,1,2,3,4,5,6,7,8,9,10,11,12],[0,1,2,3,4,5,6,7,8,9,10,11,12,13],[0,1,2,3,4,5,6,7,8,9,10,11,12,13,14]]) (lk [[],[],[90],[],[],[],[],[95],[95],[95],[],[],[],[],[],[]]) (lk [[],[90],[],[],[],[],[95],[],[],[],[],[],[],[102],[],[]]) (by kernel_rfl) (fun | 90 => some <| .plain ⟨.d (.str wt), true⟩ | 95 => some <| .plain ⟨.d (.str ([116, 101, 115, 116] ++ wt.drop 4)), true⟩ | 102 => some <| .plain ⟨.d (.bool true), true⟩ | _ => none) (by intro d; first | exact ⟨rfl, fun _ h => h⟩ | (split <;> exact ⟨rfl, fun _ h => h⟩)) ?_
  simp
  refine ⟨by (repeat' with_reducible apply And.intro) <;> first | with_reducible assumption | omega, ?_⟩
  refine LWp.ret ?_
  simp
end
end Go.Eng
namespace Go.Eng
open Go.RowKit
def offsOk (P : Program) : List Field → Nat → Bool
  | [], _ => true
  | f :: r, o => f.offset == o && offsOk P r (o + P.cellsOf f.type)
def litCells (P : Program) : Nat → TypeId → DataW Unit → Option (List Value)
  | 0, _, _ => none
  | n + 1, t, d => match P.underlying t, d with
    | some (.int _), .lit (.int k z) => some [.int k z]
    | some .string, .lit (.string s) => some [.string ⟨s.toArray⟩]
    | some (.array _ e), .agg ds => match ds.mapM (litCells P n e) with
      | some xs => if xs.all (fun x => x.length == P.cellsOf e) && xs.length * P.cellsOf e == P.cellsOf t then some xs.flatten else none
      | none => none
    | some (.struct fs), .agg ds => match (fs.toList.zip ds).mapM (fun p => litCells P n p.1.type p.2) with
      | some xs => if offsOk P fs.toList 0 && xs.flatten.length == P.cellsOf t && ((fs.toList.zip xs).all fun p => p.2.length == P.cellsOf p.1.type) && ds.length == fs.size then some xs.flatten else none
      | none => none
    | _, _ => none
theorem litChunks {c : Nat} : ∀ (xs : List (List Value)) (cs : List Value), cs.length = xs.length * c → (∀ (i : Nat) (x : List Value), xs[i]? = some x → (cs.drop (i * c)).take c = x) → cs = xs.flatten
  | [], cs, hl, _ => by
    have : cs = [] := List.eq_nil_of_length_eq_zero (by simpa using hl)
    simp [this]
  | x :: xs, cs, hl, h => by
    have h0 := h 0 x rfl
    simp only [Nat.zero_mul, List.drop_zero] at h0
    have hr := litChunks (c := c) xs (cs.drop c) (by rw [List.length_drop, hl, List.length_cons, Nat.succ_mul]; omega) fun i y hy => by
      have := h (i + 1) y (by simpa using hy)
      rw [List.drop_drop, Nat.add_comm c, ← Nat.succ_mul]
      exact this
    rw [List.flatten_cons, ← hr, ← h0, List.take_append_drop]
theorem fields_flat {P : Program} {cs : List Value} : ∀ (fs : List Field) (xs : List (List Value)) (o : Nat), offsOk P fs o = true → xs.length = fs.length → (∀ (i : Nat) (f : Field) (x : List Value), fs[i]? = some f → xs[i]? = some x → (cs.drop f.offset).take (P.cellsOf f.type) = x ∧ x.length = P.cellsOf f.type) →
    (cs.drop o).take xs.flatten.length = xs.flatten
  | [], [], _, _, _, _ => by simp
  | [], _ :: _, _, _, h, _ => by simp at h
  | _ :: _, [], _, _, h, _ => by simp at h
  | f :: fs, x :: xs, o, ho, hl, h => by
    simp only [offsOk, Bool.and_eq_true, beq_iff_eq] at ho
    obtain ⟨h1, h2⟩ := h 0 f x rfl rfl
    have hr := fields_flat fs xs (o + P.cellsOf f.type) ho.2 (by simpa using hl) fun i g y hg hy => h (i + 1) g y (by simpa using hg) (by simpa using hy)
    rw [ho.1] at h1
    rw [List.flatten_cons, List.length_append, List.take_add, h2, h1, List.drop_drop, hr]
theorem lit_cells {enc : TypeId × Value → Unit} {P : Program} {w : World} {base : Nat} {sp : Nat → Bool} {held : Bool} : ∀ (n fuel : Nat) (t : TypeId) (cs : List Value) (d : DataW Unit) (p : List MemPlace) (vs : List Value),
    DataW.trod enc P w base sp held fuel t cs = some (d, p) → litCells P n t d = some vs → cs = vs := by
  intro n
  induction n with
  | zero => intro fuel t cs d p vs _ h; cases h
  | succ n ih =>
    intro fuel t cs d p vs ht hv
    unfold litCells at hv
    split at hv
    · rename_i k' k z hu
      obtain ⟨m, rfl, hx, _⟩ := DataW.trod_int hu ht
      injection hx with e1 e2
      injection e1 with e1
      injection e1 with e3 e4
      subst e3 e4
      exact Option.some.inj hv
    · rename_i s hu
      obtain ⟨b, rfl, hx, _⟩ := DataW.trod_string hu ht
      injection hx with e1 e2
      injection e1 with e1
      injection e1 with e3
      subst e3
      exact Option.some.inj hv
    · rename_i m e ds hu
      cases fuel with
      | zero => simp [DataW.trod] at ht
      | succ fuel =>
        unfold DataW.trod at ht
        rw [hu] at ht
        simp only at ht
        split at ht
        · rename_i hl
          obtain ⟨ys, hm, hx⟩ := Option.map_eq_some_iff.1 ht
          have hds : ys.map (·.1) = ds := by
            have := congrArg Prod.fst hx
            simpa using this
          split at hv
          · rename_i xs hxs
            split at hv
            · rename_i hc
              simp only [Bool.and_eq_true, List.all_eq_true, beq_iff_eq] at hc
              have hv := Option.some.inj hv
              rw [← hv]
              have hyl : ys.length = m := by simpa using Lib.mapM_length hm
              have hxl : xs.length = ds.length := Lib.mapM_length hxs
              have hdl : ds.length = m := by rw [← hds, List.length_map, hyl]
              refine litChunks (c := P.cellsOf e) xs cs (by rw [hl, hc.2]) fun i x hx' => ?_
              have hi : i < m := by have := (List.getElem?_eq_some_iff.1 hx').1; omega
              obtain ⟨y, hy, hf⟩ := Lib.mapM_at hm i i (by simp [hi])
              have hdi : ds[i]? = some y.1 := by rw [← hds, List.getElem?_map, hy]; rfl
              obtain ⟨x2, hx2, hlc⟩ := Lib.mapM_at hxs i _ hdi
              have : x2 = x := Option.some.inj (hx2.symm.trans hx')
              subst this
              exact ih fuel e _ y.1 y.2 x2 hf hlc
            · cases hv
          · cases hv
        · cases ht
    · rename_i fs ds hu
      obtain ⟨ys, m, rfl, hx, hl, hyl, hf⟩ := DataW.trod_struct hu ht
      have hds : ys.map (·.1) = ds := by
        have := congrArg Prod.fst hx
        simpa using this.symm
      split at hv
      · rename_i xs hxs
        split at hv
        · rename_i hc
          simp only [Bool.and_eq_true, List.all_eq_true, beq_iff_eq] at hc
          obtain ⟨⟨⟨c1, c2⟩, c3⟩, c4⟩ := hc
          have hv := Option.some.inj hv
          rw [← hv]
          have hxl : xs.length = (fs.toList.zip ds).length := Lib.mapM_length hxs
          have hzl : (fs.toList.zip ds).length = fs.size := by rw [List.length_zip, c4]; simp
          have key := fields_flat (P := P) (cs := cs) fs.toList xs 0 c1 (by rw [hxl, hzl]; simp) fun i f x hfi hxi => by
            have hfa : fs[i]? = some f := by simpa using hfi
            have hyi := hf i f hfa
            have hi : i < fs.size := (Array.getElem?_eq_some_iff.1 hfa).1
            obtain ⟨y, hy⟩ : ∃ y, ys[i]? = some y := ⟨_, List.getElem?_eq_getElem (by omega)⟩
            rw [hy] at hyi
            have hdi : ds[i]? = some y.1 := by rw [← hds, List.getElem?_map, hy]; rfl
            have hz : (fs.toList.zip ds)[i]? = some (f, y.1) := by
              rw [List.getElem?_zip_eq_some]
              exact ⟨hfi, hdi⟩
            obtain ⟨x2, hx2, hlc⟩ := Lib.mapM_at hxs i _ hz
            have : x2 = x := Option.some.inj (hx2.symm.trans hxi)
            subst this
            refine ⟨ih m f.type _ _ _ x2 hyi hlc, ?_⟩
            have hz2 : (fs.toList.zip xs)[i]? = some (f, x2) := by
              rw [List.getElem?_zip_eq_some]
              exact ⟨hfi, hxi⟩
            exact c3 _ (List.mem_of_getElem? hz2)
          rw [List.drop_zero, c2, ← hl, List.take_length] at key
          exact key
        · cases hv
      · cases hv
    · cases hv
def dvVal : DV → Value
  | .int k n => .int k n
  | .str s => .string ⟨s.toArray⟩
  | _ => undef
def flatB : DV → Bool
  | .int _ _ => true
  | .str _ => true
  | _ => false
theorem glob_one {P : Program} {W : World} {name : String} {g g' : Nat} {t t' : TypeId} {cs : Array Value} {fuel n : Nat} {p : List MemPlace} {d : DataW Unit} {ds : List DV} {enc : TypeId × Value → Unit} {base : Nat} {sp : Nat → Bool} {held : Bool}
    (hg : P.globalNamed name = some g) (hty : (P.globals[g]?).map (·.type) = some t) (hg' : P.globalNamed name = some g') (ht' : (P.globals[g']?).map (·.type) = some t') (hvar : W.var? P name = some cs)
    (hd : DataW.trod enc P W base sp held fuel t' cs.toList = some (d, p)) (hlit : litCells P n t d = some (ds.map dvVal)) (hfl : ds.all flatB = true) :
    RD W (fun _ => False) (.ro ds) (.pointer (some ⟨g, 0, none⟩)) ∧ ∃ arr t fz, W.heap[g]? = some (.cells arr t fz) ∧ arr.size = ds.length := by
  obtain rfl := Option.some.inj (hg.symm.trans hg')
  obtain rfl := Option.some.inj (hty.symm.trans ht')
  have hc := lit_cells n fuel t cs.toList d p _ hd hlit
  have hsz : cs.size = ds.length := by
    have := congrArg List.length hc
    simpa using this
  have hblk : ∃ ty fz, W.heap[g]? = some (.cells cs ty fz) := by
    unfold World.var? at hvar
    rw [hg] at hvar
    simp only [Option.bind_some] at hvar
    split at hvar
    · rename_i c ty fz hh
      cases hvar
      exact ⟨ty, fz, hh⟩
    · cases hvar
  obtain ⟨ty, fz, hblk⟩ := hblk
  refine ⟨.ro ds g 0 (ds.map dvVal) (fun h => h) (by simp) (fun u hu => ?_) (Array.getElem?_eq_some_iff.1 hblk).1 (fun j u hj => ?_) (fun i x v hx hv => ?_), cs, ty, fz, hblk, hsz⟩
  · obtain ⟨x, hx, rfl⟩ := List.mem_map.1 hu
    have := List.all_eq_true.1 hfl x hx
    cases x <;> first | rfl | cases this
  · have := World.var?_cell hg hvar j
    rw [Nat.zero_add, this, ← hj, ← hc]
    simp
  · rw [List.getElem?_map, hx] at hv
    cases hv
    have := List.all_eq_true.1 hfl x (List.mem_of_getElem? hx)
    cases x with
    | int k n => exact .int k n
    | str s => exact .str s
    | _ => cases this
end Go.Eng
namespace Go.Proofs.YtmpfgfdjkjekcaaGreatDoor.crA
open Go.Eng
theorem gl {W : World} (h : laidMetH Tryz.prog Rows.sourceValidRow.laid W) : Glob W (fun _ => False) := by
  have h : laidMet Tryz.prog Rows.sourceValidRow.laid W := h
  obtain ⟨ps, ⟨g1, t1, c1, f1, p1, q1, n1, y1, v1, d1, ⟨g2, t2, c2, f2, p2, q2, n2, y2, v2, d2, ⟨g3, t3, c3, f3, p3, q3, n3, y3, v3, d3, ⟨g4, t4, c4, f4, p4, q4, n4, y4, v4, d4, ⟨g5, t5, c5, f5, p5, q5, n5, y5, v5, d5, ⟨g6, t6, c6, f6, p6, q6, n6, y6, v6, d6, ⟨g7, t7, c7, f7, p7, q7, n7, y7, v7, d7, ⟨g8, t8, c8, f8, p8, q8, n8, y8, v8, d8, _, _⟩, _⟩, _⟩, _⟩, _⟩, _⟩, _⟩, _⟩, _⟩ := h
  intro n cs hn
  match n, hn with
  | 0, hn => cases hn; exact glob_one (n := 4) (g := 0) (t := 81) (by kernel_rfl) (by kernel_rfl) n6 y6 v6 d6 (by kernel_rfl) (by kernel_rfl)
  | 1, hn => cases hn; exact glob_one (n := 4) (g := 1) (t := 99) (by kernel_rfl) (by kernel_rfl) n8 y8 v8 d8 (by kernel_rfl) (by kernel_rfl)
  | 2, hn => cases hn; exact glob_one (n := 4) (g := 2) (t := 142) (by kernel_rfl) (by kernel_rfl) n7 y7 v7 d7 (by kernel_rfl) (by kernel_rfl)
  | 3, hn => cases hn
  | 4, hn => cases hn; exact glob_one (n := 4) (g := 4) (t := 158) (by kernel_rfl) (by kernel_rfl) n3 y3 v3 d3 (by kernel_rfl) (by kernel_rfl)
  | 5, hn => cases hn
  | 6, hn => cases hn
  | 7, hn => cases hn; exact glob_one (n := 4) (g := 7) (t := 177) (by kernel_rfl) (by kernel_rfl) n1 y1 v1 d1 (by kernel_rfl) (by kernel_rfl)
  | 8, hn => cases hn; exact glob_one (n := 4) (g := 8) (t := 178) (by kernel_rfl) (by kernel_rfl) n2 y2 v2 d2 (by kernel_rfl) (by kernel_rfl)
  | n + 9, hn => cases hn
abbrev rangeS : ByteArray := { data := #[118, 97, 108, 117, 101, 32, 111, 117, 116, 32, 111, 102, 32, 114, 97, 110, 103, 101] }
abbrev syntaxS : ByteArray := { data := #[105, 110, 118, 97, 108, 105, 100, 32, 115, 121, 110, 116, 97, 120] }
noncomputable def low : Nat := (World.holding Tryz.prog default ⟨#[], #[], []⟩).heap.size
noncomputable def held (g : Nat) (cs : Array Value) : Array Value := match g with
  | 5 => #[.iface 174 (.pointer (some ⟨low + 1, 0, none⟩))]
  | 6 => #[.iface 174 (.pointer (some ⟨low, 0, none⟩))]
  | g => match globD g with
    | some ds => (ds.map dvVal).toArray
    | none => cs
noncomputable def laidWorld (os : Os) : World :=
  let w0 := World.holding Tryz.prog os ⟨#[.cells #[.string rangeS] 176, .cells #[.string syntaxS] 176], #[], []⟩
  { w0 with heap := (List.range 9).foldl (fun h g => h.modify g fun
      | .cells cs t frozen => .cells (held g cs) t frozen
      | o => o) w0.heap }
theorem laidWorld_met (os : Os) (args : Array Value) : laidMet Tryz.prog Rows.sourceValidRow.laid ((laidWorld os).forCall (fun _ _ => 0) ⟨#[], args, []⟩).memory :=
  laidMet_of_run' 8 (by kernel_rfl) (by kernel_rfl)
end Go.Proofs.YtmpfgfdjkjekcaaGreatDoor.crA
