/-
  Texts of the proofs of this seat, part 8. No condition.
-/
import Derived.Test.YtmpfgfdjkjekcaaGreatDoorMG
import Derived.Lib.ConvBytes
import Derived.Laws.IdiomStrings
import Derived.Test.YtmpfgfdjkjekcaaGreatDoorRows
import Derived.ChangeSame
import Derived.Lib.LaidTab
set_option linter.unusedVariables false
set_option linter.unusedSimpArgs false
namespace Go.Eng
open Go.Proofs
attribute [local simp] runL stepL evalG evalOp opLV constLV putEnv dstOk upd upds Res.plain Res.cond Res.fail evalBin evalUn seqQ blockQ argsEnv lookL lookH RetIs memless freshL evalPick evalMin bval bok evalLen evalIn strip whenC guardOps guardC slotsOf
 runM foldS stepI stepM maskE wrIn lk renO lookN evalCall evalCallee optAll resLV resObj retLV retObj retsLV retsObj evalLoad evalIndexAddr evalField solid cellsD_agg cellsD_int cellsD_bool cellsD_str cellsD_sl cellsD_ro cellsD_fn cellsL_agg cellsL_dagg cellsL_int cellsL_bool cellsL_str cellsL_sl cellsL_fn cellsL_ow cellsL_bx cellsL_lfn cellsL_nl takeL takeD mkAgg allD eqD eqDs kindsAre kindIs LObj.live TK.isNone TK.agg TK.isBool TK.isStr TK.isStruct Op.operands Call.operands
 evalBuildSlice evalAppend elemsOf evalStore evalBuild fillL lookupF putL evalSlice bound evalConv elemsS freezes frozen loadR
 mkEnv_at mkObs_at close_d close_agg close_ow close_bx close_fn close_nl touch_d touch_agg touch_ow touch_bx touch_fn touch_nl ren_d ren_agg ren_bx ren_rp ren_ow ren_fn ren_nl ren_junk retQ_ret retQ2_ret condQ_bool Nm.d Df.d Ed.d nmsD dfsD strsD edsD retC_ret nm_eq df_eq take_map_len take_map_app
 nm_t nm_d nm_td df_t df_d df_td str_t str_d str_td ed_t ed_d ed_td
 evalAppendIn evalBuildSliceC evalCopyC shortL evalApart evalAppendC evalAppendZ evalAppendG evalCapC isOc TK.isInt close_oc touch_oc ren_oc cellsL_oc evalCut evalClear evalCopy evalMake evalWrap evalCap evalNil isNilC lenL isInp gorc gorc2
 mapOf findD keyEq keyOk evalMakeMap evalRange zeroD zeroDV argsG shutG outN lenv retG0_ret retG0_normal retG1_ret retGR_ret renO close_mp touch_mp ren_mp optAll_d optAll_d' touch_ds cellsL_mp cellsD_mp cellsL_dmp
 evalMapSet evalPtr TK.isPtr evalToArr firstL retN_ret retsQ rvarL close_bm touch_bm ren_bm cellsD_bm cellsL_bm cellsL_lbm
attribute [local simp] cutQ_normal cutQ_ret cutQ_exit
section
attribute [local simp] Res.cond Nd.d_eq nd_t nd_dr nd_td ndsD evalIndex retGC_ret constL1 Int.add_assoc upds_same one_i one_s one_l all4 mkH
def Makes (L : List Int) (g : FuncId) (d : Nat) (b : Nat) (x : Nat → Nd × Nat) : Prop := ∀ j, j ≤ b → OkG Tryz.prog g [.bx 0 0, .d (I64 (d : Nat))] (mkH L j) (mkH L (x j).2) (.d (x j).1.d)
structure SmS where
 c : Nat
 ks : List Nd
 j : Nat
theorem somes_end {L : List Int} {st : Nat → Nd × Nat} {m : Nat} {ks : List Nd} {j : Nat} (h : m = 0 ∨ L.length ≤ j) : somesM L st m ks j = (ks, j) := by
 cases m with
 | zero => rfl
 | succ m =>
  unfold somesM
  rw [if_pos (by omega)]
theorem somes_go {L : List Int} {st : Nat → Nd × Nat} {m : Nat} {ks : List Nd} {j : Nat} (h0 : 0 < m) (h : j < L.length) : somesM L st m ks j = somesM L st (m - 1) (ks ++ [(st j).1]) (st j).2 := by
 obtain ⟨k, rfl⟩ : ∃ k, m = k + 1 := ⟨m - 1, by omega⟩
 rw [somesM, if_neg (by omega)]
 rfl
theorem MSome_step (L : List Int) (d i : Nat) (st : Nat → Nd × Nat) (hL : MkL L) (hll : L.length ≤ 1000000) (b : Nat) (hi : i ≤ b) (hb : b ≤ 1800000) (hS : Makes L 37 d (b + 40000) st) (hle : ∀ j, (st j).2 ≤ j + 10000) : OkG Tryz.prog 60 [.bx 0 0, .d (I64 (d : Nat))] (mkH L i) (mkH L (someM L st i).2) (.d (someM L st i).1.d) := by
 unfold mkH
 refine OkG.cell hT Tryz.func60 (by kernel_rfl) (c := _) rfl Tryz.ntmps60 (by simp) Tryz.results60 fun w0 X hp => ?_
 refine LWp.sz hT hW ?_
 simp
 refine LWp.sz hT hW ?_
 simp
 refine LWp.nlCell (fz := false) (cs := [.d (I64 8), .d (.str []), .d (I64 0), .nl]) 5 3 1034 4 (by decide) ⟨by simp, by simp, by simp, ?_⟩
 simp
 refine LWp.seq ?_
 have ha := MTake_ok L i 4 hL (by omega) (by decide)
 have hr := atL_range L i 4 (by decide)
 obtain ⟨n, hn⟩ : ∃ n : Nat, atL L i 4 = (n : Int) := ⟨(atL L i 4).toNat, by omega⟩
 have hsm : someM L st i = (.mk 8 [] 0 (somesM L st n [] (i + 1)).1, (somesM L st n [] (i + 1)).2) := by unfold someM; simp only []; rw [hn]; rfl
 rw [hn] at ha
 refine LWp.ro hT hW (fun | 10 => some (.gen ⟨[(0, 0)], [], [], mkH L (i + 1), .d (I64 (n : Nat))⟩) | _ => none) ?_
 simp
 refine ⟨by simpa using ha, ?_⟩
 refine LWp.seq ?_
 refine LWp.sz hT hW ?_
 simp
 refine LWp.block ?_
 refine LWp.loopW (ι := SmS) (fun ⟨c, ks, j⟩ => mkEnv [(0, .bx 0 0), (1, .d (I64 (d : Nat))), (4, .bx 4 0), (5, .bx 5 0), (6, .d (I64 (n : Nat))), (7, .d (I64 (c : Nat)))]) (fun ⟨c, ks, j⟩ => mkObs [(0, .box false [.d (.sl (L.map I64)), .d (I64 (j : Nat))]), (4, .box false [.d (I64 0), .d (.str []), .d (I64 0), .nl]), (5, .box false [.d (I64 8), .d (.str []), .d (I64 0), .ow 1034 0 ks.length]), (1034, .row false 4 (ks.map Nd.d))]) (fun ⟨c, ks, j⟩ => c ≤ n ∧ j ≤ i + 1 + c * 10000 ∧ ks.length ≤ c ∧ somesM L st n [] (i + 1) = somesM L st (n - c) ks j) (fun ⟨c, ks, j⟩ => n - c) ⟨0, [], i + 1⟩ (Weak.to [0, 1, 4, 5, 6, 7] [(0, 0), (4, 4), (5, 5), (1034, 1034)] (by decide) (by decide) (by simp [hp]) (by simp) (by simp)) (⟨Nat.zero_le _, by omega, Nat.le_refl _, rfl⟩) fun ⟨c, ks, j⟩ hi4 => ?_
 refine LWp.seq ?_
 refine LWp.seq ?_
 refine LWp.regAny hT hW hMixed (lk [[],[],[0,1],[0,1,2],[0,1,2,3],[0,1,2,3,4],[0,1,2,3,4,5],[0,1,2,3,4,5,6],[0,1,2,3],[0,1,2,3,8],[0,1,2,3,8,9],[0,1,2,3,8,9,10],[0,1,2,3,8,9,10,11],[0,1,2,3,4,5,6,7,8,9,10,11,12],[0,1,2,3,4,5,6,7,8,9,10,11,12,13]]) (lk [[],[],[],[],[],[],[],[],[],[],[],[],[],[],[]]) (lk [[],[],[],[],[],[],[],[],[],[],[],[],[],[],[]]) (by kernel_rfl) (fun _ => none) (fun _ => ⟨rfl, fun _ h => h⟩) ?_
 simp
 refine LWp.iff ?_
 simp
 refine ⟨fun g1 g2 => ?_, fun g => ?_⟩
 ·refine LWp.skip ?_
  simp
  refine LWp.seq ?_
  refine LWp.block ?_
  have hs := hS j (by have := hi4.2.1; omega)
  have hkl := hi4.2.2.1
  refine LWp.regAny hT hW hMixed (lk [[],[0],[],[],[2,3],[2,3,4],[0,1,2,3,4,5],[0,1,2,3,4,5,6],[0,1,2,3,4,5,6,7]]) (lk [[0,33],[0,33],[],[],[],[],[],[],[]]) (lk [[],[],[],[],[0],[33],[34,1034],[],[5]]) (by kernel_rfl) (fun | 32 => some (.gen ⟨[(0, 0)], [], [], mkH L (st j).2, .d (st j).1.d⟩) | _ => none) (by intro d; first | exact ⟨rfl, fun _ h => h⟩ | (split <;> exact ⟨rfl, fun _ h => h⟩)) ?_
  simp
  refine ⟨by (repeat' with_reducible apply And.intro) <;> first | omega | (simpa using hs), ?_⟩
  refine LWp.rz hT hW ?_
  simp
  refine ⟨by omega, ?_⟩
  refine loopQ.mk ⟨c + 1, ks ++ [(st j).1], (st j).2⟩ (Weak.to [0, 1, 4, 5, 6, 7] [(0, 0), (4, 4), (5, 5), (34, 1034)] (by decide) (by decide) (by simp [hp]) (by simp) (by simp)) ?_ ?_
  ·refine ⟨(show c + 1 ≤ n by omega), ?_, ?_, ?_⟩
   ·have := hle j
    show (st j).2 ≤ i + 1 + (c + 1) * 10000
    omega
   ·show (ks ++ [(st j).1]).length ≤ c + 1
    rw [List.length_append, List.length_singleton]
    omega
   ·rw [hi4.2.2.2, somes_go (by omega) (by omega)]
    rfl
  ·show n - (c + 1) < n - c
   omega
 ·refine LWp.exit ?_
  simp
  refine LWp.sz hT hW ?_
  simp
  refine LWp.ret ?_
  simp
  have e : someM L st i = (.mk 8 [] 0 ks, j) := by rw [hsm, hi4.2.2.2, somes_end (by rcases Nat.lt_or_ge c n with q | q; exact .inr (by have := g (by omega); omega); exact .inl (by omega))]
  refine Weak.closed (x := (someM L st i).1.d) (by simp [e]) ?_
  simp
  exact Weak.to [0] [(0, 0)] (by decide) (by decide) (by simp [hp]) (by simp) (by simp [e])
structure NdN where
 x : Nd
 j : Nat
def oneK (L : List Int) (d i : Nat) : Int := if d = 0 ∧ (9 + atL L i 17 = 11 ∨ 9 + atL L i 17 = 12) then 24 else 9 + atL L i 17
def oneC (L : List Int) (bl : Nat → Nd × Nat) (k : Int) (i : Nat) : Nd × Nat :=
 if k = 9 then (.mk k (ownM L i) 0 [(valueM L 2 (i + 1)).1], (valueM L 2 (i + 1)).2)
 else if k = 10 then (.mk k [] 0 [(placeM L i).1, (valueM L 2 (placeM L i).2).1], (valueM L 2 (placeM L i).2).2)
 else if k = 11 ∨ k = 12 then
  (if k = 11 then (if atL L (bl (valueM L 1 i).2).2 2 = 0 then (.mk k [] 0 [(valueM L 1 i).1, (bl (valueM L 1 i).2).1, (bl ((bl (valueM L 1 i).2).2 + 1)).1], (bl ((bl (valueM L 1 i).2).2 + 1)).2) else (.mk k [] 0 [(valueM L 1 i).1, (bl (valueM L 1 i).2).1], (bl (valueM L 1 i).2).2 + 1))
  else (.mk k [] 0 [(valueM L 1 i).1, (bl (valueM L 1 i).2).1], (bl (valueM L 1 i).2).2))
 else if k = 13 ∨ k = 14 ∨ k = 17 ∨ k = 18 then (.mk k (callM L i) 0 [], i + 1)
 else if k = 15 ∨ k = 22 then (.mk k (callM L i) 0 [(valueM L 1 (i + 1)).1], (valueM L 1 (i + 1)).2)
 else if k = 16 ∨ k = 23 then (.mk k (callM L i) 0 [.mk 33 (ownM L (i + 1)) 0 []], i + 2)
 else if k = 19 then (.mk k (ownM L i) (2 + atL L (i + 1) 5) [], i + 2)
 else if k = 20 then (.mk k (ownM L i) 0 [], i + 1)
 else if k = 21 then (.mk k [] (1 + atL L i 9) [], i + 1)
 else if k = 25 then (.mk k [] (1 + atL L i 99) [], i + 1)
 else (.mk k [] 0 [(valueM L 2 i).1], (valueM L 2 i).2)
theorem oneB_eq {L : List Int} {d i : Nat} {bl : Nat → Nd × Nat} {k : Int} (hk : oneK L d i = k) : oneB L d bl i = oneC L bl k (i + 1) := by subst hk; rfl
theorem oneK_range {L : List Int} {d i : Nat} {k : Int} (hk : oneK L d i = k) : 9 ≤ k ∧ k ≤ 25 ∧ (k = 11 ∨ k = 12 → 0 < d) := by
 subst hk
 have h := atL_range L i 17 (by decide)
 unfold oneK
 split <;> omega
theorem upds_mk {c : Prop} [Decidable c] {f : Nat → LObj} {l : DV} {a b : Int} {x : Nat} (h : f 0 = .box false [.d l, .d (I64 b)]) :
  upds f (if c then [(0, .box false [.d l, .d (I64 a)])] else []) x = if x = 0 then .box false [.d l, .d (I64 (if c then a else b))] else f x := by
 by_cases hc : c
 ·simp only [hc, if_true, upds, upd]
 ·simp only [hc, if_false, upds]
  split
  ·rename_i e; rw [e]; exact h
  ·rfl
theorem oneB_to {L : List Int} {d i C : Nat} {bl : Nat → Nd × Nat} (hb : ∀ j, (bl j).2 ≤ j + C) : (oneB L d bl i).2 ≤ i + 40 + 2 * C := by
 rw [oneB_eq rfl]
 have v1 := fun j => value_to L 1 j
 have v2 := fun j => value_to L 2 j
 have pl := place_to L (i + 1)
 unfold oneC
 have a1 := v1 (i + 1)
 have a2 := v1 (i + 2)
 have a3 := v2 (i + 1)
 have a4 := v2 (i + 2)
 have a5 := v2 (placeM L (i + 1)).2
 have b1 := hb (valueM L 1 (i + 1)).2
 have b2 := hb ((bl (valueM L 1 (i + 1)).2).2 + 1)
 simp only [Nat.add_assoc, Nat.reduceAdd, Nat.reducePow, Nat.reduceMul] at *
 split
 ·simp only; omega
 ·split
  ·simp only; omega
  ·split
   ·split
    ·split <;> simp only <;> omega
    ·simp only; omega
   ·split
    ·simp only; omega
    ·split
     ·simp only; omega
     ·split
      ·simp only; omega
      ·split
       ·simp only; omega
       ·split
        ·simp only; omega
        ·split
         ·simp only; omega
         ·split <;> simp only <;> omega
set_option maxHeartbeats 1000000 in
theorem MOne_step (L : List Int) (d i : Nat) (bl : Nat → Nd × Nat) (hL : MkL L) (hll : L.length ≤ 1000000) (m : Nat) (hi : i ≤ m) (hm : m ≤ 1800000) (hd : d ≤ 1000) (hB : ∀ e, d = e + 1 → Makes L 60 e (m + 30000) bl) (hle : ∀ j, (bl j).2 ≤ j + 20000) : OkG Tryz.prog 37 [.bx 0 0, .d (I64 (d : Nat))] (mkH L i) (mkH L (oneB L d bl i).2) (.d (oneB L d bl i).1.d) := by
 unfold mkH
 refine OkG.cell hT Tryz.func37 (by kernel_rfl) (c := _) rfl Tryz.ntmps37 (by simp) Tryz.results37 fun w0 X hp => ?_
 refine LWp.sz hT hW ?_
 simp
 refine LWp.seq ?_
 have ha := MTake_ok L i 17 hL (by omega) (by decide)
 have hr := atL_range L i 17 (by decide)
 refine LWp.ro hT hW (fun | 8 => some (.gen ⟨[(0, 0)], [], [], mkH L (i + 1), .d (I64 (atL L i 17))⟩) | _ => none) ?_
 simp
 refine ⟨by (repeat' with_reducible apply And.intro) <;> first | omega | (simpa using ha), ?_⟩
 refine LWp.seqCut (ι := KC) (fun ⟨k⟩ => mkEnv [(0, .bx 0 0), (1, .d (I64 (d : Nat))), (4, .bx 4 0), (5, .bx 5 0)]) (fun ⟨k⟩ => mkObs [(0, .box false [.d (.sl (L.map I64)), .d (I64 ((i + 1 : Nat) : Int))]), (4, .box false [.d (I64 0), .d (.str []), .d (I64 0), .nl]), (5, .box false [.d (I64 k), .d (.str []), .d (I64 0), .nl])]) (fun ⟨k⟩ => oneK L d i = k) ?_ fun ⟨k⟩ hc4 => ?_
 ·refine LWp.sz hT hW ?_
  simp
  refine ⟨fun a b => ⟨a, b⟩, ?_⟩
  refine LWp.iff ?_
  simp
  refine ⟨fun g1 g2 => ?_, fun g => ?_⟩
  ·refine LWp.rz hT hW ?_
   simp
   refine cutQ.mk ⟨24⟩ (Weak.to [0, 1, 4, 5] [(0, 0), (4, 4), (5, 5)] (by decide) (by decide) (by simp [hp]) (by simp) (by simp)) ?_
   unfold oneK; rw [if_pos ⟨by omega, by omega⟩]
  ·refine LWp.skip ?_
   simp
   refine cutQ.mk ⟨9 + atL L i 17⟩ (Weak.to [0, 1, 4, 5] [(0, 0), (4, 4), (5, 5)] (by decide) (by decide) (by simp [hp]) (by simp) (by simp)) ?_
   unfold oneK; rw [if_neg (by omega)]
 ·refine LWp.seqCut (ι := NdN) (fun ⟨x, j⟩ => mkEnv [(0, .bx 0 0), (1, .d (I64 (d : Nat))), (4, .bx 4 0), (5, .bx 5 0)]) (fun ⟨x, j⟩ => mkObs [(0, .box false [.d (.sl (L.map I64)), .d (I64 (j : Nat))]), (4, .box false [.d (I64 0), .d (.str []), .d (I64 0), .nl]), (5, .box false [.d (I64 x.kind), .d (.str x.text), .d (I64 x.n), .d (ndsD x.kids)])]) (fun ⟨x, j⟩ => oneB L d bl i = (x, j)) ?_ fun ⟨x, j⟩ hc41 => ?_
  ·refine LWp.sz hT hW ?_
   simp
   refine LWp.block ?_
   refine LWp.sz hT hW ?_
   simp
   refine LWp.iff ?_
   simp
   refine ⟨fun h5 => ?_, fun h5 => ?_⟩
   ·refine LWp.seq ?_
    have hc6 := MOwn_ok L (i + 1) hL (by omega)
    refine LWp.ro hT hW (fun | 29 => some (.gen ⟨[(0, 0)], [], [], mkH L (i + 2), .d (.str (ownM L (i + 1)))⟩) | _ => none) ?_
    simp
    refine ⟨by simpa using hc6, ?_⟩
    have hv := MValue_ok L hL hll 2 (i + 2) (by omega)
    refine LWp.ro hT hW (fun | 32 => some (.gen ⟨[(0, 0)], [], [], mkH L (valueM L 2 (i + 2)).2, .d (valueM L 2 (i + 2)).1.d⟩) | _ => none) ?_
    simp
    refine ⟨by simpa using hv, ?_⟩
    refine exWeak (Weak.shutBox 5 [33] (fz := false) (cs := [.d (I64 k), .d (.str (ownM L (i + 1))), .d (I64 (0)), .ow 33 0 1]) (ds := [I64 k, .str (ownM L (i + 1)), I64 (0), .sl [((valueM L 2 (i + 2)).1).d]]) (by simp) (by simp) (by simp) (by simp [LObj.mut])) ?_
    simp
    refine cutQ.mk ⟨.mk k (ownM L (i + 1)) (0) [(valueM L 2 (i + 2)).1], (valueM L 2 (i + 2)).2⟩ (Weak.to [0, 1, 4, 5] [(0, 0), (4, 4), (5, 5)] (by decide) (by decide) (by simp [hp]) (by simp) (by simp)) ?_
    rw [oneB_eq hc4]
    unfold oneC
    repeat (first | rw [if_pos (by omega)] | rw [if_neg (by omega)])
   ·refine LWp.sz hT hW ?_
    simp
    refine LWp.iff ?_
    simp
    refine ⟨fun h8 => ?_, fun h8 => ?_⟩
    ·refine LWp.seq ?_
     have hpl := MAt_ok L (i + 1) hL (by omega)
     have tpl := place_to L (i + 1)
     refine LWp.ro hT hW (fun | 38 => some (.gen ⟨[(0, 0)], [], [], mkH L (placeM L (i + 1)).2, .d (placeM L (i + 1)).1.d⟩) | _ => none) ?_
     simp
     refine ⟨by simpa using hpl, ?_⟩
     have hv := MValue_ok L hL hll 2 (placeM L (i + 1)).2 (by omega)
     refine LWp.regAny hT hW hMixed (lk [[],[],[1],[0,1,2],[0,1,2,3],[0,1,2,3,4]]) (lk [[0],[],[],[],[],[]]) (lk [[],[],[0],[42],[],[5]]) (by kernel_rfl) (fun | 41 => some (.gen ⟨[(0, 0)], [], [], mkH L (valueM L 2 (placeM L (i + 1)).2).2, .d (valueM L 2 (placeM L (i + 1)).2).1.d⟩) | _ => none) (by intro d; first | exact ⟨rfl, fun _ h => h⟩ | (split <;> exact ⟨rfl, fun _ h => h⟩)) ?_
     simp
     refine ⟨⟨by simpa using hv, by decide⟩, ?_⟩
     refine exWeak (Weak.shutBox 5 [42] (fz := false) (cs := [.d (I64 k), .d (.str ([])), .d (I64 (0)), .ow 42 0 2]) (ds := [I64 k, .str ([]), I64 (0), .sl [((placeM L (i + 1)).1).d, ((valueM L 2 (placeM L (i + 1)).2).1).d]]) (by simp) (by simp) (by simp) (by simp [LObj.mut])) ?_
     simp
     refine cutQ.mk ⟨.mk k ([]) (0) [(placeM L (i + 1)).1, (valueM L 2 (placeM L (i + 1)).2).1], (valueM L 2 (placeM L (i + 1)).2).2⟩ (Weak.to [0, 1, 4, 5] [(0, 0), (4, 4), (5, 5)] (by decide) (by decide) (by simp [hp]) (by simp) (by simp)) ?_
     rw [oneB_eq hc4]
     unfold oneC
     repeat (first | rw [if_pos (by omega)] | rw [if_neg (by omega)])
    ·refine LWp.seqCut (ι := BC) (fun ⟨b⟩ => mkEnv [(0, .bx 0 0), (1, .d (I64 (d : Nat))), (4, .bx 4 0), (5, .bx 5 0), (25, .d (I64 (k))), (44, .d (.bool b))]) (fun ⟨b⟩ => mkObs [(0, .box false [.d (.sl (L.map I64)), .d (I64 ((i + 1 : Nat) : Int))]), (4, .box false [.d (I64 0), .d (.str []), .d (I64 0), .nl]), (5, .box false [.d (I64 k), .d (.str []), .d (I64 0), .nl])]) (fun ⟨b⟩ => b = true ↔ (k = 11 ∨ k = 12)) ?_ fun ⟨b⟩ hc13 => ?_
     ·refine LWp.sz hT hW ?_
      simp
      refine LWp.iff ?_
      simp
      refine ⟨fun h11 => ?_, fun h11 => ?_⟩
      ·refine LWp.skip ?_
       simp
       refine cutQ.mk ⟨decide (k = 11)⟩ (Weak.to [0, 1, 4, 5, 25, 44] [(0, 0), (4, 4), (5, 5)] (by decide) (by decide) (by simp [hp]) (by simp) (by simp)) ?_
       simp [h11]
      ·refine LWp.rz hT hW ?_
       simp
       refine cutQ.mk ⟨decide (k = 12)⟩ (Weak.to [0, 1, 4, 5, 25, 44] [(0, 0), (4, 4), (5, 5)] (by decide) (by decide) (by simp [hp]) (by simp) (by simp)) ?_
       simp only [decide_eq_true_eq]; omega
     ·refine LWp.iff ?_
      simp
      refine ⟨fun h13 => ?_, fun h13 => ?_⟩
      ·have q13 := hc13.1 h13
       refine LWp.seq ?_
       obtain ⟨e, hde⟩ : ∃ e, d = e + 1 := ⟨d - 1, by have := (oneK_range hc4).2.2 q13; omega⟩
       have hBe := hB e hde
       subst hde
       have hv := MValue_ok L hL hll 1 (i + 1) (by omega)
       have tv := value_to L 1 (i + 1)
       obtain ⟨a, ha1⟩ : ∃ a, a = valueM L 1 (i + 1) := ⟨_, rfl⟩
       rw [← ha1] at hv tv
       have hs1 := hBe a.2 (by omega)
       obtain ⟨b, hb1⟩ : ∃ b, b = bl a.2 := ⟨_, rfl⟩
       have tb := hle a.2
       rw [← hb1] at hs1 tb
       have hs2 := hBe (b.2 + 1) (by omega)
       obtain ⟨c, hc1⟩ : ∃ c, c = bl (b.2 + 1) := ⟨_, rfl⟩
       rw [← hc1] at hs2
       have ht2 := MTake_ok L b.2 2 hL (by omega) (by decide)
       have ez : ((e : Int) + 1) - 1 = e := by omega
       refine LWp.ro hT hW (fun | 48 => some (.gen ⟨[(0, 0)], [], [], mkH L a.2, .d a.1.d⟩) | _ => none) ?_
       simp
       refine ⟨by simpa using hv, ?_⟩
       refine LWp.seq ?_
       refine LWp.regAny hT hW hMixed (lk [[],[0],[],[],[3],[2,3,4],[2,3,4,5],[0,1,2,3,4,5,6],[0,1,2,3,4,5,6,7],[0,1,2,3,4,5,6,7,8]]) (lk [[0,57],[0,57],[],[],[],[],[],[],[],[]]) (lk [[],[],[],[],[],[0],[57],[58,49],[],[5]]) (by kernel_rfl) (fun | 56 => some (.gen ⟨[(0, 0)], [], [], mkH L b.2, .d b.1.d⟩) | _ => none) (by intro d; first | exact ⟨rfl, fun _ h => h⟩ | (split <;> exact ⟨rfl, fun _ h => h⟩)) ?_
       simp [ez]
       refine ⟨by (repeat' with_reducible apply And.intro) <;> first | omega | (simpa using hs1) | decide, ?_⟩
       refine LWp.so hT hW (fun | 65 => some (.gen ⟨[(0, 0)], [], [], mkH L (b.2 + 1), .d (I64 (atL L b.2 2))⟩) | _ => none) ?_
       simp [upds_mk (b := (b.2 : Int))]
       refine ⟨fun _ => by simpa using ht2, ?_⟩
       refine LWp.iff ?_
       simp
       refine ⟨fun g3 g4 => ?_, fun g3 => ?_⟩
       ·simp only [if_pos g3]
        refine LWp.regAny hT hW hMixed (lk [[],[0],[],[],[3],[2,3,4],[2,3,4,5],[0,1,2,3,4,5,6],[0,1,2,3,4,5,6,7],[0,1,2,3,4,5,6,7,8]]) (lk [[0,74],[0,74],[],[],[],[],[],[],[],[]]) (lk [[],[],[],[],[],[0],[74],[75,58],[],[5]]) (by kernel_rfl) (fun | 73 => some (.gen ⟨[(0, 0)], [], [], mkH L c.2, .d c.1.d⟩) | _ => none) (by intro d; first | exact ⟨rfl, fun _ h => h⟩ | (split <;> exact ⟨rfl, fun _ h => h⟩)) ?_
        simp [ez]
        refine ⟨by (repeat' with_reducible apply And.intro) <;> first | omega | (simpa using hs2) | decide, ?_⟩
        refine exWeak (Weak.shutBox 5 [75] (fz := false) (cs := [.d (I64 k), .d (.str ([])), .d (I64 (0)), .ow 75 0 3]) (ds := [I64 k, .str ([]), I64 (0), .sl [(a.1).d, (b.1).d, (c.1).d]]) (by simp) (by simp) (by simp) (by simp [LObj.mut])) ?_
        simp
        refine cutQ.mk ⟨.mk k ([]) (0) [a.1, b.1, c.1], c.2⟩ (Weak.to [0, 1, 4, 5] [(0, 0), (4, 4), (5, 5)] (by decide) (by decide) (by simp [hp]) (by simp) (by simp [g3])) ?_
        rw [oneB_eq hc4]
        unfold oneC
        rw [← ha1, ← hb1, ← hc1, if_neg (by omega), if_neg (by omega), if_pos (by omega), if_pos g3, if_pos g4]
       ·refine LWp.skip ?_
        simp
        refine exWeak (Weak.shutBox 5 [58] (fz := false) (cs := [.d (I64 k), .d (.str ([])), .d (I64 (0)), .ow 58 0 2]) (ds := [I64 k, .str ([]), I64 (0), .sl [(a.1).d, (b.1).d]]) (by simp) (by simp) (by simp) (by simp [LObj.mut])) ?_
        simp
        refine cutQ.mk ⟨.mk k ([]) (0) [a.1, b.1], if k = 11 then b.2 + 1 else b.2⟩ (Weak.to [0, 1, 4, 5] [(0, 0), (4, 4), (5, 5)] (by decide) (by decide) (by simp [hp]) (by simp) (by by_cases hk : k = 11 <;> simp [hk])) ?_
        rw [oneB_eq hc4]
        unfold oneC
        rw [← ha1, ← hb1]
        by_cases hk : k = 11
        ·rw [if_neg (by omega), if_neg (by omega), if_pos (by omega), if_pos hk, if_neg (g3 hk)]
         simp [hk]
        ·rw [if_neg (by omega), if_neg (by omega), if_pos (by omega), if_neg hk]
         simp [hk]
      ·have q13 : ¬ (k = 11 ∨ k = 12) := fun q => by simp [hc13.2 q] at h13
       refine LWp.seqCut (ι := BC) (fun ⟨b⟩ => mkEnv [(0, .bx 0 0), (1, .d (I64 (d : Nat))), (4, .bx 4 0), (5, .bx 5 0), (25, .d (I64 (k))), (77, .d (.bool b))]) (fun ⟨b⟩ => mkObs [(0, .box false [.d (.sl (L.map I64)), .d (I64 ((i + 1 : Nat) : Int))]), (4, .box false [.d (I64 0), .d (.str []), .d (I64 0), .nl]), (5, .box false [.d (I64 k), .d (.str []), .d (I64 0), .nl])]) (fun ⟨b⟩ => b = true ↔ (k = 13 ∨ k = 14 ∨ k = 17 ∨ k = 18)) ?_ fun ⟨b⟩ hc21 => ?_
       ·refine LWp.sz hT hW ?_
        simp
        refine LWp.iff ?_
        simp
        refine ⟨fun h17 => ?_, fun h17 => ?_⟩
        ·refine LWp.skip ?_
         simp
         refine cutQ.mk ⟨decide (k = 13)⟩ (Weak.to [0, 1, 4, 5, 25, 77] [(0, 0), (4, 4), (5, 5)] (by decide) (by decide) (by simp [hp]) (by simp) (by simp)) ?_
         simp [h17]
        ·refine LWp.sz hT hW ?_
         simp
         refine LWp.iff ?_
         simp
         refine ⟨fun h18 => ?_, fun h18 => ?_⟩
         ·refine LWp.skip ?_
          simp
          refine cutQ.mk ⟨decide (k = 14)⟩ (Weak.to [0, 1, 4, 5, 25, 77] [(0, 0), (4, 4), (5, 5)] (by decide) (by decide) (by simp [hp]) (by simp) (by simp)) ?_
          simp [h18]
         ·refine LWp.sz hT hW ?_
          simp
          refine LWp.iff ?_
          simp
          refine ⟨fun h19 => ?_, fun h19 => ?_⟩
          ·refine LWp.skip ?_
           simp
           refine cutQ.mk ⟨decide (k = 17)⟩ (Weak.to [0, 1, 4, 5, 25, 77] [(0, 0), (4, 4), (5, 5)] (by decide) (by decide) (by simp [hp]) (by simp) (by simp)) ?_
           simp [h19]
          ·refine LWp.rz hT hW ?_
           simp
           refine cutQ.mk ⟨decide (k = 18)⟩ (Weak.to [0, 1, 4, 5, 25, 77] [(0, 0), (4, 4), (5, 5)] (by decide) (by decide) (by simp [hp]) (by simp) (by simp)) ?_
           simp only [decide_eq_true_eq]; omega
       ·refine LWp.iff ?_
        simp
        refine ⟨fun h21 => ?_, fun h21 => ?_⟩
        ·have q21 := hc21.1 h21
         have hc6 := MCalled_ok L (i + 1) hL (by omega)
         refine LWp.ro hT hW (fun | 83 => some (.gen ⟨[(0, 0)], [], [], mkH L (i + 2), .d (.str (callM L (i + 1)))⟩) | _ => none) ?_
         simp
         refine ⟨by simpa using hc6, ?_⟩
         refine exWeak (Weak.shutBox 5 [] (fz := false) (cs := [.d (I64 k), .d (.str (callM L (i + 1))), .d (I64 (0)), .nl]) (ds := [I64 k, .str (callM L (i + 1)), I64 (0), .sl []]) (by simp) (by simp) (by simp) (by simp [LObj.mut])) ?_
         simp
         refine cutQ.mk ⟨.mk k (callM L (i + 1)) (0) [], i + 2⟩ (Weak.to [0, 1, 4, 5] [(0, 0), (4, 4), (5, 5)] (by decide) (by decide) (by simp [hp]) (by simp) (by simp)) ?_
         rw [oneB_eq hc4]
         unfold oneC
         repeat (first | rw [if_pos (by omega)] | rw [if_neg (by omega)])
        ·have q21 : ¬ (k = 13 ∨ k = 14 ∨ k = 17 ∨ k = 18) := fun q => by simp [hc21.2 q] at h21
         refine LWp.seqCut (ι := BC) (fun ⟨b⟩ => mkEnv [(0, .bx 0 0), (1, .d (I64 (d : Nat))), (4, .bx 4 0), (5, .bx 5 0), (25, .d (I64 (k))), (85, .d (.bool b))]) (fun ⟨b⟩ => mkObs [(0, .box false [.d (.sl (L.map I64)), .d (I64 ((i + 1 : Nat) : Int))]), (4, .box false [.d (I64 0), .d (.str []), .d (I64 0), .nl]), (5, .box false [.d (I64 k), .d (.str []), .d (I64 0), .nl])]) (fun ⟨b⟩ => b = true ↔ (k = 15 ∨ k = 22)) ?_ fun ⟨b⟩ hc24 => ?_
         ·refine LWp.sz hT hW ?_
          simp
          refine LWp.iff ?_
          simp
          refine ⟨fun h22 => ?_, fun h22 => ?_⟩
          ·refine LWp.skip ?_
           simp
           refine cutQ.mk ⟨decide (k = 15)⟩ (Weak.to [0, 1, 4, 5, 25, 85] [(0, 0), (4, 4), (5, 5)] (by decide) (by decide) (by simp [hp]) (by simp) (by simp)) ?_
           simp [h22]
          ·refine LWp.rz hT hW ?_
           simp
           refine cutQ.mk ⟨decide (k = 22)⟩ (Weak.to [0, 1, 4, 5, 25, 85] [(0, 0), (4, 4), (5, 5)] (by decide) (by decide) (by simp [hp]) (by simp) (by simp)) ?_
           simp only [decide_eq_true_eq]; omega
         ·refine LWp.iff ?_
          simp
          refine ⟨fun h24 => ?_, fun h24 => ?_⟩
          ·have q24 := hc24.1 h24
           refine LWp.seq ?_
           have hc6 := MCalled_ok L (i + 1) hL (by omega)
           refine LWp.ro hT hW (fun | 89 => some (.gen ⟨[(0, 0)], [], [], mkH L (i + 2), .d (.str (callM L (i + 1)))⟩) | _ => none) ?_
           simp
           refine ⟨by simpa using hc6, ?_⟩
           have hv := MValue_ok L hL hll 1 (i + 2) (by omega)
           refine LWp.ro hT hW (fun | 92 => some (.gen ⟨[(0, 0)], [], [], mkH L (valueM L 1 (i + 2)).2, .d (valueM L 1 (i + 2)).1.d⟩) | _ => none) ?_
           simp
           refine ⟨by simpa using hv, ?_⟩
           refine exWeak (Weak.shutBox 5 [93] (fz := false) (cs := [.d (I64 k), .d (.str (callM L (i + 1))), .d (I64 (0)), .ow 93 0 1]) (ds := [I64 k, .str (callM L (i + 1)), I64 (0), .sl [((valueM L 1 (i + 2)).1).d]]) (by simp) (by simp) (by simp) (by simp [LObj.mut])) ?_
           simp
           refine cutQ.mk ⟨.mk k (callM L (i + 1)) (0) [(valueM L 1 (i + 2)).1], (valueM L 1 (i + 2)).2⟩ (Weak.to [0, 1, 4, 5] [(0, 0), (4, 4), (5, 5)] (by decide) (by decide) (by simp [hp]) (by simp) (by simp)) ?_
           rw [oneB_eq hc4]
           unfold oneC
           repeat (first | rw [if_pos (by omega)] | rw [if_neg (by omega)])
          ·have q24 : ¬ (k = 15 ∨ k = 22) := fun q => by simp [hc24.2 q] at h24
           refine LWp.seqCut (ι := BC) (fun ⟨b⟩ => mkEnv [(0, .bx 0 0), (1, .d (I64 (d : Nat))), (4, .bx 4 0), (5, .bx 5 0), (25, .d (I64 (k))), (95, .d (.bool b))]) (fun ⟨b⟩ => mkObs [(0, .box false [.d (.sl (L.map I64)), .d (I64 ((i + 1 : Nat) : Int))]), (4, .box false [.d (I64 0), .d (.str []), .d (I64 0), .nl]), (5, .box false [.d (I64 k), .d (.str []), .d (I64 0), .nl])]) (fun ⟨b⟩ => b = true ↔ (k = 16 ∨ k = 23)) ?_ fun ⟨b⟩ hc28 => ?_
           ·refine LWp.sz hT hW ?_
            simp
            refine LWp.iff ?_
            simp
            refine ⟨fun h26 => ?_, fun h26 => ?_⟩
            ·refine LWp.skip ?_
             simp
             refine cutQ.mk ⟨decide (k = 16)⟩ (Weak.to [0, 1, 4, 5, 25, 95] [(0, 0), (4, 4), (5, 5)] (by decide) (by decide) (by simp [hp]) (by simp) (by simp)) ?_
             simp [h26]
            ·refine LWp.rz hT hW ?_
             simp
             refine cutQ.mk ⟨decide (k = 23)⟩ (Weak.to [0, 1, 4, 5, 25, 95] [(0, 0), (4, 4), (5, 5)] (by decide) (by decide) (by simp [hp]) (by simp) (by simp)) ?_
             simp only [decide_eq_true_eq]; omega
           ·refine LWp.iff ?_
            simp
            refine ⟨fun h28 => ?_, fun h28 => ?_⟩
            ·have q28 := hc28.1 h28
             refine LWp.seq ?_
             have hc6 := MCalled_ok L (i + 1) hL (by omega)
             refine LWp.ro hT hW (fun | 99 => some (.gen ⟨[(0, 0)], [], [], mkH L (i + 2), .d (.str (callM L (i + 1)))⟩) | _ => none) ?_
             simp
             refine ⟨by simpa using hc6, ?_⟩
             have hc7 := MOwn_ok L (i + 2) hL (by omega)
             refine LWp.ro hT hW (fun | 102 => some (.gen ⟨[(0, 0)], [], [], mkH L (i + 3), .d (.str (ownM L (i + 2)))⟩) | _ => none) ?_
             simp
             refine ⟨by simpa using hc7, ?_⟩
             refine exWeak (Weak.shutBox 5 [104] (fz := false) (cs := [.d (I64 k), .d (.str (callM L (i + 1))), .d (I64 (0)), .ow 104 0 1]) (ds := [I64 k, .str (callM L (i + 1)), I64 (0), .sl [(Nd.mk 33 (ownM L (i + 2)) 0 []).d]]) (by simp) (by simp) (by simp) (by simp [LObj.mut])) ?_
             simp
             refine cutQ.mk ⟨.mk k (callM L (i + 1)) (0) [Nd.mk 33 (ownM L (i + 2)) 0 []], i + 3⟩ (Weak.to [0, 1, 4, 5] [(0, 0), (4, 4), (5, 5)] (by decide) (by decide) (by simp [hp]) (by simp) (by simp)) ?_
             rw [oneB_eq hc4]
             unfold oneC
             repeat (first | rw [if_pos (by omega)] | rw [if_neg (by omega)])
            ·have q28 : ¬ (k = 16 ∨ k = 23) := fun q => by simp [hc28.2 q] at h28
             refine LWp.sz hT hW ?_
             simp
             refine LWp.iff ?_
             simp
             refine ⟨fun h30 => ?_, fun h30 => ?_⟩
             ·refine LWp.seq ?_
              have hc6 := MOwn_ok L (i + 1) hL (by omega)
              refine LWp.ro hT hW (fun | 109 => some (.gen ⟨[(0, 0)], [], [], mkH L (i + 2), .d (.str (ownM L (i + 1)))⟩) | _ => none) ?_
              simp
              refine ⟨by simpa using hc6, ?_⟩
              have hc7 := MTake_ok L (i + 2) 5 hL (by omega) (by decide)
              have hr7 := atL_range L ((i : Int) + 2) 5 (by decide)
              refine LWp.ro hT hW (fun | 112 => some (.gen ⟨[(0, 0)], [], [], mkH L (i + 3), .d (I64 (atL L ((i : Int) + 2) 5))⟩) | _ => none) ?_
              simp
              refine ⟨⟨by simpa using hc7, by omega⟩, ?_⟩
              refine exWeak (Weak.shutBox 5 [] (fz := false) (cs := [.d (I64 k), .d (.str (ownM L (i + 1))), .d (I64 (2 + atL L ((i : Int) + 2) 5)), .nl]) (ds := [I64 k, .str (ownM L (i + 1)), I64 (2 + atL L ((i : Int) + 2) 5), .sl []]) (by simp) (by simp) (by simp) (by simp [LObj.mut])) ?_
              simp
              refine cutQ.mk ⟨.mk k (ownM L (i + 1)) (2 + atL L ((i : Int) + 2) 5) [], i + 3⟩ (Weak.to [0, 1, 4, 5] [(0, 0), (4, 4), (5, 5)] (by decide) (by decide) (by simp [hp]) (by simp) (by simp)) ?_
              rw [oneB_eq hc4]
              unfold oneC
              repeat (first | rw [if_pos (by omega)] | rw [if_neg (by omega)])
              simp
             ·refine LWp.sz hT hW ?_
              simp
              refine LWp.iff ?_
              simp
              refine ⟨fun h33 => ?_, fun h33 => ?_⟩
              ·have hc6 := MOwn_ok L (i + 1) hL (by omega)
               refine LWp.ro hT hW (fun | 118 => some (.gen ⟨[(0, 0)], [], [], mkH L (i + 2), .d (.str (ownM L (i + 1)))⟩) | _ => none) ?_
               simp
               refine ⟨by simpa using hc6, ?_⟩
               refine exWeak (Weak.shutBox 5 [] (fz := false) (cs := [.d (I64 k), .d (.str (ownM L (i + 1))), .d (I64 (0)), .nl]) (ds := [I64 k, .str (ownM L (i + 1)), I64 (0), .sl []]) (by simp) (by simp) (by simp) (by simp [LObj.mut])) ?_
               simp
               refine cutQ.mk ⟨.mk k (ownM L (i + 1)) (0) [], i + 2⟩ (Weak.to [0, 1, 4, 5] [(0, 0), (4, 4), (5, 5)] (by decide) (by decide) (by simp [hp]) (by simp) (by simp)) ?_
               rw [oneB_eq hc4]
               unfold oneC
               repeat (first | rw [if_pos (by omega)] | rw [if_neg (by omega)])
              ·refine LWp.sz hT hW ?_
               simp
               refine LWp.iff ?_
               simp
               refine ⟨fun h35 => ?_, fun h35 => ?_⟩
               ·have hc7 := MTake_ok L (i + 1) 9 hL (by omega) (by decide)
                have hr7 := atL_range L ((i : Int) + 1) 9 (by decide)
                refine LWp.ro hT hW (fun | 123 => some (.gen ⟨[(0, 0)], [], [], mkH L (i + 2), .d (I64 (atL L ((i : Int) + 1) 9))⟩) | _ => none) ?_
                simp
                refine ⟨⟨by simpa using hc7, by omega⟩, ?_⟩
                refine exWeak (Weak.shutBox 5 [] (fz := false) (cs := [.d (I64 k), .d (.str ([])), .d (I64 (1 + atL L ((i : Int) + 1) 9)), .nl]) (ds := [I64 k, .str ([]), I64 (1 + atL L ((i : Int) + 1) 9), .sl []]) (by simp) (by simp) (by simp) (by simp [LObj.mut])) ?_
                simp
                refine cutQ.mk ⟨.mk k ([]) (1 + atL L ((i : Int) + 1) 9) [], i + 2⟩ (Weak.to [0, 1, 4, 5] [(0, 0), (4, 4), (5, 5)] (by decide) (by decide) (by simp [hp]) (by simp) (by simp)) ?_
                rw [oneB_eq hc4]
                unfold oneC
                repeat (first | rw [if_pos (by omega)] | rw [if_neg (by omega)])
                simp
               ·refine LWp.sz hT hW ?_
                simp
                refine LWp.iff ?_
                simp
                refine ⟨fun h37 => ?_, fun h37 => ?_⟩
                ·have hc7 := MTake_ok L (i + 1) 99 hL (by omega) (by decide)
                 have hr7 := atL_range L ((i : Int) + 1) 99 (by decide)
                 refine LWp.ro hT hW (fun | 129 => some (.gen ⟨[(0, 0)], [], [], mkH L (i + 2), .d (I64 (atL L ((i : Int) + 1) 99))⟩) | _ => none) ?_
                 simp
                 refine ⟨⟨by simpa using hc7, by omega⟩, ?_⟩
                 refine exWeak (Weak.shutBox 5 [] (fz := false) (cs := [.d (I64 k), .d (.str ([])), .d (I64 (1 + atL L ((i : Int) + 1) 99)), .nl]) (ds := [I64 k, .str ([]), I64 (1 + atL L ((i : Int) + 1) 99), .sl []]) (by simp) (by simp) (by simp) (by simp [LObj.mut])) ?_
                 simp
                 refine cutQ.mk ⟨.mk k ([]) (1 + atL L ((i : Int) + 1) 99) [], i + 2⟩ (Weak.to [0, 1, 4, 5] [(0, 0), (4, 4), (5, 5)] (by decide) (by decide) (by simp [hp]) (by simp) (by simp)) ?_
                 rw [oneB_eq hc4]
                 unfold oneC
                 repeat (first | rw [if_pos (by omega)] | rw [if_neg (by omega)])
                 simp
                ·refine LWp.seq ?_
                 have hk24 : k = 24 := by have := oneK_range hc4; omega
                 subst hk24
                 refine LWp.rz hT hW ?_
                 simp
                 refine LWp.iff ?_
                 simp
                 have hv := MValue_ok L hL hll 2 (i + 1) (by omega)
                 refine LWp.ro hT hW (fun | 135 => some (.gen ⟨[(0, 0)], [], [], mkH L (valueM L 2 (i + 1)).2, .d (valueM L 2 (i + 1)).1.d⟩) | _ => none) ?_
                 simp
                 refine ⟨by simpa using hv, ?_⟩
                 refine exWeak (Weak.shutBox 5 [136] (fz := false) (cs := [.d (I64 24), .d (.str ([])), .d (I64 (0)), .ow 136 0 1]) (ds := [I64 24, .str ([]), I64 (0), .sl [((valueM L 2 (i + 1)).1).d]]) (by simp) (by simp) (by simp) (by simp [LObj.mut])) ?_
                 simp
                 refine cutQ.mk ⟨.mk 24 ([]) (0) [(valueM L 2 (i + 1)).1], (valueM L 2 (i + 1)).2⟩ (Weak.to [0, 1, 4, 5] [(0, 0), (4, 4), (5, 5)] (by decide) (by decide) (by simp [hp]) (by simp) (by simp)) ?_
                 rw [oneB_eq hc4]
                 unfold oneC
                 repeat (first | rw [if_pos (by omega)] | rw [if_neg (by omega)])
  ·refine LWp.sz hT hW ?_
   simp
   refine LWp.ret ?_
   simp
   refine Weak.closed (x := (oneB L d bl i).1.d) (by simp [hc41]) ?_
   simp
   exact Weak.to [0] [(0, 0)] (by decide) (by decide) (by simp [hp]) (by simp) (by simp [hc41])
theorem somes_to {L : List Int} {st : Nat → Nd × Nat} {C : Nat} (h : ∀ j, (st j).2 ≤ j + C) : ∀ (m : Nat) (ks : List Nd) (j : Nat), (somesM L st m ks j).2 ≤ j + m * C
 | 0, ks, j => by simp [somesM]
 | m + 1, ks, j => by
  unfold somesM
  split
  ·simp
  ·have a := somes_to (L := L) h m (ks ++ [(st j).1]) (st j).2
   have b := h j
   rw [Nat.succ_mul]
   omega
theorem some_to {L : List Int} {st : Nat → Nd × Nat} {C : Nat} (h : ∀ j, (st j).2 ≤ j + C) (i : Nat) : (someM L st i).2 ≤ i + 1 + 3 * C := by
 have hr := atL_range L i 4 (by decide)
 have a := somes_to (L := L) h (atL L i 4).toNat [] (i + 1)
 have b : (atL L i 4).toNat * C ≤ 3 * C := Nat.mul_le_mul_right C (by omega)
 show (somesM L st (atL L i 4).toNat [] (i + 1)).2 ≤ _
 omega
def oneTo : Nat → Nat
 | 0 => 40
 | d + 1 => 40 + 2 * (1 + 3 * oneTo d)
theorem one_to (L : List Int) : ∀ d i, (oneM L d i).2 ≤ i + oneTo d
 | 0, i => by
  have h : ∀ j : Nat, ((fun _ => default : Nat → Nd × Nat) j).2 ≤ j + 0 := fun j => Nat.zero_le _
  have := oneB_to (L := L) (d := 0) (i := i) h
  rw [oneM]
  simp only [oneTo]
  omega
 | d + 1, i => by
  have h := fun j => some_to (L := L) (one_to L d) j
  have := oneB_to (L := L) (d := d + 1) (i := i) (bl := someM L (oneM L d)) (C := 1 + 3 * oneTo d) fun j => by have := h j; omega
  rw [oneM]
  simp only [oneTo]
  omega
theorem oneTo_le {d : Nat} (h : d ≤ 2) : oneTo d ≤ 2000 := by
 have : ∀ d : Nat, d < 3 → oneTo d ≤ 2000 := by decide
 exact this d (by omega)
theorem MOne_ok (L : List Int) (hL : MkL L) (hll : L.length ≤ 1000000) : ∀ (d : Nat), d ≤ 2 → ∀ b, b + 70000 * d ≤ 1800000 → Makes L 37 d b (oneM L d)
 | 0, _, b, hb => fun j hj => MOne_step L 0 j (fun _ => default) hL hll b hj (by omega) (by omega) (fun e he => by omega) fun j => by show 0 ≤ j + 20000; omega
 | d + 1, hd, b, hb => fun j hj => by
  have hst := oneTo_le (d := d) (by omega)
  have hle := fun j => some_to (L := L) (one_to L d) j
  obtain ⟨c, hc⟩ : ∃ c, c = b + 30000 := ⟨_, rfl⟩
  have h1 := MOne_ok L hL hll d (by omega) (c + 40000) (by omega)
  have h2 : Makes L 60 d c (someM L (oneM L d)) := fun i hi => MSome_step L d i (oneM L d) hL hll c hi (by omega) h1 fun j => by have := one_to L d j; omega
  refine MOne_step L (d + 1) j (someM L (oneM L d)) hL hll b hj (by omega) (by omega) (fun e he => ?_) fun j => ?_
  ·have : e = d := by omega
   rw [this, ← hc]
   exact h2
  ·have := hle j
   omega
end
open Go.Proofs
section
attribute [local simp] Res.cond Nd.d_eq nd_t nd_dr nd_td ndsD evalIndex retGC_ret constL1 Int.add_assoc upds_same one_i one_s one_l all4 mkH
theorem take_min (l : List Int) : List.take (if (48 : Int) < (l.length : Int) then 48 else (l.length : Int)).toNat (l.map I64) = (l.take 48).map I64 := by
 rw [← List.map_take]
 congr 1
 split
 ·rfl
 ·rw [show ((l.length : Int)).toNat = l.length from rfl, List.take_length, List.take_of_length_le (by omega)]
theorem kind_at {L : List Int} : (treeKinds.map I64)[(atL L 0 10).toNat]?.getD default = I64 (treeKinds.getD (atL L 0 10).toNat 0) := by
 have h := atL_range L 0 10 (by decide)
 have hk : (atL L 0 10).toNat < treeKinds.length := by show _ < 10; omega
 rw [List.getElem?_map, List.getElem?_eq_getElem hk]
 simp [List.getD_eq_getElem?_getD, hk]
theorem kind_rng {L : List Int} : 0 ≤ treeKinds.getD (atL L 0 10).toNat 0 ∧ treeKinds.getD (atL L 0 10).toNat 0 ≤ 6 := by
 have h := atL_range L 0 10 (by decide)
 have key : ∀ n : Nat, n < 10 → 0 ≤ treeKinds.getD n 0 ∧ treeKinds.getD n 0 ≤ 6 := by decide
 exact key _ (by omega)
theorem place_up (L : List Int) (i : Nat) : i + 2 ≤ (placeM L i).2 := by unfold placeM; split <;> simp
theorem value_up (L : List Int) : ∀ (d i : Nat), i + 1 ≤ (valueM L d i).2 := fun d => by
 induction d with
 | zero =>
  intro i
  obtain ⟨r0, _, r2⟩ := valK_range L 0 i
  have r2 := r2 rfl
  by_cases h0 : valK L 0 i = 0 ∨ valK L 0 i = 1
  ·rw [value_num h0]; simp
  ·by_cases h1 : valK L 0 i = 2
   ·rw [value_loc h1]; simp
   ·by_cases h2 : valK L 0 i = 3 ∨ valK L 0 i = 4
    ·rw [value_place h2]; have := place_up L (i + 1); omega
    ·rw [value_kind (by omega)]; simp
 | succ e ih =>
  intro i
  obtain ⟨r0, _, _⟩ := valK_range L (e + 1) i
  by_cases h0 : valK L (e + 1) i = 0 ∨ valK L (e + 1) i = 1
  ·rw [value_num h0]; simp
  ·by_cases h1 : valK L (e + 1) i = 2
   ·rw [value_loc h1]; simp
   ·by_cases h3 : valK L (e + 1) i = 3 ∨ valK L (e + 1) i = 4
    ·rw [value_place h3]; have := place_up L (i + 1); omega
    ·by_cases h4 : valK L (e + 1) i = 5
     ·rw [value_kind h4]; simp
     ·rw [value_bin (by omega)]
      have a := ih (i + 1)
      have b := ih (valueM L e (i + 1)).2
      simp only
      omega
theorem oneB_up {L : List Int} {d i : Nat} {bl : Nat → Nd × Nat} (hb : 0 < d → ∀ j, j ≤ (bl j).2) : i + 1 ≤ (oneB L d bl i).2 := by
 rw [oneB_eq rfl]
 have hk := oneK_range (L := L) (d := d) (i := i) rfl
 have pl := place_up L (i + 1)
 have a1 := value_up L 1 (i + 1)
 have a2 := value_up L 1 (i + 2)
 have a3 := value_up L 2 (i + 1)
 have a4 := value_up L 2 (i + 2)
 have a5 := value_up L 2 (placeM L (i + 1)).2
 unfold oneC
 simp only [Nat.add_assoc, Nat.reduceAdd] at *
 split
 ·simp only; omega
 ·split
  ·simp only; omega
  ·split
   ·rename_i h
    have hb := hb (hk.2.2 h)
    have b1 := hb (valueM L 1 (i + 1)).2
    have b2 := hb ((bl (valueM L 1 (i + 1)).2).2 + 1)
    split
    ·split <;> simp only <;> omega
    ·simp only; omega
   ·repeat (first | (simp only; omega) | split)
theorem somes_up {L : List Int} {st : Nat → Nd × Nat} (h : ∀ j, j ≤ (st j).2) : ∀ (m : Nat) (ks : List Nd) (j : Nat), j ≤ (somesM L st m ks j).2
 | 0, ks, j => Nat.le_refl _
 | m + 1, ks, j => by
  unfold somesM
  split
  ·exact Nat.le_refl _
  ·have a := somes_up (L := L) h m (ks ++ [(st j).1]) (st j).2
   have b := h j
   omega
theorem one_up (L : List Int) : ∀ d i, i + 1 ≤ (oneM L d i).2
 | 0, i => by rw [oneM]; exact oneB_up fun h => absurd h (Nat.lt_irrefl _)
 | d + 1, i => by
  rw [oneM]
  refine oneB_up fun _ j => ?_
  have := somes_up (L := L) (st := oneM L d) (fun j => by have := one_up L d j; omega) (atL L j 4).toNat [] (j + 1)
  show j ≤ (somesM L (oneM L d) (atL L j 4).toNat [] (j + 1)).2
  omega
theorem body_end {L : List Int} {m : Nat} {ks : List Nd} {j : Nat} (h : L.length ≤ j) : bodyM L m ks j = ks := by
 cases m with
 | zero => rfl
 | succ m => unfold bodyM; rw [if_pos h]
theorem body_go {L : List Int} {m : Nat} {ks : List Nd} {j : Nat} (h0 : 0 < m) (h : j < L.length) : bodyM L m ks j = bodyM L (m - 1) (ks ++ [(oneM L 2 j).1]) (oneM L 2 j).2 := by
 obtain ⟨k, rfl⟩ : ∃ k, m = k + 1 := ⟨m - 1, by omega⟩
 rw [bodyM, if_neg (by omega)]
 rfl
theorem items_count (L : List Int) : ∀ c, (itemsM L c).length = c
 | 0 => rfl
 | c + 1 => by rw [itemsM, List.length_append, items_count L c]; rfl
structure NdC where
 x : Nd
structure CtC where
 c : Nat
section
variable {L : List Int} {k : Int} {t : Str} (hk : treeKinds.getD (atL L 0 10).toNat 0 = k) (ht : callM L 1 = t)
include hk ht
theorem tree_var (h : k = 0) : treeB L = .mk k t (atL L 2 1999 - 999) [] := by subst hk ht; unfold treeB; simp only []; rw [if_pos h]
theorem tree_chan (h : k = 2) : treeB L = .mk k t (atL L 2 4) [] := by subst hk ht; unfold treeB; simp only []; rw [if_neg (by omega), if_pos h]
theorem tree_rec (h : k = 1) : treeB L = .mk k t 0 (itemsM L (atL L 2 4).toNat) := by subst hk ht; unfold treeB; simp only []; rw [if_neg (by omega), if_neg (by omega), if_pos h]
theorem tree_proc (h : k = 5 ∨ k = 6) : treeB L = .mk k t 0 [.mk 8 [] 0 (bodyM L L.length [] 2)] := by subst hk ht; unfold treeB; simp only []; rw [if_neg (by omega), if_neg (by omega), if_neg (by omega), if_pos h]
theorem tree_else (h0 : ¬ k = 0) (h1 : ¬ k = 2) (h2 : ¬ k = 1) (h3 : ¬ (k = 5 ∨ k = 6)) : treeB L = .mk k t 0 [] := by subst hk ht; unfold treeB; simp only []; rw [if_neg h0, if_neg h1, if_neg h2, if_neg h3]
end
set_option maxHeartbeats 1000000 in
theorem MTree_ok (l : List Int) (hl : MkL l) : Ok Tryz.prog 10 [.sl (l.map I64)] ⟨.d (treeS l).d, false⟩ := by
 refine Ok.cell hT Tryz.func10 (by kernel_rfl) (c := _) rfl Tryz.ntmps10 (by simp) Tryz.results10 (by intro _ h; cases h) fun w0 X hp => ?_
 obtain ⟨L, hLl⟩ : ∃ L, L = l.take 48 := ⟨_, rfl⟩
 have hL : MkL L := fun n hn => hl n (by rw [hLl] at hn; exact List.mem_of_mem_take hn)
 have hll : L.length ≤ 48 := by rw [hLl, List.length_take]; omega
 have htr : treeS l = treeB L := by rw [hLl]; rfl
 refine LWp.sz hT hW ?_
 simp
 refine LWp.sz hT hW ?_
 simp [take_min, ← hLl]
 refine ⟨by split <;> omega, ?_⟩
 refine LWp.seq ?_
 have ha := MTake_ok L 0 10 hL (by omega) (by decide)
 have hr := atL_range L 0 10 (by decide)
 have hc := MCalled_ok L 1 hL (by omega)
 have hka := kind_at (L := L)
 have hkr := kind_rng (L := L)
 simp [treeKinds] at hka
 obtain ⟨k, hk⟩ : ∃ k, treeKinds.getD (atL L 0 10).toNat 0 = k := ⟨_, rfl⟩
 obtain ⟨t, ht⟩ : ∃ t, callM L 1 = t := ⟨_, rfl⟩
 refine LWp.regAny hT hW hMixed (lk [[],[],[1],[0,1,2],[0,1,2,3],[],[1,2,5],[0,1,2,3,4,5,6],[],[0,1,2,3,4,5,6,7,8]]) (lk [[4,15],[4,16],[4,16],[4,15],[4,15],[4,15,16],[4,16],[4],[15,16],[]]) (lk [[16],[],[15],[],[],[],[15],[],[4],[4]]) (by kernel_rfl) (fun | 18 => some (.gen ⟨[(15, 0)], [], [], mkH L 1, .d (I64 (atL L 0 10))⟩) | 22 => some (.gen ⟨[(15, 0)], [], [], mkH L 2, .d (.str t)⟩) | _ => none) (by intro d; first | exact ⟨rfl, fun _ h => h⟩ | (split <;> exact ⟨rfl, fun _ h => h⟩)) ?_
 simp [hka]
 rw [hk] at hkr
 rw [ht] at hc
 refine ⟨⟨⟨⟨⟨by decide, by simpa using ha⟩, by omega⟩, by omega⟩, by simpa using hc⟩, ?_⟩
 have hk' : [5, 6, 5, 6, 5, 0, 1, 2, 3, 4][(atL L 0 10).toNat]?.getD 0 = k := by rw [← hk]; simp [treeKinds]
 simp only [hk']
 refine LWp.seqCut (ι := NdC) (fun ⟨x⟩ => mkEnv [(2, .bx 2 0), (4, .bx 4 0)]) (fun ⟨x⟩ => mkObs [(2, .box false [.d (I64 0), .d (.str []), .d (I64 0), .nl]), (4, .box false [.d (I64 x.kind), .d (.str x.text), .d (I64 x.n), .d (ndsD x.kids)])]) (fun ⟨x⟩ => treeB L = x) ?_ fun ⟨x⟩ hc21 => ?_
 ·refine LWp.sz hT hW ?_
  simp
  refine LWp.block ?_
  refine LWp.sz hT hW ?_
  simp
  refine LWp.iff ?_
  simp
  refine ⟨fun h4 => ?_, fun h4 => ?_⟩
  ·have h5a := MTake_ok L 2 1999 hL (by omega) (by decide)
   have h5r := atL_range L 2 1999 (by decide)
   refine LWp.ro hT hW (fun | 29 => some (.gen ⟨[(15, 0)], [], [], mkH L 3, .d (I64 (atL L 2 1999))⟩) | _ => none) ?_
   simp
   refine ⟨⟨by simpa using h5a, by omega⟩, ?_⟩
   refine exWeak (Weak.shutBox 4 [] (fz := false) (cs := [.d (I64 k), .d (.str t), .d (I64 (atL L 2 1999 - 999)), .nl]) (ds := [I64 k, .str t, I64 (atL L 2 1999 - 999), .sl []]) (by simp) (by simp) (by simp) (by simp [LObj.mut])) ?_
   simp
   refine cutQ.mk ⟨.mk k t (atL L 2 1999 - 999) []⟩ (Weak.to [2, 4] [(2, 2), (4, 4)] (by decide) (by decide) (by simp [hp]) (by simp) (by simp)) ?_
   exact tree_var hk ht h4
  ·refine LWp.sz hT hW ?_
   simp
   refine LWp.iff ?_
   simp
   refine ⟨fun h6 => ?_, fun h6 => ?_⟩
   ·have h5a := MTake_ok L 2 4 hL (by omega) (by decide)
    refine LWp.ro hT hW (fun | 35 => some (.gen ⟨[(15, 0)], [], [], mkH L 3, .d (I64 (atL L 2 4))⟩) | _ => none) ?_
    simp
    refine ⟨by simpa using h5a, ?_⟩
    refine exWeak (Weak.shutBox 4 [] (fz := false) (cs := [.d (I64 k), .d (.str t), .d (I64 (atL L 2 4)), .nl]) (ds := [I64 k, .str t, I64 (atL L 2 4), .sl []]) (by simp) (by simp) (by simp) (by simp [LObj.mut])) ?_
    simp
    refine cutQ.mk ⟨.mk k t (atL L 2 4) []⟩ (Weak.to [2, 4] [(2, 2), (4, 4)] (by decide) (by decide) (by simp [hp]) (by simp) (by simp)) ?_
    exact tree_chan hk ht h6
   ·refine LWp.sz hT hW ?_
    simp
    refine LWp.iff ?_
    simp
    refine ⟨fun h8 => ?_, fun h8 => ?_⟩
    ·refine LWp.seq ?_
     have h5a := MTake_ok L 2 4 hL (by omega) (by decide)
     have h5r := atL_range L 2 4 (by decide)
     obtain ⟨m, hm9⟩ : ∃ m : Nat, (atL L 2 4).toNat = m := ⟨_, rfl⟩
     have hm9i : atL L 2 4 = (m : Int) := by omega
     refine LWp.ro hT hW (fun | 40 => some (.gen ⟨[(15, 0)], [], [], mkH L 3, .d (I64 (m : Nat))⟩) | _ => none) ?_
     simp
     refine ⟨by simpa [hm9i] using h5a, ?_⟩
     refine LWp.nlCell (fz := false) (cs := [.d (I64 k), .d (.str t), .d (I64 0), .nl]) 4 3 1056 4 (by decide) ⟨by simp, by simp, by simp, ?_⟩
     simp
     refine LWp.sz hT hW ?_
     simp
     refine LWp.block ?_
     refine LWp.loopW (ι := CtC) (fun ⟨c⟩ => mkEnv [(2, .bx 2 0), (3, .bx 15 0), (4, .bx 4 0), (5, .d (I64 (m : Nat))), (6, .d (I64 (c : Nat)))]) (fun ⟨c⟩ => mkObs [(2, .box false [.d (I64 0), .d (.str []), .d (I64 0), .nl]), (4, .box false [.d (I64 k), .d (.str t), .d (I64 0), .ow 1056 0 c]), (15, .box false [.d (.sl (L.map I64)), .d (I64 ((3 + 2 * c : Nat) : Int))]), (1056, .row false 4 ((itemsM L c).map Nd.d))]) (fun ⟨c⟩ => c ≤ m) (fun ⟨c⟩ => m - c) ⟨0⟩ (Weak.to [2, 3, 4, 5, 6] [(2, 2), (4, 4), (15, 15), (1056, 1056)] (by decide) (by decide) (by simp [hp]) (by simp) (by simp [itemsM])) (Nat.zero_le _) fun ⟨c⟩ hi11 => ?_
     refine LWp.seq ?_
     refine LWp.sz hT hW ?_
     simp
     refine LWp.iff ?_
     simp
     refine ⟨fun h11 => ?_, fun h11 => ?_⟩
     ·refine LWp.skip ?_
      simp
      refine LWp.seq ?_
      refine LWp.block ?_
      refine LWp.seq ?_
      have h13c := MCalled_ok L (3 + 2 * c) hL (by omega)
      refine LWp.ro hT hW (fun | 47 => some (.gen ⟨[(15, 0)], [], [], mkH L (3 + 2 * c + 1), .d (.str (callM L (3 + 2 * c)))⟩) | _ => none) ?_
      simp
      refine ⟨by simpa using h13c, ?_⟩
      have h14c := MTake_ok L (4 + 2 * c) 1999 hL (by omega) (by decide)
      have h14r := atL_range L (4 + 2 * (c : Int)) 1999 (by decide)
      have hcm : c ≤ m := hi11
      have e14 : (3 : Int) + (2 * (c : Int) + 1) = 4 + 2 * c := by omega
      have e15 : (4 : Int) + (2 * (c : Int) + 1) = 3 + (2 * c + 2) := by omega
      have hic := items_count L c
      refine LWp.regAny hT hW hMixed (lk [[],[0],[],[],[3],[3,4],[2,3,4,5],[2,3,4,5,6],[0,1,2,3,4,5,6,7],[0,1,2,3,4,5,6,7,8],[0,1,2,3,4,5,6,7,8,9]]) (lk [[15,55],[15,55],[15],[],[],[],[],[],[],[],[]]) (lk [[],[],[],[],[15],[],[],[55],[56,1056],[],[4]]) (by kernel_rfl) (fun | 52 => some (.gen ⟨[(15, 0)], [], [], mkH L (4 + 2 * c + 1), .d (I64 (atL L ((4 + 2 * c : Nat) : Int) 1999))⟩) | _ => none) (by intro d; first | exact ⟨rfl, fun _ h => h⟩ | (split <;> exact ⟨rfl, fun _ h => h⟩)) ?_
      simp [e14]
      refine ⟨⟨⟨by simpa using h14c, by omega, by omega⟩, by omega, by omega⟩, ?_⟩
      have hcm2 : c ≤ m := hi11
      refine LWp.rz hT hW ?_
      simp
      refine ⟨by omega, ?_⟩
      refine loopQ.mk ⟨c + 1⟩ (Weak.to [2, 3, 4, 5, 6] [(2, 2), (4, 4), (15, 15), (56, 1056)] (by decide) (by decide) (by simp [hp]) (by simp) (by simp [itemsM, Int.mul_add, items_count, List.take_of_length_le, e15])) ?_ ?_
      ·show c + 1 ≤ m
       omega
      ·show m - (c + 1) < m - c
       omega
     ·refine LWp.exit ?_
      simp
      refine exWeak (Weak.shutBox 4 [1056] (fz := false) (cs := [.d (I64 k), .d (.str t), .d (I64 0), .ow 1056 0 c]) (ds := [I64 k, .str t, I64 0, .sl ((itemsM L c).map Nd.d)]) (by simp) (by simp) (by simp [items_count, List.take_of_length_le]) (by simp [LObj.mut])) ?_
      simp
      refine cutQ.mk ⟨.mk k t 0 (itemsM L c)⟩ (Weak.to [2, 4] [(2, 2), (4, 4)] (by decide) (by decide) (by simp [hp]) (by simp) (by simp)) ?_
      rw [tree_rec hk ht h8, hm9]
      have e11 : c = m := by have := (show c ≤ m from hi11); omega
      rw [e11]
    ·refine LWp.seqCut (ι := BC) (fun ⟨b⟩ => mkEnv [(2, .bx 2 0), (3, .bx 15 0), (4, .bx 4 0), (25, .d (I64 (k))), (58, .d (.bool b))]) (fun ⟨b⟩ => mkObs [(2, .box false [.d (I64 0), .d (.str []), .d (I64 0), .nl]), (4, .box false [.d (I64 k), .d (.str t), .d (I64 0), .nl]), (15, .box false [.d (.sl (L.map I64)), .d (I64 2)])]) (fun ⟨b⟩ => b = true ↔ (k = 5 ∨ k = 6)) ?_ fun ⟨b⟩ hc17 => ?_
     ·refine LWp.sz hT hW ?_
      simp
      refine LWp.iff ?_
      simp
      refine ⟨fun h15 => ?_, fun h15 => ?_⟩
      ·refine LWp.skip ?_
       simp
       refine cutQ.mk ⟨decide (k = 5)⟩ (Weak.to [2, 3, 4, 25, 58] [(2, 2), (4, 4), (15, 15)] (by decide) (by decide) (by simp [hp]) (by simp) (by simp)) ?_
       simp [h15]
      ·refine LWp.rz hT hW ?_
       simp
       refine cutQ.mk ⟨decide (k = 6)⟩ (Weak.to [2, 3, 4, 25, 58] [(2, 2), (4, 4), (15, 15)] (by decide) (by decide) (by simp [hp]) (by simp) (by simp)) ?_
       simp only [decide_eq_true_eq]; omega
     ·refine LWp.iff ?_
      simp
      refine ⟨fun h17 => ?_, fun h17 => ?_⟩
      ·have q17 := hc17.1 h17
       refine LWp.sz hT hW ?_
       simp
       refine LWp.nlCell (fz := false) (cs := [.d (I64 8), .d (.str []), .d (I64 0), .nl]) 8 3 1077 4 (by decide) ⟨by simp, by simp, by simp, ?_⟩
       simp
       refine LWp.seq ?_
       refine LWp.block ?_
       refine LWp.loopW (ι := SmS) (fun ⟨m, ks, j⟩ => mkEnv [(2, .bx 2 0), (3, .bx 15 0), (4, .bx 4 0), (8, .bx 8 0)]) (fun ⟨m, ks, j⟩ => mkObs [(2, .box false [.d (I64 0), .d (.str []), .d (I64 0), .nl]), (4, .box false [.d (I64 k), .d (.str t), .d (I64 0), .nl]), (8, .box false [.d (I64 8), .d (.str []), .d (I64 0), .ow 1077 0 ks.length]), (15, .box false [.d (.sl (L.map I64)), .d (I64 (j : Nat))]), (1077, .row false 4 (ks.map Nd.d))]) (fun ⟨m, ks, j⟩ => j ≤ 3000 ∧ L.length ≤ m + j ∧ ks.length ≤ j ∧ bodyM L L.length [] 2 = bodyM L m ks j) (fun ⟨m, ks, j⟩ => L.length - j) ⟨L.length, [], 2⟩ (Weak.to [2, 3, 4, 8] [(2, 2), (4, 4), (8, 8), (15, 15), (1077, 1077)] (by decide) (by decide) (by simp [hp]) (by simp) (by simp)) (⟨by omega, by omega, by simp, rfl⟩) fun ⟨m, ks, j⟩ hi18 => ?_
       refine LWp.seq ?_
       refine LWp.seq ?_
       refine LWp.regAny hT hW hMixed (lk [[],[0],[0,1],[0,1,2],[],[4],[4,5],[4,5,6],[4,5,6,7],[0,1,2,3,4,5,6,7,8]]) (lk [[],[],[],[],[],[],[],[],[],[]]) (lk [[],[],[],[],[],[],[],[],[],[]]) (by kernel_rfl) (fun _ => none) (fun _ => ⟨rfl, fun _ h => h⟩) ?_
       simp
       refine LWp.iff ?_
       simp
       refine ⟨fun h18 => ?_, fun h18 => ?_⟩
       ·refine LWp.skip ?_
        simp
        refine LWp.block ?_
        have h19 := MOne_ok L hL (by omega) 2 (by omega) 5000 (by omega) j (by omega)
        have hup := one_up L 2 j
        have hto := one_to L 2 j
        have hto2 := oneTo_le (d := 2) (by omega)
        have hkl := hi18.2.2.1
        refine LWp.regAny hT hW hMixed (lk [[],[0],[],[2],[2,3],[0,1,2,3,4],[0,1,2,3,4,5],[0,1,2,3,4,5,6]]) (lk [[15,76],[15,76],[],[],[],[],[],[]]) (lk [[],[],[],[15],[76],[77,1077],[],[8]]) (by kernel_rfl) (fun | 75 => some (.gen ⟨[(15, 0)], [], [], mkH L (oneM L 2 j).2, .d (oneM L 2 j).1.d⟩) | _ => none) (by intro d; first | exact ⟨rfl, fun _ h => h⟩ | (split <;> exact ⟨rfl, fun _ h => h⟩)) ?_
        simp
        refine ⟨by (repeat' with_reducible apply And.intro) <;> first | omega | (simpa using h19), ?_⟩
        refine loopQ.mk ⟨m - 1, ks ++ [(oneM L 2 j).1], (oneM L 2 j).2⟩ (Weak.to [2, 3, 4, 8] [(2, 2), (4, 4), (8, 8), (15, 15), (77, 1077)] (by decide) (by decide) (by simp [hp]) (by simp) (by simp)) ?_ ?_
        ·refine ⟨(show (oneM L 2 j).2 ≤ 3000 by omega), (show L.length ≤ m - 1 + (oneM L 2 j).2 by omega), (by rw [List.length_append, List.length_singleton]; show ks.length + 1 ≤ (oneM L 2 j).2; omega), ?_⟩
         rw [hi18.2.2.2, body_go (by omega) (by omega)]
        ·show L.length - (oneM L 2 j).2 < L.length - j
         omega
       ·refine LWp.exit ?_
        simp
        refine LWp.rz hT hW ?_
        simp
        refine exWeak (Weak.shutBox 4 [80] (fz := false) (cs := [.d (I64 k), .d (.str t), .d (I64 0), .ow 80 0 1]) (ds := [I64 k, .str t, I64 0, .sl [(Nd.mk 8 [] 0 ks).d]]) (by simp) (by simp) (by simp) (by simp [LObj.mut])) ?_
        simp
        refine cutQ.mk ⟨.mk k t 0 [.mk 8 [] 0 ks]⟩ (Weak.to [2, 4] [(2, 2), (4, 4)] (by decide) (by decide) (by simp [hp]) (by simp) (by simp)) ?_
        rw [tree_proc hk ht q17, hi18.2.2.2, body_end (by omega)]
      ·have q17 : ¬ (k = 5 ∨ k = 6) := fun q => by simp [hc17.2 q] at h17
       refine LWp.skip ?_
       simp
       refine exWeak (Weak.shutBox 4 [] (fz := false) (cs := [.d (I64 k), .d (.str t), .d (I64 0), .nl]) (ds := [I64 k, .str t, I64 0, .sl []]) (by simp) (by simp) (by simp) (by simp [LObj.mut])) ?_
       simp
       refine cutQ.mk ⟨.mk k t 0 []⟩ (Weak.to [2, 4] [(2, 2), (4, 4)] (by decide) (by decide) (by simp [hp]) (by simp) (by simp)) ?_
       exact tree_else hk ht h4 h6 h8 q17
 ·refine LWp.sz hT hW ?_
  simp
  refine LWp.ret ?_
  have e : treeS l = x := htr.trans hc21
  simp [e]
end
open Go.Proofs
section
attribute [local simp] Res.cond Nd.d_eq nd_t nd_dr nd_td ndsD evalIndex constL1 upds_same one_i one_s one_l all4
def I64r (n : Int) : Prop := -9223372036854775808 ≤ n ∧ n ≤ 9223372036854775807
end
end Go.Eng
namespace Go.Eng
open Go.Proofs
theorem own_len (L : List Int) (i : Nat) : (ownM L i).length ≤ 16 := by
 unfold ownM
 have : ∀ k : Nat, (ownL.getD k []).length ≤ 16 := fun k => by
  rw [List.getD_eq_getElem?_getD]
  cases e : ownL[k]? with
  | none => simp
  | some w =>
   have := List.mem_of_getElem? e
   exact (by decide : ∀ w ∈ ownL, w.length ≤ 16) w this
 exact this _
theorem weigh_leaf (k : Int) (t : Str) (n : Int) : weighN (.mk k t n []) = t.length + 1 := by simp [weighN, weighL]
theorem place_weigh (L : List Int) (i : Nat) : weighN (placeM L i).1 ≤ 34 := by
 have h1 := callM_len L (i + 1)
 have h2 := callM_len L (i + 2)
 unfold placeM
 split <;> simp only [weigh_leaf, List.length_append, List.length_cons] <;> omega
theorem value_weigh (L : List Int) : ∀ (d i : Nat), weighN (valueM L d i).1 + 1 ≤ 35 * 2 ^ d := fun d => by
 induction d with
 | zero =>
  intro i
  obtain ⟨r0, _, r2⟩ := valK_range L 0 i
  have r2 := r2 rfl
  have ho := own_len L (i + 1)
  have hp := place_weigh L (i + 1)
  by_cases h0 : valK L 0 i = 0 ∨ valK L 0 i = 1
  ·rw [value_num h0]; simp [weigh_leaf]
  ·by_cases h1 : valK L 0 i = 2
   ·rw [value_loc h1]; simp only [weigh_leaf]; omega
   ·by_cases h2 : valK L 0 i = 3 ∨ valK L 0 i = 4
    ·rw [value_place h2]; omega
    ·rw [value_kind (by omega)]; simp [weigh_leaf]
 | succ e ih =>
  intro i
  have hp1 : 1 ≤ 2 ^ e := Nat.one_le_two_pow
  have h2 : 2 ^ (e + 1) = 2 * 2 ^ e := by rw [Nat.pow_succ, Nat.mul_comm]
  have ho := own_len L (i + 1)
  have hp := place_weigh L (i + 1)
  obtain ⟨r0, _, _⟩ := valK_range L (e + 1) i
  by_cases h0 : valK L (e + 1) i = 0 ∨ valK L (e + 1) i = 1
  ·rw [value_num h0]; simp only [weigh_leaf, List.length_nil]; omega
  ·by_cases h1 : valK L (e + 1) i = 2
   ·rw [value_loc h1]; simp only [weigh_leaf]; omega
   ·by_cases h3 : valK L (e + 1) i = 3 ∨ valK L (e + 1) i = 4
    ·rw [value_place h3]; omega
    ·by_cases h4 : valK L (e + 1) i = 5
     ·rw [value_kind h4]; simp only [weigh_leaf, List.length_nil]; omega
     ·rw [value_bin (by omega)]
      have a := ih (i + 1)
      have b := ih (valueM L e (i + 1)).2
      simp only [weighN, weighL, List.length_nil]
      omega
theorem oneB_weigh {L : List Int} {d i C : Nat} {bl : Nat → Nd × Nat} (hb : ∀ j, weighN (bl j).1 ≤ C) : weighN (oneB L d bl i).1 ≤ 200 + 2 * C := by
 rw [oneB_eq rfl]
 have v1 := fun j => value_weigh L 1 j
 have v2 := fun j => value_weigh L 2 j
 have pl := place_weigh L (i + 1)
 have cl := callM_len L (i + 1)
 have ol := own_len L (i + 1)
 have ol2 := own_len L (i + 1 + 1)
 unfold oneC
 have a1 := v1 (i + 1)
 have a2 := v1 (i + 1 + 1)
 have a3 := v2 (i + 1)
 have a4 := v2 (i + 1 + 1)
 have a5 := v2 (placeM L (i + 1)).2
 have b1 := hb (valueM L 1 (i + 1)).2
 have b2 := hb ((bl (valueM L 1 (i + 1)).2).2 + 1)
 simp only [Nat.reducePow, Nat.reduceMul] at *
 repeat (first | (simp only [weighN, weighL, List.length_nil]; omega) | split)
theorem somes_weigh {L : List Int} {st : Nat → Nd × Nat} {C : Nat} (h : ∀ j, weighN (st j).1 ≤ C) : ∀ (m : Nat) (ks : List Nd) (j : Nat), weighL (somesM L st m ks j).1 ≤ weighL ks + m * C
 | 0, ks, j => by simp [somesM]
 | m + 1, ks, j => by
  unfold somesM
  split
  ·simp
  ·have a := somes_weigh (L := L) h m (ks ++ [(st j).1]) (st j).2
   have b := h j
   rw [weighL_append] at a
   simp only [weighL] at a
   rw [Nat.succ_mul]
   omega
theorem some_weigh {L : List Int} {st : Nat → Nd × Nat} {C : Nat} (h : ∀ j, weighN (st j).1 ≤ C) (i : Nat) : weighN (someM L st i).1 ≤ 1 + 3 * C := by
 have hr := atL_range L i 4 (by decide)
 have a := somes_weigh (L := L) h (atL L i 4).toNat [] (i + 1)
 have b : (atL L i 4).toNat * C ≤ 3 * C := Nat.mul_le_mul_right C (by omega)
 show weighN (.mk 8 [] 0 (somesM L st (atL L i 4).toNat [] (i + 1)).1) ≤ _
 simp only [weighN, weighL, List.length_nil] at *
 omega
def oneWt : Nat → Nat
 | 0 => 204
 | d + 1 => 200 + 2 * (1 + 3 * oneWt d)
theorem one_weigh (L : List Int) : ∀ d i, weighN (oneM L d i).1 ≤ oneWt d
 | 0, i => by
  rw [oneM]
  exact oneB_weigh (C := 2) fun j => by show weighN default ≤ 2; decide
 | d + 1, i => by
  rw [oneM]
  exact oneB_weigh (C := 1 + 3 * oneWt d) fun j => some_weigh (one_weigh L d) j
theorem body_weigh (L : List Int) : ∀ (m : Nat) (ks : List Nd) (j : Nat), weighL (bodyM L m ks j) ≤ weighL ks + m * oneWt 2
 | 0, ks, j => by simp [bodyM]
 | m + 1, ks, j => by
  unfold bodyM
  split
  ·simp
  ·have a := body_weigh L m (ks ++ [(oneM L 2 j).1]) (oneM L 2 j).2
   have b := one_weigh L 2 j
   rw [weighL_append] at a
   simp only [weighL] at a
   rw [Nat.succ_mul]
   omega
theorem items_weigh (L : List Int) : ∀ c, weighL (itemsM L c) ≤ 17 * c
 | 0 => Nat.le_refl _
 | c + 1 => by
  have a := items_weigh L c
  have b := callM_len L (3 + 2 * c)
  rw [itemsM, weighL_append]
  simp only [weighL, weigh_leaf]
  omega
theorem tree_weigh (l : List Int) : weighN (treeS l) ≤ 1000000 := by
 have hl : (l.take 48).length ≤ 48 := by rw [List.length_take]; omega
 have cl := callM_len (l.take 48) 1
 have r4 := atL_range (l.take 48) 2 4 (by decide)
 have bw := body_weigh (l.take 48) (l.take 48).length [] 2
 have b2 : (l.take 48).length * oneWt 2 ≤ 48 * oneWt 2 := Nat.mul_le_mul_right _ hl
 have b3 : oneWt 2 = 8758 := rfl
 have iw := items_weigh (l.take 48) (atL (l.take 48) 2 4).toNat
 unfold treeS treeB
 simp only []
 simp only [weighL] at bw
 repeat (first | (simp only [weighN, weighL, List.length_nil]; omega) | split)
def lvA : Str := [118, 97, 114, 32, 110, 61, 45, 55, 59]
def lvB : Str := [112, 114, 111, 99, 32, 112, 123, 36, 97, 61, 40, 120, 46, 121, 43, 49, 41, 42, 50, 59, 105, 102, 32, 36, 97, 60, 51, 123, 103, 111, 32, 113, 59, 125, 101, 108, 115, 101, 123, 125, 125]
def lvC : Str := [116, 101, 115, 116, 32, 116, 32, 123, 32, 99, 104, 101, 99, 107, 32, 49, 32, 61, 61, 32, 107, 105, 110, 100, 59, 32, 125]
def lvP : Str := [112, 114, 111, 99, 32, 112, 32, 123, 32, 36, 97, 32, 61, 32, 40, 120, 46, 121, 32, 43, 32, 49, 41, 32, 42, 32, 50, 59, 32, 105, 102, 32, 36, 97, 32, 60, 32, 51, 32, 123, 32, 103, 111, 32, 113, 59, 32, 125, 32, 101, 108, 115, 101, 32, 123, 32, 125, 32, 125]
def lvK : Nd := .mk 24 [] 0 [.mk 28 [] 0 [.mk 32 [] 1 [], .mk 36 [] 0 []]]
def lvT : List Str := [[99, 104, 97, 110, 32, 99, 32, 52, 59], [116, 101, 115, 116, 32, 116, 32, 123, 32, 120, 32, 61, 32, 59, 32, 125], [108, 111, 99, 107, 32, 108], [118, 97, 114, 32, 114, 101, 97, 100, 32, 61, 32, 49, 59]]
def lvO : List Int := [7, 13, 6, 4]
set_option maxRecDepth 10000
theorem lvA_parse : parseS lvA = (.mk 0 [110] (-7) [], 0, 0) := by decide
theorem lvA_print : printS (.mk 0 [110] (-7) []) = [118, 97, 114, 32, 110, 32, 61, 32, 45, 55, 59] := by decide
theorem lvB_parse : (parseS lvB).2 = (0, 0) := by decide
theorem lvB_size : sizeN (parseS lvB).1 = 15 := by decide
theorem lvB_weigh : weighN (parseS lvB).1 ≤ 1000 := by decide
theorem lvB_print : printS (parseS lvB).1 = lvP := by decide
theorem lvC_parse : parseS lvC = (.mk 6 [116] 0 [.mk 8 [] 0 [lvK]], 0, 0) := by decide
theorem lvC_head : headK (.mk 6 [116] 0 [.mk 8 [] 0 [lvK]]) = 6 ∧ headT (.mk 6 [116] 0 [.mk 8 [] 0 [lvK]]) = [116] := by decide
theorem lvT_parse : ∀ i, i < 4 → (parseS (lvT.getD i [])).2 = (lvO.getD i 0, if i = 0 then 5 else 2) := by decide
end Go.Eng
namespace Go.Eng
open Go.Proofs
attribute [local simp] runL stepL evalG evalOp opLV constLV putEnv dstOk upd upds Res.plain Res.cond Res.fail evalBin evalUn seqQ blockQ argsEnv lookL lookH RetIs memless freshL evalPick evalMin bval bok evalLen evalIn strip whenC guardOps guardC slotsOf
 runM foldS stepI stepM maskE wrIn lk renO lookN evalCall evalCallee optAll resLV resObj retLV retObj retsLV retsObj evalLoad evalIndexAddr evalField solid cellsD_agg cellsD_int cellsD_bool cellsD_str cellsD_sl cellsD_ro cellsD_fn cellsL_agg cellsL_dagg cellsL_int cellsL_bool cellsL_str cellsL_sl cellsL_fn cellsL_ow cellsL_bx cellsL_lfn cellsL_nl takeL takeD mkAgg allD eqD eqDs kindsAre kindIs LObj.live TK.isNone TK.agg TK.isBool TK.isStr TK.isStruct Op.operands Call.operands
 evalBuildSlice evalAppend elemsOf evalStore evalBuild fillL lookupF putL evalSlice bound evalConv elemsS freezes frozen loadR
 mkEnv_at mkObs_at close_d close_agg close_ow close_bx close_fn close_nl touch_d touch_agg touch_ow touch_bx touch_fn touch_nl ren_d ren_agg ren_bx ren_rp ren_ow ren_fn ren_nl ren_junk retQ_ret retQ2_ret condQ_bool Nm.d Df.d Ed.d nmsD dfsD strsD edsD retC_ret nm_eq df_eq take_map_len take_map_app
 nm_t nm_d nm_td df_t df_d df_td str_t str_d str_td ed_t ed_d ed_td
 evalAppendIn evalBuildSliceC evalCopyC shortL evalApart evalAppendC evalAppendZ evalAppendG evalCapC isOc TK.isInt close_oc touch_oc ren_oc cellsL_oc evalCut evalClear evalCopy evalMake evalWrap evalCap evalNil isNilC lenL isInp gorc gorc2
 mapOf findD keyEq keyOk evalMakeMap evalRange zeroD zeroDV argsG shutG outN lenv retG0_ret retG0_normal retG1_ret retGR_ret renO close_mp touch_mp ren_mp optAll_d optAll_d' touch_ds cellsL_mp cellsD_mp cellsL_dmp
 evalMapSet evalPtr TK.isPtr evalToArr firstL retN_ret retsQ rvarL close_bm touch_bm ren_bm cellsD_bm cellsL_bm cellsL_lbm
attribute [local simp] cutQ_normal cutQ_ret cutQ_exit
section
attribute [local simp] Res.cond Nd.d_eq nd_t nd_dr nd_td ndsD evalIndex retGC_ret tksD psH upds_same
theorem parse_left {s : Str} {R : Nd × PS} (hR : defP false ⟨(scanS s).1, 0⟩ = R) (hl : s.length ≤ 1024) {x : Tk} {r : List Tk} (h : R.2.l = x :: r) : parseS s = (zeroNd, x.at_, if R.2.e ≠ 0 then R.2.e else 2) := by
 unfold parseS; rw [if_neg (by omega)]; simp only []; rw [hR, h]
theorem parse_short {s : Str} {R : Nd × PS} (hR : defP false ⟨(scanS s).1, 0⟩ = R) (hl : s.length ≤ 1024) (h : R.2.l = []) (h2 : ¬ R.2.e = 0 ∨ (scanS s).2 < s.length) : parseS s = (zeroNd, (scanS s).2, 2) := by
 unfold parseS; rw [if_neg (by omega)]; simp only []; rw [hR, h]; simp only []; rw [if_pos h2]
theorem parse_end {s : Str} {R : Nd × PS} (hR : defP false ⟨(scanS s).1, 0⟩ = R) (hl : s.length ≤ 1024) (h : R.2.l = []) (h2 : ¬ (¬ R.2.e = 0 ∨ (scanS s).2 < s.length)) : parseS s = if validB R.1 then (R.1, 0, 0) else (zeroNd, 0, 4) := by
 unfold parseS; rw [if_neg (by omega)]; simp only []; rw [hR, h]; simp only []; rw [if_neg h2]
theorem Parse_step (s : Str) (R : Nd × PS) (hR : defP false ⟨(scanS s).1, 0⟩ = R) (hD : s.length ≤ 1024 → OkG Tryz.prog 52 [.bx 0 0] (psH ⟨(scanS s).1, 0⟩) (psH R.2) (.d R.1.d)) (hw : s.length ≤ 1024 → weighN R.1 ≤ 1000000000) : Ok Tryz.prog 25 [.str s] ⟨.tup [.d (parseS s).1.d, .d (I64 (parseS s).2.1), .d (I64 (parseS s).2.2)], false⟩ := by
 refine Ok.many hT Tryz.func25 (by kernel_rfl) (c := _) rfl Tryz.ntmps25 (by simp) Tryz.results25 (by simp) (by rfl) fun w0 X hp => ?_
 refine LWp.sz hT hW ?_
 simp
 refine LWp.seq ?_
 refine LWp.sz hT hW ?_
 simp
 refine LWp.iff ?_
 simp
 refine ⟨fun h1 => ?_, fun h1 => ?_⟩
 ·refine LWp.sz hT hW ?_
  simp
  refine LWp.ret ?_
  have e : parseS s = (zeroNd, 1024, 4) := by unfold parseS; rw [if_pos (by omega)]
  simp [e, zeroNd]
 ·refine LWp.skip ?_
  simp
  refine LWp.seq ?_
  have hs := scan_ok s (by omega)
  refine LWp.ro hT hW (fun | 15 => some <| .plain ⟨.tup [.d (.sl ((scanS s).1.map Tk.d)), .d (I64 (scanS s).2)], true⟩ | _ => none) ?_
  simp [evalExtract]
  refine ⟨hs, ?_⟩
  refine LWp.sz hT hW ?_
  simp
  refine LWp.seq ?_
  have hd := hD (by omega)
  refine LWp.ro hT hW (fun | 22 => some (.gen ⟨[(20, 0)], [], [], psH R.2, .d R.1.d⟩) | _ => none) ?_
  simp
  refine ⟨by simpa using hd, ?_⟩
  refine LWp.seq ?_
  refine LWp.block ?_
  refine LWp.sz hT hW ?_
  simp
  refine LWp.iff ?_
  simp
  refine ⟨fun g1 g2 => ?_, fun g => ?_⟩
  ·refine LWp.seq ?_
   obtain ⟨x, r, hxr⟩ := List.exists_cons_of_length_pos g2
   have hx2 : (cellsD x.d).length = 2 := rfl
   refine LWp.regAny hT hW hMixed (lk [[],[],[1],[1,2],[1,2,3],[1,2,3,4],[1,2,3,4,5],[1,2,3,4,5,6],[],[8],[8,9],[8,9,10],[0],[0,1,2,3,4,5,6,7,12],[0,1,2,3,4,5,6,7,8,9,10,11,12,13]]) (lk [[],[2],[2],[2],[2],[2],[2],[2],[2],[2],[2],[2],[],[],[]]) (lk [[],[],[],[],[],[],[],[],[],[],[],[],[2],[],[]]) (by kernel_rfl) (fun _ => none) (fun _ => ⟨rfl, fun _ h => h⟩) ?_
   simp [hxr, Tk.d]
   refine LWp.ret ?_
   have e := parse_left hR (by omega) hxr
   simp [e, zeroNd, g1]
  ·refine LWp.sz hT hW ?_
   simp
   refine LWp.iff ?_
   simp
   refine ⟨fun h8 => ?_, fun h8 => ?_⟩
   ·refine LWp.seq ?_
    obtain ⟨x, r, hxr⟩ := List.exists_cons_of_length_pos h8
    refine LWp.regAny hT hW hMixed (lk [[],[],[1],[1,2],[1,2,3],[1,2,3,4],[1,2,3,4,5],[1,2,3,4,5,6],[0],[0,1,2,3,4,5,6,7,8],[0,1,2,3,4,5,6,7,8,9]]) (lk [[],[2],[2],[2],[2],[2],[2],[2],[],[],[]]) (lk [[],[],[],[],[],[],[],[],[2],[],[]]) (by kernel_rfl) (fun _ => none) (fun _ => ⟨rfl, fun _ h => h⟩) ?_
    simp [hxr, Tk.d]
    refine LWp.ret ?_
    have e := parse_left hR (by omega) hxr
    have g9 : R.2.e = 0 := Classical.byContradiction fun q => by have := g q; rw [this] at hxr; cases hxr
    simp [e, zeroNd, g9]
   ·refine LWp.sz hT hW ?_
    simp
    refine LWp.iff ?_
    simp
    refine ⟨fun h10 => ?_, fun h10 h11 => ?_⟩
    ·refine LWp.sz hT hW ?_
     simp
     refine LWp.ret ?_
     have e := parse_short hR (by omega) h8 h10
     simp [e, zeroNd]
    ·refine LWp.seq ?_
     have hv := Valid_ok R.1 (hw (by omega))
     refine LWp.ro hT hW (fun | 80 => some <| .plain ⟨.d (.bool (validB R.1)), true⟩ | _ => none) ?_
     simp
     refine ⟨by simpa using hv, ?_⟩
     refine LWp.iff ?_
     simp
     refine ⟨fun h12 => ?_, fun h12 => ?_⟩
     ·refine LWp.sz hT hW ?_
      simp
      refine LWp.ret ?_
      have e := parse_end hR (by omega) h8 (by omega)
      simp [e, h12, zeroNd]
     ·refine LWp.skip ?_
      simp
      refine LWp.sz hT hW ?_
      simp
      refine LWp.ret ?_
      have e := parse_end hR (by omega) h8 (by omega)
      simp [e, h12]
end
end Go.Eng
namespace Go.Eng
open Go.Proofs
theorem Parse_ok (s : Str) : Ok Tryz.prog 25 [.str s] ⟨.tup [.d (parseS s).1.d, .d (I64 (parseS s).2.1), .d (I64 (parseS s).2.2)], false⟩ :=
 Parse_step s _ rfl (fun hl => def_ok ⟨(scanS s).1, 0⟩ (scanF_good _ _ _) (by have := scanF_len s.length s 0; show (scanF s.length s 0).1.length ≤ 1000000; omega)) fun hl => parse_weigh hl
end Go.Eng
namespace Go.Eng
open Go.Proofs
attribute [local simp] runL stepL evalG evalOp opLV constLV putEnv dstOk upd upds Res.plain Res.cond Res.fail evalBin evalUn seqQ blockQ argsEnv lookL lookH RetIs memless freshL evalPick evalMin bval bok evalLen evalIn strip whenC guardOps guardC slotsOf
 runM foldS stepI stepM maskE wrIn lk renO lookN evalCall evalCallee optAll resLV resObj retLV retObj retsLV retsObj evalLoad evalIndexAddr evalField solid cellsD_agg cellsD_int cellsD_bool cellsD_str cellsD_sl cellsD_ro cellsD_fn cellsL_agg cellsL_dagg cellsL_int cellsL_bool cellsL_str cellsL_sl cellsL_fn cellsL_ow cellsL_bx cellsL_lfn cellsL_nl takeL takeD mkAgg allD eqD eqDs kindsAre kindIs LObj.live TK.isNone TK.agg TK.isBool TK.isStr TK.isStruct Op.operands Call.operands
 evalBuildSlice evalAppend elemsOf evalStore evalBuild fillL lookupF putL evalSlice bound evalConv elemsS freezes frozen loadR
 mkEnv_at mkObs_at close_d close_agg close_ow close_bx close_fn close_nl touch_d touch_agg touch_ow touch_bx touch_fn touch_nl ren_d ren_agg ren_bx ren_rp ren_ow ren_fn ren_nl ren_junk retQ_ret retQ2_ret condQ_bool Nm.d Df.d Ed.d nmsD dfsD strsD edsD retC_ret nm_eq df_eq take_map_len take_map_app
 nm_t nm_d nm_td df_t df_d df_td str_t str_d str_td ed_t ed_d ed_td
 evalAppendIn evalBuildSliceC evalCopyC shortL evalApart evalAppendC evalAppendZ evalAppendG evalCapC isOc TK.isInt close_oc touch_oc ren_oc cellsL_oc evalCut evalClear evalCopy evalMake evalWrap evalCap evalNil isNilC lenL isInp gorc gorc2
 mapOf findD keyEq keyOk evalMakeMap evalRange zeroD zeroDV argsG shutG outN lenv retG0_ret retG0_normal retG1_ret retGR_ret renO close_mp touch_mp ren_mp optAll_d optAll_d' touch_ds cellsL_mp cellsD_mp cellsL_dmp
 evalMapSet evalPtr TK.isPtr evalToArr firstL retN_ret retsQ rvarL close_bm touch_bm ren_bm cellsD_bm cellsL_bm cellsL_lbm
attribute [local simp] cutQ_normal cutQ_ret cutQ_exit
section
set_option maxRecDepth 10000
set_option maxHeartbeats 4000000
attribute [local simp] Res.cond Nd.d_eq nd_t nd_dr nd_td ndsD evalIndex constL1 upds_same one_i one_s one_l all4
theorem lvT_at {i : Nat} {s : Str} (hi : i < 4) (hs : lvT.getD i [] = s) : (lvT.map DV.str)[i]?.getD default = .str s := by
 have hk : i < lvT.length := hi
 subst hs
 rw [List.getElem?_map, List.getElem?_eq_getElem hk]
 simp [List.getD_eq_getElem?_getD, hk]
theorem lvO_at {i : Nat} {o : Int} (hi : i < 4) (hs : lvO.getD i 0 = o) : (lvO.map I64)[i]?.getD default = I64 o := by
 have hk : i < lvO.length := hi
 subst hs
 rw [List.getElem?_map, List.getElem?_eq_getElem hk]
 simp [List.getD_eq_getElem?_getD, hk]
theorem lives06_ok  : Ok Tryz.prog 20 [] ⟨.d (.bool true), true⟩ := by
 refine Ok.ret Tryz.func20 (by kernel_rfl) (c := _) rfl Tryz.ntmps20 (by simp) Tryz.results20 (by intro _ h; cases h) fun w0 X hp => ?_
 obtain ⟨TL, hTL⟩ : ∃ TL, lvT.map DV.str = TL := ⟨_, rfl⟩
 obtain ⟨OL, hOL⟩ : ∃ OL, lvO.map I64 = OL := ⟨_, rfl⟩
 have lT : TL.length = 4 := by rw [← hTL]; rfl
 have lO : OL.length = 4 := by rw [← hOL]; rfl
 have pA := Parse_ok lvA
 have pB := Parse_ok lvB
 have pC := Parse_ok lvC
 rw [lvA_parse] at pA
 rw [lvB_parse] at pB
 rw [lvC_parse] at pC
 obtain ⟨B, hB⟩ : ∃ B, (parseS lvB).1 = B := ⟨_, rfl⟩
 obtain ⟨K, hK⟩ : ∃ K, lvK = K := ⟨_, rfl⟩
 have hK24 : K.kind = 24 := by rw [← hK]; rfl
 have sB := lvB_size
 have wB := lvB_weigh
 have tB := lvB_print
 have hC := lvC_head
 have wC : weighN (.mk 6 [116] 0 [.mk 8 [] 0 [K]]) ≤ 1000000000 := by rw [← hK]; decide
 rw [hB] at pB sB wB tB
 rw [hK] at pC hC
 have kB := size_ok B (by omega)
 have nB := Print_ok B (by omega)
 have nA := Print_ok (.mk 0 [110] (-7) []) (by decide)
 have dC := Head_ok (.mk 6 [116] 0 [.mk 8 [] 0 [K]]) wC
 rw [sB] at kB
 rw [tB] at nB
 rw [lvA_print] at nA
 rw [hC.1, hC.2] at dC
 simp [lvA] at pA
 simp [lvB] at pB
 simp [lvC] at pC
 simp at kB nB nA dC
 refine LWp.sz hT hW ?_
 simp
 refine LWp.so hT hW (fun | 19 => some <| .plain ⟨.tup [.d (Nd.mk 0 [110] (-7) []).d, .d (I64 0), .d (I64 0)], false⟩ | _ => none) ?_
 simp [evalExtract]
 refine ⟨pA, ?_⟩
 refine LWp.so hT hW (fun | 24 => some <| .plain ⟨.tup [.d B.d, .d (I64 0), .d (I64 0)], false⟩ | _ => none) ?_
 simp [evalExtract]
 refine ⟨pB, ?_⟩
 refine LWp.so hT hW (fun | 29 => some <| .plain ⟨.tup [.d (Nd.mk 6 [116] 0 [.mk 8 [] 0 [K]]).d, .d (I64 0), .d (I64 0)], false⟩ | _ => none) ?_
 simp [evalExtract]
 refine ⟨pC, ?_⟩
 refine LWp.sz hT hW ?_
 simp
 refine ⟨by decide, ?_⟩
 refine LWp.weak (Weak.close 10 (x := .sl TL) (by simp [← hTL, lvT])) ?_
 simp
 refine LWp.sz hT hW ?_
 simp
 refine ⟨by decide, ?_⟩
 refine LWp.weak (Weak.close 11 (x := .sl OL) (by simp [← hOL, lvO])) ?_
 simp
 refine LWp.seq ?_
 refine LWp.sz hT hW ?_
 simp
 refine LWp.block ?_
 refine LWp.loopW (ι := Nat) (fun i => mkEnv [(1, .bx 1 0), (3, .d (I64 0)), (4, .bx 4 0), (6, .d (I64 0)), (7, .bx 7 0), (9, .d (I64 0)), (10, .d (.sl TL)), (11, .d (.sl OL)), (12, .d (I64 (i : Nat)))]) (fun i => mkObs [(1, .box false [.d (I64 0), .d (.str [110]), .d (I64 (-7)), .d (.sl [])]), (4, .box false [.d (I64 B.kind), .d (.str B.text), .d (I64 B.n), .d (ndsD B.kids)]), (7, .box false [.d (I64 6), .d (.str [116]), .d (I64 0), .d (.sl [.agg [I64 8, .str [], I64 0, .sl [.agg [I64 K.kind, .str K.text, I64 K.n, .sl (K.kids.map Nd.d)]]]])])]) (fun i => i ≤ 4) (fun i => 4 - i) 0 (Weak.to [1, 3, 4, 6, 7, 9, 10, 11, 12] [(1, 1), (4, 4), (7, 7)] (by decide) (by decide) (by simp [hp]) (by simp) (by simp)) (Nat.zero_le _) fun i hi7 => ?_
 refine LWp.seq ?_
 refine LWp.sz hT hW ?_
 simp
 refine LWp.iff ?_
 simp
 refine ⟨fun h7 => ?_, fun h7 => ?_⟩
 ·refine LWp.skip ?_
  simp
  refine LWp.seq ?_
  refine LWp.block ?_
  refine LWp.seq ?_
  have hi : i < 4 := by omega
  obtain ⟨s, hs⟩ : ∃ s, lvT.getD i [] = s := ⟨_, rfl⟩
  obtain ⟨o, ho⟩ : ∃ o, lvO.getD i 0 = o := ⟨_, rfl⟩
  have hsa := lvT_at hi hs
  have hoa := lvO_at hi ho
  have hps := Parse_ok s
  have hpe := lvT_parse i hi
  rw [hs, ho] at hpe
  rw [hTL] at hsa
  rw [hOL] at hoa
  rw [hpe] at hps
  simp at hps
  obtain ⟨Y, hY⟩ : ∃ Y, (parseS s).1 = Y := ⟨_, rfl⟩
  rw [hY] at hps
  refine LWp.ro hT hW (fun | 44 => some <| .plain ⟨.tup [.d Y.d, .d (I64 o), .d (I64 (if i = 0 then 5 else 2))], false⟩ | _ => none) ?_
  simp [evalExtract, hsa]
  refine ⟨⟨by omega, hps⟩, ?_⟩
  refine LWp.sz hT hW ?_
  simp [hoa]
  refine ⟨by omega, ?_⟩
  refine LWp.iff ?_
  simp
  refine ⟨fun a b => absurd b (by omega), fun _ => ?_⟩
  refine LWp.skip ?_
  simp
  refine LWp.rz hT hW ?_
  simp
  refine ⟨by omega, ?_⟩
  refine loopQ.mk (i + 1) (Weak.to [1, 3, 4, 6, 7, 9, 10, 11, 12] [(1, 1), (4, 4), (7, 7)] (by decide) (by decide) (by simp [hp]) (by simp) (by simp)) ?_ ?_
  ·omega
  ·omega
 ·refine LWp.exit ?_
  simp
  refine LWp.seq ?_
  refine LWp.so hT hW (fun | 93 => some <| .plain ⟨.d (I64 15), true⟩ | _ => none) ?_
  simp
  refine ⟨kB, ?_⟩
  refine LWp.iff ?_
  simp
  refine LWp.skip ?_
  simp
  refine LWp.so hT hW (fun | 98 => some <| .plain ⟨.tup [.d (I64 6), .d (.str [116])], true⟩ | _ => none) ?_
  simp [evalExtract]
  refine ⟨dC, ?_⟩
  refine LWp.so hT hW (fun | 102 => some <| .plain ⟨.d (.str [118, 97, 114, 32, 110, 32, 61, 32, 45, 55, 59]), true⟩ | 106 => some <| .plain ⟨.d (.str lvP), true⟩ | _ => none) ?_
  simp
  refine ⟨⟨nA, nB⟩, ?_⟩
  refine LWp.ret ?_
  simp [lvP, hK24]
end
open Go.Proofs
section
attribute [local simp] Res.cond Nd.d_eq nd_t nd_dr nd_td ndsD evalIndex
def repS (w : Str) : Nat → Str
 | 0 => []
 | n + 1 => repS w n ++ w
theorem parse_wt (s : Str) : weighN (parseS s).1 ≤ 1000000000 := by
 by_cases h : 1024 < s.length
 ·unfold parseS; rw [if_pos h]; decide
 ·obtain ⟨R, hR⟩ : ∃ R, defP false ⟨(scanS s).1, 0⟩ = R := ⟨_, rfl⟩
  have hw := parse_weigh (s := s) (by omega)
  rw [hR] at hw
  unfold parseS; rw [if_neg h]; simp only []; rw [hR]
  have z : weighN zeroNd ≤ 1000000000 := by decide
  split
  ·exact z
  ·split
   ·exact z
   ·split
    ·exact hw
    ·exact z
theorem same_refl (x : Nd) : sameN x x = true := (sameN_iff x x).2 rfl
theorem repS_0 (w : Str) : repS w 0 = [] := rfl
attribute [local simp] repS_0
end
open Go.Proofs
section
attribute [local simp] Res.cond Nd.d_eq nd_t nd_dr nd_td ndsD evalIndex
theorem spaced_0 (T : List Tk) (l : List Int) : spacedTo T l 0 = [] := rfl
attribute [local simp] spaced_0
def spB (out w : Str) (k : Int) (i : Nat) : Bool :=
 decide (k < 3) || (match out.getLast? with
   | none => false
   | some c => (firstIs letterB w || firstIs digitB w) && decide (c ≠ 32) && decide (c ≠ 10) && !signB c) || (decide (0 < i) && (decide (w = [61]) || decide (w = [61, 61])))
theorem spaced_succ (T : List Tk) (l : List Int) (i : Nat) : spacedTo T l (i + 1) = (if spB (spacedTo T l i) (T.getD i default).text (atL l i 6) i = true then spacedTo T l i ++ sepsL.getD ((atL l i 6).tmod 3).toNat [] else spacedTo T l i) ++ (T.getD i default).text := rfl
theorem seps_row {m : Int} (h0 : 0 ≤ m) (h1 : m < 3) : ([DV.str [32], DV.str [10], DV.str [32, 32, 10, 32]] : List DV)[m.toNat]?.getD default = .str (sepsL.getD m.toNat []) := by
 have : m = 0 ∨ m = 1 ∨ m = 2 := by omega
 rcases this with rfl | rfl | rfl <;> rfl
theorem spB_iff {out w : Str} {k : Int} {i : Nat} {d : UInt8} (hd : out[out.length - 1]?.getD 0 = d) : spB out w k i = true ↔ ((k < 3 ∨ (((0 < out.length ∧ (firstIs letterB w = true ∨ firstIs digitB w = true)) ∧ ¬ (d.toNat : Int) = 32) ∧ ¬ (d.toNat : Int) = 10) ∧ ¬ d ∈ signs) ∨ 0 < i ∧ (w = [61] ∨ w = [61, 61])) := by
 unfold spB
 rw [List.getLast?_eq_getElem?]
 cases e : out[out.length - 1]? with
 | none =>
  have h0 : ¬ 0 < out.length := fun q => by rw [List.getElem?_eq_getElem (by omega)] at e; cases e
  simp [h0]
 | some c =>
  rw [e] at hd
  have hd : c = d := hd
  subst hd
  have h0 : 0 < out.length := by
   have := (List.getElem?_eq_some_iff.1 e).1
   omega
  have e1 : (c.toNat : Int) = 32 ↔ c = 32 := by rw [← UInt8.toNat_inj]; have : (32 : UInt8).toNat = 32 := rfl; omega
  have e2 : (c.toNat : Int) = 10 ↔ c = 10 := by rw [← UInt8.toNat_inj]; have : (10 : UInt8).toNat = 10 := rfl; omega
  simp [h0, e1, e2, signB]
theorem spacedTo_len (T : List Tk) (l : List Int) (b : Nat) (hb : ∀ t ∈ T, t.text.length ≤ b) : ∀ i, (spacedTo T l i).length ≤ i * (b + 4)
 | 0 => by simp [spacedTo]
 | i + 1 => by
  have ih := spacedTo_len T l b hb i
  have hs : ∀ k : Nat, (sepsL.getD k []).length ≤ 4 := fun k => by
   rw [List.getD_eq_getElem?_getD]
   cases e : sepsL[k]? with
   | none => simp
   | some w => exact (by decide : ∀ w ∈ sepsL, w.length ≤ 4) w (List.mem_of_getElem? e)
  have hw : (T.getD i default).text.length ≤ b := by
   rw [List.getD_eq_getElem?_getD]
   cases e : T[i]? with
   | none => exact Nat.zero_le _
   | some w => exact hb w (List.mem_of_getElem? e)
  have h4 := hs ((atL l i 6).tmod 3).toNat
  rw [Nat.succ_mul, spaced_succ, List.length_append]
  cases spB (spacedTo T l i) (T.getD i default).text (atL l i 6) i
  ·simp only [Bool.false_eq_true, if_false]; omega
  ·rw [if_pos rfl, List.length_append]; omega
set_option maxRecDepth 10000 in
theorem RSpaced_ok (s : Str) (l : List Int) (hs : s.length ≤ 100000000) (hl : ∀ n ∈ l, -9223372036854775808 ≤ n ∧ n ≤ 9223372036854775807) : Ok Tryz.prog 22 [.str s, .sl (l.map I64)] ⟨.d (.str (spacedS s l)), true⟩ := by
 refine Ok.ret Tryz.func22 (by kernel_rfl) (c := _) rfl Tryz.ntmps22 (by simp) Tryz.results22 (by intro _ h; cases h) fun w0 X hp => ?_
 obtain ⟨T, hT1⟩ : ∃ T, (scanS s).1 = T := ⟨_, rfl⟩
 have hin : ∀ t ∈ T, InT s t := fun t ht => scanS_in (hT1 ▸ ht)
 have htl : T.length ≤ s.length := by rw [← hT1]; exact scanF_len _ _ _
 have hgT : GoodT T := by rw [← hT1]; exact scanF_good _ _ _
 have hwl : ∀ t ∈ T, t.text.length ≤ 17 := fun t ht => tok_len (hgT t ht)
 refine LWp.sz hT hW ?_
 simp
 refine LWp.seq ?_
 have hsc := RScan_ok s (by omega)
 rw [hT1] at hsc
 refine LWp.ro hT hW (fun | 14 => some <| .plain ⟨.tup [.d (.sl (T.map Tk.r)), .d (I64 (scanS s).2)], true⟩ | _ => none) ?_
 simp [evalExtract]
 refine ⟨hsc, ?_⟩
 refine LWp.sz hT hW ?_
 simp
 refine LWp.seq ?_
 refine LWp.sz hT hW ?_
 simp
 refine LWp.block ?_
 refine LWp.loopW (ι := Nat) (fun i => mkEnv [(0, .d (.str s)), (1, .d (.sl (l.map I64))), (5, .d (.sl (T.map Tk.r))), (7, .d (.str (spacedTo T l i))), (8, .d (I64 i))]) (fun i => mkObs []) (fun i => i ≤ T.length) (fun i => T.length - i) 0 (Weak.to [0, 1, 5, 7, 8] [] (by decide) (by decide) (by simp [hp]) (by simp) (by simp)) ((Nat.zero_le _)) fun i hi4 => ?_
 refine LWp.seq ?_
 refine LWp.sz hT hW ?_
 simp
 refine LWp.iff ?_
 simp
 refine ⟨fun h4 => ?_, fun h4 => ?_⟩
 ·refine LWp.skip ?_
  simp
  refine LWp.seq ?_
  refine LWp.block ?_
  refine LWp.seq ?_
  have hi : i < T.length := by omega
  obtain ⟨t, htt⟩ : ∃ t, T[i] = t := ⟨_, rfl⟩
  have hti : T[i]? = some t := by rw [List.getElem?_eq_getElem hi, htt]
  have htm : t ∈ T := List.mem_of_getElem? hti
  obtain ⟨a, ha, hal, hat⟩ := hin t htm
  refine LWp.regAny hT hW hMixed (lk [[],[],[],[1,2],[1,2,3],[1,2,3,4],[],[],[6,7],[6,7,8],[6,7,8,9],[0,1,2,3,4,5,6,7,8,9,10],[0,1,2,3,4,5,6,7,8,9,10,11]]) (lk [[],[],[],[],[],[],[],[],[],[],[],[],[]]) (lk [[],[],[],[],[],[],[],[],[],[],[],[],[]]) (by kernel_rfl) (fun _ => none) (fun _ => ⟨rfl, fun _ h => h⟩) ?_
  simp [hti, Tk.r, ha, tok_cut, hat]
  refine ⟨⟨hi, by omega, by omega⟩, ?_⟩
  refine LWp.seq ?_
  have h7 := At_ok l i 6 hl (by decide)
  refine LWp.ro hT hW (fun | 37 => some <| .plain ⟨.d (I64 (atL l i 6)), true⟩ | _ => none) ?_
  simp
  refine ⟨h7, ?_⟩
  refine LWp.seq ?_
  obtain ⟨out, hout⟩ : ∃ out, spacedTo T l i = out := ⟨_, rfl⟩
  have hol := spacedTo_len T l 17 hwl i
  rw [hout] at hol
  have hol2 : i * (17 + 4) ≤ 100000000 * (17 + 4) := Nat.mul_le_mul_right _ (by omega)
  obtain ⟨d, hd⟩ : ∃ d, out[out.length - 1]?.getD 0 = d := ⟨_, rfl⟩
  have h81 := RLetter_ok t.text 0 (by omega)
  have h82 := RDigit_ok t.text 0 (by omega)
  have h83 := RSign_ok d
  have hpos : 0 < out.length ↔ out ≠ [] := List.length_pos_iff
  refine LWp.ro hT hW (fun | 43 => some <| .plain ⟨.d (.bool (firstIs letterB t.text)), true⟩ | 46 => some <| .plain ⟨.d (.bool (firstIs digitB t.text)), true⟩ | 71 => some <| .plain ⟨.d (.bool (decide (d ∈ signs))), true⟩ | _ => none) ?_
  simp [hout, hd]
  refine ⟨by (repeat' with_reducible apply And.intro) <;> intros <;> first | (with_reducible exact h83) | omega | (simpa using h81) | (simpa using h82) | (constructor <;> first | omega | assumption), ?_⟩
  refine LWp.seq ?_
  refine LWp.sz hT hW ?_
  simp
  refine ⟨by (repeat' with_reducible apply And.intro) <;> intros <;> ((repeat' with_reducible apply And.intro) <;> first | assumption | grind), ?_⟩
  refine LWp.iff ?_
  simp
  refine ⟨fun g => ?_, fun g1 g2 g3 => ?_⟩
  ·have hB := (spB_iff hd).2 g
   have htg : T.getD i default = t := by rw [List.getD_eq_getElem?_getD, hti]; rfl
   have hstep := spaced_succ T l i
   rw [hout, htg, if_pos hB] at hstep
   have hk := atL_range l i 6 (by decide)
   have hm3 : 0 ≤ (atL l i 6).tmod 3 ∧ (atL l i 6).tmod 3 < 3 := by rw [Int.tmod_eq_emod_of_nonneg hk.1]; omega
   have hsp := seps_row hm3.1 hm3.2
   have hs4 : (sepsL.getD ((atL l i 6).tmod 3).toNat []).length ≤ 4 := by
    rw [List.getD_eq_getElem?_getD]
    cases e : sepsL[((atL l i 6).tmod 3).toNat]? with
    | none => simp
    | some w => exact (by decide : ∀ w ∈ sepsL, w.length ≤ 4) w (List.mem_of_getElem? e)
   obtain ⟨sep, hse⟩ : ∃ sep, sepsL.getD ((atL l i 6).tmod 3).toNat [] = sep := ⟨_, rfl⟩
   rw [hse] at hsp hs4 hstep
   refine LWp.rz hT hW ?_
   simp [hsp]
   refine ⟨⟨⟨⟨by decide, hm3⟩, hm3.2⟩, by omega⟩, ?_⟩
   have hwt := hwl t htm
   refine LWp.rz hT hW ?_
   simp [List.length_append]
   refine ⟨by omega, ?_⟩
   refine LWp.rz hT hW ?_
   simp
   refine ⟨by omega, ?_⟩
   refine loopQ.mk (i + 1) (Weak.to [0, 1, 5, 7, 8] [] (by decide) (by decide) (by simp [hp]) (by simp [hstep]) (by simp)) ?_ ?_
   ·omega
   ·omega
  ·have hB : spB out t.text (atL l i 6) i = false := by
    cases e : spB out t.text (atL l i 6) i with
    | false => rfl
    | true =>
     rcases (spB_iff hd).1 e with (h | h) | h
     ·omega
     ·exact absurd (g2 h.1.1.1.1 h.1.1.1.2 h.1.1.2 h.1.2) h.2
     ·exact absurd h.2 (not_or.2 (g3 h.1))
   have htg : T.getD i default = t := by rw [List.getD_eq_getElem?_getD, hti]; rfl
   have hstep := spaced_succ T l i
   rw [hout, htg, if_neg (by simp [hB])] at hstep
   refine LWp.skip ?_
   simp
   have hwt := hwl t htm
   refine LWp.rz hT hW ?_
   simp [List.length_append]
   refine ⟨by omega, ?_⟩
   refine LWp.rz hT hW ?_
   simp
   refine ⟨by omega, ?_⟩
   refine loopQ.mk (i + 1) (Weak.to [0, 1, 5, 7, 8] [] (by decide) (by decide) (by simp [hp]) (by simp [hstep]) (by simp)) ?_ ?_
   ·omega
   ·omega
 ·refine LWp.exit ?_
  simp
  refine LWp.sz hT hW ?_
  simp
  refine LWp.ret ?_
  simp
  rw [show i = T.length by omega]
  unfold spacedS
  rw [hT1]
end
end Go.Eng
namespace Go.Eng
open Go.RowKit
section
variable {P : Program} {a : Act} {w : World} {ops : Array Oper} {Q : Exit → Act → World → Prop} {l : List Oper} {o : Oper}
theorem wpList_val (hg : o.guard = none) {v : Value} {w' : World} (hr : (execOp a.eval o).run P w = .ok (.value v) w') (hk : wpList P ops Q l (a.put o.dst v) w') : wpList P ops Q (o :: l) a w := by
  unfold wpList
  rw [if_pos (by simp [Region.wanted, hg])]
  left; unfold Oper.wp; rw [hr]; exact hk
theorem wpList_skip (hg : o.guard = none) {w' : World} (hr : (execOp a.eval o).run P w = .ok .skip w') (hk : wpList P ops Q l (a.put o.dst undef) w') : wpList P ops Q (o :: l) a w := by
  unfold wpList
  rw [if_pos (by simp [Region.wanted, hg])]
  left; unfold Oper.wp; rw [hr]; exact hk
theorem wpList_call (hg : o.guard = none) {f : FuncId} {vs : Array Value} {w' : World} (hr : (execOp a.eval o).run P w = .ok (.enter f vs) w') (hk : Calls P f vs w' fun e w2 => ∃ v, e = .returned v ∧ wpList P ops Q l (a.put o.dst v) w2) : wpList P ops Q (o :: l) a w := by
  unfold wpList
  rw [if_pos (by simp [Region.wanted, hg])]
  left; unfold Oper.wp; rw [hr]
  simp only [Oper.upon]
  refine hk.mono ?_
  rintro e w2 ⟨v, rfl, h⟩
  exact h
theorem ev_put {d t : Nat} {v : Value} : (a.put (some d) v).eval (.tmp t) = if t = d ∧ d < a.tmps.size then v else a.eval (.tmp t) := by
  show (a.put (some d) v).tmps.getD t undef = if t = d ∧ d < a.tmps.size then v else a.tmps.getD t undef
  simp only [Act.put, Array.getD_eq_getD_getElem?, Array.getElem?_setIfInBounds]
  by_cases h : d = t
  · subst h
    by_cases h2 : d < a.tmps.size
    · simp [h2]
    · simp [h2]
  · rw [if_neg h, if_neg (fun e => h e.1.symm)]
theorem ev_size {d : Nat} {v : Value} : (a.put (some d) v).tmps.size = a.tmps.size := by simp [Act.put]
theorem ev_none {v : Value} : a.put none v = a := rfl
theorem add0 (b j : Nat) : (⟨b, 0, none⟩ : Addr).add j = ⟨b, j, none⟩ := by unfold Addr.add; split <;> simp_all
theorem run_storeByte {te : TypeId} (hso : ∀ w : World, (sizeOf te).run P w = .ok 1 w) {b i : Nat} {n : Int} {cur : Array Value} {e : TypeId} {fr : Nat × Nat} (hblk : w.heap[b]? = some (.cells cur e fr)) (hi : i < cur.size) (hf : cur.size ≤ fr.1) :
    (storeVar te ⟨b, i, none⟩ (.int .u8 n)).run P w = .ok () (w.setRow b (cur.setIfInBounds i (.int .u8 n))) := by
  have hc : (Value.int .u8 n).cells = #[.int .u8 n] := rfl
  unfold storeVar
  rw [Sem.run_bind, hso]
  have hcell : w.cell? ⟨b, i, none⟩ = some cur[i] := by simp [World.cell?, hblk, hi]
  obtain ⟨lo, hi2⟩ := fr
  have hfr : w.frozen? ⟨b, i, none⟩ = false := by
    simp only [World.frozen?, hblk]
    have hf : cur.size ≤ lo := hf
    simp; omega
  have hadd : (⟨b, i, none⟩ : Addr).add 0 = ⟨b, i, none⟩ := rfl
  have hst : (store ((⟨b, i, none⟩ : Addr).add 0) (.int .u8 n)).run P w = .ok () (w.setRow b (cur.setIfInBounds i (.int .u8 n))) := by
    rw [hadd, run_store P w _ _ _ rfl, hcell]
    simp [hfr, setCell_eq_setRow w b i cur e (lo, hi2) _ hblk]
  simp only [hc, Result.andThen_ok, List.size_toArray, List.length_cons, List.length_nil, ne_eq, not_true_eq_false, if_false, storeCells, Sem.run_bind, hst]
  rfl
end
section
variable {P : Program} {T : TypeId → TyI} {w0 : Base} {X : Nat → Prop} {Q : LX → Env → Obs → Prop} {env : Env} {H : Obs}
set_option maxRecDepth 10000 in
set_option maxHeartbeats 400000 in
theorem LWp.setByte (hT : TOk P T) {i1 i2 i3 : Nat} {o1 o2 o3 p1 p2 p3 p4 p5 p6 p7 p8 p9 q1 q2 q3 : Oper} {rest : Code} {ts tb te ti : TypeId} {fA : FuncId} {ta : Array TypeId}
    (us : P.underlying ts = some .string) (ub : P.underlying tb = some (.slice te)) (ue : P.underlying te = some (.int .u8)) (ui : P.underlying ti = some (.int .i64)) (hso : ∀ w : World, (sizeOf te).run P w = .ok 1 w)
    (h1 : o1.op = .move (.tmp 0)) (d1 : o1.dst = some 101) (g1 : o1.guard = none) (h2 : o2.op = .convert ts tb (.tmp 101)) (d2 : o2.dst = some 102) (g2 : o2.guard = none)
    (h3 : o3.op = .assign (.tmp 102)) (d3 : o3.dst = some 13) (g3 : o3.guard = none)
    (k1 : p1.op = .move (.tmp 13)) (e1 : p1.dst = some 103) (f1 : p1.guard = none) (k2 : p2.op = .move (.tmp 1)) (e2 : p2.dst = some 104) (f2 : p2.guard = none)
    (k3 : p3.op = .move (.tmp 13)) (e3 : p3.dst = some 105) (f3 : p3.guard = none) (k4 : p4.op = .call { callee := .builtin .len, args := #[.tmp 105], argTypes := #[tb] }) (e4 : p4.dst = some 106) (f4 : p4.guard = none)
    (k5 : p5.op = .call { callee := .value (.func fA), args := #[.tmp 104, .tmp 106], argTypes := ta }) (e5 : p5.dst = some 107) (f5 : p5.guard = none)
    (k6 : p6.op = .move (.tmp 3)) (e6 : p6.dst = some 108) (f6 : p6.guard = none) (k7 : p7.op = .convert ti te (.tmp 108)) (e7 : p7.dst = some 109) (f7 : p7.guard = none)
    (k8 : p8.op = .indexAddr tb (.tmp 103) (.tmp 107)) (e8 : p8.dst = some 110) (f8 : p8.guard = none) (k9 : p9.op = .store te (.tmp 110) (.tmp 109)) (e9 : p9.dst = none) (f9 : p9.guard = none)
    (l1 : q1.op = .move (.tmp 13)) (m1 : q1.dst = some 111) (n1 : q1.guard = none) (l2 : q2.op = .convert tb ts (.tmp 111)) (m2 : q2.dst = some 112) (n2 : q2.guard = none)
    (l3 : q3.op = .assign (.tmp 112)) (m3 : q3.dst = some 8) (n3 : q3.guard = none)
    {s : List UInt8} {x y : Int} {k : Nat} (v0 : env 0 = .d (.str s)) (v1 : env 1 = .d (.int .i64 x)) (v3 : env 3 = .d (.int .i64 y)) (hk : k < s.length) (hA : Ok P fA [.int .i64 x, .int .i64 s.length] ⟨.d (.int .i64 k), true⟩)
    (K : LWp P 113 w0 X rest Q (upd (upd (upd (upd (upd (upd (upd (upd (upd (upd (upd (upd (upd (upd env 101 .junk) 102 .junk) 13 .junk) 103 .junk) 104 .junk) 105 .junk) 106 .junk) 107 .junk) 108 .junk) 109 .junk) 110 .junk) 111 .junk) 112 .junk) 8 (.d (.str (s.set k (UInt8.ofNat (IntKind.u8.wrap y).toNat))))) H) :
    LWp P 113 w0 X (.seq (.region i1 [o1, o2, o3].toArray false) (.seq (.region i2 [p1, p2, p3, p4, p5, p6, p7, p8, p9].toArray false) (.seq (.region i3 [q1, q2, q3].toArray false) rest))) Q env H := by
  intro β a w sm
  have hN : a.tmps.size = 113 := sm.size
  have z0 : a.eval (.tmp 0) = .string ⟨s.toArray⟩ := by have h := sm.get (.tmp 0); rw [show opLV env (.tmp 0) = env 0 from rfl, v0] at h; exact h.str
  have z1 : a.eval (.tmp 1) = .int .i64 x := by have h := sm.get (.tmp 1); rw [show opLV env (.tmp 1) = env 1 from rfl, v1] at h; exact h.int
  have z3 : a.eval (.tmp 3) = .int .i64 y := by have h := sm.get (.tmp 3); rw [show opLV env (.tmp 3) = env 3 from rfl, v3] at h; exact h.int
  obtain ⟨S, hS⟩ : ∃ S : ByteArray, S = ⟨s.toArray⟩ := ⟨_, rfl⟩
  have hSl : S.size = s.length := by rw [hS]; simp [ByteArray.size]
  rw [← hS] at z0
  obtain ⟨cap, hcap⟩ : ∃ cap, grownCap w S.size 0 te = cap := ⟨_, rfl⟩
  -- the copy
  refine wp_seq (wp_region_list ?_)
  refine wpList_val g1 (v := .string S) (w' := w) (by simp [execOp, h1, z0]) ?_
  rw [d1]
  have hcv := Lib.run_convert_string_bytes (P := P) w ts tb te S us ub ue
  rw [hcap] at hcv
  refine wpList_val g2 (v := .slice (some ⟨w.heap.size, 0, none⟩) S.size cap) (w' := Lib.bytesWorld w te S) (by simp [execOp, h2, ev_put, hN, hcv]) ?_
  rw [d2]
  refine wpList_val g3 (v := .slice (some ⟨w.heap.size, 0, none⟩) S.size cap) (w' := Lib.bytesWorld w te S) (by simp [execOp, h3, ev_put, ev_size, hN]) ?_
  rw [d3]
  have hb1 := Lib.bytesWorld_at_new w te S
  have hsz1 := Lib.bytesWorld_size w te S
  have hold1 := Lib.bytesWorld_at_old w te S
  have bel1 : Bel w.heap.size w (Lib.bytesWorld w te S) := by
    refine ⟨?_, ?_, ?_, by omega, fun j hj => hold1 j hj, ?_⟩ <;> (unfold Lib.bytesWorld World.freeze; split <;> first | rfl | exact Nat.le_succ w.drawn)
  obtain ⟨C, hC⟩ : ∃ C, Lib.bytesCells w te S = C := ⟨_, rfl⟩
  rw [hC] at hb1
  generalize Lib.bytesWorld w te S = w1 at hb1 hsz1 hold1 bel1 ⊢
  -- the change
  show Code.wp P _ _ _ _
  refine wp_seq (wp_region_list ?_)
  refine wpList_val f1 (v := .slice (some ⟨w.heap.size, 0, none⟩) S.size cap) (w' := w1) (by simp [execOp, k1, ev_put, ev_size, hN]) ?_
  rw [e1]
  refine wpList_val f2 (v := .int .i64 x) (w' := w1) (by simp [execOp, k2, ev_put, ev_size, hN, z1]) ?_
  rw [e2]
  refine wpList_val f3 (v := .slice (some ⟨w.heap.size, 0, none⟩) S.size cap) (w' := w1) (by simp [execOp, k3, ev_put, ev_size, hN]) ?_
  rw [e3]
  refine wpList_val f4 (v := .int .i64 S.size) (w' := w1) (by simp [execOp, k4, resolve, invoke, builtin, ev_put, ev_size, hN, run_len_sl ub]) ?_
  rw [e4]
  obtain ⟨m1', _⟩ := sm.mem.grow bel1
  have hcall := hA.2 w1 (fun _ => False) [.int .i64 x, .int .i64 s.length] ⟨fun _ h => h.elim, m1'.glob.anti fun _ h => h.elim⟩ (.cons (.int _ _) (.cons (.int _ _) .nil))
  obtain ⟨fn, hfn, hname, hbody⟩ := hA.1
  refine wpList_call f5 (f := fA) (vs := #[.int .i64 x, .int .i64 s.length]) (w' := w1) ?_ (hcall.mono ?_)
  · have hbn : fn.body.isNone = false := by cases q : fn.body <;> simp_all
    simp only [execOp, k5, resolve, Deferred.ofValue, Sem.run_bind, Sem.run_pure, Result.andThen_ok, invoke, callFunc, run_program, hfn, hname, Bool.false_eq_true, if_false, hbn, show ∀ a : Act, a.eval (.func fA) = .func (.func fA) #[] #[] from fun _ => rfl]
    simp [ev_put, ev_size, hN, hSl]
  rintro _ w2 ⟨v, rfl, bel2, hret⟩
  obtain ⟨B, hret⟩ := hret
  have hv : v = .int .i64 k := by
    have hret : RD w2 _ (.int .i64 (k : Int)) v := hret
    cases hret; rfl
  subst hv
  refine ⟨.int .i64 k, rfl, ?_⟩
  rw [e5]
  refine wpList_val f6 (v := .int .i64 y) (w' := w2) (by simp [execOp, k6, ev_put, ev_size, hN, z3]) ?_
  rw [e6]
  refine wpList_val f7 (v := .int .u8 (IntKind.u8.wrap y)) (w' := w2) (by simp [execOp, k7, ev_put, ev_size, hN, convert, run_underlying ui, run_underlying ue, Conv.intToInt]) ?_
  rw [e7]
  refine wpList_val f8 (v := .pointer (some ⟨w.heap.size, k, none⟩)) (w' := w2) (by simp [execOp, k8, ev_put, ev_size, hN, Instr.indexAt, asIntOf, run_underlying ub, hso, hSl, hk, add0]) ?_
  rw [e8]
  have hb2 : w2.heap[w.heap.size]? = some (.cells C te (C.size, C.size + 1)) := by rw [bel2.block _ (by omega)]; exact hb1
  have hCs : S.size ≤ C.size := by rw [← hC]; unfold Lib.bytesCells; rw [Array.size_append, Array.size_map]; exact Nat.le_add_right _ _
  obtain ⟨C3, hC3⟩ : ∃ C3, C.setIfInBounds k (.int .u8 (IntKind.u8.wrap y)) = C3 := ⟨_, rfl⟩
  have hst := run_storeByte (P := P) (w := w2) hso (n := IntKind.u8.wrap y) hb2 (show k < C.size by omega) (Nat.le_refl _)
  rw [hC3] at hst
  refine wpList_skip f9 (w' := w2.setRow w.heap.size C3) (by simp [execOp, k9, ev_put, ev_size, hN, Instr.storeAt, Instr.sureAddr, hst]) ?_
  rw [e9, ev_none]
  have hb3 := setRow_heap w2 w.heap.size C C3 te (C.size, C.size + 1) hb2
  have bel3 : Bel w.heap.size w (w2.setRow w.heap.size C3) := by
    refine ⟨bel2.os.trans bel1.os, bel2.tape.trans bel1.tape, bel2.output.trans bel1.output, ?_, fun j hj => ?_, Nat.le_trans bel1.drawn bel2.drawn⟩
    · have := bel1.size; have := bel2.size; simp [World.setRow]; omega
    · rw [setRow_other _ _ _ _ (by omega), bel2.block j (by omega), bel1.block j hj]
  generalize w2.setRow w.heap.size C3 = w3 at hb3 bel3 ⊢
  -- the text again
  show Code.wp P _ _ _ _
  refine wp_seq (wp_region_list ?_)
  refine wpList_val n1 (v := .slice (some ⟨w.heap.size, 0, none⟩) S.size cap) (w' := w3) (by simp [execOp, l1, ev_put, ev_size, hN]) ?_
  rw [m1]
  obtain ⟨s2, hs2⟩ : ∃ s2, s.set k (UInt8.ofNat (IntKind.u8.wrap y).toNat) = s2 := ⟨_, rfl⟩
  have hl2 : s2.length = S.size := by rw [← hs2, List.length_set, hSl]
  have hbk := run_convert_bytes_back (P := P) w3 tb ts te ⟨w.heap.size, 0, none⟩ cap s2 ub ue us (fun j hj => by
    rw [add0, cell_of_row w3 _ j _ te _ hb3, ← hC3, ← hC, Array.getElem?_setIfInBounds]
    have hjs : j < s.length := by omega
    have hu : 0 ≤ IntKind.u8.wrap y ∧ IntKind.u8.wrap y < 256 := by
      unfold IntKind.wrap
      simp [IntKind.bits, IntKind.signed]
      omega
    subst hs2
    rw [List.getElem_set]
    by_cases e : k = j
    · subst e
      rw [if_pos rfl, if_pos (by rw [hC]; omega), if_pos rfl]
      have hn : (UInt8.ofNat (IntKind.u8.wrap y).toNat).toNat = (IntKind.u8.wrap y).toNat := by rw [UInt8.toNat_ofNat']; omega
      rw [hn, Int.toNat_of_nonneg hu.1]
    · rw [if_neg e, if_neg e]
      simp [Lib.bytesCells, Array.getElem?_append, hS, hjs])
  rw [hl2] at hbk
  refine wpList_val n2 (v := .string ⟨s2.toArray⟩) (w' := w3) (by simp [execOp, l2, ev_put, ev_size, hN, hbk]) ?_
  rw [m2]
  refine wpList_val n3 (v := .string ⟨s2.toArray⟩) (w' := w3) (by simp [execOp, l3, ev_put, ev_size, hN]) ?_
  rw [m3]
  rw [hs2] at K
  obtain ⟨m3', g3'⟩ := sm.mem.grow bel3
  have ok : ∀ d, d < 113 → dstOk 113 (some d) := fun d h => h
  have t1 := sm.put m3' g3' (.junk (.string S)) (ok 101 (by decide))
  have t2 := t1.put m3' Goes.refl (.junk (.slice (some ⟨w.heap.size, 0, none⟩) S.size cap)) (ok 102 (by decide))
  have t3 := t2.put m3' Goes.refl (.junk (.slice (some ⟨w.heap.size, 0, none⟩) S.size cap)) (ok 13 (by decide))
  have t4 := t3.put m3' Goes.refl (.junk (.slice (some ⟨w.heap.size, 0, none⟩) S.size cap)) (ok 103 (by decide))
  have t5 := t4.put m3' Goes.refl (.junk (.int .i64 x)) (ok 104 (by decide))
  have t6 := t5.put m3' Goes.refl (.junk (.slice (some ⟨w.heap.size, 0, none⟩) S.size cap)) (ok 105 (by decide))
  have t7 := t6.put m3' Goes.refl (.junk (.int .i64 S.size)) (ok 106 (by decide))
  have t8 := t7.put m3' Goes.refl (.junk (.int .i64 k)) (ok 107 (by decide))
  have t9 := t8.put m3' Goes.refl (.junk (.int .i64 y)) (ok 108 (by decide))
  have t10 := t9.put m3' Goes.refl (.junk (.int .u8 (IntKind.u8.wrap y))) (ok 109 (by decide))
  have t11 := t10.put m3' Goes.refl (.junk (.pointer (some ⟨w.heap.size, k, none⟩))) (ok 110 (by decide))
  have t12 := t11.put m3' Goes.refl (.junk (.slice (some ⟨w.heap.size, 0, none⟩) S.size cap)) (ok 111 (by decide))
  have t13 := t12.put m3' Goes.refl (.junk (.string ⟨s2.toArray⟩)) (ok 112 (by decide))
  have t14 := t13.put m3' Goes.refl (R.mkStr s2) (ok 8 (by decide))
  have K := K β _ w3 t14
  exact K
end
end Go.Eng
namespace Go.Eng
open Go.Proofs
attribute [local simp] runL stepL evalG evalOp opLV constLV putEnv dstOk upd upds Res.plain Res.cond Res.fail evalBin evalUn seqQ blockQ argsEnv lookL lookH RetIs memless freshL evalPick evalMin bval bok evalLen evalIn strip whenC guardOps guardC slotsOf
 runM foldS stepI stepM maskE wrIn lk renO lookN evalCall evalCallee optAll resLV resObj retLV retObj retsLV retsObj evalLoad evalIndexAddr evalField solid cellsD_agg cellsD_int cellsD_bool cellsD_str cellsD_sl cellsD_ro cellsD_fn cellsL_agg cellsL_dagg cellsL_int cellsL_bool cellsL_str cellsL_sl cellsL_fn cellsL_ow cellsL_bx cellsL_lfn cellsL_nl takeL takeD mkAgg allD eqD eqDs kindsAre kindIs LObj.live TK.isNone TK.agg TK.isBool TK.isStr TK.isStruct Op.operands Call.operands
 evalBuildSlice evalAppend elemsOf evalStore evalBuild fillL lookupF putL evalSlice bound evalConv elemsS freezes frozen loadR
 mkEnv_at mkObs_at close_d close_agg close_ow close_bx close_fn close_nl touch_d touch_agg touch_ow touch_bx touch_fn touch_nl ren_d ren_agg ren_bx ren_rp ren_ow ren_fn ren_nl ren_junk retQ_ret retQ2_ret condQ_bool Nm.d Df.d Ed.d nmsD dfsD strsD edsD retC_ret nm_eq df_eq take_map_len take_map_app
 nm_t nm_d nm_td df_t df_d df_td str_t str_d str_td ed_t ed_d ed_td
 evalAppendIn evalBuildSliceC evalCopyC shortL evalApart evalAppendC evalAppendZ evalAppendG evalCapC isOc TK.isInt close_oc touch_oc ren_oc cellsL_oc evalCut evalClear evalCopy evalMake evalWrap evalCap evalNil isNilC lenL isInp gorc gorc2
 mapOf findD keyEq keyOk evalMakeMap evalRange zeroD zeroDV argsG shutG outN lenv retG0_ret retG0_normal retG1_ret retGR_ret renO close_mp touch_mp ren_mp optAll_d optAll_d' touch_ds cellsL_mp cellsD_mp cellsL_dmp
 evalMapSet evalPtr TK.isPtr evalToArr firstL retN_ret retsQ rvarL close_bm touch_bm ren_bm cellsD_bm cellsL_bm cellsL_lbm
attribute [local simp] cutQ_normal cutQ_ret cutQ_exit
section
attribute [local simp] Res.cond Nd.d_eq nd_t nd_dr nd_td ndsD evalIndex
theorem chgE_at {n : Int} (h0 : 0 ≤ n) (h1 : n < 4) : (chgEmpty.map DV.str)[n.toNat]?.getD default = .str (chgEmpty.getD n.toNat []) := by
 have hk : n.toNat < chgEmpty.length := by show _ < 4; omega
 rw [List.getElem?_map, List.getElem?_eq_getElem hk]
 simp [List.getD_eq_getElem?_getD, hk]
theorem chgW_at {n : Int} (h0 : 0 ≤ n) (h1 : n < 26) : (chgWords.map DV.str)[n.toNat]?.getD default = .str (chgWords.getD n.toNat []) := by
 have hk : n.toNat < chgWords.length := by show _ < 26; omega
 rw [List.getElem?_map, List.getElem?_eq_getElem hk]
 simp [List.getD_eq_getElem?_getD, hk]
theorem chgW_len (k : Nat) : (chgWords.getD k []).length ≤ 17 := by
 rw [List.getD_eq_getElem?_getD]
 cases e : chgWords[k]? with
 | none => simp
 | some w => exact (by decide : ∀ w ∈ chgWords, w.length ≤ 17) w (List.mem_of_getElem? e)
theorem chgE_len (k : Nat) : (chgEmpty.getD k []).length ≤ 3 := by
 rw [List.getD_eq_getElem?_getD]
 cases e : chgEmpty[k]? with
 | none => simp
 | some w => exact (by decide : ∀ w ∈ chgEmpty, w.length ≤ 3) w (List.mem_of_getElem? e)
theorem wrap_u8 (y : Int) : IntKind.u8.wrap y = y.emod 256 := by
 unfold IntKind.wrap
 simp [IntKind.bits, IntKind.signed]
 rfl
def chgC (s w : Str) (a b c : Int) (p q : Nat) : Str :=
 if c = 0 then s.take p ++ s.drop q
 else if c = 1 then s.take q ++ 32 :: s.drop p
 else if c = 2 then s.take p ++ 32 :: (w ++ 32 :: s.drop q)
 else if c = 3 then s.take p
 else if c = 4 then s.take p ++ w ++ 32 :: s.drop p
 else s.set (around a s.length).toNat (UInt8.ofNat (b.emod 256).toNat)
theorem chg_nil {s : Str} {a how b : Int} (h : (scanS s).1 = []) : changedS s a how b = s ++ chgEmpty.getD (around b 4).toNat [] := by
 unfold changedS; rw [h]
theorem chg_cons {s : Str} {T : List Tk} {a how b : Int} {t : Tk} {p q : Nat} (h : (scanS s).1 = T) (h0 : T ≠ []) (ht : T[(around a T.length).toNat]? = some t) (hp : t.at_ = p) (hq : tokE t = q) :
  changedS s a how b = chgC s (chgWords.getD (around b 26).toNat []) a b (around how 6) p q := by
 unfold changedS
 cases e : T with
 | nil => exact absurd e h0
 | cons x r =>
  subst e
  rw [h]
  have hd : (x :: r).getD (around a ((r.length + 1 : Nat) : Int)).toNat default = t := by
   rw [List.getD_eq_getElem?_getD]
   have ht : (x :: r)[(around a ((r.length + 1 : Nat) : Int)).toNat]? = some t := ht
   rw [ht]; rfl
  simp only [hd, hp, hq, Int.toNat_natCast]
  rfl
set_option maxRecDepth 10000 in
theorem RChanged_ok (s : Str) (a how b : Int) (hs : s.length ≤ 900000000) (ha : -9223372036854775808 ≤ a ∧ a ≤ 9223372036854775807) (hh : -9223372036854775808 ≤ how ∧ how ≤ 9223372036854775807) (hb : -9223372036854775808 ≤ b ∧ b ≤ 9223372036854775807) : Ok Tryz.prog 23 [.str s, I64 a, I64 how, I64 b] ⟨.d (.str (changedS s a how b)), true⟩ := by
 refine Ok.ret Tryz.func23 (by kernel_rfl) (c := _) rfl Tryz.ntmps23 (by simp) Tryz.results23 (by intro _ h; cases h) fun w0 X hp => ?_
 obtain ⟨T, hT1⟩ : ∃ T, (scanS s).1 = T := ⟨_, rfl⟩
 have hin : ∀ t ∈ T, InT s t := fun t ht => scanS_in (hT1 ▸ ht)
 have htl : T.length ≤ s.length := by rw [← hT1]; exact scanF_len _ _ _
 have a4 := around_lt b 4 (by decide)
 have a26 := around_lt b 26 (by decide)
 have a6 := around_lt how 6 (by decide)
 have r4 := Around_ok b 4 hb.1 hb.2 (by decide)
 have r26 := Around_ok b 26 hb.1 hb.2 (by decide)
 have r6 := Around_ok how 6 hh.1 hh.2 (by decide)
 refine LWp.sz hT hW ?_
 simp
 refine LWp.seq ?_
 have hsc := RScan_ok s (by omega)
 rw [hT1] at hsc
 refine LWp.ro hT hW (fun | 16 => some <| .plain ⟨.tup [.d (.sl (T.map Tk.r)), .d (I64 (scanS s).2)], true⟩ | _ => none) ?_
 simp [evalExtract]
 refine ⟨hsc, ?_⟩
 refine LWp.seq ?_
 refine LWp.sz hT hW ?_
 simp
 refine LWp.iff ?_
 simp
 refine ⟨fun h2 => ?_, fun h2 => ?_⟩
 ·have hnil : (scanS s).1 = [] := by rw [hT1]; first | exact h2 | exact List.eq_nil_of_length_eq_zero (by omega)
  refine LWp.seq ?_
  have hc := chgE_at a4.1 a4.2
  have hcl := chgE_len (around b 4).toNat
  obtain ⟨z, hz⟩ : ∃ z, chgEmpty.getD (around b 4).toNat [] = z := ⟨_, rfl⟩
  rw [hz] at hc hcl
  simp [chgEmpty] at hc
  refine LWp.ro hT hW (fun | 25 => some <| .plain ⟨.d (I64 (around b 4)), true⟩ | _ => none) ?_
  simp [hc]
  refine ⟨⟨⟨⟨⟨by decide, r4⟩, by omega⟩, by omega⟩, by omega⟩, ?_⟩
  refine LWp.ret ?_
  simp
  rw [chg_nil hnil, hz]
 ·have hne : T ≠ [] := fun e => by rw [e] at h2; simp at h2
  have hpos : 0 < T.length := List.length_pos_iff.2 hne
  have aT := around_lt a (T.length : Int) (by omega)
  have rT := Around_ok a (T.length : Int) ha.1 ha.2 (by omega)
  obtain ⟨j, hj⟩ : ∃ j : Nat, around a (T.length : Int) = (j : Int) := ⟨(around a (T.length : Int)).toNat, by omega⟩
  have hjl : j < T.length := by omega
  obtain ⟨t, htt⟩ : ∃ t, T[j] = t := ⟨_, rfl⟩
  have hti : T[j]? = some t := by rw [List.getElem?_eq_getElem hjl, htt]
  obtain ⟨p, hpa, hpl, hpt⟩ := hin t (List.mem_of_getElem? hti)
  obtain ⟨q, hq⟩ : ∃ q : Nat, q = p + t.text.length := ⟨_, rfl⟩
  have hqe : tokE t = q := by unfold tokE; rw [hpa, hq]; simp
  have hqi : (p : Int) + (t.text.length : Int) = (q : Int) := by rw [hq]; simp
  have hpl1 : p ≤ s.length := by omega
  have hql1 : q ≤ s.length := by omega
  have ech := chg_cons (a := a) (how := how) (b := b) hT1 hne (by rw [hj, Int.toNat_natCast]; exact hti) hpa hqe
  refine LWp.skip ?_
  simp
  refine LWp.so hT hW (fun | 33 => some <| .plain ⟨.d (I64 (j : Int)), true⟩ | _ => none) ?_
  simp [hti, Tk.r, hpa, hqi]
  refine ⟨⟨by simpa [hj] using rT, hjl⟩, ?_⟩
  refine LWp.seq ?_
  have hc := chgW_at a26.1 a26.2
  have hcl := chgW_len (around b 26).toNat
  obtain ⟨z, hz⟩ : ∃ z, chgWords.getD (around b 26).toNat [] = z := ⟨_, rfl⟩
  rw [hz] at hc hcl ech
  simp [chgWords] at hc
  refine LWp.ro hT hW (fun | 38 => some <| .plain ⟨.d (I64 (around b 26)), true⟩ | _ => none) ?_
  simp [hc]
  refine ⟨⟨⟨⟨by decide, r26⟩, a26⟩, a26.2⟩, ?_⟩
  refine LWp.seq ?_
  refine LWp.so hT hW (fun | 42 => some <| .plain ⟨.d (I64 (around how 6)), true⟩ | _ => none) ?_
  simp
  refine ⟨r6, ?_⟩
  refine LWp.block ?_
  refine LWp.sz hT hW ?_
  simp
  refine LWp.iff ?_
  simp
  refine ⟨fun h7 => ?_, fun h7 => ?_⟩
  ·refine LWp.seq ?_
   refine LWp.weak (Weak.shrink [0, 12, 11] [(11, 11)] (by decide) (by decide) (by simp [hp])) ?_
   simp
   refine LWp.regAny hT hW hMixed (lk [[],[],[1],[0,1,2],[],[],[5],[4,5,6],[0,1,2,3,4,5,6,7],[0,1,2,3,4,5,6,7,8]]) (lk [[],[],[],[],[],[],[],[],[],[]]) (lk [[],[],[],[],[],[],[],[],[],[]]) (by kernel_rfl) (fun _ => none) (fun _ => ⟨rfl, fun _ h => h⟩) ?_
   simp
   refine ⟨by (repeat' with_reducible apply And.intro) <;> first | omega | decide, ?_⟩
   refine LWp.ret ?_
   simp
   rw [ech]; unfold chgC; rw [if_pos h7]
  ·refine LWp.sz hT hW ?_
   simp
   refine LWp.iff ?_
   simp
   refine ⟨fun h9 => ?_, fun h9 => ?_⟩
   ·refine LWp.seq ?_
    refine LWp.weak (Weak.shrink [0, 12, 11] [(11, 11)] (by decide) (by decide) (by simp [hp])) ?_
    simp
    refine LWp.regAny hT hW hMixed (lk [[],[],[1],[0,1,2],[0,1,2,3],[],[],[6],[5,6,7],[0,1,2,3,4,5,6,7,8],[0,1,2,3,4,5,6,7,8,9]]) (lk [[],[],[],[],[],[],[],[],[],[],[]]) (lk [[],[],[],[],[],[],[],[],[],[],[]]) (by kernel_rfl) (fun _ => none) (fun _ => ⟨rfl, fun _ h => h⟩) ?_
    simp
    refine ⟨by (repeat' with_reducible apply And.intro) <;> first | omega | decide, ?_⟩
    refine LWp.ret ?_
    simp
    rw [ech]; unfold chgC; rw [if_neg h7, if_pos h9]
   ·refine LWp.sz hT hW ?_
    simp
    refine LWp.iff ?_
    simp
    refine ⟨fun h11 => ?_, fun h11 => ?_⟩
    ·refine LWp.seq ?_
     refine LWp.weak (Weak.shrink [0, 12, 11] [(11, 11)] (by decide) (by decide) (by simp [hp])) ?_
     simp
     refine LWp.regAny hT hW hMixed (lk [[],[],[1],[0,1,2],[0,1,2,3],[],[0,1,2,3,4,5],[0,1,2,3,4,5,6],[],[],[9],[8,9,10],[0,1,2,3,4,5,6,7,8,9,10,11],[0,1,2,3,4,5,6,7,8,9,10,11,12]]) (lk [[],[],[],[],[],[],[],[],[],[],[],[],[],[]]) (lk [[],[],[],[],[],[],[],[],[],[],[],[],[],[]]) (by kernel_rfl) (fun _ => none) (fun _ => ⟨rfl, fun _ h => h⟩) ?_
     simp
     refine ⟨by (repeat' with_reducible apply And.intro) <;> first | omega | decide, ?_⟩
     refine LWp.ret ?_
     simp
     rw [ech]; unfold chgC; rw [if_neg h7, if_neg h9, if_pos h11]
    ·refine LWp.sz hT hW ?_
     simp
     refine LWp.iff ?_
     simp
     refine ⟨fun h13 => ?_, fun h13 => ?_⟩
     ·refine LWp.sz hT hW ?_
      simp
      refine ⟨by (repeat' with_reducible apply And.intro) <;> first | omega | decide, ?_⟩
      refine LWp.ret ?_
      simp
      rw [ech]; unfold chgC; rw [if_neg h7, if_neg h9, if_neg h11, if_pos h13]
     ·refine LWp.sz hT hW ?_
      simp
      refine LWp.iff ?_
      simp
      refine ⟨fun h15 => ?_, fun h15 => ?_⟩
      ·refine LWp.seq ?_
       refine LWp.weak (Weak.shrink [0, 12, 11] [(11, 11)] (by decide) (by decide) (by simp [hp])) ?_
       simp
       refine LWp.regAny hT hW hMixed (lk [[],[],[1],[0,1,2],[],[0,1,2,3,4],[0,1,2,3,4,5],[],[],[8],[7,8,9],[0,1,2,3,4,5,6,7,8,9,10],[0,1,2,3,4,5,6,7,8,9,10,11]]) (lk [[],[],[],[],[],[],[],[],[],[],[],[],[]]) (lk [[],[],[],[],[],[],[],[],[],[],[],[],[]]) (by kernel_rfl) (fun _ => none) (fun _ => ⟨rfl, fun _ h => h⟩) ?_
       simp
       refine ⟨by (repeat' with_reducible apply And.intro) <;> first | omega | decide, ?_⟩
       refine LWp.ret ?_
       simp
       rw [ech]; unfold chgC; rw [if_neg h7, if_neg h9, if_neg h11, if_neg h13, if_pos h15]; simp
      ·refine LWp.skip ?_
       simp
       have aS := around_lt a (s.length : Int) (by omega)
       have rS := Around_ok a (s.length : Int) ha.1 ha.2 (by omega)
       obtain ⟨m, hm⟩ : ∃ m : Nat, around a (s.length : Int) = (m : Int) := ⟨(around a (s.length : Int)).toNat, by omega⟩
       rw [hm] at rS
       refine LWp.setByte hT (by kernel_rfl) (by kernel_rfl) (by kernel_rfl) (by kernel_rfl) (fun w => run_sizeOf (w := w) hT (t := 5) rfl) rfl rfl rfl rfl rfl rfl rfl rfl rfl rfl rfl rfl rfl rfl rfl rfl rfl rfl rfl rfl rfl rfl rfl rfl rfl rfl rfl rfl rfl rfl rfl rfl rfl rfl rfl rfl rfl rfl rfl rfl rfl rfl rfl rfl rfl (s := s) (x := a) (y := b) (k := m) (by simp) (by simp) (by simp) (by omega) rS ?_
       refine LWp.ret ?_
       simp
       rw [ech]; unfold chgC; rw [if_neg h7, if_neg h9, if_neg h11, if_neg h13, if_neg h15, hm, wrap_u8]; rfl
end
end Go.Eng
namespace Go.Eng
open Go.Proofs
theorem getD_all {α : Type} {p : α → Prop} {l : List α} {d : α} (h : ∀ x ∈ l, p x) {k : Nat} (hk : k < l.length) : p (l.getD k d) := by
 rw [List.getD_eq_getElem?_getD, List.getElem?_eq_getElem hk]
 exact h _ (List.getElem_mem hk)
theorem call_whole (L : List Int) (i : Nat) : wholeB (callM L i) true = true := by
 have h := atL_range L i 8 (by decide)
 exact getD_all (p := fun w => wholeB w true = true) (by decide : ∀ w ∈ callL, wholeB w true = true) (show (atL L i 8).toNat < 8 by omega)
theorem own_whole (L : List Int) (i : Nat) : wholeB (ownM L i) false = true := by
 have h := atL_range L i 4 (by decide)
 exact getD_all (p := fun w => wholeB w false = true) (by decide : ∀ w ∈ ownL, wholeB w false = true) (show (atL L i 4).toNat < 4 by omega)
theorem mk_range {k : Int} {t : Str} {n : Int} {ks : List Nd} (h : 0 ≤ k ∧ k ≤ 6) : 0 ≤ (Nd.mk k t n ks).kind ∧ (Nd.mk k t n ks).kind ≤ 6 := h
theorem leaf_right {k : Int} {t : Str} {n : Int} (h0 : 0 ≤ k ∧ k < 37) (h1 : shapedK k [] = true) (h2 : loAt k ≤ n ∧ n ≤ hiAt k) (h3 : textB k t = true) : rightN (.mk k t n []) = true :=
 right_mk.2 ⟨h0.1, h0.2, h1, h2.1, h2.2, h3, fun x hx => by cases hx⟩
theorem local_right (L : List Int) (i : Nat) : rightN (.mk 33 (ownM L i) 0 []) = true := leaf_right (by decide) rfl (by decide) (own_whole L i)
theorem place_right (L : List Int) (i : Nat) : rightN (placeM L i).1 = true ∧ isPlaceK (placeM L i).1.kind = true := by
 unfold placeM
 split
 ·exact ⟨leaf_right (by decide) rfl (by decide) (call_whole L (i + 1)), rfl⟩
 ·exact ⟨leaf_right (by decide) rfl (by decide) (field_ok (call_whole L (i + 1)) (call_whole L (i + 2))), rfl⟩
theorem value_right (L : List Int) : ∀ (d i : Nat), rightN (valueM L d i).1 = true ∧ isExprK (valueM L d i).1.kind = true := fun d => by
 induction d with
 | zero =>
  intro i
  obtain ⟨r0, _, r2⟩ := valK_range L 0 i
  have r2 := r2 rfl
  by_cases h0 : valK L 0 i = 0 ∨ valK L 0 i = 1
  ·rw [value_num h0]
   have hr := atL_range L (i + 1) 6 (by decide)
   exact ⟨leaf_right (by decide) rfl (getD_all (p := fun n : Int => loAt 32 ≤ n ∧ n ≤ hiAt 32) (by decide : ∀ n ∈ numsM, loAt 32 ≤ n ∧ n ≤ hiAt 32) (show (atL L (i + 1) 6).toNat < 6 by omega)) rfl, rfl⟩
  ·by_cases h1 : valK L 0 i = 2
   ·rw [value_loc h1]; exact ⟨local_right L (i + 1), rfl⟩
   ·by_cases h2 : valK L 0 i = 3 ∨ valK L 0 i = 4
    ·rw [value_place h2]; exact ⟨(place_right L (i + 1)).1, place_expr (place_right L (i + 1)).2⟩
    ·rw [value_kind (by omega)]; exact ⟨leaf_right (by decide) rfl (by decide) rfl, rfl⟩
 | succ e ih =>
  intro i
  obtain ⟨r0, r1, _⟩ := valK_range L (e + 1) i
  by_cases h0 : valK L (e + 1) i = 0 ∨ valK L (e + 1) i = 1
  ·rw [value_num h0]
   have hr := atL_range L (i + 1) 6 (by decide)
   exact ⟨leaf_right (by decide) rfl (getD_all (p := fun n : Int => loAt 32 ≤ n ∧ n ≤ hiAt 32) (by decide : ∀ n ∈ numsM, loAt 32 ≤ n ∧ n ≤ hiAt 32) (show (atL L (i + 1) 6).toNat < 6 by omega)) rfl, rfl⟩
  ·by_cases h1 : valK L (e + 1) i = 2
   ·rw [value_loc h1]; exact ⟨local_right L (i + 1), rfl⟩
   ·by_cases h3 : valK L (e + 1) i = 3 ∨ valK L (e + 1) i = 4
    ·rw [value_place h3]; exact ⟨(place_right L (i + 1)).1, place_expr (place_right L (i + 1)).2⟩
    ·by_cases h4 : valK L (e + 1) i = 5
     ·rw [value_kind h4]; exact ⟨leaf_right (by decide) rfl (by decide) rfl, rfl⟩
     ·rw [value_bin (by omega)]
      exact bin_right (by omega) (by omega) (ih (i + 1)) (ih (valueM L e (i + 1)).2)
theorem stmt_mk {k : Int} {t : Str} {n : Int} {ks : List Nd} (hk : 9 ≤ k ∧ k ≤ 25) (h1 : textB k t = true) (h2 : loAt k ≤ n ∧ n ≤ hiAt k) (h3 : shapedK k ks = true) (h4 : ∀ x ∈ ks, rightN x = true) :
  rightN (.mk k t n ks) = true ∧ isStmtK (Nd.mk k t n ks).kind = true := ⟨right_mk.2 ⟨by omega, by omega, h3, h2.1, h2.2, h1, h4⟩, isStmtK_iff.2 hk⟩
theorem one1 {x : Nd} (h : rightN x = true) : ∀ y ∈ [x], rightN y = true := fun y hy => by rw [List.mem_singleton.1 hy]; exact h
theorem oneB_right {L : List Int} {d i : Nat} {bl : Nat → Nd × Nat} (hb : 0 < d → ∀ j, rightN (bl j).1 = true ∧ isBlockK (bl j).1.kind = true) : rightN (oneB L d bl i).1 = true ∧ isStmtK (oneB L d bl i).1.kind = true := by
 obtain ⟨k, hk⟩ : ∃ k, oneK L d i = k := ⟨_, rfl⟩
 obtain ⟨r0, r1, r2⟩ := oneK_range hk
 rw [oneB_eq hk]
 have v1 := fun j => value_right L 1 j
 have v2 := fun j => value_right L 2 j
 have pl := place_right L (i + 1)
 have cl := call_whole L (i + 1)
 have ol := own_whole L (i + 1)
 unfold oneC
 split
 ·rename_i q; subst q
  exact stmt_mk (by decide) ol (by decide) (by simp [shapedK, kidsB, (v2 (i + 1 + 1)).2]) (one1 (v2 (i + 1 + 1)).1)
 split
 ·rename_i q; subst q
  refine stmt_mk (by decide) rfl (by decide) (by simp [shapedK, kidsB, pl.2, (v2 (placeM L (i + 1)).2).2]) fun y hy => ?_
  simp only [List.mem_cons, List.not_mem_nil, or_false] at hy
  rcases hy with rfl | rfl
  ·exact pl.1
  ·exact (v2 _).1
 split
 ·rename_i q
  have hb := hb (r2 q)
  have a1 := v1 (i + 1)
  have a2 := hb (valueM L 1 (i + 1)).2
  have a3 := hb ((bl (valueM L 1 (i + 1)).2).2 + 1)
  have m2 : ∀ y ∈ [(valueM L 1 (i + 1)).1, (bl (valueM L 1 (i + 1)).2).1], rightN y = true := fun y hy => by
   simp only [List.mem_cons, List.not_mem_nil, or_false] at hy
   rcases hy with rfl | rfl
   ·exact a1.1
   ·exact a2.1
  have m3 : ∀ y ∈ [(valueM L 1 (i + 1)).1, (bl (valueM L 1 (i + 1)).2).1, (bl ((bl (valueM L 1 (i + 1)).2).2 + 1)).1], rightN y = true := fun y hy => by
   simp only [List.mem_cons, List.not_mem_nil, or_false] at hy
   rcases hy with rfl | rfl | rfl
   ·exact a1.1
   ·exact a2.1
   ·exact a3.1
  split
  ·rename_i q2; subst q2
   split
   ·exact stmt_mk (by decide) rfl (by decide) (by simp [shapedK, kidsB, a1.2, a2.2, a3.2]) m3
   ·exact stmt_mk (by decide) rfl (by decide) (by simp [shapedK, kidsB, a1.2, a2.2]) m2
  ·rename_i q2
   have q3 : k = 12 := by omega
   subst q3
   exact stmt_mk (by decide) rfl (by decide) (by simp [shapedK, kidsB, a1.2, a2.2]) m2
 split
 ·rename_i q
  rcases q with rfl | rfl | rfl | rfl <;> exact stmt_mk (by decide) cl (by decide) rfl fun x hx => by cases hx
 split
 ·rename_i q
  rcases q with rfl | rfl <;> exact stmt_mk (by decide) cl (by decide) (by simp [shapedK, kidsB, (v1 (i + 1 + 1)).2]) (one1 (v1 (i + 1 + 1)).1)
 split
 ·rename_i q
  rcases q with rfl | rfl <;> exact stmt_mk (by decide) cl (by decide) rfl (one1 (local_right L (i + 1 + 1)))
 split
 ·rename_i q; subst q
  have hr := atL_range L (((i + 1 : Nat) : Int) + 1) 5 (by decide)
  have e1 : loAt 19 = 2 := rfl
  have e2 : hiAt 19 = 6 := rfl
  exact stmt_mk (by decide) ol (by omega) rfl fun x hx => by cases hx
 split
 ·rename_i q; subst q
  exact stmt_mk (by decide) ol (by decide) rfl fun x hx => by cases hx
 split
 ·rename_i q; subst q
  have hr := atL_range L ((i + 1 : Nat) : Int) 9 (by decide)
  have e1 : loAt 21 = 1 := rfl
  have e2 : hiAt 21 = 9 := rfl
  exact stmt_mk (by decide) rfl (by omega) rfl fun x hx => by cases hx
 split
 ·rename_i q; subst q
  have hr := atL_range L ((i + 1 : Nat) : Int) 99 (by decide)
  have e1 : loAt 25 = 1 := rfl
  have e2 : hiAt 25 = 99 := rfl
  exact stmt_mk (by decide) rfl (by omega) rfl fun x hx => by cases hx
 ·have q : k = 24 := by omega
  subst q
  exact stmt_mk (by decide) rfl (by decide) (by simp [shapedK, kidsB, (v2 (i + 1)).2]) (one1 (v2 (i + 1)).1)
theorem somes_right {L : List Int} {st : Nat → Nd × Nat} (h : ∀ j, rightN (st j).1 = true ∧ isStmtK (st j).1.kind = true) : ∀ (m : Nat) (ks : List Nd) (j : Nat), (∀ x ∈ ks, rightN x = true ∧ isStmtK x.kind = true) → ∀ x ∈ (somesM L st m ks j).1, rightN x = true ∧ isStmtK x.kind = true
 | 0, ks, j, hk => by simpa [somesM] using hk
 | m + 1, ks, j, hk => by
  unfold somesM
  split
  ·exact hk
  ·refine somes_right h m _ _ fun x hx => ?_
   rcases List.mem_append.1 hx with hx | hx
   ·exact hk x hx
   ·rw [List.mem_singleton.1 hx]; exact h j
theorem some_right {L : List Int} {st : Nat → Nd × Nat} (h : ∀ j, rightN (st j).1 = true ∧ isStmtK (st j).1.kind = true) (i : Nat) : rightN (someM L st i).1 = true ∧ isBlockK (someM L st i).1.kind = true :=
 ⟨block_right (somes_right h _ [] _ fun x hx => by cases hx), rfl⟩
theorem one_right (L : List Int) : ∀ d i, rightN (oneM L d i).1 = true ∧ isStmtK (oneM L d i).1.kind = true
 | 0, i => by rw [oneM]; exact oneB_right fun h => absurd h (Nat.lt_irrefl 0)
 | d + 1, i => by rw [oneM]; exact oneB_right fun _ j => some_right (one_right L d) j
theorem body_right (L : List Int) : ∀ (m : Nat) (ks : List Nd) (j : Nat), (∀ x ∈ ks, rightN x = true ∧ isStmtK x.kind = true) → ∀ x ∈ bodyM L m ks j, rightN x = true ∧ isStmtK x.kind = true
 | 0, ks, j, hk => by simpa [bodyM] using hk
 | m + 1, ks, j, hk => by
  unfold bodyM
  split
  ·exact hk
  ·refine body_right L m _ _ fun x hx => ?_
   rcases List.mem_append.1 hx with hx | hx
   ·exact hk x hx
   ·rw [List.mem_singleton.1 hx]; exact one_right L 2 j
theorem items_right (L : List Int) : ∀ c, ∀ x ∈ itemsM L c, rightN x = true ∧ isItemK x.kind = true
 | 0, x, hx => by cases hx
 | c + 1, x, hx => by
  rw [itemsM] at hx
  rcases List.mem_append.1 hx with hx | hx
  ·exact items_right L c x hx
  ·rw [List.mem_singleton.1 hx]
   have hr := atL_range L (4 + 2 * c) 1999 (by decide)
   have e1 : loAt 7 = -999 := rfl
   have e2 : hiAt 7 = 999 := rfl
   exact ⟨leaf_right (by decide) rfl (by omega) (call_whole L (3 + 2 * c)), rfl⟩
theorem tree_right (l : List Int) : rightN (treeS l) = true ∧ 0 ≤ (treeS l).kind ∧ (treeS l).kind ≤ 6 := by
 unfold treeS
 generalize l.take 48 = L
 have cl := call_whole L 1
 have hk := atL_range L 0 10 (by decide)
 have hx := getD_all (p := fun n : Int => 0 ≤ n ∧ n ≤ 6) (d := 0) (by decide : ∀ n ∈ treeKinds, 0 ≤ n ∧ n ≤ 6) (show (atL L 0 10).toNat < 10 by omega)
 unfold treeB
 simp only []
 generalize treeKinds.getD (atL L 0 10).toNat 0 = k at hx
 split
 ·rename_i q; subst q
  have hr := atL_range L 2 1999 (by decide)
  have e1 : loAt 0 = -999 := rfl
  have e2 : hiAt 0 = 999 := rfl
  exact ⟨leaf_right (by decide) rfl (by omega) cl, mk_range (by decide)⟩
 split
 ·rename_i q; subst q
  have hr := atL_range L 2 4 (by decide)
  have e1 : loAt 2 = 0 := rfl
  have e2 : hiAt 2 = 3 := rfl
  exact ⟨leaf_right (by decide) rfl (by omega) cl, mk_range (by decide)⟩
 split
 ·rename_i q; subst q
  exact ⟨right_mk.2 ⟨by decide, by decide, List.all_eq_true.2 fun x hx => (items_right L _ x hx).2, by decide, by decide, cl, fun x hx => (items_right L _ x hx).1⟩, mk_range (by decide)⟩
 split
 ·rename_i q
  have hb : rightN (.mk 8 [] 0 (bodyM L L.length [] 2)) = true := block_right (body_right L _ [] 2 fun x hx => by cases hx)
  rcases q with rfl | rfl <;> exact ⟨right_mk.2 ⟨by decide, by decide, rfl, by decide, by decide, cl, one1 hb⟩, mk_range (by decide)⟩
 ·have q : k = 3 ∨ k = 4 := by omega
  rcases q with rfl | rfl <;> exact ⟨leaf_right (by decide) rfl (by decide) cl, mk_range (by decide)⟩
end Go.Eng
namespace Go.Eng
open Go.Proofs
attribute [local simp] runL stepL evalG evalOp opLV constLV putEnv dstOk upd upds Res.plain Res.cond Res.fail evalBin evalUn seqQ blockQ argsEnv lookL lookH RetIs memless freshL evalPick evalMin bval bok evalLen evalIn strip whenC guardOps guardC slotsOf
 runM foldS stepI stepM maskE wrIn lk renO lookN evalCall evalCallee optAll resLV resObj retLV retObj retsLV retsObj evalLoad evalIndexAddr evalField solid cellsD_agg cellsD_int cellsD_bool cellsD_str cellsD_sl cellsD_ro cellsD_fn cellsL_agg cellsL_dagg cellsL_int cellsL_bool cellsL_str cellsL_sl cellsL_fn cellsL_ow cellsL_bx cellsL_lfn cellsL_nl takeL takeD mkAgg allD eqD eqDs kindsAre kindIs LObj.live TK.isNone TK.agg TK.isBool TK.isStr TK.isStruct Op.operands Call.operands
 evalBuildSlice evalAppend elemsOf evalStore evalBuild fillL lookupF putL evalSlice bound evalConv elemsS freezes frozen loadR
 mkEnv_at mkObs_at close_d close_agg close_ow close_bx close_fn close_nl touch_d touch_agg touch_ow touch_bx touch_fn touch_nl ren_d ren_agg ren_bx ren_rp ren_ow ren_fn ren_nl ren_junk retQ_ret retQ2_ret condQ_bool Nm.d Df.d Ed.d nmsD dfsD strsD edsD retC_ret nm_eq df_eq take_map_len take_map_app
 nm_t nm_d nm_td df_t df_d df_td str_t str_d str_td ed_t ed_d ed_td
 evalAppendIn evalBuildSliceC evalCopyC shortL evalApart evalAppendC evalAppendZ evalAppendG evalCapC isOc TK.isInt close_oc touch_oc ren_oc cellsL_oc evalCut evalClear evalCopy evalMake evalWrap evalCap evalNil isNilC lenL isInp gorc gorc2
 mapOf findD keyEq keyOk evalMakeMap evalRange zeroD zeroDV argsG shutG outN lenv retG0_ret retG0_normal retG1_ret retGR_ret renO close_mp touch_mp ren_mp optAll_d optAll_d' touch_ds cellsL_mp cellsD_mp cellsL_dmp
 evalMapSet evalPtr TK.isPtr evalToArr firstL retN_ret retsQ rvarL close_bm touch_bm ren_bm cellsD_bm cellsL_bm cellsL_lbm
attribute [local simp] cutQ_normal cutQ_ret cutQ_exit
section
attribute [local simp] Res.cond Nd.d_eq nd_t nd_dr nd_td ndsD evalIndex
end
end Go.Eng
namespace Go.Eng
open Go.Proofs
structure VB (L : List Int) (d i : Nat) (x : Nd × Nat) : Prop where
 bytes : (exprT x.1).length + 2 + 10 * i ≤ 10 * x.2
 lt : i < x.2
 ends : x.2 ≤ max (i + 2) (L.length + 3 + 2 * d)
 depth : depthN x.1 ≤ d + 1
theorem place_b (L : List Int) (i : Nat) : (exprT (placeM L i).1).length + 11 * i ≤ 11 * (placeM L i).2 ∧ i + 2 ≤ (placeM L i).2 ∧ (placeM L i).2 ≤ i + 3 ∧ depthN (placeM L i).1 = 1 := by
 have c1 := callM_len L (i + 1)
 have c2 := callM_len L (i + 2)
 unfold placeM
 split
 ·have e : exprT (.mk 34 (callM L (i + 1)) 0 []) = callM L (i + 1) := by simp [exprT]
  refine ⟨?_, ?_, ?_, rfl⟩ <;> simp only [e] <;> omega
 ·have e : exprT (.mk 35 (callM L (i + 1) ++ 46 :: callM L (i + 2)) 0 []) = callM L (i + 1) ++ 46 :: callM L (i + 2) := by simp [exprT]
  refine ⟨?_, ?_, ?_, rfl⟩ <;> simp only [e, List.length_append, List.length_cons] <;> omega
theorem valK_over {L : List Int} {d i : Nat} (h : L.length ≤ i) : valK L d i = 0 := by
 unfold valK
 rw [if_pos (.inr (by omega))]
 unfold atL
 rw [if_pos (.inr (by omega))]
 rfl
theorem num_b (L : List Int) (d i : Nat) (n : Int) : VB L d i (.mk 32 [] n [], i + 2) := by
 have := itoa_len n
 refine ⟨?_, by simp only; omega, by simp only; omega, by simp [depthN, depthL]⟩
 have e : exprT (.mk 32 [] n []) = itoaS n := by simp [exprT]
 simp only [e]; omega
theorem value_b (L : List Int) : ∀ (d i : Nat), VB L d i (valueM L d i) := fun d => by
 have leaf : ∀ d i, valK L d i < 6 → VB L d i (valueM L d i) := fun d i h6 => by
  obtain ⟨r0, _, _⟩ := valK_range L d i
  by_cases h0 : valK L d i = 0 ∨ valK L d i = 1
  ·rw [value_num h0]; exact num_b L d i _
  ·have hi : i < L.length := Nat.lt_of_not_le fun q => h0 (.inl (valK_over q))
   by_cases h1 : valK L d i = 2
   ·rw [value_loc h1]
    have ho := own_len L (i + 1)
    have e : exprT (.mk 33 (ownM L (i + 1)) 0 []) = 36 :: ownM L (i + 1) := by simp [exprT]
    refine ⟨?_, by simp only; omega, by simp only; omega, by simp [depthN, depthL]⟩
    simp only [e, List.length_cons]; omega
   ·by_cases h2 : valK L d i = 3 ∨ valK L d i = 4
    ·rw [value_place h2]
     obtain ⟨p1, p2, p3, p4⟩ := place_b L (i + 1)
     exact ⟨by omega, by omega, by omega, by omega⟩
    ·rw [value_kind (by omega)]
     have e : exprT (.mk 36 [] 0 []) = sKind := by simp [exprT]
     have ek : sKind.length = 4 := rfl
     refine ⟨?_, by simp only; omega, by simp only; omega, by simp [depthN, depthL]⟩
     simp only [e, ek]; omega
 induction d with
 | zero => exact fun i => leaf 0 i ((valK_range L 0 i).2.2 rfl)
 | succ e ih =>
  intro i
  by_cases h6 : valK L (e + 1) i < 6
  ·exact leaf (e + 1) i h6
  ·have hi : i < L.length := Nat.lt_of_not_le fun q => h6 (by rw [valK_over q]; decide)
   obtain ⟨_, r1, _⟩ := valK_range L (e + 1) i
   rw [value_bin (by omega)]
   obtain ⟨a1, a2, a3, a4⟩ := ih (i + 1)
   obtain ⟨b1, b2, b3, b4⟩ := ih (valueM L e (i + 1)).2
   generalize valK L (e + 1) i = k at h6 r1
   have e1 := paren_len (decide (lvlN (valueM L e (i + 1)).1.kind < (if levelAt (26 + k - 6) = 1 then 2 else levelAt (26 + k - 6)))) (exprT (valueM L e (i + 1)).1)
   have e2 := paren_len (decide (lvlN (valueM L e (valueM L e (i + 1)).2).1.kind < levelAt (26 + k - 6) + 1)) (exprT (valueM L e (valueM L e (i + 1)).2).1)
   have e3 := sign_len (26 + k - 6) (by omega)
   refine ⟨?_, by simp only; omega, by simp only; omega, ?_⟩
   ·simp only
    rw [exprT_bin (by omega) (by omega)]
    simp only [List.length_append, List.length_cons]
    omega
   ·simp only [depthN, depthL]; omega
structure SB (L : List Int) (c e i : Nat) (x : Nd × Nat) : Prop where
 bytes : (stmtT x.1).length + 1 + 14 * i ≤ 14 * x.2
 lt : i < x.2
 ends : x.2 ≤ L.length + c
 depth : depthN x.1 ≤ e
structure BB (L : List Int) (c e j : Nat) (x : Nd × Nat) : Prop where
 bytes : (blockT x.1).length + 14 * j ≤ 14 * x.2
 lt : j < x.2
 ends : x.2 ≤ max (j + 1) (L.length + c)
 depth : depthN x.1 ≤ e
theorem cmd_b {L : List Int} {c e i j : Nat} {k : Int} {t : Str} {n : Int} {ks : List Nd} (hk : 13 ≤ k) (hb : (wordAt k).length + (midT k t).length + (withN n).length + (withE ks).length + 2 + 14 * i ≤ 14 * j) (h1 : i < j) (h2 : j ≤ L.length + c) (h3 : depthL ks + 1 ≤ e) :
  SB L c e i (.mk k t n ks, j) := by
 refine ⟨?_, h1, h2, by simp only [depthN]; exact h3⟩
 simp only
 rw [stmtT_cmd t n ks hk]
 simp only [List.length_append, List.length_cons, List.length_nil]
 omega
theorem withE_1 (x : Nd) : (withE [x]).length = (exprT x).length + 1 := by simp [withE]
theorem withE_0 : (withE []).length = 0 := rfl
theorem withN_0 : (withN 0).length = 0 := rfl
theorem depthL_1 (x : Nd) : depthL [x] = depthN x := by simp [depthL]
set_option maxHeartbeats 4000000 in
theorem oneB_b {L : List Int} {d i c e : Nat} {bl : Nat → Nd × Nat} (hi : i < L.length) (hc : 7 ≤ c) (he : 2 ≤ e) (hb : 0 < d → ∀ j, BB L c e j (bl j)) : SB L (c + 2) (e + 2) i (oneB L d bl i) := by
 obtain ⟨k, hk⟩ : ∃ k, oneK L d i = k := ⟨_, rfl⟩
 obtain ⟨r0, r1, r2⟩ := oneK_range hk
 rw [oneB_eq hk]
 have cl := callM_len L (i + 1)
 have ol := own_len L (i + 1)
 have ol2 := own_len L (i + 1 + 1)
 obtain ⟨p1, p2, p3, p4⟩ := place_b L (i + 1)
 obtain ⟨x1, x2, x3, x4⟩ := value_b L 2 (i + 1 + 1)
 obtain ⟨y1, y2, y3, y4⟩ := value_b L 2 (placeM L (i + 1)).2
 obtain ⟨u1, u2, u3, u4⟩ := value_b L 1 (i + 1)
 obtain ⟨v1, v2, v3, v4⟩ := value_b L 1 (i + 1 + 1)
 obtain ⟨w1, w2, w3, w4⟩ := value_b L 2 (i + 1)
 have nl := withN_len
 unfold oneC
 split
 ·rename_i q; subst q
  refine ⟨?_, by simp only; omega, by simp only; omega, by simp only [depthN, depthL]; omega⟩
  have et : stmtT (.mk 9 (ownM L (i + 1)) 0 [(valueM L 2 (i + 1 + 1)).1]) = 36 :: ownM L (i + 1) ++ 32 :: 61 :: 32 :: (exprT (valueM L 2 (i + 1 + 1)).1 ++ [59]) := by simp [stmtT]
  simp only [et, List.length_append, List.length_cons, List.length_nil]; omega
 split
 ·rename_i q; subst q
  refine ⟨?_, by simp only; omega, by simp only; omega, by simp only [depthN, depthL]; omega⟩
  have et : stmtT (.mk 10 [] 0 [(placeM L (i + 1)).1, (valueM L 2 (placeM L (i + 1)).2).1]) = exprT (placeM L (i + 1)).1 ++ 32 :: 61 :: 32 :: (exprT (valueM L 2 (placeM L (i + 1)).2).1 ++ [59]) := by simp [stmtT]
  simp only [et, List.length_append, List.length_cons, List.length_nil]; omega
 split
 ·rename_i q
  have hb := hb (r2 q)
  obtain ⟨b1, b2, b3, b4⟩ := hb (valueM L 1 (i + 1)).2
  obtain ⟨c1, c2, c3, c4⟩ := hb ((bl (valueM L 1 (i + 1)).2).2 + 1)
  have w11 : (wordAt 11).length = 2 := rfl
  have w12 : (wordAt 12).length = 5 := rfl
  have wE : sElse.length = 4 := rfl
  split
  ·rename_i q2; subst q2
   split
   ·refine ⟨?_, by simp only; omega, by simp only; omega, by simp only [depthN, depthL]; omega⟩
    have et : stmtT (.mk 11 [] 0 [(valueM L 1 (i + 1)).1, (bl (valueM L 1 (i + 1)).2).1, (bl ((bl (valueM L 1 (i + 1)).2).2 + 1)).1]) =
     wordAt 11 ++ 32 :: (exprT (valueM L 1 (i + 1)).1 ++ 32 :: blockT (bl (valueM L 1 (i + 1)).2).1) ++ 32 :: (sElse ++ 32 :: blockT (bl ((bl (valueM L 1 (i + 1)).2).2 + 1)).1) := by simp [stmtT]
    simp only [et, List.length_append, List.length_cons, List.length_nil]; omega
   ·refine ⟨?_, by simp only; omega, by simp only; omega, by simp only [depthN, depthL]; omega⟩
    have et : stmtT (.mk 11 [] 0 [(valueM L 1 (i + 1)).1, (bl (valueM L 1 (i + 1)).2).1]) = wordAt 11 ++ 32 :: (exprT (valueM L 1 (i + 1)).1 ++ 32 :: blockT (bl (valueM L 1 (i + 1)).2).1) := by simp [stmtT]
    simp only [et, List.length_append, List.length_cons, List.length_nil]; omega
  ·rename_i q2
   have q3 : k = 12 := by omega
   subst q3
   refine ⟨?_, by simp only; omega, by simp only; omega, by simp only [depthN, depthL]; omega⟩
   have et : stmtT (.mk 12 [] 0 [(valueM L 1 (i + 1)).1, (bl (valueM L 1 (i + 1)).2).1]) = wordAt 12 ++ 32 :: (exprT (valueM L 1 (i + 1)).1 ++ 32 :: blockT (bl (valueM L 1 (i + 1)).2).1) := by simp [stmtT]
   simp only [et, List.length_append, List.length_cons, List.length_nil]; omega
 have wk := word_len k
 have md := mid_len k (callM L (i + 1))
 have mo := mid_len k (ownM L (i + 1))
 split
 ·rename_i q
  have m1 : (midT k (callM L (i + 1))).length = (callM L (i + 1)).length + 1 := by unfold midT; rw [if_neg (by omega), if_neg (by omega)]; simp
  exact cmd_b (by omega) (by rw [withN_0, withE_0, m1]; omega) (by omega) (by omega) (by simp [depthL])
 split
 ·rename_i q
  have m1 : (midT k (callM L (i + 1))).length = (callM L (i + 1)).length + 1 := by unfold midT; rw [if_neg (by omega), if_neg (by omega)]; simp
  exact cmd_b (by omega) (by rw [withN_0, withE_1, m1]; omega) (by omega) (by omega) (by rw [depthL_1]; omega)
 split
 ·rename_i q
  have m1 : (midT k (callM L (i + 1))).length = (callM L (i + 1)).length + 1 := by unfold midT; rw [if_neg (by omega), if_neg (by omega)]; simp
  have e1 : exprT (.mk 33 (ownM L (i + 1 + 1)) 0 []) = 36 :: ownM L (i + 1 + 1) := by simp [exprT]
  have w4 : (wordAt k).length = 4 := by rcases q with rfl | rfl <;> rfl
  exact cmd_b (by omega) (by rw [withN_0, withE_1, m1, e1, w4, List.length_cons]; omega) (by omega) (by omega) (by rw [depthL_1]; simp [depthN, depthL])
 split
 ·rename_i q; subst q
  have := nl (2 + atL L (((i + 1 : Nat) : Int) + 1) 5)
  have w4 : (wordAt 19).length = 4 := rfl
  exact cmd_b (by omega) (by rw [withE_0, w4]; omega) (by omega) (by omega) (by simp [depthL])
 split
 ·rename_i q; subst q
  have w4 : (wordAt 20).length = 3 := rfl
  exact cmd_b (by omega) (by rw [withN_0, withE_0, w4]; omega) (by omega) (by omega) (by simp [depthL])
 split
 ·rename_i q; subst q
  have := nl (1 + atL L ((i + 1 : Nat) : Int) 9)
  have m0 : (midT 21 []).length = 0 := rfl
  exact cmd_b (by omega) (by rw [withE_0, m0]; omega) (by omega) (by omega) (by simp [depthL])
 split
 ·rename_i q; subst q
  have := nl (1 + atL L ((i + 1 : Nat) : Int) 99)
  have m0 : (midT 25 []).length = 0 := rfl
  exact cmd_b (by omega) (by rw [withE_0, m0]; omega) (by omega) (by omega) (by simp [depthL])
 ·have q : k = 24 := by omega
  subst q
  have m0 : (midT 24 []).length = 0 := rfl
  have w4 : (wordAt 24).length = 5 := rfl
  exact cmd_b (by omega) (by rw [withN_0, withE_1, m0, w4]; omega) (by omega) (by omega) (by rw [depthL_1]; omega)
theorem somes_b {L : List Int} {c e : Nat} {st : Nat → Nd × Nat} (h : ∀ j, j < L.length → SB L c e j (st j)) : ∀ (m : Nat) (ks : List Nd) (j : Nat), depthL ks ≤ e →
  (stmtsT (somesM L st m ks j).1).length + 14 * j ≤ (stmtsT ks).length + 14 * (somesM L st m ks j).2 ∧ j ≤ (somesM L st m ks j).2 ∧ (somesM L st m ks j).2 ≤ max j (L.length + c) ∧ depthL (somesM L st m ks j).1 ≤ e
 | 0, ks, j, hk => by simp only [somesM]; exact ⟨by omega, Nat.le_refl _, by omega, hk⟩
 | m + 1, ks, j, hk => by
  unfold somesM
  split
  ·exact ⟨by simp only; omega, Nat.le_refl _, by simp only; omega, hk⟩
  ·rename_i q
   obtain ⟨a1, a2, a3, a4⟩ := h j (by omega)
   obtain ⟨b1, b2, b3, b4⟩ := somes_b h m (ks ++ [(st j).1]) (st j).2 (by rw [depthL_append, depthL_1]; omega)
   have et : (stmtsT (ks ++ [(st j).1])).length = (stmtsT ks).length + (stmtT (st j).1).length + 1 := by rw [stmtsT_append]; simp [stmtsT]; omega
   rw [et] at b1
   exact ⟨by omega, by omega, by omega, b4⟩
theorem block_len (ks : List Nd) : (blockT (.mk 8 [] 0 ks)).length = (stmtsT ks).length + 3 := by simp [blockT]
theorem some_b {L : List Int} {c e : Nat} {st : Nat → Nd × Nat} (h : ∀ j, j < L.length → SB L c e j (st j)) (j : Nat) : BB L c (e + 1) j (someM L st j) := by
 obtain ⟨a1, a2, a3, a4⟩ := somes_b h (atL L j 4).toNat [] (j + 1) (Nat.zero_le _)
 have e1 : (someM L st j).1 = .mk 8 [] 0 (somesM L st (atL L j 4).toNat [] (j + 1)).1 := rfl
 have e2 : (someM L st j).2 = (somesM L st (atL L j 4).toNat [] (j + 1)).2 := rfl
 have e3 : (stmtsT []).length = 0 := rfl
 refine ⟨?_, by rw [e2]; omega, by rw [e2]; omega, by rw [e1, depthN]; omega⟩
 rw [e1, e2, block_len]; omega
theorem one_b (L : List Int) : ∀ d i, i < L.length → SB L (9 + 2 * d) (4 + 3 * d) i (oneM L d i)
 | 0, i, hi => by rw [oneM]; exact oneB_b hi (Nat.le_refl 7) (Nat.le_refl 2) fun h => absurd h (Nat.lt_irrefl 0)
 | d + 1, i, hi => by
  rw [oneM]
  have := oneB_b (c := 9 + 2 * d) (e := 4 + 3 * d + 1) (bl := someM L (oneM L d)) (d := d + 1) hi (by omega) (by omega) fun _ j => some_b (one_b L d) j
  exact ⟨this.bytes, this.lt, by have := this.ends; omega, by have := this.depth; omega⟩
theorem body_b (L : List Int) : ∀ (m : Nat) (ks : List Nd) (j : Nat), depthL ks ≤ 10 → (stmtsT (bodyM L m ks j)).length + 14 * j ≤ (stmtsT ks).length + 14 * max j (L.length + 13) ∧ depthL (bodyM L m ks j) ≤ 10
 | 0, ks, j, hk => by simp only [bodyM]; exact ⟨by omega, hk⟩
 | m + 1, ks, j, hk => by
  unfold bodyM
  split
  ·exact ⟨by omega, hk⟩
  ·rename_i q
   obtain ⟨a1, a2, a3, a4⟩ := one_b L 2 j (by omega)
   obtain ⟨b1, b2⟩ := body_b L m (ks ++ [(oneM L 2 j).1]) (oneM L 2 j).2 (by rw [depthL_append, depthL_1]; omega)
   have et : (stmtsT (ks ++ [(oneM L 2 j).1])).length = (stmtsT ks).length + (stmtT (oneM L 2 j).1).length + 1 := by rw [stmtsT_append]; simp [stmtsT]; omega
   rw [et] at b1
   exact ⟨by omega, b2⟩
theorem items_b (L : List Int) : ∀ c, ((itemsM L c).flatMap itemT).length ≤ 25 * c ∧ depthL (itemsM L c) ≤ 1
 | 0 => ⟨Nat.le_refl _, Nat.zero_le _⟩
 | c + 1 => by
  obtain ⟨a, b⟩ := items_b L c
  have h1 := callM_len L (3 + 2 * c)
  have h2 := itoa_len (atL L (4 + 2 * c) 1999 - 999)
  rw [itemsM, List.flatMap_append, depthL_append, depthL_1]
  refine ⟨?_, by simp only [depthN, depthL]; omega⟩
  simp only [List.flatMap_cons, List.flatMap_nil, itemT, List.length_append, List.length_cons, List.length_nil, Nd.text_mk, Nd.n_mk]
  omega
theorem tree_small (l : List Int) : (textT (treeS l)).length ≤ 900 ∧ depthN (treeS l) ≤ 12 := by
 have hl : (l.take 48).length ≤ 48 := by rw [List.length_take]; omega
 have hx := getD_all (p := fun n : Int => 0 ≤ n ∧ n ≤ 6) (d := 0) (by decide : ∀ n ∈ treeKinds, 0 ≤ n ∧ n ≤ 6) (show (atL (l.take 48) 0 10).toNat < 10 by have := atL_range (l.take 48) 0 10 (by decide); omega)
 unfold treeS
 generalize l.take 48 = L at hl hx
 have cl := callM_len L 1
 have r4 := atL_range L 2 4 (by decide)
 obtain ⟨b1, b2⟩ := body_b L L.length [] 2 (Nat.zero_le _)
 obtain ⟨i1, i2⟩ := items_b L (atL L 2 4).toNat
 have e3 : (stmtsT []).length = 0 := rfl
 unfold treeB
 simp only []
 generalize treeKinds.getD (atL L 0 10).toNat 0 = k at hx
 have wl := word_len k
 split
 ·rename_i q; subst q
  have il := itoa_len (atL L 2 1999 - 999)
  refine ⟨?_, by simp only [depthN, depthL]; omega⟩
  have et : textT (.mk 0 (callM L 1) (atL L 2 1999 - 999) []) = (wordAt 0 ++ 32 :: callM L 1) ++ 32 :: 61 :: 32 :: (itoaS (atL L 2 1999 - 999) ++ [59]) := by simp [textT]
  rw [et]; simp only [List.length_append, List.length_cons, List.length_nil]; omega
 split
 ·rename_i q; subst q
  have il := itoa_len (atL L 2 4)
  refine ⟨?_, by simp only [depthN, depthL]; omega⟩
  have et : textT (.mk 2 (callM L 1) (atL L 2 4) []) = (wordAt 2 ++ 32 :: callM L 1) ++ 32 :: (itoaS (atL L 2 4) ++ [59]) := by simp [textT]
  rw [et]; simp only [List.length_append, List.length_cons, List.length_nil]; omega
 split
 ·rename_i q; subst q
  refine ⟨?_, by simp only [depthN]; omega⟩
  have et : textT (.mk 1 (callM L 1) 0 (itemsM L (atL L 2 4).toNat)) = (wordAt 1 ++ 32 :: callM L 1) ++ 32 :: 123 :: 32 :: ((itemsM L (atL L 2 4).toNat).flatMap itemT ++ [125]) := by simp [textT]
  rw [et]; simp only [List.length_append, List.length_cons, List.length_nil]; omega
 split
 ·rename_i q
  refine ⟨?_, by simp only [depthN, depthL]; omega⟩
  have et : textT (.mk k (callM L 1) 0 [.mk 8 [] 0 (bodyM L L.length [] 2)]) = (wordAt k ++ 32 :: callM L 1) ++ 32 :: blockT (.mk 8 [] 0 (bodyM L L.length [] 2)) := by rcases q with rfl | rfl <;> simp [textT]
  rw [et]; simp only [List.length_append, List.length_cons, block_len]; omega
 ·have q : k = 3 ∨ k = 4 := by omega
  refine ⟨?_, by simp only [depthN, depthL]; omega⟩
  have et : textT (.mk k (callM L 1) 0 []) = (wordAt k ++ 32 :: callM L 1) ++ [59] := by rcases q with rfl | rfl <;> simp [textT]
  rw [et]; simp only [List.length_append, List.length_cons, List.length_nil]; omega
theorem tree_valid (l : List Int) : validB (treeS l) = true := by
 obtain ⟨a, b, c⟩ := tree_right l
 obtain ⟨d, e⟩ := tree_small l
 unfold validB
 rw [a]
 simp only [Bool.and_eq_true, decide_eq_true_eq]
 exact ⟨⟨⟨⟨b, c⟩, by omega⟩, trivial⟩, by omega⟩
end Go.Eng
namespace Go.Eng
open Go.Proofs
attribute [local simp] runL stepL evalG evalOp opLV constLV putEnv dstOk upd upds Res.plain Res.cond Res.fail evalBin evalUn seqQ blockQ argsEnv lookL lookH RetIs memless freshL evalPick evalMin bval bok evalLen evalIn strip whenC guardOps guardC slotsOf
 runM foldS stepI stepM maskE wrIn lk renO lookN evalCall evalCallee optAll resLV resObj retLV retObj retsLV retsObj evalLoad evalIndexAddr evalField solid cellsD_agg cellsD_int cellsD_bool cellsD_str cellsD_sl cellsD_ro cellsD_fn cellsL_agg cellsL_dagg cellsL_int cellsL_bool cellsL_str cellsL_sl cellsL_fn cellsL_ow cellsL_bx cellsL_lfn cellsL_nl takeL takeD mkAgg allD eqD eqDs kindsAre kindIs LObj.live TK.isNone TK.agg TK.isBool TK.isStr TK.isStruct Op.operands Call.operands
 evalBuildSlice evalAppend elemsOf evalStore evalBuild fillL lookupF putL evalSlice bound evalConv elemsS freezes frozen loadR
 mkEnv_at mkObs_at close_d close_agg close_ow close_bx close_fn close_nl touch_d touch_agg touch_ow touch_bx touch_fn touch_nl ren_d ren_agg ren_bx ren_rp ren_ow ren_fn ren_nl ren_junk retQ_ret retQ2_ret condQ_bool Nm.d Df.d Ed.d nmsD dfsD strsD edsD retC_ret nm_eq df_eq take_map_len take_map_app
 nm_t nm_d nm_td df_t df_d df_td str_t str_d str_td ed_t ed_d ed_td
 evalAppendIn evalBuildSliceC evalCopyC shortL evalApart evalAppendC evalAppendZ evalAppendG evalCapC isOc TK.isInt close_oc touch_oc ren_oc cellsL_oc evalCut evalClear evalCopy evalMake evalWrap evalCap evalNil isNilC lenL isInp gorc gorc2
 mapOf findD keyEq keyOk evalMakeMap evalRange zeroD zeroDV argsG shutG outN lenv retG0_ret retG0_normal retG1_ret retGR_ret renO close_mp touch_mp ren_mp optAll_d optAll_d' touch_ds cellsL_mp cellsD_mp cellsL_dmp
 evalMapSet evalPtr TK.isPtr evalToArr firstL retN_ret retsQ rvarL close_bm touch_bm ren_bm cellsD_bm cellsL_bm cellsL_lbm
attribute [local simp] cutQ_normal cutQ_ret cutQ_exit
section
attribute [local simp] Res.cond Nd.d_eq nd_t nd_dr nd_td ndsD evalIndex
theorem parse_valid {s : Str} (h : (parseS s).2.2 = 0) : validB (parseS s).1 = true := by
 by_cases hl : 1024 < s.length
 ·unfold parseS at h; rw [if_pos hl] at h; exact absurd h (by decide)
 ·obtain ⟨R, hR⟩ : ∃ R, defP false ⟨(scanS s).1, 0⟩ = R := ⟨_, rfl⟩
  unfold parseS at h ⊢
  rw [if_neg hl] at h ⊢
  simp only [] at h ⊢
  rw [hR] at h ⊢
  split at h
  ·simp only at h
   split at h
   ·rename_i q; exact absurd h q
   ·exact absurd h (by decide)
  ·rename_i hn
   by_cases q : R.2.e ≠ 0 ∨ (scanS s).2 < s.length
   ·rw [if_pos q] at h; exact absurd h (by show ¬ (2 : Int) = 0; decide)
   ·rw [if_neg q] at h ⊢
    by_cases v : validB R.1 = true
    ·rw [if_pos v]; exact v
    ·rw [if_neg v] at h; exact absurd h (by show ¬ (4 : Int) = 0; decide)
set_option maxRecDepth 10000 in
theorem SourceAgain_ok (l m : List Int) (a how b : Int) (hl : MkL l) (hm : MkL m) (ha : I64r a) (hh : I64r how) (hb : I64r b) : Ok Tryz.prog 6 [.sl (l.map I64), .sl (m.map I64), I64 a, I64 how, I64 b] ⟨.d (.bool true), true⟩ := by
 refine Ok.ret Tryz.func6 (by kernel_rfl) (c := _) rfl Tryz.ntmps6 (by simp) Tryz.results6 (by intro _ h; cases h) fun w0 X hp => ?_
 unfold I64r at ha hh hb
 obtain ⟨x, hx⟩ : ∃ x, treeS l = x := ⟨_, rfl⟩
 obtain ⟨s, hs⟩ : ∃ s, textT x = s := ⟨_, rfl⟩
 obtain ⟨t, ht⟩ : ∃ t, spacedS s m = t := ⟨_, rfl⟩
 obtain ⟨u, hu⟩ : ∃ u, changedS s a how b = u := ⟨_, rfl⟩
 have hv : validB x = true := by rw [← hx]; exact tree_valid l
 have ls : s.length ≤ 900 := by rw [← hs, ← hx]; exact (tree_small l).1
 have hw : weighN x ≤ 1000000000 := by have := tree_weigh l; rw [hx] at this; omega
 have kx := MTree_ok l hl
 have kp := Print_ok x hw
 have kq := Parse_ok s
 have kv := Valid_ok x hw
 have ke := RSame_ok x hw x
 have kt := RSpaced_ok s m (by omega) hm
 have ku := RChanged_ok s a how b (by omega) ha hh hb
 have hpr : printS x = s := by unfold printS; rw [if_pos hv, hs]
 have hpa := parse_text hv
 rw [hs] at hpa
 rw [hx] at kx
 rw [hpr] at kp
 rw [hpa] at kq
 rw [hv] at kv
 rw [same_refl] at ke
 rw [ht] at kt
 rw [hu] at ku
 simp at kx kp kq kv ke
 obtain ⟨TL, hTL⟩ : ∃ TL : List Str, TL = [t, u] := ⟨_, rfl⟩
 have hTl : TL.length = 2 := by rw [hTL]; rfl
 refine LWp.sz hT hW ?_
 simp
 refine LWp.so hT hW (fun | 26 => some <| .plain ⟨.d x.d, false⟩ | _ => none) ?_
 simp
 refine ⟨kx, ?_⟩
 refine LWp.so hT hW (fun | 28 => some <| .plain ⟨.d (.str s), true⟩ | _ => none) ?_
 simp
 refine ⟨kp, ?_⟩
 refine LWp.so hT hW (fun | 31 => some <| .plain ⟨.tup [.d x.d, .d (I64 0), .d (I64 0)], false⟩ | _ => none) ?_
 simp [evalExtract]
 refine ⟨kq, ?_⟩
 refine LWp.seq ?_
 refine LWp.so hT hW (fun | 36 => some <| .plain ⟨.d (.bool true), true⟩ | 49 => some <| .plain ⟨.d (.bool true), true⟩ | _ => none) ?_
 simp
 refine ⟨⟨kv, ke⟩, ?_⟩
 refine LWp.iff ?_
 simp
 refine LWp.skip ?_
 simp
 refine LWp.so hT hW (fun | 54 => some <| .plain ⟨.d (.str t), true⟩ | 59 => some <| .plain ⟨.d (.str u), true⟩ | _ => none) ?_
 simp
 refine ⟨by (repeat' with_reducible apply And.intro) <;> first | with_reducible assumption | decide, ?_⟩
 refine LWp.weak (Weak.close 16 (x := .sl (TL.map DV.str)) (by simp [hTL])) ?_
 simp
 refine LWp.seq ?_
 refine LWp.sz hT hW ?_
 simp
 refine LWp.block ?_
 refine LWp.loopW (ι := Nat) (fun i => mkEnv [(16, .d (.sl (TL.map DV.str))), (17, .d (I64 (i : Nat)))]) (fun i => mkObs []) (fun i => i ≤ 2) (fun i => 2 - i) 0 (Weak.to [16, 17] [] (by decide) (by decide) (by simp [hp]) (by simp) (by simp)) (Nat.zero_le _) fun i hi8 => ?_
 refine LWp.seq ?_
 refine LWp.sz hT hW ?_
 simp
 refine LWp.iff ?_
 simp
 refine ⟨fun h8 => ?_, fun h8 => ?_⟩
 ·refine LWp.skip ?_
  simp
  refine LWp.seq ?_
  refine LWp.block ?_
  refine LWp.seq ?_
  have hi : i < TL.length := by omega
  obtain ⟨w, hti⟩ : ∃ w, TL[i] = w := ⟨_, rfl⟩
  have e1 := Parse_ok w
  obtain ⟨Y, hY⟩ : ∃ Y, parseS w = Y := ⟨_, rfl⟩
  have hwY := parse_wt w
  rw [hY] at e1 hwY
  simp at e1
  refine LWp.ro hT hW (fun | 70 => some <| .plain ⟨.tup [.d Y.1.d, .d (I64 Y.2.1), .d (I64 Y.2.2)], false⟩ | _ => none) ?_
  simp [evalExtract, hi, hti]
  refine ⟨e1, ?_⟩
  refine LWp.seq ?_
  refine LWp.sz hT hW ?_
  simp
  refine LWp.iff ?_
  simp
  refine ⟨fun h11 => ?_, fun h11 => ?_⟩
  ·refine LWp.exit ?_
   simp
   refine LWp.rz hT hW ?_
   simp
   refine ⟨by omega, ?_⟩
   refine loopQ.mk (i + 1) (Weak.to [16, 17] [] (by decide) (by decide) (by simp [hp]) (by simp) (by simp)) ?_ ?_
   ·omega
   ·omega
  ·have hvY : validB Y.1 = true := by rw [← hY]; exact parse_valid (by rw [hY]; omega)
   obtain ⟨p, hp1⟩ : ∃ p, textT Y.1 = p := ⟨_, rfl⟩
   have hpY : printS Y.1 = p := by unfold printS; rw [if_pos hvY, hp1]
   have hqY := parse_text hvY
   rw [hp1] at hqY
   have f1 := Print_ok Y.1 hwY
   have f2 := Parse_ok p
   have f3 := Valid_ok Y.1 hwY
   have f4 := RSame_ok Y.1 hwY Y.1
   rw [hpY] at f1
   rw [hqY] at f2
   rw [hvY] at f3
   rw [same_refl] at f4
   simp at f1 f2 f3 f4
   refine LWp.skip ?_
   simp
   refine LWp.so hT hW (fun | 77 => some <| .plain ⟨.d (.str p), true⟩ | _ => none) ?_
   simp
   refine ⟨f1, ?_⟩
   refine LWp.so hT hW (fun | 80 => some <| .plain ⟨.tup [.d Y.1.d, .d (I64 0), .d (I64 0)], false⟩ | _ => none) ?_
   simp [evalExtract]
   refine ⟨f2, ?_⟩
   refine LWp.so hT hW (fun | 85 => some <| .plain ⟨.d (.bool true), true⟩ | 94 => some <| .plain ⟨.d (.bool true), true⟩ | 99 => some <| .plain ⟨.d (.str p), true⟩ | _ => none) ?_
   simp
   refine ⟨⟨⟨f3, f4⟩, f1⟩, ?_⟩
   refine LWp.iff ?_
   simp
   refine LWp.skip ?_
   simp
   refine LWp.rz hT hW ?_
   simp
   refine ⟨by omega, ?_⟩
   refine loopQ.mk (i + 1) (Weak.to [16, 17] [] (by decide) (by decide) (by simp [hp]) (by simp) (by simp)) ?_ ?_
   ·omega
   ·omega
 ·refine LWp.exit ?_
  simp
  refine LWp.seq ?_
  have hlv := lives06_ok
  refine LWp.ro hT hW (fun | 103 => some <| .plain ⟨.d (.bool true), true⟩ | _ => none) ?_
  simp
  refine ⟨hlv, ?_⟩
  refine LWp.ret ?_
  simp
end
end Go.Eng
namespace Go.Eng
open Go.RowKit
def offsOk (P : Program) : List Field → Nat → Bool
  | [], _ => true
  | f :: r, o => f.offset == o && offsOk P r (o + P.cellsOf f.type)
def litCells (P : Program) : Nat → TypeId → DataW Unit → Option (List Value)
  | 0, _, _ => none
  | n + 1, t, d => match P.underlying t, d with
    | some (.int _), .lit (.int k z) => some [.int k z]
    | some .string, .lit (.string s) => some [.string ⟨s.toArray⟩]
    | some (.array _ e), .agg ds => match ds.mapM (litCells P n e) with
      | some xs => if xs.all (fun x => x.length == P.cellsOf e) && xs.length * P.cellsOf e == P.cellsOf t then some xs.flatten else none
      | none => none
    | some (.struct fs), .agg ds => match (fs.toList.zip ds).mapM (fun p => litCells P n p.1.type p.2) with
      | some xs => if offsOk P fs.toList 0 && xs.flatten.length == P.cellsOf t && ((fs.toList.zip xs).all fun p => p.2.length == P.cellsOf p.1.type) && ds.length == fs.size then some xs.flatten else none
      | none => none
    | _, _ => none
theorem litChunks {c : Nat} : ∀ (xs : List (List Value)) (cs : List Value), cs.length = xs.length * c → (∀ (i : Nat) (x : List Value), xs[i]? = some x → (cs.drop (i * c)).take c = x) → cs = xs.flatten
  | [], cs, hl, _ => by
    have : cs = [] := List.eq_nil_of_length_eq_zero (by simpa using hl)
    simp [this]
  | x :: xs, cs, hl, h => by
    have h0 := h 0 x rfl
    simp only [Nat.zero_mul, List.drop_zero] at h0
    have hr := litChunks (c := c) xs (cs.drop c) (by rw [List.length_drop, hl, List.length_cons, Nat.succ_mul]; omega) fun i y hy => by
      have := h (i + 1) y (by simpa using hy)
      rw [List.drop_drop, Nat.add_comm c, ← Nat.succ_mul]
      exact this
    rw [List.flatten_cons, ← hr, ← h0, List.take_append_drop]
theorem fields_flat {P : Program} {cs : List Value} : ∀ (fs : List Field) (xs : List (List Value)) (o : Nat), offsOk P fs o = true → xs.length = fs.length → (∀ (i : Nat) (f : Field) (x : List Value), fs[i]? = some f → xs[i]? = some x → (cs.drop f.offset).take (P.cellsOf f.type) = x ∧ x.length = P.cellsOf f.type) →
    (cs.drop o).take xs.flatten.length = xs.flatten
  | [], [], _, _, _, _ => by simp
  | [], _ :: _, _, _, h, _ => by simp at h
  | _ :: _, [], _, _, h, _ => by simp at h
  | f :: fs, x :: xs, o, ho, hl, h => by
    simp only [offsOk, Bool.and_eq_true, beq_iff_eq] at ho
    obtain ⟨h1, h2⟩ := h 0 f x rfl rfl
    have hr := fields_flat fs xs (o + P.cellsOf f.type) ho.2 (by simpa using hl) fun i g y hg hy => h (i + 1) g y (by simpa using hg) (by simpa using hy)
    rw [ho.1] at h1
    rw [List.flatten_cons, List.length_append, List.take_add, h2, h1, List.drop_drop, hr]
theorem lit_cells {enc : TypeId × Value → Unit} {P : Program} {w : World} {base : Nat} {sp : Nat → Bool} {held : Bool} : ∀ (n fuel : Nat) (t : TypeId) (cs : List Value) (d : DataW Unit) (p : List MemPlace) (vs : List Value),
    DataW.trod enc P w base sp held fuel t cs = some (d, p) → litCells P n t d = some vs → cs = vs := by
  intro n
  induction n with
  | zero => intro fuel t cs d p vs _ h; cases h
  | succ n ih =>
    intro fuel t cs d p vs ht hv
    unfold litCells at hv
    split at hv
    · rename_i k' k z hu
      obtain ⟨m, rfl, hx, _⟩ := DataW.trod_int hu ht
      injection hx with e1 e2
      injection e1 with e1
      injection e1 with e3 e4
      subst e3 e4
      exact Option.some.inj hv
    · rename_i s hu
      obtain ⟨b, rfl, hx, _⟩ := DataW.trod_string hu ht
      injection hx with e1 e2
      injection e1 with e1
      injection e1 with e3
      subst e3
      exact Option.some.inj hv
    · rename_i m e ds hu
      cases fuel with
      | zero => simp [DataW.trod] at ht
      | succ fuel =>
        unfold DataW.trod at ht
        rw [hu] at ht
        simp only at ht
        split at ht
        · rename_i hl
          obtain ⟨ys, hm, hx⟩ := Option.map_eq_some_iff.1 ht
          have hds : ys.map (·.1) = ds := by
            have := congrArg Prod.fst hx
            simpa using this
          split at hv
          · rename_i xs hxs
            split at hv
            · rename_i hc
              simp only [Bool.and_eq_true, List.all_eq_true, beq_iff_eq] at hc
              have hv := Option.some.inj hv
              rw [← hv]
              have hyl : ys.length = m := by simpa using Lib.mapM_length hm
              have hxl : xs.length = ds.length := Lib.mapM_length hxs
              have hdl : ds.length = m := by rw [← hds, List.length_map, hyl]
              refine litChunks (c := P.cellsOf e) xs cs (by rw [hl, hc.2]) fun i x hx' => ?_
              have hi : i < m := by have := (List.getElem?_eq_some_iff.1 hx').1; omega
              obtain ⟨y, hy, hf⟩ := Lib.mapM_at hm i i (by simp [hi])
              have hdi : ds[i]? = some y.1 := by rw [← hds, List.getElem?_map, hy]; rfl
              obtain ⟨x2, hx2, hlc⟩ := Lib.mapM_at hxs i _ hdi
              have : x2 = x := Option.some.inj (hx2.symm.trans hx')
              subst this
              exact ih fuel e _ y.1 y.2 x2 hf hlc
            · cases hv
          · cases hv
        · cases ht
    · rename_i fs ds hu
      obtain ⟨ys, m, rfl, hx, hl, hyl, hf⟩ := DataW.trod_struct hu ht
      have hds : ys.map (·.1) = ds := by
        have := congrArg Prod.fst hx
        simpa using this.symm
      split at hv
      · rename_i xs hxs
        split at hv
        · rename_i hc
          simp only [Bool.and_eq_true, List.all_eq_true, beq_iff_eq] at hc
          obtain ⟨⟨⟨c1, c2⟩, c3⟩, c4⟩ := hc
          have hv := Option.some.inj hv
          rw [← hv]
          have hxl : xs.length = (fs.toList.zip ds).length := Lib.mapM_length hxs
          have hzl : (fs.toList.zip ds).length = fs.size := by rw [List.length_zip, c4]; simp
          have key := fields_flat (P := P) (cs := cs) fs.toList xs 0 c1 (by rw [hxl, hzl]; simp) fun i f x hfi hxi => by
            have hfa : fs[i]? = some f := by simpa using hfi
            have hyi := hf i f hfa
            have hi : i < fs.size := (Array.getElem?_eq_some_iff.1 hfa).1
            obtain ⟨y, hy⟩ : ∃ y, ys[i]? = some y := ⟨_, List.getElem?_eq_getElem (by omega)⟩
            rw [hy] at hyi
            have hdi : ds[i]? = some y.1 := by rw [← hds, List.getElem?_map, hy]; rfl
            have hz : (fs.toList.zip ds)[i]? = some (f, y.1) := by
              rw [List.getElem?_zip_eq_some]
              exact ⟨hfi, hdi⟩
            obtain ⟨x2, hx2, hlc⟩ := Lib.mapM_at hxs i _ hz
            have : x2 = x := Option.some.inj (hx2.symm.trans hxi)
            subst this
            refine ⟨ih m f.type _ _ _ x2 hyi hlc, ?_⟩
            have hz2 : (fs.toList.zip xs)[i]? = some (f, x2) := by
              rw [List.getElem?_zip_eq_some]
              exact ⟨hfi, hxi⟩
            exact c3 _ (List.mem_of_getElem? hz2)
          rw [List.drop_zero, c2, ← hl, List.take_length] at key
          exact key
        · cases hv
      · cases hv
    · cases hv
def dvVal : DV → Value
  | .int k n => .int k n
  | .str s => .string ⟨s.toArray⟩
  | _ => undef
def flatB : DV → Bool
  | .int _ _ => true
  | .str _ => true
  | _ => false
theorem glob_one {P : Program} {W : World} {name : String} {g g' : Nat} {t t' : TypeId} {cs : Array Value} {fuel n : Nat} {p : List MemPlace} {d : DataW Unit} {ds : List DV} {enc : TypeId × Value → Unit} {base : Nat} {sp : Nat → Bool} {held : Bool}
    (hg : P.globalNamed name = some g) (hty : (P.globals[g]?).map (·.type) = some t) (hg' : P.globalNamed name = some g') (ht' : (P.globals[g']?).map (·.type) = some t') (hvar : W.var? P name = some cs)
    (hd : DataW.trod enc P W base sp held fuel t' cs.toList = some (d, p)) (hlit : litCells P n t d = some (ds.map dvVal)) (hfl : ds.all flatB = true) :
    RD W (fun _ => False) (.ro ds) (.pointer (some ⟨g, 0, none⟩)) ∧ ∃ arr t fz, W.heap[g]? = some (.cells arr t fz) ∧ arr.size = ds.length := by
  obtain rfl := Option.some.inj (hg.symm.trans hg')
  obtain rfl := Option.some.inj (hty.symm.trans ht')
  have hc := lit_cells n fuel t cs.toList d p _ hd hlit
  have hsz : cs.size = ds.length := by
    have := congrArg List.length hc
    simpa using this
  have hblk : ∃ ty fz, W.heap[g]? = some (.cells cs ty fz) := by
    unfold World.var? at hvar
    rw [hg] at hvar
    simp only [Option.bind_some] at hvar
    split at hvar
    · rename_i c ty fz hh
      cases hvar
      exact ⟨ty, fz, hh⟩
    · cases hvar
  obtain ⟨ty, fz, hblk⟩ := hblk
  refine ⟨.ro ds g 0 (ds.map dvVal) (fun h => h) (by simp) (fun u hu => ?_) (Array.getElem?_eq_some_iff.1 hblk).1 (fun j u hj => ?_) (fun i x v hx hv => ?_), cs, ty, fz, hblk, hsz⟩
  · obtain ⟨x, hx, rfl⟩ := List.mem_map.1 hu
    have := List.all_eq_true.1 hfl x hx
    cases x <;> first | rfl | cases this
  · have := World.var?_cell hg hvar j
    rw [Nat.zero_add, this, ← hj, ← hc]
    simp
  · rw [List.getElem?_map, hx] at hv
    cases hv
    have := List.all_eq_true.1 hfl x (List.mem_of_getElem? hx)
    cases x with
    | int k n => exact .int k n
    | str s => exact .str s
    | _ => cases this
end Go.Eng
namespace Go.Proofs.YtmpfgfdjkjekcaaGreatDoor.crA
open Go.Eng
theorem gl {W : World} (h : laidMetH Tryz.prog Rows.sourceValidRow.laid W) : Glob W (fun _ => False) := by
  have h : laidMet Tryz.prog Rows.sourceValidRow.laid W := h
  obtain ⟨ps, ⟨g1, t1, c1, f1, p1, q1, n1, y1, v1, d1, ⟨g2, t2, c2, f2, p2, q2, n2, y2, v2, d2, ⟨g3, t3, c3, f3, p3, q3, n3, y3, v3, d3, ⟨g4, t4, c4, f4, p4, q4, n4, y4, v4, d4, ⟨g5, t5, c5, f5, p5, q5, n5, y5, v5, d5, ⟨g6, t6, c6, f6, p6, q6, n6, y6, v6, d6, ⟨g7, t7, c7, f7, p7, q7, n7, y7, v7, d7, ⟨g8, t8, c8, f8, p8, q8, n8, y8, v8, d8, _, _⟩, _⟩, _⟩, _⟩, _⟩, _⟩, _⟩, _⟩, _⟩ := h
  intro n cs hn
  match n, hn with
  | 0, hn => cases hn; exact glob_one (n := 4) (g := 0) (t := 81) (by kernel_rfl) (by kernel_rfl) n6 y6 v6 d6 (by kernel_rfl) (by kernel_rfl)
  | 1, hn => cases hn; exact glob_one (n := 4) (g := 1) (t := 99) (by kernel_rfl) (by kernel_rfl) n8 y8 v8 d8 (by kernel_rfl) (by kernel_rfl)
  | 2, hn => cases hn; exact glob_one (n := 4) (g := 2) (t := 142) (by kernel_rfl) (by kernel_rfl) n7 y7 v7 d7 (by kernel_rfl) (by kernel_rfl)
  | 3, hn => cases hn
  | 4, hn => cases hn; exact glob_one (n := 4) (g := 4) (t := 158) (by kernel_rfl) (by kernel_rfl) n3 y3 v3 d3 (by kernel_rfl) (by kernel_rfl)
  | 5, hn => cases hn
  | 6, hn => cases hn
  | 7, hn => cases hn; exact glob_one (n := 4) (g := 7) (t := 177) (by kernel_rfl) (by kernel_rfl) n1 y1 v1 d1 (by kernel_rfl) (by kernel_rfl)
  | 8, hn => cases hn; exact glob_one (n := 4) (g := 8) (t := 178) (by kernel_rfl) (by kernel_rfl) n2 y2 v2 d2 (by kernel_rfl) (by kernel_rfl)
  | n + 9, hn => cases hn
abbrev rangeS : ByteArray := { data := #[118, 97, 108, 117, 101, 32, 111, 117, 116, 32, 111, 102, 32, 114, 97, 110, 103, 101] }
abbrev syntaxS : ByteArray := { data := #[105, 110, 118, 97, 108, 105, 100, 32, 115, 121, 110, 116, 97, 120] }
noncomputable def low : Nat := (World.holding Tryz.prog default ⟨#[], #[], []⟩).heap.size
noncomputable def held (g : Nat) (cs : Array Value) : Array Value := match g with
  | 5 => #[.iface 174 (.pointer (some ⟨low + 1, 0, none⟩))]
  | 6 => #[.iface 174 (.pointer (some ⟨low, 0, none⟩))]
  | g => match globD g with
    | some ds => (ds.map dvVal).toArray
    | none => cs
noncomputable def laidWorld (os : Os) : World :=
  let w0 := World.holding Tryz.prog os ⟨#[.cells #[.string rangeS] 176, .cells #[.string syntaxS] 176], #[], []⟩
  { w0 with heap := (List.range 9).foldl (fun h g => h.modify g fun
      | .cells cs t frozen => .cells (held g cs) t frozen
      | o => o) w0.heap }
theorem laidWorld_met (os : Os) (args : Array Value) : laidMet Tryz.prog Rows.sourceValidRow.laid ((laidWorld os).forCall (fun _ _ => 0) ⟨#[], args, []⟩).memory :=
  laidMet_of_run' 8 (by kernel_rfl) (by kernel_rfl)
end Go.Proofs.YtmpfgfdjkjekcaaGreatDoor.crA
