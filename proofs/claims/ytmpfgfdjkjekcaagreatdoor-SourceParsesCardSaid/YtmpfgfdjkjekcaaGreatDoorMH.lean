/-
  Texts of the proofs of this seat, part 8. No condition.
-/
import Derived.Test.YtmpfgfdjkjekcaaGreatDoorMG
import Derived.Lib.ConvBytes
import Derived.Laws.IdiomStrings
import Derived.Test.YtmpfgfdjkjekcaaGreatDoorRows
import Derived.ChangeSame
import Derived.Lib.LaidTab
set_option linter.unusedVariables false
set_option linter.unusedSimpArgs false
namespace Go.Eng
theorem place_eats {p : PS} (h : GoodT p.l) (he3 : (placeP p).2.e = 0) : (placeP p).2.l.length < p.l.length := by
 unfold placeP at he3 ⊢
 have nm : (nameP p).2.e = 0 → (nameP p).2.l.length < p.l.length := fun z => by
  cases q : isNameB p.peek with
  | false => rw [name_not q] at z; exact absurd z (fail_e (by decide))
  | true =>
   have ip : p.is p.peek = true := is_iff.2 ⟨fun e => (by rw [e] at q; cases q), rfl⟩
   have lp := is_len ip
   rw [name_is q, took_is ip]
   simp only; omega
 have ng := nameP_good h
 split at he3
 ·rename_i z
  rw [if_pos z]
  have z2 : (nameP p).2.skip.e = 0 := nameP_stk _ he3
  have z3 : (nameP p).2.e = 0 := z2
  have ll := (nameP_good (p := (nameP p).2.skip) (good_skip ng.2.1)).1
  have l3 := skip_len (p := (nameP p).2)
  have := nm z3
  simp only; omega
 ·rename_i z
  rw [if_neg z]
  exact nm he3
theorem stmtB_ws {m : Nat} {ex bl : PS → Nd × PS} (hs : Stk ex) (hx : Wt ex) (hb : Wb m bl) : Ws (m + 1) (stmtB ex bl) := fun p hm h => by
 obtain ⟨k, hk⟩ : ∃ k, kindP p.peek = k := ⟨_, rfl⟩
 by_cases h1 : k = 11 ∨ k = 12
 ·have ip := kind_pos (p := p) (by omega)
  have lp := is_len ip
  rw [← took_is ip] at lp
  have e0 := hx (p.took p.peek) (good_took h)
  have b0 := hb (ex (p.took p.peek)).2 (by have := e0.1; omega) e0.2
  by_cases h2 : k = 11 ∧ (bl (ex (p.took p.peek)).2).2.is sElse = true
  ·rw [st_else hk h2.1 h2.2]
   have l2 := is_len h2.2
   rw [← took_is h2.2] at l2
   have c0 := hb ((bl (ex (p.took p.peek)).2).2.took sElse) (by have := e0.1; have := b0.1; omega) (good_took b0.2)
   refine ⟨?_, c0.2, fun _ => ?_⟩ <;> (simp only [weighN, weighL, List.length_nil]; omega)
  ·rw [st_if hk h1 (fun q => by
    cases z : (bl (ex (p.took p.peek)).2).2.is sElse with
    | false => rfl
    | true => exact absurd ⟨q, z⟩ h2)]
   refine ⟨?_, b0.2, fun _ => ?_⟩ <;> (simp only [weighN, weighL, List.length_nil]; omega)
 ·by_cases h3 : 12 < k
  ·have ip := kind_pos (p := p) (by omega)
   have lp := is_len ip
   rw [← took_is ip] at lp
   have c0 := cmdP_wb hx (k := k) (p.took p.peek) (good_took h)
   rw [st_cmd hk h3]
   have n := need_le (p := (cmdP ex k (p.took p.peek)).2) (s := [59])
   refine ⟨?_, (good_need c0.2).2, fun _ => ?_⟩ <;> (simp only; omega)
  ·by_cases h4 : p.peek.take 1 = [36]
   ·obtain ⟨i1, i2⟩ := local_is h4
    have ip : p.is p.peek = true := is_iff.2 ⟨fun e => (by rw [e] at h4; cases h4), rfl⟩
    have lp := is_len ip
    rw [← took_is ip] at lp
    have t := peek_tl h
    rw [st_local hk h1 h3 h4, i2]
    have n1 := need_le (p := p.took p.peek) (s := [61])
    have e0 := hx ((p.took p.peek).need [61]) (good_need (good_took h)).2
    have n2 := need_le (p := (ex ((p.took p.peek).need [61])).2) (s := [59])
    refine ⟨?_, (good_need e0.2).2, fun _ => ?_⟩ <;> (simp only [weighN, weighL, List.length_drop]; omega)
   ·rw [st_place hk h1 h3 h4]
    have a := place_wt p h
    have le := (placeP_rt (p.l.length + 1) p (Nat.lt_succ_self _) h).1
    have n1 := need_le (p := (placeP p).2) (s := [61])
    have e0 := hx ((placeP p).2.need [61]) (good_need a.2).2
    have n2 := need_le (p := (ex ((placeP p).2.need [61])).2) (s := [59])
    refine ⟨?_, (good_need e0.2).2, fun z => ?_⟩
    ·simp only [weighN, weighL, List.length_nil]; omega
    ·have z : ((ex ((placeP p).2.need [61])).2.need [59]).e = 0 := z
     have pe := place_eats h (need_e (hs _ (need_e z).2)).2
     simp only [weighN, weighL, List.length_nil]; omega
theorem stmtP_ws : ∀ f, Ws f (stmtP false f)
 | 0 => fun p hm _ => absurd hm (Nat.not_lt_zero _)
 | f + 1 => stmtB_ws (exprO_stk false) (fun p h => exprP_wt _ p h) (blockB_wb (stmtP_ws f))
end Go.Eng
namespace Go.Eng
theorem name_eats {p : PS} (z : (nameP p).2.e = 0) : (nameP p).2.l.length < p.l.length := by
 cases q : isNameB p.peek with
 | false => rw [name_not q] at z; exact absurd z (fail_e (by decide))
 | true =>
  have ip : p.is p.peek = true := is_iff.2 ⟨fun e => (by rw [e] at q; cases q), rfl⟩
  have lp := is_len ip
  rw [name_is q, took_is ip]
  simp only; omega
theorem itemsF_ws (B : Nat) : ∀ (f : Nat) (ks : List Nd) (p : PS), GoodT p.l → weighL ks + 240 * p.l.length ≤ B + 90 → (p.e = 0 → weighL ks + 240 * p.l.length ≤ B) →
  weighL (itemsF f ks p).1 + 240 * (itemsF f ks p).2.l.length ≤ B + 90 ∧ GoodT (itemsF f ks p).2.l
 | 0, _, _, h, h1, _ => ⟨h1, h⟩
 | f + 1, ks, p, h, h1, h2 => by
  unfold itemsF
  split
  ·exact ⟨h1, h⟩
  ·rename_i q
   have e0 : p.e = 0 := Classical.byContradiction fun z => q (.inl z)
   have b := h2 e0
   have a := nameP_good h
   have t := name_tl h
   have g1 := good_need (s := [61]) a.2.1
   have v := numberP_good g1.2
   have g2 := good_need (s := [59]) v.2.1
   simp only []
   refine itemsF_ws B f _ _ g2.2 ?_ fun z => ?_
   ·rw [weighL_app]; simp only [weighN, weighL]; omega
   ·have z1 := numberP_stk _ (need_e z).2
    have ne := name_eats (need_e z1).2
    rw [weighL_app]; simp only [weighN, weighL]; omega
theorem defP_weigh {p : PS} (h : GoodT p.l) : weighN (defP false p).1 ≤ 240 * p.l.length + 300 := by
 have s := skip_len (p := p)
 have a := nameP_good (good_skip h)
 have t := name_tl (good_skip h)
 unfold defP
 simp only []
 split
 ·simp only [weighN, weighL, List.length_nil]; omega
 ·split
  ·have b := blockB_wb (stmtP_ws ((nameP p.skip).2.l.length + 1)) (nameP p.skip).2 (Nat.lt_succ_self _) a.2.1
   have b1 : weighN (blockP false ((nameP p.skip).2.l.length + 1) (nameP p.skip).2).1 ≤ 240 * (nameP p.skip).2.l.length + 91 := by
    have := b.1
    show weighN (blockB (stmtP false ((nameP p.skip).2.l.length + 1)) (nameP p.skip).2).1 ≤ _
    omega
   simp only [weighN, weighL]; omega
  ·split
   ·have g1 := good_need (s := [123]) a.2.1
    have i := itemsF_ws (240 * ((nameP p.skip).2.need [123]).l.length) (((nameP p.skip).2.need [123]).l.length + 1) [] ((nameP p.skip).2.need [123]) g1.2 (by simp only [weighL]; omega) (fun _ => by simp only [weighL]; omega)
    have i1 := i.1
    simp only [weighN]; omega
   ·split
    ·simp only [weighN, weighL]; omega
    ·split
     ·simp only [weighN, weighL]; omega
     ·simp only [weighN, weighL]; omega
theorem scanF_len : ∀ (f : Nat) (s : Str) (i : Int), (scanF f s i).1.length ≤ f
 | 0, _, _ => Nat.le_refl _
 | f + 1, s, i => by
  unfold scanF
  split
  ·simp
  ·split
   ·have := scanF_len f (by assumption) (i + 1); omega
   ·split
    ·simp
    ·simp only [List.length_cons]
     exact Nat.succ_le_succ (scanF_len f _ _)
theorem parse_weigh {s : Str} (hl : s.length ≤ 1024) : weighN (defP false ⟨(scanS s).1, 0⟩).1 ≤ 1000000000 := by
 have h1 : (scanS s).1.length ≤ s.length := scanF_len _ _ _
 have h2 := defP_weigh (p := ⟨(scanS s).1, 0⟩) (scanF_good _ _ _)
 have h3 : (PS.mk (scanS s).1 0).l.length = (scanS s).1.length := rfl
 omega
end Go.Eng
namespace Go.Eng
open Go.Proofs
attribute [local simp] runL stepL evalG evalOp opLV constLV putEnv dstOk upd upds Res.plain Res.cond Res.fail evalBin evalUn seqQ blockQ argsEnv lookL lookH RetIs memless freshL evalPick evalMin bval bok evalLen evalIn strip whenC guardOps guardC slotsOf
 runM foldS stepI stepM maskE wrIn lk renO lookN evalCall evalCallee optAll resLV resObj retLV retObj retsLV retsObj evalLoad evalIndexAddr evalField solid cellsD_agg cellsD_int cellsD_bool cellsD_str cellsD_sl cellsD_ro cellsD_fn cellsL_agg cellsL_dagg cellsL_int cellsL_bool cellsL_str cellsL_sl cellsL_fn cellsL_ow cellsL_bx cellsL_lfn cellsL_nl takeL takeD mkAgg allD eqD eqDs kindsAre kindIs LObj.live TK.isNone TK.agg TK.isBool TK.isStr TK.isStruct Op.operands Call.operands
 evalBuildSlice evalAppend elemsOf evalStore evalBuild fillL lookupF putL evalSlice bound evalConv elemsS freezes frozen loadR
 mkEnv_at mkObs_at close_d close_agg close_ow close_bx close_fn close_nl touch_d touch_agg touch_ow touch_bx touch_fn touch_nl ren_d ren_agg ren_bx ren_rp ren_ow ren_fn ren_nl ren_junk retQ_ret retQ2_ret condQ_bool Nm.d Df.d Ed.d nmsD dfsD strsD edsD retC_ret nm_eq df_eq take_map_len take_map_app
 nm_t nm_d nm_td df_t df_d df_td str_t str_d str_td ed_t ed_d ed_td
 evalAppendIn evalBuildSliceC evalCopyC shortL evalApart evalAppendC evalAppendZ evalAppendG evalCapC isOc TK.isInt close_oc touch_oc ren_oc cellsL_oc evalCut evalClear evalCopy evalMake evalWrap evalCap evalNil isNilC lenL isInp gorc gorc2
 mapOf findD keyEq keyOk evalMakeMap evalRange zeroD zeroDV argsG shutG outN lenv retG0_ret retG0_normal retG1_ret retGR_ret renO close_mp touch_mp ren_mp optAll_d optAll_d' touch_ds cellsL_mp cellsD_mp cellsL_dmp
 evalMapSet evalPtr TK.isPtr evalToArr firstL retN_ret retsQ rvarL close_bm touch_bm ren_bm cellsD_bm cellsL_bm cellsL_lbm
attribute [local simp] cutQ_normal cutQ_ret cutQ_exit
section
attribute [local simp] Res.cond Nd.d_eq nd_t nd_dr nd_td ndsD evalIndex retGC_ret upds_same prH
theorem parseR_left {s : Str} {R : Nd × PS} (hR : defP true ⟨(scanS s).1, 0⟩ = R) (hl : s.length ≤ 1024) {x : Tk} {r : List Tk} (h : R.2.l = x :: r) : parseR s = (zeroNd, x.at_, if R.2.e ≠ 0 then R.2.e else 2) := by
 unfold parseR; rw [if_neg (by omega)]; simp only []; rw [hR, h]
theorem parseR_short {s : Str} {R : Nd × PS} (hR : defP true ⟨(scanS s).1, 0⟩ = R) (hl : s.length ≤ 1024) (h : R.2.l = []) (h2 : ¬ R.2.e = 0 ∨ (scanS s).2 < s.length) : parseR s = (zeroNd, (scanS s).2, 2) := by
 unfold parseR; rw [if_neg (by omega)]; simp only []; rw [hR, h]; simp only []; rw [if_pos h2]
theorem parseR_big {s : Str} {R : Nd × PS} (hR : defP true ⟨(scanS s).1, 0⟩ = R) (hl : s.length ≤ 1024) (h : R.2.l = []) (h2 : ¬ (¬ R.2.e = 0 ∨ (scanS s).2 < s.length)) (h3 : 24 < depthN R.1 ∨ 1024 < (textT R.1).length) : parseR s = (zeroNd, 0, 4) := by
 unfold parseR; rw [if_neg (by omega)]; simp only []; rw [hR, h]; simp only []; rw [if_neg h2, if_pos h3]
theorem parseR_end {s : Str} {R : Nd × PS} (hR : defP true ⟨(scanS s).1, 0⟩ = R) (hl : s.length ≤ 1024) (h : R.2.l = []) (h2 : ¬ (¬ R.2.e = 0 ∨ (scanS s).2 < s.length)) (h3 : ¬ (24 < depthN R.1 ∨ 1024 < (textT R.1).length)) : parseR s = (R.1, 0, 0) := by
 unfold parseR; rw [if_neg (by omega)]; simp only []; rw [hR, h]; simp only []; rw [if_neg h2, if_neg h3]
theorem ctx_of {s : Str} (hl : s.length ≤ 1024) : Ctx s (scanS s).1 :=
 ⟨hl, Nat.le_trans (scanF_len _ _ _) hl, fun _ h => scanS_in h, scanF_good _ _ _⟩
theorem left_nil {T : List Tk} {q : PS} (f : Fit T q) (h : ¬ (T.length : Int) - q.l.length < T.length) : q.l = [] := List.eq_nil_of_length_eq_zero (by omega)
set_option maxRecDepth 10000 in
theorem RParse_step (s : Str) (T : List Tk) (hT1 : (scanS s).1 = T) (R : Nd × PS) (hR : defP true ⟨T, 0⟩ = R) : Ok Tryz.prog 26 [.str s] ⟨.tup [.d (parseR s).1.d, .d (I64 (parseR s).2.1), .d (I64 (parseR s).2.2)], false⟩ := by
 refine Ok.many hT Tryz.func26 (by kernel_rfl) (c := _) rfl Tryz.ntmps26 (by simp) Tryz.results26 (by simp) (by rfl) fun w0 X hp => ?_
 refine LWp.sz hT hW ?_
 simp
 refine LWp.seq ?_
 refine LWp.sz hT hW ?_
 simp
 refine LWp.iff ?_
 simp
 refine ⟨fun h1 => ?_, fun h1 => ?_⟩
 ·refine LWp.sz hT hW ?_
  simp
  refine LWp.ret ?_
  have e : parseR s = (zeroNd, 1024, 4) := by unfold parseR; rw [if_pos (by omega)]
  simp [e, zeroNd]
 ·refine LWp.skip ?_
  simp
  refine LWp.seq ?_
  have hs := RScan_ok s (by omega)
  rw [hT1] at hs
  have hls : s.length ≤ 1024 := by omega
  have cx := ctx_of hls
  rw [hT1] at cx
  have fx : Fit T ⟨T, 0⟩ := ⟨List.suffix_refl _, .inl rfl⟩
  have fR := fx.def cx
  rw [hR] at fR
  have hle := fR.le
  have htt := cx.ht
  have hR' : defP true ⟨(scanS s).1, 0⟩ = R := by rw [hT1]; exact hR
  refine LWp.ro hT hW (fun | 15 => some <| .plain ⟨.tup [.d (.sl (T.map Tk.r)), .d (I64 (scanS s).2)], true⟩ | _ => none) ?_
  simp [evalExtract]
  refine ⟨hs, ?_⟩
  refine LWp.sz hT hW ?_
  simp
  refine LWp.seq ?_
  have hd := RDef_ok s T cx ⟨T, 0⟩ fx
  rw [hR] at hd
  refine LWp.ro hT hW (fun | 23 => some (.gen ⟨[(21, 0)], [], [], prH s T R.2, .d R.1.d⟩) | _ => none) ?_
  simp
  refine ⟨by simpa using hd, ?_⟩
  refine LWp.seq ?_
  refine LWp.seq ?_
  refine LWp.regAny hT hW hMixed (lk [[],[0],[0,1],[0,1,2],[0,1,2,3],[0,1,2,3,4],[0,1,2,3,4,5],[0,1,2,3,4,5,6],[0,1,2,3,4,5,6,7],[0,1,2,3,4],[0,1,2,3,4,9],[0,1,2,3,4,9,10],[0,1,2,3,4,9,10,11],[0,1,2,3,4,9,10,11,12],[0,1,2,3,4,5,6,7,8,9,10,11,12,13],[0,1,2,3,4,5,6,7,8,9,10,11,12,13,14]]) (lk [[],[],[],[],[],[],[],[],[],[],[],[],[],[],[],[]]) (lk [[],[],[],[],[],[],[],[],[],[],[],[],[],[],[],[]]) (by kernel_rfl) (fun _ => none) (fun _ => ⟨rfl, fun _ h => h⟩) ?_
  simp
  refine LWp.iff ?_
  simp
  refine ⟨fun g1 g2 => ?_, fun g => ?_⟩
  ·obtain ⟨x, r, hxr⟩ := List.exists_cons_of_ne_nil (l := R.2.l) (fun e => by rw [e] at g2; simp at g2)
   obtain ⟨n, hn, hnl, hn2, hm⟩ := fR.at hxr
   have e := parseR_left hR' hls hxr
   refine LWp.seq ?_
   refine LWp.sz hT hW ?_
   simp
   refine LWp.iff ?_
   simp
   refine ⟨fun h7 => ?_, fun h7 => ?_⟩
   ·refine LWp.seq ?_
    refine LWp.weak (Weak.shrink [0, 2, 7, 8] [(2, 2), (8, 8), (21, 21)] (by decide) (by decide) (by simp [hp])) ?_
    simp
    refine LWp.regAny hT hW hMixed (lk [[],[],[1],[1,2],[1,2,3],[],[5],[5,6],[5,6,7],[1,2,3,4,5,6,7,8],[1,2,3,4,5,6,7,8,9],[1,2,3,4,5,6,7,8,9,10],[0],[0,1,2,3,4,5,6,7,8,9,10,11,12],[0,1,2,3,4,5,6,7,8,9,10,11,12,13]]) (lk [[],[2],[2],[2],[2],[2],[2],[2],[2],[2],[2],[2],[],[],[]]) (lk [[],[],[],[],[],[],[],[],[],[],[],[],[2],[],[]]) (by kernel_rfl) (fun _ => none) (fun _ => ⟨rfl, fun _ h => h⟩) ?_
    simp [hn, hn2, Tk.r]
    refine ⟨hnl, ?_⟩
    refine LWp.ret ?_
    simp [e, zeroNd, g1, h7]
   ·refine LWp.skip ?_
    simp
    refine LWp.seq ?_
    refine LWp.weak (Weak.shrink [0, 2, 7, 8] [(2, 2), (8, 8), (21, 21)] (by decide) (by decide) (by simp [hp])) ?_
    simp
    refine LWp.regAny hT hW hMixed (lk [[],[],[1],[1,2],[1,2,3],[],[5],[5,6],[5,6,7],[1,2,3,4,5,6,7,8],[1,2,3,4,5,6,7,8,9],[1,2,3,4,5,6,7,8,9,10],[0],[0,1,2,3,4,5,6,7,8,9,10,11,12],[0,1,2,3,4,5,6,7,8,9,10,11,12,13]]) (lk [[],[2],[2],[2],[2],[2],[2],[2],[2],[2],[2],[2],[],[],[]]) (lk [[],[],[],[],[],[],[],[],[],[],[],[],[2],[],[]]) (by kernel_rfl) (fun _ => none) (fun _ => ⟨rfl, fun _ h => h⟩) ?_
    simp [hn, hn2, Tk.r]
    refine ⟨hnl, ?_⟩
    refine LWp.ret ?_
    have e5 : R.2.e = 2 := by rcases fR.err with z | z | z; exact absurd z g1; exact z; exact absurd z h7
    simp [e, zeroNd, e5]
  ·refine LWp.skip ?_
   simp
   refine LWp.seq ?_
   refine LWp.seq ?_
   refine LWp.regAny hT hW hMixed (lk [[],[0],[0,1],[0,1,2],[0,1,2,3],[0,1,2,3,4],[0,1,2,3,4,5],[0,1,2,3,4,5,6],[0,1,2,3,4,5,6,7],[0,1,2,3,4,5,6,7,8],[0,1,2,3,4,5],[0,1,2,3,4,5,10],[0,1,2,3,4,5,10,11],[0,1,2,3,4,5,10,11,12],[0,1,2,3,4,5,10,11,12,13],[0,1,2,3,4,5,6,7,8,9,10,11,12,13,14],[0,1,2,3,4,5,6,7,8,9,10,11,12,13,14,15]]) (lk [[],[],[],[],[],[],[],[],[],[],[],[],[],[],[],[],[]]) (lk [[],[],[],[],[],[],[],[],[],[],[],[],[],[],[],[],[]]) (by kernel_rfl) (fun _ => none) (fun _ => ⟨rfl, fun _ h => h⟩) ?_
   simp
   refine LWp.iff ?_
   simp
   refine ⟨fun k1 k2 => ?_, fun k => ?_⟩
   ·obtain ⟨x, r, hxr⟩ := List.exists_cons_of_ne_nil (l := R.2.l) (fun e => by rw [e] at k2; simp at k2)
    obtain ⟨n, hn, hnl, hn2, hm⟩ := fR.at hxr
    have e := parseR_left hR' hls hxr
    refine LWp.seq ?_
    refine LWp.weak (Weak.shrink [0, 2, 7, 8] [(2, 2), (8, 8), (21, 21)] (by decide) (by decide) (by simp [hp])) ?_
    simp
    refine LWp.regAny hT hW hMixed (lk [[],[],[1],[1,2],[1,2,3],[],[5],[5,6],[5,6,7],[1,2,3,4,5,6,7,8],[1,2,3,4,5,6,7,8,9],[1,2,3,4,5,6,7,8,9,10],[0],[0,1,2,3,4,5,6,7,8,9,10,11,12],[0,1,2,3,4,5,6,7,8,9,10,11,12,13]]) (lk [[],[2],[2],[2],[2],[2],[2],[2],[2],[2],[2],[2],[],[],[]]) (lk [[],[],[],[],[],[],[],[],[],[],[],[],[2],[],[]]) (by kernel_rfl) (fun _ => none) (fun _ => ⟨rfl, fun _ h => h⟩) ?_
    simp [hn, hn2, Tk.r]
    refine ⟨hnl, ?_⟩
    refine LWp.ret ?_
    simp [e, zeroNd, k1]
   ·have hnil : R.2.l = [] := left_nil fR (by
     by_cases z : R.2.e = 0
     ·have := k z; omega
     ·have := g z; omega)
    refine LWp.skip ?_
    simp
    refine LWp.seq ?_
    refine LWp.sz hT hW ?_
    simp
    refine LWp.iff ?_
    simp
    refine ⟨fun k3 => ?_, fun k4 k5 => ?_⟩
    ·refine LWp.sz hT hW ?_
     simp
     refine LWp.ret ?_
     have e := parseR_short hR' hls hnil (by rcases k3 with z | z; exact .inl z; exact .inr (by omega))
     simp [e, zeroNd]
    ·refine LWp.skip ?_
     simp
     refine LWp.seq ?_
     refine LWp.seq ?_
     have hrl := defP_rl ⟨(scanS s).1, 0⟩
     have heq := hrl.2 (by rw [hrl.1, hR']; exact k4)
     rw [hR'] at heq
     have hwe := parse_weigh hls
     rw [heq] at hwe
     obtain ⟨r1, r2, r3⟩ := defP_right (p := ⟨(scanS s).1, 0⟩) (scanF_good _ _ _) (by rw [hrl.1, hR']; exact k4)
     rw [heq] at r1 r2 r3
     have hdf := right_def r1 r2 r3
     have hde := RDepth_ok R.1 hwe
     have hte := RText_ok R.1 hdf hwe
     refine LWp.ro hT hW (fun | 110 => some <| .plain ⟨.d (I64 (depthN R.1)), true⟩ | 114 => some <| .plain ⟨.d (.str (textT R.1)), true⟩ | _ => none) ?_
     simp
     refine ⟨⟨by simpa using hde, fun _ => by simpa using hte⟩, ?_⟩
     refine LWp.iff ?_
     simp
     refine ⟨fun k6 => ?_, fun k7 k8 => ?_⟩
     ·refine LWp.sz hT hW ?_
      simp
      refine LWp.ret ?_
      have e := parseR_big hR' hls hnil (fun z => z.elim (fun y => y k4) (fun y => by omega)) (by omega)
      simp [e, zeroNd]
     ·refine LWp.skip ?_
      simp
      refine LWp.sz hT hW ?_
      simp
      refine LWp.ret ?_
      have e := parseR_end hR' hls hnil (fun z => z.elim (fun y => y k4) (fun y => by omega)) (by omega)
      simp [e]
theorem RParse_ok (s : Str) : Ok Tryz.prog 26 [.str s] ⟨.tup [.d (parseS s).1.d, .d (I64 (parseS s).2.1), .d (I64 (parseS s).2.2)], false⟩ := by
 rw [← parse_eq]
 exact RParse_step s _ rfl _ rfl
end
open Go.Proofs
section
attribute [local simp] Res.cond Nd.d_eq nd_t nd_dr nd_td ndsD evalIndex retGC_ret upds_same constL1 one_i one_s one_l all4 Int.add_assoc
def mkH (L : List Int) (i : Nat) : List (Nat × LObj) := [(0, .box false [.d (.sl (L.map I64)), .d (I64 i)])]
def MkL (L : List Int) : Prop := ∀ n ∈ L, -9223372036854775808 ≤ n ∧ n ≤ 9223372036854775807
attribute [local simp] mkH
theorem atL_range (l : List Int) (i m : Int) (h : 0 < m) : 0 ≤ atL l i m ∧ atL l i m < m := by
 unfold atL
 split
 ·omega
 ·exact around_lt _ _ h
theorem MTake_ok (L : List Int) (i : Nat) (m : Int) (hL : MkL L) (hi : i ≤ 3000000) (hm : m ≠ 0) : OkG Tryz.prog 35 [.bx 0 0, .d (I64 m)] (mkH L i) (mkH L (i + 1)) (.d (I64 (atL L i m))) := by
 unfold mkH
 refine OkG.one Tryz.func35 (by kernel_rfl) (c := _) rfl Tryz.ntmps35 (by simp) Tryz.results35 fun w0 X hp => ?_
 refine LWp.sz hT hW ?_
 simp
 refine LWp.sz hT hW ?_
 simp
 refine ⟨by omega, ?_⟩
 refine LWp.seq ?_
 have ha := At_ok L i m hL hm
 have e1 : (i : Int) + 1 - 1 = i := by omega
 refine LWp.regAny hT hW hMixed (lk [[],[0],[0,1],[0,1,2],[],[4],[4,5],[4,5,6],[4,5,6,7],[],[0,1,2,3,4,5,6,7,8,9],[0,1,2,3,4,5,6,7,8,9,10]]) (lk [[],[],[],[],[],[],[],[],[],[],[],[]]) (lk [[],[],[],[],[],[],[],[],[],[],[22],[]]) (by kernel_rfl) (fun | 22 => some <| .plain ⟨.d (I64 (atL L i m)), true⟩ | _ => none) (by intro d; first | exact ⟨rfl, fun _ h => h⟩ | (split <;> exact ⟨rfl, fun _ h => h⟩)) ?_
 simp [e1]
 refine ⟨⟨by omega, ha⟩, ?_⟩
 refine LWp.ret ?_
 simp
 exact Weak.to [4] [(0, 0)] (by decide) (by decide) (by simp [hp]) (by simp) (by simp)
theorem call_at {L : List Int} {i : Nat} : (callL.map DV.str)[(atL L i 8).toNat]?.getD default = .str (callM L i) := by
 have h := atL_range L i 8 (by decide)
 have hk : (atL L i 8).toNat < callL.length := by show _ < 8; omega
 unfold callM
 rw [List.getElem?_map, List.getElem?_eq_getElem hk]
 simp [List.getD_eq_getElem?_getD, hk]
theorem own_at {L : List Int} {i : Nat} : (ownL.map DV.str)[(atL L i 4).toNat]?.getD default = .str (ownM L i) := by
 have h := atL_range L i 4 (by decide)
 have hk : (atL L i 4).toNat < ownL.length := by show _ < 4; omega
 unfold ownM
 rw [List.getElem?_map, List.getElem?_eq_getElem hk]
 simp [List.getD_eq_getElem?_getD, hk]
theorem num_at {L : List Int} {i : Nat} : (numsM.map I64)[(atL L i 6).toNat]?.getD default = I64 (numsM.getD (atL L i 6).toNat 0) := by
 have h := atL_range L i 6 (by decide)
 have hk : (atL L i 6).toNat < numsM.length := by show _ < 6; omega
 rw [List.getElem?_map, List.getElem?_eq_getElem hk]
 simp [List.getD_eq_getElem?_getD, hk]
theorem MCalled_ok (L : List Int) (i : Nat) (hL : MkL L) (hi : i ≤ 3000000) : OkG Tryz.prog 36 [.bx 0 0] (mkH L i) (mkH L (i + 1)) (.d (.str (callM L i))) := by
 unfold mkH
 refine OkG.one Tryz.func36 (by kernel_rfl) (c := _) rfl Tryz.ntmps36 (by simp) Tryz.results36 fun w0 X hp => ?_
 refine LWp.sz hT hW ?_
 simp
 refine LWp.seq ?_
 have ha := MTake_ok L i 8 hL hi (by decide)
 have hr := atL_range L i 8 (by decide)
 have hc := call_at (L := L) (i := i)
 simp [callL] at hc
 refine LWp.ro hT hW (fun | 5 => some (.gen ⟨[(0, 0)], [], [], mkH L (i + 1), .d (I64 (atL L i 8))⟩) | _ => none) ?_
 simp [hc]
 refine ⟨⟨⟨⟨by decide, by simpa using ha⟩, by omega⟩, by omega⟩, ?_⟩
 refine LWp.ret ?_
 simp
 exact Weak.to [2] [(0, 0)] (by decide) (by decide) (by simp [hp]) (by simp) (by simp)
theorem MOwn_ok (L : List Int) (i : Nat) (hL : MkL L) (hi : i ≤ 3000000) : OkG Tryz.prog 58 [.bx 0 0] (mkH L i) (mkH L (i + 1)) (.d (.str (ownM L i))) := by
 unfold mkH
 refine OkG.one Tryz.func58 (by kernel_rfl) (c := _) rfl Tryz.ntmps58 (by simp) Tryz.results58 fun w0 X hp => ?_
 refine LWp.sz hT hW ?_
 simp
 refine LWp.seq ?_
 have ha := MTake_ok L i 4 hL hi (by decide)
 have hr := atL_range L i 4 (by decide)
 have hc := own_at (L := L) (i := i)
 simp [ownL] at hc
 refine LWp.ro hT hW (fun | 5 => some (.gen ⟨[(0, 0)], [], [], mkH L (i + 1), .d (I64 (atL L i 4))⟩) | _ => none) ?_
 simp [hc]
 refine ⟨⟨⟨⟨by decide, by simpa using ha⟩, by omega⟩, by omega⟩, ?_⟩
 refine LWp.ret ?_
 simp
 exact Weak.to [2] [(0, 0)] (by decide) (by decide) (by simp [hp]) (by simp) (by simp)
theorem callM_len (L : List Int) (i : Nat) : (callM L i).length ≤ 16 := by
 have h := atL_range L i 8 (by decide)
 unfold callM
 have : ∀ k : Nat, (callL.getD k []).length ≤ 16 := fun k => by
  rw [List.getD_eq_getElem?_getD]
  cases e : callL[k]? with
  | none => simp
  | some w =>
   have := List.mem_of_getElem? e
   exact (by decide : ∀ w ∈ callL, w.length ≤ 16) w this
 exact this _
theorem MAt_ok (L : List Int) (i : Nat) (hL : MkL L) (hi : i ≤ 2000000) : OkG Tryz.prog 59 [.bx 0 0] (mkH L i) (mkH L (placeM L i).2) (.d (placeM L i).1.d) := by
 unfold mkH
 refine OkG.cell hT Tryz.func59 (by kernel_rfl) (c := _) rfl Tryz.ntmps59 (by simp) Tryz.results59 fun w0 X hp => ?_
 refine LWp.sz hT hW ?_
 simp
 refine LWp.seq ?_
 refine LWp.seq ?_
 have ha := MTake_ok L i 3 hL (by omega) (by decide)
 refine LWp.ro hT hW (fun | 5 => some (.gen ⟨[(0, 0)], [], [], mkH L (i + 1), .d (I64 (atL L i 3))⟩) | _ => none) ?_
 simp
 refine ⟨by simpa using ha, ?_⟩
 refine LWp.iff ?_
 simp
 refine ⟨fun h1 => ?_, fun h1 => ?_⟩
 ·refine LWp.seq ?_
  have hc := MCalled_ok L (i + 1) hL (by omega)
  refine LWp.ro hT hW (fun | 8 => some (.gen ⟨[(0, 0)], [], [], mkH L (i + 1 + 1), .d (.str (callM L (i + 1)))⟩) | _ => none) ?_
  simp
  refine ⟨by simpa using hc, ?_⟩
  refine LWp.ret ?_
  simp
  have e : placeM L i = (.mk 34 (callM L (i + 1)) 0 [], i + 2) := by unfold placeM; rw [if_pos h1]
  refine Weak.closed (x := (placeM L i).1.d) (by simp [e]) ?_
  simp
  exact Weak.to [0] [(0, 0)] (by decide) (by decide) (by simp [hp]) (by simp) (by simp [e])
 ·refine LWp.skip ?_
  simp
  refine LWp.seq ?_
  have hc := MCalled_ok L (i + 1) hL (by omega)
  refine LWp.ro hT hW (fun | 11 => some (.gen ⟨[(0, 0)], [], [], mkH L (i + 1 + 1), .d (.str (callM L (i + 1)))⟩) | _ => none) ?_
  simp
  refine ⟨by simpa using hc, ?_⟩
  refine LWp.seq ?_
  have hc2 := MCalled_ok L (i + 2) hL (by omega)
  have l1 := callM_len L (i + 1)
  have l2 := callM_len L (i + 2)
  refine LWp.ro hT hW (fun | 15 => some (.gen ⟨[(0, 0)], [], [], mkH L (i + 2 + 1), .d (.str (callM L (i + 2)))⟩) | _ => none) ?_
  simp
  refine ⟨⟨⟨by omega, by simpa using hc2⟩, by omega⟩, ?_⟩
  refine LWp.ret ?_
  simp
  have e : placeM L i = (.mk 35 (callM L (i + 1) ++ 46 :: callM L (i + 2)) 0 [], i + 3) := by unfold placeM; rw [if_neg (by omega)]
  refine Weak.closed (x := (placeM L i).1.d) (by simp [e]) ?_
  simp
  exact Weak.to [0] [(0, 0)] (by decide) (by decide) (by simp [hp]) (by simp) (by simp [e])
end
open Go.Proofs
section
attribute [local simp] Res.cond Nd.d_eq nd_t nd_dr nd_td ndsD evalIndex retGC_ret constL1 Int.add_assoc upds_same one_i one_s one_l all4 mkH
def valK (L : List Int) (d i : Nat) : Int := if d = 0 ∨ L.length < i + 1 then (atL L i 12).tmod 6 else atL L i 12
theorem valK_range (L : List Int) (d i : Nat) : 0 ≤ valK L d i ∧ valK L d i < 12 ∧ (d = 0 → valK L d i < 6) := by
 have h := atL_range L i 12 (by decide)
 unfold valK
 split
 ·have : (atL L i 12).tmod 6 = atL L i 12 % 6 := Int.tmod_eq_emod_of_nonneg h.1
  rw [this]
  omega
 ·omega
theorem value_num {L : List Int} {d i : Nat} (h : valK L d i = 0 ∨ valK L d i = 1) : valueM L d i = (.mk 32 [] (numsM.getD (atL L (i + 1) 6).toNat 0) [], i + 2) := by
 unfold valK at h
 unfold valueM
 simp only []
 rw [if_pos h]
theorem value_loc {L : List Int} {d i : Nat} (h : valK L d i = 2) : valueM L d i = (.mk 33 (ownM L (i + 1)) 0 [], i + 2) := by
 have h0 : ¬ (valK L d i = 0 ∨ valK L d i = 1) := by omega
 unfold valK at h h0
 unfold valueM
 simp only []
 rw [if_neg h0, if_pos h]
theorem value_place {L : List Int} {d i : Nat} (h : valK L d i = 3 ∨ valK L d i = 4) : valueM L d i = placeM L (i + 1) := by
 have h0 : ¬ (valK L d i = 0 ∨ valK L d i = 1) := by omega
 have h1 : ¬ (valK L d i = 2) := by omega
 unfold valK at h h0 h1
 unfold valueM
 simp only []
 rw [if_neg h0, if_neg h1, if_pos h]
theorem value_kind {L : List Int} {d i : Nat} (h : valK L d i = 5) : valueM L d i = (.mk 36 [] 0 [], i + 1) := by
 have h0 : ¬ (valK L d i = 0 ∨ valK L d i = 1) := by omega
 have h1 : ¬ (valK L d i = 2) := by omega
 have h2 : ¬ (valK L d i = 3 ∨ valK L d i = 4) := by omega
 unfold valK at h h0 h1 h2
 unfold valueM
 simp only []
 rw [if_neg h0, if_neg h1, if_neg h2, if_pos h]
theorem value_bin {L : List Int} {e i : Nat} (h : 6 ≤ valK L (e + 1) i) : valueM L (e + 1) i = (.mk (26 + valK L (e + 1) i - 6) [] 0 [(valueM L e (i + 1)).1, (valueM L e (valueM L e (i + 1)).2).1], (valueM L e (valueM L e (i + 1)).2).2) := by
 have h0 : ¬ (valK L (e + 1) i = 0 ∨ valK L (e + 1) i = 1) := by omega
 have h1 : ¬ (valK L (e + 1) i = 2) := by omega
 have h2 : ¬ (valK L (e + 1) i = 3 ∨ valK L (e + 1) i = 4) := by omega
 have h3 : ¬ (valK L (e + 1) i = 5) := by omega
 rw [valueM]
 have hv : (if e + 1 = 0 ∨ L.length < i + 1 then (atL L i 12).tmod 6 else atL L i 12) = valK L (e + 1) i := rfl
 rw [hv, if_neg h0, if_neg h1, if_neg h2, if_neg h3]
theorem place_to (L : List Int) (i : Nat) : (placeM L i).2 ≤ i + 3 := by unfold placeM; split <;> simp
theorem value_to (L : List Int) : ∀ (d i : Nat), (valueM L d i).2 + 1 ≤ i + 5 * 2 ^ d := fun d => by
 induction d with
 | zero =>
  intro i
  obtain ⟨r0, _, r2⟩ := valK_range L 0 i
  have r2 := r2 rfl
  by_cases h0 : valK L 0 i = 0 ∨ valK L 0 i = 1
  ·rw [value_num h0]; simp
  ·by_cases h1 : valK L 0 i = 2
   ·rw [value_loc h1]; simp
   ·by_cases h2 : valK L 0 i = 3 ∨ valK L 0 i = 4
    ·rw [value_place h2]; have := place_to L (i + 1); omega
    ·rw [value_kind (by omega)]; simp
 | succ e ih =>
  intro i
  have hp : 1 ≤ 2 ^ e := Nat.one_le_two_pow
  have h2 : 2 ^ (e + 1) = 2 * 2 ^ e := by rw [Nat.pow_succ, Nat.mul_comm]
  obtain ⟨r0, _, _⟩ := valK_range L (e + 1) i
  by_cases h0 : valK L (e + 1) i = 0 ∨ valK L (e + 1) i = 1
  ·rw [value_num h0]; simp only; omega
  ·by_cases h1 : valK L (e + 1) i = 2
   ·rw [value_loc h1]; simp only; omega
   ·by_cases h3 : valK L (e + 1) i = 3 ∨ valK L (e + 1) i = 4
    ·rw [value_place h3]; have := place_to L (i + 1); omega
    ·by_cases h4 : valK L (e + 1) i = 5
     ·rw [value_kind h4]; simp only; omega
     ·rw [value_bin (by omega)]
      have a := ih (i + 1)
      have b := ih (valueM L e (i + 1)).2
      simp only
      omega
theorem MValue_step (L : List Int) (d i : Nat) (hL : MkL L) (hll : L.length ≤ 1000000) (hi : i + 5 * 2 ^ d ≤ 2000000) (ih : ∀ e, d = e + 1 → ∀ j, j + 5 * 2 ^ e ≤ 2000000 → OkG Tryz.prog 56 [.bx 0 0, .d (I64 (e : Nat))] (mkH L j) (mkH L (valueM L e j).2) (.d (valueM L e j).1.d)) : OkG Tryz.prog 56 [.bx 0 0, .d (I64 (d : Nat))] (mkH L i) (mkH L (valueM L d i).2) (.d (valueM L d i).1.d) := by
 have h2d : 1 ≤ 2 ^ d := Nat.one_le_two_pow
 unfold mkH
 refine OkG.cell hT Tryz.func56 (by kernel_rfl) (c := _) rfl Tryz.ntmps56 (by simp) Tryz.results56 fun w0 X hp => ?_
 refine LWp.sz hT hW ?_
 simp
 refine LWp.seq ?_
 have ha := MTake_ok L i 12 hL (by omega) (by decide)
 refine LWp.ro hT hW (fun | 8 => some (.gen ⟨[(0, 0)], [], [], mkH L (i + 1), .d (I64 (atL L i 12))⟩) | _ => none) ?_
 simp
 refine ⟨by simpa using ha, ?_⟩
 refine LWp.seqCut (ι := KC) (fun ⟨k⟩ => mkEnv [(0, .bx 0 0), (1, .d (I64 (d : Nat))), (4, .bx 4 0), (5, .d (I64 k))]) (fun ⟨k⟩ => mkObs [(0, .box false [.d (.sl (L.map I64)), .d (I64 ((i + 1 : Nat) : Int))]), (4, .box false [.d (I64 0), .d (.str []), .d (I64 0), .nl])]) (fun ⟨k⟩ => valK L d i = k) ?_ fun ⟨k⟩ hc4 => ?_
 ·refine LWp.seq ?_
  refine LWp.regAny hT hW hMixed (lk [[],[0],[0,1],[0,1,2],[0,1,2,3],[0,1,2,3,4],[0,1,2,3,4,5],[0,1,2],[0,1,2,7],[0,1,2,7,8],[0,1,2,7,8,9],[0,1,2,7,8,9,10],[0,1,2,3,4,5,6,7,8,9,10,11],[0,1,2,3,4,5,6,7,8,9,10,11,12]]) (lk [[],[],[],[],[],[],[],[],[],[],[],[],[],[]]) (lk [[],[],[],[],[],[],[],[],[],[],[],[],[],[]]) (by kernel_rfl) (fun _ => none) (fun _ => ⟨rfl, fun _ h => h⟩) ?_
  simp
  refine LWp.iff ?_
  simp
  refine ⟨fun h2 => ?_, fun h2 h2b => ?_⟩
  ·refine LWp.rz hT hW ?_
   simp
   refine cutQ.mk ⟨(atL L i 12).tmod 6⟩ (Weak.to [0, 1, 4, 5] [(0, 0), (4, 4)] (by decide) (by decide) (by simp [hp]) (by simp) (by simp)) ?_
   unfold valK; rw [if_pos (by omega)]
  ·refine LWp.skip ?_
   simp
   refine cutQ.mk ⟨atL L i 12⟩ (Weak.to [0, 1, 4, 5] [(0, 0), (4, 4)] (by decide) (by decide) (by simp [hp]) (by simp) (by simp)) ?_
   unfold valK; rw [if_neg (by omega)]
 ·refine LWp.seq ?_
  refine LWp.sz hT hW ?_
  simp
  refine LWp.block ?_
  refine LWp.seqCut (ι := BC) (fun ⟨b⟩ => mkEnv [(0, .bx 0 0), (1, .d (I64 (d : Nat))), (4, .bx 4 0), (5, .d (I64 k)), (25, .d (I64 (k))), (26, .d (.bool b))]) (fun ⟨b⟩ => mkObs [(0, .box false [.d (.sl (L.map I64)), .d (I64 ((i + 1 : Nat) : Int))]), (4, .box false [.d (I64 0), .d (.str []), .d (I64 0), .nl])]) (fun ⟨b⟩ => b = true ↔ (k = 0 ∨ k = 1)) ?_ fun ⟨b⟩ hc7 => ?_
  ·refine LWp.sz hT hW ?_
   simp
   refine LWp.iff ?_
   simp
   refine ⟨fun h5 => ?_, fun h5 => ?_⟩
   ·refine LWp.skip ?_
    simp
    refine cutQ.mk ⟨decide (k = 0)⟩ (Weak.to [0, 1, 4, 5, 25, 26] [(0, 0), (4, 4)] (by decide) (by decide) (by simp [hp]) (by simp) (by simp)) ?_
    simp [h5]
   ·refine LWp.rz hT hW ?_
    simp
    refine cutQ.mk ⟨decide (k = 1)⟩ (Weak.to [0, 1, 4, 5, 25, 26] [(0, 0), (4, 4)] (by decide) (by decide) (by simp [hp]) (by simp) (by simp)) ?_
    simp only [decide_eq_true_eq]; omega
  ·refine LWp.iff ?_
   simp
   refine ⟨fun h7 => ?_, fun h7 => ?_⟩
   ·have q7 := hc7.1 h7
    refine LWp.seq ?_
    have ha := MTake_ok L (i + 1) 6 hL (by omega) (by decide)
    have hr := atL_range L ((i : Int) + 1) 6 (by decide)
    have hc := num_at (L := L) (i := i + 1)
    simp [numsM] at hc
    refine LWp.ro hT hW (fun | 31 => some (.gen ⟨[(0, 0)], [], [], mkH L (i + 1 + 1), .d (I64 (atL L ((i : Int) + 1) 6))⟩) | _ => none) ?_
    simp [hc]
    refine ⟨⟨⟨⟨by decide, by simpa using ha⟩, by omega⟩, by omega⟩, ?_⟩
    refine LWp.ret ?_
    simp
    have e := value_num (L := L) (d := d) (i := i) (by simp only at hc4; omega)
    refine Weak.closed (x := (valueM L d i).1.d) (by simp [e, numsM]) ?_
    simp
    exact Weak.to [0] [(0, 0)] (by decide) (by decide) (by simp [hp]) (by simp) (by simp [e])
   ·have q7 : ¬ (k = 0 ∨ k = 1) := fun q => by simp [hc7.2 q] at h7
    refine LWp.sz hT hW ?_
    simp
    refine LWp.iff ?_
    simp
    refine ⟨fun h8 => ?_, fun h8 => ?_⟩
    ·refine LWp.seq ?_
     have hc := MOwn_ok L (i + 1) hL (by omega)
     refine LWp.ro hT hW (fun | 38 => some (.gen ⟨[(0, 0)], [], [], mkH L (i + 1 + 1), .d (.str (ownM L (i + 1)))⟩) | _ => none) ?_
     simp
     refine ⟨by simpa using hc, ?_⟩
     refine LWp.ret ?_
     simp
     have e := value_loc (L := L) (d := d) (i := i) (by simp only at hc4; omega)
     refine Weak.closed (x := (valueM L d i).1.d) (by simp [e]) ?_
     simp
     exact Weak.to [0] [(0, 0)] (by decide) (by decide) (by simp [hp]) (by simp) (by simp [e])
    ·refine LWp.seqCut (ι := BC) (fun ⟨b⟩ => mkEnv [(0, .bx 0 0), (1, .d (I64 (d : Nat))), (4, .bx 4 0), (5, .d (I64 k)), (25, .d (I64 (k))), (40, .d (.bool b))]) (fun ⟨b⟩ => mkObs [(0, .box false [.d (.sl (L.map I64)), .d (I64 ((i + 1 : Nat) : Int))]), (4, .box false [.d (I64 0), .d (.str []), .d (I64 0), .nl])]) (fun ⟨b⟩ => b = true ↔ (k = 3 ∨ k = 4)) ?_ fun ⟨b⟩ hc12 => ?_
     ·refine LWp.sz hT hW ?_
      simp
      refine LWp.iff ?_
      simp
      refine ⟨fun h10 => ?_, fun h10 => ?_⟩
      ·refine LWp.skip ?_
       simp
       refine cutQ.mk ⟨decide (k = 3)⟩ (Weak.to [0, 1, 4, 5, 25, 40] [(0, 0), (4, 4)] (by decide) (by decide) (by simp [hp]) (by simp) (by simp)) ?_
       simp [h10]
      ·refine LWp.rz hT hW ?_
       simp
       refine cutQ.mk ⟨decide (k = 4)⟩ (Weak.to [0, 1, 4, 5, 25, 40] [(0, 0), (4, 4)] (by decide) (by decide) (by simp [hp]) (by simp) (by simp)) ?_
       simp only [decide_eq_true_eq]; omega
     ·refine LWp.iff ?_
      simp
      refine ⟨fun h12 => ?_, fun h12 => ?_⟩
      ·have q12 := hc12.1 h12
       refine LWp.seq ?_
       have hc := MAt_ok L (i + 1) hL (by omega)
       refine LWp.ro hT hW (fun | 44 => some (.gen ⟨[(0, 0)], [], [], mkH L (placeM L (i + 1)).2, .d (placeM L (i + 1)).1.d⟩) | _ => none) ?_
       simp
       refine ⟨by simpa using hc, ?_⟩
       refine LWp.ret ?_
       simp
       have e := value_place (L := L) (d := d) (i := i) (by simp only at hc4; omega)
       refine Weak.closed (x := (valueM L d i).1.d) (by simp [e]) ?_
       simp
       exact Weak.to [0] [(0, 0)] (by decide) (by decide) (by simp [hp]) (by simp) (by simp [e])
      ·have q12 : ¬ (k = 3 ∨ k = 4) := fun q => by simp [hc12.2 q] at h12
       refine LWp.sz hT hW ?_
       simp
       refine LWp.iff ?_
       simp
       refine ⟨fun h13 => ?_, fun h13 => ?_⟩
       ·refine LWp.sz hT hW ?_
        simp
        refine LWp.ret ?_
        simp
        have e := value_kind (L := L) (d := d) (i := i) (by simp only at hc4; omega)
        refine Weak.closed (x := (valueM L d i).1.d) (by simp [e]) ?_
        simp
        exact Weak.to [0] [(0, 0)] (by decide) (by decide) (by simp [hp]) (by simp) (by simp [e])
       ·refine LWp.skip ?_
        simp
        refine LWp.seq ?_
        have hk6 : 6 ≤ k ∧ k < 12 := by have := valK_range L d i; simp only at hc4; omega
        obtain ⟨e, rfl⟩ : ∃ e, d = e + 1 := ⟨d - 1, by have := valK_range L d i; simp only at hc4; omega⟩
        have hp2 : 2 ^ (e + 1) = 2 * 2 ^ e := by rw [Nat.pow_succ, Nat.mul_comm]
        have hpe : 1 ≤ 2 ^ e := Nat.one_le_two_pow
        have hlt : e < 2 ^ e := Nat.lt_two_pow_self
        have c1 := ih e rfl (i + 1) (by omega)
        have t1 := value_to L e (i + 1)
        have c2 := ih e rfl (valueM L e (i + 1)).2 (by omega)
        have ez : ((e : Int) + 1) - 1 = e := by omega
        refine LWp.ro hT hW (fun | 51 => some (.gen ⟨[(0, 0)], [], [], mkH L (valueM L e (i + 1)).2, .d (valueM L e (i + 1)).1.d⟩) | _ => none) ?_
        simp [ez]
        refine ⟨⟨by omega, by simpa using c1⟩, ?_⟩
        refine LWp.seq ?_
        refine LWp.regAny hT hW hMixed (lk [[],[0],[0,1],[],[],[],[5],[4,5,6],[3,4,5,6,7],[0,1,2,3,4,5,6,7,8],[0,1,2,3,4,5,6,7,8,9]]) (lk [[0,60],[0,60],[0,60],[0],[],[],[],[],[],[],[]]) (lk [[],[],[],[],[],[],[],[0],[60],[],[4]]) (by kernel_rfl) (fun | 59 => some (.gen ⟨[(0, 0)], [], [], mkH L (valueM L e (valueM L e (i + 1)).2).2, .d (valueM L e (valueM L e (i + 1)).2).1.d⟩) | _ => none) (by intro d; first | exact ⟨rfl, fun _ h => h⟩ | (split <;> exact ⟨rfl, fun _ h => h⟩)) ?_
        simp [ez]
        refine ⟨⟨⟨⟨⟨by omega, by omega⟩, by omega⟩, by simpa using c2⟩, by decide⟩, ?_⟩
        refine LWp.ret ?_
        simp
        have ev := value_bin (L := L) (e := e) (i := i) (by simp only at hc4; omega)
        rw [show valK L (e + 1) i = k from hc4] at ev
        refine Weak.closed (x := (valueM L (e + 1) i).1.d) (by simp [ev]) ?_
        simp
        exact Weak.to [0] [(0, 0)] (by decide) (by decide) (by simp [hp]) (by simp) (by simp [ev])
theorem MValue_ok (L : List Int) (hL : MkL L) (hll : L.length ≤ 1000000) : ∀ (d i : Nat), i + 5 * 2 ^ d ≤ 2000000 → OkG Tryz.prog 56 [.bx 0 0, .d (I64 (d : Nat))] (mkH L i) (mkH L (valueM L d i).2) (.d (valueM L d i).1.d) := fun d => by
 induction d with
 | zero => exact fun i hi => MValue_step L 0 i hL hll hi fun e he => by omega
 | succ d ihd =>
  intro i hi
  refine MValue_step L (d + 1) i hL hll hi fun e he j hj => ?_
  have : e = d := by omega
  subst this
  exact ihd j hj
end
open Go.Proofs
section
attribute [local simp] Res.cond Nd.d_eq nd_t nd_dr nd_td ndsD evalIndex retGC_ret constL1 Int.add_assoc upds_same one_i one_s one_l all4 mkH
def Makes (L : List Int) (g : FuncId) (d : Nat) (b : Nat) (x : Nat → Nd × Nat) : Prop := ∀ j, j ≤ b → OkG Tryz.prog g [.bx 0 0, .d (I64 (d : Nat))] (mkH L j) (mkH L (x j).2) (.d (x j).1.d)
structure SmS where
 c : Nat
 ks : List Nd
 j : Nat
theorem somes_end {L : List Int} {st : Nat → Nd × Nat} {m : Nat} {ks : List Nd} {j : Nat} (h : m = 0 ∨ L.length ≤ j) : somesM L st m ks j = (ks, j) := by
 cases m with
 | zero => rfl
 | succ m =>
  unfold somesM
  rw [if_pos (by omega)]
theorem somes_go {L : List Int} {st : Nat → Nd × Nat} {m : Nat} {ks : List Nd} {j : Nat} (h0 : 0 < m) (h : j < L.length) : somesM L st m ks j = somesM L st (m - 1) (ks ++ [(st j).1]) (st j).2 := by
 obtain ⟨k, rfl⟩ : ∃ k, m = k + 1 := ⟨m - 1, by omega⟩
 rw [somesM, if_neg (by omega)]
 rfl
theorem MSome_step (L : List Int) (d i : Nat) (st : Nat → Nd × Nat) (hL : MkL L) (hll : L.length ≤ 1000000) (b : Nat) (hi : i ≤ b) (hb : b ≤ 1800000) (hS : Makes L 37 d (b + 40000) st) (hle : ∀ j, (st j).2 ≤ j + 10000) : OkG Tryz.prog 60 [.bx 0 0, .d (I64 (d : Nat))] (mkH L i) (mkH L (someM L st i).2) (.d (someM L st i).1.d) := by
 unfold mkH
 refine OkG.cell hT Tryz.func60 (by kernel_rfl) (c := _) rfl Tryz.ntmps60 (by simp) Tryz.results60 fun w0 X hp => ?_
 refine LWp.sz hT hW ?_
 simp
 refine LWp.sz hT hW ?_
 simp
 refine LWp.nlCell (fz := false) (cs := [.d (I64 8), .d (.str []), .d (I64 0), .nl]) 5 3 1034 4 (by decide) ⟨by simp, by simp, by simp, ?_⟩
 simp
 refine LWp.seq ?_
 have ha := MTake_ok L i 4 hL (by omega) (by decide)
 have hr := atL_range L i 4 (by decide)
 obtain ⟨n, hn⟩ : ∃ n : Nat, atL L i 4 = (n : Int) := ⟨(atL L i 4).toNat, by omega⟩
 have hsm : someM L st i = (.mk 8 [] 0 (somesM L st n [] (i + 1)).1, (somesM L st n [] (i + 1)).2) := by unfold someM; simp only []; rw [hn]; rfl
 rw [hn] at ha
 refine LWp.ro hT hW (fun | 10 => some (.gen ⟨[(0, 0)], [], [], mkH L (i + 1), .d (I64 (n : Nat))⟩) | _ => none) ?_
 simp
 refine ⟨by simpa using ha, ?_⟩
 refine LWp.seq ?_
 refine LWp.sz hT hW ?_
 simp
 refine LWp.block ?_
 refine LWp.loopW (ι := SmS) (fun ⟨c, ks, j⟩ => mkEnv [(0, .bx 0 0), (1, .d (I64 (d : Nat))), (4, .bx 4 0), (5, .bx 5 0), (6, .d (I64 (n : Nat))), (7, .d (I64 (c : Nat)))]) (fun ⟨c, ks, j⟩ => mkObs [(0, .box false [.d (.sl (L.map I64)), .d (I64 (j : Nat))]), (4, .box false [.d (I64 0), .d (.str []), .d (I64 0), .nl]), (5, .box false [.d (I64 8), .d (.str []), .d (I64 0), .ow 1034 0 ks.length]), (1034, .row false 4 (ks.map Nd.d))]) (fun ⟨c, ks, j⟩ => c ≤ n ∧ j ≤ i + 1 + c * 10000 ∧ ks.length ≤ c ∧ somesM L st n [] (i + 1) = somesM L st (n - c) ks j) (fun ⟨c, ks, j⟩ => n - c) ⟨0, [], i + 1⟩ (Weak.to [0, 1, 4, 5, 6, 7] [(0, 0), (4, 4), (5, 5), (1034, 1034)] (by decide) (by decide) (by simp [hp]) (by simp) (by simp)) (⟨Nat.zero_le _, by omega, Nat.le_refl _, rfl⟩) fun ⟨c, ks, j⟩ hi4 => ?_
 refine LWp.seq ?_
 refine LWp.seq ?_
 refine LWp.regAny hT hW hMixed (lk [[],[],[0,1],[0,1,2],[0,1,2,3],[0,1,2,3,4],[0,1,2,3,4,5],[0,1,2,3,4,5,6],[0,1,2,3],[0,1,2,3,8],[0,1,2,3,8,9],[0,1,2,3,8,9,10],[0,1,2,3,8,9,10,11],[0,1,2,3,4,5,6,7,8,9,10,11,12],[0,1,2,3,4,5,6,7,8,9,10,11,12,13]]) (lk [[],[],[],[],[],[],[],[],[],[],[],[],[],[],[]]) (lk [[],[],[],[],[],[],[],[],[],[],[],[],[],[],[]]) (by kernel_rfl) (fun _ => none) (fun _ => ⟨rfl, fun _ h => h⟩) ?_
 simp
 refine LWp.iff ?_
 simp
 refine ⟨fun g1 g2 => ?_, fun g => ?_⟩
 ·refine LWp.skip ?_
  simp
  refine LWp.seq ?_
  refine LWp.block ?_
  have hs := hS j (by have := hi4.2.1; omega)
  have hkl := hi4.2.2.1
  refine LWp.regAny hT hW hMixed (lk [[],[0],[],[],[2,3],[2,3,4],[0,1,2,3,4,5],[0,1,2,3,4,5,6],[0,1,2,3,4,5,6,7]]) (lk [[0,33],[0,33],[],[],[],[],[],[],[]]) (lk [[],[],[],[],[0],[33],[34,1034],[],[5]]) (by kernel_rfl) (fun | 32 => some (.gen ⟨[(0, 0)], [], [], mkH L (st j).2, .d (st j).1.d⟩) | _ => none) (by intro d; first | exact ⟨rfl, fun _ h => h⟩ | (split <;> exact ⟨rfl, fun _ h => h⟩)) ?_
  simp
  refine ⟨by (repeat' with_reducible apply And.intro) <;> first | omega | (simpa using hs), ?_⟩
  refine LWp.rz hT hW ?_
  simp
  refine ⟨by omega, ?_⟩
  refine loopQ.mk ⟨c + 1, ks ++ [(st j).1], (st j).2⟩ (Weak.to [0, 1, 4, 5, 6, 7] [(0, 0), (4, 4), (5, 5), (34, 1034)] (by decide) (by decide) (by simp [hp]) (by simp) (by simp)) ?_ ?_
  ·refine ⟨(show c + 1 ≤ n by omega), ?_, ?_, ?_⟩
   ·have := hle j
    show (st j).2 ≤ i + 1 + (c + 1) * 10000
    omega
   ·show (ks ++ [(st j).1]).length ≤ c + 1
    rw [List.length_append, List.length_singleton]
    omega
   ·rw [hi4.2.2.2, somes_go (by omega) (by omega)]
    rfl
  ·show n - (c + 1) < n - c
   omega
 ·refine LWp.exit ?_
  simp
  refine LWp.sz hT hW ?_
  simp
  refine LWp.ret ?_
  simp
  have e : someM L st i = (.mk 8 [] 0 ks, j) := by rw [hsm, hi4.2.2.2, somes_end (by rcases Nat.lt_or_ge c n with q | q; exact .inr (by have := g (by omega); omega); exact .inl (by omega))]
  refine Weak.closed (x := (someM L st i).1.d) (by simp [e]) ?_
  simp
  exact Weak.to [0] [(0, 0)] (by decide) (by decide) (by simp [hp]) (by simp) (by simp [e])
structure NdN where
 x : Nd
 j : Nat
def oneK (L : List Int) (d i : Nat) : Int := if d = 0 ∧ (9 + atL L i 17 = 11 ∨ 9 + atL L i 17 = 12) then 24 else 9 + atL L i 17
def oneC (L : List Int) (bl : Nat → Nd × Nat) (k : Int) (i : Nat) : Nd × Nat :=
 if k = 9 then (.mk k (ownM L i) 0 [(valueM L 2 (i + 1)).1], (valueM L 2 (i + 1)).2)
 else if k = 10 then (.mk k [] 0 [(placeM L i).1, (valueM L 2 (placeM L i).2).1], (valueM L 2 (placeM L i).2).2)
 else if k = 11 ∨ k = 12 then
  (if k = 11 then (if atL L (bl (valueM L 1 i).2).2 2 = 0 then (.mk k [] 0 [(valueM L 1 i).1, (bl (valueM L 1 i).2).1, (bl ((bl (valueM L 1 i).2).2 + 1)).1], (bl ((bl (valueM L 1 i).2).2 + 1)).2) else (.mk k [] 0 [(valueM L 1 i).1, (bl (valueM L 1 i).2).1], (bl (valueM L 1 i).2).2 + 1))
  else (.mk k [] 0 [(valueM L 1 i).1, (bl (valueM L 1 i).2).1], (bl (valueM L 1 i).2).2))
 else if k = 13 ∨ k = 14 ∨ k = 17 ∨ k = 18 then (.mk k (callM L i) 0 [], i + 1)
 else if k = 15 ∨ k = 22 then (.mk k (callM L i) 0 [(valueM L 1 (i + 1)).1], (valueM L 1 (i + 1)).2)
 else if k = 16 ∨ k = 23 then (.mk k (callM L i) 0 [.mk 33 (ownM L (i + 1)) 0 []], i + 2)
 else if k = 19 then (.mk k (ownM L i) (2 + atL L (i + 1) 5) [], i + 2)
 else if k = 20 then (.mk k (ownM L i) 0 [], i + 1)
 else if k = 21 then (.mk k [] (1 + atL L i 9) [], i + 1)
 else if k = 25 then (.mk k [] (1 + atL L i 99) [], i + 1)
 else (.mk k [] 0 [(valueM L 2 i).1], (valueM L 2 i).2)
theorem oneB_eq {L : List Int} {d i : Nat} {bl : Nat → Nd × Nat} {k : Int} (hk : oneK L d i = k) : oneB L d bl i = oneC L bl k (i + 1) := by subst hk; rfl
theorem oneK_range {L : List Int} {d i : Nat} {k : Int} (hk : oneK L d i = k) : 9 ≤ k ∧ k ≤ 25 ∧ (k = 11 ∨ k = 12 → 0 < d) := by
 subst hk
 have h := atL_range L i 17 (by decide)
 unfold oneK
 split <;> omega
theorem upds_mk {c : Prop} [Decidable c] {f : Nat → LObj} {l : DV} {a b : Int} {x : Nat} (h : f 0 = .box false [.d l, .d (I64 b)]) :
  upds f (if c then [(0, .box false [.d l, .d (I64 a)])] else []) x = if x = 0 then .box false [.d l, .d (I64 (if c then a else b))] else f x := by
 by_cases hc : c
 ·simp only [hc, if_true, upds, upd]
 ·simp only [hc, if_false, upds]
  split
  ·rename_i e; rw [e]; exact h
  ·rfl
theorem oneB_to {L : List Int} {d i C : Nat} {bl : Nat → Nd × Nat} (hb : ∀ j, (bl j).2 ≤ j + C) : (oneB L d bl i).2 ≤ i + 40 + 2 * C := by
 rw [oneB_eq rfl]
 have v1 := fun j => value_to L 1 j
 have v2 := fun j => value_to L 2 j
 have pl := place_to L (i + 1)
 unfold oneC
 have a1 := v1 (i + 1)
 have a2 := v1 (i + 2)
 have a3 := v2 (i + 1)
 have a4 := v2 (i + 2)
 have a5 := v2 (placeM L (i + 1)).2
 have b1 := hb (valueM L 1 (i + 1)).2
 have b2 := hb ((bl (valueM L 1 (i + 1)).2).2 + 1)
 simp only [Nat.add_assoc, Nat.reduceAdd, Nat.reducePow, Nat.reduceMul] at *
 split
 ·simp only; omega
 ·split
  ·simp only; omega
  ·split
   ·split
    ·split <;> simp only <;> omega
    ·simp only; omega
   ·split
    ·simp only; omega
    ·split
     ·simp only; omega
     ·split
      ·simp only; omega
      ·split
       ·simp only; omega
       ·split
        ·simp only; omega
        ·split
         ·simp only; omega
         ·split <;> simp only <;> omega
set_option maxHeartbeats 1000000 in
theorem MOne_step (L : List Int) (d i : Nat) (bl : Nat → Nd × Nat) (hL : MkL L) (hll : L.length ≤ 1000000) (m : Nat) (hi : i ≤ m) (hm : m ≤ 1800000) (hd : d ≤ 1000) (hB : ∀ e, d = e + 1 → Makes L 60 e (m + 30000) bl) (hle : ∀ j, (bl j).2 ≤ j + 20000) : OkG Tryz.prog 37 [.bx 0 0, .d (I64 (d : Nat))] (mkH L i) (mkH L (oneB L d bl i).2) (.d (oneB L d bl i).1.d) := by
 unfold mkH
 refine OkG.cell hT Tryz.func37 (by kernel_rfl) (c := _) rfl Tryz.ntmps37 (by simp) Tryz.results37 fun w0 X hp => ?_
 refine LWp.sz hT hW ?_
 simp
 refine LWp.seq ?_
 have ha := MTake_ok L i 17 hL (by omega) (by decide)
 have hr := atL_range L i 17 (by decide)
 refine LWp.ro hT hW (fun | 8 => some (.gen ⟨[(0, 0)], [], [], mkH L (i + 1), .d (I64 (atL L i 17))⟩) | _ => none) ?_
 simp
 refine ⟨by (repeat' with_reducible apply And.intro) <;> first | omega | (simpa using ha), ?_⟩
 refine LWp.seqCut (ι := KC) (fun ⟨k⟩ => mkEnv [(0, .bx 0 0), (1, .d (I64 (d : Nat))), (4, .bx 4 0), (5, .bx 5 0)]) (fun ⟨k⟩ => mkObs [(0, .box false [.d (.sl (L.map I64)), .d (I64 ((i + 1 : Nat) : Int))]), (4, .box false [.d (I64 0), .d (.str []), .d (I64 0), .nl]), (5, .box false [.d (I64 k), .d (.str []), .d (I64 0), .nl])]) (fun ⟨k⟩ => oneK L d i = k) ?_ fun ⟨k⟩ hc4 => ?_
 ·refine LWp.sz hT hW ?_
  simp
  refine ⟨fun a b => ⟨a, b⟩, ?_⟩
  refine LWp.iff ?_
  simp
  refine ⟨fun g1 g2 => ?_, fun g => ?_⟩
  ·refine LWp.rz hT hW ?_
   simp
   refine cutQ.mk ⟨24⟩ (Weak.to [0, 1, 4, 5] [(0, 0), (4, 4), (5, 5)] (by decide) (by decide) (by simp [hp]) (by simp) (by simp)) ?_
   unfold oneK; rw [if_pos ⟨by omega, by omega⟩]
  ·refine LWp.skip ?_
   simp
   refine cutQ.mk ⟨9 + atL L i 17⟩ (Weak.to [0, 1, 4, 5] [(0, 0), (4, 4), (5, 5)] (by decide) (by decide) (by simp [hp]) (by simp) (by simp)) ?_
   unfold oneK; rw [if_neg (by omega)]
 ·refine LWp.seqCut (ι := NdN) (fun ⟨x, j⟩ => mkEnv [(0, .bx 0 0), (1, .d (I64 (d : Nat))), (4, .bx 4 0), (5, .bx 5 0)]) (fun ⟨x, j⟩ => mkObs [(0, .box false [.d (.sl (L.map I64)), .d (I64 (j : Nat))]), (4, .box false [.d (I64 0), .d (.str []), .d (I64 0), .nl]), (5, .box false [.d (I64 x.kind), .d (.str x.text), .d (I64 x.n), .d (ndsD x.kids)])]) (fun ⟨x, j⟩ => oneB L d bl i = (x, j)) ?_ fun ⟨x, j⟩ hc41 => ?_
  ·refine LWp.sz hT hW ?_
   simp
   refine LWp.block ?_
   refine LWp.sz hT hW ?_
   simp
   refine LWp.iff ?_
   simp
   refine ⟨fun h5 => ?_, fun h5 => ?_⟩
   ·refine LWp.seq ?_
    have hc6 := MOwn_ok L (i + 1) hL (by omega)
    refine LWp.ro hT hW (fun | 29 => some (.gen ⟨[(0, 0)], [], [], mkH L (i + 2), .d (.str (ownM L (i + 1)))⟩) | _ => none) ?_
    simp
    refine ⟨by simpa using hc6, ?_⟩
    have hv := MValue_ok L hL hll 2 (i + 2) (by omega)
    refine LWp.ro hT hW (fun | 32 => some (.gen ⟨[(0, 0)], [], [], mkH L (valueM L 2 (i + 2)).2, .d (valueM L 2 (i + 2)).1.d⟩) | _ => none) ?_
    simp
    refine ⟨by simpa using hv, ?_⟩
    refine exWeak (Weak.shutBox 5 [33] (fz := false) (cs := [.d (I64 k), .d (.str (ownM L (i + 1))), .d (I64 (0)), .ow 33 0 1]) (ds := [I64 k, .str (ownM L (i + 1)), I64 (0), .sl [((valueM L 2 (i + 2)).1).d]]) (by simp) (by simp) (by simp) (by simp [LObj.mut])) ?_
    simp
    refine cutQ.mk ⟨.mk k (ownM L (i + 1)) (0) [(valueM L 2 (i + 2)).1], (valueM L 2 (i + 2)).2⟩ (Weak.to [0, 1, 4, 5] [(0, 0), (4, 4), (5, 5)] (by decide) (by decide) (by simp [hp]) (by simp) (by simp)) ?_
    rw [oneB_eq hc4]
    unfold oneC
    repeat (first | rw [if_pos (by omega)] | rw [if_neg (by omega)])
   ·refine LWp.sz hT hW ?_
    simp
    refine LWp.iff ?_
    simp
    refine ⟨fun h8 => ?_, fun h8 => ?_⟩
    ·refine LWp.seq ?_
     have hpl := MAt_ok L (i + 1) hL (by omega)
     have tpl := place_to L (i + 1)
     refine LWp.ro hT hW (fun | 38 => some (.gen ⟨[(0, 0)], [], [], mkH L (placeM L (i + 1)).2, .d (placeM L (i + 1)).1.d⟩) | _ => none) ?_
     simp
     refine ⟨by simpa using hpl, ?_⟩
     have hv := MValue_ok L hL hll 2 (placeM L (i + 1)).2 (by omega)
     refine LWp.regAny hT hW hMixed (lk [[],[],[1],[0,1,2],[0,1,2,3],[0,1,2,3,4]]) (lk [[0],[],[],[],[],[]]) (lk [[],[],[0],[42],[],[5]]) (by kernel_rfl) (fun | 41 => some (.gen ⟨[(0, 0)], [], [], mkH L (valueM L 2 (placeM L (i + 1)).2).2, .d (valueM L 2 (placeM L (i + 1)).2).1.d⟩) | _ => none) (by intro d; first | exact ⟨rfl, fun _ h => h⟩ | (split <;> exact ⟨rfl, fun _ h => h⟩)) ?_
     simp
     refine ⟨⟨by simpa using hv, by decide⟩, ?_⟩
     refine exWeak (Weak.shutBox 5 [42] (fz := false) (cs := [.d (I64 k), .d (.str ([])), .d (I64 (0)), .ow 42 0 2]) (ds := [I64 k, .str ([]), I64 (0), .sl [((placeM L (i + 1)).1).d, ((valueM L 2 (placeM L (i + 1)).2).1).d]]) (by simp) (by simp) (by simp) (by simp [LObj.mut])) ?_
     simp
     refine cutQ.mk ⟨.mk k ([]) (0) [(placeM L (i + 1)).1, (valueM L 2 (placeM L (i + 1)).2).1], (valueM L 2 (placeM L (i + 1)).2).2⟩ (Weak.to [0, 1, 4, 5] [(0, 0), (4, 4), (5, 5)] (by decide) (by decide) (by simp [hp]) (by simp) (by simp)) ?_
     rw [oneB_eq hc4]
     unfold oneC
     repeat (first | rw [if_pos (by omega)] | rw [if_neg (by omega)])
    ·refine LWp.seqCut (ι := BC) (fun ⟨b⟩ => mkEnv [(0, .bx 0 0), (1, .d (I64 (d : Nat))), (4, .bx 4 0), (5, .bx 5 0), (25, .d (I64 (k))), (44, .d (.bool b))]) (fun ⟨b⟩ => mkObs [(0, .box false [.d (.sl (L.map I64)), .d (I64 ((i + 1 : Nat) : Int))]), (4, .box false [.d (I64 0), .d (.str []), .d (I64 0), .nl]), (5, .box false [.d (I64 k), .d (.str []), .d (I64 0), .nl])]) (fun ⟨b⟩ => b = true ↔ (k = 11 ∨ k = 12)) ?_ fun ⟨b⟩ hc13 => ?_
     ·refine LWp.sz hT hW ?_
      simp
      refine LWp.iff ?_
      simp
      refine ⟨fun h11 => ?_, fun h11 => ?_⟩
      ·refine LWp.skip ?_
       simp
       refine cutQ.mk ⟨decide (k = 11)⟩ (Weak.to [0, 1, 4, 5, 25, 44] [(0, 0), (4, 4), (5, 5)] (by decide) (by decide) (by simp [hp]) (by simp) (by simp)) ?_
       simp [h11]
      ·refine LWp.rz hT hW ?_
       simp
       refine cutQ.mk ⟨decide (k = 12)⟩ (Weak.to [0, 1, 4, 5, 25, 44] [(0, 0), (4, 4), (5, 5)] (by decide) (by decide) (by simp [hp]) (by simp) (by simp)) ?_
       simp only [decide_eq_true_eq]; omega
     ·refine LWp.iff ?_
      simp
      refine ⟨fun h13 => ?_, fun h13 => ?_⟩
      ·have q13 := hc13.1 h13
       refine LWp.seq ?_
       obtain ⟨e, hde⟩ : ∃ e, d = e + 1 := ⟨d - 1, by have := (oneK_range hc4).2.2 q13; omega⟩
       have hBe := hB e hde
       subst hde
       have hv := MValue_ok L hL hll 1 (i + 1) (by omega)
       have tv := value_to L 1 (i + 1)
       obtain ⟨a, ha1⟩ : ∃ a, a = valueM L 1 (i + 1) := ⟨_, rfl⟩
       rw [← ha1] at hv tv
       have hs1 := hBe a.2 (by omega)
       obtain ⟨b, hb1⟩ : ∃ b, b = bl a.2 := ⟨_, rfl⟩
       have tb := hle a.2
       rw [← hb1] at hs1 tb
       have hs2 := hBe (b.2 + 1) (by omega)
       obtain ⟨c, hc1⟩ : ∃ c, c = bl (b.2 + 1) := ⟨_, rfl⟩
       rw [← hc1] at hs2
       have ht2 := MTake_ok L b.2 2 hL (by omega) (by decide)
       have ez : ((e : Int) + 1) - 1 = e := by omega
       refine LWp.ro hT hW (fun | 48 => some (.gen ⟨[(0, 0)], [], [], mkH L a.2, .d a.1.d⟩) | _ => none) ?_
       simp
       refine ⟨by simpa using hv, ?_⟩
       refine LWp.seq ?_
       refine LWp.regAny hT hW hMixed (lk [[],[0],[],[],[3],[2,3,4],[2,3,4,5],[0,1,2,3,4,5,6],[0,1,2,3,4,5,6,7],[0,1,2,3,4,5,6,7,8]]) (lk [[0,57],[0,57],[],[],[],[],[],[],[],[]]) (lk [[],[],[],[],[],[0],[57],[58,49],[],[5]]) (by kernel_rfl) (fun | 56 => some (.gen ⟨[(0, 0)], [], [], mkH L b.2, .d b.1.d⟩) | _ => none) (by intro d; first | exact ⟨rfl, fun _ h => h⟩ | (split <;> exact ⟨rfl, fun _ h => h⟩)) ?_
       simp [ez]
       refine ⟨by (repeat' with_reducible apply And.intro) <;> first | omega | (simpa using hs1) | decide, ?_⟩
       refine LWp.so hT hW (fun | 65 => some (.gen ⟨[(0, 0)], [], [], mkH L (b.2 + 1), .d (I64 (atL L b.2 2))⟩) | _ => none) ?_
       simp [upds_mk (b := (b.2 : Int))]
       refine ⟨fun _ => by simpa using ht2, ?_⟩
       refine LWp.iff ?_
       simp
       refine ⟨fun g3 g4 => ?_, fun g3 => ?_⟩
       ·simp only [if_pos g3]
        refine LWp.regAny hT hW hMixed (lk [[],[0],[],[],[3],[2,3,4],[2,3,4,5],[0,1,2,3,4,5,6],[0,1,2,3,4,5,6,7],[0,1,2,3,4,5,6,7,8]]) (lk [[0,74],[0,74],[],[],[],[],[],[],[],[]]) (lk [[],[],[],[],[],[0],[74],[75,58],[],[5]]) (by kernel_rfl) (fun | 73 => some (.gen ⟨[(0, 0)], [], [], mkH L c.2, .d c.1.d⟩) | _ => none) (by intro d; first | exact ⟨rfl, fun _ h => h⟩ | (split <;> exact ⟨rfl, fun _ h => h⟩)) ?_
        simp [ez]
        refine ⟨by (repeat' with_reducible apply And.intro) <;> first | omega | (simpa using hs2) | decide, ?_⟩
        refine exWeak (Weak.shutBox 5 [75] (fz := false) (cs := [.d (I64 k), .d (.str ([])), .d (I64 (0)), .ow 75 0 3]) (ds := [I64 k, .str ([]), I64 (0), .sl [(a.1).d, (b.1).d, (c.1).d]]) (by simp) (by simp) (by simp) (by simp [LObj.mut])) ?_
        simp
        refine cutQ.mk ⟨.mk k ([]) (0) [a.1, b.1, c.1], c.2⟩ (Weak.to [0, 1, 4, 5] [(0, 0), (4, 4), (5, 5)] (by decide) (by decide) (by simp [hp]) (by simp) (by simp [g3])) ?_
        rw [oneB_eq hc4]
        unfold oneC
        rw [← ha1, ← hb1, ← hc1, if_neg (by omega), if_neg (by omega), if_pos (by omega), if_pos g3, if_pos g4]
       ·refine LWp.skip ?_
        simp
        refine exWeak (Weak.shutBox 5 [58] (fz := false) (cs := [.d (I64 k), .d (.str ([])), .d (I64 (0)), .ow 58 0 2]) (ds := [I64 k, .str ([]), I64 (0), .sl [(a.1).d, (b.1).d]]) (by simp) (by simp) (by simp) (by simp [LObj.mut])) ?_
        simp
        refine cutQ.mk ⟨.mk k ([]) (0) [a.1, b.1], if k = 11 then b.2 + 1 else b.2⟩ (Weak.to [0, 1, 4, 5] [(0, 0), (4, 4), (5, 5)] (by decide) (by decide) (by simp [hp]) (by simp) (by by_cases hk : k = 11 <;> simp [hk])) ?_
        rw [oneB_eq hc4]
        unfold oneC
        rw [← ha1, ← hb1]
        by_cases hk : k = 11
        ·rw [if_neg (by omega), if_neg (by omega), if_pos (by omega), if_pos hk, if_neg (g3 hk)]
         simp [hk]
        ·rw [if_neg (by omega), if_neg (by omega), if_pos (by omega), if_neg hk]
         simp [hk]
      ·have q13 : ¬ (k = 11 ∨ k = 12) := fun q => by simp [hc13.2 q] at h13
       refine LWp.seqCut (ι := BC) (fun ⟨b⟩ => mkEnv [(0, .bx 0 0), (1, .d (I64 (d : Nat))), (4, .bx 4 0), (5, .bx 5 0), (25, .d (I64 (k))), (77, .d (.bool b))]) (fun ⟨b⟩ => mkObs [(0, .box false [.d (.sl (L.map I64)), .d (I64 ((i + 1 : Nat) : Int))]), (4, .box false [.d (I64 0), .d (.str []), .d (I64 0), .nl]), (5, .box false [.d (I64 k), .d (.str []), .d (I64 0), .nl])]) (fun ⟨b⟩ => b = true ↔ (k = 13 ∨ k = 14 ∨ k = 17 ∨ k = 18)) ?_ fun ⟨b⟩ hc21 => ?_
       ·refine LWp.sz hT hW ?_
        simp
        refine LWp.iff ?_
        simp
        refine ⟨fun h17 => ?_, fun h17 => ?_⟩
        ·refine LWp.skip ?_
         simp
         refine cutQ.mk ⟨decide (k = 13)⟩ (Weak.to [0, 1, 4, 5, 25, 77] [(0, 0), (4, 4), (5, 5)] (by decide) (by decide) (by simp [hp]) (by simp) (by simp)) ?_
         simp [h17]
        ·refine LWp.sz hT hW ?_
         simp
         refine LWp.iff ?_
         simp
         refine ⟨fun h18 => ?_, fun h18 => ?_⟩
         ·refine LWp.skip ?_
          simp
          refine cutQ.mk ⟨decide (k = 14)⟩ (Weak.to [0, 1, 4, 5, 25, 77] [(0, 0), (4, 4), (5, 5)] (by decide) (by decide) (by simp [hp]) (by simp) (by simp)) ?_
          simp [h18]
         ·refine LWp.sz hT hW ?_
          simp
          refine LWp.iff ?_
          simp
          refine ⟨fun h19 => ?_, fun h19 => ?_⟩
          ·refine LWp.skip ?_
           simp
           refine cutQ.mk ⟨decide (k = 17)⟩ (Weak.to [0, 1, 4, 5, 25, 77] [(0, 0), (4, 4), (5, 5)] (by decide) (by decide) (by simp [hp]) (by simp) (by simp)) ?_
           simp [h19]
          ·refine LWp.rz hT hW ?_
           simp
           refine cutQ.mk ⟨decide (k = 18)⟩ (Weak.to [0, 1, 4, 5, 25, 77] [(0, 0), (4, 4), (5, 5)] (by decide) (by decide) (by simp [hp]) (by simp) (by simp)) ?_
           simp only [decide_eq_true_eq]; omega
       ·refine LWp.iff ?_
        simp
        refine ⟨fun h21 => ?_, fun h21 => ?_⟩
        ·have q21 := hc21.1 h21
         have hc6 := MCalled_ok L (i + 1) hL (by omega)
         refine LWp.ro hT hW (fun | 83 => some (.gen ⟨[(0, 0)], [], [], mkH L (i + 2), .d (.str (callM L (i + 1)))⟩) | _ => none) ?_
         simp
         refine ⟨by simpa using hc6, ?_⟩
         refine exWeak (Weak.shutBox 5 [] (fz := false) (cs := [.d (I64 k), .d (.str (callM L (i + 1))), .d (I64 (0)), .nl]) (ds := [I64 k, .str (callM L (i + 1)), I64 (0), .sl []]) (by simp) (by simp) (by simp) (by simp [LObj.mut])) ?_
         simp
         refine cutQ.mk ⟨.mk k (callM L (i + 1)) (0) [], i + 2⟩ (Weak.to [0, 1, 4, 5] [(0, 0), (4, 4), (5, 5)] (by decide) (by decide) (by simp [hp]) (by simp) (by simp)) ?_
         rw [oneB_eq hc4]
         unfold oneC
         repeat (first | rw [if_pos (by omega)] | rw [if_neg (by omega)])
        ·have q21 : ¬ (k = 13 ∨ k = 14 ∨ k = 17 ∨ k = 18) := fun q => by simp [hc21.2 q] at h21
         refine LWp.seqCut (ι := BC) (fun ⟨b⟩ => mkEnv [(0, .bx 0 0), (1, .d (I64 (d : Nat))), (4, .bx 4 0), (5, .bx 5 0), (25, .d (I64 (k))), (85, .d (.bool b))]) (fun ⟨b⟩ => mkObs [(0, .box false [.d (.sl (L.map I64)), .d (I64 ((i + 1 : Nat) : Int))]), (4, .box false [.d (I64 0), .d (.str []), .d (I64 0), .nl]), (5, .box false [.d (I64 k), .d (.str []), .d (I64 0), .nl])]) (fun ⟨b⟩ => b = true ↔ (k = 15 ∨ k = 22)) ?_ fun ⟨b⟩ hc24 => ?_
         ·refine LWp.sz hT hW ?_
          simp
          refine LWp.iff ?_
          simp
          refine ⟨fun h22 => ?_, fun h22 => ?_⟩
          ·refine LWp.skip ?_
           simp
           refine cutQ.mk ⟨decide (k = 15)⟩ (Weak.to [0, 1, 4, 5, 25, 85] [(0, 0), (4, 4), (5, 5)] (by decide) (by decide) (by simp [hp]) (by simp) (by simp)) ?_
           simp [h22]
          ·refine LWp.rz hT hW ?_
           simp
           refine cutQ.mk ⟨decide (k = 22)⟩ (Weak.to [0, 1, 4, 5, 25, 85] [(0, 0), (4, 4), (5, 5)] (by decide) (by decide) (by simp [hp]) (by simp) (by simp)) ?_
           simp only [decide_eq_true_eq]; omega
         ·refine LWp.iff ?_
          simp
          refine ⟨fun h24 => ?_, fun h24 => ?_⟩
          ·have q24 := hc24.1 h24
           refine LWp.seq ?_
           have hc6 := MCalled_ok L (i + 1) hL (by omega)
           refine LWp.ro hT hW (fun | 89 => some (.gen ⟨[(0, 0)], [], [], mkH L (i + 2), .d (.str (callM L (i + 1)))⟩) | _ => none) ?_
           simp
           refine ⟨by simpa using hc6, ?_⟩
           have hv := MValue_ok L hL hll 1 (i + 2) (by omega)
           refine LWp.ro hT hW (fun | 92 => some (.gen ⟨[(0, 0)], [], [], mkH L (valueM L 1 (i + 2)).2, .d (valueM L 1 (i + 2)).1.d⟩) | _ => none) ?_
           simp
           refine ⟨by simpa using hv, ?_⟩
           refine exWeak (Weak.shutBox 5 [93] (fz := false) (cs := [.d (I64 k), .d (.str (callM L (i + 1))), .d (I64 (0)), .ow 93 0 1]) (ds := [I64 k, .str (callM L (i + 1)), I64 (0), .sl [((valueM L 1 (i + 2)).1).d]]) (by simp) (by simp) (by simp) (by simp [LObj.mut])) ?_
           simp
           refine cutQ.mk ⟨.mk k (callM L (i + 1)) (0) [(valueM L 1 (i + 2)).1], (valueM L 1 (i + 2)).2⟩ (Weak.to [0, 1, 4, 5] [(0, 0), (4, 4), (5, 5)] (by decide) (by decide) (by simp [hp]) (by simp) (by simp)) ?_
           rw [oneB_eq hc4]
           unfold oneC
           repeat (first | rw [if_pos (by omega)] | rw [if_neg (by omega)])
          ·have q24 : ¬ (k = 15 ∨ k = 22) := fun q => by simp [hc24.2 q] at h24
           refine LWp.seqCut (ι := BC) (fun ⟨b⟩ => mkEnv [(0, .bx 0 0), (1, .d (I64 (d : Nat))), (4, .bx 4 0), (5, .bx 5 0), (25, .d (I64 (k))), (95, .d (.bool b))]) (fun ⟨b⟩ => mkObs [(0, .box false [.d (.sl (L.map I64)), .d (I64 ((i + 1 : Nat) : Int))]), (4, .box false [.d (I64 0), .d (.str []), .d (I64 0), .nl]), (5, .box false [.d (I64 k), .d (.str []), .d (I64 0), .nl])]) (fun ⟨b⟩ => b = true ↔ (k = 16 ∨ k = 23)) ?_ fun ⟨b⟩ hc28 => ?_
           ·refine LWp.sz hT hW ?_
            simp
            refine LWp.iff ?_
            simp
            refine ⟨fun h26 => ?_, fun h26 => ?_⟩
            ·refine LWp.skip ?_
             simp
             refine cutQ.mk ⟨decide (k = 16)⟩ (Weak.to [0, 1, 4, 5, 25, 95] [(0, 0), (4, 4), (5, 5)] (by decide) (by decide) (by simp [hp]) (by simp) (by simp)) ?_
             simp [h26]
            ·refine LWp.rz hT hW ?_
             simp
             refine cutQ.mk ⟨decide (k = 23)⟩ (Weak.to [0, 1, 4, 5, 25, 95] [(0, 0), (4, 4), (5, 5)] (by decide) (by decide) (by simp [hp]) (by simp) (by simp)) ?_
             simp only [decide_eq_true_eq]; omega
           ·refine LWp.iff ?_
            simp
            refine ⟨fun h28 => ?_, fun h28 => ?_⟩
            ·have q28 := hc28.1 h28
             refine LWp.seq ?_
             have hc6 := MCalled_ok L (i + 1) hL (by omega)
             refine LWp.ro hT hW (fun | 99 => some (.gen ⟨[(0, 0)], [], [], mkH L (i + 2), .d (.str (callM L (i + 1)))⟩) | _ => none) ?_
             simp
             refine ⟨by simpa using hc6, ?_⟩
             have hc7 := MOwn_ok L (i + 2) hL (by omega)
             refine LWp.ro hT hW (fun | 102 => some (.gen ⟨[(0, 0)], [], [], mkH L (i + 3), .d (.str (ownM L (i + 2)))⟩) | _ => none) ?_
             simp
             refine ⟨by simpa using hc7, ?_⟩
             refine exWeak (Weak.shutBox 5 [104] (fz := false) (cs := [.d (I64 k), .d (.str (callM L (i + 1))), .d (I64 (0)), .ow 104 0 1]) (ds := [I64 k, .str (callM L (i + 1)), I64 (0), .sl [(Nd.mk 33 (ownM L (i + 2)) 0 []).d]]) (by simp) (by simp) (by simp) (by simp [LObj.mut])) ?_
             simp
             refine cutQ.mk ⟨.mk k (callM L (i + 1)) (0) [Nd.mk 33 (ownM L (i + 2)) 0 []], i + 3⟩ (Weak.to [0, 1, 4, 5] [(0, 0), (4, 4), (5, 5)] (by decide) (by decide) (by simp [hp]) (by simp) (by simp)) ?_
             rw [oneB_eq hc4]
             unfold oneC
             repeat (first | rw [if_pos (by omega)] | rw [if_neg (by omega)])
            ·have q28 : ¬ (k = 16 ∨ k = 23) := fun q => by simp [hc28.2 q] at h28
             refine LWp.sz hT hW ?_
             simp
             refine LWp.iff ?_
             simp
             refine ⟨fun h30 => ?_, fun h30 => ?_⟩
             ·refine LWp.seq ?_
              have hc6 := MOwn_ok L (i + 1) hL (by omega)
              refine LWp.ro hT hW (fun | 109 => some (.gen ⟨[(0, 0)], [], [], mkH L (i + 2), .d (.str (ownM L (i + 1)))⟩) | _ => none) ?_
              simp
              refine ⟨by simpa using hc6, ?_⟩
              have hc7 := MTake_ok L (i + 2) 5 hL (by omega) (by decide)
              have hr7 := atL_range L ((i : Int) + 2) 5 (by decide)
              refine LWp.ro hT hW (fun | 112 => some (.gen ⟨[(0, 0)], [], [], mkH L (i + 3), .d (I64 (atL L ((i : Int) + 2) 5))⟩) | _ => none) ?_
              simp
              refine ⟨⟨by simpa using hc7, by omega⟩, ?_⟩
              refine exWeak (Weak.shutBox 5 [] (fz := false) (cs := [.d (I64 k), .d (.str (ownM L (i + 1))), .d (I64 (2 + atL L ((i : Int) + 2) 5)), .nl]) (ds := [I64 k, .str (ownM L (i + 1)), I64 (2 + atL L ((i : Int) + 2) 5), .sl []]) (by simp) (by simp) (by simp) (by simp [LObj.mut])) ?_
              simp
              refine cutQ.mk ⟨.mk k (ownM L (i + 1)) (2 + atL L ((i : Int) + 2) 5) [], i + 3⟩ (Weak.to [0, 1, 4, 5] [(0, 0), (4, 4), (5, 5)] (by decide) (by decide) (by simp [hp]) (by simp) (by simp)) ?_
              rw [oneB_eq hc4]
              unfold oneC
              repeat (first | rw [if_pos (by omega)] | rw [if_neg (by omega)])
              simp
             ·refine LWp.sz hT hW ?_
              simp
              refine LWp.iff ?_
              simp
              refine ⟨fun h33 => ?_, fun h33 => ?_⟩
              ·have hc6 := MOwn_ok L (i + 1) hL (by omega)
               refine LWp.ro hT hW (fun | 118 => some (.gen ⟨[(0, 0)], [], [], mkH L (i + 2), .d (.str (ownM L (i + 1)))⟩) | _ => none) ?_
               simp
               refine ⟨by simpa using hc6, ?_⟩
               refine exWeak (Weak.shutBox 5 [] (fz := false) (cs := [.d (I64 k), .d (.str (ownM L (i + 1))), .d (I64 (0)), .nl]) (ds := [I64 k, .str (ownM L (i + 1)), I64 (0), .sl []]) (by simp) (by simp) (by simp) (by simp [LObj.mut])) ?_
               simp
               refine cutQ.mk ⟨.mk k (ownM L (i + 1)) (0) [], i + 2⟩ (Weak.to [0, 1, 4, 5] [(0, 0), (4, 4), (5, 5)] (by decide) (by decide) (by simp [hp]) (by simp) (by simp)) ?_
               rw [oneB_eq hc4]
               unfold oneC
               repeat (first | rw [if_pos (by omega)] | rw [if_neg (by omega)])
              ·refine LWp.sz hT hW ?_
               simp
               refine LWp.iff ?_
               simp
               refine ⟨fun h35 => ?_, fun h35 => ?_⟩
               ·have hc7 := MTake_ok L (i + 1) 9 hL (by omega) (by decide)
                have hr7 := atL_range L ((i : Int) + 1) 9 (by decide)
                refine LWp.ro hT hW (fun | 123 => some (.gen ⟨[(0, 0)], [], [], mkH L (i + 2), .d (I64 (atL L ((i : Int) + 1) 9))⟩) | _ => none) ?_
                simp
                refine ⟨⟨by simpa using hc7, by omega⟩, ?_⟩
                refine exWeak (Weak.shutBox 5 [] (fz := false) (cs := [.d (I64 k), .d (.str ([])), .d (I64 (1 + atL L ((i : Int) + 1) 9)), .nl]) (ds := [I64 k, .str ([]), I64 (1 + atL L ((i : Int) + 1) 9), .sl []]) (by simp) (by simp) (by simp) (by simp [LObj.mut])) ?_
                simp
                refine cutQ.mk ⟨.mk k ([]) (1 + atL L ((i : Int) + 1) 9) [], i + 2⟩ (Weak.to [0, 1, 4, 5] [(0, 0), (4, 4), (5, 5)] (by decide) (by decide) (by simp [hp]) (by simp) (by simp)) ?_
                rw [oneB_eq hc4]
                unfold oneC
                repeat (first | rw [if_pos (by omega)] | rw [if_neg (by omega)])
                simp
               ·refine LWp.sz hT hW ?_
                simp
                refine LWp.iff ?_
                simp
                refine ⟨fun h37 => ?_, fun h37 => ?_⟩
                ·have hc7 := MTake_ok L (i + 1) 99 hL (by omega) (by decide)
                 have hr7 := atL_range L ((i : Int) + 1) 99 (by decide)
                 refine LWp.ro hT hW (fun | 129 => some (.gen ⟨[(0, 0)], [], [], mkH L (i + 2), .d (I64 (atL L ((i : Int) + 1) 99))⟩) | _ => none) ?_
                 simp
                 refine ⟨⟨by simpa using hc7, by omega⟩, ?_⟩
                 refine exWeak (Weak.shutBox 5 [] (fz := false) (cs := [.d (I64 k), .d (.str ([])), .d (I64 (1 + atL L ((i : Int) + 1) 99)), .nl]) (ds := [I64 k, .str ([]), I64 (1 + atL L ((i : Int) + 1) 99), .sl []]) (by simp) (by simp) (by simp) (by simp [LObj.mut])) ?_
                 simp
                 refine cutQ.mk ⟨.mk k ([]) (1 + atL L ((i : Int) + 1) 99) [], i + 2⟩ (Weak.to [0, 1, 4, 5] [(0, 0), (4, 4), (5, 5)] (by decide) (by decide) (by simp [hp]) (by simp) (by simp)) ?_
                 rw [oneB_eq hc4]
                 unfold oneC
                 repeat (first | rw [if_pos (by omega)] | rw [if_neg (by omega)])
                 simp
                ·refine LWp.seq ?_
                 have hk24 : k = 24 := by have := oneK_range hc4; omega
                 subst hk24
                 refine LWp.rz hT hW ?_
                 simp
                 refine LWp.iff ?_
                 simp
                 have hv := MValue_ok L hL hll 2 (i + 1) (by omega)
                 refine LWp.ro hT hW (fun | 135 => some (.gen ⟨[(0, 0)], [], [], mkH L (valueM L 2 (i + 1)).2, .d (valueM L 2 (i + 1)).1.d⟩) | _ => none) ?_
                 simp
                 refine ⟨by simpa using hv, ?_⟩
                 refine exWeak (Weak.shutBox 5 [136] (fz := false) (cs := [.d (I64 24), .d (.str ([])), .d (I64 (0)), .ow 136 0 1]) (ds := [I64 24, .str ([]), I64 (0), .sl [((valueM L 2 (i + 1)).1).d]]) (by simp) (by simp) (by simp) (by simp [LObj.mut])) ?_
                 simp
                 refine cutQ.mk ⟨.mk 24 ([]) (0) [(valueM L 2 (i + 1)).1], (valueM L 2 (i + 1)).2⟩ (Weak.to [0, 1, 4, 5] [(0, 0), (4, 4), (5, 5)] (by decide) (by decide) (by simp [hp]) (by simp) (by simp)) ?_
                 rw [oneB_eq hc4]
                 unfold oneC
                 repeat (first | rw [if_pos (by omega)] | rw [if_neg (by omega)])
  ·refine LWp.sz hT hW ?_
   simp
   refine LWp.ret ?_
   simp
   refine Weak.closed (x := (oneB L d bl i).1.d) (by simp [hc41]) ?_
   simp
   exact Weak.to [0] [(0, 0)] (by decide) (by decide) (by simp [hp]) (by simp) (by simp [hc41])
theorem somes_to {L : List Int} {st : Nat → Nd × Nat} {C : Nat} (h : ∀ j, (st j).2 ≤ j + C) : ∀ (m : Nat) (ks : List Nd) (j : Nat), (somesM L st m ks j).2 ≤ j + m * C
 | 0, ks, j => by simp [somesM]
 | m + 1, ks, j => by
  unfold somesM
  split
  ·simp
  ·have a := somes_to (L := L) h m (ks ++ [(st j).1]) (st j).2
   have b := h j
   rw [Nat.succ_mul]
   omega
theorem some_to {L : List Int} {st : Nat → Nd × Nat} {C : Nat} (h : ∀ j, (st j).2 ≤ j + C) (i : Nat) : (someM L st i).2 ≤ i + 1 + 3 * C := by
 have hr := atL_range L i 4 (by decide)
 have a := somes_to (L := L) h (atL L i 4).toNat [] (i + 1)
 have b : (atL L i 4).toNat * C ≤ 3 * C := Nat.mul_le_mul_right C (by omega)
 show (somesM L st (atL L i 4).toNat [] (i + 1)).2 ≤ _
 omega
def oneTo : Nat → Nat
 | 0 => 40
 | d + 1 => 40 + 2 * (1 + 3 * oneTo d)
theorem one_to (L : List Int) : ∀ d i, (oneM L d i).2 ≤ i + oneTo d
 | 0, i => by
  have h : ∀ j : Nat, ((fun _ => default : Nat → Nd × Nat) j).2 ≤ j + 0 := fun j => Nat.zero_le _
  have := oneB_to (L := L) (d := 0) (i := i) h
  rw [oneM]
  simp only [oneTo]
  omega
 | d + 1, i => by
  have h := fun j => some_to (L := L) (one_to L d) j
  have := oneB_to (L := L) (d := d + 1) (i := i) (bl := someM L (oneM L d)) (C := 1 + 3 * oneTo d) fun j => by have := h j; omega
  rw [oneM]
  simp only [oneTo]
  omega
theorem oneTo_le {d : Nat} (h : d ≤ 2) : oneTo d ≤ 2000 := by
 have : ∀ d : Nat, d < 3 → oneTo d ≤ 2000 := by decide
 exact this d (by omega)
theorem MOne_ok (L : List Int) (hL : MkL L) (hll : L.length ≤ 1000000) : ∀ (d : Nat), d ≤ 2 → ∀ b, b + 70000 * d ≤ 1800000 → Makes L 37 d b (oneM L d)
 | 0, _, b, hb => fun j hj => MOne_step L 0 j (fun _ => default) hL hll b hj (by omega) (by omega) (fun e he => by omega) fun j => by show 0 ≤ j + 20000; omega
 | d + 1, hd, b, hb => fun j hj => by
  have hst := oneTo_le (d := d) (by omega)
  have hle := fun j => some_to (L := L) (one_to L d) j
  obtain ⟨c, hc⟩ : ∃ c, c = b + 30000 := ⟨_, rfl⟩
  have h1 := MOne_ok L hL hll d (by omega) (c + 40000) (by omega)
  have h2 : Makes L 60 d c (someM L (oneM L d)) := fun i hi => MSome_step L d i (oneM L d) hL hll c hi (by omega) h1 fun j => by have := one_to L d j; omega
  refine MOne_step L (d + 1) j (someM L (oneM L d)) hL hll b hj (by omega) (by omega) (fun e he => ?_) fun j => ?_
  ·have : e = d := by omega
   rw [this, ← hc]
   exact h2
  ·have := hle j
   omega
end
open Go.Proofs
section
attribute [local simp] Res.cond Nd.d_eq nd_t nd_dr nd_td ndsD evalIndex retGC_ret constL1 Int.add_assoc upds_same one_i one_s one_l all4 mkH
theorem take_min (l : List Int) : List.take (if (48 : Int) < (l.length : Int) then 48 else (l.length : Int)).toNat (l.map I64) = (l.take 48).map I64 := by
 rw [← List.map_take]
 congr 1
 split
 ·rfl
 ·rw [show ((l.length : Int)).toNat = l.length from rfl, List.take_length, List.take_of_length_le (by omega)]
theorem kind_at {L : List Int} : (treeKinds.map I64)[(atL L 0 10).toNat]?.getD default = I64 (treeKinds.getD (atL L 0 10).toNat 0) := by
 have h := atL_range L 0 10 (by decide)
 have hk : (atL L 0 10).toNat < treeKinds.length := by show _ < 10; omega
 rw [List.getElem?_map, List.getElem?_eq_getElem hk]
 simp [List.getD_eq_getElem?_getD, hk]
theorem kind_rng {L : List Int} : 0 ≤ treeKinds.getD (atL L 0 10).toNat 0 ∧ treeKinds.getD (atL L 0 10).toNat 0 ≤ 6 := by
 have h := atL_range L 0 10 (by decide)
 have key : ∀ n : Nat, n < 10 → 0 ≤ treeKinds.getD n 0 ∧ treeKinds.getD n 0 ≤ 6 := by decide
 exact key _ (by omega)
theorem place_up (L : List Int) (i : Nat) : i + 2 ≤ (placeM L i).2 := by unfold placeM; split <;> simp
theorem value_up (L : List Int) : ∀ (d i : Nat), i + 1 ≤ (valueM L d i).2 := fun d => by
 induction d with
 | zero =>
  intro i
  obtain ⟨r0, _, r2⟩ := valK_range L 0 i
  have r2 := r2 rfl
  by_cases h0 : valK L 0 i = 0 ∨ valK L 0 i = 1
  ·rw [value_num h0]; simp
  ·by_cases h1 : valK L 0 i = 2
   ·rw [value_loc h1]; simp
   ·by_cases h2 : valK L 0 i = 3 ∨ valK L 0 i = 4
    ·rw [value_place h2]; have := place_up L (i + 1); omega
    ·rw [value_kind (by omega)]; simp
 | succ e ih =>
  intro i
  obtain ⟨r0, _, _⟩ := valK_range L (e + 1) i
  by_cases h0 : valK L (e + 1) i = 0 ∨ valK L (e + 1) i = 1
  ·rw [value_num h0]; simp
  ·by_cases h1 : valK L (e + 1) i = 2
   ·rw [value_loc h1]; simp
   ·by_cases h3 : valK L (e + 1) i = 3 ∨ valK L (e + 1) i = 4
    ·rw [value_place h3]; have := place_up L (i + 1); omega
    ·by_cases h4 : valK L (e + 1) i = 5
     ·rw [value_kind h4]; simp
     ·rw [value_bin (by omega)]
      have a := ih (i + 1)
      have b := ih (valueM L e (i + 1)).2
      simp only
      omega
theorem oneB_up {L : List Int} {d i : Nat} {bl : Nat → Nd × Nat} (hb : 0 < d → ∀ j, j ≤ (bl j).2) : i + 1 ≤ (oneB L d bl i).2 := by
 rw [oneB_eq rfl]
 have hk := oneK_range (L := L) (d := d) (i := i) rfl
 have pl := place_up L (i + 1)
 have a1 := value_up L 1 (i + 1)
 have a2 := value_up L 1 (i + 2)
 have a3 := value_up L 2 (i + 1)
 have a4 := value_up L 2 (i + 2)
 have a5 := value_up L 2 (placeM L (i + 1)).2
 unfold oneC
 simp only [Nat.add_assoc, Nat.reduceAdd] at *
 split
 ·simp only; omega
 ·split
  ·simp only; omega
  ·split
   ·rename_i h
    have hb := hb (hk.2.2 h)
    have b1 := hb (valueM L 1 (i + 1)).2
    have b2 := hb ((bl (valueM L 1 (i + 1)).2).2 + 1)
    split
    ·split <;> simp only <;> omega
    ·simp only; omega
   ·repeat (first | (simp only; omega) | split)
theorem somes_up {L : List Int} {st : Nat → Nd × Nat} (h : ∀ j, j ≤ (st j).2) : ∀ (m : Nat) (ks : List Nd) (j : Nat), j ≤ (somesM L st m ks j).2
 | 0, ks, j => Nat.le_refl _
 | m + 1, ks, j => by
  unfold somesM
  split
  ·exact Nat.le_refl _
  ·have a := somes_up (L := L) h m (ks ++ [(st j).1]) (st j).2
   have b := h j
   omega
theorem one_up (L : List Int) : ∀ d i, i + 1 ≤ (oneM L d i).2
 | 0, i => by rw [oneM]; exact oneB_up fun h => absurd h (Nat.lt_irrefl _)
 | d + 1, i => by
  rw [oneM]
  refine oneB_up fun _ j => ?_
  have := somes_up (L := L) (st := oneM L d) (fun j => by have := one_up L d j; omega) (atL L j 4).toNat [] (j + 1)
  show j ≤ (somesM L (oneM L d) (atL L j 4).toNat [] (j + 1)).2
  omega
theorem body_end {L : List Int} {m : Nat} {ks : List Nd} {j : Nat} (h : L.length ≤ j) : bodyM L m ks j = ks := by
 cases m with
 | zero => rfl
 | succ m => unfold bodyM; rw [if_pos h]
theorem body_go {L : List Int} {m : Nat} {ks : List Nd} {j : Nat} (h0 : 0 < m) (h : j < L.length) : bodyM L m ks j = bodyM L (m - 1) (ks ++ [(oneM L 2 j).1]) (oneM L 2 j).2 := by
 obtain ⟨k, rfl⟩ : ∃ k, m = k + 1 := ⟨m - 1, by omega⟩
 rw [bodyM, if_neg (by omega)]
 rfl
theorem items_count (L : List Int) : ∀ c, (itemsM L c).length = c
 | 0 => rfl
 | c + 1 => by rw [itemsM, List.length_append, items_count L c]; rfl
structure NdC where
 x : Nd
structure CtC where
 c : Nat
section
variable {L : List Int} {k : Int} {t : Str} (hk : treeKinds.getD (atL L 0 10).toNat 0 = k) (ht : callM L 1 = t)
include hk ht
theorem tree_var (h : k = 0) : treeB L = .mk k t (atL L 2 1999 - 999) [] := by subst hk ht; unfold treeB; simp only []; rw [if_pos h]
theorem tree_chan (h : k = 2) : treeB L = .mk k t (atL L 2 4) [] := by subst hk ht; unfold treeB; simp only []; rw [if_neg (by omega), if_pos h]
theorem tree_rec (h : k = 1) : treeB L = .mk k t 0 (itemsM L (atL L 2 4).toNat) := by subst hk ht; unfold treeB; simp only []; rw [if_neg (by omega), if_neg (by omega), if_pos h]
theorem tree_proc (h : k = 5 ∨ k = 6) : treeB L = .mk k t 0 [.mk 8 [] 0 (bodyM L L.length [] 2)] := by subst hk ht; unfold treeB; simp only []; rw [if_neg (by omega), if_neg (by omega), if_neg (by omega), if_pos h]
theorem tree_else (h0 : ¬ k = 0) (h1 : ¬ k = 2) (h2 : ¬ k = 1) (h3 : ¬ (k = 5 ∨ k = 6)) : treeB L = .mk k t 0 [] := by subst hk ht; unfold treeB; simp only []; rw [if_neg h0, if_neg h1, if_neg h2, if_neg h3]
end
set_option maxHeartbeats 1000000 in
theorem MTree_ok (l : List Int) (hl : MkL l) : Ok Tryz.prog 10 [.sl (l.map I64)] ⟨.d (treeS l).d, false⟩ := by
 refine Ok.cell hT Tryz.func10 (by kernel_rfl) (c := _) rfl Tryz.ntmps10 (by simp) Tryz.results10 (by intro _ h; cases h) fun w0 X hp => ?_
 obtain ⟨L, hLl⟩ : ∃ L, L = l.take 48 := ⟨_, rfl⟩
 have hL : MkL L := fun n hn => hl n (by rw [hLl] at hn; exact List.mem_of_mem_take hn)
 have hll : L.length ≤ 48 := by rw [hLl, List.length_take]; omega
 have htr : treeS l = treeB L := by rw [hLl]; rfl
 refine LWp.sz hT hW ?_
 simp
 refine LWp.sz hT hW ?_
 simp [take_min, ← hLl]
 refine ⟨by split <;> omega, ?_⟩
 refine LWp.seq ?_
 have ha := MTake_ok L 0 10 hL (by omega) (by decide)
 have hr := atL_range L 0 10 (by decide)
 have hc := MCalled_ok L 1 hL (by omega)
 have hka := kind_at (L := L)
 have hkr := kind_rng (L := L)
 simp [treeKinds] at hka
 obtain ⟨k, hk⟩ : ∃ k, treeKinds.getD (atL L 0 10).toNat 0 = k := ⟨_, rfl⟩
 obtain ⟨t, ht⟩ : ∃ t, callM L 1 = t := ⟨_, rfl⟩
 refine LWp.regAny hT hW hMixed (lk [[],[],[1],[0,1,2],[0,1,2,3],[],[1,2,5],[0,1,2,3,4,5,6],[],[0,1,2,3,4,5,6,7,8]]) (lk [[4,15],[4,16],[4,16],[4,15],[4,15],[4,15,16],[4,16],[4],[15,16],[]]) (lk [[16],[],[15],[],[],[],[15],[],[4],[4]]) (by kernel_rfl) (fun | 18 => some (.gen ⟨[(15, 0)], [], [], mkH L 1, .d (I64 (atL L 0 10))⟩) | 22 => some (.gen ⟨[(15, 0)], [], [], mkH L 2, .d (.str t)⟩) | _ => none) (by intro d; first | exact ⟨rfl, fun _ h => h⟩ | (split <;> exact ⟨rfl, fun _ h => h⟩)) ?_
 simp [hka]
 rw [hk] at hkr
 rw [ht] at hc
 refine ⟨⟨⟨⟨⟨by decide, by simpa using ha⟩, by omega⟩, by omega⟩, by simpa using hc⟩, ?_⟩
 have hk' : [5, 6, 5, 6, 5, 0, 1, 2, 3, 4][(atL L 0 10).toNat]?.getD 0 = k := by rw [← hk]; simp [treeKinds]
 simp only [hk']
 refine LWp.seqCut (ι := NdC) (fun ⟨x⟩ => mkEnv [(2, .bx 2 0), (4, .bx 4 0)]) (fun ⟨x⟩ => mkObs [(2, .box false [.d (I64 0), .d (.str []), .d (I64 0), .nl]), (4, .box false [.d (I64 x.kind), .d (.str x.text), .d (I64 x.n), .d (ndsD x.kids)])]) (fun ⟨x⟩ => treeB L = x) ?_ fun ⟨x⟩ hc21 => ?_
 ·refine LWp.sz hT hW ?_
  simp
  refine LWp.block ?_
  refine LWp.sz hT hW ?_
  simp
  refine LWp.iff ?_
  simp
  refine ⟨fun h4 => ?_, fun h4 => ?_⟩
  ·have h5a := MTake_ok L 2 1999 hL (by omega) (by decide)
   have h5r := atL_range L 2 1999 (by decide)
   refine LWp.ro hT hW (fun | 29 => some (.gen ⟨[(15, 0)], [], [], mkH L 3, .d (I64 (atL L 2 1999))⟩) | _ => none) ?_
   simp
   refine ⟨⟨by simpa using h5a, by omega⟩, ?_⟩
   refine exWeak (Weak.shutBox 4 [] (fz := false) (cs := [.d (I64 k), .d (.str t), .d (I64 (atL L 2 1999 - 999)), .nl]) (ds := [I64 k, .str t, I64 (atL L 2 1999 - 999), .sl []]) (by simp) (by simp) (by simp) (by simp [LObj.mut])) ?_
   simp
   refine cutQ.mk ⟨.mk k t (atL L 2 1999 - 999) []⟩ (Weak.to [2, 4] [(2, 2), (4, 4)] (by decide) (by decide) (by simp [hp]) (by simp) (by simp)) ?_
   exact tree_var hk ht h4
  ·refine LWp.sz hT hW ?_
   simp
   refine LWp.iff ?_
   simp
   refine ⟨fun h6 => ?_, fun h6 => ?_⟩
   ·have h5a := MTake_ok L 2 4 hL (by omega) (by decide)
    refine LWp.ro hT hW (fun | 35 => some (.gen ⟨[(15, 0)], [], [], mkH L 3, .d (I64 (atL L 2 4))⟩) | _ => none) ?_
    simp
    refine ⟨by simpa using h5a, ?_⟩
    refine exWeak (Weak.shutBox 4 [] (fz := false) (cs := [.d (I64 k), .d (.str t), .d (I64 (atL L 2 4)), .nl]) (ds := [I64 k, .str t, I64 (atL L 2 4), .sl []]) (by simp) (by simp) (by simp) (by simp [LObj.mut])) ?_
    simp
    refine cutQ.mk ⟨.mk k t (atL L 2 4) []⟩ (Weak.to [2, 4] [(2, 2), (4, 4)] (by decide) (by decide) (by simp [hp]) (by simp) (by simp)) ?_
    exact tree_chan hk ht h6
   ·refine LWp.sz hT hW ?_
    simp
    refine LWp.iff ?_
    simp
    refine ⟨fun h8 => ?_, fun h8 => ?_⟩
    ·refine LWp.seq ?_
     have h5a := MTake_ok L 2 4 hL (by omega) (by decide)
     have h5r := atL_range L 2 4 (by decide)
     obtain ⟨m, hm9⟩ : ∃ m : Nat, (atL L 2 4).toNat = m := ⟨_, rfl⟩
     have hm9i : atL L 2 4 = (m : Int) := by omega
     refine LWp.ro hT hW (fun | 40 => some (.gen ⟨[(15, 0)], [], [], mkH L 3, .d (I64 (m : Nat))⟩) | _ => none) ?_
     simp
     refine ⟨by simpa [hm9i] using h5a, ?_⟩
     refine LWp.nlCell (fz := false) (cs := [.d (I64 k), .d (.str t), .d (I64 0), .nl]) 4 3 1056 4 (by decide) ⟨by simp, by simp, by simp, ?_⟩
     simp
     refine LWp.sz hT hW ?_
     simp
     refine LWp.block ?_
     refine LWp.loopW (ι := CtC) (fun ⟨c⟩ => mkEnv [(2, .bx 2 0), (3, .bx 15 0), (4, .bx 4 0), (5, .d (I64 (m : Nat))), (6, .d (I64 (c : Nat)))]) (fun ⟨c⟩ => mkObs [(2, .box false [.d (I64 0), .d (.str []), .d (I64 0), .nl]), (4, .box false [.d (I64 k), .d (.str t), .d (I64 0), .ow 1056 0 c]), (15, .box false [.d (.sl (L.map I64)), .d (I64 ((3 + 2 * c : Nat) : Int))]), (1056, .row false 4 ((itemsM L c).map Nd.d))]) (fun ⟨c⟩ => c ≤ m) (fun ⟨c⟩ => m - c) ⟨0⟩ (Weak.to [2, 3, 4, 5, 6] [(2, 2), (4, 4), (15, 15), (1056, 1056)] (by decide) (by decide) (by simp [hp]) (by simp) (by simp [itemsM])) (Nat.zero_le _) fun ⟨c⟩ hi11 => ?_
     refine LWp.seq ?_
     refine LWp.sz hT hW ?_
     simp
     refine LWp.iff ?_
     simp
     refine ⟨fun h11 => ?_, fun h11 => ?_⟩
     ·refine LWp.skip ?_
      simp
      refine LWp.seq ?_
      refine LWp.block ?_
      refine LWp.seq ?_
      have h13c := MCalled_ok L (3 + 2 * c) hL (by omega)
      refine LWp.ro hT hW (fun | 47 => some (.gen ⟨[(15, 0)], [], [], mkH L (3 + 2 * c + 1), .d (.str (callM L (3 + 2 * c)))⟩) | _ => none) ?_
      simp
      refine ⟨by simpa using h13c, ?_⟩
      have h14c := MTake_ok L (4 + 2 * c) 1999 hL (by omega) (by decide)
      have h14r := atL_range L (4 + 2 * (c : Int)) 1999 (by decide)
      have hcm : c ≤ m := hi11
      have e14 : (3 : Int) + (2 * (c : Int) + 1) = 4 + 2 * c := by omega
      have e15 : (4 : Int) + (2 * (c : Int) + 1) = 3 + (2 * c + 2) := by omega
      have hic := items_count L c
      refine LWp.regAny hT hW hMixed (lk [[],[0],[],[],[3],[3,4],[2,3,4,5],[2,3,4,5,6],[0,1,2,3,4,5,6,7],[0,1,2,3,4,5,6,7,8],[0,1,2,3,4,5,6,7,8,9]]) (lk [[15,55],[15,55],[15],[],[],[],[],[],[],[],[]]) (lk [[],[],[],[],[15],[],[],[55],[56,1056],[],[4]]) (by kernel_rfl) (fun | 52 => some (.gen ⟨[(15, 0)], [], [], mkH L (4 + 2 * c + 1), .d (I64 (atL L ((4 + 2 * c : Nat) : Int) 1999))⟩) | _ => none) (by intro d; first | exact ⟨rfl, fun _ h => h⟩ | (split <;> exact ⟨rfl, fun _ h => h⟩)) ?_
      simp [e14]
      refine ⟨⟨⟨by simpa using h14c, by omega, by omega⟩, by omega, by omega⟩, ?_⟩
      have hcm2 : c ≤ m := hi11
      refine LWp.rz hT hW ?_
      simp
      refine ⟨by omega, ?_⟩
      refine loopQ.mk ⟨c + 1⟩ (Weak.to [2, 3, 4, 5, 6] [(2, 2), (4, 4), (15, 15), (56, 1056)] (by decide) (by decide) (by simp [hp]) (by simp) (by simp [itemsM, Int.mul_add, items_count, List.take_of_length_le, e15])) ?_ ?_
      ·show c + 1 ≤ m
       omega
      ·show m - (c + 1) < m - c
       omega
     ·refine LWp.exit ?_
      simp
      refine exWeak (Weak.shutBox 4 [1056] (fz := false) (cs := [.d (I64 k), .d (.str t), .d (I64 0), .ow 1056 0 c]) (ds := [I64 k, .str t, I64 0, .sl ((itemsM L c).map Nd.d)]) (by simp) (by simp) (by simp [items_count, List.take_of_length_le]) (by simp [LObj.mut])) ?_
      simp
      refine cutQ.mk ⟨.mk k t 0 (itemsM L c)⟩ (Weak.to [2, 4] [(2, 2), (4, 4)] (by decide) (by decide) (by simp [hp]) (by simp) (by simp)) ?_
      rw [tree_rec hk ht h8, hm9]
      have e11 : c = m := by have := (show c ≤ m from hi11); omega
      rw [e11]
    ·refine LWp.seqCut (ι := BC) (fun ⟨b⟩ => mkEnv [(2, .bx 2 0), (3, .bx 15 0), (4, .bx 4 0), (25, .d (I64 (k))), (58, .d (.bool b))]) (fun ⟨b⟩ => mkObs [(2, .box false [.d (I64 0), .d (.str []), .d (I64 0), .nl]), (4, .box false [.d (I64 k), .d (.str t), .d (I64 0), .nl]), (15, .box false [.d (.sl (L.map I64)), .d (I64 2)])]) (fun ⟨b⟩ => b = true ↔ (k = 5 ∨ k = 6)) ?_ fun ⟨b⟩ hc17 => ?_
     ·refine LWp.sz hT hW ?_
      simp
      refine LWp.iff ?_
      simp
      refine ⟨fun h15 => ?_, fun h15 => ?_⟩
      ·refine LWp.skip ?_
       simp
       refine cutQ.mk ⟨decide (k = 5)⟩ (Weak.to [2, 3, 4, 25, 58] [(2, 2), (4, 4), (15, 15)] (by decide) (by decide) (by simp [hp]) (by simp) (by simp)) ?_
       simp [h15]
      ·refine LWp.rz hT hW ?_
       simp
       refine cutQ.mk ⟨decide (k = 6)⟩ (Weak.to [2, 3, 4, 25, 58] [(2, 2), (4, 4), (15, 15)] (by decide) (by decide) (by simp [hp]) (by simp) (by simp)) ?_
       simp only [decide_eq_true_eq]; omega
     ·refine LWp.iff ?_
      simp
      refine ⟨fun h17 => ?_, fun h17 => ?_⟩
      ·have q17 := hc17.1 h17
       refine LWp.sz hT hW ?_
       simp
       refine LWp.nlCell (fz := false) (cs := [.d (I64 8), .d (.str []), .d (I64 0), .nl]) 8 3 1077 4 (by decide) ⟨by simp, by simp, by simp, ?_⟩
       simp
       refine LWp.seq ?_
       refine LWp.block ?_
       refine LWp.loopW (ι := SmS) (fun ⟨m, ks, j⟩ => mkEnv [(2, .bx 2 0), (3, .bx 15 0), (4, .bx 4 0), (8, .bx 8 0)]) (fun ⟨m, ks, j⟩ => mkObs [(2, .box false [.d (I64 0), .d (.str []), .d (I64 0), .nl]), (4, .box false [.d (I64 k), .d (.str t), .d (I64 0), .nl]), (8, .box false [.d (I64 8), .d (.str []), .d (I64 0), .ow 1077 0 ks.length]), (15, .box false [.d (.sl (L.map I64)), .d (I64 (j : Nat))]), (1077, .row false 4 (ks.map Nd.d))]) (fun ⟨m, ks, j⟩ => j ≤ 3000 ∧ L.length ≤ m + j ∧ ks.length ≤ j ∧ bodyM L L.length [] 2 = bodyM L m ks j) (fun ⟨m, ks, j⟩ => L.length - j) ⟨L.length, [], 2⟩ (Weak.to [2, 3, 4, 8] [(2, 2), (4, 4), (8, 8), (15, 15), (1077, 1077)] (by decide) (by decide) (by simp [hp]) (by simp) (by simp)) (⟨by omega, by omega, by simp, rfl⟩) fun ⟨m, ks, j⟩ hi18 => ?_
       refine LWp.seq ?_
       refine LWp.seq ?_
       refine LWp.regAny hT hW hMixed (lk [[],[0],[0,1],[0,1,2],[],[4],[4,5],[4,5,6],[4,5,6,7],[0,1,2,3,4,5,6,7,8]]) (lk [[],[],[],[],[],[],[],[],[],[]]) (lk [[],[],[],[],[],[],[],[],[],[]]) (by kernel_rfl) (fun _ => none) (fun _ => ⟨rfl, fun _ h => h⟩) ?_
       simp
       refine LWp.iff ?_
       simp
       refine ⟨fun h18 => ?_, fun h18 => ?_⟩
       ·refine LWp.skip ?_
        simp
        refine LWp.block ?_
        have h19 := MOne_ok L hL (by omega) 2 (by omega) 5000 (by omega) j (by omega)
        have hup := one_up L 2 j
        have hto := one_to L 2 j
        have hto2 := oneTo_le (d := 2) (by omega)
        have hkl := hi18.2.2.1
        refine LWp.regAny hT hW hMixed (lk [[],[0],[],[2],[2,3],[0,1,2,3,4],[0,1,2,3,4,5],[0,1,2,3,4,5,6]]) (lk [[15,76],[15,76],[],[],[],[],[],[]]) (lk [[],[],[],[15],[76],[77,1077],[],[8]]) (by kernel_rfl) (fun | 75 => some (.gen ⟨[(15, 0)], [], [], mkH L (oneM L 2 j).2, .d (oneM L 2 j).1.d⟩) | _ => none) (by intro d; first | exact ⟨rfl, fun _ h => h⟩ | (split <;> exact ⟨rfl, fun _ h => h⟩)) ?_
        simp
        refine ⟨by (repeat' with_reducible apply And.intro) <;> first | omega | (simpa using h19), ?_⟩
        refine loopQ.mk ⟨m - 1, ks ++ [(oneM L 2 j).1], (oneM L 2 j).2⟩ (Weak.to [2, 3, 4, 8] [(2, 2), (4, 4), (8, 8), (15, 15), (77, 1077)] (by decide) (by decide) (by simp [hp]) (by simp) (by simp)) ?_ ?_
        ·refine ⟨(show (oneM L 2 j).2 ≤ 3000 by omega), (show L.length ≤ m - 1 + (oneM L 2 j).2 by omega), (by rw [List.length_append, List.length_singleton]; show ks.length + 1 ≤ (oneM L 2 j).2; omega), ?_⟩
         rw [hi18.2.2.2, body_go (by omega) (by omega)]
        ·show L.length - (oneM L 2 j).2 < L.length - j
         omega
       ·refine LWp.exit ?_
        simp
        refine LWp.rz hT hW ?_
        simp
        refine exWeak (Weak.shutBox 4 [80] (fz := false) (cs := [.d (I64 k), .d (.str t), .d (I64 0), .ow 80 0 1]) (ds := [I64 k, .str t, I64 0, .sl [(Nd.mk 8 [] 0 ks).d]]) (by simp) (by simp) (by simp) (by simp [LObj.mut])) ?_
        simp
        refine cutQ.mk ⟨.mk k t 0 [.mk 8 [] 0 ks]⟩ (Weak.to [2, 4] [(2, 2), (4, 4)] (by decide) (by decide) (by simp [hp]) (by simp) (by simp)) ?_
        rw [tree_proc hk ht q17, hi18.2.2.2, body_end (by omega)]
      ·have q17 : ¬ (k = 5 ∨ k = 6) := fun q => by simp [hc17.2 q] at h17
       refine LWp.skip ?_
       simp
       refine exWeak (Weak.shutBox 4 [] (fz := false) (cs := [.d (I64 k), .d (.str t), .d (I64 0), .nl]) (ds := [I64 k, .str t, I64 0, .sl []]) (by simp) (by simp) (by simp) (by simp [LObj.mut])) ?_
       simp
       refine cutQ.mk ⟨.mk k t 0 []⟩ (Weak.to [2, 4] [(2, 2), (4, 4)] (by decide) (by decide) (by simp [hp]) (by simp) (by simp)) ?_
       exact tree_else hk ht h4 h6 h8 q17
 ·refine LWp.sz hT hW ?_
  simp
  refine LWp.ret ?_
  have e : treeS l = x := htr.trans hc21
  simp [e]
end
open Go.Proofs
section
attribute [local simp] Res.cond Nd.d_eq nd_t nd_dr nd_td ndsD evalIndex constL1 upds_same one_i one_s one_l all4
def I64r (n : Int) : Prop := -9223372036854775808 ≤ n ∧ n ≤ 9223372036854775807
theorem tdiv_r {a : Int} {m : Nat} (h : I64r a) : I64r (a.tdiv ((m : Int) + 1)) := by
 unfold I64r at *
 have h1 : (a.tdiv ((m : Int) + 1)).natAbs ≤ a.natAbs := by rw [Int.natAbs_tdiv]; exact Nat.div_le_self _ _
 by_cases h0 : 0 ≤ a
 ·have := Int.tdiv_nonneg h0 (show (0 : Int) ≤ (m : Int) + 1 by omega)
  omega
 ·have h2 : a.tdiv ((m : Int) + 1) ≤ 0 := by
   obtain ⟨b, rfl⟩ : ∃ b, a = -b := ⟨-a, by omega⟩
   rw [Int.neg_tdiv]
   have := Int.tdiv_nonneg (show (0 : Int) ≤ b by omega) (show (0 : Int) ≤ (m : Int) + 1 by omega)
   omega
  omega
end
end Go.Eng
namespace Go.Eng
open Go.Proofs
theorem own_len (L : List Int) (i : Nat) : (ownM L i).length ≤ 16 := by
 unfold ownM
 have : ∀ k : Nat, (ownL.getD k []).length ≤ 16 := fun k => by
  rw [List.getD_eq_getElem?_getD]
  cases e : ownL[k]? with
  | none => simp
  | some w =>
   have := List.mem_of_getElem? e
   exact (by decide : ∀ w ∈ ownL, w.length ≤ 16) w this
 exact this _
theorem weigh_leaf (k : Int) (t : Str) (n : Int) : weighN (.mk k t n []) = t.length + 1 := by simp [weighN, weighL]
theorem place_weigh (L : List Int) (i : Nat) : weighN (placeM L i).1 ≤ 34 := by
 have h1 := callM_len L (i + 1)
 have h2 := callM_len L (i + 2)
 unfold placeM
 split <;> simp only [weigh_leaf, List.length_append, List.length_cons] <;> omega
theorem value_weigh (L : List Int) : ∀ (d i : Nat), weighN (valueM L d i).1 + 1 ≤ 35 * 2 ^ d := fun d => by
 induction d with
 | zero =>
  intro i
  obtain ⟨r0, _, r2⟩ := valK_range L 0 i
  have r2 := r2 rfl
  have ho := own_len L (i + 1)
  have hp := place_weigh L (i + 1)
  by_cases h0 : valK L 0 i = 0 ∨ valK L 0 i = 1
  ·rw [value_num h0]; simp [weigh_leaf]
  ·by_cases h1 : valK L 0 i = 2
   ·rw [value_loc h1]; simp only [weigh_leaf]; omega
   ·by_cases h2 : valK L 0 i = 3 ∨ valK L 0 i = 4
    ·rw [value_place h2]; omega
    ·rw [value_kind (by omega)]; simp [weigh_leaf]
 | succ e ih =>
  intro i
  have hp1 : 1 ≤ 2 ^ e := Nat.one_le_two_pow
  have h2 : 2 ^ (e + 1) = 2 * 2 ^ e := by rw [Nat.pow_succ, Nat.mul_comm]
  have ho := own_len L (i + 1)
  have hp := place_weigh L (i + 1)
  obtain ⟨r0, _, _⟩ := valK_range L (e + 1) i
  by_cases h0 : valK L (e + 1) i = 0 ∨ valK L (e + 1) i = 1
  ·rw [value_num h0]; simp only [weigh_leaf, List.length_nil]; omega
  ·by_cases h1 : valK L (e + 1) i = 2
   ·rw [value_loc h1]; simp only [weigh_leaf]; omega
   ·by_cases h3 : valK L (e + 1) i = 3 ∨ valK L (e + 1) i = 4
    ·rw [value_place h3]; omega
    ·by_cases h4 : valK L (e + 1) i = 5
     ·rw [value_kind h4]; simp only [weigh_leaf, List.length_nil]; omega
     ·rw [value_bin (by omega)]
      have a := ih (i + 1)
      have b := ih (valueM L e (i + 1)).2
      simp only [weighN, weighL, List.length_nil]
      omega
theorem oneB_weigh {L : List Int} {d i C : Nat} {bl : Nat → Nd × Nat} (hb : ∀ j, weighN (bl j).1 ≤ C) : weighN (oneB L d bl i).1 ≤ 200 + 2 * C := by
 rw [oneB_eq rfl]
 have v1 := fun j => value_weigh L 1 j
 have v2 := fun j => value_weigh L 2 j
 have pl := place_weigh L (i + 1)
 have cl := callM_len L (i + 1)
 have ol := own_len L (i + 1)
 have ol2 := own_len L (i + 1 + 1)
 unfold oneC
 have a1 := v1 (i + 1)
 have a2 := v1 (i + 1 + 1)
 have a3 := v2 (i + 1)
 have a4 := v2 (i + 1 + 1)
 have a5 := v2 (placeM L (i + 1)).2
 have b1 := hb (valueM L 1 (i + 1)).2
 have b2 := hb ((bl (valueM L 1 (i + 1)).2).2 + 1)
 simp only [Nat.reducePow, Nat.reduceMul] at *
 repeat (first | (simp only [weighN, weighL, List.length_nil]; omega) | split)
theorem somes_weigh {L : List Int} {st : Nat → Nd × Nat} {C : Nat} (h : ∀ j, weighN (st j).1 ≤ C) : ∀ (m : Nat) (ks : List Nd) (j : Nat), weighL (somesM L st m ks j).1 ≤ weighL ks + m * C
 | 0, ks, j => by simp [somesM]
 | m + 1, ks, j => by
  unfold somesM
  split
  ·simp
  ·have a := somes_weigh (L := L) h m (ks ++ [(st j).1]) (st j).2
   have b := h j
   rw [weighL_append] at a
   simp only [weighL] at a
   rw [Nat.succ_mul]
   omega
theorem some_weigh {L : List Int} {st : Nat → Nd × Nat} {C : Nat} (h : ∀ j, weighN (st j).1 ≤ C) (i : Nat) : weighN (someM L st i).1 ≤ 1 + 3 * C := by
 have hr := atL_range L i 4 (by decide)
 have a := somes_weigh (L := L) h (atL L i 4).toNat [] (i + 1)
 have b : (atL L i 4).toNat * C ≤ 3 * C := Nat.mul_le_mul_right C (by omega)
 show weighN (.mk 8 [] 0 (somesM L st (atL L i 4).toNat [] (i + 1)).1) ≤ _
 simp only [weighN, weighL, List.length_nil] at *
 omega
def oneWt : Nat → Nat
 | 0 => 204
 | d + 1 => 200 + 2 * (1 + 3 * oneWt d)
theorem one_weigh (L : List Int) : ∀ d i, weighN (oneM L d i).1 ≤ oneWt d
 | 0, i => by
  rw [oneM]
  exact oneB_weigh (C := 2) fun j => by show weighN default ≤ 2; decide
 | d + 1, i => by
  rw [oneM]
  exact oneB_weigh (C := 1 + 3 * oneWt d) fun j => some_weigh (one_weigh L d) j
theorem body_weigh (L : List Int) : ∀ (m : Nat) (ks : List Nd) (j : Nat), weighL (bodyM L m ks j) ≤ weighL ks + m * oneWt 2
 | 0, ks, j => by simp [bodyM]
 | m + 1, ks, j => by
  unfold bodyM
  split
  ·simp
  ·have a := body_weigh L m (ks ++ [(oneM L 2 j).1]) (oneM L 2 j).2
   have b := one_weigh L 2 j
   rw [weighL_append] at a
   simp only [weighL] at a
   rw [Nat.succ_mul]
   omega
theorem items_weigh (L : List Int) : ∀ c, weighL (itemsM L c) ≤ 17 * c
 | 0 => Nat.le_refl _
 | c + 1 => by
  have a := items_weigh L c
  have b := callM_len L (3 + 2 * c)
  rw [itemsM, weighL_append]
  simp only [weighL, weigh_leaf]
  omega
theorem tree_weigh (l : List Int) : weighN (treeS l) ≤ 1000000 := by
 have hl : (l.take 48).length ≤ 48 := by rw [List.length_take]; omega
 have cl := callM_len (l.take 48) 1
 have r4 := atL_range (l.take 48) 2 4 (by decide)
 have bw := body_weigh (l.take 48) (l.take 48).length [] 2
 have b2 : (l.take 48).length * oneWt 2 ≤ 48 * oneWt 2 := Nat.mul_le_mul_right _ hl
 have b3 : oneWt 2 = 8758 := rfl
 have iw := items_weigh (l.take 48) (atL (l.take 48) 2 4).toNat
 unfold treeS treeB
 simp only []
 simp only [weighL] at bw
 repeat (first | (simp only [weighN, weighL, List.length_nil]; omega) | split)
def lvA : Str := [118, 97, 114, 32, 110, 61, 45, 55, 59]
def lvB : Str := [112, 114, 111, 99, 32, 112, 123, 36, 97, 61, 40, 120, 46, 121, 43, 49, 41, 42, 50, 59, 105, 102, 32, 36, 97, 60, 51, 123, 103, 111, 32, 113, 59, 125, 101, 108, 115, 101, 123, 125, 125]
def lvC : Str := [116, 101, 115, 116, 32, 116, 32, 123, 32, 99, 104, 101, 99, 107, 32, 49, 32, 61, 61, 32, 107, 105, 110, 100, 59, 32, 125]
def lvP : Str := [112, 114, 111, 99, 32, 112, 32, 123, 32, 36, 97, 32, 61, 32, 40, 120, 46, 121, 32, 43, 32, 49, 41, 32, 42, 32, 50, 59, 32, 105, 102, 32, 36, 97, 32, 60, 32, 51, 32, 123, 32, 103, 111, 32, 113, 59, 32, 125, 32, 101, 108, 115, 101, 32, 123, 32, 125, 32, 125]
def lvK : Nd := .mk 24 [] 0 [.mk 28 [] 0 [.mk 32 [] 1 [], .mk 36 [] 0 []]]
def lvT : List Str := [[99, 104, 97, 110, 32, 99, 32, 52, 59], [116, 101, 115, 116, 32, 116, 32, 123, 32, 120, 32, 61, 32, 59, 32, 125], [108, 111, 99, 107, 32, 108], [118, 97, 114, 32, 114, 101, 97, 100, 32, 61, 32, 49, 59]]
def lvO : List Int := [7, 13, 6, 4]
set_option maxRecDepth 10000
theorem lvA_parse : parseS lvA = (.mk 0 [110] (-7) [], 0, 0) := by decide
theorem lvA_print : printS (.mk 0 [110] (-7) []) = [118, 97, 114, 32, 110, 32, 61, 32, 45, 55, 59] := by decide
theorem lvB_parse : (parseS lvB).2 = (0, 0) := by decide
theorem lvB_size : sizeN (parseS lvB).1 = 15 := by decide
theorem lvB_weigh : weighN (parseS lvB).1 ≤ 1000 := by decide
theorem lvB_print : printS (parseS lvB).1 = lvP := by decide
theorem lvC_parse : parseS lvC = (.mk 6 [116] 0 [.mk 8 [] 0 [lvK]], 0, 0) := by decide
theorem lvC_head : headK (.mk 6 [116] 0 [.mk 8 [] 0 [lvK]]) = 6 ∧ headT (.mk 6 [116] 0 [.mk 8 [] 0 [lvK]]) = [116] := by decide
theorem lvT_parse : ∀ i, i < 4 → (parseS (lvT.getD i [])).2 = (lvO.getD i 0, if i = 0 then 5 else 2) := by decide
end Go.Eng
namespace Go.Eng
open Go.Proofs
attribute [local simp] runL stepL evalG evalOp opLV constLV putEnv dstOk upd upds Res.plain Res.cond Res.fail evalBin evalUn seqQ blockQ argsEnv lookL lookH RetIs memless freshL evalPick evalMin bval bok evalLen evalIn strip whenC guardOps guardC slotsOf
 runM foldS stepI stepM maskE wrIn lk renO lookN evalCall evalCallee optAll resLV resObj retLV retObj retsLV retsObj evalLoad evalIndexAddr evalField solid cellsD_agg cellsD_int cellsD_bool cellsD_str cellsD_sl cellsD_ro cellsD_fn cellsL_agg cellsL_dagg cellsL_int cellsL_bool cellsL_str cellsL_sl cellsL_fn cellsL_ow cellsL_bx cellsL_lfn cellsL_nl takeL takeD mkAgg allD eqD eqDs kindsAre kindIs LObj.live TK.isNone TK.agg TK.isBool TK.isStr TK.isStruct Op.operands Call.operands
 evalBuildSlice evalAppend elemsOf evalStore evalBuild fillL lookupF putL evalSlice bound evalConv elemsS freezes frozen loadR
 mkEnv_at mkObs_at close_d close_agg close_ow close_bx close_fn close_nl touch_d touch_agg touch_ow touch_bx touch_fn touch_nl ren_d ren_agg ren_bx ren_rp ren_ow ren_fn ren_nl ren_junk retQ_ret retQ2_ret condQ_bool Nm.d Df.d Ed.d nmsD dfsD strsD edsD retC_ret nm_eq df_eq take_map_len take_map_app
 nm_t nm_d nm_td df_t df_d df_td str_t str_d str_td ed_t ed_d ed_td
 evalAppendIn evalBuildSliceC evalCopyC shortL evalApart evalAppendC evalAppendZ evalAppendG evalCapC isOc TK.isInt close_oc touch_oc ren_oc cellsL_oc evalCut evalClear evalCopy evalMake evalWrap evalCap evalNil isNilC lenL isInp gorc gorc2
 mapOf findD keyEq keyOk evalMakeMap evalRange zeroD zeroDV argsG shutG outN lenv retG0_ret retG0_normal retG1_ret retGR_ret renO close_mp touch_mp ren_mp optAll_d optAll_d' touch_ds cellsL_mp cellsD_mp cellsL_dmp
 evalMapSet evalPtr TK.isPtr evalToArr firstL retN_ret retsQ rvarL close_bm touch_bm ren_bm cellsD_bm cellsL_bm cellsL_lbm
attribute [local simp] cutQ_normal cutQ_ret cutQ_exit
section
attribute [local simp] Res.cond Nd.d_eq nd_t nd_dr nd_td ndsD evalIndex retGC_ret tksD psH upds_same
theorem parse_left {s : Str} {R : Nd × PS} (hR : defP false ⟨(scanS s).1, 0⟩ = R) (hl : s.length ≤ 1024) {x : Tk} {r : List Tk} (h : R.2.l = x :: r) : parseS s = (zeroNd, x.at_, if R.2.e ≠ 0 then R.2.e else 2) := by
 unfold parseS; rw [if_neg (by omega)]; simp only []; rw [hR, h]
theorem parse_short {s : Str} {R : Nd × PS} (hR : defP false ⟨(scanS s).1, 0⟩ = R) (hl : s.length ≤ 1024) (h : R.2.l = []) (h2 : ¬ R.2.e = 0 ∨ (scanS s).2 < s.length) : parseS s = (zeroNd, (scanS s).2, 2) := by
 unfold parseS; rw [if_neg (by omega)]; simp only []; rw [hR, h]; simp only []; rw [if_pos h2]
theorem parse_end {s : Str} {R : Nd × PS} (hR : defP false ⟨(scanS s).1, 0⟩ = R) (hl : s.length ≤ 1024) (h : R.2.l = []) (h2 : ¬ (¬ R.2.e = 0 ∨ (scanS s).2 < s.length)) : parseS s = if validB R.1 then (R.1, 0, 0) else (zeroNd, 0, 4) := by
 unfold parseS; rw [if_neg (by omega)]; simp only []; rw [hR, h]; simp only []; rw [if_neg h2]
theorem Parse_step (s : Str) (R : Nd × PS) (hR : defP false ⟨(scanS s).1, 0⟩ = R) (hD : s.length ≤ 1024 → OkG Tryz.prog 52 [.bx 0 0] (psH ⟨(scanS s).1, 0⟩) (psH R.2) (.d R.1.d)) (hw : s.length ≤ 1024 → weighN R.1 ≤ 1000000000) : Ok Tryz.prog 25 [.str s] ⟨.tup [.d (parseS s).1.d, .d (I64 (parseS s).2.1), .d (I64 (parseS s).2.2)], false⟩ := by
 refine Ok.many hT Tryz.func25 (by kernel_rfl) (c := _) rfl Tryz.ntmps25 (by simp) Tryz.results25 (by simp) (by rfl) fun w0 X hp => ?_
 refine LWp.sz hT hW ?_
 simp
 refine LWp.seq ?_
 refine LWp.sz hT hW ?_
 simp
 refine LWp.iff ?_
 simp
 refine ⟨fun h1 => ?_, fun h1 => ?_⟩
 ·refine LWp.sz hT hW ?_
  simp
  refine LWp.ret ?_
  have e : parseS s = (zeroNd, 1024, 4) := by unfold parseS; rw [if_pos (by omega)]
  simp [e, zeroNd]
 ·refine LWp.skip ?_
  simp
  refine LWp.seq ?_
  have hs := scan_ok s (by omega)
  refine LWp.ro hT hW (fun | 15 => some <| .plain ⟨.tup [.d (.sl ((scanS s).1.map Tk.d)), .d (I64 (scanS s).2)], true⟩ | _ => none) ?_
  simp [evalExtract]
  refine ⟨hs, ?_⟩
  refine LWp.sz hT hW ?_
  simp
  refine LWp.seq ?_
  have hd := hD (by omega)
  refine LWp.ro hT hW (fun | 22 => some (.gen ⟨[(20, 0)], [], [], psH R.2, .d R.1.d⟩) | _ => none) ?_
  simp
  refine ⟨by simpa using hd, ?_⟩
  refine LWp.seq ?_
  refine LWp.block ?_
  refine LWp.sz hT hW ?_
  simp
  refine LWp.iff ?_
  simp
  refine ⟨fun g1 g2 => ?_, fun g => ?_⟩
  ·refine LWp.seq ?_
   obtain ⟨x, r, hxr⟩ := List.exists_cons_of_length_pos g2
   have hx2 : (cellsD x.d).length = 2 := rfl
   refine LWp.regAny hT hW hMixed (lk [[],[],[1],[1,2],[1,2,3],[1,2,3,4],[1,2,3,4,5],[1,2,3,4,5,6],[],[8],[8,9],[8,9,10],[0],[0,1,2,3,4,5,6,7,12],[0,1,2,3,4,5,6,7,8,9,10,11,12,13]]) (lk [[],[2],[2],[2],[2],[2],[2],[2],[2],[2],[2],[2],[],[],[]]) (lk [[],[],[],[],[],[],[],[],[],[],[],[],[2],[],[]]) (by kernel_rfl) (fun _ => none) (fun _ => ⟨rfl, fun _ h => h⟩) ?_
   simp [hxr, Tk.d]
   refine LWp.ret ?_
   have e := parse_left hR (by omega) hxr
   simp [e, zeroNd, g1]
  ·refine LWp.sz hT hW ?_
   simp
   refine LWp.iff ?_
   simp
   refine ⟨fun h8 => ?_, fun h8 => ?_⟩
   ·refine LWp.seq ?_
    obtain ⟨x, r, hxr⟩ := List.exists_cons_of_length_pos h8
    refine LWp.regAny hT hW hMixed (lk [[],[],[1],[1,2],[1,2,3],[1,2,3,4],[1,2,3,4,5],[1,2,3,4,5,6],[0],[0,1,2,3,4,5,6,7,8],[0,1,2,3,4,5,6,7,8,9]]) (lk [[],[2],[2],[2],[2],[2],[2],[2],[],[],[]]) (lk [[],[],[],[],[],[],[],[],[2],[],[]]) (by kernel_rfl) (fun _ => none) (fun _ => ⟨rfl, fun _ h => h⟩) ?_
    simp [hxr, Tk.d]
    refine LWp.ret ?_
    have e := parse_left hR (by omega) hxr
    have g9 : R.2.e = 0 := Classical.byContradiction fun q => by have := g q; rw [this] at hxr; cases hxr
    simp [e, zeroNd, g9]
   ·refine LWp.sz hT hW ?_
    simp
    refine LWp.iff ?_
    simp
    refine ⟨fun h10 => ?_, fun h10 h11 => ?_⟩
    ·refine LWp.sz hT hW ?_
     simp
     refine LWp.ret ?_
     have e := parse_short hR (by omega) h8 h10
     simp [e, zeroNd]
    ·refine LWp.seq ?_
     have hv := Valid_ok R.1 (hw (by omega))
     refine LWp.ro hT hW (fun | 80 => some <| .plain ⟨.d (.bool (validB R.1)), true⟩ | _ => none) ?_
     simp
     refine ⟨by simpa using hv, ?_⟩
     refine LWp.iff ?_
     simp
     refine ⟨fun h12 => ?_, fun h12 => ?_⟩
     ·refine LWp.sz hT hW ?_
      simp
      refine LWp.ret ?_
      have e := parse_end hR (by omega) h8 (by omega)
      simp [e, h12, zeroNd]
     ·refine LWp.skip ?_
      simp
      refine LWp.sz hT hW ?_
      simp
      refine LWp.ret ?_
      have e := parse_end hR (by omega) h8 (by omega)
      simp [e, h12]
end
end Go.Eng
namespace Go.Eng
open Go.Proofs
theorem Parse_ok (s : Str) : Ok Tryz.prog 25 [.str s] ⟨.tup [.d (parseS s).1.d, .d (I64 (parseS s).2.1), .d (I64 (parseS s).2.2)], false⟩ :=
 Parse_step s _ rfl (fun hl => def_ok ⟨(scanS s).1, 0⟩ (scanF_good _ _ _) (by have := scanF_len s.length s 0; show (scanF s.length s 0).1.length ≤ 1000000; omega)) fun hl => parse_weigh hl
end Go.Eng
namespace Go.Eng
open Go.Proofs
attribute [local simp] runL stepL evalG evalOp opLV constLV putEnv dstOk upd upds Res.plain Res.cond Res.fail evalBin evalUn seqQ blockQ argsEnv lookL lookH RetIs memless freshL evalPick evalMin bval bok evalLen evalIn strip whenC guardOps guardC slotsOf
 runM foldS stepI stepM maskE wrIn lk renO lookN evalCall evalCallee optAll resLV resObj retLV retObj retsLV retsObj evalLoad evalIndexAddr evalField solid cellsD_agg cellsD_int cellsD_bool cellsD_str cellsD_sl cellsD_ro cellsD_fn cellsL_agg cellsL_dagg cellsL_int cellsL_bool cellsL_str cellsL_sl cellsL_fn cellsL_ow cellsL_bx cellsL_lfn cellsL_nl takeL takeD mkAgg allD eqD eqDs kindsAre kindIs LObj.live TK.isNone TK.agg TK.isBool TK.isStr TK.isStruct Op.operands Call.operands
 evalBuildSlice evalAppend elemsOf evalStore evalBuild fillL lookupF putL evalSlice bound evalConv elemsS freezes frozen loadR
 mkEnv_at mkObs_at close_d close_agg close_ow close_bx close_fn close_nl touch_d touch_agg touch_ow touch_bx touch_fn touch_nl ren_d ren_agg ren_bx ren_rp ren_ow ren_fn ren_nl ren_junk retQ_ret retQ2_ret condQ_bool Nm.d Df.d Ed.d nmsD dfsD strsD edsD retC_ret nm_eq df_eq take_map_len take_map_app
 nm_t nm_d nm_td df_t df_d df_td str_t str_d str_td ed_t ed_d ed_td
 evalAppendIn evalBuildSliceC evalCopyC shortL evalApart evalAppendC evalAppendZ evalAppendG evalCapC isOc TK.isInt close_oc touch_oc ren_oc cellsL_oc evalCut evalClear evalCopy evalMake evalWrap evalCap evalNil isNilC lenL isInp gorc gorc2
 mapOf findD keyEq keyOk evalMakeMap evalRange zeroD zeroDV argsG shutG outN lenv retG0_ret retG0_normal retG1_ret retGR_ret renO close_mp touch_mp ren_mp optAll_d optAll_d' touch_ds cellsL_mp cellsD_mp cellsL_dmp
 evalMapSet evalPtr TK.isPtr evalToArr firstL retN_ret retsQ rvarL close_bm touch_bm ren_bm cellsD_bm cellsL_bm cellsL_lbm
attribute [local simp] cutQ_normal cutQ_ret cutQ_exit
section
set_option maxRecDepth 10000
set_option maxHeartbeats 4000000
attribute [local simp] Res.cond Nd.d_eq nd_t nd_dr nd_td ndsD evalIndex constL1 upds_same one_i one_s one_l all4
theorem lvT_at {i : Nat} {s : Str} (hi : i < 4) (hs : lvT.getD i [] = s) : (lvT.map DV.str)[i]?.getD default = .str s := by
 have hk : i < lvT.length := hi
 subst hs
 rw [List.getElem?_map, List.getElem?_eq_getElem hk]
 simp [List.getD_eq_getElem?_getD, hk]
theorem lvO_at {i : Nat} {o : Int} (hi : i < 4) (hs : lvO.getD i 0 = o) : (lvO.map I64)[i]?.getD default = I64 o := by
 have hk : i < lvO.length := hi
 subst hs
 rw [List.getElem?_map, List.getElem?_eq_getElem hk]
 simp [List.getD_eq_getElem?_getD, hk]
theorem lives06_ok  : Ok Tryz.prog 20 [] ⟨.d (.bool true), true⟩ := by
 refine Ok.ret Tryz.func20 (by kernel_rfl) (c := _) rfl Tryz.ntmps20 (by simp) Tryz.results20 (by intro _ h; cases h) fun w0 X hp => ?_
 obtain ⟨TL, hTL⟩ : ∃ TL, lvT.map DV.str = TL := ⟨_, rfl⟩
 obtain ⟨OL, hOL⟩ : ∃ OL, lvO.map I64 = OL := ⟨_, rfl⟩
 have lT : TL.length = 4 := by rw [← hTL]; rfl
 have lO : OL.length = 4 := by rw [← hOL]; rfl
 have pA := Parse_ok lvA
 have pB := Parse_ok lvB
 have pC := Parse_ok lvC
 rw [lvA_parse] at pA
 rw [lvB_parse] at pB
 rw [lvC_parse] at pC
 obtain ⟨B, hB⟩ : ∃ B, (parseS lvB).1 = B := ⟨_, rfl⟩
 obtain ⟨K, hK⟩ : ∃ K, lvK = K := ⟨_, rfl⟩
 have hK24 : K.kind = 24 := by rw [← hK]; rfl
 have sB := lvB_size
 have wB := lvB_weigh
 have tB := lvB_print
 have hC := lvC_head
 have wC : weighN (.mk 6 [116] 0 [.mk 8 [] 0 [K]]) ≤ 1000000000 := by rw [← hK]; decide
 rw [hB] at pB sB wB tB
 rw [hK] at pC hC
 have kB := size_ok B (by omega)
 have nB := Print_ok B (by omega)
 have nA := Print_ok (.mk 0 [110] (-7) []) (by decide)
 have dC := Head_ok (.mk 6 [116] 0 [.mk 8 [] 0 [K]]) wC
 rw [sB] at kB
 rw [tB] at nB
 rw [lvA_print] at nA
 rw [hC.1, hC.2] at dC
 simp [lvA] at pA
 simp [lvB] at pB
 simp [lvC] at pC
 simp at kB nB nA dC
 refine LWp.sz hT hW ?_
 simp
 refine LWp.so hT hW (fun | 19 => some <| .plain ⟨.tup [.d (Nd.mk 0 [110] (-7) []).d, .d (I64 0), .d (I64 0)], false⟩ | _ => none) ?_
 simp [evalExtract]
 refine ⟨pA, ?_⟩
 refine LWp.so hT hW (fun | 24 => some <| .plain ⟨.tup [.d B.d, .d (I64 0), .d (I64 0)], false⟩ | _ => none) ?_
 simp [evalExtract]
 refine ⟨pB, ?_⟩
 refine LWp.so hT hW (fun | 29 => some <| .plain ⟨.tup [.d (Nd.mk 6 [116] 0 [.mk 8 [] 0 [K]]).d, .d (I64 0), .d (I64 0)], false⟩ | _ => none) ?_
 simp [evalExtract]
 refine ⟨pC, ?_⟩
 refine LWp.sz hT hW ?_
 simp
 refine ⟨by decide, ?_⟩
 refine LWp.weak (Weak.close 10 (x := .sl TL) (by simp [← hTL, lvT])) ?_
 simp
 refine LWp.sz hT hW ?_
 simp
 refine ⟨by decide, ?_⟩
 refine LWp.weak (Weak.close 11 (x := .sl OL) (by simp [← hOL, lvO])) ?_
 simp
 refine LWp.seq ?_
 refine LWp.sz hT hW ?_
 simp
 refine LWp.block ?_
 refine LWp.loopW (ι := Nat) (fun i => mkEnv [(1, .bx 1 0), (3, .d (I64 0)), (4, .bx 4 0), (6, .d (I64 0)), (7, .bx 7 0), (9, .d (I64 0)), (10, .d (.sl TL)), (11, .d (.sl OL)), (12, .d (I64 (i : Nat)))]) (fun i => mkObs [(1, .box false [.d (I64 0), .d (.str [110]), .d (I64 (-7)), .d (.sl [])]), (4, .box false [.d (I64 B.kind), .d (.str B.text), .d (I64 B.n), .d (ndsD B.kids)]), (7, .box false [.d (I64 6), .d (.str [116]), .d (I64 0), .d (.sl [.agg [I64 8, .str [], I64 0, .sl [.agg [I64 K.kind, .str K.text, I64 K.n, .sl (K.kids.map Nd.d)]]]])])]) (fun i => i ≤ 4) (fun i => 4 - i) 0 (Weak.to [1, 3, 4, 6, 7, 9, 10, 11, 12] [(1, 1), (4, 4), (7, 7)] (by decide) (by decide) (by simp [hp]) (by simp) (by simp)) (Nat.zero_le _) fun i hi7 => ?_
 refine LWp.seq ?_
 refine LWp.sz hT hW ?_
 simp
 refine LWp.iff ?_
 simp
 refine ⟨fun h7 => ?_, fun h7 => ?_⟩
 ·refine LWp.skip ?_
  simp
  refine LWp.seq ?_
  refine LWp.block ?_
  refine LWp.seq ?_
  have hi : i < 4 := by omega
  obtain ⟨s, hs⟩ : ∃ s, lvT.getD i [] = s := ⟨_, rfl⟩
  obtain ⟨o, ho⟩ : ∃ o, lvO.getD i 0 = o := ⟨_, rfl⟩
  have hsa := lvT_at hi hs
  have hoa := lvO_at hi ho
  have hps := Parse_ok s
  have hpe := lvT_parse i hi
  rw [hs, ho] at hpe
  rw [hTL] at hsa
  rw [hOL] at hoa
  rw [hpe] at hps
  simp at hps
  obtain ⟨Y, hY⟩ : ∃ Y, (parseS s).1 = Y := ⟨_, rfl⟩
  rw [hY] at hps
  refine LWp.ro hT hW (fun | 44 => some <| .plain ⟨.tup [.d Y.d, .d (I64 o), .d (I64 (if i = 0 then 5 else 2))], false⟩ | _ => none) ?_
  simp [evalExtract, hsa]
  refine ⟨⟨by omega, hps⟩, ?_⟩
  refine LWp.sz hT hW ?_
  simp [hoa]
  refine ⟨by omega, ?_⟩
  refine LWp.iff ?_
  simp
  refine ⟨fun a b => absurd b (by omega), fun _ => ?_⟩
  refine LWp.skip ?_
  simp
  refine LWp.rz hT hW ?_
  simp
  refine ⟨by omega, ?_⟩
  refine loopQ.mk (i + 1) (Weak.to [1, 3, 4, 6, 7, 9, 10, 11, 12] [(1, 1), (4, 4), (7, 7)] (by decide) (by decide) (by simp [hp]) (by simp) (by simp)) ?_ ?_
  ·omega
  ·omega
 ·refine LWp.exit ?_
  simp
  refine LWp.seq ?_
  refine LWp.so hT hW (fun | 93 => some <| .plain ⟨.d (I64 15), true⟩ | _ => none) ?_
  simp
  refine ⟨kB, ?_⟩
  refine LWp.iff ?_
  simp
  refine LWp.skip ?_
  simp
  refine LWp.so hT hW (fun | 98 => some <| .plain ⟨.tup [.d (I64 6), .d (.str [116])], true⟩ | _ => none) ?_
  simp [evalExtract]
  refine ⟨dC, ?_⟩
  refine LWp.so hT hW (fun | 102 => some <| .plain ⟨.d (.str [118, 97, 114, 32, 110, 32, 61, 32, 45, 55, 59]), true⟩ | 106 => some <| .plain ⟨.d (.str lvP), true⟩ | _ => none) ?_
  simp
  refine ⟨⟨nA, nB⟩, ?_⟩
  refine LWp.ret ?_
  simp [lvP, hK24]
end
open Go.Proofs
section
attribute [local simp] Res.cond Nd.d_eq nd_t nd_dr nd_td ndsD evalIndex
def repS (w : Str) : Nat → Str
 | 0 => []
 | n + 1 => repS w n ++ w
theorem parse_wt (s : Str) : weighN (parseS s).1 ≤ 1000000000 := by
 by_cases h : 1024 < s.length
 ·unfold parseS; rw [if_pos h]; decide
 ·obtain ⟨R, hR⟩ : ∃ R, defP false ⟨(scanS s).1, 0⟩ = R := ⟨_, rfl⟩
  have hw := parse_weigh (s := s) (by omega)
  rw [hR] at hw
  unfold parseS; rw [if_neg h]; simp only []; rw [hR]
  have z : weighN zeroNd ≤ 1000000000 := by decide
  split
  ·exact z
  ·split
   ·exact z
   ·split
    ·exact hw
    ·exact z
theorem same_refl (x : Nd) : sameN x x = true := (sameN_iff x x).2 rfl
theorem repS_0 (w : Str) : repS w 0 = [] := rfl
attribute [local simp] repS_0
theorem Short_ok (s : Str) (n : Nat) (hl : s.length ≤ 9223372036854775807) : Ok Tryz.prog 24 [.str s, I64 n] ⟨.d (.str (s.take n)), true⟩ := by
 refine Ok.ret Tryz.func24 (by kernel_rfl) (c := _) rfl Tryz.ntmps24 (by simp) Tryz.results24 (by intro _ h; cases h) fun w0 X hp => ?_
 refine LWp.sz hT hW ?_
 simp
 refine LWp.seq ?_
 refine LWp.sz hT hW ?_
 simp
 refine LWp.iff ?_
 simp
 refine ⟨fun h1 => ?_, fun h1 => ?_⟩
 ·refine LWp.sz hT hW ?_
  simp
  refine ⟨by omega, ?_⟩
  refine LWp.ret ?_
  simp
 ·refine LWp.skip ?_
  simp
  refine LWp.sz hT hW ?_
  simp
  refine LWp.ret ?_
  simp
  exact (List.take_of_length_le (by omega)).symm
end
open Go.Proofs
section
attribute [local simp] Res.cond Nd.d_eq nd_t nd_dr nd_td ndsD evalIndex
theorem spaced_0 (T : List Tk) (l : List Int) : spacedTo T l 0 = [] := rfl
attribute [local simp] spaced_0
def spB (out w : Str) (k : Int) (i : Nat) : Bool :=
 decide (k < 3) || (match out.getLast? with
   | none => false
   | some c => (firstIs letterB w || firstIs digitB w) && decide (c ≠ 32) && decide (c ≠ 10) && !signB c) || (decide (0 < i) && (decide (w = [61]) || decide (w = [61, 61])))
theorem spaced_succ (T : List Tk) (l : List Int) (i : Nat) : spacedTo T l (i + 1) = (if spB (spacedTo T l i) (T.getD i default).text (atL l i 6) i = true then spacedTo T l i ++ sepsL.getD ((atL l i 6).tmod 3).toNat [] else spacedTo T l i) ++ (T.getD i default).text := rfl
theorem seps_row {m : Int} (h0 : 0 ≤ m) (h1 : m < 3) : ([DV.str [32], DV.str [10], DV.str [32, 32, 10, 32]] : List DV)[m.toNat]?.getD default = .str (sepsL.getD m.toNat []) := by
 have : m = 0 ∨ m = 1 ∨ m = 2 := by omega
 rcases this with rfl | rfl | rfl <;> rfl
theorem spB_iff {out w : Str} {k : Int} {i : Nat} {d : UInt8} (hd : out[out.length - 1]?.getD 0 = d) : spB out w k i = true ↔ ((k < 3 ∨ (((0 < out.length ∧ (firstIs letterB w = true ∨ firstIs digitB w = true)) ∧ ¬ (d.toNat : Int) = 32) ∧ ¬ (d.toNat : Int) = 10) ∧ ¬ d ∈ signs) ∨ 0 < i ∧ (w = [61] ∨ w = [61, 61])) := by
 unfold spB
 rw [List.getLast?_eq_getElem?]
 cases e : out[out.length - 1]? with
 | none =>
  have h0 : ¬ 0 < out.length := fun q => by rw [List.getElem?_eq_getElem (by omega)] at e; cases e
  simp [h0]
 | some c =>
  rw [e] at hd
  have hd : c = d := hd
  subst hd
  have h0 : 0 < out.length := by
   have := (List.getElem?_eq_some_iff.1 e).1
   omega
  have e1 : (c.toNat : Int) = 32 ↔ c = 32 := by rw [← UInt8.toNat_inj]; have : (32 : UInt8).toNat = 32 := rfl; omega
  have e2 : (c.toNat : Int) = 10 ↔ c = 10 := by rw [← UInt8.toNat_inj]; have : (10 : UInt8).toNat = 10 := rfl; omega
  simp [h0, e1, e2, signB]
theorem spacedTo_len (T : List Tk) (l : List Int) (b : Nat) (hb : ∀ t ∈ T, t.text.length ≤ b) : ∀ i, (spacedTo T l i).length ≤ i * (b + 4)
 | 0 => by simp [spacedTo]
 | i + 1 => by
  have ih := spacedTo_len T l b hb i
  have hs : ∀ k : Nat, (sepsL.getD k []).length ≤ 4 := fun k => by
   rw [List.getD_eq_getElem?_getD]
   cases e : sepsL[k]? with
   | none => simp
   | some w => exact (by decide : ∀ w ∈ sepsL, w.length ≤ 4) w (List.mem_of_getElem? e)
  have hw : (T.getD i default).text.length ≤ b := by
   rw [List.getD_eq_getElem?_getD]
   cases e : T[i]? with
   | none => exact Nat.zero_le _
   | some w => exact hb w (List.mem_of_getElem? e)
  have h4 := hs ((atL l i 6).tmod 3).toNat
  rw [Nat.succ_mul, spaced_succ, List.length_append]
  cases spB (spacedTo T l i) (T.getD i default).text (atL l i 6) i
  ·simp only [Bool.false_eq_true, if_false]; omega
  ·rw [if_pos rfl, List.length_append]; omega
set_option maxRecDepth 10000 in
theorem RSpaced_ok (s : Str) (l : List Int) (hs : s.length ≤ 100000000) (hl : ∀ n ∈ l, -9223372036854775808 ≤ n ∧ n ≤ 9223372036854775807) : Ok Tryz.prog 22 [.str s, .sl (l.map I64)] ⟨.d (.str (spacedS s l)), true⟩ := by
 refine Ok.ret Tryz.func22 (by kernel_rfl) (c := _) rfl Tryz.ntmps22 (by simp) Tryz.results22 (by intro _ h; cases h) fun w0 X hp => ?_
 obtain ⟨T, hT1⟩ : ∃ T, (scanS s).1 = T := ⟨_, rfl⟩
 have hin : ∀ t ∈ T, InT s t := fun t ht => scanS_in (hT1 ▸ ht)
 have htl : T.length ≤ s.length := by rw [← hT1]; exact scanF_len _ _ _
 have hgT : GoodT T := by rw [← hT1]; exact scanF_good _ _ _
 have hwl : ∀ t ∈ T, t.text.length ≤ 17 := fun t ht => tok_len (hgT t ht)
 refine LWp.sz hT hW ?_
 simp
 refine LWp.seq ?_
 have hsc := RScan_ok s (by omega)
 rw [hT1] at hsc
 refine LWp.ro hT hW (fun | 14 => some <| .plain ⟨.tup [.d (.sl (T.map Tk.r)), .d (I64 (scanS s).2)], true⟩ | _ => none) ?_
 simp [evalExtract]
 refine ⟨hsc, ?_⟩
 refine LWp.sz hT hW ?_
 simp
 refine LWp.seq ?_
 refine LWp.sz hT hW ?_
 simp
 refine LWp.block ?_
 refine LWp.loopW (ι := Nat) (fun i => mkEnv [(0, .d (.str s)), (1, .d (.sl (l.map I64))), (5, .d (.sl (T.map Tk.r))), (7, .d (.str (spacedTo T l i))), (8, .d (I64 i))]) (fun i => mkObs []) (fun i => i ≤ T.length) (fun i => T.length - i) 0 (Weak.to [0, 1, 5, 7, 8] [] (by decide) (by decide) (by simp [hp]) (by simp) (by simp)) ((Nat.zero_le _)) fun i hi4 => ?_
 refine LWp.seq ?_
 refine LWp.sz hT hW ?_
 simp
 refine LWp.iff ?_
 simp
 refine ⟨fun h4 => ?_, fun h4 => ?_⟩
 ·refine LWp.skip ?_
  simp
  refine LWp.seq ?_
  refine LWp.block ?_
  refine LWp.seq ?_
  have hi : i < T.length := by omega
  obtain ⟨t, htt⟩ : ∃ t, T[i] = t := ⟨_, rfl⟩
  have hti : T[i]? = some t := by rw [List.getElem?_eq_getElem hi, htt]
  have htm : t ∈ T := List.mem_of_getElem? hti
  obtain ⟨a, ha, hal, hat⟩ := hin t htm
  refine LWp.regAny hT hW hMixed (lk [[],[],[],[1,2],[1,2,3],[1,2,3,4],[],[],[6,7],[6,7,8],[6,7,8,9],[0,1,2,3,4,5,6,7,8,9,10],[0,1,2,3,4,5,6,7,8,9,10,11]]) (lk [[],[],[],[],[],[],[],[],[],[],[],[],[]]) (lk [[],[],[],[],[],[],[],[],[],[],[],[],[]]) (by kernel_rfl) (fun _ => none) (fun _ => ⟨rfl, fun _ h => h⟩) ?_
  simp [hti, Tk.r, ha, tok_cut, hat]
  refine ⟨⟨hi, by omega, by omega⟩, ?_⟩
  refine LWp.seq ?_
  have h7 := At_ok l i 6 hl (by decide)
  refine LWp.ro hT hW (fun | 37 => some <| .plain ⟨.d (I64 (atL l i 6)), true⟩ | _ => none) ?_
  simp
  refine ⟨h7, ?_⟩
  refine LWp.seq ?_
  obtain ⟨out, hout⟩ : ∃ out, spacedTo T l i = out := ⟨_, rfl⟩
  have hol := spacedTo_len T l 17 hwl i
  rw [hout] at hol
  have hol2 : i * (17 + 4) ≤ 100000000 * (17 + 4) := Nat.mul_le_mul_right _ (by omega)
  obtain ⟨d, hd⟩ : ∃ d, out[out.length - 1]?.getD 0 = d := ⟨_, rfl⟩
  have h81 := RLetter_ok t.text 0 (by omega)
  have h82 := RDigit_ok t.text 0 (by omega)
  have h83 := RSign_ok d
  have hpos : 0 < out.length ↔ out ≠ [] := List.length_pos_iff
  refine LWp.ro hT hW (fun | 43 => some <| .plain ⟨.d (.bool (firstIs letterB t.text)), true⟩ | 46 => some <| .plain ⟨.d (.bool (firstIs digitB t.text)), true⟩ | 71 => some <| .plain ⟨.d (.bool (decide (d ∈ signs))), true⟩ | _ => none) ?_
  simp [hout, hd]
  refine ⟨by (repeat' with_reducible apply And.intro) <;> intros <;> first | (with_reducible exact h83) | omega | (simpa using h81) | (simpa using h82) | (constructor <;> first | omega | assumption), ?_⟩
  refine LWp.seq ?_
  refine LWp.sz hT hW ?_
  simp
  refine ⟨by (repeat' with_reducible apply And.intro) <;> intros <;> ((repeat' with_reducible apply And.intro) <;> first | assumption | grind), ?_⟩
  refine LWp.iff ?_
  simp
  refine ⟨fun g => ?_, fun g1 g2 g3 => ?_⟩
  ·have hB := (spB_iff hd).2 g
   have htg : T.getD i default = t := by rw [List.getD_eq_getElem?_getD, hti]; rfl
   have hstep := spaced_succ T l i
   rw [hout, htg, if_pos hB] at hstep
   have hk := atL_range l i 6 (by decide)
   have hm3 : 0 ≤ (atL l i 6).tmod 3 ∧ (atL l i 6).tmod 3 < 3 := by rw [Int.tmod_eq_emod_of_nonneg hk.1]; omega
   have hsp := seps_row hm3.1 hm3.2
   have hs4 : (sepsL.getD ((atL l i 6).tmod 3).toNat []).length ≤ 4 := by
    rw [List.getD_eq_getElem?_getD]
    cases e : sepsL[((atL l i 6).tmod 3).toNat]? with
    | none => simp
    | some w => exact (by decide : ∀ w ∈ sepsL, w.length ≤ 4) w (List.mem_of_getElem? e)
   obtain ⟨sep, hse⟩ : ∃ sep, sepsL.getD ((atL l i 6).tmod 3).toNat [] = sep := ⟨_, rfl⟩
   rw [hse] at hsp hs4 hstep
   refine LWp.rz hT hW ?_
   simp [hsp]
   refine ⟨⟨⟨⟨by decide, hm3⟩, hm3.2⟩, by omega⟩, ?_⟩
   have hwt := hwl t htm
   refine LWp.rz hT hW ?_
   simp [List.length_append]
   refine ⟨by omega, ?_⟩
   refine LWp.rz hT hW ?_
   simp
   refine ⟨by omega, ?_⟩
   refine loopQ.mk (i + 1) (Weak.to [0, 1, 5, 7, 8] [] (by decide) (by decide) (by simp [hp]) (by simp [hstep]) (by simp)) ?_ ?_
   ·omega
   ·omega
  ·have hB : spB out t.text (atL l i 6) i = false := by
    cases e : spB out t.text (atL l i 6) i with
    | false => rfl
    | true =>
     rcases (spB_iff hd).1 e with (h | h) | h
     ·omega
     ·exact absurd (g2 h.1.1.1.1 h.1.1.1.2 h.1.1.2 h.1.2) h.2
     ·exact absurd h.2 (not_or.2 (g3 h.1))
   have htg : T.getD i default = t := by rw [List.getD_eq_getElem?_getD, hti]; rfl
   have hstep := spaced_succ T l i
   rw [hout, htg, if_neg (by simp [hB])] at hstep
   refine LWp.skip ?_
   simp
   have hwt := hwl t htm
   refine LWp.rz hT hW ?_
   simp [List.length_append]
   refine ⟨by omega, ?_⟩
   refine LWp.rz hT hW ?_
   simp
   refine ⟨by omega, ?_⟩
   refine loopQ.mk (i + 1) (Weak.to [0, 1, 5, 7, 8] [] (by decide) (by decide) (by simp [hp]) (by simp [hstep]) (by simp)) ?_ ?_
   ·omega
   ·omega
 ·refine LWp.exit ?_
  simp
  refine LWp.sz hT hW ?_
  simp
  refine LWp.ret ?_
  simp
  rw [show i = T.length by omega]
  unfold spacedS
  rw [hT1]
theorem spaced_len (s : Str) (l : List Int) : (spacedS s l).length ≤ 21 * s.length := by
 have hgT : GoodT (scanS s).1 := scanF_good _ _ _
 have h := spacedTo_len (scanS s).1 l 17 (fun t ht => tok_len (hgT t ht)) (scanS s).1.length
 have h1 : (scanS s).1.length ≤ s.length := scanF_len _ _ _
 unfold spacedS
 omega
end
end Go.Eng
namespace Go.Eng
open Go.RowKit
section
variable {P : Program} {a : Act} {w : World} {ops : Array Oper} {Q : Exit → Act → World → Prop} {l : List Oper} {o : Oper}
theorem wpList_val (hg : o.guard = none) {v : Value} {w' : World} (hr : (execOp a.eval o).run P w = .ok (.value v) w') (hk : wpList P ops Q l (a.put o.dst v) w') : wpList P ops Q (o :: l) a w := by
  unfold wpList
  rw [if_pos (by simp [Region.wanted, hg])]
  left; unfold Oper.wp; rw [hr]; exact hk
theorem wpList_skip (hg : o.guard = none) {w' : World} (hr : (execOp a.eval o).run P w = .ok .skip w') (hk : wpList P ops Q l (a.put o.dst undef) w') : wpList P ops Q (o :: l) a w := by
  unfold wpList
  rw [if_pos (by simp [Region.wanted, hg])]
  left; unfold Oper.wp; rw [hr]; exact hk
theorem wpList_call (hg : o.guard = none) {f : FuncId} {vs : Array Value} {w' : World} (hr : (execOp a.eval o).run P w = .ok (.enter f vs) w') (hk : Calls P f vs w' fun e w2 => ∃ v, e = .returned v ∧ wpList P ops Q l (a.put o.dst v) w2) : wpList P ops Q (o :: l) a w := by
  unfold wpList
  rw [if_pos (by simp [Region.wanted, hg])]
  left; unfold Oper.wp; rw [hr]
  simp only [Oper.upon]
  refine hk.mono ?_
  rintro e w2 ⟨v, rfl, h⟩
  exact h
theorem ev_put {d t : Nat} {v : Value} : (a.put (some d) v).eval (.tmp t) = if t = d ∧ d < a.tmps.size then v else a.eval (.tmp t) := by
  show (a.put (some d) v).tmps.getD t undef = if t = d ∧ d < a.tmps.size then v else a.tmps.getD t undef
  simp only [Act.put, Array.getD_eq_getD_getElem?, Array.getElem?_setIfInBounds]
  by_cases h : d = t
  · subst h
    by_cases h2 : d < a.tmps.size
    · simp [h2]
    · simp [h2]
  · rw [if_neg h, if_neg (fun e => h e.1.symm)]
theorem ev_size {d : Nat} {v : Value} : (a.put (some d) v).tmps.size = a.tmps.size := by simp [Act.put]
theorem ev_none {v : Value} : a.put none v = a := rfl
theorem add0 (b j : Nat) : (⟨b, 0, none⟩ : Addr).add j = ⟨b, j, none⟩ := by unfold Addr.add; split <;> simp_all
theorem run_storeByte {te : TypeId} (hso : ∀ w : World, (sizeOf te).run P w = .ok 1 w) {b i : Nat} {n : Int} {cur : Array Value} {e : TypeId} {fr : Nat × Nat} (hblk : w.heap[b]? = some (.cells cur e fr)) (hi : i < cur.size) (hf : cur.size ≤ fr.1) :
    (storeVar te ⟨b, i, none⟩ (.int .u8 n)).run P w = .ok () (w.setRow b (cur.setIfInBounds i (.int .u8 n))) := by
  have hc : (Value.int .u8 n).cells = #[.int .u8 n] := rfl
  unfold storeVar
  rw [Sem.run_bind, hso]
  have hcell : w.cell? ⟨b, i, none⟩ = some cur[i] := by simp [World.cell?, hblk, hi]
  obtain ⟨lo, hi2⟩ := fr
  have hfr : w.frozen? ⟨b, i, none⟩ = false := by
    simp only [World.frozen?, hblk]
    have hf : cur.size ≤ lo := hf
    simp; omega
  have hadd : (⟨b, i, none⟩ : Addr).add 0 = ⟨b, i, none⟩ := rfl
  have hst : (store ((⟨b, i, none⟩ : Addr).add 0) (.int .u8 n)).run P w = .ok () (w.setRow b (cur.setIfInBounds i (.int .u8 n))) := by
    rw [hadd, run_store P w _ _ _ rfl, hcell]
    simp [hfr, setCell_eq_setRow w b i cur e (lo, hi2) _ hblk]
  simp only [hc, Result.andThen_ok, List.size_toArray, List.length_cons, List.length_nil, ne_eq, not_true_eq_false, if_false, storeCells, Sem.run_bind, hst]
  rfl
end
section
variable {P : Program} {T : TypeId → TyI} {w0 : Base} {X : Nat → Prop} {Q : LX → Env → Obs → Prop} {env : Env} {H : Obs}
set_option maxRecDepth 10000 in
set_option maxHeartbeats 400000 in
theorem LWp.setByte (hT : TOk P T) {i1 i2 i3 : Nat} {o1 o2 o3 p1 p2 p3 p4 p5 p6 p7 p8 p9 q1 q2 q3 : Oper} {rest : Code} {ts tb te ti : TypeId} {fA : FuncId} {ta : Array TypeId}
    (us : P.underlying ts = some .string) (ub : P.underlying tb = some (.slice te)) (ue : P.underlying te = some (.int .u8)) (ui : P.underlying ti = some (.int .i64)) (hso : ∀ w : World, (sizeOf te).run P w = .ok 1 w)
    (h1 : o1.op = .move (.tmp 0)) (d1 : o1.dst = some 101) (g1 : o1.guard = none) (h2 : o2.op = .convert ts tb (.tmp 101)) (d2 : o2.dst = some 102) (g2 : o2.guard = none)
    (h3 : o3.op = .assign (.tmp 102)) (d3 : o3.dst = some 13) (g3 : o3.guard = none)
    (k1 : p1.op = .move (.tmp 13)) (e1 : p1.dst = some 103) (f1 : p1.guard = none) (k2 : p2.op = .move (.tmp 1)) (e2 : p2.dst = some 104) (f2 : p2.guard = none)
    (k3 : p3.op = .move (.tmp 13)) (e3 : p3.dst = some 105) (f3 : p3.guard = none) (k4 : p4.op = .call { callee := .builtin .len, args := #[.tmp 105], argTypes := #[tb] }) (e4 : p4.dst = some 106) (f4 : p4.guard = none)
    (k5 : p5.op = .call { callee := .value (.func fA), args := #[.tmp 104, .tmp 106], argTypes := ta }) (e5 : p5.dst = some 107) (f5 : p5.guard = none)
    (k6 : p6.op = .move (.tmp 3)) (e6 : p6.dst = some 108) (f6 : p6.guard = none) (k7 : p7.op = .convert ti te (.tmp 108)) (e7 : p7.dst = some 109) (f7 : p7.guard = none)
    (k8 : p8.op = .indexAddr tb (.tmp 103) (.tmp 107)) (e8 : p8.dst = some 110) (f8 : p8.guard = none) (k9 : p9.op = .store te (.tmp 110) (.tmp 109)) (e9 : p9.dst = none) (f9 : p9.guard = none)
    (l1 : q1.op = .move (.tmp 13)) (m1 : q1.dst = some 111) (n1 : q1.guard = none) (l2 : q2.op = .convert tb ts (.tmp 111)) (m2 : q2.dst = some 112) (n2 : q2.guard = none)
    (l3 : q3.op = .assign (.tmp 112)) (m3 : q3.dst = some 8) (n3 : q3.guard = none)
    {s : List UInt8} {x y : Int} {k : Nat} (v0 : env 0 = .d (.str s)) (v1 : env 1 = .d (.int .i64 x)) (v3 : env 3 = .d (.int .i64 y)) (hk : k < s.length) (hA : Ok P fA [.int .i64 x, .int .i64 s.length] ⟨.d (.int .i64 k), true⟩)
    (K : LWp P 113 w0 X rest Q (upd (upd (upd (upd (upd (upd (upd (upd (upd (upd (upd (upd (upd (upd env 101 .junk) 102 .junk) 13 .junk) 103 .junk) 104 .junk) 105 .junk) 106 .junk) 107 .junk) 108 .junk) 109 .junk) 110 .junk) 111 .junk) 112 .junk) 8 (.d (.str (s.set k (UInt8.ofNat (IntKind.u8.wrap y).toNat))))) H) :
    LWp P 113 w0 X (.seq (.region i1 [o1, o2, o3].toArray false) (.seq (.region i2 [p1, p2, p3, p4, p5, p6, p7, p8, p9].toArray false) (.seq (.region i3 [q1, q2, q3].toArray false) rest))) Q env H := by
  intro β a w sm
  have hN : a.tmps.size = 113 := sm.size
  have z0 : a.eval (.tmp 0) = .string ⟨s.toArray⟩ := by have h := sm.get (.tmp 0); rw [show opLV env (.tmp 0) = env 0 from rfl, v0] at h; exact h.str
  have z1 : a.eval (.tmp 1) = .int .i64 x := by have h := sm.get (.tmp 1); rw [show opLV env (.tmp 1) = env 1 from rfl, v1] at h; exact h.int
  have z3 : a.eval (.tmp 3) = .int .i64 y := by have h := sm.get (.tmp 3); rw [show opLV env (.tmp 3) = env 3 from rfl, v3] at h; exact h.int
  obtain ⟨S, hS⟩ : ∃ S : ByteArray, S = ⟨s.toArray⟩ := ⟨_, rfl⟩
  have hSl : S.size = s.length := by rw [hS]; simp [ByteArray.size]
  rw [← hS] at z0
  obtain ⟨cap, hcap⟩ : ∃ cap, grownCap w S.size 0 te = cap := ⟨_, rfl⟩
  -- the copy
  refine wp_seq (wp_region_list ?_)
  refine wpList_val g1 (v := .string S) (w' := w) (by simp [execOp, h1, z0]) ?_
  rw [d1]
  have hcv := Lib.run_convert_string_bytes (P := P) w ts tb te S us ub ue
  rw [hcap] at hcv
  refine wpList_val g2 (v := .slice (some ⟨w.heap.size, 0, none⟩) S.size cap) (w' := Lib.bytesWorld w te S) (by simp [execOp, h2, ev_put, hN, hcv]) ?_
  rw [d2]
  refine wpList_val g3 (v := .slice (some ⟨w.heap.size, 0, none⟩) S.size cap) (w' := Lib.bytesWorld w te S) (by simp [execOp, h3, ev_put, ev_size, hN]) ?_
  rw [d3]
  have hb1 := Lib.bytesWorld_at_new w te S
  have hsz1 := Lib.bytesWorld_size w te S
  have hold1 := Lib.bytesWorld_at_old w te S
  have bel1 : Bel w.heap.size w (Lib.bytesWorld w te S) := by
    refine ⟨?_, ?_, ?_, by omega, fun j hj => hold1 j hj, ?_⟩ <;> (unfold Lib.bytesWorld World.freeze; split <;> first | rfl | exact Nat.le_succ w.drawn)
  obtain ⟨C, hC⟩ : ∃ C, Lib.bytesCells w te S = C := ⟨_, rfl⟩
  rw [hC] at hb1
  generalize Lib.bytesWorld w te S = w1 at hb1 hsz1 hold1 bel1 ⊢
  -- the change
  show Code.wp P _ _ _ _
  refine wp_seq (wp_region_list ?_)
  refine wpList_val f1 (v := .slice (some ⟨w.heap.size, 0, none⟩) S.size cap) (w' := w1) (by simp [execOp, k1, ev_put, ev_size, hN]) ?_
  rw [e1]
  refine wpList_val f2 (v := .int .i64 x) (w' := w1) (by simp [execOp, k2, ev_put, ev_size, hN, z1]) ?_
  rw [e2]
  refine wpList_val f3 (v := .slice (some ⟨w.heap.size, 0, none⟩) S.size cap) (w' := w1) (by simp [execOp, k3, ev_put, ev_size, hN]) ?_
  rw [e3]
  refine wpList_val f4 (v := .int .i64 S.size) (w' := w1) (by simp [execOp, k4, resolve, invoke, builtin, ev_put, ev_size, hN, run_len_sl ub]) ?_
  rw [e4]
  obtain ⟨m1', _⟩ := sm.mem.grow bel1
  have hcall := hA.2 w1 (fun _ => False) [.int .i64 x, .int .i64 s.length] ⟨fun _ h => h.elim, m1'.glob.anti fun _ h => h.elim⟩ (.cons (.int _ _) (.cons (.int _ _) .nil))
  obtain ⟨fn, hfn, hname, hbody⟩ := hA.1
  refine wpList_call f5 (f := fA) (vs := #[.int .i64 x, .int .i64 s.length]) (w' := w1) ?_ (hcall.mono ?_)
  · have hbn : fn.body.isNone = false := by cases q : fn.body <;> simp_all
    simp only [execOp, k5, resolve, Deferred.ofValue, Sem.run_bind, Sem.run_pure, Result.andThen_ok, invoke, callFunc, run_program, hfn, hname, Bool.false_eq_true, if_false, hbn, show ∀ a : Act, a.eval (.func fA) = .func (.func fA) #[] #[] from fun _ => rfl]
    simp [ev_put, ev_size, hN, hSl]
  rintro _ w2 ⟨v, rfl, bel2, hret⟩
  obtain ⟨B, hret⟩ := hret
  have hv : v = .int .i64 k := by
    have hret : RD w2 _ (.int .i64 (k : Int)) v := hret
    cases hret; rfl
  subst hv
  refine ⟨.int .i64 k, rfl, ?_⟩
  rw [e5]
  refine wpList_val f6 (v := .int .i64 y) (w' := w2) (by simp [execOp, k6, ev_put, ev_size, hN, z3]) ?_
  rw [e6]
  refine wpList_val f7 (v := .int .u8 (IntKind.u8.wrap y)) (w' := w2) (by simp [execOp, k7, ev_put, ev_size, hN, convert, run_underlying ui, run_underlying ue, Conv.intToInt]) ?_
  rw [e7]
  refine wpList_val f8 (v := .pointer (some ⟨w.heap.size, k, none⟩)) (w' := w2) (by simp [execOp, k8, ev_put, ev_size, hN, Instr.indexAt, asIntOf, run_underlying ub, hso, hSl, hk, add0]) ?_
  rw [e8]
  have hb2 : w2.heap[w.heap.size]? = some (.cells C te (C.size, C.size + 1)) := by rw [bel2.block _ (by omega)]; exact hb1
  have hCs : S.size ≤ C.size := by rw [← hC]; unfold Lib.bytesCells; rw [Array.size_append, Array.size_map]; exact Nat.le_add_right _ _
  obtain ⟨C3, hC3⟩ : ∃ C3, C.setIfInBounds k (.int .u8 (IntKind.u8.wrap y)) = C3 := ⟨_, rfl⟩
  have hst := run_storeByte (P := P) (w := w2) hso (n := IntKind.u8.wrap y) hb2 (show k < C.size by omega) (Nat.le_refl _)
  rw [hC3] at hst
  refine wpList_skip f9 (w' := w2.setRow w.heap.size C3) (by simp [execOp, k9, ev_put, ev_size, hN, Instr.storeAt, Instr.sureAddr, hst]) ?_
  rw [e9, ev_none]
  have hb3 := setRow_heap w2 w.heap.size C C3 te (C.size, C.size + 1) hb2
  have bel3 : Bel w.heap.size w (w2.setRow w.heap.size C3) := by
    refine ⟨bel2.os.trans bel1.os, bel2.tape.trans bel1.tape, bel2.output.trans bel1.output, ?_, fun j hj => ?_, Nat.le_trans bel1.drawn bel2.drawn⟩
    · have := bel1.size; have := bel2.size; simp [World.setRow]; omega
    · rw [setRow_other _ _ _ _ (by omega), bel2.block j (by omega), bel1.block j hj]
  generalize w2.setRow w.heap.size C3 = w3 at hb3 bel3 ⊢
  -- the text again
  show Code.wp P _ _ _ _
  refine wp_seq (wp_region_list ?_)
  refine wpList_val n1 (v := .slice (some ⟨w.heap.size, 0, none⟩) S.size cap) (w' := w3) (by simp [execOp, l1, ev_put, ev_size, hN]) ?_
  rw [m1]
  obtain ⟨s2, hs2⟩ : ∃ s2, s.set k (UInt8.ofNat (IntKind.u8.wrap y).toNat) = s2 := ⟨_, rfl⟩
  have hl2 : s2.length = S.size := by rw [← hs2, List.length_set, hSl]
  have hbk := run_convert_bytes_back (P := P) w3 tb ts te ⟨w.heap.size, 0, none⟩ cap s2 ub ue us (fun j hj => by
    rw [add0, cell_of_row w3 _ j _ te _ hb3, ← hC3, ← hC, Array.getElem?_setIfInBounds]
    have hjs : j < s.length := by omega
    have hu : 0 ≤ IntKind.u8.wrap y ∧ IntKind.u8.wrap y < 256 := by
      unfold IntKind.wrap
      simp [IntKind.bits, IntKind.signed]
      omega
    subst hs2
    rw [List.getElem_set]
    by_cases e : k = j
    · subst e
      rw [if_pos rfl, if_pos (by rw [hC]; omega), if_pos rfl]
      have hn : (UInt8.ofNat (IntKind.u8.wrap y).toNat).toNat = (IntKind.u8.wrap y).toNat := by rw [UInt8.toNat_ofNat']; omega
      rw [hn, Int.toNat_of_nonneg hu.1]
    · rw [if_neg e, if_neg e]
      simp [Lib.bytesCells, Array.getElem?_append, hS, hjs])
  rw [hl2] at hbk
  refine wpList_val n2 (v := .string ⟨s2.toArray⟩) (w' := w3) (by simp [execOp, l2, ev_put, ev_size, hN, hbk]) ?_
  rw [m2]
  refine wpList_val n3 (v := .string ⟨s2.toArray⟩) (w' := w3) (by simp [execOp, l3, ev_put, ev_size, hN]) ?_
  rw [m3]
  rw [hs2] at K
  obtain ⟨m3', g3'⟩ := sm.mem.grow bel3
  have ok : ∀ d, d < 113 → dstOk 113 (some d) := fun d h => h
  have t1 := sm.put m3' g3' (.junk (.string S)) (ok 101 (by decide))
  have t2 := t1.put m3' Goes.refl (.junk (.slice (some ⟨w.heap.size, 0, none⟩) S.size cap)) (ok 102 (by decide))
  have t3 := t2.put m3' Goes.refl (.junk (.slice (some ⟨w.heap.size, 0, none⟩) S.size cap)) (ok 13 (by decide))
  have t4 := t3.put m3' Goes.refl (.junk (.slice (some ⟨w.heap.size, 0, none⟩) S.size cap)) (ok 103 (by decide))
  have t5 := t4.put m3' Goes.refl (.junk (.int .i64 x)) (ok 104 (by decide))
  have t6 := t5.put m3' Goes.refl (.junk (.slice (some ⟨w.heap.size, 0, none⟩) S.size cap)) (ok 105 (by decide))
  have t7 := t6.put m3' Goes.refl (.junk (.int .i64 S.size)) (ok 106 (by decide))
  have t8 := t7.put m3' Goes.refl (.junk (.int .i64 k)) (ok 107 (by decide))
  have t9 := t8.put m3' Goes.refl (.junk (.int .i64 y)) (ok 108 (by decide))
  have t10 := t9.put m3' Goes.refl (.junk (.int .u8 (IntKind.u8.wrap y))) (ok 109 (by decide))
  have t11 := t10.put m3' Goes.refl (.junk (.pointer (some ⟨w.heap.size, k, none⟩))) (ok 110 (by decide))
  have t12 := t11.put m3' Goes.refl (.junk (.slice (some ⟨w.heap.size, 0, none⟩) S.size cap)) (ok 111 (by decide))
  have t13 := t12.put m3' Goes.refl (.junk (.string ⟨s2.toArray⟩)) (ok 112 (by decide))
  have t14 := t13.put m3' Goes.refl (R.mkStr s2) (ok 8 (by decide))
  have K := K β _ w3 t14
  exact K
end
end Go.Eng
namespace Go.Eng
open Go.Proofs
attribute [local simp] runL stepL evalG evalOp opLV constLV putEnv dstOk upd upds Res.plain Res.cond Res.fail evalBin evalUn seqQ blockQ argsEnv lookL lookH RetIs memless freshL evalPick evalMin bval bok evalLen evalIn strip whenC guardOps guardC slotsOf
 runM foldS stepI stepM maskE wrIn lk renO lookN evalCall evalCallee optAll resLV resObj retLV retObj retsLV retsObj evalLoad evalIndexAddr evalField solid cellsD_agg cellsD_int cellsD_bool cellsD_str cellsD_sl cellsD_ro cellsD_fn cellsL_agg cellsL_dagg cellsL_int cellsL_bool cellsL_str cellsL_sl cellsL_fn cellsL_ow cellsL_bx cellsL_lfn cellsL_nl takeL takeD mkAgg allD eqD eqDs kindsAre kindIs LObj.live TK.isNone TK.agg TK.isBool TK.isStr TK.isStruct Op.operands Call.operands
 evalBuildSlice evalAppend elemsOf evalStore evalBuild fillL lookupF putL evalSlice bound evalConv elemsS freezes frozen loadR
 mkEnv_at mkObs_at close_d close_agg close_ow close_bx close_fn close_nl touch_d touch_agg touch_ow touch_bx touch_fn touch_nl ren_d ren_agg ren_bx ren_rp ren_ow ren_fn ren_nl ren_junk retQ_ret retQ2_ret condQ_bool Nm.d Df.d Ed.d nmsD dfsD strsD edsD retC_ret nm_eq df_eq take_map_len take_map_app
 nm_t nm_d nm_td df_t df_d df_td str_t str_d str_td ed_t ed_d ed_td
 evalAppendIn evalBuildSliceC evalCopyC shortL evalApart evalAppendC evalAppendZ evalAppendG evalCapC isOc TK.isInt close_oc touch_oc ren_oc cellsL_oc evalCut evalClear evalCopy evalMake evalWrap evalCap evalNil isNilC lenL isInp gorc gorc2
 mapOf findD keyEq keyOk evalMakeMap evalRange zeroD zeroDV argsG shutG outN lenv retG0_ret retG0_normal retG1_ret retGR_ret renO close_mp touch_mp ren_mp optAll_d optAll_d' touch_ds cellsL_mp cellsD_mp cellsL_dmp
 evalMapSet evalPtr TK.isPtr evalToArr firstL retN_ret retsQ rvarL close_bm touch_bm ren_bm cellsD_bm cellsL_bm cellsL_lbm
attribute [local simp] cutQ_normal cutQ_ret cutQ_exit
section
attribute [local simp] Res.cond Nd.d_eq nd_t nd_dr nd_td ndsD evalIndex
theorem chgE_at {n : Int} (h0 : 0 ≤ n) (h1 : n < 4) : (chgEmpty.map DV.str)[n.toNat]?.getD default = .str (chgEmpty.getD n.toNat []) := by
 have hk : n.toNat < chgEmpty.length := by show _ < 4; omega
 rw [List.getElem?_map, List.getElem?_eq_getElem hk]
 simp [List.getD_eq_getElem?_getD, hk]
theorem chgW_at {n : Int} (h0 : 0 ≤ n) (h1 : n < 26) : (chgWords.map DV.str)[n.toNat]?.getD default = .str (chgWords.getD n.toNat []) := by
 have hk : n.toNat < chgWords.length := by show _ < 26; omega
 rw [List.getElem?_map, List.getElem?_eq_getElem hk]
 simp [List.getD_eq_getElem?_getD, hk]
theorem chgW_len (k : Nat) : (chgWords.getD k []).length ≤ 17 := by
 rw [List.getD_eq_getElem?_getD]
 cases e : chgWords[k]? with
 | none => simp
 | some w => exact (by decide : ∀ w ∈ chgWords, w.length ≤ 17) w (List.mem_of_getElem? e)
theorem chgE_len (k : Nat) : (chgEmpty.getD k []).length ≤ 3 := by
 rw [List.getD_eq_getElem?_getD]
 cases e : chgEmpty[k]? with
 | none => simp
 | some w => exact (by decide : ∀ w ∈ chgEmpty, w.length ≤ 3) w (List.mem_of_getElem? e)
theorem wrap_u8 (y : Int) : IntKind.u8.wrap y = y.emod 256 := by
 unfold IntKind.wrap
 simp [IntKind.bits, IntKind.signed]
 rfl
def chgC (s w : Str) (a b c : Int) (p q : Nat) : Str :=
 if c = 0 then s.take p ++ s.drop q
 else if c = 1 then s.take q ++ 32 :: s.drop p
 else if c = 2 then s.take p ++ 32 :: (w ++ 32 :: s.drop q)
 else if c = 3 then s.take p
 else if c = 4 then s.take p ++ w ++ 32 :: s.drop p
 else s.set (around a s.length).toNat (UInt8.ofNat (b.emod 256).toNat)
theorem chg_nil {s : Str} {a how b : Int} (h : (scanS s).1 = []) : changedS s a how b = s ++ chgEmpty.getD (around b 4).toNat [] := by
 unfold changedS; rw [h]
theorem chg_cons {s : Str} {T : List Tk} {a how b : Int} {t : Tk} {p q : Nat} (h : (scanS s).1 = T) (h0 : T ≠ []) (ht : T[(around a T.length).toNat]? = some t) (hp : t.at_ = p) (hq : tokE t = q) :
  changedS s a how b = chgC s (chgWords.getD (around b 26).toNat []) a b (around how 6) p q := by
 unfold changedS
 cases e : T with
 | nil => exact absurd e h0
 | cons x r =>
  subst e
  rw [h]
  have hd : (x :: r).getD (around a ((r.length + 1 : Nat) : Int)).toNat default = t := by
   rw [List.getD_eq_getElem?_getD]
   have ht : (x :: r)[(around a ((r.length + 1 : Nat) : Int)).toNat]? = some t := ht
   rw [ht]; rfl
  simp only [hd, hp, hq, Int.toNat_natCast]
  rfl
theorem chg_len (s : Str) (a how b : Int) : (changedS s a how b).length ≤ 2 * s.length + 40 := by
 unfold changedS
 split
 ·have := chgE_len (around b 4).toNat
  rw [List.length_append]; omega
 ·have hw := chgW_len (around b 26).toNat
  simp only []
  generalize chgWords.getD (around b 26).toNat [] = w at hw
  split
  ·simp only [List.length_append, List.length_take, List.length_drop]; omega
  ·split
   ·simp only [List.length_append, List.length_take, List.length_drop, List.length_cons]; omega
   ·split
    ·simp only [List.length_append, List.length_take, List.length_drop, List.length_cons]; omega
    ·split
     ·simp only [List.length_take]; omega
     ·split
      ·simp only [List.length_append, List.length_take, List.length_drop, List.length_cons]; omega
      ·rw [List.length_set]; omega
set_option maxRecDepth 10000 in
theorem RChanged_ok (s : Str) (a how b : Int) (hs : s.length ≤ 900000000) (ha : -9223372036854775808 ≤ a ∧ a ≤ 9223372036854775807) (hh : -9223372036854775808 ≤ how ∧ how ≤ 9223372036854775807) (hb : -9223372036854775808 ≤ b ∧ b ≤ 9223372036854775807) : Ok Tryz.prog 23 [.str s, I64 a, I64 how, I64 b] ⟨.d (.str (changedS s a how b)), true⟩ := by
 refine Ok.ret Tryz.func23 (by kernel_rfl) (c := _) rfl Tryz.ntmps23 (by simp) Tryz.results23 (by intro _ h; cases h) fun w0 X hp => ?_
 obtain ⟨T, hT1⟩ : ∃ T, (scanS s).1 = T := ⟨_, rfl⟩
 have hin : ∀ t ∈ T, InT s t := fun t ht => scanS_in (hT1 ▸ ht)
 have htl : T.length ≤ s.length := by rw [← hT1]; exact scanF_len _ _ _
 have a4 := around_lt b 4 (by decide)
 have a26 := around_lt b 26 (by decide)
 have a6 := around_lt how 6 (by decide)
 have r4 := Around_ok b 4 hb.1 hb.2 (by decide)
 have r26 := Around_ok b 26 hb.1 hb.2 (by decide)
 have r6 := Around_ok how 6 hh.1 hh.2 (by decide)
 refine LWp.sz hT hW ?_
 simp
 refine LWp.seq ?_
 have hsc := RScan_ok s (by omega)
 rw [hT1] at hsc
 refine LWp.ro hT hW (fun | 16 => some <| .plain ⟨.tup [.d (.sl (T.map Tk.r)), .d (I64 (scanS s).2)], true⟩ | _ => none) ?_
 simp [evalExtract]
 refine ⟨hsc, ?_⟩
 refine LWp.seq ?_
 refine LWp.sz hT hW ?_
 simp
 refine LWp.iff ?_
 simp
 refine ⟨fun h2 => ?_, fun h2 => ?_⟩
 ·have hnil : (scanS s).1 = [] := by rw [hT1]; first | exact h2 | exact List.eq_nil_of_length_eq_zero (by omega)
  refine LWp.seq ?_
  have hc := chgE_at a4.1 a4.2
  have hcl := chgE_len (around b 4).toNat
  obtain ⟨z, hz⟩ : ∃ z, chgEmpty.getD (around b 4).toNat [] = z := ⟨_, rfl⟩
  rw [hz] at hc hcl
  simp [chgEmpty] at hc
  refine LWp.ro hT hW (fun | 25 => some <| .plain ⟨.d (I64 (around b 4)), true⟩ | _ => none) ?_
  simp [hc]
  refine ⟨⟨⟨⟨⟨by decide, r4⟩, by omega⟩, by omega⟩, by omega⟩, ?_⟩
  refine LWp.ret ?_
  simp
  rw [chg_nil hnil, hz]
 ·have hne : T ≠ [] := fun e => by rw [e] at h2; simp at h2
  have hpos : 0 < T.length := List.length_pos_iff.2 hne
  have aT := around_lt a (T.length : Int) (by omega)
  have rT := Around_ok a (T.length : Int) ha.1 ha.2 (by omega)
  obtain ⟨j, hj⟩ : ∃ j : Nat, around a (T.length : Int) = (j : Int) := ⟨(around a (T.length : Int)).toNat, by omega⟩
  have hjl : j < T.length := by omega
  obtain ⟨t, htt⟩ : ∃ t, T[j] = t := ⟨_, rfl⟩
  have hti : T[j]? = some t := by rw [List.getElem?_eq_getElem hjl, htt]
  obtain ⟨p, hpa, hpl, hpt⟩ := hin t (List.mem_of_getElem? hti)
  obtain ⟨q, hq⟩ : ∃ q : Nat, q = p + t.text.length := ⟨_, rfl⟩
  have hqe : tokE t = q := by unfold tokE; rw [hpa, hq]; simp
  have hqi : (p : Int) + (t.text.length : Int) = (q : Int) := by rw [hq]; simp
  have hpl1 : p ≤ s.length := by omega
  have hql1 : q ≤ s.length := by omega
  have ech := chg_cons (a := a) (how := how) (b := b) hT1 hne (by rw [hj, Int.toNat_natCast]; exact hti) hpa hqe
  refine LWp.skip ?_
  simp
  refine LWp.so hT hW (fun | 33 => some <| .plain ⟨.d (I64 (j : Int)), true⟩ | _ => none) ?_
  simp [hti, Tk.r, hpa, hqi]
  refine ⟨⟨by simpa [hj] using rT, hjl⟩, ?_⟩
  refine LWp.seq ?_
  have hc := chgW_at a26.1 a26.2
  have hcl := chgW_len (around b 26).toNat
  obtain ⟨z, hz⟩ : ∃ z, chgWords.getD (around b 26).toNat [] = z := ⟨_, rfl⟩
  rw [hz] at hc hcl ech
  simp [chgWords] at hc
  refine LWp.ro hT hW (fun | 38 => some <| .plain ⟨.d (I64 (around b 26)), true⟩ | _ => none) ?_
  simp [hc]
  refine ⟨⟨⟨⟨by decide, r26⟩, a26⟩, a26.2⟩, ?_⟩
  refine LWp.seq ?_
  refine LWp.so hT hW (fun | 42 => some <| .plain ⟨.d (I64 (around how 6)), true⟩ | _ => none) ?_
  simp
  refine ⟨r6, ?_⟩
  refine LWp.block ?_
  refine LWp.sz hT hW ?_
  simp
  refine LWp.iff ?_
  simp
  refine ⟨fun h7 => ?_, fun h7 => ?_⟩
  ·refine LWp.seq ?_
   refine LWp.weak (Weak.shrink [0, 12, 11] [(11, 11)] (by decide) (by decide) (by simp [hp])) ?_
   simp
   refine LWp.regAny hT hW hMixed (lk [[],[],[1],[0,1,2],[],[],[5],[4,5,6],[0,1,2,3,4,5,6,7],[0,1,2,3,4,5,6,7,8]]) (lk [[],[],[],[],[],[],[],[],[],[]]) (lk [[],[],[],[],[],[],[],[],[],[]]) (by kernel_rfl) (fun _ => none) (fun _ => ⟨rfl, fun _ h => h⟩) ?_
   simp
   refine ⟨by (repeat' with_reducible apply And.intro) <;> first | omega | decide, ?_⟩
   refine LWp.ret ?_
   simp
   rw [ech]; unfold chgC; rw [if_pos h7]
  ·refine LWp.sz hT hW ?_
   simp
   refine LWp.iff ?_
   simp
   refine ⟨fun h9 => ?_, fun h9 => ?_⟩
   ·refine LWp.seq ?_
    refine LWp.weak (Weak.shrink [0, 12, 11] [(11, 11)] (by decide) (by decide) (by simp [hp])) ?_
    simp
    refine LWp.regAny hT hW hMixed (lk [[],[],[1],[0,1,2],[0,1,2,3],[],[],[6],[5,6,7],[0,1,2,3,4,5,6,7,8],[0,1,2,3,4,5,6,7,8,9]]) (lk [[],[],[],[],[],[],[],[],[],[],[]]) (lk [[],[],[],[],[],[],[],[],[],[],[]]) (by kernel_rfl) (fun _ => none) (fun _ => ⟨rfl, fun _ h => h⟩) ?_
    simp
    refine ⟨by (repeat' with_reducible apply And.intro) <;> first | omega | decide, ?_⟩
    refine LWp.ret ?_
    simp
    rw [ech]; unfold chgC; rw [if_neg h7, if_pos h9]
   ·refine LWp.sz hT hW ?_
    simp
    refine LWp.iff ?_
    simp
    refine ⟨fun h11 => ?_, fun h11 => ?_⟩
    ·refine LWp.seq ?_
     refine LWp.weak (Weak.shrink [0, 12, 11] [(11, 11)] (by decide) (by decide) (by simp [hp])) ?_
     simp
     refine LWp.regAny hT hW hMixed (lk [[],[],[1],[0,1,2],[0,1,2,3],[],[0,1,2,3,4,5],[0,1,2,3,4,5,6],[],[],[9],[8,9,10],[0,1,2,3,4,5,6,7,8,9,10,11],[0,1,2,3,4,5,6,7,8,9,10,11,12]]) (lk [[],[],[],[],[],[],[],[],[],[],[],[],[],[]]) (lk [[],[],[],[],[],[],[],[],[],[],[],[],[],[]]) (by kernel_rfl) (fun _ => none) (fun _ => ⟨rfl, fun _ h => h⟩) ?_
     simp
     refine ⟨by (repeat' with_reducible apply And.intro) <;> first | omega | decide, ?_⟩
     refine LWp.ret ?_
     simp
     rw [ech]; unfold chgC; rw [if_neg h7, if_neg h9, if_pos h11]
    ·refine LWp.sz hT hW ?_
     simp
     refine LWp.iff ?_
     simp
     refine ⟨fun h13 => ?_, fun h13 => ?_⟩
     ·refine LWp.sz hT hW ?_
      simp
      refine ⟨by (repeat' with_reducible apply And.intro) <;> first | omega | decide, ?_⟩
      refine LWp.ret ?_
      simp
      rw [ech]; unfold chgC; rw [if_neg h7, if_neg h9, if_neg h11, if_pos h13]
     ·refine LWp.sz hT hW ?_
      simp
      refine LWp.iff ?_
      simp
      refine ⟨fun h15 => ?_, fun h15 => ?_⟩
      ·refine LWp.seq ?_
       refine LWp.weak (Weak.shrink [0, 12, 11] [(11, 11)] (by decide) (by decide) (by simp [hp])) ?_
       simp
       refine LWp.regAny hT hW hMixed (lk [[],[],[1],[0,1,2],[],[0,1,2,3,4],[0,1,2,3,4,5],[],[],[8],[7,8,9],[0,1,2,3,4,5,6,7,8,9,10],[0,1,2,3,4,5,6,7,8,9,10,11]]) (lk [[],[],[],[],[],[],[],[],[],[],[],[],[]]) (lk [[],[],[],[],[],[],[],[],[],[],[],[],[]]) (by kernel_rfl) (fun _ => none) (fun _ => ⟨rfl, fun _ h => h⟩) ?_
       simp
       refine ⟨by (repeat' with_reducible apply And.intro) <;> first | omega | decide, ?_⟩
       refine LWp.ret ?_
       simp
       rw [ech]; unfold chgC; rw [if_neg h7, if_neg h9, if_neg h11, if_neg h13, if_pos h15]; simp
      ·refine LWp.skip ?_
       simp
       have aS := around_lt a (s.length : Int) (by omega)
       have rS := Around_ok a (s.length : Int) ha.1 ha.2 (by omega)
       obtain ⟨m, hm⟩ : ∃ m : Nat, around a (s.length : Int) = (m : Int) := ⟨(around a (s.length : Int)).toNat, by omega⟩
       rw [hm] at rS
       refine LWp.setByte hT (by kernel_rfl) (by kernel_rfl) (by kernel_rfl) (by kernel_rfl) (fun w => run_sizeOf (w := w) hT (t := 5) rfl) rfl rfl rfl rfl rfl rfl rfl rfl rfl rfl rfl rfl rfl rfl rfl rfl rfl rfl rfl rfl rfl rfl rfl rfl rfl rfl rfl rfl rfl rfl rfl rfl rfl rfl rfl rfl rfl rfl rfl rfl rfl rfl rfl rfl rfl (s := s) (x := a) (y := b) (k := m) (by simp) (by simp) (by simp) (by omega) rS ?_
       refine LWp.ret ?_
       simp
       rw [ech]; unfold chgC; rw [if_neg h7, if_neg h9, if_neg h11, if_neg h13, if_neg h15, hm, wrap_u8]; rfl
end
end Go.Eng
namespace Go.Eng
open Go.Proofs
theorem getD_all {α : Type} {p : α → Prop} {l : List α} {d : α} (h : ∀ x ∈ l, p x) {k : Nat} (hk : k < l.length) : p (l.getD k d) := by
 rw [List.getD_eq_getElem?_getD, List.getElem?_eq_getElem hk]
 exact h _ (List.getElem_mem hk)
theorem call_whole (L : List Int) (i : Nat) : wholeB (callM L i) true = true := by
 have h := atL_range L i 8 (by decide)
 exact getD_all (p := fun w => wholeB w true = true) (by decide : ∀ w ∈ callL, wholeB w true = true) (show (atL L i 8).toNat < 8 by omega)
theorem own_whole (L : List Int) (i : Nat) : wholeB (ownM L i) false = true := by
 have h := atL_range L i 4 (by decide)
 exact getD_all (p := fun w => wholeB w false = true) (by decide : ∀ w ∈ ownL, wholeB w false = true) (show (atL L i 4).toNat < 4 by omega)
theorem mk_range {k : Int} {t : Str} {n : Int} {ks : List Nd} (h : 0 ≤ k ∧ k ≤ 6) : 0 ≤ (Nd.mk k t n ks).kind ∧ (Nd.mk k t n ks).kind ≤ 6 := h
theorem leaf_right {k : Int} {t : Str} {n : Int} (h0 : 0 ≤ k ∧ k < 37) (h1 : shapedK k [] = true) (h2 : loAt k ≤ n ∧ n ≤ hiAt k) (h3 : textB k t = true) : rightN (.mk k t n []) = true :=
 right_mk.2 ⟨h0.1, h0.2, h1, h2.1, h2.2, h3, fun x hx => by cases hx⟩
theorem local_right (L : List Int) (i : Nat) : rightN (.mk 33 (ownM L i) 0 []) = true := leaf_right (by decide) rfl (by decide) (own_whole L i)
theorem place_right (L : List Int) (i : Nat) : rightN (placeM L i).1 = true ∧ isPlaceK (placeM L i).1.kind = true := by
 unfold placeM
 split
 ·exact ⟨leaf_right (by decide) rfl (by decide) (call_whole L (i + 1)), rfl⟩
 ·exact ⟨leaf_right (by decide) rfl (by decide) (field_ok (call_whole L (i + 1)) (call_whole L (i + 2))), rfl⟩
theorem value_right (L : List Int) : ∀ (d i : Nat), rightN (valueM L d i).1 = true ∧ isExprK (valueM L d i).1.kind = true := fun d => by
 induction d with
 | zero =>
  intro i
  obtain ⟨r0, _, r2⟩ := valK_range L 0 i
  have r2 := r2 rfl
  by_cases h0 : valK L 0 i = 0 ∨ valK L 0 i = 1
  ·rw [value_num h0]
   have hr := atL_range L (i + 1) 6 (by decide)
   exact ⟨leaf_right (by decide) rfl (getD_all (p := fun n : Int => loAt 32 ≤ n ∧ n ≤ hiAt 32) (by decide : ∀ n ∈ numsM, loAt 32 ≤ n ∧ n ≤ hiAt 32) (show (atL L (i + 1) 6).toNat < 6 by omega)) rfl, rfl⟩
  ·by_cases h1 : valK L 0 i = 2
   ·rw [value_loc h1]; exact ⟨local_right L (i + 1), rfl⟩
   ·by_cases h2 : valK L 0 i = 3 ∨ valK L 0 i = 4
    ·rw [value_place h2]; exact ⟨(place_right L (i + 1)).1, place_expr (place_right L (i + 1)).2⟩
    ·rw [value_kind (by omega)]; exact ⟨leaf_right (by decide) rfl (by decide) rfl, rfl⟩
 | succ e ih =>
  intro i
  obtain ⟨r0, r1, _⟩ := valK_range L (e + 1) i
  by_cases h0 : valK L (e + 1) i = 0 ∨ valK L (e + 1) i = 1
  ·rw [value_num h0]
   have hr := atL_range L (i + 1) 6 (by decide)
   exact ⟨leaf_right (by decide) rfl (getD_all (p := fun n : Int => loAt 32 ≤ n ∧ n ≤ hiAt 32) (by decide : ∀ n ∈ numsM, loAt 32 ≤ n ∧ n ≤ hiAt 32) (show (atL L (i + 1) 6).toNat < 6 by omega)) rfl, rfl⟩
  ·by_cases h1 : valK L (e + 1) i = 2
   ·rw [value_loc h1]; exact ⟨local_right L (i + 1), rfl⟩
   ·by_cases h3 : valK L (e + 1) i = 3 ∨ valK L (e + 1) i = 4
    ·rw [value_place h3]; exact ⟨(place_right L (i + 1)).1, place_expr (place_right L (i + 1)).2⟩
    ·by_cases h4 : valK L (e + 1) i = 5
     ·rw [value_kind h4]; exact ⟨leaf_right (by decide) rfl (by decide) rfl, rfl⟩
     ·rw [value_bin (by omega)]
      exact bin_right (by omega) (by omega) (ih (i + 1)) (ih (valueM L e (i + 1)).2)
theorem stmt_mk {k : Int} {t : Str} {n : Int} {ks : List Nd} (hk : 9 ≤ k ∧ k ≤ 25) (h1 : textB k t = true) (h2 : loAt k ≤ n ∧ n ≤ hiAt k) (h3 : shapedK k ks = true) (h4 : ∀ x ∈ ks, rightN x = true) :
  rightN (.mk k t n ks) = true ∧ isStmtK (Nd.mk k t n ks).kind = true := ⟨right_mk.2 ⟨by omega, by omega, h3, h2.1, h2.2, h1, h4⟩, isStmtK_iff.2 hk⟩
theorem one1 {x : Nd} (h : rightN x = true) : ∀ y ∈ [x], rightN y = true := fun y hy => by rw [List.mem_singleton.1 hy]; exact h
theorem oneB_right {L : List Int} {d i : Nat} {bl : Nat → Nd × Nat} (hb : 0 < d → ∀ j, rightN (bl j).1 = true ∧ isBlockK (bl j).1.kind = true) : rightN (oneB L d bl i).1 = true ∧ isStmtK (oneB L d bl i).1.kind = true := by
 obtain ⟨k, hk⟩ : ∃ k, oneK L d i = k := ⟨_, rfl⟩
 obtain ⟨r0, r1, r2⟩ := oneK_range hk
 rw [oneB_eq hk]
 have v1 := fun j => value_right L 1 j
 have v2 := fun j => value_right L 2 j
 have pl := place_right L (i + 1)
 have cl := call_whole L (i + 1)
 have ol := own_whole L (i + 1)
 unfold oneC
 split
 ·rename_i q; subst q
  exact stmt_mk (by decide) ol (by decide) (by simp [shapedK, kidsB, (v2 (i + 1 + 1)).2]) (one1 (v2 (i + 1 + 1)).1)
 split
 ·rename_i q; subst q
  refine stmt_mk (by decide) rfl (by decide) (by simp [shapedK, kidsB, pl.2, (v2 (placeM L (i + 1)).2).2]) fun y hy => ?_
  simp only [List.mem_cons, List.not_mem_nil, or_false] at hy
  rcases hy with rfl | rfl
  ·exact pl.1
  ·exact (v2 _).1
 split
 ·rename_i q
  have hb := hb (r2 q)
  have a1 := v1 (i + 1)
  have a2 := hb (valueM L 1 (i + 1)).2
  have a3 := hb ((bl (valueM L 1 (i + 1)).2).2 + 1)
  have m2 : ∀ y ∈ [(valueM L 1 (i + 1)).1, (bl (valueM L 1 (i + 1)).2).1], rightN y = true := fun y hy => by
   simp only [List.mem_cons, List.not_mem_nil, or_false] at hy
   rcases hy with rfl | rfl
   ·exact a1.1
   ·exact a2.1
  have m3 : ∀ y ∈ [(valueM L 1 (i + 1)).1, (bl (valueM L 1 (i + 1)).2).1, (bl ((bl (valueM L 1 (i + 1)).2).2 + 1)).1], rightN y = true := fun y hy => by
   simp only [List.mem_cons, List.not_mem_nil, or_false] at hy
   rcases hy with rfl | rfl | rfl
   ·exact a1.1
   ·exact a2.1
   ·exact a3.1
  split
  ·rename_i q2; subst q2
   split
   ·exact stmt_mk (by decide) rfl (by decide) (by simp [shapedK, kidsB, a1.2, a2.2, a3.2]) m3
   ·exact stmt_mk (by decide) rfl (by decide) (by simp [shapedK, kidsB, a1.2, a2.2]) m2
  ·rename_i q2
   have q3 : k = 12 := by omega
   subst q3
   exact stmt_mk (by decide) rfl (by decide) (by simp [shapedK, kidsB, a1.2, a2.2]) m2
 split
 ·rename_i q
  rcases q with rfl | rfl | rfl | rfl <;> exact stmt_mk (by decide) cl (by decide) rfl fun x hx => by cases hx
 split
 ·rename_i q
  rcases q with rfl | rfl <;> exact stmt_mk (by decide) cl (by decide) (by simp [shapedK, kidsB, (v1 (i + 1 + 1)).2]) (one1 (v1 (i + 1 + 1)).1)
 split
 ·rename_i q
  rcases q with rfl | rfl <;> exact stmt_mk (by decide) cl (by decide) rfl (one1 (local_right L (i + 1 + 1)))
 split
 ·rename_i q; subst q
  have hr := atL_range L (((i + 1 : Nat) : Int) + 1) 5 (by decide)
  have e1 : loAt 19 = 2 := rfl
  have e2 : hiAt 19 = 6 := rfl
  exact stmt_mk (by decide) ol (by omega) rfl fun x hx => by cases hx
 split
 ·rename_i q; subst q
  exact stmt_mk (by decide) ol (by decide) rfl fun x hx => by cases hx
 split
 ·rename_i q; subst q
  have hr := atL_range L ((i + 1 : Nat) : Int) 9 (by decide)
  have e1 : loAt 21 = 1 := rfl
  have e2 : hiAt 21 = 9 := rfl
  exact stmt_mk (by decide) rfl (by omega) rfl fun x hx => by cases hx
 split
 ·rename_i q; subst q
  have hr := atL_range L ((i + 1 : Nat) : Int) 99 (by decide)
  have e1 : loAt 25 = 1 := rfl
  have e2 : hiAt 25 = 99 := rfl
  exact stmt_mk (by decide) rfl (by omega) rfl fun x hx => by cases hx
 ·have q : k = 24 := by omega
  subst q
  exact stmt_mk (by decide) rfl (by decide) (by simp [shapedK, kidsB, (v2 (i + 1)).2]) (one1 (v2 (i + 1)).1)
theorem somes_right {L : List Int} {st : Nat → Nd × Nat} (h : ∀ j, rightN (st j).1 = true ∧ isStmtK (st j).1.kind = true) : ∀ (m : Nat) (ks : List Nd) (j : Nat), (∀ x ∈ ks, rightN x = true ∧ isStmtK x.kind = true) → ∀ x ∈ (somesM L st m ks j).1, rightN x = true ∧ isStmtK x.kind = true
 | 0, ks, j, hk => by simpa [somesM] using hk
 | m + 1, ks, j, hk => by
  unfold somesM
  split
  ·exact hk
  ·refine somes_right h m _ _ fun x hx => ?_
   rcases List.mem_append.1 hx with hx | hx
   ·exact hk x hx
   ·rw [List.mem_singleton.1 hx]; exact h j
theorem some_right {L : List Int} {st : Nat → Nd × Nat} (h : ∀ j, rightN (st j).1 = true ∧ isStmtK (st j).1.kind = true) (i : Nat) : rightN (someM L st i).1 = true ∧ isBlockK (someM L st i).1.kind = true :=
 ⟨block_right (somes_right h _ [] _ fun x hx => by cases hx), rfl⟩
theorem one_right (L : List Int) : ∀ d i, rightN (oneM L d i).1 = true ∧ isStmtK (oneM L d i).1.kind = true
 | 0, i => by rw [oneM]; exact oneB_right fun h => absurd h (Nat.lt_irrefl 0)
 | d + 1, i => by rw [oneM]; exact oneB_right fun _ j => some_right (one_right L d) j
theorem body_right (L : List Int) : ∀ (m : Nat) (ks : List Nd) (j : Nat), (∀ x ∈ ks, rightN x = true ∧ isStmtK x.kind = true) → ∀ x ∈ bodyM L m ks j, rightN x = true ∧ isStmtK x.kind = true
 | 0, ks, j, hk => by simpa [bodyM] using hk
 | m + 1, ks, j, hk => by
  unfold bodyM
  split
  ·exact hk
  ·refine body_right L m _ _ fun x hx => ?_
   rcases List.mem_append.1 hx with hx | hx
   ·exact hk x hx
   ·rw [List.mem_singleton.1 hx]; exact one_right L 2 j
theorem items_right (L : List Int) : ∀ c, ∀ x ∈ itemsM L c, rightN x = true ∧ isItemK x.kind = true
 | 0, x, hx => by cases hx
 | c + 1, x, hx => by
  rw [itemsM] at hx
  rcases List.mem_append.1 hx with hx | hx
  ·exact items_right L c x hx
  ·rw [List.mem_singleton.1 hx]
   have hr := atL_range L (4 + 2 * c) 1999 (by decide)
   have e1 : loAt 7 = -999 := rfl
   have e2 : hiAt 7 = 999 := rfl
   exact ⟨leaf_right (by decide) rfl (by omega) (call_whole L (3 + 2 * c)), rfl⟩
theorem tree_right (l : List Int) : rightN (treeS l) = true ∧ 0 ≤ (treeS l).kind ∧ (treeS l).kind ≤ 6 := by
 unfold treeS
 generalize l.take 48 = L
 have cl := call_whole L 1
 have hk := atL_range L 0 10 (by decide)
 have hx := getD_all (p := fun n : Int => 0 ≤ n ∧ n ≤ 6) (d := 0) (by decide : ∀ n ∈ treeKinds, 0 ≤ n ∧ n ≤ 6) (show (atL L 0 10).toNat < 10 by omega)
 unfold treeB
 simp only []
 generalize treeKinds.getD (atL L 0 10).toNat 0 = k at hx
 split
 ·rename_i q; subst q
  have hr := atL_range L 2 1999 (by decide)
  have e1 : loAt 0 = -999 := rfl
  have e2 : hiAt 0 = 999 := rfl
  exact ⟨leaf_right (by decide) rfl (by omega) cl, mk_range (by decide)⟩
 split
 ·rename_i q; subst q
  have hr := atL_range L 2 4 (by decide)
  have e1 : loAt 2 = 0 := rfl
  have e2 : hiAt 2 = 3 := rfl
  exact ⟨leaf_right (by decide) rfl (by omega) cl, mk_range (by decide)⟩
 split
 ·rename_i q; subst q
  exact ⟨right_mk.2 ⟨by decide, by decide, List.all_eq_true.2 fun x hx => (items_right L _ x hx).2, by decide, by decide, cl, fun x hx => (items_right L _ x hx).1⟩, mk_range (by decide)⟩
 split
 ·rename_i q
  have hb : rightN (.mk 8 [] 0 (bodyM L L.length [] 2)) = true := block_right (body_right L _ [] 2 fun x hx => by cases hx)
  rcases q with rfl | rfl <;> exact ⟨right_mk.2 ⟨by decide, by decide, rfl, by decide, by decide, cl, one1 hb⟩, mk_range (by decide)⟩
 ·have q : k = 3 ∨ k = 4 := by omega
  rcases q with rfl | rfl <;> exact ⟨leaf_right (by decide) rfl (by decide) cl, mk_range (by decide)⟩
theorem tree_def (l : List Int) : DefR (treeS l) := right_def (tree_right l).1 (tree_right l).2.1 (tree_right l).2.2
end Go.Eng
namespace Go.Eng
open Go.Proofs
attribute [local simp] runL stepL evalG evalOp opLV constLV putEnv dstOk upd upds Res.plain Res.cond Res.fail evalBin evalUn seqQ blockQ argsEnv lookL lookH RetIs memless freshL evalPick evalMin bval bok evalLen evalIn strip whenC guardOps guardC slotsOf
 runM foldS stepI stepM maskE wrIn lk renO lookN evalCall evalCallee optAll resLV resObj retLV retObj retsLV retsObj evalLoad evalIndexAddr evalField solid cellsD_agg cellsD_int cellsD_bool cellsD_str cellsD_sl cellsD_ro cellsD_fn cellsL_agg cellsL_dagg cellsL_int cellsL_bool cellsL_str cellsL_sl cellsL_fn cellsL_ow cellsL_bx cellsL_lfn cellsL_nl takeL takeD mkAgg allD eqD eqDs kindsAre kindIs LObj.live TK.isNone TK.agg TK.isBool TK.isStr TK.isStruct Op.operands Call.operands
 evalBuildSlice evalAppend elemsOf evalStore evalBuild fillL lookupF putL evalSlice bound evalConv elemsS freezes frozen loadR
 mkEnv_at mkObs_at close_d close_agg close_ow close_bx close_fn close_nl touch_d touch_agg touch_ow touch_bx touch_fn touch_nl ren_d ren_agg ren_bx ren_rp ren_ow ren_fn ren_nl ren_junk retQ_ret retQ2_ret condQ_bool Nm.d Df.d Ed.d nmsD dfsD strsD edsD retC_ret nm_eq df_eq take_map_len take_map_app
 nm_t nm_d nm_td df_t df_d df_td str_t str_d str_td ed_t ed_d ed_td
 evalAppendIn evalBuildSliceC evalCopyC shortL evalApart evalAppendC evalAppendZ evalAppendG evalCapC isOc TK.isInt close_oc touch_oc ren_oc cellsL_oc evalCut evalClear evalCopy evalMake evalWrap evalCap evalNil isNilC lenL isInp gorc gorc2
 mapOf findD keyEq keyOk evalMakeMap evalRange zeroD zeroDV argsG shutG outN lenv retG0_ret retG0_normal retG1_ret retGR_ret renO close_mp touch_mp ren_mp optAll_d optAll_d' touch_ds cellsL_mp cellsD_mp cellsL_dmp
 evalMapSet evalPtr TK.isPtr evalToArr firstL retN_ret retsQ rvarL close_bm touch_bm ren_bm cellsD_bm cellsL_bm cellsL_lbm
attribute [local simp] cutQ_normal cutQ_ret cutQ_exit
section
attribute [local simp] Res.cond Nd.d_eq nd_t nd_dr nd_td ndsD evalIndex
theorem textT_len {x : Nd} (h : DefR x) : (textT x).length ≤ 40 * weighN x + 40 := by
 obtain ⟨_, h⟩ := h
 have hw := weighN_eq x
 have wl := word_len x.kind
 have il := itoa_len x.n
 have it := itemsT_len x.kids
 unfold textT
 simp only []
 split
 ·rename_i q
  split
  ·rename_i b hb
   have hB : BlockR b := by
    rcases h with ⟨_, c, hx, hc⟩ | ⟨z, _⟩ | ⟨z, _⟩ | ⟨z, _⟩ | ⟨z, _⟩
    ·rw [hx] at hb
     have hb : [c] = [b] := hb
     injection hb with hb _
     rw [← hb]; exact hc
    all_goals omega
   have hl := (stmtT_len b).2 hB
   rw [hb] at hw
   simp only [weighL] at hw
   simp only [List.length_append, List.length_cons]; omega
  ·exact Nat.zero_le _
 ·split
  ·simp only [List.length_append, List.length_cons, List.length_nil]; omega
  ·split
   ·simp only [List.length_append, List.length_cons, List.length_nil]; omega
   ·split
    ·simp only [List.length_append, List.length_cons, List.length_nil]; omega
    ·simp only [List.length_append, List.length_cons, List.length_nil]; omega
theorem treeT_len (l : List Int) : (textT (treeS l)).length ≤ 40000040 := by
 have := textT_len (tree_def l)
 have := tree_weigh l
 omega
set_option maxRecDepth 10000 in
theorem SourceParses_ok (l m : List Int) (a how b : Int) (raw : Str) (hl : MkL l) (hm : MkL m) (ha : I64r a) (hh : I64r how) (hb : I64r b) (hr : raw.length ≤ 9223372036854775807) : Ok Tryz.prog 4 [.sl (l.map I64), .sl (m.map I64), I64 a, I64 how, I64 b, .str raw] ⟨.d (.bool true), true⟩ := by
 refine Ok.ret Tryz.func4 (by kernel_rfl) (c := _) rfl Tryz.ntmps4 (by simp) Tryz.results4 (by intro _ h; cases h) fun w0 X hp => ?_
 have h6 : I64r (how.tdiv 6) := tdiv_r (m := 5) hh
 unfold I64r at ha hh hb h6
 obtain ⟨x, hx⟩ : ∃ x, treeS l = x := ⟨_, rfl⟩
 obtain ⟨s, hs⟩ : ∃ s, textT x = s := ⟨_, rfl⟩
 obtain ⟨t, ht⟩ : ∃ t, spacedS s m = t := ⟨_, rfl⟩
 obtain ⟨u, hu⟩ : ∃ u, changedS s a how b = u := ⟨_, rfl⟩
 obtain ⟨v, hv⟩ : ∃ v, changedS u b (how.tdiv 6) a = v := ⟨_, rfl⟩
 obtain ⟨z, hz⟩ : ∃ z, changedS t a how b = z := ⟨_, rfl⟩
 obtain ⟨r, hrr⟩ : ∃ r, raw.take 200 = r := ⟨_, rfl⟩
 have ls : s.length ≤ 40000040 := by rw [← hs, ← hx]; exact treeT_len l
 have lt : t.length ≤ 840000840 := by rw [← ht]; have := spaced_len s m; omega
 have lu : u.length ≤ 80000120 := by rw [← hu]; have := chg_len s a how b; omega
 have lr : r.length ≤ 200 := by rw [← hrr, List.length_take]; omega
 have kx := MTree_ok l hl
 have ks := RText_ok x (by rw [← hx]; exact tree_def l) (by have := tree_weigh l; rw [hx] at this; omega)
 have kt := RSpaced_ok s m (by omega) hm
 have ku := RChanged_ok s a how b (by omega) ha hh hb
 have kv := RChanged_ok u b (how.tdiv 6) a (by omega) hb h6 ha
 have kz := RChanged_ok t a how b (by omega) ha hh hb
 have kr := Short_ok raw 200 hr
 rw [hx] at kx
 rw [hs] at ks
 rw [ht] at kt
 rw [hu] at ku
 rw [hv] at kv
 rw [hz] at kz
 rw [hrr] at kr
 simp at kx ks
 obtain ⟨TL, hTL⟩ : ∃ TL : List Str, TL = [s, t, u, v, z, r, [116, 101, 115, 116, 32, 116, 32, 123, 32] ++ r, [118, 97, 114, 32, 110, 32, 61, 32] ++ r, s ++ r] := ⟨_, rfl⟩
 have hTl : TL.length = 9 := by rw [hTL]; rfl
 refine LWp.sz hT hW ?_
 simp
 refine LWp.so hT hW (fun | 25 => some <| .plain ⟨.d x.d, false⟩ | 26 => some <| .plain ⟨.d (.str s), true⟩ | _ => none) ?_
 simp
 refine ⟨⟨kx, ks⟩, ?_⟩
 refine LWp.so hT hW (fun | 29 => some <| .plain ⟨.d (.str t), true⟩ | _ => none) ?_
 simp
 refine ⟨kt, ?_⟩
 refine LWp.so hT hW (fun | 34 => some <| .plain ⟨.d (.str u), true⟩ | _ => none) ?_
 simp
 refine ⟨ku, ?_⟩
 refine LWp.so hT hW (fun | 36 => some <| .plain ⟨.d (.str r), true⟩ | _ => none) ?_
 simp
 refine ⟨kr, ?_⟩
 refine LWp.so hT hW (fun | 45 => some <| .plain ⟨.d (.str v), true⟩ | 50 => some <| .plain ⟨.d (.str z), true⟩ | _ => none) ?_
 simp
 refine ⟨by (repeat' with_reducible apply And.intro) <;> first | omega | with_reducible assumption | decide, ?_⟩
 refine LWp.weak (Weak.close 16 (x := .sl (TL.map DV.str)) (by simp [hTL])) ?_
 simp
 refine LWp.seq ?_
 refine LWp.sz hT hW ?_
 simp
 refine LWp.block ?_
 refine LWp.loopW (ι := Nat) (fun i => mkEnv [(16, .d (.sl (TL.map DV.str))), (17, .d (I64 (i : Nat)))]) (fun i => mkObs []) (fun i => i ≤ 9) (fun i => 9 - i) 0 (Weak.to [16, 17] [] (by decide) (by decide) (by simp [hp]) (by simp) (by simp)) (Nat.zero_le _) fun i hi7 => ?_
 refine LWp.seq ?_
 refine LWp.sz hT hW ?_
 simp [hTl]
 refine LWp.iff ?_
 simp
 refine ⟨fun h7 => ?_, fun h7 => ?_⟩
 ·refine LWp.skip ?_
  simp
  refine LWp.seq ?_
  refine LWp.block ?_
  refine LWp.seq ?_
  have hi : i < TL.length := by omega
  obtain ⟨tt, hti⟩ : ∃ tt, TL[i] = tt := ⟨_, rfl⟩
  have e1 := Parse_ok tt
  have e2 := RParse_ok tt
  obtain ⟨Y, hY⟩ : ∃ Y, parseS tt = Y := ⟨_, rfl⟩
  have hwY := parse_wt tt
  rw [hY] at e1 e2 hwY
  simp at e1 e2
  refine LWp.ro hT hW (fun | 71 => some <| .plain ⟨.tup [.d Y.1.d, .d (I64 Y.2.1), .d (I64 Y.2.2)], false⟩ | _ => none) ?_
  simp [evalExtract, hi, hti]
  refine ⟨e1, ?_⟩
  refine LWp.so hT hW (fun | 80 => some <| .plain ⟨.tup [.d Y.1.d, .d (I64 Y.2.1), .d (I64 Y.2.2)], false⟩ | _ => none) ?_
  simp [evalExtract, hi, hti]
  refine ⟨e2, ?_⟩
  refine LWp.seq ?_
  have e3 := RSame_ok Y.1 hwY Y.1
  rw [same_refl] at e3
  simp at e3
  refine LWp.ro hT hW (fun | 95 => some <| .plain ⟨.d (.bool true), true⟩ | _ => none) ?_
  simp
  refine ⟨e3, ?_⟩
  refine LWp.iff ?_
  simp
  refine LWp.skip ?_
  simp
  refine LWp.rz hT hW ?_
  simp
  refine ⟨by omega, ?_⟩
  refine loopQ.mk (i + 1) (Weak.to [16, 17] [] (by decide) (by decide) (by simp [hp]) (by simp) (by simp)) ?_ ?_
  ·omega
  ·omega
 ·refine LWp.exit ?_
  simp
  refine LWp.seq ?_
  have hlv := lives06_ok
  refine LWp.ro hT hW (fun | 98 => some <| .plain ⟨.d (.bool true), true⟩ | _ => none) ?_
  simp
  refine ⟨hlv, ?_⟩
  refine LWp.ret ?_
  simp
end
end Go.Eng
namespace Go.Eng
open Go.RowKit
def offsOk (P : Program) : List Field → Nat → Bool
  | [], _ => true
  | f :: r, o => f.offset == o && offsOk P r (o + P.cellsOf f.type)
def litCells (P : Program) : Nat → TypeId → DataW Unit → Option (List Value)
  | 0, _, _ => none
  | n + 1, t, d => match P.underlying t, d with
    | some (.int _), .lit (.int k z) => some [.int k z]
    | some .string, .lit (.string s) => some [.string ⟨s.toArray⟩]
    | some (.array _ e), .agg ds => match ds.mapM (litCells P n e) with
      | some xs => if xs.all (fun x => x.length == P.cellsOf e) && xs.length * P.cellsOf e == P.cellsOf t then some xs.flatten else none
      | none => none
    | some (.struct fs), .agg ds => match (fs.toList.zip ds).mapM (fun p => litCells P n p.1.type p.2) with
      | some xs => if offsOk P fs.toList 0 && xs.flatten.length == P.cellsOf t && ((fs.toList.zip xs).all fun p => p.2.length == P.cellsOf p.1.type) && ds.length == fs.size then some xs.flatten else none
      | none => none
    | _, _ => none
theorem litChunks {c : Nat} : ∀ (xs : List (List Value)) (cs : List Value), cs.length = xs.length * c → (∀ (i : Nat) (x : List Value), xs[i]? = some x → (cs.drop (i * c)).take c = x) → cs = xs.flatten
  | [], cs, hl, _ => by
    have : cs = [] := List.eq_nil_of_length_eq_zero (by simpa using hl)
    simp [this]
  | x :: xs, cs, hl, h => by
    have h0 := h 0 x rfl
    simp only [Nat.zero_mul, List.drop_zero] at h0
    have hr := litChunks (c := c) xs (cs.drop c) (by rw [List.length_drop, hl, List.length_cons, Nat.succ_mul]; omega) fun i y hy => by
      have := h (i + 1) y (by simpa using hy)
      rw [List.drop_drop, Nat.add_comm c, ← Nat.succ_mul]
      exact this
    rw [List.flatten_cons, ← hr, ← h0, List.take_append_drop]
theorem fields_flat {P : Program} {cs : List Value} : ∀ (fs : List Field) (xs : List (List Value)) (o : Nat), offsOk P fs o = true → xs.length = fs.length → (∀ (i : Nat) (f : Field) (x : List Value), fs[i]? = some f → xs[i]? = some x → (cs.drop f.offset).take (P.cellsOf f.type) = x ∧ x.length = P.cellsOf f.type) →
    (cs.drop o).take xs.flatten.length = xs.flatten
  | [], [], _, _, _, _ => by simp
  | [], _ :: _, _, _, h, _ => by simp at h
  | _ :: _, [], _, _, h, _ => by simp at h
  | f :: fs, x :: xs, o, ho, hl, h => by
    simp only [offsOk, Bool.and_eq_true, beq_iff_eq] at ho
    obtain ⟨h1, h2⟩ := h 0 f x rfl rfl
    have hr := fields_flat fs xs (o + P.cellsOf f.type) ho.2 (by simpa using hl) fun i g y hg hy => h (i + 1) g y (by simpa using hg) (by simpa using hy)
    rw [ho.1] at h1
    rw [List.flatten_cons, List.length_append, List.take_add, h2, h1, List.drop_drop, hr]
theorem lit_cells {enc : TypeId × Value → Unit} {P : Program} {w : World} {base : Nat} {sp : Nat → Bool} {held : Bool} : ∀ (n fuel : Nat) (t : TypeId) (cs : List Value) (d : DataW Unit) (p : List MemPlace) (vs : List Value),
    DataW.trod enc P w base sp held fuel t cs = some (d, p) → litCells P n t d = some vs → cs = vs := by
  intro n
  induction n with
  | zero => intro fuel t cs d p vs _ h; cases h
  | succ n ih =>
    intro fuel t cs d p vs ht hv
    unfold litCells at hv
    split at hv
    · rename_i k' k z hu
      obtain ⟨m, rfl, hx, _⟩ := DataW.trod_int hu ht
      injection hx with e1 e2
      injection e1 with e1
      injection e1 with e3 e4
      subst e3 e4
      exact Option.some.inj hv
    · rename_i s hu
      obtain ⟨b, rfl, hx, _⟩ := DataW.trod_string hu ht
      injection hx with e1 e2
      injection e1 with e1
      injection e1 with e3
      subst e3
      exact Option.some.inj hv
    · rename_i m e ds hu
      cases fuel with
      | zero => simp [DataW.trod] at ht
      | succ fuel =>
        unfold DataW.trod at ht
        rw [hu] at ht
        simp only at ht
        split at ht
        · rename_i hl
          obtain ⟨ys, hm, hx⟩ := Option.map_eq_some_iff.1 ht
          have hds : ys.map (·.1) = ds := by
            have := congrArg Prod.fst hx
            simpa using this
          split at hv
          · rename_i xs hxs
            split at hv
            · rename_i hc
              simp only [Bool.and_eq_true, List.all_eq_true, beq_iff_eq] at hc
              have hv := Option.some.inj hv
              rw [← hv]
              have hyl : ys.length = m := by simpa using Lib.mapM_length hm
              have hxl : xs.length = ds.length := Lib.mapM_length hxs
              have hdl : ds.length = m := by rw [← hds, List.length_map, hyl]
              refine litChunks (c := P.cellsOf e) xs cs (by rw [hl, hc.2]) fun i x hx' => ?_
              have hi : i < m := by have := (List.getElem?_eq_some_iff.1 hx').1; omega
              obtain ⟨y, hy, hf⟩ := Lib.mapM_at hm i i (by simp [hi])
              have hdi : ds[i]? = some y.1 := by rw [← hds, List.getElem?_map, hy]; rfl
              obtain ⟨x2, hx2, hlc⟩ := Lib.mapM_at hxs i _ hdi
              have : x2 = x := Option.some.inj (hx2.symm.trans hx')
              subst this
              exact ih fuel e _ y.1 y.2 x2 hf hlc
            · cases hv
          · cases hv
        · cases ht
    · rename_i fs ds hu
      obtain ⟨ys, m, rfl, hx, hl, hyl, hf⟩ := DataW.trod_struct hu ht
      have hds : ys.map (·.1) = ds := by
        have := congrArg Prod.fst hx
        simpa using this.symm
      split at hv
      · rename_i xs hxs
        split at hv
        · rename_i hc
          simp only [Bool.and_eq_true, List.all_eq_true, beq_iff_eq] at hc
          obtain ⟨⟨⟨c1, c2⟩, c3⟩, c4⟩ := hc
          have hv := Option.some.inj hv
          rw [← hv]
          have hxl : xs.length = (fs.toList.zip ds).length := Lib.mapM_length hxs
          have hzl : (fs.toList.zip ds).length = fs.size := by rw [List.length_zip, c4]; simp
          have key := fields_flat (P := P) (cs := cs) fs.toList xs 0 c1 (by rw [hxl, hzl]; simp) fun i f x hfi hxi => by
            have hfa : fs[i]? = some f := by simpa using hfi
            have hyi := hf i f hfa
            have hi : i < fs.size := (Array.getElem?_eq_some_iff.1 hfa).1
            obtain ⟨y, hy⟩ : ∃ y, ys[i]? = some y := ⟨_, List.getElem?_eq_getElem (by omega)⟩
            rw [hy] at hyi
            have hdi : ds[i]? = some y.1 := by rw [← hds, List.getElem?_map, hy]; rfl
            have hz : (fs.toList.zip ds)[i]? = some (f, y.1) := by
              rw [List.getElem?_zip_eq_some]
              exact ⟨hfi, hdi⟩
            obtain ⟨x2, hx2, hlc⟩ := Lib.mapM_at hxs i _ hz
            have : x2 = x := Option.some.inj (hx2.symm.trans hxi)
            subst this
            refine ⟨ih m f.type _ _ _ x2 hyi hlc, ?_⟩
            have hz2 : (fs.toList.zip xs)[i]? = some (f, x2) := by
              rw [List.getElem?_zip_eq_some]
              exact ⟨hfi, hxi⟩
            exact c3 _ (List.mem_of_getElem? hz2)
          rw [List.drop_zero, c2, ← hl, List.take_length] at key
          exact key
        · cases hv
      · cases hv
    · cases hv
def dvVal : DV → Value
  | .int k n => .int k n
  | .str s => .string ⟨s.toArray⟩
  | _ => undef
def flatB : DV → Bool
  | .int _ _ => true
  | .str _ => true
  | _ => false
theorem glob_one {P : Program} {W : World} {name : String} {g g' : Nat} {t t' : TypeId} {cs : Array Value} {fuel n : Nat} {p : List MemPlace} {d : DataW Unit} {ds : List DV} {enc : TypeId × Value → Unit} {base : Nat} {sp : Nat → Bool} {held : Bool}
    (hg : P.globalNamed name = some g) (hty : (P.globals[g]?).map (·.type) = some t) (hg' : P.globalNamed name = some g') (ht' : (P.globals[g']?).map (·.type) = some t') (hvar : W.var? P name = some cs)
    (hd : DataW.trod enc P W base sp held fuel t' cs.toList = some (d, p)) (hlit : litCells P n t d = some (ds.map dvVal)) (hfl : ds.all flatB = true) :
    RD W (fun _ => False) (.ro ds) (.pointer (some ⟨g, 0, none⟩)) ∧ ∃ arr t fz, W.heap[g]? = some (.cells arr t fz) ∧ arr.size = ds.length := by
  obtain rfl := Option.some.inj (hg.symm.trans hg')
  obtain rfl := Option.some.inj (hty.symm.trans ht')
  have hc := lit_cells n fuel t cs.toList d p _ hd hlit
  have hsz : cs.size = ds.length := by
    have := congrArg List.length hc
    simpa using this
  have hblk : ∃ ty fz, W.heap[g]? = some (.cells cs ty fz) := by
    unfold World.var? at hvar
    rw [hg] at hvar
    simp only [Option.bind_some] at hvar
    split at hvar
    · rename_i c ty fz hh
      cases hvar
      exact ⟨ty, fz, hh⟩
    · cases hvar
  obtain ⟨ty, fz, hblk⟩ := hblk
  refine ⟨.ro ds g 0 (ds.map dvVal) (fun h => h) (by simp) (fun u hu => ?_) (Array.getElem?_eq_some_iff.1 hblk).1 (fun j u hj => ?_) (fun i x v hx hv => ?_), cs, ty, fz, hblk, hsz⟩
  · obtain ⟨x, hx, rfl⟩ := List.mem_map.1 hu
    have := List.all_eq_true.1 hfl x hx
    cases x <;> first | rfl | cases this
  · have := World.var?_cell hg hvar j
    rw [Nat.zero_add, this, ← hj, ← hc]
    simp
  · rw [List.getElem?_map, hx] at hv
    cases hv
    have := List.all_eq_true.1 hfl x (List.mem_of_getElem? hx)
    cases x with
    | int k n => exact .int k n
    | str s => exact .str s
    | _ => cases this
theorem str_rd {w : World} (s : ByteArray) : RD w (fun _ => False) (.str s.data.toList) (.string s) := by
  have := RD.str (w := w) (E := fun _ => False) s.data.toList
  rwa [str_bytes] at this
end Go.Eng
namespace Go.Proofs.YtmpfgfdjkjekcaaGreatDoor.crA
open Go.Eng
theorem gl {W : World} (h : laidMetH Tryz.prog Rows.sourceValidRow.laid W) : Glob W (fun _ => False) := by
  have h : laidMet Tryz.prog Rows.sourceValidRow.laid W := h
  obtain ⟨ps, ⟨g1, t1, c1, f1, p1, q1, n1, y1, v1, d1, ⟨g2, t2, c2, f2, p2, q2, n2, y2, v2, d2, ⟨g3, t3, c3, f3, p3, q3, n3, y3, v3, d3, ⟨g4, t4, c4, f4, p4, q4, n4, y4, v4, d4, ⟨g5, t5, c5, f5, p5, q5, n5, y5, v5, d5, ⟨g6, t6, c6, f6, p6, q6, n6, y6, v6, d6, ⟨g7, t7, c7, f7, p7, q7, n7, y7, v7, d7, ⟨g8, t8, c8, f8, p8, q8, n8, y8, v8, d8, _, _⟩, _⟩, _⟩, _⟩, _⟩, _⟩, _⟩, _⟩, _⟩ := h
  intro n cs hn
  match n, hn with
  | 0, hn => cases hn; exact glob_one (n := 4) (g := 0) (t := 81) (by kernel_rfl) (by kernel_rfl) n6 y6 v6 d6 (by kernel_rfl) (by kernel_rfl)
  | 1, hn => cases hn; exact glob_one (n := 4) (g := 1) (t := 99) (by kernel_rfl) (by kernel_rfl) n8 y8 v8 d8 (by kernel_rfl) (by kernel_rfl)
  | 2, hn => cases hn; exact glob_one (n := 4) (g := 2) (t := 142) (by kernel_rfl) (by kernel_rfl) n7 y7 v7 d7 (by kernel_rfl) (by kernel_rfl)
  | 3, hn => cases hn
  | 4, hn => cases hn; exact glob_one (n := 4) (g := 4) (t := 158) (by kernel_rfl) (by kernel_rfl) n3 y3 v3 d3 (by kernel_rfl) (by kernel_rfl)
  | 5, hn => cases hn
  | 6, hn => cases hn
  | 7, hn => cases hn; exact glob_one (n := 4) (g := 7) (t := 177) (by kernel_rfl) (by kernel_rfl) n1 y1 v1 d1 (by kernel_rfl) (by kernel_rfl)
  | 8, hn => cases hn; exact glob_one (n := 4) (g := 8) (t := 178) (by kernel_rfl) (by kernel_rfl) n2 y2 v2 d2 (by kernel_rfl) (by kernel_rfl)
  | n + 9, hn => cases hn
abbrev rangeS : ByteArray := { data := #[118, 97, 108, 117, 101, 32, 111, 117, 116, 32, 111, 102, 32, 114, 97, 110, 103, 101] }
abbrev syntaxS : ByteArray := { data := #[105, 110, 118, 97, 108, 105, 100, 32, 115, 121, 110, 116, 97, 120] }
noncomputable def low : Nat := (World.holding Tryz.prog default ⟨#[], #[], []⟩).heap.size
noncomputable def held (g : Nat) (cs : Array Value) : Array Value := match g with
  | 5 => #[.iface 174 (.pointer (some ⟨low + 1, 0, none⟩))]
  | 6 => #[.iface 174 (.pointer (some ⟨low, 0, none⟩))]
  | g => match globD g with
    | some ds => (ds.map dvVal).toArray
    | none => cs
noncomputable def laidWorld (os : Os) : World :=
  let w0 := World.holding Tryz.prog os ⟨#[.cells #[.string rangeS] 176, .cells #[.string syntaxS] 176], #[], []⟩
  { w0 with heap := (List.range 9).foldl (fun h g => h.modify g fun
      | .cells cs t frozen => .cells (held g cs) t frozen
      | o => o) w0.heap }
theorem laidWorld_met (os : Os) (args : Array Value) : laidMet Tryz.prog Rows.sourceValidRow.laid ((laidWorld os).forCall (fun _ _ => 0) ⟨#[], args, []⟩).memory :=
  laidMet_of_run' 8 (by kernel_rfl) (by kernel_rfl)
end Go.Proofs.YtmpfgfdjkjekcaaGreatDoor.crA
