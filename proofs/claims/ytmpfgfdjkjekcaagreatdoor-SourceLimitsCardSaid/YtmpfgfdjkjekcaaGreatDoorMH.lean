/-
  Texts of the proofs of this seat, part 8. No condition.
-/
import Derived.Test.YtmpfgfdjkjekcaaGreatDoorMG
import Derived.Test.YtmpfgfdjkjekcaaGreatDoorRows
import Derived.ChangeSame
import Derived.Lib.LaidTab
set_option linter.unusedVariables false
set_option linter.unusedSimpArgs false
namespace Go.Eng
theorem place_eats {p : PS} (h : GoodT p.l) (he3 : (placeP p).2.e = 0) : (placeP p).2.l.length < p.l.length := by
  unfold placeP at he3 ⊢
  have nm : (nameP p).2.e = 0 → (nameP p).2.l.length < p.l.length := fun z => by
    cases q : isNameB p.peek with
    | false => rw [name_not q] at z; exact absurd z (fail_e (by decide))
    | true =>
      have ip : p.is p.peek = true := is_iff.2 ⟨fun e => (by rw [e] at q; cases q), rfl⟩
      have lp := is_len ip
      rw [name_is q, took_is ip]
      simp only; omega
  have ng := nameP_good h
  split at he3
  · rename_i z
    rw [if_pos z]
    have z2 : (nameP p).2.skip.e = 0 := nameP_stk _ he3
    have z3 : (nameP p).2.e = 0 := z2
    have ll := (nameP_good (p := (nameP p).2.skip) (good_skip ng.2.1)).1
    have l3 := skip_len (p := (nameP p).2)
    have := nm z3
    simp only; omega
  · rename_i z
    rw [if_neg z]
    exact nm he3
theorem stmtB_ws {m : Nat} {ex bl : PS → Nd × PS} (hs : Stk ex) (hx : Wt ex) (hb : Wb m bl) : Ws (m + 1) (stmtB ex bl) := fun p hm h => by
  obtain ⟨k, hk⟩ : ∃ k, kindP p.peek = k := ⟨_, rfl⟩
  by_cases h1 : k = 11 ∨ k = 12
  · have ip := kind_pos (p := p) (by omega)
    have lp := is_len ip
    rw [← took_is ip] at lp
    have e0 := hx (p.took p.peek) (good_took h)
    have b0 := hb (ex (p.took p.peek)).2 (by have := e0.1; omega) e0.2
    by_cases h2 : k = 11 ∧ (bl (ex (p.took p.peek)).2).2.is sElse = true
    · rw [st_else hk h2.1 h2.2]
      have l2 := is_len h2.2
      rw [← took_is h2.2] at l2
      have c0 := hb ((bl (ex (p.took p.peek)).2).2.took sElse) (by have := e0.1; have := b0.1; omega) (good_took b0.2)
      refine ⟨?_, c0.2, fun _ => ?_⟩ <;> (simp only [weighN, weighL, List.length_nil]; omega)
    · rw [st_if hk h1 (fun q => by
        cases z : (bl (ex (p.took p.peek)).2).2.is sElse with
        | false => rfl
        | true => exact absurd ⟨q, z⟩ h2)]
      refine ⟨?_, b0.2, fun _ => ?_⟩ <;> (simp only [weighN, weighL, List.length_nil]; omega)
  · by_cases h3 : 12 < k
    · have ip := kind_pos (p := p) (by omega)
      have lp := is_len ip
      rw [← took_is ip] at lp
      have c0 := cmdP_wb hx (k := k) (p.took p.peek) (good_took h)
      rw [st_cmd hk h3]
      have n := need_le (p := (cmdP ex k (p.took p.peek)).2) (s := [59])
      refine ⟨?_, (good_need c0.2).2, fun _ => ?_⟩ <;> (simp only; omega)
    · by_cases h4 : p.peek.take 1 = [36]
      · obtain ⟨i1, i2⟩ := local_is h4
        have ip : p.is p.peek = true := is_iff.2 ⟨fun e => (by rw [e] at h4; cases h4), rfl⟩
        have lp := is_len ip
        rw [← took_is ip] at lp
        have t := peek_tl h
        rw [st_local hk h1 h3 h4, i2]
        have n1 := need_le (p := p.took p.peek) (s := [61])
        have e0 := hx ((p.took p.peek).need [61]) (good_need (good_took h)).2
        have n2 := need_le (p := (ex ((p.took p.peek).need [61])).2) (s := [59])
        refine ⟨?_, (good_need e0.2).2, fun _ => ?_⟩ <;> (simp only [weighN, weighL, List.length_drop]; omega)
      · rw [st_place hk h1 h3 h4]
        have a := place_wt p h
        have le := (placeP_rt (p.l.length + 1) p (Nat.lt_succ_self _) h).1
        have n1 := need_le (p := (placeP p).2) (s := [61])
        have e0 := hx ((placeP p).2.need [61]) (good_need a.2).2
        have n2 := need_le (p := (ex ((placeP p).2.need [61])).2) (s := [59])
        refine ⟨?_, (good_need e0.2).2, fun z => ?_⟩
        · simp only [weighN, weighL, List.length_nil]; omega
        · have z : ((ex ((placeP p).2.need [61])).2.need [59]).e = 0 := z
          have pe := place_eats h (need_e (hs _ (need_e z).2)).2
          simp only [weighN, weighL, List.length_nil]; omega
theorem stmtP_ws : ∀ f, Ws f (stmtP false f)
  | 0 => fun p hm _ => absurd hm (Nat.not_lt_zero _)
  | f + 1 => stmtB_ws (exprO_stk false) (fun p h => exprP_wt _ p h) (blockB_wb (stmtP_ws f))
end Go.Eng
namespace Go.Eng
theorem name_eats {p : PS} (z : (nameP p).2.e = 0) : (nameP p).2.l.length < p.l.length := by
  cases q : isNameB p.peek with
  | false => rw [name_not q] at z; exact absurd z (fail_e (by decide))
  | true =>
    have ip : p.is p.peek = true := is_iff.2 ⟨fun e => (by rw [e] at q; cases q), rfl⟩
    have lp := is_len ip
    rw [name_is q, took_is ip]
    simp only; omega
theorem itemsF_ws (B : Nat) : ∀ (f : Nat) (ks : List Nd) (p : PS), GoodT p.l → weighL ks + 240 * p.l.length ≤ B + 90 → (p.e = 0 → weighL ks + 240 * p.l.length ≤ B) →
    weighL (itemsF f ks p).1 + 240 * (itemsF f ks p).2.l.length ≤ B + 90 ∧ GoodT (itemsF f ks p).2.l
  | 0, _, _, h, h1, _ => ⟨h1, h⟩
  | f + 1, ks, p, h, h1, h2 => by
    unfold itemsF
    split
    · exact ⟨h1, h⟩
    · rename_i q
      have e0 : p.e = 0 := Classical.byContradiction fun z => q (.inl z)
      have b := h2 e0
      have a := nameP_good h
      have t := name_tl h
      have g1 := good_need (s := [61]) a.2.1
      have v := numberP_good g1.2
      have g2 := good_need (s := [59]) v.2.1
      simp only []
      refine itemsF_ws B f _ _ g2.2 ?_ fun z => ?_
      · rw [weighL_app]; simp only [weighN, weighL]; omega
      · have z1 := numberP_stk _ (need_e z).2
        have ne := name_eats (need_e z1).2
        rw [weighL_app]; simp only [weighN, weighL]; omega
theorem defP_weigh {p : PS} (h : GoodT p.l) : weighN (defP false p).1 ≤ 240 * p.l.length + 300 := by
  have s := skip_len (p := p)
  have a := nameP_good (good_skip h)
  have t := name_tl (good_skip h)
  unfold defP
  simp only []
  split
  · simp only [weighN, weighL, List.length_nil]; omega
  · split
    · have b := blockB_wb (stmtP_ws ((nameP p.skip).2.l.length + 1)) (nameP p.skip).2 (Nat.lt_succ_self _) a.2.1
      have b1 : weighN (blockP false ((nameP p.skip).2.l.length + 1) (nameP p.skip).2).1 ≤ 240 * (nameP p.skip).2.l.length + 91 := by
        have := b.1
        show weighN (blockB (stmtP false ((nameP p.skip).2.l.length + 1)) (nameP p.skip).2).1 ≤ _
        omega
      simp only [weighN, weighL]; omega
    · split
      · have g1 := good_need (s := [123]) a.2.1
        have i := itemsF_ws (240 * ((nameP p.skip).2.need [123]).l.length) (((nameP p.skip).2.need [123]).l.length + 1) [] ((nameP p.skip).2.need [123]) g1.2 (by simp only [weighL]; omega) (fun _ => by simp only [weighL]; omega)
        have i1 := i.1
        simp only [weighN]; omega
      · split
        · simp only [weighN, weighL]; omega
        · split
          · simp only [weighN, weighL]; omega
          · simp only [weighN, weighL]; omega
theorem scanF_len : ∀ (f : Nat) (s : Str) (i : Int), (scanF f s i).1.length ≤ f
  | 0, _, _ => Nat.le_refl _
  | f + 1, s, i => by
    unfold scanF
    split
    · simp
    · split
      · have := scanF_len f (by assumption) (i + 1); omega
      · split
        · simp
        · simp only [List.length_cons]
          exact Nat.succ_le_succ (scanF_len f _ _)
theorem parse_weigh {s : Str} (hl : s.length ≤ 1024) : weighN (defP false ⟨(scanS s).1, 0⟩).1 ≤ 1000000000 := by
  have h1 : (scanS s).1.length ≤ s.length := scanF_len _ _ _
  have h2 := defP_weigh (p := ⟨(scanS s).1, 0⟩) (scanF_good _ _ _)
  have h3 : (PS.mk (scanS s).1 0).l.length = (scanS s).1.length := rfl
  omega
end Go.Eng
namespace Go.Eng
open Go.Proofs
attribute [local simp] runL stepL evalG evalOp opLV constLV putEnv dstOk upd upds Res.plain Res.cond Res.fail evalBin evalUn seqQ blockQ argsEnv lookL lookH RetIs memless freshL evalPick evalMin bval bok evalLen evalIn strip whenC guardOps guardC slotsOf
  runM foldS stepI stepM maskE wrIn lk renO lookN evalCall evalCallee optAll resLV resObj retLV retObj retsLV retsObj evalLoad evalIndexAddr evalField solid cellsD_agg cellsD_int cellsD_bool cellsD_str cellsD_sl cellsD_ro cellsD_fn cellsL_agg cellsL_dagg cellsL_int cellsL_bool cellsL_str cellsL_sl cellsL_fn cellsL_ow cellsL_bx cellsL_lfn cellsL_nl takeL takeD mkAgg allD eqD eqDs kindsAre kindIs LObj.live TK.isNone TK.agg TK.isBool TK.isStr TK.isStruct Op.operands Call.operands
  evalBuildSlice evalAppend elemsOf evalStore evalBuild fillL lookupF putL evalSlice bound evalConv elemsS freezes frozen loadR
  mkEnv_at mkObs_at close_d close_agg close_ow close_bx close_fn close_nl touch_d touch_agg touch_ow touch_bx touch_fn touch_nl ren_d ren_agg ren_bx ren_rp ren_ow ren_fn ren_nl ren_junk retQ_ret retQ2_ret condQ_bool Nm.d Df.d Ed.d nmsD dfsD strsD edsD retC_ret nm_eq df_eq take_map_len take_map_app
  nm_t nm_d nm_td df_t df_d df_td str_t str_d str_td ed_t ed_d ed_td
  evalAppendIn evalBuildSliceC evalCopyC shortL evalApart evalAppendC evalAppendZ evalAppendG evalCapC isOc TK.isInt close_oc touch_oc ren_oc cellsL_oc evalCut evalClear evalCopy evalMake evalWrap evalCap evalNil isNilC lenL isInp gorc gorc2
  mapOf findD keyEq keyOk evalMakeMap evalRange zeroD zeroDV argsG shutG outN lenv retG0_ret retG0_normal retG1_ret retGR_ret renO close_mp touch_mp ren_mp optAll_d optAll_d' touch_ds cellsL_mp cellsD_mp cellsL_dmp
  evalMapSet evalPtr TK.isPtr evalToArr firstL retN_ret retsQ rvarL close_bm touch_bm ren_bm cellsD_bm cellsL_bm cellsL_lbm
attribute [local simp] cutQ_normal cutQ_ret cutQ_exit
section
attribute [local simp] Res.cond Nd.d_eq nd_t nd_dr nd_td ndsD evalIndex retGC_ret upds_same prH
theorem parseR_left {s : Str} {R : Nd × PS} (hR : defP true ⟨(scanS s).1, 0⟩ = R) (hl : s.length ≤ 1024) {x : Tk} {r : List Tk} (h : R.2.l = x :: r) : parseR s = (zeroNd, x.at_, if R.2.e ≠ 0 then R.2.e else 2) := by
  unfold parseR; rw [if_neg (by omega)]; simp only []; rw [hR, h]
theorem parseR_short {s : Str} {R : Nd × PS} (hR : defP true ⟨(scanS s).1, 0⟩ = R) (hl : s.length ≤ 1024) (h : R.2.l = []) (h2 : ¬ R.2.e = 0 ∨ (scanS s).2 < s.length) : parseR s = (zeroNd, (scanS s).2, 2) := by
  unfold parseR; rw [if_neg (by omega)]; simp only []; rw [hR, h]; simp only []; rw [if_pos h2]
theorem parseR_big {s : Str} {R : Nd × PS} (hR : defP true ⟨(scanS s).1, 0⟩ = R) (hl : s.length ≤ 1024) (h : R.2.l = []) (h2 : ¬ (¬ R.2.e = 0 ∨ (scanS s).2 < s.length)) (h3 : 24 < depthN R.1 ∨ 1024 < (textT R.1).length) : parseR s = (zeroNd, 0, 4) := by
  unfold parseR; rw [if_neg (by omega)]; simp only []; rw [hR, h]; simp only []; rw [if_neg h2, if_pos h3]
theorem parseR_end {s : Str} {R : Nd × PS} (hR : defP true ⟨(scanS s).1, 0⟩ = R) (hl : s.length ≤ 1024) (h : R.2.l = []) (h2 : ¬ (¬ R.2.e = 0 ∨ (scanS s).2 < s.length)) (h3 : ¬ (24 < depthN R.1 ∨ 1024 < (textT R.1).length)) : parseR s = (R.1, 0, 0) := by
  unfold parseR; rw [if_neg (by omega)]; simp only []; rw [hR, h]; simp only []; rw [if_neg h2, if_neg h3]
theorem ctx_of {s : Str} (hl : s.length ≤ 1024) : Ctx s (scanS s).1 :=
  ⟨hl, Nat.le_trans (scanF_len _ _ _) hl, fun _ h => scanS_in h, scanF_good _ _ _⟩
theorem left_nil {T : List Tk} {q : PS} (f : Fit T q) (h : ¬ (T.length : Int) - q.l.length < T.length) : q.l = [] := List.eq_nil_of_length_eq_zero (by omega)
set_option maxRecDepth 10000 in
theorem RParse_step (s : Str) (T : List Tk) (hT1 : (scanS s).1 = T) (R : Nd × PS) (hR : defP true ⟨T, 0⟩ = R) : Ok Tryz.prog 26 [.str s] ⟨.tup [.d (parseR s).1.d, .d (I64 (parseR s).2.1), .d (I64 (parseR s).2.2)], false⟩ := by
  refine Ok.many hT Tryz.func26 (by kernel_rfl) (c := _) rfl Tryz.ntmps26 (by simp) Tryz.results26 (by simp) (by rfl) fun w0 X hp => ?_
  refine LWp.seq ?_
  refine LWp.rz hT hW ?_
  simp
  refine LWp.seq ?_
  refine LWp.seq ?_
  refine LWp.rz hT hW ?_
  simp
  refine LWp.iff ?_
  simp
  refine ⟨fun h1 => ?_, fun h1 => ?_⟩
  · refine LWp.seq ?_
    refine LWp.rz hT hW ?_
    simp
    refine LWp.ret ?_
    have e : parseR s = (zeroNd, 1024, 4) := by unfold parseR; rw [if_pos (by omega)]
    simp [e, zeroNd]
  · refine LWp.skip ?_
    simp
    refine LWp.seq ?_
    have hs := RScan_ok s (by omega)
    rw [hT1] at hs
    have hls : s.length ≤ 1024 := by omega
    have cx := ctx_of hls
    rw [hT1] at cx
    have fx : Fit T ⟨T, 0⟩ := ⟨List.suffix_refl _, .inl rfl⟩
    have fR := fx.def cx
    rw [hR] at fR
    have hle := fR.le
    have htt := cx.ht
    have hR' : defP true ⟨(scanS s).1, 0⟩ = R := by rw [hT1]; exact hR
    refine LWp.ro hT hW (fun | 15 => some <| .plain ⟨.tup [.d (.sl (T.map Tk.r)), .d (I64 (scanS s).2)], true⟩ | _ => none) ?_
    simp [evalExtract]
    refine ⟨hs, ?_⟩
    refine LWp.seq ?_
    refine LWp.rz hT hW ?_
    simp
    refine LWp.seq ?_
    have hd := RDef_ok s T cx ⟨T, 0⟩ fx
    rw [hR] at hd
    refine LWp.ro hT hW (fun | 23 => some (.gen ⟨[(21, 0)], [], [], prH s T R.2, .d R.1.d⟩) | _ => none) ?_
    simp
    refine ⟨by simpa using hd, ?_⟩
    refine LWp.seq ?_
    refine LWp.seq ?_
    refine LWp.regAny hT hW hMixed (lk [[],[0],[0,1],[0,1,2],[0,1,2,3],[0,1,2,3,4],[0,1,2,3,4,5],[0,1,2,3,4,5,6],[0,1,2,3,4,5,6,7],[0,1,2,3,4],[0,1,2,3,4,9],[0,1,2,3,4,9,10],[0,1,2,3,4,9,10,11],[0,1,2,3,4,9,10,11,12],[0,1,2,3,4,5,6,7,8,9,10,11,12,13],[0,1,2,3,4,5,6,7,8,9,10,11,12,13,14]]) (lk [[],[],[],[],[],[],[],[],[],[],[],[],[],[],[],[]]) (lk [[],[],[],[],[],[],[],[],[],[],[],[],[],[],[],[]]) (by kernel_rfl) (fun _ => none) (fun _ => ⟨rfl, fun _ h => h⟩) ?_
    simp
    refine LWp.iff ?_
    simp
    refine ⟨fun g1 g2 => ?_, fun g => ?_⟩
    · obtain ⟨x, r, hxr⟩ := List.exists_cons_of_ne_nil (l := R.2.l) (fun e => by rw [e] at g2; simp at g2)
      obtain ⟨n, hn, hnl, hn2, hm⟩ := fR.at hxr
      have e := parseR_left hR' hls hxr
      refine LWp.seq ?_
      refine LWp.seq ?_
      refine LWp.rz hT hW ?_
      simp
      refine LWp.iff ?_
      simp
      refine ⟨fun h7 => ?_, fun h7 => ?_⟩
      · refine LWp.seq ?_
        refine LWp.weak (Weak.shrink [0, 2, 7, 8] [(2, 2), (8, 8), (21, 21)] (by decide) (by decide) (by simp [hp])) ?_
        simp
        refine LWp.regAny hT hW hMixed (lk [[],[],[1],[1,2],[1,2,3],[],[5],[5,6],[5,6,7],[1,2,3,4,5,6,7,8],[1,2,3,4,5,6,7,8,9],[1,2,3,4,5,6,7,8,9,10],[0],[0,1,2,3,4,5,6,7,8,9,10,11,12],[0,1,2,3,4,5,6,7,8,9,10,11,12,13]]) (lk [[],[2],[2],[2],[2],[2],[2],[2],[2],[2],[2],[2],[],[],[]]) (lk [[],[],[],[],[],[],[],[],[],[],[],[],[2],[],[]]) (by kernel_rfl) (fun _ => none) (fun _ => ⟨rfl, fun _ h => h⟩) ?_
        simp [hn, hn2, Tk.r]
        refine ⟨hnl, ?_⟩
        refine LWp.ret ?_
        simp [e, zeroNd, g1, h7]
      · refine LWp.skip ?_
        simp
        refine LWp.seq ?_
        refine LWp.weak (Weak.shrink [0, 2, 7, 8] [(2, 2), (8, 8), (21, 21)] (by decide) (by decide) (by simp [hp])) ?_
        simp
        refine LWp.regAny hT hW hMixed (lk [[],[],[1],[1,2],[1,2,3],[],[5],[5,6],[5,6,7],[1,2,3,4,5,6,7,8],[1,2,3,4,5,6,7,8,9],[1,2,3,4,5,6,7,8,9,10],[0],[0,1,2,3,4,5,6,7,8,9,10,11,12],[0,1,2,3,4,5,6,7,8,9,10,11,12,13]]) (lk [[],[2],[2],[2],[2],[2],[2],[2],[2],[2],[2],[2],[],[],[]]) (lk [[],[],[],[],[],[],[],[],[],[],[],[],[2],[],[]]) (by kernel_rfl) (fun _ => none) (fun _ => ⟨rfl, fun _ h => h⟩) ?_
        simp [hn, hn2, Tk.r]
        refine ⟨hnl, ?_⟩
        refine LWp.ret ?_
        have e5 : R.2.e = 2 := by rcases fR.err with z | z | z; exact absurd z g1; exact z; exact absurd z h7
        simp [e, zeroNd, e5]
    · refine LWp.skip ?_
      simp
      refine LWp.seq ?_
      refine LWp.seq ?_
      refine LWp.regAny hT hW hMixed (lk [[],[0],[0,1],[0,1,2],[0,1,2,3],[0,1,2,3,4],[0,1,2,3,4,5],[0,1,2,3,4,5,6],[0,1,2,3,4,5,6,7],[0,1,2,3,4,5,6,7,8],[0,1,2,3,4,5],[0,1,2,3,4,5,10],[0,1,2,3,4,5,10,11],[0,1,2,3,4,5,10,11,12],[0,1,2,3,4,5,10,11,12,13],[0,1,2,3,4,5,6,7,8,9,10,11,12,13,14],[0,1,2,3,4,5,6,7,8,9,10,11,12,13,14,15]]) (lk [[],[],[],[],[],[],[],[],[],[],[],[],[],[],[],[],[]]) (lk [[],[],[],[],[],[],[],[],[],[],[],[],[],[],[],[],[]]) (by kernel_rfl) (fun _ => none) (fun _ => ⟨rfl, fun _ h => h⟩) ?_
      simp
      refine LWp.iff ?_
      simp
      refine ⟨fun k1 k2 => ?_, fun k => ?_⟩
      · obtain ⟨x, r, hxr⟩ := List.exists_cons_of_ne_nil (l := R.2.l) (fun e => by rw [e] at k2; simp at k2)
        obtain ⟨n, hn, hnl, hn2, hm⟩ := fR.at hxr
        have e := parseR_left hR' hls hxr
        refine LWp.seq ?_
        refine LWp.weak (Weak.shrink [0, 2, 7, 8] [(2, 2), (8, 8), (21, 21)] (by decide) (by decide) (by simp [hp])) ?_
        simp
        refine LWp.regAny hT hW hMixed (lk [[],[],[1],[1,2],[1,2,3],[],[5],[5,6],[5,6,7],[1,2,3,4,5,6,7,8],[1,2,3,4,5,6,7,8,9],[1,2,3,4,5,6,7,8,9,10],[0],[0,1,2,3,4,5,6,7,8,9,10,11,12],[0,1,2,3,4,5,6,7,8,9,10,11,12,13]]) (lk [[],[2],[2],[2],[2],[2],[2],[2],[2],[2],[2],[2],[],[],[]]) (lk [[],[],[],[],[],[],[],[],[],[],[],[],[2],[],[]]) (by kernel_rfl) (fun _ => none) (fun _ => ⟨rfl, fun _ h => h⟩) ?_
        simp [hn, hn2, Tk.r]
        refine ⟨hnl, ?_⟩
        refine LWp.ret ?_
        simp [e, zeroNd, k1]
      · have hnil : R.2.l = [] := left_nil fR (by
          by_cases z : R.2.e = 0
          · have := k z; omega
          · have := g z; omega)
        refine LWp.skip ?_
        simp
        refine LWp.seq ?_
        refine LWp.seq ?_
        refine LWp.rz hT hW ?_
        simp
        refine LWp.iff ?_
        simp
        refine ⟨fun k3 => ?_, fun k4 k5 => ?_⟩
        · refine LWp.seq ?_
          refine LWp.rz hT hW ?_
          simp
          refine LWp.ret ?_
          have e := parseR_short hR' hls hnil (by rcases k3 with z | z; exact .inl z; exact .inr (by omega))
          simp [e, zeroNd]
        · refine LWp.skip ?_
          simp
          refine LWp.seq ?_
          refine LWp.seq ?_
          have hrl := defP_rl ⟨(scanS s).1, 0⟩
          have heq := hrl.2 (by rw [hrl.1, hR']; exact k4)
          rw [hR'] at heq
          have hwe := parse_weigh hls
          rw [heq] at hwe
          obtain ⟨r1, r2, r3⟩ := defP_right (p := ⟨(scanS s).1, 0⟩) (scanF_good _ _ _) (by rw [hrl.1, hR']; exact k4)
          rw [heq] at r1 r2 r3
          have hdf := right_def r1 r2 r3
          have hde := RDepth_ok R.1 hwe
          have hte := RText_ok R.1 hdf hwe
          refine LWp.ro hT hW (fun | 110 => some <| .plain ⟨.d (I64 (depthN R.1)), true⟩ | 114 => some <| .plain ⟨.d (.str (textT R.1)), true⟩ | _ => none) ?_
          simp
          refine ⟨⟨by simpa using hde, fun _ => by simpa using hte⟩, ?_⟩
          refine LWp.iff ?_
          simp
          refine ⟨fun k6 => ?_, fun k7 k8 => ?_⟩
          · refine LWp.seq ?_
            refine LWp.rz hT hW ?_
            simp
            refine LWp.ret ?_
            have e := parseR_big hR' hls hnil (fun z => z.elim (fun y => y k4) (fun y => by omega)) (by omega)
            simp [e, zeroNd]
          · refine LWp.skip ?_
            simp
            refine LWp.seq ?_
            refine LWp.rz hT hW ?_
            simp
            refine LWp.ret ?_
            have e := parseR_end hR' hls hnil (fun z => z.elim (fun y => y k4) (fun y => by omega)) (by omega)
            simp [e]
theorem RParse_ok (s : Str) : Ok Tryz.prog 26 [.str s] ⟨.tup [.d (parseS s).1.d, .d (I64 (parseS s).2.1), .d (I64 (parseS s).2.2)], false⟩ := by
  rw [← parse_eq]
  exact RParse_step s _ rfl _ rfl
end
open Go.Proofs
section
attribute [local simp] Res.cond Nd.d_eq nd_t nd_dr nd_td ndsD evalIndex retGC_ret upds_same constL1 one_i one_s one_l all4 Int.add_assoc
def mkH (L : List Int) (i : Nat) : List (Nat × LObj) := [(0, .box false [.d (.sl (L.map I64)), .d (I64 i)])]
attribute [local simp] mkH
end
open Go.Proofs
section
attribute [local simp] Res.cond Nd.d_eq nd_t nd_dr nd_td ndsD evalIndex retGC_ret constL1 Int.add_assoc upds_same one_i one_s one_l all4 mkH
end
open Go.Proofs
section
attribute [local simp] Res.cond Nd.d_eq nd_t nd_dr nd_td ndsD evalIndex retGC_ret constL1 Int.add_assoc upds_same one_i one_s one_l all4 mkH
def oneC (L : List Int) (bl : Nat → Nd × Nat) (k : Int) (i : Nat) : Nd × Nat :=
  if k = 9 then (.mk k (ownM L i) 0 [(valueM L 2 (i + 1)).1], (valueM L 2 (i + 1)).2)
  else if k = 10 then (.mk k [] 0 [(placeM L i).1, (valueM L 2 (placeM L i).2).1], (valueM L 2 (placeM L i).2).2)
  else if k = 11 ∨ k = 12 then
    (if k = 11 then (if atL L (bl (valueM L 1 i).2).2 2 = 0 then (.mk k [] 0 [(valueM L 1 i).1, (bl (valueM L 1 i).2).1, (bl ((bl (valueM L 1 i).2).2 + 1)).1], (bl ((bl (valueM L 1 i).2).2 + 1)).2) else (.mk k [] 0 [(valueM L 1 i).1, (bl (valueM L 1 i).2).1], (bl (valueM L 1 i).2).2 + 1))
    else (.mk k [] 0 [(valueM L 1 i).1, (bl (valueM L 1 i).2).1], (bl (valueM L 1 i).2).2))
  else if k = 13 ∨ k = 14 ∨ k = 17 ∨ k = 18 then (.mk k (callM L i) 0 [], i + 1)
  else if k = 15 ∨ k = 22 then (.mk k (callM L i) 0 [(valueM L 1 (i + 1)).1], (valueM L 1 (i + 1)).2)
  else if k = 16 ∨ k = 23 then (.mk k (callM L i) 0 [.mk 33 (ownM L (i + 1)) 0 []], i + 2)
  else if k = 19 then (.mk k (ownM L i) (2 + atL L (i + 1) 5) [], i + 2)
  else if k = 20 then (.mk k (ownM L i) 0 [], i + 1)
  else if k = 21 then (.mk k [] (1 + atL L i 9) [], i + 1)
  else if k = 25 then (.mk k [] (1 + atL L i 99) [], i + 1)
  else (.mk k [] 0 [(valueM L 2 i).1], (valueM L 2 i).2)
end
open Go.Proofs
section
attribute [local simp] Res.cond Nd.d_eq nd_t nd_dr nd_td ndsD evalIndex retGC_ret constL1 Int.add_assoc upds_same one_i one_s one_l all4 mkH
section
variable {L : List Int} {k : Int} {t : Str} (hk : treeKinds.getD (atL L 0 10).toNat 0 = k) (ht : callM L 1 = t)
include hk ht
end
end
open Go.Proofs
section
attribute [local simp] Res.cond Nd.d_eq nd_t nd_dr nd_td ndsD evalIndex constL1 upds_same one_i one_s one_l all4
def I64r (n : Int) : Prop := -9223372036854775808 ≤ n ∧ n ≤ 9223372036854775807
end
end Go.Eng
namespace Go.Eng
open Go.Proofs
def lvA : Str := [118, 97, 114, 32, 110, 61, 45, 55, 59]
def lvB : Str := [112, 114, 111, 99, 32, 112, 123, 36, 97, 61, 40, 120, 46, 121, 43, 49, 41, 42, 50, 59, 105, 102, 32, 36, 97, 60, 51, 123, 103, 111, 32, 113, 59, 125, 101, 108, 115, 101, 123, 125, 125]
def lvC : Str := [116, 101, 115, 116, 32, 116, 32, 123, 32, 99, 104, 101, 99, 107, 32, 49, 32, 61, 61, 32, 107, 105, 110, 100, 59, 32, 125]
def lvP : Str := [112, 114, 111, 99, 32, 112, 32, 123, 32, 36, 97, 32, 61, 32, 40, 120, 46, 121, 32, 43, 32, 49, 41, 32, 42, 32, 50, 59, 32, 105, 102, 32, 36, 97, 32, 60, 32, 51, 32, 123, 32, 103, 111, 32, 113, 59, 32, 125, 32, 101, 108, 115, 101, 32, 123, 32, 125, 32, 125]
def lvK : Nd := .mk 24 [] 0 [.mk 28 [] 0 [.mk 32 [] 1 [], .mk 36 [] 0 []]]
def lvT : List Str := [[99, 104, 97, 110, 32, 99, 32, 52, 59], [116, 101, 115, 116, 32, 116, 32, 123, 32, 120, 32, 61, 32, 59, 32, 125], [108, 111, 99, 107, 32, 108], [118, 97, 114, 32, 114, 101, 97, 100, 32, 61, 32, 49, 59]]
def lvO : List Int := [7, 13, 6, 4]
set_option maxRecDepth 10000
theorem lvA_parse : parseS lvA = (.mk 0 [110] (-7) [], 0, 0) := by decide
theorem lvA_print : printS (.mk 0 [110] (-7) []) = [118, 97, 114, 32, 110, 32, 61, 32, 45, 55, 59] := by decide
theorem lvB_parse : (parseS lvB).2 = (0, 0) := by decide
theorem lvB_size : sizeN (parseS lvB).1 = 15 := by decide
theorem lvB_weigh : weighN (parseS lvB).1 ≤ 1000 := by decide
theorem lvB_print : printS (parseS lvB).1 = lvP := by decide
theorem lvC_parse : parseS lvC = (.mk 6 [116] 0 [.mk 8 [] 0 [lvK]], 0, 0) := by decide
theorem lvC_head : headK (.mk 6 [116] 0 [.mk 8 [] 0 [lvK]]) = 6 ∧ headT (.mk 6 [116] 0 [.mk 8 [] 0 [lvK]]) = [116] := by decide
theorem lvT_parse : ∀ i, i < 4 → (parseS (lvT.getD i [])).2 = (lvO.getD i 0, if i = 0 then 5 else 2) := by decide
end Go.Eng
namespace Go.Eng
open Go.Proofs
attribute [local simp] runL stepL evalG evalOp opLV constLV putEnv dstOk upd upds Res.plain Res.cond Res.fail evalBin evalUn seqQ blockQ argsEnv lookL lookH RetIs memless freshL evalPick evalMin bval bok evalLen evalIn strip whenC guardOps guardC slotsOf
  runM foldS stepI stepM maskE wrIn lk renO lookN evalCall evalCallee optAll resLV resObj retLV retObj retsLV retsObj evalLoad evalIndexAddr evalField solid cellsD_agg cellsD_int cellsD_bool cellsD_str cellsD_sl cellsD_ro cellsD_fn cellsL_agg cellsL_dagg cellsL_int cellsL_bool cellsL_str cellsL_sl cellsL_fn cellsL_ow cellsL_bx cellsL_lfn cellsL_nl takeL takeD mkAgg allD eqD eqDs kindsAre kindIs LObj.live TK.isNone TK.agg TK.isBool TK.isStr TK.isStruct Op.operands Call.operands
  evalBuildSlice evalAppend elemsOf evalStore evalBuild fillL lookupF putL evalSlice bound evalConv elemsS freezes frozen loadR
  mkEnv_at mkObs_at close_d close_agg close_ow close_bx close_fn close_nl touch_d touch_agg touch_ow touch_bx touch_fn touch_nl ren_d ren_agg ren_bx ren_rp ren_ow ren_fn ren_nl ren_junk retQ_ret retQ2_ret condQ_bool Nm.d Df.d Ed.d nmsD dfsD strsD edsD retC_ret nm_eq df_eq take_map_len take_map_app
  nm_t nm_d nm_td df_t df_d df_td str_t str_d str_td ed_t ed_d ed_td
  evalAppendIn evalBuildSliceC evalCopyC shortL evalApart evalAppendC evalAppendZ evalAppendG evalCapC isOc TK.isInt close_oc touch_oc ren_oc cellsL_oc evalCut evalClear evalCopy evalMake evalWrap evalCap evalNil isNilC lenL isInp gorc gorc2
  mapOf findD keyEq keyOk evalMakeMap evalRange zeroD zeroDV argsG shutG outN lenv retG0_ret retG0_normal retG1_ret retGR_ret renO close_mp touch_mp ren_mp optAll_d optAll_d' touch_ds cellsL_mp cellsD_mp cellsL_dmp
  evalMapSet evalPtr TK.isPtr evalToArr firstL retN_ret retsQ rvarL close_bm touch_bm ren_bm cellsD_bm cellsL_bm cellsL_lbm
attribute [local simp] cutQ_normal cutQ_ret cutQ_exit
section
attribute [local simp] Res.cond Nd.d_eq nd_t nd_dr nd_td ndsD evalIndex retGC_ret tksD psH upds_same
theorem parse_left {s : Str} {R : Nd × PS} (hR : defP false ⟨(scanS s).1, 0⟩ = R) (hl : s.length ≤ 1024) {x : Tk} {r : List Tk} (h : R.2.l = x :: r) : parseS s = (zeroNd, x.at_, if R.2.e ≠ 0 then R.2.e else 2) := by
  unfold parseS; rw [if_neg (by omega)]; simp only []; rw [hR, h]
theorem parse_short {s : Str} {R : Nd × PS} (hR : defP false ⟨(scanS s).1, 0⟩ = R) (hl : s.length ≤ 1024) (h : R.2.l = []) (h2 : ¬ R.2.e = 0 ∨ (scanS s).2 < s.length) : parseS s = (zeroNd, (scanS s).2, 2) := by
  unfold parseS; rw [if_neg (by omega)]; simp only []; rw [hR, h]; simp only []; rw [if_pos h2]
theorem parse_end {s : Str} {R : Nd × PS} (hR : defP false ⟨(scanS s).1, 0⟩ = R) (hl : s.length ≤ 1024) (h : R.2.l = []) (h2 : ¬ (¬ R.2.e = 0 ∨ (scanS s).2 < s.length)) : parseS s = if validB R.1 then (R.1, 0, 0) else (zeroNd, 0, 4) := by
  unfold parseS; rw [if_neg (by omega)]; simp only []; rw [hR, h]; simp only []; rw [if_neg h2]
theorem Parse_step (s : Str) (R : Nd × PS) (hR : defP false ⟨(scanS s).1, 0⟩ = R) (hD : s.length ≤ 1024 → OkG Tryz.prog 52 [.bx 0 0] (psH ⟨(scanS s).1, 0⟩) (psH R.2) (.d R.1.d)) (hw : s.length ≤ 1024 → weighN R.1 ≤ 1000000000) : Ok Tryz.prog 25 [.str s] ⟨.tup [.d (parseS s).1.d, .d (I64 (parseS s).2.1), .d (I64 (parseS s).2.2)], false⟩ := by
  refine Ok.many hT Tryz.func25 (by kernel_rfl) (c := _) rfl Tryz.ntmps25 (by simp) Tryz.results25 (by simp) (by rfl) fun w0 X hp => ?_
  refine LWp.seq ?_
  refine LWp.rz hT hW ?_
  simp
  refine LWp.seq ?_
  refine LWp.seq ?_
  refine LWp.rz hT hW ?_
  simp
  refine LWp.iff ?_
  simp
  refine ⟨fun h1 => ?_, fun h1 => ?_⟩
  · refine LWp.seq ?_
    refine LWp.rz hT hW ?_
    simp
    refine LWp.ret ?_
    have e : parseS s = (zeroNd, 1024, 4) := by unfold parseS; rw [if_pos (by omega)]
    simp [e, zeroNd]
  · refine LWp.skip ?_
    simp
    refine LWp.seq ?_
    have hs := scan_ok s (by omega)
    refine LWp.ro hT hW (fun | 15 => some <| .plain ⟨.tup [.d (.sl ((scanS s).1.map Tk.d)), .d (I64 (scanS s).2)], true⟩ | _ => none) ?_
    simp [evalExtract]
    refine ⟨hs, ?_⟩
    refine LWp.seq ?_
    refine LWp.rz hT hW ?_
    simp
    refine LWp.seq ?_
    have hd := hD (by omega)
    refine LWp.ro hT hW (fun | 22 => some (.gen ⟨[(20, 0)], [], [], psH R.2, .d R.1.d⟩) | _ => none) ?_
    simp
    refine ⟨by simpa using hd, ?_⟩
    refine LWp.seq ?_
    refine LWp.block ?_
    refine LWp.seq ?_
    refine LWp.rz hT hW ?_
    simp
    refine LWp.iff ?_
    simp
    refine ⟨fun g1 g2 => ?_, fun g => ?_⟩
    · refine LWp.seq ?_
      obtain ⟨x, r, hxr⟩ := List.exists_cons_of_length_pos g2
      have hx2 : (cellsD x.d).length = 2 := rfl
      refine LWp.regAny hT hW hMixed (lk [[],[],[1],[1,2],[1,2,3],[1,2,3,4],[1,2,3,4,5],[1,2,3,4,5,6],[],[8],[8,9],[8,9,10],[0],[0,1,2,3,4,5,6,7,12],[0,1,2,3,4,5,6,7,8,9,10,11,12,13]]) (lk [[],[2],[2],[2],[2],[2],[2],[2],[2],[2],[2],[2],[],[],[]]) (lk [[],[],[],[],[],[],[],[],[],[],[],[],[2],[],[]]) (by kernel_rfl) (fun _ => none) (fun _ => ⟨rfl, fun _ h => h⟩) ?_
      simp [hxr, Tk.d]
      refine LWp.ret ?_
      have e := parse_left hR (by omega) hxr
      simp [e, zeroNd, g1]
    · refine LWp.seq ?_
      refine LWp.rz hT hW ?_
      simp
      refine LWp.iff ?_
      simp
      refine ⟨fun h8 => ?_, fun h8 => ?_⟩
      · refine LWp.seq ?_
        obtain ⟨x, r, hxr⟩ := List.exists_cons_of_length_pos h8
        refine LWp.regAny hT hW hMixed (lk [[],[],[1],[1,2],[1,2,3],[1,2,3,4],[1,2,3,4,5],[1,2,3,4,5,6],[0],[0,1,2,3,4,5,6,7,8],[0,1,2,3,4,5,6,7,8,9]]) (lk [[],[2],[2],[2],[2],[2],[2],[2],[],[],[]]) (lk [[],[],[],[],[],[],[],[],[2],[],[]]) (by kernel_rfl) (fun _ => none) (fun _ => ⟨rfl, fun _ h => h⟩) ?_
        simp [hxr, Tk.d]
        refine LWp.ret ?_
        have e := parse_left hR (by omega) hxr
        have g9 : R.2.e = 0 := Classical.byContradiction fun q => by have := g q; rw [this] at hxr; cases hxr
        simp [e, zeroNd, g9]
      · refine LWp.seq ?_
        refine LWp.rz hT hW ?_
        simp
        refine LWp.iff ?_
        simp
        refine ⟨fun h10 => ?_, fun h10 h11 => ?_⟩
        · refine LWp.seq ?_
          refine LWp.rz hT hW ?_
          simp
          refine LWp.ret ?_
          have e := parse_short hR (by omega) h8 h10
          simp [e, zeroNd]
        · refine LWp.seq ?_
          have hv := Valid_ok R.1 (hw (by omega))
          refine LWp.ro hT hW (fun | 80 => some <| .plain ⟨.d (.bool (validB R.1)), true⟩ | _ => none) ?_
          simp
          refine ⟨by simpa using hv, ?_⟩
          refine LWp.iff ?_
          simp
          refine ⟨fun h12 => ?_, fun h12 => ?_⟩
          · refine LWp.seq ?_
            refine LWp.rz hT hW ?_
            simp
            refine LWp.ret ?_
            have e := parse_end hR (by omega) h8 (by omega)
            simp [e, h12, zeroNd]
          · refine LWp.skip ?_
            simp
            refine LWp.seq ?_
            refine LWp.rz hT hW ?_
            simp
            refine LWp.ret ?_
            have e := parse_end hR (by omega) h8 (by omega)
            simp [e, h12]
end
end Go.Eng
namespace Go.Eng
open Go.Proofs
theorem Parse_ok (s : Str) : Ok Tryz.prog 25 [.str s] ⟨.tup [.d (parseS s).1.d, .d (I64 (parseS s).2.1), .d (I64 (parseS s).2.2)], false⟩ :=
  Parse_step s _ rfl (fun hl => def_ok ⟨(scanS s).1, 0⟩ (scanF_good _ _ _) (by have := scanF_len s.length s 0; show (scanF s.length s 0).1.length ≤ 1000000; omega)) fun hl => parse_weigh hl
end Go.Eng
namespace Go.Eng
open Go.Proofs
attribute [local simp] runL stepL evalG evalOp opLV constLV putEnv dstOk upd upds Res.plain Res.cond Res.fail evalBin evalUn seqQ blockQ argsEnv lookL lookH RetIs memless freshL evalPick evalMin bval bok evalLen evalIn strip whenC guardOps guardC slotsOf
  runM foldS stepI stepM maskE wrIn lk renO lookN evalCall evalCallee optAll resLV resObj retLV retObj retsLV retsObj evalLoad evalIndexAddr evalField solid cellsD_agg cellsD_int cellsD_bool cellsD_str cellsD_sl cellsD_ro cellsD_fn cellsL_agg cellsL_dagg cellsL_int cellsL_bool cellsL_str cellsL_sl cellsL_fn cellsL_ow cellsL_bx cellsL_lfn cellsL_nl takeL takeD mkAgg allD eqD eqDs kindsAre kindIs LObj.live TK.isNone TK.agg TK.isBool TK.isStr TK.isStruct Op.operands Call.operands
  evalBuildSlice evalAppend elemsOf evalStore evalBuild fillL lookupF putL evalSlice bound evalConv elemsS freezes frozen loadR
  mkEnv_at mkObs_at close_d close_agg close_ow close_bx close_fn close_nl touch_d touch_agg touch_ow touch_bx touch_fn touch_nl ren_d ren_agg ren_bx ren_rp ren_ow ren_fn ren_nl ren_junk retQ_ret retQ2_ret condQ_bool Nm.d Df.d Ed.d nmsD dfsD strsD edsD retC_ret nm_eq df_eq take_map_len take_map_app
  nm_t nm_d nm_td df_t df_d df_td str_t str_d str_td ed_t ed_d ed_td
  evalAppendIn evalBuildSliceC evalCopyC shortL evalApart evalAppendC evalAppendZ evalAppendG evalCapC isOc TK.isInt close_oc touch_oc ren_oc cellsL_oc evalCut evalClear evalCopy evalMake evalWrap evalCap evalNil isNilC lenL isInp gorc gorc2
  mapOf findD keyEq keyOk evalMakeMap evalRange zeroD zeroDV argsG shutG outN lenv retG0_ret retG0_normal retG1_ret retGR_ret renO close_mp touch_mp ren_mp optAll_d optAll_d' touch_ds cellsL_mp cellsD_mp cellsL_dmp
  evalMapSet evalPtr TK.isPtr evalToArr firstL retN_ret retsQ rvarL close_bm touch_bm ren_bm cellsD_bm cellsL_bm cellsL_lbm
attribute [local simp] cutQ_normal cutQ_ret cutQ_exit
section
set_option maxRecDepth 10000
set_option maxHeartbeats 4000000
attribute [local simp] Res.cond Nd.d_eq nd_t nd_dr nd_td ndsD evalIndex constL1 upds_same one_i one_s one_l all4
theorem lvT_at {i : Nat} {s : Str} (hi : i < 4) (hs : lvT.getD i [] = s) : (lvT.map DV.str)[i]?.getD default = .str s := by
  have hk : i < lvT.length := hi
  subst hs
  rw [List.getElem?_map, List.getElem?_eq_getElem hk]
  simp [List.getD_eq_getElem?_getD, hk]
theorem lvO_at {i : Nat} {o : Int} (hi : i < 4) (hs : lvO.getD i 0 = o) : (lvO.map I64)[i]?.getD default = I64 o := by
  have hk : i < lvO.length := hi
  subst hs
  rw [List.getElem?_map, List.getElem?_eq_getElem hk]
  simp [List.getD_eq_getElem?_getD, hk]
theorem lives06_ok  : Ok Tryz.prog 20 [] ⟨.d (.bool true), true⟩ := by
  refine Ok.ret Tryz.func20 (by kernel_rfl) (c := _) rfl Tryz.ntmps20 (by simp) Tryz.results20 (by intro _ h; cases h) fun w0 X hp => ?_
  obtain ⟨TL, hTL⟩ : ∃ TL, lvT.map DV.str = TL := ⟨_, rfl⟩
  obtain ⟨OL, hOL⟩ : ∃ OL, lvO.map I64 = OL := ⟨_, rfl⟩
  have lT : TL.length = 4 := by rw [← hTL]; rfl
  have lO : OL.length = 4 := by rw [← hOL]; rfl
  have pA := Parse_ok lvA
  have pB := Parse_ok lvB
  have pC := Parse_ok lvC
  rw [lvA_parse] at pA
  rw [lvB_parse] at pB
  rw [lvC_parse] at pC
  obtain ⟨B, hB⟩ : ∃ B, (parseS lvB).1 = B := ⟨_, rfl⟩
  obtain ⟨K, hK⟩ : ∃ K, lvK = K := ⟨_, rfl⟩
  have hK24 : K.kind = 24 := by rw [← hK]; rfl
  have sB := lvB_size
  have wB := lvB_weigh
  have tB := lvB_print
  have hC := lvC_head
  have wC : weighN (.mk 6 [116] 0 [.mk 8 [] 0 [K]]) ≤ 1000000000 := by rw [← hK]; decide
  rw [hB] at pB sB wB tB
  rw [hK] at pC hC
  have kB := size_ok B (by omega)
  have nB := Print_ok B (by omega)
  have nA := Print_ok (.mk 0 [110] (-7) []) (by decide)
  have dC := Head_ok (.mk 6 [116] 0 [.mk 8 [] 0 [K]]) wC
  rw [sB] at kB
  rw [tB] at nB
  rw [lvA_print] at nA
  rw [hC.1, hC.2] at dC
  simp [lvA] at pA
  simp [lvB] at pB
  simp [lvC] at pC
  simp at kB nB nA dC
  refine LWp.seq ?_
  refine LWp.rz hT hW ?_
  simp
  refine LWp.seq ?_
  refine LWp.ro hT hW (fun | 19 => some <| .plain ⟨.tup [.d (Nd.mk 0 [110] (-7) []).d, .d (I64 0), .d (I64 0)], false⟩ | _ => none) ?_
  simp [evalExtract]
  refine ⟨pA, ?_⟩
  refine LWp.seq ?_
  refine LWp.ro hT hW (fun | 24 => some <| .plain ⟨.tup [.d B.d, .d (I64 0), .d (I64 0)], false⟩ | _ => none) ?_
  simp [evalExtract]
  refine ⟨pB, ?_⟩
  refine LWp.seq ?_
  refine LWp.ro hT hW (fun | 29 => some <| .plain ⟨.tup [.d (Nd.mk 6 [116] 0 [.mk 8 [] 0 [K]]).d, .d (I64 0), .d (I64 0)], false⟩ | _ => none) ?_
  simp [evalExtract]
  refine ⟨pC, ?_⟩
  refine LWp.seq ?_
  refine LWp.rz hT hW ?_
  simp
  refine ⟨by decide, ?_⟩
  refine LWp.weak (Weak.close 10 (x := .sl TL) (by simp [← hTL, lvT])) ?_
  simp
  refine LWp.seq ?_
  refine LWp.rz hT hW ?_
  simp
  refine ⟨by decide, ?_⟩
  refine LWp.weak (Weak.close 11 (x := .sl OL) (by simp [← hOL, lvO])) ?_
  simp
  refine LWp.seq ?_
  refine LWp.seq ?_
  refine LWp.rz hT hW ?_
  simp
  refine LWp.block ?_
  refine LWp.loopW (ι := Nat) (fun i => mkEnv [(1, .bx 1 0), (3, .d (I64 0)), (4, .bx 4 0), (6, .d (I64 0)), (7, .bx 7 0), (9, .d (I64 0)), (10, .d (.sl TL)), (11, .d (.sl OL)), (12, .d (I64 (i : Nat)))]) (fun i => mkObs [(1, .box false [.d (I64 0), .d (.str [110]), .d (I64 (-7)), .d (.sl [])]), (4, .box false [.d (I64 B.kind), .d (.str B.text), .d (I64 B.n), .d (ndsD B.kids)]), (7, .box false [.d (I64 6), .d (.str [116]), .d (I64 0), .d (.sl [.agg [I64 8, .str [], I64 0, .sl [.agg [I64 K.kind, .str K.text, I64 K.n, .sl (K.kids.map Nd.d)]]]])])]) (fun i => i ≤ 4) (fun i => 4 - i) 0 (Weak.to [1, 3, 4, 6, 7, 9, 10, 11, 12] [(1, 1), (4, 4), (7, 7)] (by decide) (by decide) (by simp [hp]) (by simp) (by simp)) (Nat.zero_le _) fun i hi7 => ?_
  refine LWp.seq ?_
  refine LWp.seq ?_
  refine LWp.rz hT hW ?_
  simp
  refine LWp.iff ?_
  simp
  refine ⟨fun h7 => ?_, fun h7 => ?_⟩
  · refine LWp.skip ?_
    simp
    refine LWp.seq ?_
    refine LWp.block ?_
    refine LWp.seq ?_
    have hi : i < 4 := by omega
    obtain ⟨s, hs⟩ : ∃ s, lvT.getD i [] = s := ⟨_, rfl⟩
    obtain ⟨o, ho⟩ : ∃ o, lvO.getD i 0 = o := ⟨_, rfl⟩
    have hsa := lvT_at hi hs
    have hoa := lvO_at hi ho
    have hps := Parse_ok s
    have hpe := lvT_parse i hi
    rw [hs, ho] at hpe
    rw [hTL] at hsa
    rw [hOL] at hoa
    rw [hpe] at hps
    simp at hps
    obtain ⟨Y, hY⟩ : ∃ Y, (parseS s).1 = Y := ⟨_, rfl⟩
    rw [hY] at hps
    refine LWp.ro hT hW (fun | 44 => some <| .plain ⟨.tup [.d Y.d, .d (I64 o), .d (I64 (if i = 0 then 5 else 2))], false⟩ | _ => none) ?_
    simp [evalExtract, hsa]
    refine ⟨⟨by omega, hps⟩, ?_⟩
    refine LWp.seq ?_
    refine LWp.rz hT hW ?_
    simp [hoa]
    refine ⟨by omega, ?_⟩
    refine LWp.iff ?_
    simp
    refine ⟨fun a b => absurd b (by omega), fun _ => ?_⟩
    refine LWp.skip ?_
    simp
    refine LWp.rz hT hW ?_
    simp
    refine ⟨by omega, ?_⟩
    refine loopQ.mk (i + 1) (Weak.to [1, 3, 4, 6, 7, 9, 10, 11, 12] [(1, 1), (4, 4), (7, 7)] (by decide) (by decide) (by simp [hp]) (by simp) (by simp)) ?_ ?_
    · omega
    · omega
  · refine LWp.exit ?_
    simp
    refine LWp.seq ?_
    refine LWp.seq ?_
    refine LWp.ro hT hW (fun | 93 => some <| .plain ⟨.d (I64 15), true⟩ | _ => none) ?_
    simp
    refine ⟨kB, ?_⟩
    refine LWp.iff ?_
    simp
    refine LWp.skip ?_
    simp
    refine LWp.seq ?_
    refine LWp.ro hT hW (fun | 98 => some <| .plain ⟨.tup [.d (I64 6), .d (.str [116])], true⟩ | _ => none) ?_
    simp [evalExtract]
    refine ⟨dC, ?_⟩
    refine LWp.seq ?_
    refine LWp.ro hT hW (fun | 102 => some <| .plain ⟨.d (.str [118, 97, 114, 32, 110, 32, 61, 32, 45, 55, 59]), true⟩ | 106 => some <| .plain ⟨.d (.str lvP), true⟩ | _ => none) ?_
    simp
    refine ⟨⟨nA, nB⟩, ?_⟩
    refine LWp.ret ?_
    simp [lvP, hK24]
end
open Go.Proofs
section
attribute [local simp] Res.cond Nd.d_eq nd_t nd_dr nd_td ndsD evalIndex
def repS (w : Str) : Nat → Str
  | 0 => []
  | n + 1 => repS w n ++ w
theorem repS_len (w : Str) : ∀ n, (repS w n).length = n * w.length
  | 0 => by simp [repS]
  | n + 1 => by rw [repS, List.length_append, repS_len w n, Nat.succ_mul]
theorem parse_wt (s : Str) : weighN (parseS s).1 ≤ 1000000000 := by
  by_cases h : 1024 < s.length
  · unfold parseS; rw [if_pos h]; decide
  · obtain ⟨R, hR⟩ : ∃ R, defP false ⟨(scanS s).1, 0⟩ = R := ⟨_, rfl⟩
    have hw := parse_weigh (s := s) (by omega)
    rw [hR] at hw
    unfold parseS; rw [if_neg h]; simp only []; rw [hR]
    have z : weighN zeroNd ≤ 1000000000 := by decide
    split
    · exact z
    · split
      · exact z
      · split
        · exact hw
        · exact z
theorem same_refl (x : Nd) : sameN x x = true := (sameN_iff x x).2 rfl
theorem repS_0 (w : Str) : repS w 0 = [] := rfl
attribute [local simp] repS_0
theorem repeated_ok (w : Str) (n : Nat) (hn : n ≤ 1000000) (hw : w.length ≤ 1000) : Ok Tryz.prog 29 [.str w, I64 n] ⟨.d (.str (repS w n)), true⟩ := by
  refine Ok.ret Tryz.func29 (by kernel_rfl) (c := _) rfl Tryz.ntmps29 (by simp) Tryz.results29 (by intro _ h; cases h) fun w0 X hp => ?_
  refine LWp.seq ?_
  refine LWp.rz hT hW ?_
  simp
  refine LWp.seq ?_
  refine LWp.rz hT hW ?_
  simp
  refine LWp.seq ?_
  refine LWp.seq ?_
  refine LWp.rz hT hW ?_
  simp
  refine LWp.block ?_
  refine LWp.loopW (ι := Nat) (fun i => mkEnv [(0, .d (.str w)), (1, .d (I64 n)), (5, .d (.str (repS w i))), (6, .d (I64 i))]) (fun i => mkObs []) (fun i => i ≤ n) (fun i => n - i) 0 (Weak.to [0, 1, 5, 6] [] (by decide) (by decide) (by simp [hp]) (by simp) (by simp)) ((Nat.zero_le _)) fun i hi3 => ?_
  refine LWp.seq ?_
  refine LWp.seq ?_
  refine LWp.rz hT hW ?_
  simp
  refine LWp.iff ?_
  simp
  refine ⟨fun h3 => ?_, fun h3 => ?_⟩
  · refine LWp.skip ?_
    simp
    refine LWp.seq ?_
    refine LWp.block ?_
    have hl := repS_len w i
    have hm : i * w.length ≤ 1000000 * 1000 := Nat.mul_le_mul (by omega) hw
    refine LWp.rz hT hW ?_
    simp
    refine ⟨by omega, ?_⟩
    refine LWp.rz hT hW ?_
    simp
    refine ⟨by omega, ?_⟩
    refine loopQ.mk (i + 1) (Weak.to [0, 1, 5, 6] [] (by decide) (by decide) (by simp [hp]) (by simp [repS]) (by simp)) ?_ ?_
    · omega
    · omega
  · refine LWp.exit ?_
    simp
    refine LWp.seq ?_
    refine LWp.rz hT hW ?_
    simp
    refine LWp.ret ?_
    simp
    rw [show i = n by omega]
theorem Short_ok (s : Str) (n : Nat) (hl : s.length ≤ 9223372036854775807) : Ok Tryz.prog 24 [.str s, I64 n] ⟨.d (.str (s.take n)), true⟩ := by
  refine Ok.ret Tryz.func24 (by kernel_rfl) (c := _) rfl Tryz.ntmps24 (by simp) Tryz.results24 (by intro _ h; cases h) fun w0 X hp => ?_
  refine LWp.seq ?_
  refine LWp.rz hT hW ?_
  simp
  refine LWp.seq ?_
  refine LWp.seq ?_
  refine LWp.rz hT hW ?_
  simp
  refine LWp.iff ?_
  simp
  refine ⟨fun h1 => ?_, fun h1 => ?_⟩
  · refine LWp.seq ?_
    refine LWp.rz hT hW ?_
    simp
    refine ⟨by omega, ?_⟩
    refine LWp.ret ?_
    simp
  · refine LWp.skip ?_
    simp
    refine LWp.seq ?_
    refine LWp.rz hT hW ?_
    simp
    refine LWp.ret ?_
    simp
    exact (List.take_of_length_le (by omega)).symm
structure LimS where
  d : Nat
  e : Nat
  m : Nat
  a : Nat
  b : Nat
  c : Nat
def cHead : Str := [112, 114, 111, 99, 32, 112, 32, 123, 32, 99, 104, 101, 99, 107, 32]
def cProc : Str := [112, 114, 111, 99, 32, 112, 32, 123, 32]
def limT (x : LimS) (tail : Str) : List Str :=
  [cHead ++ repS [49, 42, 40] x.d ++ [49] ++ repS [41] x.d ++ [59, 32, 125],
   cHead ++ repS [40] x.d ++ [49] ++ repS [41] x.m ++ [59, 32, 125],
   cProc ++ repS [119, 104, 105, 108, 101, 32, 49, 32, 123, 32] x.d ++ repS [125] x.m ++ [125],
   cProc ++ repS [105, 102, 32, 49, 32, 123, 32, 125, 32, 101, 108, 115, 101, 32, 123, 32] x.d ++ repS [125] x.d ++ [125],
   [108, 111, 99, 107, 32, 108, 59] ++ repS [32] x.e,
   cHead ++ repS [49, 43] x.a ++ [49, 59, 32, 125] ++ tail,
   [112, 114, 111, 99, 32, 112, 123] ++ repS [103, 111, 32, 97, 98, 99, 59] x.b ++ [125],
   [112, 114, 111, 99, 32, 112, 123] ++ repS [103, 111, 32, 97, 98, 99, 59] x.c ++ [125]]
set_option maxRecDepth 10000 in
theorem SourceLimits_ok (n k : Int) (tail : Str) (hn : I64r n) (hk : I64r k) (ht : tail.length ≤ 9223372036854775807) : Ok Tryz.prog 5 [I64 n, I64 k, .str tail] ⟨.d (.bool true), true⟩ := by
  refine Ok.ret Tryz.func5 (by kernel_rfl) (c := _) rfl Tryz.ntmps5 (by simp) Tryz.results5 (by intro _ h; cases h) fun w0 X hp => ?_
  unfold I64r at hn hk
  have a1 := around_lt n 18 (by decide)
  have a2 := around_lt k 10 (by decide)
  have a3 := around_lt k 2 (by decide)
  have a4 := around_lt n 12 (by decide)
  have a5 := around_lt k 8 (by decide)
  obtain ⟨d, hd⟩ : ∃ d : Nat, 8 + around n 18 = d := ⟨(8 + around n 18).toNat, by omega⟩
  obtain ⟨e, he⟩ : ∃ e : Nat, 1018 + around k 10 - 7 = e := ⟨(1018 + around k 10 - 7).toNat, by omega⟩
  obtain ⟨m, hm⟩ : ∃ m : Nat, (d : Int) - around k 2 = m := ⟨((d : Int) - around k 2).toNat, by omega⟩
  obtain ⟨a, ha⟩ : ∃ a : Nat, 12 + around n 12 = a := ⟨(12 + around n 12).toNat, by omega⟩
  obtain ⟨b, hb⟩ : ∃ b : Nat, 140 + around k 8 = b := ⟨(140 + around k 8).toNat, by omega⟩
  obtain ⟨c, hc⟩ : ∃ c : Nat, 122 + around k 8 = c := ⟨(122 + around k 8).toNat, by omega⟩
  have ar1 := Around_ok n 18 hn.1 hn.2 (by decide)
  have ar2 := Around_ok k 10 hk.1 hk.2 (by decide)
  have ar3 := Around_ok k 2 hk.1 hk.2 (by decide)
  have ar4 := Around_ok n 12 hn.1 hn.2 (by decide)
  have ar5 := Around_ok k 8 hk.1 hk.2 (by decide)
  have sh := Short_ok tail 9 ht
  obtain ⟨TL, hTL⟩ : ∃ TL, TL = limT ⟨d, e, m, a, b, c⟩ (tail.take 9) := ⟨_, rfl⟩
  have hTl : TL.length = 8 := by rw [hTL]; rfl
  refine LWp.seq ?_
  refine LWp.rz hT hW ?_
  simp
  refine LWp.seq ?_
  refine LWp.ro hT hW (fun | 19 => some <| .plain ⟨.d (I64 (around n 18)), true⟩ | _ => none) ?_
  simp
  refine ⟨⟨ar1, by omega⟩, ?_⟩
  simp only [hd]
  refine LWp.seq ?_
  refine LWp.ro hT hW (fun | 22 => some <| .plain ⟨.d (I64 (around k 10)), true⟩ | _ => none) ?_
  simp
  refine ⟨⟨ar2, by omega⟩, ?_⟩
  refine LWp.seq ?_
  refine LWp.ro hT hW (fun | 26 => some <| .plain ⟨.d (I64 (around k 2)), true⟩ | _ => none) ?_
  simp
  refine ⟨⟨ar3, by omega⟩, ?_⟩
  simp only [hm]
  refine LWp.seq ?_
  refine LWp.ro hT hW (fun | 29 => some <| .plain ⟨.d (.str (tail.take 9)), true⟩ | _ => none) ?_
  simp
  refine ⟨sh, ?_⟩
  refine LWp.seq ?_
  have r1 := repeated_ok [49, 42, 40] d (by omega) (by decide)
  have r2 := repeated_ok [41] d (by omega) (by decide)
  have r3 := repeated_ok [40] d (by omega) (by decide)
  have r4 := repeated_ok [41] m (by omega) (by decide)
  have r5 := repeated_ok [119, 104, 105, 108, 101, 32, 49, 32, 123, 32] d (by omega) (by decide)
  have r6 := repeated_ok [125] m (by omega) (by decide)
  have r7 := repeated_ok [105, 102, 32, 49, 32, 123, 32, 125, 32, 101, 108, 115, 101, 32, 123, 32] d (by omega) (by decide)
  have r8 := repeated_ok [125] d (by omega) (by decide)
  have r9 := repeated_ok [32] e (by omega) (by decide)
  have r10 := repeated_ok [49, 43] a (by omega) (by decide)
  have r11 := repeated_ok [103, 111, 32, 97, 98, 99, 59] b (by omega) (by decide)
  have r12 := repeated_ok [103, 111, 32, 97, 98, 99, 59] c (by omega) (by decide)
  refine LWp.ro hT hW (fun | 31 => some <| .plain ⟨.d (.str (repS [49, 42, 40] d)), true⟩ | 35 => some <| .plain ⟨.d (.str (repS [41] d)), true⟩ | 39 => some <| .plain ⟨.d (.str (repS [40] d)), true⟩ | 43 => some <| .plain ⟨.d (.str (repS [41] m)), true⟩ | 47 => some <| .plain ⟨.d (.str (repS [119, 104, 105, 108, 101, 32, 49, 32, 123, 32] d)), true⟩ | 50 => some <| .plain ⟨.d (.str (repS [125] m)), true⟩ | 54 => some <| .plain ⟨.d (.str (repS [105, 102, 32, 49, 32, 123, 32, 125, 32, 101, 108, 115, 101, 32, 123, 32] d)), true⟩ | 57 => some <| .plain ⟨.d (.str (repS [125] d)), true⟩ | 62 => some <| .plain ⟨.d (.str (repS [32] e)), true⟩ | 65 => some <| .plain ⟨.d (I64 (around n 12)), true⟩ | 67 => some <| .plain ⟨.d (.str (repS [49, 43] a)), true⟩ | 73 => some <| .plain ⟨.d (I64 (around k 8)), true⟩ | 75 => some <| .plain ⟨.d (.str (repS [103, 111, 32, 97, 98, 99, 59] b)), true⟩ | 79 => some <| .plain ⟨.d (I64 (around k 8)), true⟩ | 81 => some <| .plain ⟨.d (.str (repS [103, 111, 32, 97, 98, 99, 59] c)), true⟩ | _ => none) ?_
  simp [he, ha, hb, hc, repS_len]
  refine ⟨by (repeat' with_reducible apply And.intro) <;> first | omega | with_reducible assumption | decide, ?_⟩
  refine LWp.weak (Weak.close 10 (x := .sl (TL.map DV.str)) (by simp [hTL, limT, cHead, cProc])) ?_
  simp
  refine LWp.seq ?_
  refine LWp.seq ?_
  refine LWp.rz hT hW ?_
  simp
  refine LWp.block ?_
  refine LWp.loopW (ι := Nat) (fun i => mkEnv [(10, .d (.sl (TL.map DV.str))), (11, .d (I64 (i : Nat)))]) (fun i => mkObs []) (fun i => i ≤ 8) (fun i => 8 - i) 0 (Weak.to [10, 11] [] (by decide) (by decide) (by simp [hp]) (by simp) (by simp)) (Nat.zero_le _) fun i hi7 => ?_
  refine LWp.seq ?_
  refine LWp.seq ?_
  refine LWp.rz hT hW ?_
  simp [hTl]
  refine LWp.iff ?_
  simp
  refine ⟨fun h7 => ?_, fun h7 => ?_⟩
  · refine LWp.skip ?_
    simp
    refine LWp.seq ?_
    refine LWp.block ?_
    refine LWp.seq ?_
    have hi : i < TL.length := by omega
    obtain ⟨t, hti⟩ : ∃ t, TL[i] = t := ⟨_, rfl⟩
    have e1 := Parse_ok t
    have e2 := RParse_ok t
    obtain ⟨Y, hY⟩ : ∃ Y, parseS t = Y := ⟨_, rfl⟩
    have hwY := parse_wt t
    rw [hY] at e1 e2 hwY
    simp at e1 e2
    refine LWp.ro hT hW (fun | 96 => some <| .plain ⟨.tup [.d Y.1.d, .d (I64 Y.2.1), .d (I64 Y.2.2)], false⟩ | _ => none) ?_
    simp [evalExtract, hi, hti]
    refine ⟨e1, ?_⟩
    refine LWp.seq ?_
    refine LWp.ro hT hW (fun | 105 => some <| .plain ⟨.tup [.d Y.1.d, .d (I64 Y.2.1), .d (I64 Y.2.2)], false⟩ | _ => none) ?_
    simp [evalExtract, hi, hti]
    refine ⟨e2, ?_⟩
    refine LWp.seq ?_
    have e3 := RSame_ok Y.1 hwY Y.1
    rw [same_refl] at e3
    simp at e3
    refine LWp.ro hT hW (fun | 120 => some <| .plain ⟨.d (.bool true), true⟩ | _ => none) ?_
    simp
    refine ⟨e3, ?_⟩
    refine LWp.iff ?_
    simp
    refine LWp.skip ?_
    simp
    refine LWp.rz hT hW ?_
    simp
    refine ⟨by omega, ?_⟩
    refine loopQ.mk (i + 1) (Weak.to [10, 11] [] (by decide) (by decide) (by simp [hp]) (by simp) (by simp)) ?_ ?_
    · omega
    · omega
  · refine LWp.exit ?_
    simp
    refine LWp.seq ?_
    have hlv := lives06_ok
    refine LWp.ro hT hW (fun | 123 => some <| .plain ⟨.d (.bool true), true⟩ | _ => none) ?_
    simp
    refine ⟨hlv, ?_⟩
    refine LWp.ret ?_
    simp
end
end Go.Eng
namespace Go.Eng
open Go.RowKit
def offsOk (P : Program) : List Field → Nat → Bool
  | [], _ => true
  | f :: r, o => f.offset == o && offsOk P r (o + P.cellsOf f.type)
def litCells (P : Program) : Nat → TypeId → DataW Unit → Option (List Value)
  | 0, _, _ => none
  | n + 1, t, d => match P.underlying t, d with
    | some (.int _), .lit (.int k z) => some [.int k z]
    | some .string, .lit (.string s) => some [.string ⟨s.toArray⟩]
    | some (.array _ e), .agg ds => match ds.mapM (litCells P n e) with
      | some xs => if xs.all (fun x => x.length == P.cellsOf e) && xs.length * P.cellsOf e == P.cellsOf t then some xs.flatten else none
      | none => none
    | some (.struct fs), .agg ds => match (fs.toList.zip ds).mapM (fun p => litCells P n p.1.type p.2) with
      | some xs => if offsOk P fs.toList 0 && xs.flatten.length == P.cellsOf t && ((fs.toList.zip xs).all fun p => p.2.length == P.cellsOf p.1.type) && ds.length == fs.size then some xs.flatten else none
      | none => none
    | _, _ => none
theorem litChunks {c : Nat} : ∀ (xs : List (List Value)) (cs : List Value), cs.length = xs.length * c → (∀ (i : Nat) (x : List Value), xs[i]? = some x → (cs.drop (i * c)).take c = x) → cs = xs.flatten
  | [], cs, hl, _ => by
    have : cs = [] := List.eq_nil_of_length_eq_zero (by simpa using hl)
    simp [this]
  | x :: xs, cs, hl, h => by
    have h0 := h 0 x rfl
    simp only [Nat.zero_mul, List.drop_zero] at h0
    have hr := litChunks (c := c) xs (cs.drop c) (by rw [List.length_drop, hl, List.length_cons, Nat.succ_mul]; omega) fun i y hy => by
      have := h (i + 1) y (by simpa using hy)
      rw [List.drop_drop, Nat.add_comm c, ← Nat.succ_mul]
      exact this
    rw [List.flatten_cons, ← hr, ← h0, List.take_append_drop]
theorem fields_flat {P : Program} {cs : List Value} : ∀ (fs : List Field) (xs : List (List Value)) (o : Nat), offsOk P fs o = true → xs.length = fs.length → (∀ (i : Nat) (f : Field) (x : List Value), fs[i]? = some f → xs[i]? = some x → (cs.drop f.offset).take (P.cellsOf f.type) = x ∧ x.length = P.cellsOf f.type) →
    (cs.drop o).take xs.flatten.length = xs.flatten
  | [], [], _, _, _, _ => by simp
  | [], _ :: _, _, _, h, _ => by simp at h
  | _ :: _, [], _, _, h, _ => by simp at h
  | f :: fs, x :: xs, o, ho, hl, h => by
    simp only [offsOk, Bool.and_eq_true, beq_iff_eq] at ho
    obtain ⟨h1, h2⟩ := h 0 f x rfl rfl
    have hr := fields_flat fs xs (o + P.cellsOf f.type) ho.2 (by simpa using hl) fun i g y hg hy => h (i + 1) g y (by simpa using hg) (by simpa using hy)
    rw [ho.1] at h1
    rw [List.flatten_cons, List.length_append, List.take_add, h2, h1, List.drop_drop, hr]
theorem lit_cells {enc : TypeId × Value → Unit} {P : Program} {w : World} {base : Nat} {sp : Nat → Bool} {held : Bool} : ∀ (n fuel : Nat) (t : TypeId) (cs : List Value) (d : DataW Unit) (p : List MemPlace) (vs : List Value),
    DataW.trod enc P w base sp held fuel t cs = some (d, p) → litCells P n t d = some vs → cs = vs := by
  intro n
  induction n with
  | zero => intro fuel t cs d p vs _ h; cases h
  | succ n ih =>
    intro fuel t cs d p vs ht hv
    unfold litCells at hv
    split at hv
    · rename_i k' k z hu
      obtain ⟨m, rfl, hx, _⟩ := DataW.trod_int hu ht
      injection hx with e1 e2
      injection e1 with e1
      injection e1 with e3 e4
      subst e3 e4
      exact Option.some.inj hv
    · rename_i s hu
      obtain ⟨b, rfl, hx, _⟩ := DataW.trod_string hu ht
      injection hx with e1 e2
      injection e1 with e1
      injection e1 with e3
      subst e3
      exact Option.some.inj hv
    · rename_i m e ds hu
      cases fuel with
      | zero => simp [DataW.trod] at ht
      | succ fuel =>
        unfold DataW.trod at ht
        rw [hu] at ht
        simp only at ht
        split at ht
        · rename_i hl
          obtain ⟨ys, hm, hx⟩ := Option.map_eq_some_iff.1 ht
          have hds : ys.map (·.1) = ds := by
            have := congrArg Prod.fst hx
            simpa using this
          split at hv
          · rename_i xs hxs
            split at hv
            · rename_i hc
              simp only [Bool.and_eq_true, List.all_eq_true, beq_iff_eq] at hc
              have hv := Option.some.inj hv
              rw [← hv]
              have hyl : ys.length = m := by simpa using Lib.mapM_length hm
              have hxl : xs.length = ds.length := Lib.mapM_length hxs
              have hdl : ds.length = m := by rw [← hds, List.length_map, hyl]
              refine litChunks (c := P.cellsOf e) xs cs (by rw [hl, hc.2]) fun i x hx' => ?_
              have hi : i < m := by have := (List.getElem?_eq_some_iff.1 hx').1; omega
              obtain ⟨y, hy, hf⟩ := Lib.mapM_at hm i i (by simp [hi])
              have hdi : ds[i]? = some y.1 := by rw [← hds, List.getElem?_map, hy]; rfl
              obtain ⟨x2, hx2, hlc⟩ := Lib.mapM_at hxs i _ hdi
              have : x2 = x := Option.some.inj (hx2.symm.trans hx')
              subst this
              exact ih fuel e _ y.1 y.2 x2 hf hlc
            · cases hv
          · cases hv
        · cases ht
    · rename_i fs ds hu
      obtain ⟨ys, m, rfl, hx, hl, hyl, hf⟩ := DataW.trod_struct hu ht
      have hds : ys.map (·.1) = ds := by
        have := congrArg Prod.fst hx
        simpa using this.symm
      split at hv
      · rename_i xs hxs
        split at hv
        · rename_i hc
          simp only [Bool.and_eq_true, List.all_eq_true, beq_iff_eq] at hc
          obtain ⟨⟨⟨c1, c2⟩, c3⟩, c4⟩ := hc
          have hv := Option.some.inj hv
          rw [← hv]
          have hxl : xs.length = (fs.toList.zip ds).length := Lib.mapM_length hxs
          have hzl : (fs.toList.zip ds).length = fs.size := by rw [List.length_zip, c4]; simp
          have key := fields_flat (P := P) (cs := cs) fs.toList xs 0 c1 (by rw [hxl, hzl]; simp) fun i f x hfi hxi => by
            have hfa : fs[i]? = some f := by simpa using hfi
            have hyi := hf i f hfa
            have hi : i < fs.size := (Array.getElem?_eq_some_iff.1 hfa).1
            obtain ⟨y, hy⟩ : ∃ y, ys[i]? = some y := ⟨_, List.getElem?_eq_getElem (by omega)⟩
            rw [hy] at hyi
            have hdi : ds[i]? = some y.1 := by rw [← hds, List.getElem?_map, hy]; rfl
            have hz : (fs.toList.zip ds)[i]? = some (f, y.1) := by
              rw [List.getElem?_zip_eq_some]
              exact ⟨hfi, hdi⟩
            obtain ⟨x2, hx2, hlc⟩ := Lib.mapM_at hxs i _ hz
            have : x2 = x := Option.some.inj (hx2.symm.trans hxi)
            subst this
            refine ⟨ih m f.type _ _ _ x2 hyi hlc, ?_⟩
            have hz2 : (fs.toList.zip xs)[i]? = some (f, x2) := by
              rw [List.getElem?_zip_eq_some]
              exact ⟨hfi, hxi⟩
            exact c3 _ (List.mem_of_getElem? hz2)
          rw [List.drop_zero, c2, ← hl, List.take_length] at key
          exact key
        · cases hv
      · cases hv
    · cases hv
def dvVal : DV → Value
  | .int k n => .int k n
  | .str s => .string ⟨s.toArray⟩
  | _ => undef
def flatB : DV → Bool
  | .int _ _ => true
  | .str _ => true
  | _ => false
theorem glob_one {P : Program} {W : World} {name : String} {g g' : Nat} {t t' : TypeId} {cs : Array Value} {fuel n : Nat} {p : List MemPlace} {d : DataW Unit} {ds : List DV} {enc : TypeId × Value → Unit} {base : Nat} {sp : Nat → Bool} {held : Bool}
    (hg : P.globalNamed name = some g) (hty : (P.globals[g]?).map (·.type) = some t) (hg' : P.globalNamed name = some g') (ht' : (P.globals[g']?).map (·.type) = some t') (hvar : W.var? P name = some cs)
    (hd : DataW.trod enc P W base sp held fuel t' cs.toList = some (d, p)) (hlit : litCells P n t d = some (ds.map dvVal)) (hfl : ds.all flatB = true) :
    RD W (fun _ => False) (.ro ds) (.pointer (some ⟨g, 0, none⟩)) ∧ ∃ arr t fz, W.heap[g]? = some (.cells arr t fz) ∧ arr.size = ds.length := by
  obtain rfl := Option.some.inj (hg.symm.trans hg')
  obtain rfl := Option.some.inj (hty.symm.trans ht')
  have hc := lit_cells n fuel t cs.toList d p _ hd hlit
  have hsz : cs.size = ds.length := by
    have := congrArg List.length hc
    simpa using this
  have hblk : ∃ ty fz, W.heap[g]? = some (.cells cs ty fz) := by
    unfold World.var? at hvar
    rw [hg] at hvar
    simp only [Option.bind_some] at hvar
    split at hvar
    · rename_i c ty fz hh
      cases hvar
      exact ⟨ty, fz, hh⟩
    · cases hvar
  obtain ⟨ty, fz, hblk⟩ := hblk
  refine ⟨.ro ds g 0 (ds.map dvVal) (fun h => h) (by simp) (fun u hu => ?_) (Array.getElem?_eq_some_iff.1 hblk).1 (fun j u hj => ?_) (fun i x v hx hv => ?_), cs, ty, fz, hblk, hsz⟩
  · obtain ⟨x, hx, rfl⟩ := List.mem_map.1 hu
    have := List.all_eq_true.1 hfl x hx
    cases x <;> first | rfl | cases this
  · have := World.var?_cell hg hvar j
    rw [Nat.zero_add, this, ← hj, ← hc]
    simp
  · rw [List.getElem?_map, hx] at hv
    cases hv
    have := List.all_eq_true.1 hfl x (List.mem_of_getElem? hx)
    cases x with
    | int k n => exact .int k n
    | str s => exact .str s
    | _ => cases this
theorem str_rd {w : World} (s : ByteArray) : RD w (fun _ => False) (.str s.data.toList) (.string s) := by
  have := RD.str (w := w) (E := fun _ => False) s.data.toList
  rwa [str_bytes] at this
end Go.Eng
namespace Go.Proofs.YtmpfgfdjkjekcaaGreatDoor.crA
open Go.Eng
theorem gl {W : World} (h : laidMetH Tryz.prog Rows.sourceValidRow.laid W) : Glob W (fun _ => False) := by
  have h : laidMet Tryz.prog Rows.sourceValidRow.laid W := h
  obtain ⟨ps, ⟨g1, t1, c1, f1, p1, q1, n1, y1, v1, d1, ⟨g2, t2, c2, f2, p2, q2, n2, y2, v2, d2, ⟨g3, t3, c3, f3, p3, q3, n3, y3, v3, d3, ⟨g4, t4, c4, f4, p4, q4, n4, y4, v4, d4, ⟨g5, t5, c5, f5, p5, q5, n5, y5, v5, d5, ⟨g6, t6, c6, f6, p6, q6, n6, y6, v6, d6, ⟨g7, t7, c7, f7, p7, q7, n7, y7, v7, d7, ⟨g8, t8, c8, f8, p8, q8, n8, y8, v8, d8, _, _⟩, _⟩, _⟩, _⟩, _⟩, _⟩, _⟩, _⟩, _⟩ := h
  intro n cs hn
  match n, hn with
  | 0, hn => cases hn; exact glob_one (n := 4) (g := 0) (t := 81) (by kernel_rfl) (by kernel_rfl) n6 y6 v6 d6 (by kernel_rfl) (by kernel_rfl)
  | 1, hn => cases hn; exact glob_one (n := 4) (g := 1) (t := 99) (by kernel_rfl) (by kernel_rfl) n8 y8 v8 d8 (by kernel_rfl) (by kernel_rfl)
  | 2, hn => cases hn; exact glob_one (n := 4) (g := 2) (t := 142) (by kernel_rfl) (by kernel_rfl) n7 y7 v7 d7 (by kernel_rfl) (by kernel_rfl)
  | 3, hn => cases hn
  | 4, hn => cases hn; exact glob_one (n := 4) (g := 4) (t := 158) (by kernel_rfl) (by kernel_rfl) n3 y3 v3 d3 (by kernel_rfl) (by kernel_rfl)
  | 5, hn => cases hn
  | 6, hn => cases hn
  | 7, hn => cases hn; exact glob_one (n := 4) (g := 7) (t := 177) (by kernel_rfl) (by kernel_rfl) n1 y1 v1 d1 (by kernel_rfl) (by kernel_rfl)
  | 8, hn => cases hn; exact glob_one (n := 4) (g := 8) (t := 178) (by kernel_rfl) (by kernel_rfl) n2 y2 v2 d2 (by kernel_rfl) (by kernel_rfl)
  | n + 9, hn => cases hn
abbrev rangeS : ByteArray := { data := #[118, 97, 108, 117, 101, 32, 111, 117, 116, 32, 111, 102, 32, 114, 97, 110, 103, 101] }
abbrev syntaxS : ByteArray := { data := #[105, 110, 118, 97, 108, 105, 100, 32, 115, 121, 110, 116, 97, 120] }
noncomputable def low : Nat := (World.holding Tryz.prog default ⟨#[], #[], []⟩).heap.size
noncomputable def held (g : Nat) (cs : Array Value) : Array Value := match g with
  | 5 => #[.iface 174 (.pointer (some ⟨low + 1, 0, none⟩))]
  | 6 => #[.iface 174 (.pointer (some ⟨low, 0, none⟩))]
  | g => match globD g with
    | some ds => (ds.map dvVal).toArray
    | none => cs
noncomputable def laidWorld (os : Os) : World :=
  let w0 := World.holding Tryz.prog os ⟨#[.cells #[.string rangeS] 176, .cells #[.string syntaxS] 176], #[], []⟩
  { w0 with heap := (List.range 9).foldl (fun h g => h.modify g fun
      | .cells cs t frozen => .cells (held g cs) t frozen
      | o => o) w0.heap }
theorem laidWorld_met (os : Os) (args : Array Value) : laidMet Tryz.prog Rows.sourceValidRow.laid ((laidWorld os).forCall (fun _ _ => 0) ⟨#[], args, []⟩).memory :=
  laidMet_of_run' 8 (by kernel_rfl) (by kernel_rfl)
end Go.Proofs.YtmpfgfdjkjekcaaGreatDoor.crA
