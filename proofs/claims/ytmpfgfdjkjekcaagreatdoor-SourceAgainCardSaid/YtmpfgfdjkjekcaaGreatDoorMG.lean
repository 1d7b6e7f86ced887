/-
  Texts of the proofs of this seat, part 7. No condition.
-/
import Derived.Test.YtmpfgfdjkjekcaaGreatDoorMF
set_option linter.unusedVariables false
set_option linter.unusedSimpArgs false
namespace Go.Eng
open Go.Proofs
attribute [local simp] runL stepL evalG evalOp opLV constLV putEnv dstOk upd upds Res.plain Res.cond Res.fail evalBin evalUn seqQ blockQ argsEnv lookL lookH RetIs memless freshL evalPick evalMin bval bok evalLen evalIn strip whenC guardOps guardC slotsOf
 runM foldS stepI stepM maskE wrIn lk renO lookN evalCall evalCallee optAll resLV resObj retLV retObj retsLV retsObj evalLoad evalIndexAddr evalField solid cellsD_agg cellsD_int cellsD_bool cellsD_str cellsD_sl cellsD_ro cellsD_fn cellsL_agg cellsL_dagg cellsL_int cellsL_bool cellsL_str cellsL_sl cellsL_fn cellsL_ow cellsL_bx cellsL_lfn cellsL_nl takeL takeD mkAgg allD eqD eqDs kindsAre kindIs LObj.live TK.isNone TK.agg TK.isBool TK.isStr TK.isStruct Op.operands Call.operands
 evalBuildSlice evalAppend elemsOf evalStore evalBuild fillL lookupF putL evalSlice bound evalConv elemsS freezes frozen loadR
 mkEnv_at mkObs_at close_d close_agg close_ow close_bx close_fn close_nl touch_d touch_agg touch_ow touch_bx touch_fn touch_nl ren_d ren_agg ren_bx ren_rp ren_ow ren_fn ren_nl ren_junk retQ_ret retQ2_ret condQ_bool Nm.d Df.d Ed.d nmsD dfsD strsD edsD retC_ret nm_eq df_eq take_map_len take_map_app
 nm_t nm_d nm_td df_t df_d df_td str_t str_d str_td ed_t ed_d ed_td
 evalAppendIn evalBuildSliceC evalCopyC shortL evalApart evalAppendC evalAppendZ evalAppendG evalCapC isOc TK.isInt close_oc touch_oc ren_oc cellsL_oc evalCut evalClear evalCopy evalMake evalWrap evalCap evalNil isNilC lenL isInp gorc gorc2
 mapOf findD keyEq keyOk evalMakeMap evalRange zeroD zeroDV argsG shutG outN lenv retG0_ret retG0_normal retG1_ret retGR_ret renO close_mp touch_mp ren_mp optAll_d optAll_d' touch_ds cellsL_mp cellsD_mp cellsL_dmp
 evalMapSet evalPtr TK.isPtr evalToArr firstL retN_ret retsQ rvarL close_bm touch_bm ren_bm cellsD_bm cellsL_bm cellsL_lbm
attribute [local simp] cutQ_normal cutQ_ret cutQ_exit
section
attribute [local simp] Res.cond Nd.d_eq nd_t nd_dr nd_td ndsD evalIndex retGC_ret upds_same prH fail2_0 fail5_0 fail2_5 fail_l skip_e
def Fs (T : List Tk) (n : Nat) (x : PS → Nd × PS) : Prop := ∀ q : PS, q.l.length < n → Fit T q → Fit T (x q).2 ∧ (x q).2.l.length ≤ q.l.length
theorem Fit.goodT {T : List Tk} {q : PS} (f : Fit T q) (hg : GoodT T) : GoodT q.l := fun t ht => hg t (f.suf.mem ht)
theorem took_len {p : PS} {w : Str} (h : p.is w = true) : (p.took w).l.length + 1 = p.l.length := by rw [took_is h]; exact is_len h
theorem took_le {p : PS} {w : Str} : (p.took w).l.length ≤ p.l.length := by
 unfold PS.took; split
 ·exact skip_len
 ·exact Nat.le_refl _
theorem Fs.place {T : List Tk} (hg : GoodT T) (n : Nat) : Fs T n placeP := fun q h f => ⟨f.place, (placeP_rt n q h (f.goodT hg)).1⟩
theorem Fs.chainF {T : List Tk} {m : Nat} {lv : Int} {x : PS → Nd × PS} (hx : Fs T m x) : ∀ (f : Nat) (n : Nd) (p : PS), p.l.length < m → Fit T p → Fit T (chainF lv x f n p).2 ∧ (chainF lv x f n p).2.l.length ≤ p.l.length
 | 0, _, p, _, hf => ⟨hf, Nat.le_refl _⟩
 | f + 1, n, p, hm, hf => by
  rw [Go.Eng.chainF]
  split
  ·exact ⟨hf, Nat.le_refl _⟩
  ·split
   ·rename_i h
    rw [op_no h]; exact ⟨hf, Nat.le_refl _⟩
   ·rename_i h
    have h' : 0 ≤ opI lv p.peek := by have : ¬ opI lv p.peek < 0 := h; omega
    rw [op_yes h']
    have l1 := took_len (op_sign h').2.1
    obtain ⟨a1, a2⟩ := hx (p.took p.peek) (by omega) hf.took
    obtain ⟨b1, b2⟩ := Fs.chainF (lv := lv) hx f (.mk (26 + (opI lv p.peek)) [] 0 [n, (x (p.took p.peek)).1]) (x (p.took p.peek)).2 (by omega) a1
    exact ⟨b1, Nat.le_trans b2 (by omega)⟩
theorem Fs.chain {T : List Tk} {m : Nat} {lv : Int} {x : PS → Nd × PS} (hx : Fs T m x) : Fs T m (chainP lv x) := fun q h f => by
 obtain ⟨a1, a2⟩ := hx q h f
 obtain ⟨b1, b2⟩ := Fs.chainF (lv := lv) hx ((x q).2.l.length + 1) (x q).1 (x q).2 (by omega) a1
 exact ⟨b1, by unfold chainP; omega⟩
theorem Fs.fact {T : List Tk} (hg : GoodT T) {n : Nat} {ex : PS → Nd × PS} (hx : Fs T n ex) : Fs T (n + 1) (factP ex) := fun q h f => by
 have gq := f.goodT hg
 unfold factP
 split
 ·rename_i z
  have hl := is_len z
  obtain ⟨a1, a2⟩ := hx q.skip (by omega) f.skip
  exact ⟨a1.need, by have := need_le (p := (ex q.skip).2) (s := [41]); simp only; omega⟩
 ·split
  ·exact ⟨f.skip, skip_len⟩
  ·split
   ·split
    ·exact ⟨f.numeral, (numeralP_good gq).1⟩
    ·split
     ·exact ⟨f.local, (localP_good gq).1⟩
     ·exact Fs.place hg (n + 1) q h f
   ·exact Fs.place hg (n + 1) q h f
theorem Fs.exprB {T : List Tk} (hg : GoodT T) {n : Nat} {ex : PS → Nd × PS} (hx : Fs T n ex) : Fs T (n + 1) (exprB ex) := fun q h f => by
 have hs : Fs T (n + 1) (sumP ex) := Fs.chain (Fs.chain (Fs.fact hg hx))
 obtain ⟨a1, a2⟩ := hs q h f
 unfold Go.Eng.exprB
 simp only []
 by_cases z : 0 ≤ opI 1 (sumP ex q).2.peek
 ·rw [if_pos (show 0 ≤ (opP 1 (sumP ex q).2).1 from z), op_yes z]
  have l1 := took_len (op_sign z).2.1
  obtain ⟨b1, b2⟩ := hs ((sumP ex q).2.took (sumP ex q).2.peek) (by omega) a1.took
  exact ⟨b1, by simp only; omega⟩
 ·rw [if_neg (show ¬ 0 ≤ (opP 1 (sumP ex q).2).1 from z), op_no (by omega)]
  exact ⟨a1, a2⟩
theorem Fs.expr {T : List Tk} (hg : GoodT T) : ∀ n, Fs T n (exprP true n)
 | 0 => fun q h _ => absurd h (Nat.not_lt_zero _)
 | n + 1 => fun q h f => by
  rw [exprP]
  split
  ·exact ⟨f, Nat.le_refl _⟩
  ·exact Fs.exprB hg (Fs.expr hg n) q h f
structure RR (s : Str) (T : List Tk) (n : Nat) (g : FuncId) (x : PS → Nd × PS) : Prop where
 ok : ∀ q : PS, q.l.length < n → Fit T q → OkG Tryz.prog g [.bx 0 0] (prH s T q) (prH s T (x q).2) (.d (x q).1.d)
 fs : Fs T n x
theorem opI_3 (s : Str) : opI 3 s = if s = [42] then 5 else -1 := by
 by_cases h : s = [42]
 ·subst h; rfl
 ·rw [if_neg h]
  simp [opI, opsL, List.range, List.range.loop, Ne.symm h, h]
theorem opI_2 (s : Str) : opI 2 s = if s = [43] then 3 else if s = [45] then 4 else -1 := by
 by_cases h : s = [43]
 ·subst h; rfl
 ·rw [if_neg h]
  by_cases h2 : s = [45]
  ·subst h2; rfl
  ·rw [if_neg h2]
   have a := Ne.symm h
   have b := Ne.symm h2
   simp [opI, opsL, List.range, List.range.loop, a, b]
theorem opI_1 (s : Str) : opI 1 s = if s = [60] then 0 else if s = [60, 61] then 1 else if s = [61, 61] then 2 else -1 := by
 by_cases h : s = [60]
 ·subst h; rfl
 ·rw [if_neg h]
  by_cases h2 : s = [60, 61]
  ·subst h2; rfl
  ·rw [if_neg h2]
   by_cases h3 : s = [61, 61]
   ·subst h3; rfl
   ·rw [if_neg h3]
    have a := Ne.symm h
    have b := Ne.symm h2
    have c := Ne.symm h3
    simp [opI, opsL, List.range, List.range.loop, a, b, c]
theorem chain_end {lv : Int} {x : PS → Nd × PS} {f : Nat} {n : Nd} {q : PS} (hf : q.l.length < f) (h : opI lv q.peek < 0) : chainF lv x f n q = (n, q) := by
 by_cases e : q.e = 0
 ·rw [chain_stop hf e h, op_no h]
 ·exact chain_err hf e
theorem chain_on {lv : Int} {x : PS → Nd × PS} {f : Nat} {n : Nd} {q : PS} (hf : q.l.length < f) (h : 0 ≤ opI lv q.peek) :
  chainF lv x f n q = chainF lv x (f - 1) (.mk (26 + opI lv q.peek) [] 0 [n, (x (q.took q.peek)).1]) (x (q.took q.peek)).2 := by
 have hn : q.peek ≠ [] := (is_iff.1 (op_sign h).2.1).1
 rw [chain_go hf (peek_e hn) h, op_yes h]
theorem dig0 (w : Str) : firstIs digitB w = true ↔ (¬ w = [] ∧ digitB (w[0]?.getD 0) = true) := by
 cases w with
 | nil => simp [firstIs]
 | cons c r => simp [firstIs]
theorem RPlace_ok (s : Str) (T : List Tk) (p : PS) (c : Ctx s T) (f : Fit T p) : OkG Tryz.prog 191 [.bx 0 0] (prH s T p) (prH s T (placeP p).2) (.d (placeP p).1.d) := by
 unfold prH
 refine OkG.cell hT Tryz.func191 (by kernel_rfl) (c := _) rfl Tryz.ntmps191 (by simp) Tryz.results191 fun w0 X hp => ?_
 refine LWp.sz hT hW ?_
 simp
 refine LWp.so hT hW (fun | 5 => some (.gen ⟨[(0, 0)], [], [], prH s T (nameP p).2, .d (.str (nameP p).1)⟩) | _ => none) ?_
 simp
 refine ⟨RName_ok s T p c f, ?_⟩
 refine LWp.seq ?_
 refine LWp.so hT hW (fun | 8 => some (.gen ⟨[(0, 0)], [], [], prH s T ((nameP p).2.took [46]), .d (.bool ((nameP p).2.is [46]))⟩) | _ => none) ?_
 simp
 refine ⟨RIs_ok s T (nameP p).2 c f.name [46] (by simp), ?_⟩
 refine LWp.iff ?_
 simp
 refine ⟨fun h2 => ?_, fun h2 => ?_⟩
 ·refine LWp.sz hT hW ?_
  simp
  have l1 := name_tl (f.good c)
  have l2 := name_tl (p := (nameP p).2.took [46]) (f.name.took.good c)
  refine LWp.regAny hT hW hMixed (lk [[],[0],[0,1],[],[3],[0,1,2,3,4],[0,1,2,3,4,5],[0,1,2,3,4,5,6]]) (lk [[0],[0],[0],[],[],[],[],[]]) (lk [[],[],[],[],[0],[],[],[3]]) (by kernel_rfl) (fun | 14 => some (.gen ⟨[(0, 0)], [], [], prH s T (nameP ((nameP p).2.took [46])).2, .d (.str (nameP ((nameP p).2.took [46])).1)⟩) | _ => none) (by intro d; first | exact ⟨rfl, fun _ h => h⟩ | (split <;> exact ⟨rfl, fun _ h => h⟩)) ?_
  simp
  refine ⟨⟨⟨by omega, RName_ok s T _ c f.name.took⟩, by omega⟩, ?_⟩
  refine LWp.sz hT hW ?_
  simp
  refine LWp.ret ?_
  simp
  have e := place_dot h2
  refine Weak.closed (x := (placeP p).1.d) (by simp [e]) ?_
  simp
  exact Weak.to [0] [(0, 0)] (by decide) (by decide) (by simp [hp]) (by simp) (by simp [e])
 ·refine LWp.skip ?_
  simp
  refine LWp.sz hT hW ?_
  simp
  refine LWp.ret ?_
  simp
  have e := place_plain h2
  refine Weak.closed (x := (placeP p).1.d) (by simp [e]) ?_
  simp
  exact Weak.to [0] [(0, 0)] (by decide) (by decide) (by simp [hp]) (by simp) (by simp [e])
theorem RFact_ok (s : Str) (T : List Tk) (c : Ctx s T) (p : PS) (n : Nat) (ex : PS → Nd × PS) (hE : RR s T n 170 ex) (hn : p.l.length < n + 1) (f : Fit T p) : OkG Tryz.prog 199 [.bx 0 0] (prH s T p) (prH s T (factP ex p).2) (.d (factP ex p).1.d) := by
 unfold prH
 have hg := f.good c
 have htl := peek_tl hg
 refine OkG.cell hT Tryz.func199 (by kernel_rfl) (c := _) rfl Tryz.ntmps199 (by simp) Tryz.results199 fun w0 X hp => ?_
 refine LWp.sz hT hW ?_
 simp
 refine LWp.seq ?_
 refine LWp.so hT hW (fun | 6 => some (.gen ⟨[(0, 0)], [], [], prH s T (p.took [40]), .d (.bool (p.is [40]))⟩) | _ => none) ?_
 simp
 refine ⟨RIs_ok s T p c f [40] (by simp), ?_⟩
 refine LWp.iff ?_
 simp
 refine ⟨fun h1 => ?_, fun h1 => ?_⟩
 ·refine LWp.seq ?_
  have hl := took_len h1
  have hx := hE.ok (p.took [40]) (by omega) f.took
  have fx := (hE.fs (p.took [40]) (by omega) f.took).1
  refine LWp.ro hT hW (fun | 8 => some (.gen ⟨[(0, 0)], [], [], prH s T (ex (p.took [40])).2, .d (ex (p.took [40])).1.d⟩) | _ => none) ?_
  simp
  refine ⟨by simpa using hx, ?_⟩
  refine LWp.seq ?_
  have hn4 := RWant_ok s T (ex (p.took [40])).2 c fx [41] (by simp)
  refine LWp.ro hT hW (fun | 10 => some (.gen ⟨[(0, 0)], [], [], prH s T ((ex (p.took [40])).2.need [41]), .tup []⟩) | _ => none) ?_
  simp
  refine ⟨hn4, ?_⟩
  refine LWp.sz hT hW ?_
  simp
  refine LWp.ret ?_
  simp
  have e := factP_paren (ex := ex) h1
  exact Weak.to [0] [(0, 0)] (by decide) (by decide) (by simp [hp]) (by simp [e]) (by simp [e])
 ·have e2 : p.took [40] = p := took_not (by simp [h1])
  simp only [e2]
  refine LWp.skip ?_
  simp
  refine LWp.seq ?_
  refine LWp.so hT hW (fun | 13 => some (.gen ⟨[(0, 0)], [], [], prH s T (p.took [107, 105, 110, 100]), .d (.bool (p.is [107, 105, 110, 100]))⟩) | _ => none) ?_
  simp
  refine ⟨RIs_ok s T p c f [107, 105, 110, 100] (by simp), ?_⟩
  refine LWp.iff ?_
  simp
  refine ⟨fun h5 => ?_, fun h5 => ?_⟩
  ·refine LWp.sz hT hW ?_
   simp
   refine LWp.ret ?_
   simp
   have e := factP_kind (ex := ex) h1 h5
   refine Weak.closed (x := (factP ex p).1.d) (by simp [e]) ?_
   simp
   exact Weak.to [0] [(0, 0)] (by decide) (by decide) (by simp [hp]) (by simp) (by simp [e, sKind])
  ·have e6 : p.took [107, 105, 110, 100] = p := took_not (by simp [h5])
   simp only [e6]
   refine LWp.skip ?_
   simp
   refine LWp.so hT hW (fun | 16 => some (.gen ⟨[(0, 0)], [], [], prH s T p, .d (.str p.peek)⟩) | _ => none) ?_
   simp
   refine ⟨RLook_ok s T p c f, ?_⟩
   refine LWp.seq ?_
   refine LWp.seq ?_
   have hd := RDigit_ok p.peek 0 (by omega)
   refine LWp.ro hT hW (fun | 18 => some <| .plain ⟨.d (.bool (firstIs digitB p.peek)), true⟩ | _ => none) ?_
   simp
   refine ⟨by simpa using hd, ?_⟩
   refine LWp.iff ?_
   simp
   refine ⟨fun h8 => ?_, fun h8 => ?_⟩
   ·refine LWp.seq ?_
    have hnu := RNumeral_ok s T p c f 32 0 999 (.inl rfl) rfl
    refine LWp.ro hT hW (fun | 20 => some (.gen ⟨[(0, 0)], [], [], prH s T (numeralP 32 p).2, .d (I64 (numeralP 32 p).1)⟩) | _ => none) ?_
    simp
    refine ⟨hnu, ?_⟩
    refine LWp.ret ?_
    simp
    have e := factP_digit (ex := ex) h1 h5 ((dig0 _).1 h8).1 ((dig0 _).1 h8).2
    refine Weak.closed (x := (factP ex p).1.d) (by simp [e]) ?_
    simp
    exact Weak.to [0] [(0, 0)] (by decide) (by decide) (by simp [hp]) (by simp) (by simp [e])
   ·refine LWp.skip ?_
    simp
    refine LWp.seq ?_
    refine LWp.sz hT hW ?_
    simp
    refine LWp.iff ?_
    simp
    refine ⟨fun g1 g2 => ?_, fun g => ?_⟩
    ·refine LWp.seq ?_
     have hlo := RLocal_ok s T p c f
     refine LWp.ro hT hW (fun | 31 => some (.gen ⟨[(0, 0)], [], [], prH s T (localP p).2, .d (.str (localP p).1)⟩) | _ => none) ?_
     simp
     refine ⟨hlo, ?_⟩
     refine LWp.ret ?_
     simp
     have g8 : ¬ p.peek = [] → digitB (p.peek[0]?.getD 0) = false := fun a => by
      cases e : digitB (p.peek[0]?.getD 0) with
      | false => rfl
      | true => rw [(dig0 _).2 ⟨a, e⟩] at h8; cases h8
     have e := factP_local (ex := ex) h1 h5 g8 (at0.2 ⟨by omega, g2⟩)
     refine Weak.closed (x := (factP ex p).1.d) (by simp [e]) ?_
     simp
     exact Weak.to [0] [(0, 0)] (by decide) (by decide) (by simp [hp]) (by simp) (by simp [e])
    ·refine LWp.skip ?_
     simp
     refine LWp.seq ?_
     have hpl := RPlace_ok s T p c f
     refine LWp.ro hT hW (fun | 34 => some (.gen ⟨[(0, 0)], [], [], prH s T (placeP p).2, .d (placeP p).1.d⟩) | _ => none) ?_
     simp
     refine ⟨by simpa using hpl, ?_⟩
     refine LWp.ret ?_
     simp
     have g8 : ¬ p.peek = [] → digitB (p.peek[0]?.getD 0) = false := fun a => by
      cases e : digitB (p.peek[0]?.getD 0) with
      | false => rfl
      | true => rw [(dig0 _).2 ⟨a, e⟩] at h8; cases h8
     have e := factP_place (ex := ex) h1 h5 g8 (fun z => by have := at0.1 z; have := g (by omega); omega)
     exact Weak.to [0] [(0, 0)] (by decide) (by decide) (by simp [hp]) (by simp [e]) (by simp [e])
theorem RR.fact {s : Str} {T : List Tk} (c : Ctx s T) {n : Nat} {ex : PS → Nd × PS} (hE : RR s T n 170 ex) : RR s T (n + 1) 199 (factP ex) :=
 ⟨fun q hq f => RFact_ok s T c q n ex hE hq f, Fs.fact c.hg hE.fs⟩
theorem RProd_ok (s : Str) (T : List Tk) (c : Ctx s T) (p : PS) (n : Nat) (x : PS → Nd × PS) (hE : RR s T n 199 x) (hn : p.l.length < n) (f : Fit T p) : OkG Tryz.prog 198 [.bx 0 0] (prH s T p) (prH s T (chainP 3 x p).2) (.d (chainP 3 x p).1.d) := by
 unfold prH
 refine OkG.cell hT Tryz.func198 (by kernel_rfl) (c := _) rfl Tryz.ntmps198 (by simp) Tryz.results198 fun w0 X hp => ?_
 refine LWp.sz hT hW ?_
 simp
 refine LWp.seq ?_
 have hx := hE.ok p hn f
 have fx := hE.fs p hn f
 refine LWp.ro hT hW (fun | 5 => some (.gen ⟨[(0, 0)], [], [], prH s T (x p).2, .d (x p).1.d⟩) | _ => none) ?_
 simp
 refine ⟨by simpa using hx, ?_⟩
 refine LWp.seq ?_
 refine LWp.block ?_
 refine LWp.loopW (ι := ChS) (fun ⟨f, n, q⟩ => mkEnv [(0, .bx 0 0), (2, .bx 2 0), (3, .bx 3 0)]) (fun ⟨f, n, q⟩ => mkObs [(0, .box false [.d (.str s), .d (.sl (T.map Tk.r)), .d (I64 ((T.length : Int) - q.l.length)), .d (.bool (!decide (q.e = 0))), .d (.bool (decide (q.e = 5)))]), (2, .box false [.d (I64 0), .d (.str []), .d (I64 0), .nl]), (3, .box false [.d (I64 n.kind), .d (.str n.text), .d (I64 n.n), .d (ndsD n.kids)])]) (fun ⟨f, n, q⟩ => q.l.length < f ∧ Fit T q ∧ q.l.length ≤ p.l.length ∧ chainP 3 x p = chainF 3 x f n q) (fun ⟨f, n, q⟩ => q.l.length) ⟨(x p).2.l.length + 1, (x p).1, (x p).2⟩ (Weak.to [0, 2, 3] [(0, 0), (2, 2), (3, 3)] (by decide) (by decide) (by simp [hp]) (by simp) (by simp)) (⟨Nat.lt_succ_self _, fx.1, fx.2, rfl⟩) fun ⟨f, n, q⟩ hi2 => ?_
 refine LWp.seq ?_
 refine LWp.seq ?_
 have hi := RIs_ok s T q c hi2.2.1 [42] (by simp)
 refine LWp.ro hT hW (fun | 7 => some (.gen ⟨[(0, 0)], [], [], prH s T (q.took [42]), .d (.bool (q.is [42]))⟩) | _ => none) ?_
 simp
 refine ⟨hi, ?_⟩
 refine LWp.iff ?_
 simp
 refine ⟨fun h2 => ?_, fun h2 => ?_⟩
 ·refine LWp.skip ?_
  simp
  refine LWp.block ?_
  have hl := took_len h2
  have hpk := (is_iff.1 h2).2
  have i3 := hi2.2.2.1
  have hx3 := hE.ok (q.took [42]) (by omega) hi2.2.1.took
  have fx3 := hE.fs (q.took [42]) (by omega) hi2.2.1.took
  refine LWp.regAny hT hW hMixed (lk [[],[],[1],[0,1,2],[0,1,2,3],[0,1,2,3,4]]) (lk [[0],[],[],[],[],[]]) (lk [[],[],[0],[11],[],[3]]) (by kernel_rfl) (fun | 10 => some (.gen ⟨[(0, 0)], [], [], prH s T (x (q.took [42])).2, .d (x (q.took [42])).1.d⟩) | _ => none) (by intro d; first | exact ⟨rfl, fun _ h => h⟩ | (split <;> exact ⟨rfl, fun _ h => h⟩)) ?_
  simp
  refine ⟨⟨by simpa using hx3, by decide⟩, ?_⟩
  refine loopQ.weak (Weak.shutBox 3 [11] (fz := false) (cs := [.d (I64 31), .d (.str []), .d (I64 0), .ow 11 0 2]) (ds := [I64 31, .str [], I64 0, .sl [n.d, (x (q.took [42])).1.d]]) (by simp) (by simp) (by simp) (by simp [LObj.mut])) ?_
  simp
  refine loopQ.mk ⟨f - 1, .mk 31 [] 0 [n, (x (q.took [42])).1], (x (q.took [42])).2⟩ (Weak.to [0, 2, 3] [(0, 0), (2, 2), (3, 3)] (by decide) (by decide) (by simp [hp]) (by simp) (by simp)) ?_ ?_
  ·have i1 := hi2.1
   have i3 := hi2.2.2.1
   refine ⟨?_, fx3.1, ?_, ?_⟩
   ·show (x (q.took [42])).2.l.length < f - 1
    have := fx3.2
    omega
   ·show (x (q.took [42])).2.l.length ≤ p.l.length
    have := fx3.2
    omega
   ·rw [hi2.2.2.2, chain_on hi2.1 (by rw [opI_3, hpk]; decide), hpk]; rfl
  ·have := fx3.2
   show (x (q.took [42])).2.l.length < q.l.length
   omega
 ·have e2 : q.took [42] = q := took_not (by simp [h2])
  simp only [e2]
  refine LWp.exit ?_
  simp
  refine LWp.sz hT hW ?_
  simp
  refine LWp.ret ?_
  simp
  have hno : opI 3 q.peek < 0 := by
   rw [opI_3, if_neg (fun z => by rw [is_iff.2 ⟨by simp, z⟩] at h2; cases h2)]; decide
  have e : chainP 3 x p = (n, q) := by rw [hi2.2.2.2]; exact chain_end hi2.1 hno
  exact Weak.to [0] [(0, 0)] (by decide) (by decide) (by simp [hp]) (by simp [e]) (by simp [e])
theorem upds_else {c : Prop} [Decidable c] {f : Nat → LObj} {A : LObj} {x : Nat} (h : f 0 = A) : upds f (if c then [] else [(0, A)]) x = f x := by
 by_cases hc : c
 ·rw [if_pos hc]; rfl
 ·rw [if_neg hc]
  subst h
  simp only [upds, upd]
  split
  ·rename_i e; rw [e]
  ·rfl
theorem RR.prod {s : Str} {T : List Tk} (c : Ctx s T) {n : Nat} {x : PS → Nd × PS} (hE : RR s T n 199 x) : RR s T n 198 (chainP 3 x) :=
 ⟨fun q hq f => RProd_ok s T c q n x hE hq f, Fs.chain hE.fs⟩
structure KC6 where
 k : Int
theorem op2_yes {q : Str} : (q = [43] ∨ q = [45]) ↔ 0 ≤ opI 2 q := by
 rw [opI_2]
 by_cases h : q = [43]
 ·simp [h]
 ·by_cases h2 : q = [45]
  ·simp [h2]
  ·simp [h, h2]
theorem RSum_ok (s : Str) (T : List Tk) (c : Ctx s T) (p : PS) (n : Nat) (x : PS → Nd × PS) (hE : RR s T n 198 x) (hn : p.l.length < n) (f : Fit T p) : OkG Tryz.prog 190 [.bx 0 0] (prH s T p) (prH s T (chainP 2 x p).2) (.d (chainP 2 x p).1.d) := by
 unfold prH
 have htl := c.ht
 refine OkG.cell hT Tryz.func190 (by kernel_rfl) (c := _) rfl Tryz.ntmps190 (by simp) Tryz.results190 fun w0 X hp => ?_
 refine LWp.sz hT hW ?_
 simp
 refine LWp.seq ?_
 have hx := hE.ok p hn f
 have fx := hE.fs p hn f
 refine LWp.ro hT hW (fun | 6 => some (.gen ⟨[(0, 0)], [], [], prH s T (x p).2, .d (x p).1.d⟩) | _ => none) ?_
 simp
 refine ⟨by simpa using hx, ?_⟩
 refine LWp.seq ?_
 refine LWp.block ?_
 refine LWp.loopW (ι := ChS) (fun ⟨f, n, q⟩ => mkEnv [(0, .bx 0 0), (2, .bx 2 0), (3, .bx 3 0)]) (fun ⟨f, n, q⟩ => mkObs [(0, .box false [.d (.str s), .d (.sl (T.map Tk.r)), .d (I64 ((T.length : Int) - q.l.length)), .d (.bool (!decide (q.e = 0))), .d (.bool (decide (q.e = 5)))]), (2, .box false [.d (I64 0), .d (.str []), .d (I64 0), .nl]), (3, .box false [.d (I64 n.kind), .d (.str n.text), .d (I64 n.n), .d (ndsD n.kids)])]) (fun ⟨f, n, q⟩ => q.l.length < f ∧ Fit T q ∧ q.l.length ≤ p.l.length ∧ chainP 2 x p = chainF 2 x f n q) (fun ⟨f, n, q⟩ => q.l.length) ⟨(x p).2.l.length + 1, (x p).1, (x p).2⟩ (Weak.to [0, 2, 3] [(0, 0), (2, 2), (3, 3)] (by decide) (by decide) (by simp [hp]) (by simp) (by simp)) (⟨Nat.lt_succ_self _, fx.1, fx.2, rfl⟩) fun ⟨f, n, q⟩ hi2 => ?_
 refine LWp.seq ?_
 refine LWp.seq ?_
 have hk := RLook_ok s T q c hi2.2.1
 refine LWp.ro hT hW (fun | 8 => some (.gen ⟨[(0, 0)], [], [], prH s T q, .d (.str q.peek)⟩) | 12 => some (.gen ⟨[(0, 0)], [], [], prH s T q, .d (.str q.peek)⟩) | _ => none) ?_
 simp [upds_else]
 refine ⟨⟨hk, fun _ => hk⟩, ?_⟩
 refine LWp.iff ?_
 simp
 refine ⟨fun g => ?_, fun g1 g2 => ?_⟩
 ·have hop := op2_yes.1 g
  have his := (op_sign hop).2.1
  have hne := (is_iff.1 his).1
  have hl := took_len his
  have hsk := skip_at (T := T) hne
  have hps := hi2.2.1.pos hne
  have i3 := hi2.2.2.1
  have hx3 := hE.ok (q.took q.peek) (by omega) hi2.2.1.took
  have fx3 := hE.fs (q.took q.peek) (by omega) hi2.2.1.took
  refine LWp.skip ?_
  simp
  refine LWp.block ?_
  refine LWp.sz hT hW ?_
  simp
  refine LWp.seqCut (ι := KC6) (fun ⟨k⟩ => mkEnv [(0, .bx 0 0), (2, .bx 2 0), (3, .bx 3 0), (4, .d (I64 k))]) (fun ⟨k⟩ => mkObs [(0, .box false [.d (.str s), .d (.sl (T.map Tk.r)), .d (I64 ((T.length : Int) - q.l.length)), .d (.bool (!decide (q.e = 0))), .d (.bool (decide (q.e = 5)))]), (2, .box false [.d (I64 0), .d (.str []), .d (I64 0), .nl]), (3, .box false [.d (I64 n.kind), .d (.str n.text), .d (I64 n.n), .d (ndsD n.kids)])]) (fun ⟨k⟩ => k = 26 + opI 2 q.peek) ?_ fun ⟨k⟩ hc6 => ?_
  ·refine LWp.seq ?_
   have hk4 := RLook_ok s T q c hi2.2.1
   refine LWp.ro hT hW (fun | 16 => some (.gen ⟨[(0, 0)], [], [], prH s T q, .d (.str q.peek)⟩) | _ => none) ?_
   simp
   refine ⟨hk4, ?_⟩
   refine LWp.iff ?_
   simp
   refine ⟨fun h4 => ?_, fun h4 => ?_⟩
   ·refine LWp.rz hT hW ?_
    simp
    refine cutQ.mk ⟨30⟩ (Weak.to [0, 2, 3, 4] [(0, 0), (2, 2), (3, 3)] (by decide) (by decide) (by simp [hp]) (by simp) (by simp)) ?_
    rw [opI_2, h4]; decide
   ·refine LWp.skip ?_
    simp
    refine cutQ.mk ⟨29⟩ (Weak.to [0, 2, 3, 4] [(0, 0), (2, 2), (3, 3)] (by decide) (by decide) (by simp [hp]) (by simp) (by simp)) ?_
    rw [opI_2, if_pos (g.resolve_right h4)]; decide
  ·refine LWp.sz hT hW ?_
   simp
   refine ⟨by omega, ?_⟩
   simp only [← hsk]
   refine LWp.regAny hT hW hMixed (lk [[],[],[],[2],[1,2,3],[0,1,2,3,4],[0,1,2,3,4,5]]) (lk [[0,29],[0],[],[],[],[],[]]) (lk [[],[],[],[0],[29],[],[3]]) (by kernel_rfl) (fun | 28 => some (.gen ⟨[(0, 0)], [], [], prH s T (x (q.took q.peek)).2, .d (x (q.took q.peek)).1.d⟩) | _ => none) (by intro d; first | exact ⟨rfl, fun _ h => h⟩ | (split <;> exact ⟨rfl, fun _ h => h⟩)) ?_
   simp
   refine ⟨⟨by simpa [took_is his] using hx3, by decide⟩, ?_⟩
   simp only [hc6]
   refine loopQ.weak (Weak.shutBox 3 [29] (fz := false) (cs := [.d (I64 (26 + opI 2 q.peek)), .d (.str []), .d (I64 0), .ow 29 0 2]) (ds := [I64 (26 + opI 2 q.peek), .str [], I64 0, .sl [n.d, (x (q.took q.peek)).1.d]]) (by simp) (by simp) (by simp) (by simp [LObj.mut])) ?_
   simp
   refine loopQ.mk ⟨f - 1, .mk (26 + opI 2 q.peek) [] 0 [n, (x (q.took q.peek)).1], (x (q.took q.peek)).2⟩ (Weak.to [0, 2, 3] [(0, 0), (2, 2), (3, 3)] (by decide) (by decide) (by simp [hp]) (by simp) (by simp)) ?_ ?_
   ·have i1 := hi2.1
    have i3 := hi2.2.2.1
    have := fx3.2
    refine ⟨?_, fx3.1, ?_, ?_⟩
    ·show (x (q.took q.peek)).2.l.length < f - 1
     omega
    ·show (x (q.took q.peek)).2.l.length ≤ p.l.length
     omega
    ·rw [hi2.2.2.2, chain_on hi2.1 hop]
   ·have := fx3.2
    show (x (q.took q.peek)).2.l.length < q.l.length
    omega
 ·refine LWp.exit ?_
  simp
  refine LWp.sz hT hW ?_
  simp
  refine LWp.ret ?_
  simp
  have hno : opI 2 q.peek < 0 := by
   have z : ¬ 0 ≤ opI 2 q.peek := fun z => (op2_yes.2 z).elim g1 g2
   omega
  have e : chainP 2 x p = (n, q) := by rw [hi2.2.2.2]; exact chain_end hi2.1 hno
  exact Weak.to [0] [(0, 0)] (by decide) (by decide) (by simp [hp]) (by simp [e]) (by simp [e])
theorem RR.sum {s : Str} {T : List Tk} (c : Ctx s T) {n : Nat} {x : PS → Nd × PS} (hE : RR s T n 198 x) : RR s T n 190 (chainP 2 x) :=
 ⟨fun q hq f => RSum_ok s T c q n x hE hq f, Fs.chain hE.fs⟩
def sgn3 : List Str := [[60], [60, 61], [61, 61]]
theorem sgn3_at {i : Nat} (h : i < 3) : sgn3[i]?.getD [] ≠ [] := by
 match i, h with
 | 0, _ => decide
 | 1, _ => decide
 | 2, _ => decide
theorem op1_at {w : Str} {i : Nat} (h : i < 3) (hw : w = sgn3[i]?.getD []) : opI 1 w = i := by
 subst hw
 match i, h with
 | 0, _ => decide
 | 1, _ => decide
 | 2, _ => decide
theorem op1_none {w : Str} (h : ∀ j, j < 3 → w ≠ sgn3[j]?.getD []) : opI 1 w < 0 := by
 have a : w ≠ [60] := h 0 (by decide)
 have b : w ≠ [60, 61] := h 1 (by decide)
 have d : w ≠ [61, 61] := h 2 (by decide)
 rw [opI_1, if_neg a, if_neg b, if_neg d]; decide
theorem sgn3_row (i : Nat) (h : i < 3) : ([DV.str [60], DV.str [60, 61], DV.str [61, 61]] : List DV)[i]?.getD default = .str (sgn3[i]?.getD []) := by
 match i, h with
 | 0, _ => rfl
 | 1, _ => rfl
 | 2, _ => rfl
theorem RExprP_step (s : Str) (T : List Tk) (c : Ctx s T) (p : PS) (n : Nat) (ex : PS → Nd × PS) (hE : RR s T n 190 (sumP ex)) (hn : p.l.length < n) (f : Fit T p) : OkG Tryz.prog 170 [.bx 0 0] (prH s T p) (prH s T (if p.e = 0 then exprB ex p else (zeroNd, p)).2) (.d (if p.e = 0 then exprB ex p else (zeroNd, p)).1.d) := by
 unfold prH
 refine OkG.cell hT Tryz.func170 (by kernel_rfl) (c := _) rfl Tryz.ntmps170 (by simp) Tryz.results170 fun w0 X hp => ?_
 refine LWp.sz hT hW ?_
 simp
 refine LWp.seq ?_
 refine LWp.sz hT hW ?_
 simp
 refine LWp.iff ?_
 simp
 refine ⟨fun h1 => ?_, fun h1 => ?_⟩
 ·refine LWp.sz hT hW ?_
  simp
  refine LWp.ret ?_
  simp
  have e : (if p.e = 0 then exprB ex p else (zeroNd, p)) = (zeroNd, p) := if_neg h1
  rw [e]
  refine Weak.closed (x := zeroNd.d) (by simp [zeroNd]) ?_
  simp
  exact Weak.to [0] [(0, 0)] (by decide) (by decide) (by simp [hp]) (by simp) (by simp)
 ·refine LWp.skip ?_
  simp
  refine LWp.seq ?_
  have hx := hE.ok p hn f
  have fx := hE.fs p hn f
  refine LWp.ro hT hW (fun | 12 => some (.gen ⟨[(0, 0)], [], [], prH s T (sumP ex p).2, .d (sumP ex p).1.d⟩) | _ => none) ?_
  simp
  refine ⟨by simpa using hx, ?_⟩
  refine LWp.sz hT hW ?_
  simp
  refine ⟨by decide, ?_⟩
  refine LWp.seq ?_
  refine LWp.sz hT hW ?_
  simp
  refine LWp.block ?_
  refine LWp.loopW (ι := Nat) (fun i => mkEnv [(0, .bx 0 0), (2, .bx 2 0), (3, .bx 3 0), (4, .ow 13 0 3), (5, .d (I64 i))]) (fun i => mkObs [(0, .box false [.d (.str s), .d (.sl (T.map Tk.r)), .d (I64 ((T.length : Int) - (sumP ex p).2.l.length)), .d (.bool (!decide ((sumP ex p).2.e = 0))), .d (.bool (decide ((sumP ex p).2.e = 5)))]), (2, .box false [.d (I64 0), .d (.str []), .d (I64 0), .nl]), (3, .box false [.d (I64 (sumP ex p).1.kind), .d (.str (sumP ex p).1.text), .d (I64 (sumP ex p).1.n), .d (ndsD (sumP ex p).1.kids)]), (13, .row false 1 [.str [60], .str [60, 61], .str [61, 61]])]) (fun i => i ≤ 3 ∧ ∀ j, j < i → (sumP ex p).2.peek ≠ sgn3[j]?.getD []) (fun i => 3 - i) 0 (Weak.to [0, 2, 3, 4, 5] [(0, 0), (2, 2), (3, 3), (13, 13)] (by decide) (by decide) (by simp [hp]) (by simp) (by simp)) (⟨Nat.zero_le _, fun j h => absurd h (Nat.not_lt_zero j)⟩) fun i hi6 => ?_
  refine LWp.seq ?_
  refine LWp.sz hT hW ?_
  simp
  refine LWp.iff ?_
  simp
  refine ⟨fun h6 => ?_, fun h6 => ?_⟩
  ·refine LWp.skip ?_
   simp
   refine LWp.seq ?_
   refine LWp.block ?_
   refine LWp.seq ?_
   have hi3 : i < 3 := by omega
   have hi := RIs_ok s T (sumP ex p).2 c fx.1 (sgn3[i]?.getD []) (sgn3_at hi3)
   refine LWp.ro hT hW (fun | 23 => some (.gen ⟨[(0, 0)], [], [], prH s T ((sumP ex p).2.took (sgn3[i]?.getD [])), .d (.bool ((sumP ex p).2.is (sgn3[i]?.getD [])))⟩) | _ => none) ?_
   simp [sgn3_row i hi3]
   refine ⟨⟨by omega, hi⟩, ?_⟩
   refine LWp.iff ?_
   simp
   refine ⟨fun h8 => ?_, fun h8 => ?_⟩
   ·refine LWp.seq ?_
    have hpk := (is_iff.1 h8).2
    have hop := op1_at hi3 hpk
    have hl := took_len h8
    have hx9 := hE.ok ((sumP ex p).2.took (sgn3[i]?.getD [])) (by have := fx.2; omega) fx.1.took
    refine LWp.regAny hT hW hMixed (lk [[],[0],[],[],[3],[2,3,4],[0,1,2,3,4,5],[0,1,2,3,4,5,6]]) (lk [[0,29],[0,29],[0],[],[],[],[],[]]) (lk [[],[],[],[],[0],[29],[],[2]]) (by kernel_rfl) (fun | 28 => some (.gen ⟨[(0, 0)], [], [], prH s T (sumP ex ((sumP ex p).2.took (sgn3[i]?.getD []))).2, .d (sumP ex ((sumP ex p).2.took (sgn3[i]?.getD []))).1.d⟩) | _ => none) (by intro d; first | exact ⟨rfl, fun _ h => h⟩ | (split <;> exact ⟨rfl, fun _ h => h⟩)) ?_
    simp
    refine ⟨⟨⟨by omega, by simpa using hx9⟩, by decide⟩, ?_⟩
    refine LWp.ret ?_
    simp
    have e : (if p.e = 0 then exprB ex p else (zeroNd, p)) = exprB ex p := if_pos h1
    have e2 : exprB ex p = (.mk (26 + (i : Int)) [] 0 [(sumP ex p).1, (sumP ex ((sumP ex p).2.took (sgn3[i]?.getD []))).1], (sumP ex ((sumP ex p).2.took (sgn3[i]?.getD []))).2) := by
     rw [exprB_bin (by rw [op_yes (by omega)]; show 0 ≤ opI 1 _; omega), op_yes (by omega), hop, hpk]
    rw [e, e2]
    refine Weak.closed (x := (Nd.mk (26 + (i : Int)) [] 0 [(sumP ex p).1, (sumP ex ((sumP ex p).2.took (sgn3[i]?.getD []))).1]).d) (by simp) ?_
    simp
    exact Weak.to [0] [(0, 0)] (by decide) (by decide) (by simp [hp]) (by simp) (by simp)
   ·have e2 : (sumP ex p).2.took (sgn3[i]?.getD []) = (sumP ex p).2 := took_not (by simp [h8])
    simp only [e2]
    refine LWp.skip ?_
    simp
    refine LWp.rz hT hW ?_
    simp
    refine ⟨by omega, ?_⟩
    refine loopQ.mk (i + 1) (Weak.to [0, 2, 3, 4, 5] [(0, 0), (2, 2), (3, 3), (13, 13)] (by decide) (by decide) (by simp [hp]) (by simp) (by simp)) ?_ ?_
    ·refine ⟨by omega, fun j hj => ?_⟩
     by_cases e : j = i
     ·subst e
      exact fun z => by rw [is_iff.2 ⟨sgn3_at hi3, z⟩] at h8; cases h8
     ·exact hi6.2 j (by omega)
    ·omega
  ·refine LWp.exit ?_
   simp
   refine LWp.sz hT hW ?_
   simp
   refine LWp.ret ?_
   simp
   have e : (if p.e = 0 then exprB ex p else (zeroNd, p)) = exprB ex p := if_pos h1
   have hno := op1_none (w := (sumP ex p).2.peek) (fun j hj => hi6.2 j (by omega))
   have e2 : exprB ex p = ((sumP ex p).1, (sumP ex p).2) := by rw [exprB_one (by rw [op_no hno]; exact hno), op_no hno]
   rw [e, e2]
   exact Weak.to [0] [(0, 0)] (by decide) (by decide) (by simp [hp]) (by simp) (by simp)
theorem RR.expr {s : Str} {T : List Tk} (c : Ctx s T) : ∀ n : Nat, RR s T n 170 (exprP true n)
 | 0 => ⟨fun q h _ => absurd h (Nat.not_lt_zero _), fun q h _ => absurd h (Nat.not_lt_zero _)⟩
 | n + 1 => by
  have e : ∀ q, exprP true (n + 1) q = if q.e = 0 then exprB (exprP true n) q else (zeroNd, q) := fun q => by
   rw [exprP]
   by_cases h : q.e = 0
   ·rw [if_neg (by simp [h]), if_pos h]
   ·rw [if_pos ⟨rfl, h⟩, if_neg h]
  refine ⟨fun q hq f => ?_, Fs.expr c.hg (n + 1)⟩
  rw [e]
  exact RExprP_step s T c q (n + 1) (exprP true n) (((RR.expr c n).fact c).prod c |>.sum c) hq f
end
open Go.Proofs
section
attribute [local simp] Res.cond Nd.d_eq nd_t nd_dr nd_td ndsD evalIndex retGC_ret tksD psH upds_same
theorem one_i (k : IntKind) (n : Int) : (Value.int k n).oneCell' = true := rfl
theorem one_s (x : ByteArray) : (Value.string x).oneCell' = true := rfl
theorem one_l (x : Option Addr) (a b : Nat) : (Value.slice x a b).oneCell' = true := rfl
theorem all4 (a b c d : Value) : (∀ (i : Nat) (x : i < 4), ([a, b, c, d][i]'(x)).oneCell' = true) ↔ (a.oneCell' = true ∧ b.oneCell' = true ∧ c.oneCell' = true ∧ d.oneCell' = true) := by
 constructor
 ·intro h
  exact ⟨h 0 (by decide), h 1 (by decide), h 2 (by decide), h 3 (by decide)⟩
 ·rintro ⟨h1, h2, h3, h4⟩ i hi
  match i, hi with
  | 0, _ => exact h1
  | 1, _ => exact h2
  | 2, _ => exact h3
  | 3, _ => exact h4
attribute [local simp] constL1 one_i one_s one_l all4
theorem take_else {c : Prop} [Decidable c] {f : Nat → LObj} {a b : PS} {x : Nat} (h : f 0 = .box false [.d (.sl (b.l.map Tk.d)), .d (I64 b.e)]) :
  upds f (if c then [(0, .box false [.d (.sl (a.l.map Tk.d)), .d (I64 a.e)])] else []) x = if x = 0 then .box false [.d (.sl ((if c then a else b).l.map Tk.d)), .d (I64 (if c then a else b).e)] else f x := by
 by_cases hc : c
 ·simp only [hc, if_true, upds, upd]
 ·simp only [hc, if_false, upds]
  split
  ·rename_i e; rw [e]; exact h
  ·rfl
structure KC where
 k : Int
structure StS where
 x : Nd
 q : PS
theorem stmt_rstep (p : PS) (n : Nat) (ex bl : PS → Nd × PS) (hE : Reads (n + 1) 140 ex) (hB : Reads n 77 bl) (hn : p.l.length < n + 1) (hg : GoodT p.l) : OkG Tryz.prog 114 [.bx 0 0] (psH p) (psH (stmtB ex bl p).2) (.d (stmtB ex bl p).1.d) := by
 unfold psH
 refine OkG.cell hT Tryz.func114 (by kernel_rfl) (c := _) rfl Tryz.ntmps114 (by simp) Tryz.results114 fun w0 X hp => ?_
 refine LWp.sz hT hW ?_
 simp
 refine LWp.so hT hW (fun | 7 => some (.gen ⟨[(0, 0)], [], [], psH p, .d (.str p.peek)⟩) | _ => none) ?_
 simp
 refine ⟨peek_ok p, ?_⟩
 refine LWp.sz hT hW ?_
 simp
 refine LWp.seqCut (ι := KC) (fun ⟨k⟩ => mkEnv [(0, .bx 0 0), (2, .bx 2 0), (3, .d (.str p.peek)), (4, .d (I64 k))]) (fun ⟨k⟩ => mkObs [(0, .box false [.d (tksD p.l), .d (I64 p.e)]), (2, .box false [.d (I64 0), .d (.str []), .d (I64 0), .nl])]) (fun ⟨k⟩ => kindP p.peek = k) ?_ fun ⟨k⟩ hc5 => ?_
 ·refine LWp.sz hT hW ?_
  simp
  refine LWp.iff ?_
  simp
  refine ⟨fun h3 => ?_, fun h3 => ?_⟩
  ·have hi := IndexOfStr_ok wordsL p.peek
   have q2 := glob0_len
   rw [← kind_eq h3] at hi
   refine LWp.ro hT hW (fun | 12 => some <| .plain ⟨.d (I64 (kindP p.peek)), true⟩ | _ => none) ?_
   simp [glob0_take]
   refine ⟨⟨by omega, hi⟩, ?_⟩
   refine cutQ.mk ⟨kindP p.peek⟩ (Weak.to [0, 2, 3, 4] [(0, 0), (2, 2)] (by decide) (by decide) (by simp [hp]) (by simp) (by simp)) ?_
   rfl
  ·refine LWp.skip ?_
   simp
   refine cutQ.mk ⟨-1⟩ (Weak.to [0, 2, 3, 4] [(0, 0), (2, 2)] (by decide) (by decide) (by simp [hp]) (by simp) (by simp)) ?_
   exact kind_nil h3
 ·refine LWp.sz hT hW ?_
  simp
  refine LWp.seqCut (ι := StS) (fun ⟨x, q⟩ => mkEnv [(0, .bx 0 0), (2, .bx 2 0), (5, .bx 5 0)]) (fun ⟨x, q⟩ => mkObs [(0, .box false [.d (tksD q.l), .d (I64 q.e)]), (2, .box false [.d (I64 0), .d (.str []), .d (I64 0), .nl]), (5, .box false [.d (I64 x.kind), .d (.str x.text), .d (I64 x.n), .d (ndsD x.kids)])]) (fun ⟨x, q⟩ => stmtB ex bl p = (x, q.need [59])) ?_ fun ⟨x, q⟩ hc22 => ?_
  ·refine LWp.block ?_
   refine LWp.sz hT hW ?_
   simp
   refine LWp.iff ?_
   simp
   refine ⟨fun g => ?_, fun g1 g2 => ?_⟩
   ·refine LWp.seq ?_
    have ip := kind_pos (p := p) (by omega)
    have lp := is_len ip
    rw [← took_is ip] at lp
    have gp := good_took (s := p.peek) hg
    refine LWp.ro hT hW (fun | 39 => some (.gen ⟨[(0, 0)], [], [], psH (p.took p.peek), .d (.bool (p.is p.peek))⟩) | _ => none) ?_
    simp
    refine ⟨take_ok p p.peek, ?_⟩
    refine LWp.nlCell (fz := false) (cs := [.d (I64 k), .d (.str []), .d (I64 0), .nl]) 5 3 1048 4 (by decide) ⟨by simp, by simp, by simp, ?_⟩
    simp
    refine LWp.seq ?_
    have he := hE.ok (p.took p.peek) (by omega) gp
    have le := hE.le (p.took p.peek) (by omega) gp
    have hb := hB.ok (ex (p.took p.peek)).2 (by omega) le.2
    have lb := hB.le (ex (p.took p.peek)).2 (by omega) le.2
    refine LWp.regAny hT hW hMixed (lk [[],[0],[],[2],[],[2,3,4],[0,1],[],[0,1,2,3,4,5,6,7],[0,1,2,3,4,5,6,7,8],[0,1,2,3,4,5,6,7,8,9],[0,1,6],[0,1,2,3,4,5,6,7,8,9,10,11],[0,1,2,3,4,5,6,7,8,9,10,11,12],[0,1,2,3,4,5,6,7,8],[0,1,2,3,4,5,6,7,8,14]]) (lk [[0,47],[0,47],[47],[47],[0,47],[47],[0,47],[0],[],[5],[5],[0,5,47,48,1048],[5],[5],[48],[48]]) (lk [[],[],[],[0],[],[0],[],[47],[48,1048],[],[48],[],[],[48],[],[5]]) (by kernel_rfl) (fun | 43 => some (.gen ⟨[(0, 0)], [], [], psH (ex (p.took p.peek)).2, .d (ex (p.took p.peek)).1.d⟩) | 45 => some (.gen ⟨[(0, 0)], [], [], psH (bl (ex (p.took p.peek)).2).2, .d (bl (ex (p.took p.peek)).2).1.d⟩) | _ => none) (by intro d; first | exact ⟨rfl, fun _ h => h⟩ | (split <;> exact ⟨rfl, fun _ h => h⟩)) ?_
    simp
    refine ⟨⟨⟨by simpa using he, by simpa using hb⟩, by decide⟩, ?_⟩
    refine LWp.seq ?_
    refine LWp.seq ?_
    have ht := take_ok (bl (ex (p.took p.peek)).2).2 sElse
    refine LWp.ro hT hW (fun | 57 => some (.gen ⟨[(0, 0)], [], [], psH ((bl (ex (p.took p.peek)).2).2.took sElse), .d (.bool ((bl (ex (p.took p.peek)).2).2.is sElse))⟩) | _ => none) ?_
    simp [take_else (b := (bl (ex (p.took p.peek)).2).2)]
    refine ⟨fun _ => ht, ?_⟩
    refine LWp.iff ?_
    simp
    refine ⟨fun g3 g4 => ?_, fun g3 => ?_⟩
    ·simp only [g3, if_true]
     have gt := good_took (s := sElse) lb.2
     have lt : ((bl (ex (p.took p.peek)).2).2.took sElse).l.length ≤ (bl (ex (p.took p.peek)).2).2.l.length := by rw [took_is g4]; exact skip_len
     have hb2 := hB.ok ((bl (ex (p.took p.peek)).2).2.took sElse) (by omega) gt
     refine LWp.regAny hT hW hMixed (lk [[],[0],[],[2],[0,1],[],[0,1,2,3,4,5],[0,1,2,3,4,5,6],[0,1,2,3,4,5,6,7],[0,1,2,3,4,5,6],[0,1,2,3,4,5,6,9]]) (lk [[0,64],[0,64],[64],[64],[0,64],[0],[],[5],[5],[65],[65]]) (lk [[],[],[],[0],[],[64],[65,48],[],[65],[],[5]]) (by kernel_rfl) (fun | 62 => some (.gen ⟨[(0, 0)], [], [], psH (bl ((bl (ex (p.took p.peek)).2).2.took sElse)).2, .d (bl ((bl (ex (p.took p.peek)).2).2.took sElse)).1.d⟩) | _ => none) (by intro d; first | exact ⟨rfl, fun _ h => h⟩ | (split <;> exact ⟨rfl, fun _ h => h⟩)) ?_
     simp
     refine ⟨by simpa using hb2, ?_⟩
     refine LWp.sz hT hW ?_
     simp
     refine LWp.ret ?_
     simp
     have e := st_else (ex := ex) (bl := bl) hc5 g3 g4
     refine Weak.closed (x := (stmtB ex bl p).1.d) (by simp [e, g3]) ?_
     simp
     exact Weak.to [0] [(0, 0)] (by decide) (by decide) (by simp [hp]) (by simp) (by simp [e])
    ·have eq : (if k = 11 then (bl (ex (p.took p.peek)).2).2.took sElse else (bl (ex (p.took p.peek)).2).2) = (bl (ex (p.took p.peek)).2).2 := by
      split
      ·rename_i z
       exact took_not (by simp [g3 z])
      ·rfl
     simp only [eq]
     refine LWp.skip ?_
     simp
     refine LWp.sz hT hW ?_
     simp
     refine LWp.ret ?_
     simp
     have e := st_if (ex := ex) (bl := bl) hc5 g g3
     refine Weak.closed (x := (stmtB ex bl p).1.d) (by simp [e]) ?_
     simp
     exact Weak.to [0] [(0, 0)] (by decide) (by decide) (by simp [hp]) (by simp) (by simp [e])
   ·refine LWp.sz hT hW ?_
    simp
    refine LWp.iff ?_
    simp
    refine ⟨fun h15 => ?_, fun h15 => ?_⟩
    ·refine LWp.seq ?_
     have ip := kind_pos (p := p) (by have := hc5; simp only at this; omega)
     have lp := is_len ip
     rw [← took_is ip] at lp
     have gp := good_took (s := p.peek) hg
     refine LWp.ro hT hW (fun | 74 => some (.gen ⟨[(0, 0)], [], [], psH (p.took p.peek), .d (.bool (p.is p.peek))⟩) | _ => none) ?_
     simp
     refine ⟨take_ok p p.peek, ?_⟩
     have kr := kind_range (s := p.peek) (by have := hc5; simp only at this; omega)
     have hcm := command_ok (p.took p.peek) (n + 1) ex k (by have := hc5; simp only at this; omega) hE (by omega) gp
     refine LWp.ro hT hW (fun | 76 => some (.gen ⟨[(0, 0), (5, 1)], [], [], cdH (cmdP ex k (p.took p.peek)).2 (cmdP ex k (p.took p.peek)).1, .tup []⟩) | _ => none) ?_
     simp [cdH]
     refine ⟨by simpa [cdH] using hcm, ?_⟩
     refine cutQ.mk ⟨(cmdP ex k (p.took p.peek)).1, (cmdP ex k (p.took p.peek)).2⟩ (Weak.to [0, 2, 5] [(0, 0), (2, 2), (5, 5)] (by decide) (by decide) (by simp [hp]) (by simp) (by simp)) ?_
     exact st_cmd hc5 h15
    ·refine LWp.seq ?_
     have hpf := HasPrefix_ok p.peek [36] (by have := peek_tl hg; omega) (by decide)
     refine LWp.ro hT hW (fun | 79 => some <| .plain ⟨.d (.bool (decide (p.peek.take 1 = [36]))), true⟩ | _ => none) ?_
     simp
     refine ⟨hpf, ?_⟩
     refine LWp.iff ?_
     simp
     refine ⟨fun h18 => ?_, fun h18 => ?_⟩
     ·refine LWp.seq ?_
      have hlo := local_ok p hg
      have gl := localP_good hg
      refine LWp.ro hT hW (fun | 81 => some (.gen ⟨[(0, 0)], [], [], psH (localP p).2, .d (.str (localP p).1)⟩) | _ => none) ?_
      simp
      refine ⟨hlo, ?_⟩
      refine LWp.seq ?_
      have hne := need_ok (localP p).2 [61]
      have gn := good_need (s := [61]) gl.2.1
      refine LWp.ro hT hW (fun | 84 => some (.gen ⟨[(0, 0)], [], [], psH ((localP p).2.need [61]), .tup []⟩) | _ => none) ?_
      simp
      refine ⟨hne, ?_⟩
      have hx := hE.ok ((localP p).2.need [61]) (by have := gl.1; omega) gn.2
      refine LWp.ro hT hW (fun | 86 => some (.gen ⟨[(0, 0)], [], [], psH (ex ((localP p).2.need [61])).2, .d (ex ((localP p).2.need [61])).1.d⟩) | _ => none) ?_
      simp
      refine ⟨by simpa using hx, ?_⟩
      refine exWeak (Weak.shutBox 5 [87] (fz := false) (cs := [.d (I64 9), .d (.str (localP p).1), .d (I64 0), .ow 87 0 1]) (ds := [I64 9, .str (localP p).1, I64 0, .sl [(ex ((localP p).2.need [61])).1.d]]) (by simp) (by simp) (by simp) (by simp [LObj.mut])) ?_
      simp
      refine cutQ.mk ⟨.mk 9 (localP p).1 0 [(ex ((localP p).2.need [61])).1], (ex ((localP p).2.need [61])).2⟩ (Weak.to [0, 2, 5] [(0, 0), (2, 2), (5, 5)] (by decide) (by decide) (by simp [hp]) (by simp) (by simp)) ?_
      exact st_local hc5 (by omega) (by omega) h18
     ·refine LWp.seq ?_
      have hpl := place_ok p hg
      have gl := placeP_rt (p.l.length + 1) p (Nat.lt_succ_self _) hg
      refine LWp.ro hT hW (fun | 16 => some (.gen ⟨[(0, 0)], [], [], psH (placeP p).2, .d (placeP p).1.d⟩) | _ => none) ?_
      simp
      refine ⟨by simpa using hpl, ?_⟩
      refine LWp.seq ?_
      have hne := need_ok (placeP p).2 [61]
      have gn := good_need (s := [61]) gl.2.1
      refine LWp.ro hT hW (fun | 20 => some (.gen ⟨[(0, 0)], [], [], psH ((placeP p).2.need [61]), .tup []⟩) | _ => none) ?_
      simp
      refine ⟨hne, ?_⟩
      have hx := hE.ok ((placeP p).2.need [61]) (by have := gl.1; omega) gn.2
      refine LWp.regAny hT hW hMixed (lk [[],[0],[],[2],[0,1],[],[0,1,2,3,4,5],[0,1,2,3,4,5,6],[0,1,2,3,4,5,6,7],[0,1,2,3,4,5,6],[0,1,2,3,4,5,6,9]]) (lk [[0,26],[0,26],[26],[26],[0,26],[0],[],[5],[5],[27],[27]]) (lk [[],[],[],[0],[],[26],[27,17],[],[27],[],[5]]) (by kernel_rfl) (fun | 24 => some (.gen ⟨[(0, 0)], [], [], psH (ex ((placeP p).2.need [61])).2, .d (ex ((placeP p).2.need [61])).1.d⟩) | _ => none) (by intro d; first | exact ⟨rfl, fun _ h => h⟩ | (split <;> exact ⟨rfl, fun _ h => h⟩)) ?_
      simp
      refine ⟨by simpa using hx, ?_⟩
      refine exWeak (Weak.shutBox 5 [27] (fz := false) (cs := [.d (I64 10), .d (.str []), .d (I64 0), .ow 27 0 2]) (ds := [I64 10, .str [], I64 0, .sl [(placeP p).1.d, (ex ((placeP p).2.need [61])).1.d]]) (by simp) (by simp) (by simp) (by simp [LObj.mut])) ?_
      simp
      refine cutQ.mk ⟨.mk 10 [] 0 [(placeP p).1, (ex ((placeP p).2.need [61])).1], (ex ((placeP p).2.need [61])).2⟩ (Weak.to [0, 2, 5] [(0, 0), (2, 2), (5, 5)] (by decide) (by decide) (by simp [hp]) (by simp) (by simp)) ?_
      exact st_place hc5 (by omega) (by omega) h18
  ·refine LWp.seq ?_
   have hne := need_ok q [59]
   refine LWp.ro hT hW (fun | 90 => some (.gen ⟨[(0, 0)], [], [], psH (q.need [59]), .tup []⟩) | _ => none) ?_
   simp
   refine ⟨hne, ?_⟩
   refine LWp.sz hT hW ?_
   simp
   refine LWp.ret ?_
   simp
   exact Weak.to [0] [(0, 0)] (by decide) (by decide) (by simp [hp]) (by simp [hc22]) (by simp [hc22])
end
open Go.Proofs
section
attribute [local simp] Res.cond Nd.d_eq nd_t nd_dr nd_td ndsD evalIndex retGC_ret upds_same prH fail2_0 fail5_0 fail2_5 fail_l skip_e
theorem Fs.need {T : List Tk} {p : PS} (f : Fit T p) (w : Str) : Fit T (p.need w) ∧ (p.need w).l.length ≤ p.l.length := ⟨f.need, need_le⟩
theorem Fs.stmts {T : List Tk} {m : Nat} {st : PS → Nd × PS} (hs : Fs T m st) : ∀ (f : Nat) (ks : List Nd) (p : PS), p.l.length < m → Fit T p → Fit T (stmtsF st f ks p).2 ∧ (stmtsF st f ks p).2.l.length ≤ p.l.length
 | 0, _, p, _, hf => ⟨hf, Nat.le_refl _⟩
 | f + 1, ks, p, hm, hf => by
  rw [stmtsF]
  split
  ·exact ⟨hf, Nat.le_refl _⟩
  ·obtain ⟨a1, a2⟩ := hs p hm hf
   obtain ⟨b1, b2⟩ := Fs.stmts hs f (ks ++ [(st p).1]) (st p).2 (by omega) a1
   exact ⟨b1, Nat.le_trans b2 a2⟩
theorem Fs.block {T : List Tk} {m : Nat} {st : PS → Nd × PS} (hs : Fs T m st) : Fs T m (blockB st) := fun p hm hf => by
 obtain ⟨a1, a2⟩ := Fs.need hf [123]
 obtain ⟨b1, b2⟩ := Fs.stmts hs ((p.need [123]).l.length + 1) [] (p.need [123]) (by omega) a1
 obtain ⟨c1, c2⟩ := Fs.need b1 [125]
 exact ⟨c1, Nat.le_trans c2 (Nat.le_trans b2 a2)⟩
theorem Fs.exprO {T : List Tk} (hg : GoodT T) (m : Nat) : Fs T m fun q => exprP true (q.l.length + 1) q := fun q _ f => Fs.expr hg (q.l.length + 1) q (Nat.lt_succ_self _) f
theorem RR.exprO {s : Str} {T : List Tk} (c : Ctx s T) (m : Nat) : RR s T m 170 fun q => exprP true (q.l.length + 1) q :=
 ⟨fun q _ f => (RR.expr c (q.l.length + 1)).ok q (Nat.lt_succ_self _) f, Fs.exprO c.hg m⟩
def asgP (ex : PS → Nd × PS) (p : PS) : Nd × PS :=
 if p.peek.take 1 = [36] then (.mk 9 (localP p).1 0 [(ex ((localP p).2.need [61])).1], (ex ((localP p).2.need [61])).2)
 else (.mk 10 [] 0 [(placeP p).1, (ex ((placeP p).2.need [61])).1], (ex ((placeP p).2.need [61])).2)
def brP (ex bl : PS → Nd × PS) (k : Int) (p : PS) : Nd × PS :=
 if k = 11 ∧ (bl (ex (p.took p.peek)).2).2.is sElse = true then
  (.mk k [] 0 [(ex (p.took p.peek)).1, (bl (ex (p.took p.peek)).2).1, (bl ((bl (ex (p.took p.peek)).2).2.took sElse)).1], (bl ((bl (ex (p.took p.peek)).2).2.took sElse)).2)
 else (.mk k [] 0 [(ex (p.took p.peek)).1, (bl (ex (p.took p.peek)).2).1], (bl (ex (p.took p.peek)).2).2)
theorem RBlock_ok (s : Str) (T : List Tk) (c : Ctx s T) (p : PS) (n : Nat) (st : PS → Nd × PS) (hS : RR s T n 118 st) (hE : Eats n st) (hn : p.l.length < n) (f : Fit T p) : OkG Tryz.prog 86 [.bx 0 0] (prH s T p) (prH s T (blockB st p).2) (.d (blockB st p).1.d) := by
 unfold prH
 have htt := c.ht
 have hpT := f.le
 refine OkG.cell hT Tryz.func86 (by kernel_rfl) (c := _) rfl Tryz.ntmps86 (by simp) Tryz.results86 fun w0 X hp => ?_
 refine LWp.sz hT hW ?_
 simp
 refine LWp.sz hT hW ?_
 simp
 refine LWp.nlCell (fz := false) (cs := [.d (I64 8), .d (.str []), .d (I64 0), .nl]) 3 3 1022 4 (by decide) ⟨by simp, by simp, by simp, ?_⟩
 simp
 refine LWp.seq ?_
 have hn2 := RWant_ok s T p c f [123] (by simp)
 have gl := Fs.need f [123]
 refine LWp.ro hT hW (fun | 6 => some (.gen ⟨[(0, 0)], [], [], prH s T (p.need [123]), .tup []⟩) | _ => none) ?_
 simp
 refine ⟨hn2, ?_⟩
 refine LWp.seq ?_
 refine LWp.block ?_
 refine LWp.loopW (ι := BlS) (fun ⟨f, ks, q⟩ => mkEnv [(0, .bx 0 0), (2, .bx 2 0), (3, .bx 3 0)]) (fun ⟨f, ks, q⟩ => mkObs [(0, .box false [.d (.str s), .d (.sl (T.map Tk.r)), .d (I64 ((T.length : Int) - q.l.length)), .d (.bool (!decide (q.e = 0))), .d (.bool (decide (q.e = 5)))]), (2, .box false [.d (I64 0), .d (.str []), .d (I64 0), .nl]), (3, .box false [.d (I64 8), .d (.str []), .d (I64 0), .ow 1022 0 ks.length]), (1022, .row false 4 (ks.map Nd.d))]) (fun ⟨f, ks, q⟩ => (q.e = 0 → q.l.length < f) ∧ Fit T q ∧ q.l.length ≤ p.l.length ∧ ks.length + q.l.length ≤ p.l.length + (if q.e = 0 then 0 else 1) ∧ stmtsF st ((p.need [123]).l.length + 1) [] (p.need [123]) = stmtsF st f ks q) (fun ⟨f, ks, q⟩ => 2 * q.l.length + (if q.e = 0 then 1 else 0)) ⟨(p.need [123]).l.length + 1, [], p.need [123]⟩ (Weak.to [0, 2, 3] [(0, 0), (2, 2), (3, 3), (1022, 1022)] (by decide) (by decide) (by simp [hp]) (by simp) (by simp)) (⟨fun _ => Nat.lt_succ_self _, gl.1, gl.2, by have := gl.2; simp only [List.length_nil]; omega, rfl⟩) fun ⟨f, ks, q⟩ hi3 => ?_
 refine LWp.seq ?_
 refine LWp.seq ?_
 have hpk := RLook_ok s T q c hi3.2.1
 refine LWp.ro hT hW (fun | 14 => some (.gen ⟨[(0, 0)], [], [], prH s T q, .d (.str q.peek)⟩) | _ => none) ?_
 simp [upds_then]
 refine ⟨fun _ => hpk, ?_⟩
 refine LWp.iff ?_
 simp
 refine ⟨fun g1 g2 => ?_, fun g => ?_⟩
 ·refine LWp.skip ?_
  simp
  refine LWp.block ?_
  have ha : q.l.length ≤ p.l.length := hi3.2.2.1
  have hk : ks.length + q.l.length ≤ p.l.length := by have z := hi3.2.2.2.1; simp only [g1, if_true] at z; omega
  have hs := hS.ok q (by omega) hi3.2.1
  have hle := hS.fs q (by omega) hi3.2.1
  have heat := hE q (by omega) (hi3.2.1.good c) g1
  refine LWp.regAny hT hW hMixed (lk [[],[0],[],[2],[2,3],[0,1,2,3,4],[0,1,2,3,4,5],[0,1,2,3,4,5,6]]) (lk [[0,21],[0,21],[],[],[],[],[],[]]) (lk [[],[],[],[0],[21],[22,1022],[],[3]]) (by kernel_rfl) (fun | 20 => some (.gen ⟨[(0, 0)], [], [], prH s T (st q).2, .d (st q).1.d⟩) | _ => none) (by intro d; first | exact ⟨rfl, fun _ h => h⟩ | (split <;> exact ⟨rfl, fun _ h => h⟩)) ?_
  simp
  refine ⟨⟨by simpa using hs, by omega, by omega⟩, ?_⟩
  refine loopQ.mk ⟨f - 1, ks ++ [(st q).1], (st q).2⟩ (Weak.to [0, 2, 3] [(0, 0), (2, 2), (3, 3), (22, 1022)] (by decide) (by decide) (by simp [hp]) (by simp) (by simp)) ?_ ?_
  ·refine ⟨fun e => ?_, hle.1, ?_, ?_, ?_⟩
   ·show (st q).2.l.length < f - 1
    have z := hi3.1 g1
    rcases heat with h | h
    ·exact absurd e h
    ·omega
   ·show (st q).2.l.length ≤ p.l.length
    omega
   ·show (ks ++ [(st q).1]).length + (st q).2.l.length ≤ p.l.length + (if (st q).2.e = 0 then 0 else 1)
    rw [List.length_append, List.length_singleton]
    by_cases e : (st q).2.e = 0
    ·rw [if_pos e]
     rcases heat with h | h
     ·exact absurd e h
     ·omega
    ·rw [if_neg e]; omega
   ·rw [hi3.2.2.2.2]; exact stmts_go (hi3.1 g1) g1 g2
  ·show 2 * (st q).2.l.length + (if (st q).2.e = 0 then 1 else 0) < 2 * q.l.length + (if q.e = 0 then 1 else 0)
   rw [if_pos g1]
   by_cases e : (st q).2.e = 0
   ·rw [if_pos e]
    rcases heat with h | h
    ·exact absurd e h
    ·omega
   ·rw [if_neg e]; omega
 ·refine LWp.exit ?_
  simp
  refine LWp.seq ?_
  have hn5 := RWant_ok s T q c hi3.2.1 [125] (by simp)
  refine LWp.ro hT hW (fun | 25 => some (.gen ⟨[(0, 0)], [], [], prH s T (q.need [125]), .tup []⟩) | _ => none) ?_
  simp
  refine ⟨hn5, ?_⟩
  refine LWp.sz hT hW ?_
  simp
  refine LWp.ret ?_
  simp
  have e : blockB st p = (.mk 8 [] 0 ks, q.need [125]) := by unfold blockB; simp only []; rw [hi3.2.2.2.2, stmts_end g]
  refine Weak.closed (x := (blockB st p).1.d) (by simp [e]) ?_
  simp
  exact Weak.to [0] [(0, 0)] (by decide) (by decide) (by simp [hp]) (by simp) (by simp [e])
theorem RR.block {s : Str} {T : List Tk} (c : Ctx s T) {n : Nat} {st : PS → Nd × PS} (hS : RR s T n 118 st) (hE : Eats n st) : RR s T n 86 (blockB st) :=
 ⟨fun q hq f => RBlock_ok s T c q n st hS hE hq f, Fs.block hS.fs⟩
theorem RAssign_ok (s : Str) (T : List Tk) (c : Ctx s T) (p : PS) (w : Str) (hw : p.peek = w) (n : Nat) (ex : PS → Nd × PS) (hE : RR s T n 170 ex) (hn : p.l.length < n) (f : Fit T p) : OkG Tryz.prog 171 [.bx 0 0, .d (.str w)] (prH s T p) (prH s T (asgP ex p).2) (.d (asgP ex p).1.d) := by
 unfold prH
 have gp := f.good c
 refine OkG.cell hT Tryz.func171 (by kernel_rfl) (c := _) rfl Tryz.ntmps171 (by simp) Tryz.results171 fun w0 X hp => ?_
 refine LWp.sz hT hW ?_
 simp
 refine LWp.seq ?_
 refine LWp.sz hT hW ?_
 simp
 refine LWp.iff ?_
 simp
 refine ⟨fun g1 g2 => ?_, fun g => ?_⟩
 ·have gd : p.peek.take 1 = [36] := at0.2 ⟨by rw [hw]; omega, by rw [hw]; exact g2⟩
  refine LWp.seq ?_
  have hlo := RLocal_ok s T p c f
  have gl := (localP_good gp).1
  refine LWp.ro hT hW (fun | 16 => some (.gen ⟨[(0, 0)], [], [], prH s T (localP p).2, .d (.str (localP p).1)⟩) | _ => none) ?_
  simp
  refine ⟨hlo, ?_⟩
  refine LWp.seq ?_
  have hne := RWant_ok s T (localP p).2 c f.local [61] (by simp)
  have gn := Fs.need f.local [61]
  refine LWp.ro hT hW (fun | 19 => some (.gen ⟨[(0, 0)], [], [], prH s T ((localP p).2.need [61]), .tup []⟩) | _ => none) ?_
  simp
  refine ⟨hne, ?_⟩
  refine LWp.seq ?_
  have hx := hE.ok ((localP p).2.need [61]) (by omega) gn.1
  refine LWp.regAny hT hW hMixed (lk [[],[0],[],[2],[2,3],[0,1,2,3,4],[0,1,2,3,4,5],[0,1,2,3,4,5,6]]) (lk [[0,24],[0,24],[],[],[],[],[],[]]) (lk [[],[],[],[0],[24],[25],[],[5]]) (by kernel_rfl) (fun | 23 => some (.gen ⟨[(0, 0)], [], [], prH s T (ex ((localP p).2.need [61])).2, .d (ex ((localP p).2.need [61])).1.d⟩) | _ => none) (by intro d; first | exact ⟨rfl, fun _ h => h⟩ | (split <;> exact ⟨rfl, fun _ h => h⟩)) ?_
  simp
  refine ⟨by simpa using hx, ?_⟩
  refine LWp.sz hT hW ?_
  simp
  refine LWp.ret ?_
  simp
  have e : asgP ex p = (.mk 9 (localP p).1 0 [(ex ((localP p).2.need [61])).1], (ex ((localP p).2.need [61])).2) := if_pos gd
  refine Weak.closed (x := (asgP ex p).1.d) (by simp [e]) ?_
  simp
  exact Weak.to [0] [(0, 0)] (by decide) (by decide) (by simp [hp]) (by simp) (by simp [e])
 ·have gd : ¬ p.peek.take 1 = [36] := fun z => by have y := at0.1 z; rw [hw] at y; have := g (by omega); omega
  refine LWp.skip ?_
  simp
  refine LWp.sz hT hW ?_
  simp
  refine LWp.seq ?_
  have hpl := RPlace_ok s T p c f
  have gl := (placeP_rt (p.l.length + 1) p (Nat.lt_succ_self _) gp).1
  refine LWp.regAny hT hW hMixed (lk [[],[0],[],[2],[2,3],[0,1,2,3,4],[0,1,2,3,4,5],[0,1,2,3,4,5,6]]) (lk [[0,33],[0,33],[],[],[],[],[],[]]) (lk [[],[],[],[0],[33],[34],[],[6]]) (by kernel_rfl) (fun | 32 => some (.gen ⟨[(0, 0)], [], [], prH s T (placeP p).2, .d (placeP p).1.d⟩) | _ => none) (by intro d; first | exact ⟨rfl, fun _ h => h⟩ | (split <;> exact ⟨rfl, fun _ h => h⟩)) ?_
  simp
  refine ⟨by simpa using hpl, ?_⟩
  refine LWp.seq ?_
  have hne := RWant_ok s T (placeP p).2 c f.place [61] (by simp)
  have gn := Fs.need f.place [61]
  refine LWp.ro hT hW (fun | 37 => some (.gen ⟨[(0, 0)], [], [], prH s T ((placeP p).2.need [61]), .tup []⟩) | _ => none) ?_
  simp
  refine ⟨hne, ?_⟩
  refine LWp.seq ?_
  have hx := hE.ok ((placeP p).2.need [61]) (by omega) gn.1
  refine LWp.regAny hT hW hMixed (lk [[],[0],[],[2],[2,3],[0,1,2,3,4],[0,1,2,3,4,5],[0,1,2,3,4,5,6]]) (lk [[0,42],[0,42],[],[],[],[],[],[]]) (lk [[],[],[],[0],[42],[43,34],[],[6]]) (by kernel_rfl) (fun | 41 => some (.gen ⟨[(0, 0)], [], [], prH s T (ex ((placeP p).2.need [61])).2, .d (ex ((placeP p).2.need [61])).1.d⟩) | _ => none) (by intro d; first | exact ⟨rfl, fun _ h => h⟩ | (split <;> exact ⟨rfl, fun _ h => h⟩)) ?_
  simp
  refine ⟨by simpa using hx, ?_⟩
  refine LWp.sz hT hW ?_
  simp
  refine LWp.ret ?_
  simp
  have e : asgP ex p = (.mk 10 [] 0 [(placeP p).1, (ex ((placeP p).2.need [61])).1], (ex ((placeP p).2.need [61])).2) := if_neg gd
  refine Weak.closed (x := (asgP ex p).1.d) (by simp [e]) ?_
  simp
  exact Weak.to [0] [(0, 0)] (by decide) (by decide) (by simp [hp]) (by simp) (by simp [e])
end
open Go.Proofs
section
attribute [local simp] Res.cond Nd.d_eq nd_t nd_dr nd_td ndsD evalIndex retGC_ret upds_same prH fail2_0 fail5_0 fail2_5 fail_l skip_e
theorem took_when {s : Str} {T : List Tk} {c : Prop} [Decidable c] {f : Nat → LObj} {a b : PS} {x : Nat} (h : f 0 = .box false [.d (.str s), .d (.sl (T.map Tk.r)), .d (I64 ((T.length : Int) - b.l.length)), .d (.bool (!decide (b.e = 0))), .d (.bool (decide (b.e = 5)))]) :
  upds f (if c then [(0, .box false [.d (.str s), .d (.sl (T.map Tk.r)), .d (I64 ((T.length : Int) - a.l.length)), .d (.bool (!decide (a.e = 0))), .d (.bool (decide (a.e = 5)))])] else []) x =
   if x = 0 then .box false [.d (.str s), .d (.sl (T.map Tk.r)), .d (I64 ((T.length : Int) - (if c then a else b).l.length)), .d (.bool (!decide ((if c then a else b).e = 0))), .d (.bool (decide ((if c then a else b).e = 5)))] else f x := by
 by_cases hc : c
 ·simp only [hc, if_true, upds, upd]
 ·simp only [hc, if_false, upds]
  split
  ·rename_i e; rw [e]; exact h
  ·rfl
def sWhile : Str := [119, 104, 105, 108, 101]
theorem br_else {ex bl : PS → Nd × PS} {k : Int} {p : PS} (hs : p.took p.peek = p.skip) (h : k = 11) (he : (bl (ex p.skip).2).2.is sElse = true) :
  brP ex bl k p = (.mk k [] 0 [(ex p.skip).1, (bl (ex p.skip).2).1, (bl ((bl (ex p.skip).2).2.took sElse)).1], (bl ((bl (ex p.skip).2).2.took sElse)).2) := by
 unfold brP; rw [hs, if_pos ⟨h, he⟩]
theorem br_not {ex bl : PS → Nd × PS} {k : Int} {p : PS} (hs : p.took p.peek = p.skip) (he : k = 11 → (bl (ex p.skip).2).2.is sElse = false) :
  brP ex bl k p = (.mk k [] 0 [(ex p.skip).1, (bl (ex p.skip).2).1], (bl (ex p.skip).2).2) := by
 unfold brP; rw [hs, if_neg (fun z => by rw [he z.1] at z; exact absurd z.2 (by simp))]
set_option maxRecDepth 10000 in
theorem RBranch_ok (s : Str) (T : List Tk) (c : Ctx s T) (p : PS) (w : Str) (k : Int) (hk : k = 11 ∨ k = 12) (hw : w = sWhile ↔ k = 12) (hpk : p.peek ≠ []) (n : Nat) (ex bl : PS → Nd × PS) (hE : RR s T (n + 1) 170 ex) (hB : RR s T n 86 bl) (hn : p.l.length < n + 1) (f : Fit T p) : OkG Tryz.prog 146 [.bx 0 0, .d (.str w)] (prH s T p) (prH s T (brP ex bl k p).2) (.d (brP ex bl k p).1.d) := by
 unfold prH
 have htt := c.ht
 have hsk := skip_at (T := T) hpk
 have hps := f.pos hpk
 have htk : p.took p.peek = p.skip := took_is (is_iff.2 ⟨hpk, rfl⟩)
 have hl := peek_len hpk
 have fx := hE.fs p.skip (by omega) f.skip
 have fb := hB.fs (ex p.skip).2 (by omega) fx.1
 refine OkG.cell hT Tryz.func146 (by kernel_rfl) (c := _) rfl Tryz.ntmps146 (by simp) Tryz.results146 fun w0 X hp => ?_
 refine LWp.sz hT hW ?_
 simp
 refine LWp.sz hT hW ?_
 simp
 refine ⟨by omega, ?_⟩
 simp only [← hsk]
 refine LWp.sz hT hW ?_
 simp
 refine LWp.seqCut (ι := KC6) (fun ⟨j⟩ => mkEnv [(0, .bx 0 0), (4, .bx 4 0), (5, .bx 5 0)]) (fun ⟨j⟩ => mkObs [(0, .box false [.d (.str s), .d (.sl (T.map Tk.r)), .d (I64 ((T.length : Int) - p.skip.l.length)), .d (.bool (!decide (p.e = 0))), .d (.bool (decide (p.e = 5)))]), (4, .box false [.d (I64 0), .d (.str []), .d (I64 0), .nl]), (5, .box false [.d (I64 j), .d (.str []), .d (I64 0), .nl])]) (fun ⟨j⟩ => k = j) ?_ fun ⟨j⟩ hc5 => ?_
 ·refine LWp.sz hT hW ?_
  simp
  refine LWp.iff ?_
  simp
  refine ⟨fun h3 => ?_, fun h3 => ?_⟩
  ·have ek : k = 12 := hw.1 h3
   refine LWp.rz hT hW ?_
   simp
   refine cutQ.mk ⟨12⟩ (Weak.to [0, 4, 5] [(0, 0), (4, 4), (5, 5)] (by decide) (by decide) (by simp [hp]) (by simp) (by simp)) ?_
   exact ek
  ·have ek : k = 11 := hk.resolve_right fun z => h3 (hw.2 z)
   refine LWp.skip ?_
   simp
   refine cutQ.mk ⟨11⟩ (Weak.to [0, 4, 5] [(0, 0), (4, 4), (5, 5)] (by decide) (by decide) (by simp [hp]) (by simp) (by simp)) ?_
   exact ek
 ·refine LWp.seq ?_
  have hj : k = j := hc5
  subst hj
  have he := hE.ok p.skip (by omega) f.skip
  rw [Nd.d_eq] at he
  refine LWp.regAny hT hW hMixed (lk [[],[0],[],[2],[2,3],[0,1,2,3,4],[0,1,2,3,4,5],[0,1,2,3,4,5,6]]) (lk [[0,21],[0,21],[],[],[],[],[],[]]) (lk [[],[],[],[0],[21],[22],[],[5]]) (by kernel_rfl) (fun | 20 => some (.gen ⟨[(0, 0)], [], [], prH s T (ex p.skip).2, .d (ex p.skip).1.d⟩) | _ => none) (by intro d; first | exact ⟨rfl, fun _ h => h⟩ | (split <;> exact ⟨rfl, fun _ h => h⟩)) ?_
  simp
  refine ⟨he, ?_⟩
  refine LWp.seq ?_
  have hb := hB.ok (ex p.skip).2 (by omega) fx.1
  refine LWp.regAny hT hW hMixed (lk [[],[0],[],[2],[2,3],[0,1,2,3,4],[0,1,2,3,4,5],[0,1,2,3,4,5,6]]) (lk [[0,28],[0,28],[],[],[],[],[],[]]) (lk [[],[],[],[0],[28],[29,22],[],[5]]) (by kernel_rfl) (fun | 27 => some (.gen ⟨[(0, 0)], [], [], prH s T (bl (ex p.skip).2).2, .d (bl (ex p.skip).2).1.d⟩) | _ => none) (by intro d; first | exact ⟨rfl, fun _ h => h⟩ | (split <;> exact ⟨rfl, fun _ h => h⟩)) ?_
  simp
  refine ⟨by simpa using hb, ?_⟩
  refine LWp.seq ?_
  refine LWp.seq ?_
  have ht := RIs_ok s T (bl (ex p.skip).2).2 c fb.1 sElse (by decide)
  refine LWp.ro hT hW (fun | 36 => some (.gen ⟨[(0, 0)], [], [], prH s T ((bl (ex p.skip).2).2.took sElse), .d (.bool ((bl (ex p.skip).2).2.is sElse))⟩) | _ => none) ?_
  simp [took_when (b := (bl (ex p.skip).2).2)]
  refine ⟨fun _ => ht, ?_⟩
  refine LWp.iff ?_
  simp
  refine ⟨fun g3 g4 => ?_, fun g3 => ?_⟩
  ·simp only [g3, if_true]
   have lt : ((bl (ex p.skip).2).2.took sElse).l.length ≤ (bl (ex p.skip).2).2.l.length := took_le
   have hb2 := hB.ok ((bl (ex p.skip).2).2.took sElse) (by omega) fb.1.took
   refine LWp.regAny hT hW hMixed (lk [[],[0],[],[2],[2,3],[0,1,2,3,4],[0,1,2,3,4,5],[0,1,2,3,4,5,6]]) (lk [[0,42],[0,42],[],[],[],[],[],[]]) (lk [[],[],[],[0],[42],[43,29],[],[5]]) (by kernel_rfl) (fun | 41 => some (.gen ⟨[(0, 0)], [], [], prH s T (bl ((bl (ex p.skip).2).2.took sElse)).2, .d (bl ((bl (ex p.skip).2).2.took sElse)).1.d⟩) | _ => none) (by intro d; first | exact ⟨rfl, fun _ h => h⟩ | (split <;> exact ⟨rfl, fun _ h => h⟩)) ?_
   simp
   refine ⟨by simpa using hb2, ?_⟩
   refine LWp.sz hT hW ?_
   simp
   refine LWp.ret ?_
   simp
   subst g3
   have e := br_else (ex := ex) (bl := bl) htk rfl g4
   refine Weak.closed (x := (brP ex bl 11 p).1.d) (by simp [e]) ?_
   simp
   exact Weak.to [0] [(0, 0)] (by decide) (by decide) (by simp [hp]) (by simp) (by simp [e])
  ·have eq : (if k = 11 then (bl (ex p.skip).2).2.took sElse else (bl (ex p.skip).2).2) = (bl (ex p.skip).2).2 := by
    split
    ·rename_i z
     exact took_not (by simp [g3 z])
    ·rfl
   simp only [eq]
   refine LWp.skip ?_
   simp
   refine LWp.sz hT hW ?_
   simp
   refine LWp.ret ?_
   simp
   have e := br_not (ex := ex) (bl := bl) htk g3
   refine Weak.closed (x := (brP ex bl k p).1.d) (by simp [e]) ?_
   simp
   exact Weak.to [0] [(0, 0)] (by decide) (by decide) (by simp [hp]) (by simp) (by simp [e])
def smpP (ex : PS → Nd × PS) (p : PS) : Nd × PS := if 12 < kindP p.peek then cmdP ex (kindP p.peek) (p.took p.peek) else asgP ex p
theorem kind_of {w : Str} (h : 0 ≤ kindP w) : wordAt (kindP w) = w ∧ kindP w < 26 := by
 unfold kindP wordI at h ⊢
 split at h
 ·omega
 ·rename_i hw
  rw [if_neg hw]
  cases e : (List.range 26).find? (fun i => decide (wordsL.getD i [] = w)) with
  | none => rw [e] at h; simp at h
  | some i =>
   have h1 := List.find?_some e
   have h2 := List.mem_range.1 (List.mem_of_find?_eq_some e)
   simp only [decide_eq_true_eq] at h1
   exact ⟨h1, by simp only; omega⟩
theorem cmdA_name {k : Int} {p : PS} (h : ¬ (k = 19 ∨ k = 20)) (h2 : ¬ (k = 21 ∨ k = 25 ∨ k = 24)) : cmdA k p = nameP p := by unfold cmdA; rw [if_neg h, if_neg h2]
theorem cmdA_loc {k : Int} {p : PS} (h : k = 19 ∨ k = 20) : cmdA k p = localP p := by unfold cmdA; rw [if_pos h]
theorem cmdA_none {k : Int} {p : PS} (h : k = 21 ∨ k = 25 ∨ k = 24) : cmdA k p = ([], p) := by unfold cmdA; rw [if_neg (by omega), if_pos h]
set_option maxRecDepth 10000 in
theorem RSimple_ok (s : Str) (T : List Tk) (c : Ctx s T) (p : PS) (w : Str) (hw : p.peek = w) (n : Nat) (ex : PS → Nd × PS) (hE : RR s T n 170 ex) (hn : p.l.length < n) (f : Fit T p) : OkG Tryz.prog 147 [.bx 0 0, .d (.str w)] (prH s T p) (prH s T (smpP ex p).2) (.d (smpP ex p).1.d) := by
 unfold prH
 have htt := c.ht
 have hst := RStarts_ok
 have q2 := glob0_len
 refine OkG.cell hT Tryz.func147 (by kernel_rfl) (c := _) rfl Tryz.ntmps147 (by simp) Tryz.results147 fun w0 X hp => ?_
 refine LWp.sz hT hW ?_
 simp
 refine LWp.sz hT hW ?_
 simp
 refine LWp.seqCut (ι := Nat) (fun i => mkEnv [(0, .bx 0 0), (1, .d (.str w)), (4, .bx 4 0), (5, .d (I64 (i : Int)))]) (fun i => mkObs [(0, .box false [.d (.str s), .d (.sl (T.map Tk.r)), .d (I64 ((T.length : Int) - p.l.length)), .d (.bool (!decide (p.e = 0))), .d (.bool (decide (p.e = 5)))]), (4, .box false [.d (I64 0), .d (.str []), .d (I64 0), .nl])]) (fun i => 13 ≤ i ∧ i ≤ 26 ∧ (∀ j : Nat, 13 ≤ j → j < i → wordAt (j : Int) ≠ w) ∧ ((i : Int) < 26 → wordAt (i : Int) = w)) ?_ fun i hc4 => ?_
 ·refine LWp.block ?_
  refine LWp.loopW (ι := Nat) (fun i => mkEnv [(0, .bx 0 0), (1, .d (.str w)), (4, .bx 4 0), (5, .d (I64 (i : Int)))]) (fun i => mkObs [(0, .box false [.d (.str s), .d (.sl (T.map Tk.r)), .d (I64 ((T.length : Int) - p.l.length)), .d (.bool (!decide (p.e = 0))), .d (.bool (decide (p.e = 5)))]), (4, .box false [.d (I64 0), .d (.str []), .d (I64 0), .nl])]) (fun i => 13 ≤ i ∧ i ≤ 26 ∧ ∀ j : Nat, 13 ≤ j → j < i → wordAt (j : Int) ≠ w) (fun i => 26 - i) 13 (Weak.to [0, 1, 4, 5] [(0, 0), (4, 4)] (by decide) (by decide) (by simp [hp]) (by simp) (by simp)) (⟨Nat.le_refl _, by decide, fun j h1 h2 => absurd h2 (by omega)⟩) fun i hi2 => ?_
  refine LWp.seq ?_
  refine LWp.seq ?_
  rcases (by have := hi2.2.1; omega : ¬ (i : Int) < 26 ∨ (i : Int) < 26) with h26 | h26
  ·refine LWp.reg hT hW (fun _ => none) (by intro d; first | exact ⟨rfl, fun _ h => h⟩ | (split <;> exact ⟨rfl, fun _ h => h⟩)) ?_
   simp [h26]
   refine LWp.iff ?_
   simp [h26]
   refine LWp.exit ?_
   simp
   refine cutQ.mk i (Weak.to [0, 1, 4, 5] [(0, 0), (4, 4)] (by decide) (by decide) (by simp [hp]) (by simp) (by simp)) ?_
   exact ⟨hi2.1, hi2.2.1, hi2.2.2, fun z => absurd z h26⟩
  ·have q1 := word_at (k := (i : Int)) (by omega) h26
   rw [Int.toNat_natCast] at q1
   refine LWp.ro hT hW (fun | 10 => some <| .plain ⟨.d (.sl glob0), true⟩ | _ => none) ?_
   simp [h26, q1]
   refine ⟨⟨hst, by have := hi2.2.1; omega⟩, ?_⟩
   refine LWp.iff ?_
   simp
   refine ⟨fun h2 => ?_, fun h2 => ?_⟩
   ·refine LWp.skip ?_
    simp
    refine LWp.block ?_
    refine LWp.rz hT hW ?_
    simp
    refine ⟨by omega, ?_⟩
    refine loopQ.mk (i + 1) (Weak.to [0, 1, 4, 5] [(0, 0), (4, 4)] (by decide) (by decide) (by simp [hp]) (by simp) (by simp)) ?_ ?_
    ·refine ⟨by omega, by omega, fun j z1 z2 => ?_⟩
     by_cases e : j = i
     ·rw [e]; exact h2
     ·exact hi2.2.2 j z1 (by omega)
    ·omega
   ·refine LWp.exit ?_
    simp
    refine cutQ.mk i (Weak.to [0, 1, 4, 5] [(0, 0), (4, 4)] (by decide) (by decide) (by simp [hp]) (by simp) (by simp)) ?_
    exact ⟨hi2.1, hi2.2.1, hi2.2.2, fun _ => h2⟩
 ·refine LWp.seq ?_
  refine LWp.sz hT hW ?_
  simp
  refine LWp.iff ?_
  simp
  refine ⟨fun h4 => ?_, fun h4 => ?_⟩
  ·have hlow : ¬ 12 < kindP p.peek := fun z => by
    obtain ⟨z1, z2⟩ := kind_of (w := p.peek) (by omega)
    refine hc4.2.2.1 (kindP p.peek).toNat (by omega) (by omega) ?_
    rw [Int.toNat_of_nonneg (by omega), z1, hw]
   have esm : smpP ex p = asgP ex p := if_neg hlow
   refine LWp.seq ?_
   have ha := RAssign_ok s T c p w hw n ex hE hn f
   refine LWp.ro hT hW (fun | 23 => some (.gen ⟨[(0, 0)], [], [], prH s T (asgP ex p).2, .d (asgP ex p).1.d⟩) | _ => none) ?_
   simp
   refine ⟨by simpa using ha, ?_⟩
   refine LWp.ret ?_
   simp
   exact Weak.to [0] [(0, 0)] (by decide) (by decide) (by simp [hp]) (by simp [esm]) (by simp [esm])
  ·have hi : 13 ≤ i ∧ i ≤ 25 := by have := hc4.1; have := hc4.2.1; omega
   have hwi := hc4.2.2.2 (by omega)
   have hki : kindP p.peek = (i : Int) := by rw [hw, ← hwi]; exact kind_word (by omega)
   have hpk : p.peek ≠ [] := fun e => by rw [kind_nil e] at hki; omega
   have hsk := skip_at (T := T) hpk
   have hps := f.pos hpk
   have htk : p.took p.peek = p.skip := took_is (is_iff.2 ⟨hpk, rfl⟩)
   have esm : smpP ex p = cmdP ex (i : Int) p.skip := by unfold smpP; rw [hki, htk, if_pos (by omega)]
   have hl := peek_len hpk
   have fsk := f.skip
   refine LWp.skip ?_
   simp
   refine LWp.sz hT hW ?_
   simp
   refine ⟨by omega, ?_⟩
   simp only [← hsk]
   refine LWp.sz hT hW ?_
   simp
   refine LWp.seq ?_
   refine LWp.sz hT hW ?_
   simp
   refine LWp.block ?_
   refine LWp.seqCut (ι := BC) (fun ⟨b⟩ => mkEnv [(0, .bx 0 0), (4, .bx 4 0), (6, .bx 6 0), (33, .d (I64 (i : Int))), (34, .d (.bool b))]) (fun ⟨b⟩ => mkObs [(0, .box false [.d (.str s), .d (.sl (T.map Tk.r)), .d (I64 ((T.length : Int) - p.skip.l.length)), .d (.bool (!decide (p.e = 0))), .d (.bool (decide (p.e = 5)))]), (4, .box false [.d (I64 0), .d (.str []), .d (I64 0), .nl]), (6, .box false [.d (I64 (i : Int)), .d (.str []), .d (I64 0), .nl])]) (fun ⟨b⟩ => b = true ↔ ((i : Int) = 13 ∨ (i : Int) = 14 ∨ (i : Int) = 17 ∨ (i : Int) = 18)) ?_ fun ⟨b⟩ hc13 => ?_
   ·refine LWp.sz hT hW ?_
    simp
    refine LWp.iff ?_
    simp
    refine ⟨fun h9 => ?_, fun h9 => ?_⟩
    ·refine LWp.skip ?_
     simp
     refine cutQ.mk ⟨decide ((i : Int) = 13)⟩ (Weak.to [0, 4, 6, 33, 34] [(0, 0), (4, 4), (6, 6)] (by decide) (by decide) (by simp [hp]) (by simp) (by simp)) ?_
     simp [h9]
    ·refine LWp.sz hT hW ?_
     simp
     refine LWp.iff ?_
     simp
     refine ⟨fun h10 => ?_, fun h10 => ?_⟩
     ·refine LWp.skip ?_
      simp
      refine cutQ.mk ⟨decide ((i : Int) = 14)⟩ (Weak.to [0, 4, 6, 33, 34] [(0, 0), (4, 4), (6, 6)] (by decide) (by decide) (by simp [hp]) (by simp) (by simp)) ?_
      simp [h10]
     ·refine LWp.sz hT hW ?_
      simp
      refine LWp.iff ?_
      simp
      refine ⟨fun h11 => ?_, fun h11 => ?_⟩
      ·refine LWp.skip ?_
       simp
       refine cutQ.mk ⟨decide ((i : Int) = 17)⟩ (Weak.to [0, 4, 6, 33, 34] [(0, 0), (4, 4), (6, 6)] (by decide) (by decide) (by simp [hp]) (by simp) (by simp)) ?_
       simp [h11]
      ·refine LWp.rz hT hW ?_
       simp
       refine cutQ.mk ⟨decide ((i : Int) = 18)⟩ (Weak.to [0, 4, 6, 33, 34] [(0, 0), (4, 4), (6, 6)] (by decide) (by decide) (by simp [hp]) (by simp) (by simp)) ?_
       simp only [decide_eq_true_eq]; omega
   ·refine LWp.iff ?_
    simp
    refine ⟨fun h13 => ?_, fun h13 => ?_⟩
    ·have q13 := hc13.1 h13
     have hna := RName_ok s T p.skip c fsk
     refine LWp.ro hT hW (fun | 40 => some (.gen ⟨[(0, 0)], [], [], prH s T (nameP p.skip).2, .d (.str (nameP p.skip).1)⟩) | _ => none) ?_
     simp
     refine ⟨hna, ?_⟩
     refine LWp.sz hT hW ?_
     simp
     refine LWp.ret ?_
     simp
     have e := cmd_plain (ex := ex) (k := (i : Int)) (p := p.skip) (by omega) (by omega) (by omega)
     rw [cmdA_name (by omega) (by omega)] at e
     refine Weak.closed (x := (smpP ex p).1.d) (by simp [esm, e]) ?_
     simp
     exact Weak.to [0] [(0, 0)] (by decide) (by decide) (by simp [hp]) (by simp) (by simp [esm, e])
    ·have q13 : ¬ ((i : Int) = 13 ∨ (i : Int) = 14 ∨ (i : Int) = 17 ∨ (i : Int) = 18) := fun q => by simp [hc13.2 q] at h13
     refine LWp.seqCut (ι := BC) (fun ⟨b⟩ => mkEnv [(0, .bx 0 0), (4, .bx 4 0), (6, .bx 6 0), (33, .d (I64 (i : Int))), (42, .d (.bool b))]) (fun ⟨b⟩ => mkObs [(0, .box false [.d (.str s), .d (.sl (T.map Tk.r)), .d (I64 ((T.length : Int) - p.skip.l.length)), .d (.bool (!decide (p.e = 0))), .d (.bool (decide (p.e = 5)))]), (4, .box false [.d (I64 0), .d (.str []), .d (I64 0), .nl]), (6, .box false [.d (I64 (i : Int)), .d (.str []), .d (I64 0), .nl])]) (fun ⟨b⟩ => b = true ↔ ((i : Int) = 15 ∨ (i : Int) = 22)) ?_ fun ⟨b⟩ hc16 => ?_
     ·refine LWp.sz hT hW ?_
      simp
      refine LWp.iff ?_
      simp
      refine ⟨fun h14 => ?_, fun h14 => ?_⟩
      ·refine LWp.skip ?_
       simp
       refine cutQ.mk ⟨decide ((i : Int) = 15)⟩ (Weak.to [0, 4, 6, 33, 42] [(0, 0), (4, 4), (6, 6)] (by decide) (by decide) (by simp [hp]) (by simp) (by simp)) ?_
       simp [h14]
      ·refine LWp.rz hT hW ?_
       simp
       refine cutQ.mk ⟨decide ((i : Int) = 22)⟩ (Weak.to [0, 4, 6, 33, 42] [(0, 0), (4, 4), (6, 6)] (by decide) (by decide) (by simp [hp]) (by simp) (by simp)) ?_
       simp only [decide_eq_true_eq]; omega
     ·refine LWp.iff ?_
      simp
      refine ⟨fun h16 => ?_, fun h16 => ?_⟩
      ·have q16 := hc16.1 h16
       refine LWp.seq ?_
       have hna := RName_ok s T p.skip c fsk
       have gl := (nameP_good (fsk.good c)).1
       refine LWp.ro hT hW (fun | 46 => some (.gen ⟨[(0, 0)], [], [], prH s T (nameP p.skip).2, .d (.str (nameP p.skip).1)⟩) | _ => none) ?_
       simp
       refine ⟨hna, ?_⟩
       have hx := hE.ok (nameP p.skip).2 (by omega) fsk.name
       refine LWp.regAny hT hW hMixed (lk [[],[0],[],[2],[2,3],[0,1,2,3,4],[0,1,2,3,4,5],[0,1,2,3,4,5,6]]) (lk [[0,52],[0,52],[],[],[],[],[],[]]) (lk [[],[],[],[0],[52],[53],[],[6]]) (by kernel_rfl) (fun | 51 => some (.gen ⟨[(0, 0)], [], [], prH s T (ex (nameP p.skip).2).2, .d (ex (nameP p.skip).2).1.d⟩) | _ => none) (by intro d; first | exact ⟨rfl, fun _ h => h⟩ | (split <;> exact ⟨rfl, fun _ h => h⟩)) ?_
       simp
       refine ⟨by simpa using hx, ?_⟩
       refine LWp.sz hT hW ?_
       simp
       refine LWp.ret ?_
       simp
       have e := cmd_ex (ex := ex) (k := (i : Int)) (p := p.skip) (by omega)
       rw [cmdA_name (by omega) (by omega)] at e
       refine Weak.closed (x := (smpP ex p).1.d) (by simp [esm, e]) ?_
       simp
       exact Weak.to [0] [(0, 0)] (by decide) (by decide) (by simp [hp]) (by simp) (by simp [esm, e])
      ·have q16 : ¬ ((i : Int) = 15 ∨ (i : Int) = 22) := fun q => by simp [hc16.2 q] at h16
       refine LWp.seqCut (ι := BC) (fun ⟨b⟩ => mkEnv [(0, .bx 0 0), (4, .bx 4 0), (6, .bx 6 0), (33, .d (I64 (i : Int))), (55, .d (.bool b))]) (fun ⟨b⟩ => mkObs [(0, .box false [.d (.str s), .d (.sl (T.map Tk.r)), .d (I64 ((T.length : Int) - p.skip.l.length)), .d (.bool (!decide (p.e = 0))), .d (.bool (decide (p.e = 5)))]), (4, .box false [.d (I64 0), .d (.str []), .d (I64 0), .nl]), (6, .box false [.d (I64 (i : Int)), .d (.str []), .d (I64 0), .nl])]) (fun ⟨b⟩ => b = true ↔ ((i : Int) = 16 ∨ (i : Int) = 23)) ?_ fun ⟨b⟩ hc20 => ?_
       ·refine LWp.sz hT hW ?_
        simp
        refine LWp.iff ?_
        simp
        refine ⟨fun h18 => ?_, fun h18 => ?_⟩
        ·refine LWp.skip ?_
         simp
         refine cutQ.mk ⟨decide ((i : Int) = 16)⟩ (Weak.to [0, 4, 6, 33, 55] [(0, 0), (4, 4), (6, 6)] (by decide) (by decide) (by simp [hp]) (by simp) (by simp)) ?_
         simp [h18]
        ·refine LWp.rz hT hW ?_
         simp
         refine cutQ.mk ⟨decide ((i : Int) = 23)⟩ (Weak.to [0, 4, 6, 33, 55] [(0, 0), (4, 4), (6, 6)] (by decide) (by decide) (by simp [hp]) (by simp) (by simp)) ?_
         simp only [decide_eq_true_eq]; omega
       ·refine LWp.iff ?_
        simp
        refine ⟨fun h20 => ?_, fun h20 => ?_⟩
        ·have q20 := hc20.1 h20
         refine LWp.seq ?_
         have hna := RName_ok s T p.skip c fsk
         refine LWp.ro hT hW (fun | 59 => some (.gen ⟨[(0, 0)], [], [], prH s T (nameP p.skip).2, .d (.str (nameP p.skip).1)⟩) | _ => none) ?_
         simp
         refine ⟨hna, ?_⟩
         have hlo := RLocal_ok s T (nameP p.skip).2 c fsk.name
         refine LWp.regAny hT hW hMixed (lk [[],[0],[],[2],[2,3],[2,3,4],[0,1,2,3,4,5],[0,1,2,3,4,5,6],[0,1,2,3,4,5,6,7]]) (lk [[0,66],[0,66],[],[],[],[],[],[],[]]) (lk [[],[],[],[0],[],[66],[67],[],[6]]) (by kernel_rfl) (fun | 64 => some (.gen ⟨[(0, 0)], [], [], prH s T (localP (nameP p.skip).2).2, .d (.str (localP (nameP p.skip).2).1)⟩) | _ => none) (by intro d; first | exact ⟨rfl, fun _ h => h⟩ | (split <;> exact ⟨rfl, fun _ h => h⟩)) ?_
         simp
         refine ⟨hlo, ?_⟩
         refine LWp.sz hT hW ?_
         simp
         refine LWp.ret ?_
         simp
         have e := cmd_loc (ex := ex) (k := (i : Int)) (p := p.skip) (by omega) (by omega)
         rw [cmdA_name (by omega) (by omega)] at e
         refine Weak.closed (x := (smpP ex p).1.d) (by simp [esm, e]) ?_
         simp
         exact Weak.to [0] [(0, 0)] (by decide) (by decide) (by simp [hp]) (by simp) (by simp [esm, e])
        ·have q20 : ¬ ((i : Int) = 16 ∨ (i : Int) = 23) := fun q => by simp [hc20.2 q] at h20
         refine LWp.sz hT hW ?_
         simp
         refine LWp.iff ?_
         simp
         refine ⟨fun h22 => ?_, fun h22 => ?_⟩
         ·refine LWp.seq ?_
          have hlo := RLocal_ok s T p.skip c fsk
          refine LWp.ro hT hW (fun | 72 => some (.gen ⟨[(0, 0)], [], [], prH s T (localP p.skip).2, .d (.str (localP p.skip).1)⟩) | _ => none) ?_
          simp
          refine ⟨hlo, ?_⟩
          have hnu := RNumeral_ok s T (localP p.skip).2 c fsk.local (i : Int) 2 6 (.inl (by rw [h22]; rfl)) (by rw [h22]; rfl)
          refine LWp.ro hT hW (fun | 75 => some (.gen ⟨[(0, 0)], [], [], prH s T (numeralP (i : Int) (localP p.skip).2).2, .d (I64 (numeralP (i : Int) (localP p.skip).2).1)⟩) | _ => none) ?_
          simp
          refine ⟨hnu, ?_⟩
          refine LWp.sz hT hW ?_
          simp
          refine LWp.ret ?_
          simp
          have e := cmd_num (ex := ex) (k := (i : Int)) (p := p.skip) (by omega) (by omega) (by omega)
          rw [cmdA_loc (by omega)] at e
          refine Weak.closed (x := (smpP ex p).1.d) (by simp [esm, e]) ?_
          simp
          exact Weak.to [0] [(0, 0)] (by decide) (by decide) (by simp [hp]) (by simp) (by simp [esm, e])
         ·refine LWp.sz hT hW ?_
          simp
          refine LWp.iff ?_
          simp
          refine ⟨fun h25 => ?_, fun h25 => ?_⟩
          ·have hlo := RLocal_ok s T p.skip c fsk
           refine LWp.ro hT hW (fun | 80 => some (.gen ⟨[(0, 0)], [], [], prH s T (localP p.skip).2, .d (.str (localP p.skip).1)⟩) | _ => none) ?_
           simp
           refine ⟨hlo, ?_⟩
           refine LWp.sz hT hW ?_
           simp
           refine LWp.ret ?_
           simp
           have e := cmd_plain (ex := ex) (k := (i : Int)) (p := p.skip) (by omega) (by omega) (by omega)
           rw [cmdA_loc (by omega)] at e
           refine Weak.closed (x := (smpP ex p).1.d) (by simp [esm, e]) ?_
           simp
           exact Weak.to [0] [(0, 0)] (by decide) (by decide) (by simp [hp]) (by simp) (by simp [esm, e])
          ·refine LWp.sz hT hW ?_
           simp
           refine LWp.iff ?_
           simp
           refine ⟨fun h27 => ?_, fun h27 => ?_⟩
           ·have hnu := RNumeral_ok s T p.skip c fsk (i : Int) 1 9 (.inl (by rw [h27]; rfl)) (by rw [h27]; rfl)
            refine LWp.ro hT hW (fun | 85 => some (.gen ⟨[(0, 0)], [], [], prH s T (numeralP (i : Int) p.skip).2, .d (I64 (numeralP (i : Int) p.skip).1)⟩) | _ => none) ?_
            simp
            refine ⟨hnu, ?_⟩
            refine LWp.sz hT hW ?_
            simp
            refine LWp.ret ?_
            simp
            have e := cmd_num (ex := ex) (k := (i : Int)) (p := p.skip) (by omega) (by omega) (by omega)
            rw [cmdA_none (by omega)] at e
            refine Weak.closed (x := (smpP ex p).1.d) (by simp [esm, e]) ?_
            simp
            exact Weak.to [0] [(0, 0)] (by decide) (by decide) (by simp [hp]) (by simp) (by simp [esm, e])
           ·refine LWp.sz hT hW ?_
            simp
            refine LWp.iff ?_
            simp
            refine ⟨fun h29 => ?_, fun h29 => ?_⟩
            ·have hnu := RNumeral_ok s T p.skip c fsk (i : Int) 1 99 (.inl (by rw [h29]; rfl)) (by rw [h29]; rfl)
             refine LWp.ro hT hW (fun | 90 => some (.gen ⟨[(0, 0)], [], [], prH s T (numeralP (i : Int) p.skip).2, .d (I64 (numeralP (i : Int) p.skip).1)⟩) | _ => none) ?_
             simp
             refine ⟨hnu, ?_⟩
             refine LWp.sz hT hW ?_
             simp
             refine LWp.ret ?_
             simp
             have e := cmd_num (ex := ex) (k := (i : Int)) (p := p.skip) (by omega) (by omega) (by omega)
             rw [cmdA_none (by omega)] at e
             refine Weak.closed (x := (smpP ex p).1.d) (by simp [esm, e]) ?_
             simp
             exact Weak.to [0] [(0, 0)] (by decide) (by decide) (by simp [hp]) (by simp) (by simp [esm, e])
            ·refine LWp.sz hT hW ?_
             simp
             refine LWp.iff ?_
             simp
             refine ⟨fun h31 => ?_, fun h31 => ?_⟩
             ·have hx := hE.ok p.skip (by omega) fsk
              rw [Nd.d_eq] at hx
              refine LWp.regAny hT hW hMixed (lk [[],[0],[],[2],[2,3],[0,1,2,3,4],[0,1,2,3,4,5],[0,1,2,3,4,5,6]]) (lk [[0,98],[0,98],[],[],[],[],[],[]]) (lk [[],[],[],[0],[98],[99],[],[6]]) (by kernel_rfl) (fun | 97 => some (.gen ⟨[(0, 0)], [], [], prH s T (ex p.skip).2, .d (ex p.skip).1.d⟩) | _ => none) (by intro d; first | exact ⟨rfl, fun _ h => h⟩ | (split <;> exact ⟨rfl, fun _ h => h⟩)) ?_
              simp
              refine ⟨hx, ?_⟩
              refine LWp.sz hT hW ?_
              simp
              refine LWp.ret ?_
              simp
              have e := cmd_ex (ex := ex) (k := (i : Int)) (p := p.skip) (by omega)
              rw [cmdA_none (by omega)] at e
              refine Weak.closed (x := (smpP ex p).1.d) (by simp [esm, e]) ?_
              simp
              exact Weak.to [0] [(0, 0)] (by decide) (by decide) (by simp [hp]) (by simp) (by simp [esm, e])
             ·refine LWp.skip ?_
              simp
              refine LWp.sz hT hW ?_
              simp
              refine LWp.ret ?_
              exact absurd (show False by omega) id
theorem Fs.asg {T : List Tk} (hg : GoodT T) {n : Nat} {ex : PS → Nd × PS} (hx : Fs T n ex) : Fs T n (asgP ex) := fun p h f => by
 have gp := f.goodT hg
 unfold asgP
 split
 ·obtain ⟨a1, a2⟩ := Fs.need f.local [61]
  have l1 := (localP_good gp).1
  obtain ⟨b1, b2⟩ := hx ((localP p).2.need [61]) (by omega) a1
  exact ⟨b1, by simp only; omega⟩
 ·obtain ⟨a1, a2⟩ := Fs.need f.place [61]
  have l1 := (placeP_rt (p.l.length + 1) p (Nat.lt_succ_self _) gp).1
  obtain ⟨b1, b2⟩ := hx ((placeP p).2.need [61]) (by omega) a1
  exact ⟨b1, by simp only; omega⟩
theorem Fs.cmdA {T : List Tk} (hg : GoodT T) {k : Int} {p : PS} (f : Fit T p) : Fit T (cmdA k p).2 ∧ (cmdA k p).2.l.length ≤ p.l.length := by
 have gp := f.goodT hg
 refine ⟨?_, (cmdA_good gp).1⟩
 unfold Go.Eng.cmdA
 split
 ·exact f.local
 ·split
  ·exact f
  ·exact f.name
theorem Fs.cmd {T : List Tk} (hg : GoodT T) {n : Nat} {ex : PS → Nd × PS} (hx : Fs T n ex) (k : Int) : Fs T n (cmdP ex k) := fun p h f => by
 obtain ⟨a1, a2⟩ := Fs.cmdA (k := k) hg f
 have ga := a1.goodT hg
 by_cases h1 : k = 15 ∨ k = 22 ∨ k = 24
 ·rw [cmd_ex h1]
  obtain ⟨b1, b2⟩ := hx _ (by omega) a1
  exact ⟨b1, by simp only; omega⟩
 ·by_cases h2 : k = 16 ∨ k = 23
  ·rw [cmd_loc h1 h2]
   have := (localP_good ga).1
   exact ⟨a1.local, by simp only; omega⟩
  ·by_cases h3 : k = 19 ∨ k = 21 ∨ k = 25
   ·rw [cmd_num h1 h2 h3]
    have := (numeralP_good (k := k) ga).1
    exact ⟨a1.numeral, by simp only; omega⟩
   ·rw [cmd_plain h1 h2 h3]
    exact ⟨a1, a2⟩
theorem Fs.smp {T : List Tk} (hg : GoodT T) {n : Nat} {ex : PS → Nd × PS} (hx : Fs T n ex) : Fs T n (smpP ex) := fun p h f => by
 unfold smpP
 split
 ·have l1 := took_le (p := p) (w := p.peek)
  obtain ⟨a1, a2⟩ := Fs.cmd hg hx (kindP p.peek) (p.took p.peek) (by omega) f.took
  exact ⟨a1, by omega⟩
 ·exact Fs.asg hg hx p h f
theorem stmt_br {ex bl : PS → Nd × PS} {p : PS} (h : kindP p.peek = 11 ∨ kindP p.peek = 12) : stmtB ex bl p = brP ex bl (kindP p.peek) p := by
 unfold brP
 split
 ·rename_i z
  exact st_else rfl z.1 z.2
 ·rename_i z
  refine st_if rfl h fun q => ?_
  cases e : (bl (ex (p.took p.peek)).2).2.is sElse with
  | false => rfl
  | true => exact absurd ⟨q, e⟩ z
theorem stmt_smp {ex bl : PS → Nd × PS} {p : PS} (h : ¬ (kindP p.peek = 11 ∨ kindP p.peek = 12)) : stmtB ex bl p = ((smpP ex p).1, (smpP ex p).2.need [59]) := by
 unfold smpP
 by_cases h2 : 12 < kindP p.peek
 ·rw [if_pos h2, st_cmd rfl h2]
 ·rw [if_neg h2]
  unfold asgP
  by_cases h3 : p.peek.take 1 = [36]
  ·rw [if_pos h3, st_local rfl h h2 h3]
  ·rw [if_neg h3, st_place rfl h h2 h3]
theorem Fs.stmtB {T : List Tk} (hg : GoodT T) {n : Nat} {ex bl : PS → Nd × PS} (hx : Fs T (n + 1) ex) (hb : Fs T n bl) : Fs T (n + 1) (stmtB ex bl) := fun p h f => by
 by_cases hk : kindP p.peek = 11 ∨ kindP p.peek = 12
 ·rw [stmt_br hk]
  have l0 := took_len (kind_pos (p := p) (by omega))
  obtain ⟨a1, a2⟩ := hx (p.took p.peek) (by omega) f.took
  obtain ⟨b1, b2⟩ := hb (ex (p.took p.peek)).2 (by omega) a1
  unfold brP
  split
  ·have l2 := took_le (p := (bl (ex (p.took p.peek)).2).2) (w := sElse)
   obtain ⟨c1, c2⟩ := hb ((bl (ex (p.took p.peek)).2).2.took sElse) (by omega) b1.took
   exact ⟨c1, by simp only; omega⟩
  ·exact ⟨b1, by simp only; omega⟩
 ·rw [stmt_smp hk]
  obtain ⟨a1, a2⟩ := Fs.smp hg hx p h f
  obtain ⟨b1, b2⟩ := Fs.need a1 [59]
  exact ⟨b1, by simp only; omega⟩
theorem kind11 {w : Str} : w = [105, 102] ↔ kindP w = 11 := by
 constructor
 ·rintro rfl; decide
 ·intro h
  have := (kind_of (w := w) (by omega)).1
  rw [h] at this
  exact this.symm
theorem kind12 {w : Str} : w = sWhile ↔ kindP w = 12 := by
 constructor
 ·rintro rfl; decide
 ·intro h
  have := (kind_of (w := w) (by omega)).1
  rw [h] at this
  exact this.symm
theorem RStmtP_step (s : Str) (T : List Tk) (c : Ctx s T) (p : PS) (n : Nat) (ex bl : PS → Nd × PS) (hE : RR s T (n + 1) 170 ex) (hB : RR s T n 86 bl) (hn : p.l.length < n + 1) (f : Fit T p) : OkG Tryz.prog 118 [.bx 0 0] (prH s T p) (prH s T (stmtB ex bl p).2) (.d (stmtB ex bl p).1.d) := by
 unfold prH
 refine OkG.cell hT Tryz.func118 (by kernel_rfl) (c := _) rfl Tryz.ntmps118 (by simp) Tryz.results118 fun w0 X hp => ?_
 refine LWp.sz hT hW ?_
 simp
 refine LWp.so hT hW (fun | 6 => some (.gen ⟨[(0, 0)], [], [], prH s T p, .d (.str p.peek)⟩) | _ => none) ?_
 simp
 refine ⟨RLook_ok s T p c f, ?_⟩
 refine LWp.seq ?_
 refine LWp.sz hT hW ?_
 simp
 refine LWp.iff ?_
 simp
 refine ⟨fun g => ?_, fun g1 g2 => ?_⟩
 ·have hk : kindP p.peek = 11 ∨ kindP p.peek = 12 := g.imp kind11.1 kind12.1
  have es := stmt_br (ex := ex) (bl := bl) hk
  have hpk : p.peek ≠ [] := fun e => by rw [kind_nil e] at hk; omega
  refine LWp.seq ?_
  have hbr := RBranch_ok s T c p p.peek (kindP p.peek) hk kind12 hpk n ex bl hE hB hn f
  refine LWp.ro hT hW (fun | 15 => some (.gen ⟨[(0, 0)], [], [], prH s T (brP ex bl (kindP p.peek) p).2, .d (brP ex bl (kindP p.peek) p).1.d⟩) | _ => none) ?_
  simp
  refine ⟨by simpa using hbr, ?_⟩
  refine LWp.ret ?_
  simp
  exact Weak.to [0] [(0, 0)] (by decide) (by decide) (by simp [hp]) (by simp [es]) (by simp [es])
 ·have hk : ¬ (kindP p.peek = 11 ∨ kindP p.peek = 12) := fun z => z.elim (fun y => g1 (kind11.2 y)) (fun y => g2 (kind12.2 y))
  have es := stmt_smp (ex := ex) (bl := bl) hk
  refine LWp.skip ?_
  simp
  refine LWp.seq ?_
  have hsm := RSimple_ok s T c p p.peek rfl (n + 1) ex hE hn f
  have fm := Fs.smp c.hg hE.fs p hn f
  refine LWp.ro hT hW (fun | 18 => some (.gen ⟨[(0, 0)], [], [], prH s T (smpP ex p).2, .d (smpP ex p).1.d⟩) | _ => none) ?_
  simp
  refine ⟨by simpa using hsm, ?_⟩
  refine LWp.seq ?_
  have hw5 := RWant_ok s T (smpP ex p).2 c fm.1 [59] (by simp)
  refine LWp.ro hT hW (fun | 20 => some (.gen ⟨[(0, 0)], [], [], prH s T ((smpP ex p).2.need [59]), .tup []⟩) | _ => none) ?_
  simp
  refine ⟨hw5, ?_⟩
  refine LWp.sz hT hW ?_
  simp
  refine LWp.ret ?_
  simp
  exact Weak.to [0] [(0, 0)] (by decide) (by decide) (by simp [hp]) (by simp [es]) (by simp [es])
theorem stmt_same (n : Nat) (q : PS) : (stmtP false n q).2 = (stmtP true n q).2 := (stmtP_rl n q).1
theorem Eats.stmtF : ∀ n : Nat, Eats n (stmtP false n)
 | 0 => fun q h _ _ => absurd h (Nat.not_lt_zero _)
 | n + 1 => stmtB_eats (exprO_stk false) (blockB_stk (stmtP_stk false n)) (exprO_rt (n + 1)) (blockB_rt (stmtP_stk false n) (stmtP_rt n))
theorem Eats.stmtT (n : Nat) : Eats n (stmtP true n) := fun q h g e => by
 rw [← stmt_same]; exact Eats.stmtF n q h g e
theorem RR.stmt {s : Str} {T : List Tk} (c : Ctx s T) : ∀ n : Nat, RR s T n 118 (stmtP true n)
 | 0 => ⟨fun q h _ => absurd h (Nat.not_lt_zero _), fun q h _ => absurd h (Nat.not_lt_zero _)⟩
 | n + 1 => by
  have hB := RR.block c (RR.stmt c n) (Eats.stmtT n)
  have hE := RR.exprO c (n + 1)
  exact ⟨fun q hq f => RStmtP_step s T c q n _ _ hE hB hq f, Fs.stmtB c.hg hE.fs hB.fs⟩
theorem RR.blockT {s : Str} {T : List Tk} (c : Ctx s T) (n : Nat) : RR s T n 86 (blockP true n) := RR.block c (RR.stmt c n) (Eats.stmtT n)
end
open Go.Proofs
section
attribute [local simp] Res.cond Nd.d_eq nd_t nd_dr nd_td ndsD evalIndex retGC_ret tksD psH upds_same
attribute [local simp] constL1 one_i one_s one_l all4
theorem exprO_reads (n : Nat) : Reads n 140 (fun q => exprP false (q.l.length + 1) q) :=
 ⟨fun q _ hg => (Reads.expr (q.l.length + 1)).ok q (Nat.lt_succ_self _) hg, fun q hq hg => (exprO_rt n).le q hq hg⟩
theorem stmtP_eats : ∀ n, Eats n (stmtP false n)
 | 0 => fun q h => absurd h (Nat.not_lt_zero _)
 | n + 1 => stmtB_eats (exprO_stk false) (blockB_stk (stmtP_stk false n)) (exprO_rt (n + 1)) (blockB_rt (stmtP_stk false n) (stmtP_rt n))
theorem Reads.stmt : ∀ n : Nat, n ≤ 1100000 → Reads n 114 (stmtP false n)
 | 0, _ => ⟨fun q h _ => absurd h (Nat.not_lt_zero _), fun q h _ => absurd h (Nat.not_lt_zero _)⟩
 | n + 1, h => by
  have hB : Reads n 77 (blockB (stmtP false n)) :=
   ⟨fun q hq hg => block_ok q n (stmtP false n) (Reads.stmt n (by omega)) (stmtP_eats n) hq hg (by omega), fun q hq hg => (blockB_rt (stmtP_stk false n) (stmtP_rt n)).le q hq hg⟩
  refine ⟨fun q hq hg => ?_, fun q hq hg => (stmtP_rt (n + 1)).le q hq hg⟩
  exact stmt_rstep q n (fun q => exprP false (q.l.length + 1) q) (blockB (stmtP false n)) (exprO_reads (n + 1)) hB hq hg
theorem Reads.block (n : Nat) (h : n ≤ 1100000) : Reads n 77 (blockP false n) :=
 ⟨fun q hq hg => block_ok q n (stmtP false n) (Reads.stmt n h) (stmtP_eats n) hq hg (by omega), fun q hq hg => (blockB_rt (stmtP_stk false n) (stmtP_rt n)).le q hq hg⟩
theorem def_idx (s : Str) : defKind s = idxI (fun x => decide (s = x)) (wordsL.take 7) := by
 unfold defKind
 have e2 : (fun i => decide (wordsL.getD i [] = s)) = fun i => decide (s = wordsL.getD i []) := by funext i; rw [decide_eq_decide]; exact eq_comm
 have e := range_find (fun x => decide (s = x)) [] (wordsL.take 7)
 split
 ·rename_i h; subst h; rfl
 ·unfold idxI
  rw [← e]
  rw [e2]
  rfl
theorem def_range {s : Str} : -1 ≤ defKind s ∧ defKind s ≤ 6 := by
 unfold defKind
 split
 ·omega
 ·split
  ·rename_i i e
   have := List.mem_of_find?_eq_some e
   simp at this
   omega
  ·omega
theorem def_word {s : Str} (h : 0 ≤ defKind s) : wordAt (defKind s) = s ∧ s ≠ [] := by
 unfold defKind at *
 split at h
 ·omega
 ·rename_i hs
  split at h
  ·rename_i i e
   have := List.find?_some e
   simp only [decide_eq_true_eq] at this
   rw [if_neg hs]
   exact ⟨this, hs⟩
  ·omega
theorem def_neg {p : PS} (h : defKind p.peek < 0) : defP false p = (.mk 0 [] 0 [], p.fail 2) := by unfold defP; simp only []; rw [if_pos h]
theorem def_skip {p : PS} (h : ¬ defKind p.peek < 0) : p.skip = p.took (wordAt (defKind p.peek)) := by
 obtain ⟨h1, h2⟩ := def_word (s := p.peek) (by omega)
 rw [h1, took_is (is_iff.2 ⟨h2, rfl⟩)]
section
variable {p q : PS} {t : Str} {k : Int} (hk : defKind p.peek = k) (h : ¬ k < 0) (hn : nameP (p.took (wordAt k)) = (t, q))
include hk h hn
theorem def_block (h5 : k = 5 ∨ k = 6) : defP false p = (.mk k t 0 [(blockP false (q.l.length + 1) q).1], (blockP false (q.l.length + 1) q).2) := by
 subst hk
 unfold defP; simp only []; rw [if_neg h, def_skip h, hn, if_pos h5]
theorem def_rec (h1 : k = 1) : defP false p = (.mk k t 0 (itemsF ((q.need [123]).l.length + 1) [] (q.need [123])).1, (itemsF ((q.need [123]).l.length + 1) [] (q.need [123])).2.need [125]) := by
 subst hk
 unfold defP; simp only []; rw [if_neg h, def_skip h, hn, if_neg (by omega), if_pos h1]
theorem def_var (h1 : k = 0) : defP false p = (.mk k t (numberP (q.need [61])).1 [], (numberP (q.need [61])).2.need [59]) := by
 subst hk
 unfold defP; simp only []; rw [if_neg h, def_skip h, hn, if_neg (by omega), if_neg (by omega), if_pos h1]
theorem def_chan (h1 : k = 2) : defP false p = (.mk k t (numeralP 2 q).1 [], (numeralP 2 q).2.need [59]) := by
 subst hk
 unfold defP; simp only []; rw [if_neg h, def_skip h, hn, if_neg (by omega), if_neg (by omega), if_neg (by omega), if_pos h1]
theorem def_else (h1 : ¬ (k = 5 ∨ k = 6)) (h2 : ¬ k = 1) (h3 : ¬ k = 0) (h4 : ¬ k = 2) : defP false p = (.mk k t 0 [], q.need [59]) := by
 subst hk
 unfold defP; simp only []; rw [if_neg h, def_skip h, hn, if_neg h1, if_neg h2, if_neg h3, if_neg h4]
end
theorem items_end {ks : List Nd} {q : PS} (h : q.e = 0 → q.peek = [125]) : ∀ f, itemsF f ks q = (ks, q)
 | 0 => rfl
 | f + 1 => by
  rw [itemsF, if_pos]
  by_cases e : q.e = 0
  ·exact .inr (h e)
  ·exact .inl e
theorem items_go {ks : List Nd} {q : PS} {f : Nat} (hf : q.l.length < f) (h : q.e = 0) (hp : ¬ q.peek = [125]) :
  itemsF f ks q = itemsF (f - 1) (ks ++ [.mk 7 (nameP q).1 (numberP ((nameP q).2.need [61])).1 []]) ((numberP ((nameP q).2.need [61])).2.need [59]) := by
 obtain ⟨k, rfl⟩ : ∃ k, f = k + 1 := ⟨f - 1, by omega⟩
 rw [itemsF, if_neg]
 ·rfl
 ·rintro (e | e)
  ·exact e h
  ·exact hp e
theorem item_eats {q : PS} (h : GoodT q.l) : ((numberP ((nameP q).2.need [61])).2.need [59]).l.length ≤ q.l.length ∧ GoodT ((numberP ((nameP q).2.need [61])).2.need [59]).l ∧
  (((numberP ((nameP q).2.need [61])).2.need [59]).e = 0 → ((numberP ((nameP q).2.need [61])).2.need [59]).l.length < q.l.length) := by
 have g1 := nameP_good h
 have g2 := good_need (s := [61]) g1.2.1
 have g3 := numberP_good g2.2
 have g4 := good_need (s := [59]) g3.2.1
 refine ⟨by omega, g4.2, fun e => ?_⟩
 have e1 := (need_e e).1
 have l1 := is_len e1
 have : (numberP ((nameP q).2.need [61])).2.need [59] = (numberP ((nameP q).2.need [61])).2.skip := by rw [need_is e1, took_is e1]
 rw [this]
 omega
theorem glob0_cells : ∀ x ∈ List.take 26 glob0, (cellsD x).length = 1 := by
 intro x hx
 rw [glob0_take] at hx
 obtain ⟨a, _, rfl⟩ := List.mem_map.1 hx
 rfl
theorem glob0_take7 : List.take 7 glob0 = (wordsL.take 7).map DV.str := rfl
structure DnS where
 n : Int
 q : PS
theorem def_ok (p : PS) (hg : GoodT p.l) (hb : p.l.length ≤ 1000000) : OkG Tryz.prog 52 [.bx 0 0] (psH p) (psH (defP false p).2) (.d (defP false p).1.d) := by
 unfold psH
 refine OkG.cell hT Tryz.func52 (by kernel_rfl) (c := _) rfl Tryz.ntmps52 (by simp) Tryz.results52 fun w0 X hp => ?_
 refine LWp.sz hT hW ?_
 simp
 refine LWp.seq ?_
 have hi := IndexOfStr_ok (wordsL.take 7) p.peek
 have q2 := glob0_len
 rw [← def_idx] at hi
 have hr := def_range (s := p.peek)
 refine LWp.regAny hT hW hMixed (lk [[],[],[1],[0,1,2],[0,1,2,3]]) (lk [[0],[],[],[],[]]) (lk [[],[],[0],[],[]]) (by kernel_rfl) (fun | 8 => some (.gen ⟨[(0, 0)], [], [], psH p, .d (.str p.peek)⟩) | 9 => some <| .plain ⟨.d (I64 (defKind p.peek)), true⟩ | _ => none) (by intro d; first | exact ⟨rfl, fun _ h => h⟩ | (split <;> exact ⟨rfl, fun _ h => h⟩)) ?_
 simp [glob0_take7]
 refine ⟨⟨⟨⟨by omega, glob0_cells⟩, peek_ok p⟩, by simpa using hi⟩, ?_⟩
 refine LWp.seq ?_
 refine LWp.so hT hW (fun | 14 => some (.gen ⟨[(0, 0)], [], [], psH p, .d (.str p.peek)⟩) | _ => none) ?_
 simp [upds_then]
 refine ⟨fun _ => peek_ok p, ?_⟩
 refine LWp.iff ?_
 simp
 refine ⟨fun h2 => ?_, fun h2 h2b => ?_⟩
 ·have h2 : defKind p.peek < 0 := by
   rcases h2 with h | h
   ·exact h
   ·rw [h]; decide
  refine LWp.so hT hW (fun | 18 => some (.gen ⟨[(0, 0)], [], [], psH (p.fail 2), .tup []⟩) | _ => none) ?_
  simp
  refine ⟨fail_ok p 2, ?_⟩
  refine LWp.sz hT hW ?_
  simp
  refine LWp.ret ?_
  simp
  have e := def_neg h2
  refine Weak.closed (x := (defP false p).1.d) (by simp [e]) ?_
  simp
  exact Weak.to [0] [(0, 0)] (by decide) (by decide) (by simp [hp]) (by simp) (by simp [e])
 ·have hlt : ¬ defKind p.peek < 0 := by omega
  refine LWp.skip ?_
  simp
  refine LWp.seq ?_
  have hlt : ¬ defKind p.peek < 0 := by omega
  have wat := word_at (k := defKind p.peek) (by omega) (by omega)
  have htk := take_ok p (wordAt (defKind p.peek))
  refine LWp.ro hT hW (fun | 24 => some (.gen ⟨[(0, 0)], [], [], psH (p.took (wordAt (defKind p.peek))), .d (.bool (p.is (wordAt (defKind p.peek))))⟩) | _ => none) ?_
  simp [wat]
  refine ⟨⟨⟨by omega, by omega⟩, htk⟩, ?_⟩
  refine LWp.seq ?_
  have hna := name_ok (p.took (wordAt (defKind p.peek)))
  have gt := good_took (s := wordAt (defKind p.peek)) hg
  have gl := nameP_good gt
  have lt : (p.took (wordAt (defKind p.peek))).l.length ≤ p.l.length := by unfold PS.took; split; exact skip_len; exact Nat.le_refl _
  refine LWp.ro hT hW (fun | 27 => some (.gen ⟨[(0, 0)], [], [], psH (nameP (p.took (wordAt (defKind p.peek)))).2, .d (.str (nameP (p.took (wordAt (defKind p.peek)))).1)⟩) | _ => none) ?_
  simp
  refine ⟨hna, ?_⟩
  obtain ⟨k, hk⟩ : ∃ k, defKind p.peek = k := ⟨_, rfl⟩
  obtain ⟨⟨t, q⟩, hn⟩ : ∃ x, nameP (p.took (wordAt (defKind p.peek))) = x := ⟨_, rfl⟩
  simp only [hn] at gl
  have lq : q.l.length ≤ p.l.length := by omega
  simp only [hn]
  rw [hk] at hlt hn hr ⊢
  refine LWp.seqCut (ι := DnS) (fun ⟨n, r⟩ => mkEnv [(0, .bx 0 0), (2, .bx 2 0), (4, .bx 4 0)]) (fun ⟨n, r⟩ => mkObs [(0, .box false [.d (tksD r.l), .d (I64 r.e)]), (2, .box false [.d (I64 0), .d (.str []), .d (I64 0), .nl]), (4, .box false [.d (I64 k), .d (.str t), .d (I64 n), .nl])]) (fun ⟨n, r⟩ => defP false p = (.mk k t n [], r.need [59])) ?_ fun ⟨n, r⟩ hc27 => ?_
  ·refine LWp.sz hT hW ?_
   simp
   refine LWp.block ?_
   refine LWp.seqCut (ι := BC) (fun ⟨b⟩ => mkEnv [(0, .bx 0 0), (2, .bx 2 0), (4, .bx 4 0), (29, .d (I64 k)), (30, .d (.bool b))]) (fun ⟨b⟩ => mkObs [(0, .box false [.d (tksD q.l), .d (I64 q.e)]), (2, .box false [.d (I64 0), .d (.str []), .d (I64 0), .nl]), (4, .box false [.d (I64 k), .d (.str t), .d (I64 0), .nl])]) (fun ⟨b⟩ => b = true ↔ (k = 5 ∨ k = 6)) ?_ fun ⟨b⟩ hc10 => ?_
   ·refine LWp.sz hT hW ?_
    simp
    refine LWp.iff ?_
    simp
    refine ⟨fun h8 => ?_, fun h8 => ?_⟩
    ·refine LWp.skip ?_
     simp
     refine cutQ.mk ⟨decide (k = 5)⟩ (Weak.to [0, 2, 4, 29, 30] [(0, 0), (2, 2), (4, 4)] (by decide) (by decide) (by simp [hp]) (by simp) (by simp)) ?_
     simp [h8]
    ·refine LWp.rz hT hW ?_
     simp
     refine cutQ.mk ⟨decide (k = 6)⟩ (Weak.to [0, 2, 4, 29, 30] [(0, 0), (2, 2), (4, 4)] (by decide) (by decide) (by simp [hp]) (by simp) (by simp)) ?_
     simp only [decide_eq_true_eq]; omega
   ·refine LWp.iff ?_
    simp
    refine ⟨fun h10 => ?_, fun h10 => ?_⟩
    ·have q10 := hc10.1 h10
     refine LWp.seq ?_
     have hbl := (Reads.block (q.l.length + 1) (by omega)).ok q (Nat.lt_succ_self _) gl.2.1
     refine LWp.ro hT hW (fun | 34 => some (.gen ⟨[(0, 0)], [], [], psH (blockP false (q.l.length + 1) q).2, .d (blockP false (q.l.length + 1) q).1.d⟩) | _ => none) ?_
     simp
     refine ⟨by simpa using hbl, ?_⟩
     refine LWp.sz hT hW ?_
     simp
     refine LWp.ret ?_
     simp
     have e := def_block hk hlt hn q10
     refine Weak.closed (x := (defP false p).1.d) (by simp [e]) ?_
     simp
     exact Weak.to [0] [(0, 0)] (by decide) (by decide) (by simp [hp]) (by simp) (by simp [e])
    ·have q10 : ¬ (k = 5 ∨ k = 6) := fun z => by simp [hc10.2 z] at h10
     refine LWp.sz hT hW ?_
     simp
     refine LWp.iff ?_
     simp
     refine ⟨fun h12 => ?_, fun h12 => ?_⟩
     ·refine LWp.seq ?_
      have hne := need_ok q [123]
      have gn := good_need (s := [123]) gl.2.1
      refine LWp.ro hT hW (fun | 41 => some (.gen ⟨[(0, 0)], [], [], psH (q.need [123]), .tup []⟩) | _ => none) ?_
      simp
      refine ⟨hne, ?_⟩
      refine LWp.nlCell (fz := false) (cs := [.d (I64 k), .d (.str t), .d (I64 0), .nl]) 4 3 1066 4 (by decide) ⟨by simp, by simp, by simp, ?_⟩
      simp
      refine LWp.seq ?_
      refine LWp.block ?_
      refine LWp.loopW (ι := BlS) (fun ⟨f, ks, r⟩ => mkEnv [(0, .bx 0 0), (2, .bx 2 0), (4, .bx 4 0)]) (fun ⟨f, ks, r⟩ => mkObs [(0, .box false [.d (tksD r.l), .d (I64 r.e)]), (2, .box false [.d (I64 0), .d (.str []), .d (I64 0), .nl]), (4, .box false [.d (I64 k), .d (.str t), .d (I64 0), .ow 1066 0 ks.length]), (1066, .row false 4 (ks.map Nd.d))]) (fun ⟨f, ks, r⟩ => (r.e = 0 → r.l.length < f) ∧ GoodT r.l ∧ r.l.length ≤ p.l.length ∧ ks.length + r.l.length ≤ p.l.length + (if r.e = 0 then 0 else 1) ∧ itemsF ((q.need [123]).l.length + 1) [] (q.need [123]) = itemsF f ks r) (fun ⟨f, ks, r⟩ => 2 * r.l.length + (if r.e = 0 then 1 else 0)) ⟨(q.need [123]).l.length + 1, [], q.need [123]⟩ (Weak.to [0, 2, 4] [(0, 0), (2, 2), (4, 4), (1066, 1066)] (by decide) (by decide) (by simp [hp]) (by simp) (by simp)) (⟨fun _ => Nat.lt_succ_self _, gn.2, by have := gn.1; omega, by have := gn.1; simp only [List.length_nil]; omega, rfl⟩) fun ⟨f, ks, r⟩ hi14 => ?_
      refine LWp.seq ?_
      refine LWp.seq ?_
      have hpk := peek_ok r
      refine LWp.ro hT hW (fun | 49 => some (.gen ⟨[(0, 0)], [], [], psH r, .d (.str r.peek)⟩) | _ => none) ?_
      simp [upds_then]
      refine ⟨fun _ => hpk, ?_⟩
      refine LWp.iff ?_
      simp
      refine ⟨fun g1 g2 => ?_, fun g => ?_⟩
      ·refine LWp.skip ?_
       simp
       refine LWp.block ?_
       refine LWp.seq ?_
       have ha : r.l.length ≤ p.l.length := hi14.2.2.1
       have hks : ks.length + r.l.length ≤ p.l.length := by have z := hi14.2.2.2.1; simp only [g1, if_true] at z; omega
       have hle := item_eats (q := r) hi14.2.1
       have hn15 := name_ok r
       have g15 := nameP_good (p := r) hi14.2.1
       have g16 := good_need (s := [61]) g15.2.1
       refine LWp.ro hT hW (fun | 53 => some (.gen ⟨[(0, 0)], [], [], psH (nameP r).2, .d (.str (nameP r).1)⟩) | _ => none) ?_
       simp
       refine ⟨hn15, ?_⟩
       refine LWp.seq ?_
       have hn16 := need_ok (nameP r).2 [61]
       refine LWp.ro hT hW (fun | 56 => some (.gen ⟨[(0, 0)], [], [], psH ((nameP r).2.need [61]), .tup []⟩) | _ => none) ?_
       simp
       refine ⟨hn16, ?_⟩
       refine LWp.seq ?_
       have hn17 := number_ok ((nameP r).2.need [61]) g16.2
       refine LWp.ro hT hW (fun | 58 => some (.gen ⟨[(0, 0)], [], [], psH (numberP ((nameP r).2.need [61])).2, .d (I64 (numberP ((nameP r).2.need [61])).1)⟩) | _ => none) ?_
       simp
       refine ⟨hn17, ?_⟩
       refine LWp.seq ?_
       have hn18 := need_ok (numberP ((nameP r).2.need [61])).2 [59]
       refine LWp.ro hT hW (fun | 61 => some (.gen ⟨[(0, 0)], [], [], psH ((numberP ((nameP r).2.need [61])).2.need [59]), .tup []⟩) | _ => none) ?_
       simp
       refine ⟨hn18, ?_⟩
       refine LWp.rz hT hW ?_
       simp
       refine ⟨⟨by omega, by omega⟩, ?_⟩
       refine loopQ.mk ⟨f - 1, ks ++ [.mk 7 (nameP r).1 (numberP ((nameP r).2.need [61])).1 []], (numberP ((nameP r).2.need [61])).2.need [59]⟩ (Weak.to [0, 2, 4] [(0, 0), (2, 2), (4, 4), (66, 1066)] (by decide) (by decide) (by simp [hp]) (by simp) (by simp)) ?_ ?_
       ·refine ⟨fun e => ?_, hle.2.1, ?_, ?_, ?_⟩
        ·show ((numberP ((nameP r).2.need [61])).2.need [59]).l.length < f - 1
         have z := hi14.1 g1
         have h := hle.2.2 e
         omega
        ·show ((numberP ((nameP r).2.need [61])).2.need [59]).l.length ≤ p.l.length
         omega
        ·show (ks ++ [Nd.mk 7 (nameP r).1 (numberP ((nameP r).2.need [61])).1 []]).length + ((numberP ((nameP r).2.need [61])).2.need [59]).l.length ≤ p.l.length + (if ((numberP ((nameP r).2.need [61])).2.need [59]).e = 0 then 0 else 1)
         rw [List.length_append, List.length_singleton]
         by_cases e : ((numberP ((nameP r).2.need [61])).2.need [59]).e = 0
         ·rw [if_pos e]
          have h := hle.2.2 e
          omega
         ·rw [if_neg e]; omega
        ·rw [hi14.2.2.2.2]; exact items_go (hi14.1 g1) g1 g2
       ·show 2 * ((numberP ((nameP r).2.need [61])).2.need [59]).l.length + (if ((numberP ((nameP r).2.need [61])).2.need [59]).e = 0 then 1 else 0) < 2 * r.l.length + (if r.e = 0 then 1 else 0)
        rw [if_pos g1]
        by_cases e : ((numberP ((nameP r).2.need [61])).2.need [59]).e = 0
        ·rw [if_pos e]
         have h := hle.2.2 e
         omega
        ·rw [if_neg e]; omega
      ·refine LWp.exit ?_
       simp
       refine LWp.seq ?_
       have hn20 := need_ok r [125]
       refine LWp.ro hT hW (fun | 69 => some (.gen ⟨[(0, 0)], [], [], psH (r.need [125]), .tup []⟩) | _ => none) ?_
       simp
       refine ⟨hn20, ?_⟩
       refine LWp.sz hT hW ?_
       simp
       refine LWp.ret ?_
       simp
       have e : defP false p = (.mk k t 0 ks, r.need [125]) := by rw [def_rec hk hlt hn h12, hi14.2.2.2.2, items_end g]
       refine Weak.closed (x := (defP false p).1.d) (by simp [e]) ?_
       simp
       exact Weak.to [0] [(0, 0)] (by decide) (by decide) (by simp [hp]) (by simp) (by simp [e])
     ·refine LWp.sz hT hW ?_
      simp
      refine LWp.iff ?_
      simp
      refine ⟨fun h22 => ?_, fun h22 => ?_⟩
      ·refine LWp.seq ?_
       have hne := need_ok q [61]
       have gn := good_need (s := [61]) gl.2.1
       refine LWp.ro hT hW (fun | 74 => some (.gen ⟨[(0, 0)], [], [], psH (q.need [61]), .tup []⟩) | _ => none) ?_
       simp
       refine ⟨hne, ?_⟩
       have hnu := number_ok (q.need [61]) gn.2
       refine LWp.ro hT hW (fun | 76 => some (.gen ⟨[(0, 0)], [], [], psH (numberP (q.need [61])).2, .d (I64 (numberP (q.need [61])).1)⟩) | _ => none) ?_
       simp
       refine ⟨hnu, ?_⟩
       refine cutQ.mk ⟨(numberP (q.need [61])).1, (numberP (q.need [61])).2⟩ (Weak.to [0, 2, 4] [(0, 0), (2, 2), (4, 4)] (by decide) (by decide) (by simp [hp]) (by simp) (by simp)) ?_
       exact def_var hk hlt hn h22
      ·refine LWp.sz hT hW ?_
       simp
       refine LWp.iff ?_
       simp
       refine ⟨fun h25 => ?_, fun h25 => ?_⟩
       ·have hnu := numeral_ok q 2 gl.2.1 (by decide)
        refine LWp.ro hT hW (fun | 81 => some (.gen ⟨[(0, 0)], [], [], psH (numeralP 2 q).2, .d (I64 (numeralP 2 q).1)⟩) | _ => none) ?_
        simp
        refine ⟨hnu, ?_⟩
        refine cutQ.mk ⟨(numeralP 2 q).1, (numeralP 2 q).2⟩ (Weak.to [0, 2, 4] [(0, 0), (2, 2), (4, 4)] (by decide) (by decide) (by simp [hp]) (by simp) (by simp)) ?_
        exact def_chan hk hlt hn h25
       ·refine LWp.skip ?_
        simp
        refine cutQ.mk ⟨0, q⟩ (Weak.to [0, 2, 4] [(0, 0), (2, 2), (4, 4)] (by decide) (by decide) (by simp [hp]) (by simp) (by simp)) ?_
        exact def_else hk hlt hn q10 h12 h22 h25
  ·refine LWp.seq ?_
   have hne := need_ok r [59]
   refine LWp.ro hT hW (fun | 84 => some (.gen ⟨[(0, 0)], [], [], psH (r.need [59]), .tup []⟩) | _ => none) ?_
   simp
   refine ⟨hne, ?_⟩
   refine LWp.sz hT hW ?_
   simp
   refine LWp.ret ?_
   simp
   refine Weak.closed (x := (defP false p).1.d) (by simp [hc27]) ?_
   simp
   exact Weak.to [0] [(0, 0)] (by decide) (by decide) (by simp [hp]) (by simp) (by simp [hc27])
end
open Go.Proofs
section
attribute [local simp] Res.cond Nd.d_eq nd_t nd_dr nd_td ndsD evalIndex retGC_ret upds_same prH fail2_0 fail5_0 fail2_5 fail_l
theorem defT_neg {p : PS} (h : defKind p.peek < 0) : defP true p = (.mk 0 [] 0 [], p.fail 2) := by unfold defP; simp only []; rw [if_pos h]
section
variable {p q : PS} {t : Str} {k : Int} (hk : defKind p.peek = k) (h : ¬ k < 0) (hn : nameP p.skip = (t, q))
include hk h hn
theorem defT_block (h5 : k = 5 ∨ k = 6) : defP true p = (.mk k t 0 [(blockP true (q.l.length + 1) q).1], (blockP true (q.l.length + 1) q).2) := by
 subst hk
 unfold defP; simp only []; rw [if_neg h, hn, if_pos h5]
theorem defT_rec (h1 : k = 1) : defP true p = (.mk k t 0 (itemsF ((q.need [123]).l.length + 1) [] (q.need [123])).1, (itemsF ((q.need [123]).l.length + 1) [] (q.need [123])).2.need [125]) := by
 subst hk
 unfold defP; simp only []; rw [if_neg h, hn, if_neg (by omega), if_pos h1]
theorem defT_var (h1 : k = 0) : defP true p = (.mk k t (numberP (q.need [61])).1 [], (numberP (q.need [61])).2.need [59]) := by
 subst hk
 unfold defP; simp only []; rw [if_neg h, hn, if_neg (by omega), if_neg (by omega), if_pos h1]
theorem defT_chan (h1 : k = 2) : defP true p = (.mk k t (numeralP 2 q).1 [], (numeralP 2 q).2.need [59]) := by
 subst hk
 unfold defP; simp only []; rw [if_neg h, hn, if_neg (by omega), if_neg (by omega), if_neg (by omega), if_pos h1]
theorem defT_else (h1 : ¬ (k = 5 ∨ k = 6)) (h2 : ¬ k = 1) (h3 : ¬ k = 0) (h4 : ¬ k = 2) : defP true p = (.mk k t 0 [], q.need [59]) := by
 subst hk
 unfold defP; simp only []; rw [if_neg h, hn, if_neg h1, if_neg h2, if_neg h3, if_neg h4]
end
theorem Fit.item {T : List Tk} {q : PS} (f : Fit T q) : Fit T ((numberP ((nameP q).2.need [61])).2.need [59]) := f.name.need.number.need
theorem Fit.items {T : List Tk} : ∀ (g : Nat) (ks : List Nd) (p : PS), Fit T p → Fit T (itemsF g ks p).2
 | 0, _, _, f => f
 | g + 1, ks, p, f => by
  rw [itemsF]
  split
  ·exact f
  ·exact Fit.items g _ _ f.item
theorem Fit.def {s : Str} {T : List Tk} (c : Ctx s T) {p : PS} (f : Fit T p) : Fit T (defP true p).2 := by
 obtain ⟨k, hk⟩ : ∃ k, defKind p.peek = k := ⟨_, rfl⟩
 obtain ⟨⟨t, q⟩, hn⟩ : ∃ x, nameP p.skip = x := ⟨_, rfl⟩
 have fq : Fit T q := by have := f.skip.name; rw [hn] at this; exact this
 by_cases h : k < 0
 ·rw [defT_neg (by omega)]; exact f.fail (.inl rfl)
 ·by_cases h1 : k = 5 ∨ k = 6
  ·rw [defT_block hk h hn h1]
   exact ((RR.blockT c (q.l.length + 1)).fs q (Nat.lt_succ_self _) fq).1
  ·by_cases h2 : k = 1
   ·rw [defT_rec hk h hn h2]
    exact (Fit.items _ _ _ fq.need).need
   ·by_cases h3 : k = 0
    ·rw [defT_var hk h hn h3]
     exact fq.need.number.need
    ·by_cases h4 : k = 2
     ·rw [defT_chan hk h hn h4]
      exact fq.numeral.need
     ·rw [defT_else hk h hn h1 h2 h3 h4]
      exact fq.need
end
open Go.Proofs
section
attribute [local simp] Res.cond Nd.d_eq nd_t nd_dr nd_td ndsD evalIndex
theorem RSame_step (x y : Nd) (ih : ∀ a ∈ x.kids, ∀ b : Nd, Ok Tryz.prog 27 [a.d, b.d] ⟨.d (.bool (sameN a b)), true⟩) (hl : x.kids.length ≤ 9223372036854775806) : Ok Tryz.prog 27 [x.d, y.d] ⟨.d (.bool (sameN x y)), true⟩ := by
 refine Ok.ret Tryz.func27 (by kernel_rfl) (c := _) rfl Tryz.ntmps27 (by simp) Tryz.results27 (by intro _ h; cases h) fun w0 X hp => ?_
 refine LWp.sz hT hW ?_
 simp
 refine LWp.seq ?_
 refine LWp.sz hT hW ?_
 simp
 refine LWp.iff ?_
 simp
 refine ⟨fun g => ?_, fun g0 g1 g2 g3 => ?_⟩
 ·refine LWp.sz hT hW ?_
  simp
  refine LWp.ret ?_
  simp
  rw [Bool.eq_false_iff]
  intro h
  have e := (sameN_iff _ _).1 h
  subst e
  simp at g
 ·refine LWp.skip ?_
  simp
  refine LWp.seq ?_
  refine LWp.sz hT hW ?_
  simp
  refine LWp.block ?_
  refine LWp.loopW (ι := Nat) (fun i => mkEnv [(2, .bx 2 0), (3, .bx 3 0), (5, .d (I64 i))]) (fun i => mkObs [(2, .box false [.d (I64 x.kind), .d (.str x.text), .d (I64 x.n), .d (ndsD x.kids)]), (3, .box false [.d (I64 y.kind), .d (.str y.text), .d (I64 y.n), .d (ndsD y.kids)])]) (fun i => i ≤ x.kids.length ∧ x.kids.take i = y.kids.take i) (fun i => x.kids.length - i) 0 (Weak.to [2, 3, 5] [(2, 2), (3, 3)] (by decide) (by decide) (by simp [hp]) (by simp) (by simp)) (⟨Nat.zero_le _, rfl⟩) fun i hi4 => ?_
  refine LWp.seq ?_
  refine LWp.sz hT hW ?_
  simp
  refine LWp.iff ?_
  simp
  refine ⟨fun h4 => ?_, fun h4 => ?_⟩
  ·refine LWp.skip ?_
   simp
   refine LWp.seq ?_
   refine LWp.block ?_
   refine LWp.seq ?_
   have hi : i < x.kids.length := by omega
   have hm : i < y.kids.length := by omega
   have hs := ih _ (List.getElem_mem hi) y.kids[i]
   simp at hs
   refine LWp.regAny hT hW hMixed (lk [[],[0],[],[0,1,2],[0,1,2,3],[],[5],[],[5,6,7],[5,6,7,8],[0,1,2,3,4,5,6,7,8,9],[0,1,2,3,4,5,6,7,8,9,10]]) (lk [[],[],[],[],[],[],[],[],[],[],[],[]]) (lk [[],[],[],[],[],[],[],[],[],[],[51],[]]) (by kernel_rfl) (fun | 51 => some <| .plain ⟨.d (.bool (sameN x.kids[i] y.kids[i])), true⟩ | _ => none) (by intro d; first | exact ⟨rfl, fun _ h => h⟩ | (split <;> exact ⟨rfl, fun _ h => h⟩)) ?_
   simp [hi, hm]
   refine ⟨hs, ?_⟩
   refine LWp.iff ?_
   simp
   refine ⟨fun h6 => ?_, fun h6 => ?_⟩
   ·refine LWp.sz hT hW ?_
    simp
    refine LWp.ret ?_
    simp
    rw [Bool.eq_false_iff]
    intro h
    have e := (sameN_iff _ _).1 h
    subst e
    rw [(sameN_iff _ _).2 rfl] at h6
    cases h6
   ·refine LWp.skip ?_
    simp
    refine LWp.rz hT hW ?_
    simp
    refine ⟨by omega, ?_⟩
    refine loopQ.mk (i + 1) (Weak.to [2, 3, 5] [(2, 2), (3, 3)] (by decide) (by decide) (by simp [hp]) (by simp) (by simp)) ?_ ?_
    ·refine ⟨by omega, ?_⟩
     have e := (sameN_iff _ _).1 h6
     rw [List.take_add_one, List.take_add_one, hi4.2, List.getElem?_eq_getElem hi, List.getElem?_eq_getElem hm, e]
    ·omega
  ·refine LWp.exit ?_
   simp
   refine LWp.sz hT hW ?_
   simp
   refine LWp.ret ?_
   simp
   have e := hi4.2
   rw [List.take_of_length_le (by omega), List.take_of_length_le (by omega)] at e
   refine (sameN_iff _ _).2 ?_
   rw [Nd.eta x, Nd.eta y, g0, g1, g2, e]
theorem RSame_ok (x : Nd) : weighN x ≤ 1000000000 → ∀ y : Nd, Ok Tryz.prog 27 [x.d, y.d] ⟨.d (.bool (sameN x y)), true⟩ :=
 Nd.ind (p := fun x => weighN x ≤ 1000000000 → ∀ y : Nd, Ok Tryz.prog 27 [x.d, y.d] ⟨.d (.bool (sameN x y)), true⟩) (fun k t n ks ih hw y => RSame_step _ y (fun a ha b => ih a ha (by have := weigh_mem (show a ∈ ks from ha); rw [weighN] at hw; omega) b) (by have := kids_weigh (.mk k t n ks); omega)) x
end
end Go.Eng
namespace Go.Eng
def Wt (x : PS → Nd × PS) : Prop := ∀ p : PS, GoodT p.l → weighN (x p).1 + 41 * (x p).2.l.length ≤ 41 * p.l.length + 40 ∧ GoodT (x p).2.l
theorem place_wt : Wt placeP := fun p h => by
 have a := nameP_good h
 have t1 := name_tl h
 unfold placeP
 split
 ·have b := nameP_good (good_skip a.2.1)
  have t2 := name_tl (p := (nameP p).2.skip) (good_skip a.2.1)
  have s := skip_len (p := (nameP p).2)
  refine ⟨?_, b.2.1⟩
  simp only [weighN, weighL, List.length_append, List.length_cons]
  omega
 ·refine ⟨?_, a.2.1⟩
  simp only [weighN, weighL]
  omega
theorem fact_wt {ex : PS → Nd × PS} (hx : Wt ex) : Wt (factP ex) := fun p h => by
 unfold factP
 split
 ·have a := hx p.skip (good_skip h)
  have s := skip_len (p := p)
  have n := need_le (p := (ex p.skip).2) (s := [41])
  exact ⟨by simp only; omega, (good_need a.2).2⟩
 ·split
  ·have s := skip_len (p := p)
   exact ⟨by simp only [weighN, weighL, List.length_nil]; omega, good_skip h⟩
  ·split
   ·split
    ·have a := numeralP_good (k := 32) h
     exact ⟨by simp only [weighN, weighL, List.length_nil]; omega, a.2.1⟩
    ·split
     ·have a := localP_good h
      have t : (localP p).1.length ≤ 17 := by
       by_cases q : p.peek.take 1 = [36]
       ·rw [(local_is q).2]
        have := peek_tl h
        simp only [List.length_drop]; omega
       ·rw [local_not q]; simp
      exact ⟨by simp only [weighN, weighL]; omega, a.2.1⟩
     ·exact place_wt p h
   ·exact place_wt p h
theorem chainF_wt {lv : Int} {x : PS → Nd × PS} (hx : Wt x) (B : Nat) : ∀ (f : Nat) (n : Nd) (p : PS), GoodT p.l → weighN n + 41 * p.l.length ≤ B → weighN (chainF lv x f n p).1 + 41 * (chainF lv x f n p).2.l.length ≤ B ∧ GoodT (chainF lv x f n p).2.l
 | 0, _, _, h, hn => ⟨hn, h⟩
 | f + 1, n, p, h, hn => by
  have o := good_op (lv := lv) h
  unfold chainF
  split
  ·exact ⟨hn, h⟩
  ·split
   ·exact ⟨by simp only; omega, o.2⟩
   ·rename_i q
    have ol := op_less (lv := lv) (q := p) (by omega)
    have a := hx (opP lv p).2 o.2
    refine chainF_wt hx B f _ _ a.2 ?_
    simp only [weighN, weighL, List.length_nil]
    omega
theorem chainP_wt {lv : Int} {x : PS → Nd × PS} (hx : Wt x) : Wt (chainP lv x) := fun p h => chainF_wt hx _ _ _ _ (hx p h).2 (hx p h).1
theorem sum_wt {ex : PS → Nd × PS} (hx : Wt ex) : Wt (sumP ex) := chainP_wt (chainP_wt (fact_wt hx))
theorem exprB_wt {ex : PS → Nd × PS} (hx : Wt ex) : Wt (exprB ex) := fun p h => by
 have a := sum_wt hx p h
 have o := good_op (lv := 1) a.2
 by_cases q : 0 ≤ (opP 1 (sumP ex p).2).1
 ·have ol := op_less q
  have b := sum_wt hx (opP 1 (sumP ex p).2).2 o.2
  rw [exprB_bin q]
  refine ⟨?_, b.2⟩
  simp only [weighN, weighL, List.length_nil]
  omega
 ·rw [exprB_one (by omega)]
  exact ⟨by simp only; omega, o.2⟩
theorem exprP_wt : ∀ f, Wt (exprP false f)
 | 0 => fun p h => ⟨by
   have : weighN (default : Nd) ≤ 40 := by decide
   show weighN default + 41 * p.l.length ≤ _
   omega, h⟩
 | f + 1 => fun p h => by
  rw [exprP, if_neg (by simp)]
  exact exprB_wt (exprP_wt f) p h
end Go.Eng
namespace Go.Eng
def Ws (n : Nat) (x : PS → Nd × PS) : Prop := ∀ p : PS, p.l.length < n → GoodT p.l → weighN (x p).1 + 240 * (x p).2.l.length ≤ 240 * p.l.length + 90 ∧ GoodT (x p).2.l ∧ ((x p).2.e = 0 → weighN (x p).1 + 240 * (x p).2.l.length ≤ 240 * p.l.length)
def Wb (n : Nat) (x : PS → Nd × PS) : Prop := ∀ p : PS, p.l.length < n → GoodT p.l → weighN (x p).1 + 240 * (x p).2.l.length ≤ 240 * p.l.length + 91 ∧ GoodT (x p).2.l
theorem weighL_app (a b : List Nd) : weighL (a ++ b) = weighL a + weighL b := by
 induction a with
 | nil => simp [weighL]
 | cons x a ih => simp only [List.cons_append, weighL, ih]; omega
theorem stmtsF_ws {m : Nat} {st : PS → Nd × PS} (hs : Ws m st) (B : Nat) : ∀ (f : Nat) (ks : List Nd) (p : PS), p.l.length < m → GoodT p.l → weighL ks + 240 * p.l.length ≤ B + 90 → (p.e = 0 → weighL ks + 240 * p.l.length ≤ B) →
  weighL (stmtsF st f ks p).1 + 240 * (stmtsF st f ks p).2.l.length ≤ B + 90 ∧ GoodT (stmtsF st f ks p).2.l
 | 0, _, _, _, h, h1, _ => ⟨h1, h⟩
 | f + 1, ks, p, hm, h, h1, h2 => by
  unfold stmtsF
  split
  ·exact ⟨h1, h⟩
  ·rename_i q
   have e0 : p.e = 0 := Classical.byContradiction fun z => q (.inl z)
   have a := hs p hm h
   have b := h2 e0
   refine stmtsF_ws hs B f _ _ (by have := a.1; omega) a.2.1 ?_ fun z => ?_
   ·rw [weighL_app]; simp only [weighL]; have := a.1; omega
   ·rw [weighL_app]; simp only [weighL]; have := a.2.2 z; omega
theorem blockB_wb {m : Nat} {st : PS → Nd × PS} (hs : Ws m st) : Wb m (blockB st) := fun p hm h => by
 have n := need_le (p := p) (s := [123])
 have g := (good_need (s := [123]) h).2
 unfold blockB
 simp only []
 have a := stmtsF_ws hs (240 * (p.need [123]).l.length) ((p.need [123]).l.length + 1) [] (p.need [123]) (by omega) g (by simp only [weighL]; omega) (fun _ => by simp only [weighL]; omega)
 have m := need_le (p := (stmtsF st ((p.need [123]).l.length + 1) [] (p.need [123])).2) (s := [125])
 refine ⟨?_, (good_need a.2).2⟩
 simp only [weighN, List.length_nil]
 have := a.1
 omega
theorem cmdP_wb {ex : PS → Nd × PS} (hx : Wt ex) {k : Int} : ∀ p : PS, GoodT p.l → weighN (cmdP ex k p).1 + 240 * (cmdP ex k p).2.l.length ≤ 240 * p.l.length + 90 ∧ GoodT (cmdP ex k p).2.l := fun p h => by
 have a := cmdA_good (k := k) h
 have t : (cmdA k p).1.length ≤ 17 := by
  unfold cmdA
  split
  ·by_cases q : p.peek.take 1 = [36]
   ·rw [(local_is q).2]
    have := peek_tl h
    simp only [List.length_drop]; omega
   ·rw [local_not q]; simp
  ·split
   ·simp
   ·exact name_tl h
 by_cases h1 : k = 15 ∨ k = 22 ∨ k = 24
 ·rw [cmd_ex h1]
  have b := hx (cmdA k p).2 a.2
  refine ⟨?_, b.2⟩
  simp only [weighN, weighL]; omega
 ·by_cases h2 : k = 16 ∨ k = 23
  ·rw [cmd_loc h1 h2]
   have b := localP_good a.2
   have t2 : (localP (cmdA k p).2).1.length ≤ 17 := by
    by_cases q : (cmdA k p).2.peek.take 1 = [36]
    ·rw [(local_is q).2]
     have := peek_tl a.2
     simp only [List.length_drop]; omega
    ·rw [local_not q]; simp
   refine ⟨?_, b.2.1⟩
   simp only [weighN, weighL]; omega
  ·by_cases h3 : k = 19 ∨ k = 21 ∨ k = 25
   ·rw [cmd_num h1 h2 h3]
    have b := numeralP_good (k := k) a.2
    refine ⟨?_, b.2.1⟩
    simp only [weighN, weighL]; omega
   ·rw [cmd_plain h1 h2 h3]
    refine ⟨?_, a.2⟩
    simp only [weighN, weighL]; omega
end Go.Eng
namespace Go.Eng
theorem place_eats {p : PS} (h : GoodT p.l) (he3 : (placeP p).2.e = 0) : (placeP p).2.l.length < p.l.length := by
 unfold placeP at he3 ⊢
 have nm : (nameP p).2.e = 0 → (nameP p).2.l.length < p.l.length := fun z => by
  cases q : isNameB p.peek with
  | false => rw [name_not q] at z; exact absurd z (fail_e (by decide))
  | true =>
   have ip : p.is p.peek = true := is_iff.2 ⟨fun e => (by rw [e] at q; cases q), rfl⟩
   have lp := is_len ip
   rw [name_is q, took_is ip]
   simp only; omega
 have ng := nameP_good h
 split at he3
 ·rename_i z
  rw [if_pos z]
  have z2 : (nameP p).2.skip.e = 0 := nameP_stk _ he3
  have z3 : (nameP p).2.e = 0 := z2
  have ll := (nameP_good (p := (nameP p).2.skip) (good_skip ng.2.1)).1
  have l3 := skip_len (p := (nameP p).2)
  have := nm z3
  simp only; omega
 ·rename_i z
  rw [if_neg z]
  exact nm he3
theorem stmtB_ws {m : Nat} {ex bl : PS → Nd × PS} (hs : Stk ex) (hx : Wt ex) (hb : Wb m bl) : Ws (m + 1) (stmtB ex bl) := fun p hm h => by
 obtain ⟨k, hk⟩ : ∃ k, kindP p.peek = k := ⟨_, rfl⟩
 by_cases h1 : k = 11 ∨ k = 12
 ·have ip := kind_pos (p := p) (by omega)
  have lp := is_len ip
  rw [← took_is ip] at lp
  have e0 := hx (p.took p.peek) (good_took h)
  have b0 := hb (ex (p.took p.peek)).2 (by have := e0.1; omega) e0.2
  by_cases h2 : k = 11 ∧ (bl (ex (p.took p.peek)).2).2.is sElse = true
  ·rw [st_else hk h2.1 h2.2]
   have l2 := is_len h2.2
   rw [← took_is h2.2] at l2
   have c0 := hb ((bl (ex (p.took p.peek)).2).2.took sElse) (by have := e0.1; have := b0.1; omega) (good_took b0.2)
   refine ⟨?_, c0.2, fun _ => ?_⟩ <;> (simp only [weighN, weighL, List.length_nil]; omega)
  ·rw [st_if hk h1 (fun q => by
    cases z : (bl (ex (p.took p.peek)).2).2.is sElse with
    | false => rfl
    | true => exact absurd ⟨q, z⟩ h2)]
   refine ⟨?_, b0.2, fun _ => ?_⟩ <;> (simp only [weighN, weighL, List.length_nil]; omega)
 ·by_cases h3 : 12 < k
  ·have ip := kind_pos (p := p) (by omega)
   have lp := is_len ip
   rw [← took_is ip] at lp
   have c0 := cmdP_wb hx (k := k) (p.took p.peek) (good_took h)
   rw [st_cmd hk h3]
   have n := need_le (p := (cmdP ex k (p.took p.peek)).2) (s := [59])
   refine ⟨?_, (good_need c0.2).2, fun _ => ?_⟩ <;> (simp only; omega)
  ·by_cases h4 : p.peek.take 1 = [36]
   ·obtain ⟨i1, i2⟩ := local_is h4
    have ip : p.is p.peek = true := is_iff.2 ⟨fun e => (by rw [e] at h4; cases h4), rfl⟩
    have lp := is_len ip
    rw [← took_is ip] at lp
    have t := peek_tl h
    rw [st_local hk h1 h3 h4, i2]
    have n1 := need_le (p := p.took p.peek) (s := [61])
    have e0 := hx ((p.took p.peek).need [61]) (good_need (good_took h)).2
    have n2 := need_le (p := (ex ((p.took p.peek).need [61])).2) (s := [59])
    refine ⟨?_, (good_need e0.2).2, fun _ => ?_⟩ <;> (simp only [weighN, weighL, List.length_drop]; omega)
   ·rw [st_place hk h1 h3 h4]
    have a := place_wt p h
    have le := (placeP_rt (p.l.length + 1) p (Nat.lt_succ_self _) h).1
    have n1 := need_le (p := (placeP p).2) (s := [61])
    have e0 := hx ((placeP p).2.need [61]) (good_need a.2).2
    have n2 := need_le (p := (ex ((placeP p).2.need [61])).2) (s := [59])
    refine ⟨?_, (good_need e0.2).2, fun z => ?_⟩
    ·simp only [weighN, weighL, List.length_nil]; omega
    ·have z : ((ex ((placeP p).2.need [61])).2.need [59]).e = 0 := z
     have pe := place_eats h (need_e (hs _ (need_e z).2)).2
     simp only [weighN, weighL, List.length_nil]; omega
theorem stmtP_ws : ∀ f, Ws f (stmtP false f)
 | 0 => fun p hm _ => absurd hm (Nat.not_lt_zero _)
 | f + 1 => stmtB_ws (exprO_stk false) (fun p h => exprP_wt _ p h) (blockB_wb (stmtP_ws f))
end Go.Eng
namespace Go.Eng
theorem name_eats {p : PS} (z : (nameP p).2.e = 0) : (nameP p).2.l.length < p.l.length := by
 cases q : isNameB p.peek with
 | false => rw [name_not q] at z; exact absurd z (fail_e (by decide))
 | true =>
  have ip : p.is p.peek = true := is_iff.2 ⟨fun e => (by rw [e] at q; cases q), rfl⟩
  have lp := is_len ip
  rw [name_is q, took_is ip]
  simp only; omega
theorem itemsF_ws (B : Nat) : ∀ (f : Nat) (ks : List Nd) (p : PS), GoodT p.l → weighL ks + 240 * p.l.length ≤ B + 90 → (p.e = 0 → weighL ks + 240 * p.l.length ≤ B) →
  weighL (itemsF f ks p).1 + 240 * (itemsF f ks p).2.l.length ≤ B + 90 ∧ GoodT (itemsF f ks p).2.l
 | 0, _, _, h, h1, _ => ⟨h1, h⟩
 | f + 1, ks, p, h, h1, h2 => by
  unfold itemsF
  split
  ·exact ⟨h1, h⟩
  ·rename_i q
   have e0 : p.e = 0 := Classical.byContradiction fun z => q (.inl z)
   have b := h2 e0
   have a := nameP_good h
   have t := name_tl h
   have g1 := good_need (s := [61]) a.2.1
   have v := numberP_good g1.2
   have g2 := good_need (s := [59]) v.2.1
   simp only []
   refine itemsF_ws B f _ _ g2.2 ?_ fun z => ?_
   ·rw [weighL_app]; simp only [weighN, weighL]; omega
   ·have z1 := numberP_stk _ (need_e z).2
    have ne := name_eats (need_e z1).2
    rw [weighL_app]; simp only [weighN, weighL]; omega
theorem defP_weigh {p : PS} (h : GoodT p.l) : weighN (defP false p).1 ≤ 240 * p.l.length + 300 := by
 have s := skip_len (p := p)
 have a := nameP_good (good_skip h)
 have t := name_tl (good_skip h)
 unfold defP
 simp only []
 split
 ·simp only [weighN, weighL, List.length_nil]; omega
 ·split
  ·have b := blockB_wb (stmtP_ws ((nameP p.skip).2.l.length + 1)) (nameP p.skip).2 (Nat.lt_succ_self _) a.2.1
   have b1 : weighN (blockP false ((nameP p.skip).2.l.length + 1) (nameP p.skip).2).1 ≤ 240 * (nameP p.skip).2.l.length + 91 := by
    have := b.1
    show weighN (blockB (stmtP false ((nameP p.skip).2.l.length + 1)) (nameP p.skip).2).1 ≤ _
    omega
   simp only [weighN, weighL]; omega
  ·split
   ·have g1 := good_need (s := [123]) a.2.1
    have i := itemsF_ws (240 * ((nameP p.skip).2.need [123]).l.length) (((nameP p.skip).2.need [123]).l.length + 1) [] ((nameP p.skip).2.need [123]) g1.2 (by simp only [weighL]; omega) (fun _ => by simp only [weighL]; omega)
    have i1 := i.1
    simp only [weighN]; omega
   ·split
    ·simp only [weighN, weighL]; omega
    ·split
     ·simp only [weighN, weighL]; omega
     ·simp only [weighN, weighL]; omega
theorem scanF_len : ∀ (f : Nat) (s : Str) (i : Int), (scanF f s i).1.length ≤ f
 | 0, _, _ => Nat.le_refl _
 | f + 1, s, i => by
  unfold scanF
  split
  ·simp
  ·split
   ·have := scanF_len f (by assumption) (i + 1); omega
   ·split
    ·simp
    ·simp only [List.length_cons]
     exact Nat.succ_le_succ (scanF_len f _ _)
theorem parse_weigh {s : Str} (hl : s.length ≤ 1024) : weighN (defP false ⟨(scanS s).1, 0⟩).1 ≤ 1000000000 := by
 have h1 : (scanS s).1.length ≤ s.length := scanF_len _ _ _
 have h2 := defP_weigh (p := ⟨(scanS s).1, 0⟩) (scanF_good _ _ _)
 have h3 : (PS.mk (scanS s).1 0).l.length = (scanS s).1.length := rfl
 omega
end Go.Eng
namespace Go.Eng
open Go.Proofs
attribute [local simp] runL stepL evalG evalOp opLV constLV putEnv dstOk upd upds Res.plain Res.cond Res.fail evalBin evalUn seqQ blockQ argsEnv lookL lookH RetIs memless freshL evalPick evalMin bval bok evalLen evalIn strip whenC guardOps guardC slotsOf
 runM foldS stepI stepM maskE wrIn lk renO lookN evalCall evalCallee optAll resLV resObj retLV retObj retsLV retsObj evalLoad evalIndexAddr evalField solid cellsD_agg cellsD_int cellsD_bool cellsD_str cellsD_sl cellsD_ro cellsD_fn cellsL_agg cellsL_dagg cellsL_int cellsL_bool cellsL_str cellsL_sl cellsL_fn cellsL_ow cellsL_bx cellsL_lfn cellsL_nl takeL takeD mkAgg allD eqD eqDs kindsAre kindIs LObj.live TK.isNone TK.agg TK.isBool TK.isStr TK.isStruct Op.operands Call.operands
 evalBuildSlice evalAppend elemsOf evalStore evalBuild fillL lookupF putL evalSlice bound evalConv elemsS freezes frozen loadR
 mkEnv_at mkObs_at close_d close_agg close_ow close_bx close_fn close_nl touch_d touch_agg touch_ow touch_bx touch_fn touch_nl ren_d ren_agg ren_bx ren_rp ren_ow ren_fn ren_nl ren_junk retQ_ret retQ2_ret condQ_bool Nm.d Df.d Ed.d nmsD dfsD strsD edsD retC_ret nm_eq df_eq take_map_len take_map_app
 nm_t nm_d nm_td df_t df_d df_td str_t str_d str_td ed_t ed_d ed_td
 evalAppendIn evalBuildSliceC evalCopyC shortL evalApart evalAppendC evalAppendZ evalAppendG evalCapC isOc TK.isInt close_oc touch_oc ren_oc cellsL_oc evalCut evalClear evalCopy evalMake evalWrap evalCap evalNil isNilC lenL isInp gorc gorc2
 mapOf findD keyEq keyOk evalMakeMap evalRange zeroD zeroDV argsG shutG outN lenv retG0_ret retG0_normal retG1_ret retGR_ret renO close_mp touch_mp ren_mp optAll_d optAll_d' touch_ds cellsL_mp cellsD_mp cellsL_dmp
 evalMapSet evalPtr TK.isPtr evalToArr firstL retN_ret retsQ rvarL close_bm touch_bm ren_bm cellsD_bm cellsL_bm cellsL_lbm
attribute [local simp] cutQ_normal cutQ_ret cutQ_exit
section
attribute [local simp] Res.cond Nd.d_eq nd_t nd_dr nd_td ndsD evalIndex retGC_ret upds_same prH
end
open Go.Proofs
section
attribute [local simp] Res.cond Nd.d_eq nd_t nd_dr nd_td ndsD evalIndex retGC_ret upds_same constL1 one_i one_s one_l all4 Int.add_assoc
def mkH (L : List Int) (i : Nat) : List (Nat × LObj) := [(0, .box false [.d (.sl (L.map I64)), .d (I64 i)])]
def MkL (L : List Int) : Prop := ∀ n ∈ L, -9223372036854775808 ≤ n ∧ n ≤ 9223372036854775807
attribute [local simp] mkH
theorem atL_range (l : List Int) (i m : Int) (h : 0 < m) : 0 ≤ atL l i m ∧ atL l i m < m := by
 unfold atL
 split
 ·omega
 ·exact around_lt _ _ h
theorem MTake_ok (L : List Int) (i : Nat) (m : Int) (hL : MkL L) (hi : i ≤ 3000000) (hm : m ≠ 0) : OkG Tryz.prog 35 [.bx 0 0, .d (I64 m)] (mkH L i) (mkH L (i + 1)) (.d (I64 (atL L i m))) := by
 unfold mkH
 refine OkG.one Tryz.func35 (by kernel_rfl) (c := _) rfl Tryz.ntmps35 (by simp) Tryz.results35 fun w0 X hp => ?_
 refine LWp.sz hT hW ?_
 simp
 refine LWp.sz hT hW ?_
 simp
 refine ⟨by omega, ?_⟩
 refine LWp.seq ?_
 have ha := At_ok L i m hL hm
 have e1 : (i : Int) + 1 - 1 = i := by omega
 refine LWp.regAny hT hW hMixed (lk [[],[0],[0,1],[0,1,2],[],[4],[4,5],[4,5,6],[4,5,6,7],[],[0,1,2,3,4,5,6,7,8,9],[0,1,2,3,4,5,6,7,8,9,10]]) (lk [[],[],[],[],[],[],[],[],[],[],[],[]]) (lk [[],[],[],[],[],[],[],[],[],[],[22],[]]) (by kernel_rfl) (fun | 22 => some <| .plain ⟨.d (I64 (atL L i m)), true⟩ | _ => none) (by intro d; first | exact ⟨rfl, fun _ h => h⟩ | (split <;> exact ⟨rfl, fun _ h => h⟩)) ?_
 simp [e1]
 refine ⟨⟨by omega, ha⟩, ?_⟩
 refine LWp.ret ?_
 simp
 exact Weak.to [4] [(0, 0)] (by decide) (by decide) (by simp [hp]) (by simp) (by simp)
theorem call_at {L : List Int} {i : Nat} : (callL.map DV.str)[(atL L i 8).toNat]?.getD default = .str (callM L i) := by
 have h := atL_range L i 8 (by decide)
 have hk : (atL L i 8).toNat < callL.length := by show _ < 8; omega
 unfold callM
 rw [List.getElem?_map, List.getElem?_eq_getElem hk]
 simp [List.getD_eq_getElem?_getD, hk]
theorem own_at {L : List Int} {i : Nat} : (ownL.map DV.str)[(atL L i 4).toNat]?.getD default = .str (ownM L i) := by
 have h := atL_range L i 4 (by decide)
 have hk : (atL L i 4).toNat < ownL.length := by show _ < 4; omega
 unfold ownM
 rw [List.getElem?_map, List.getElem?_eq_getElem hk]
 simp [List.getD_eq_getElem?_getD, hk]
theorem num_at {L : List Int} {i : Nat} : (numsM.map I64)[(atL L i 6).toNat]?.getD default = I64 (numsM.getD (atL L i 6).toNat 0) := by
 have h := atL_range L i 6 (by decide)
 have hk : (atL L i 6).toNat < numsM.length := by show _ < 6; omega
 rw [List.getElem?_map, List.getElem?_eq_getElem hk]
 simp [List.getD_eq_getElem?_getD, hk]
theorem MCalled_ok (L : List Int) (i : Nat) (hL : MkL L) (hi : i ≤ 3000000) : OkG Tryz.prog 36 [.bx 0 0] (mkH L i) (mkH L (i + 1)) (.d (.str (callM L i))) := by
 unfold mkH
 refine OkG.one Tryz.func36 (by kernel_rfl) (c := _) rfl Tryz.ntmps36 (by simp) Tryz.results36 fun w0 X hp => ?_
 refine LWp.sz hT hW ?_
 simp
 refine LWp.seq ?_
 have ha := MTake_ok L i 8 hL hi (by decide)
 have hr := atL_range L i 8 (by decide)
 have hc := call_at (L := L) (i := i)
 simp [callL] at hc
 refine LWp.ro hT hW (fun | 5 => some (.gen ⟨[(0, 0)], [], [], mkH L (i + 1), .d (I64 (atL L i 8))⟩) | _ => none) ?_
 simp [hc]
 refine ⟨⟨⟨⟨by decide, by simpa using ha⟩, by omega⟩, by omega⟩, ?_⟩
 refine LWp.ret ?_
 simp
 exact Weak.to [2] [(0, 0)] (by decide) (by decide) (by simp [hp]) (by simp) (by simp)
theorem MOwn_ok (L : List Int) (i : Nat) (hL : MkL L) (hi : i ≤ 3000000) : OkG Tryz.prog 58 [.bx 0 0] (mkH L i) (mkH L (i + 1)) (.d (.str (ownM L i))) := by
 unfold mkH
 refine OkG.one Tryz.func58 (by kernel_rfl) (c := _) rfl Tryz.ntmps58 (by simp) Tryz.results58 fun w0 X hp => ?_
 refine LWp.sz hT hW ?_
 simp
 refine LWp.seq ?_
 have ha := MTake_ok L i 4 hL hi (by decide)
 have hr := atL_range L i 4 (by decide)
 have hc := own_at (L := L) (i := i)
 simp [ownL] at hc
 refine LWp.ro hT hW (fun | 5 => some (.gen ⟨[(0, 0)], [], [], mkH L (i + 1), .d (I64 (atL L i 4))⟩) | _ => none) ?_
 simp [hc]
 refine ⟨⟨⟨⟨by decide, by simpa using ha⟩, by omega⟩, by omega⟩, ?_⟩
 refine LWp.ret ?_
 simp
 exact Weak.to [2] [(0, 0)] (by decide) (by decide) (by simp [hp]) (by simp) (by simp)
theorem callM_len (L : List Int) (i : Nat) : (callM L i).length ≤ 16 := by
 have h := atL_range L i 8 (by decide)
 unfold callM
 have : ∀ k : Nat, (callL.getD k []).length ≤ 16 := fun k => by
  rw [List.getD_eq_getElem?_getD]
  cases e : callL[k]? with
  | none => simp
  | some w =>
   have := List.mem_of_getElem? e
   exact (by decide : ∀ w ∈ callL, w.length ≤ 16) w this
 exact this _
theorem MAt_ok (L : List Int) (i : Nat) (hL : MkL L) (hi : i ≤ 2000000) : OkG Tryz.prog 59 [.bx 0 0] (mkH L i) (mkH L (placeM L i).2) (.d (placeM L i).1.d) := by
 unfold mkH
 refine OkG.cell hT Tryz.func59 (by kernel_rfl) (c := _) rfl Tryz.ntmps59 (by simp) Tryz.results59 fun w0 X hp => ?_
 refine LWp.sz hT hW ?_
 simp
 refine LWp.seq ?_
 refine LWp.seq ?_
 have ha := MTake_ok L i 3 hL (by omega) (by decide)
 refine LWp.ro hT hW (fun | 5 => some (.gen ⟨[(0, 0)], [], [], mkH L (i + 1), .d (I64 (atL L i 3))⟩) | _ => none) ?_
 simp
 refine ⟨by simpa using ha, ?_⟩
 refine LWp.iff ?_
 simp
 refine ⟨fun h1 => ?_, fun h1 => ?_⟩
 ·refine LWp.seq ?_
  have hc := MCalled_ok L (i + 1) hL (by omega)
  refine LWp.ro hT hW (fun | 8 => some (.gen ⟨[(0, 0)], [], [], mkH L (i + 1 + 1), .d (.str (callM L (i + 1)))⟩) | _ => none) ?_
  simp
  refine ⟨by simpa using hc, ?_⟩
  refine LWp.ret ?_
  simp
  have e : placeM L i = (.mk 34 (callM L (i + 1)) 0 [], i + 2) := by unfold placeM; rw [if_pos h1]
  refine Weak.closed (x := (placeM L i).1.d) (by simp [e]) ?_
  simp
  exact Weak.to [0] [(0, 0)] (by decide) (by decide) (by simp [hp]) (by simp) (by simp [e])
 ·refine LWp.skip ?_
  simp
  refine LWp.seq ?_
  have hc := MCalled_ok L (i + 1) hL (by omega)
  refine LWp.ro hT hW (fun | 11 => some (.gen ⟨[(0, 0)], [], [], mkH L (i + 1 + 1), .d (.str (callM L (i + 1)))⟩) | _ => none) ?_
  simp
  refine ⟨by simpa using hc, ?_⟩
  refine LWp.seq ?_
  have hc2 := MCalled_ok L (i + 2) hL (by omega)
  have l1 := callM_len L (i + 1)
  have l2 := callM_len L (i + 2)
  refine LWp.ro hT hW (fun | 15 => some (.gen ⟨[(0, 0)], [], [], mkH L (i + 2 + 1), .d (.str (callM L (i + 2)))⟩) | _ => none) ?_
  simp
  refine ⟨⟨⟨by omega, by simpa using hc2⟩, by omega⟩, ?_⟩
  refine LWp.ret ?_
  simp
  have e : placeM L i = (.mk 35 (callM L (i + 1) ++ 46 :: callM L (i + 2)) 0 [], i + 3) := by unfold placeM; rw [if_neg (by omega)]
  refine Weak.closed (x := (placeM L i).1.d) (by simp [e]) ?_
  simp
  exact Weak.to [0] [(0, 0)] (by decide) (by decide) (by simp [hp]) (by simp) (by simp [e])
end
open Go.Proofs
section
attribute [local simp] Res.cond Nd.d_eq nd_t nd_dr nd_td ndsD evalIndex retGC_ret constL1 Int.add_assoc upds_same one_i one_s one_l all4 mkH
def valK (L : List Int) (d i : Nat) : Int := if d = 0 ∨ L.length < i + 1 then (atL L i 12).tmod 6 else atL L i 12
theorem valK_range (L : List Int) (d i : Nat) : 0 ≤ valK L d i ∧ valK L d i < 12 ∧ (d = 0 → valK L d i < 6) := by
 have h := atL_range L i 12 (by decide)
 unfold valK
 split
 ·have : (atL L i 12).tmod 6 = atL L i 12 % 6 := Int.tmod_eq_emod_of_nonneg h.1
  rw [this]
  omega
 ·omega
theorem value_num {L : List Int} {d i : Nat} (h : valK L d i = 0 ∨ valK L d i = 1) : valueM L d i = (.mk 32 [] (numsM.getD (atL L (i + 1) 6).toNat 0) [], i + 2) := by
 unfold valK at h
 unfold valueM
 simp only []
 rw [if_pos h]
theorem value_loc {L : List Int} {d i : Nat} (h : valK L d i = 2) : valueM L d i = (.mk 33 (ownM L (i + 1)) 0 [], i + 2) := by
 have h0 : ¬ (valK L d i = 0 ∨ valK L d i = 1) := by omega
 unfold valK at h h0
 unfold valueM
 simp only []
 rw [if_neg h0, if_pos h]
theorem value_place {L : List Int} {d i : Nat} (h : valK L d i = 3 ∨ valK L d i = 4) : valueM L d i = placeM L (i + 1) := by
 have h0 : ¬ (valK L d i = 0 ∨ valK L d i = 1) := by omega
 have h1 : ¬ (valK L d i = 2) := by omega
 unfold valK at h h0 h1
 unfold valueM
 simp only []
 rw [if_neg h0, if_neg h1, if_pos h]
theorem value_kind {L : List Int} {d i : Nat} (h : valK L d i = 5) : valueM L d i = (.mk 36 [] 0 [], i + 1) := by
 have h0 : ¬ (valK L d i = 0 ∨ valK L d i = 1) := by omega
 have h1 : ¬ (valK L d i = 2) := by omega
 have h2 : ¬ (valK L d i = 3 ∨ valK L d i = 4) := by omega
 unfold valK at h h0 h1 h2
 unfold valueM
 simp only []
 rw [if_neg h0, if_neg h1, if_neg h2, if_pos h]
theorem value_bin {L : List Int} {e i : Nat} (h : 6 ≤ valK L (e + 1) i) : valueM L (e + 1) i = (.mk (26 + valK L (e + 1) i - 6) [] 0 [(valueM L e (i + 1)).1, (valueM L e (valueM L e (i + 1)).2).1], (valueM L e (valueM L e (i + 1)).2).2) := by
 have h0 : ¬ (valK L (e + 1) i = 0 ∨ valK L (e + 1) i = 1) := by omega
 have h1 : ¬ (valK L (e + 1) i = 2) := by omega
 have h2 : ¬ (valK L (e + 1) i = 3 ∨ valK L (e + 1) i = 4) := by omega
 have h3 : ¬ (valK L (e + 1) i = 5) := by omega
 rw [valueM]
 have hv : (if e + 1 = 0 ∨ L.length < i + 1 then (atL L i 12).tmod 6 else atL L i 12) = valK L (e + 1) i := rfl
 rw [hv, if_neg h0, if_neg h1, if_neg h2, if_neg h3]
theorem place_to (L : List Int) (i : Nat) : (placeM L i).2 ≤ i + 3 := by unfold placeM; split <;> simp
theorem value_to (L : List Int) : ∀ (d i : Nat), (valueM L d i).2 + 1 ≤ i + 5 * 2 ^ d := fun d => by
 induction d with
 | zero =>
  intro i
  obtain ⟨r0, _, r2⟩ := valK_range L 0 i
  have r2 := r2 rfl
  by_cases h0 : valK L 0 i = 0 ∨ valK L 0 i = 1
  ·rw [value_num h0]; simp
  ·by_cases h1 : valK L 0 i = 2
   ·rw [value_loc h1]; simp
   ·by_cases h2 : valK L 0 i = 3 ∨ valK L 0 i = 4
    ·rw [value_place h2]; have := place_to L (i + 1); omega
    ·rw [value_kind (by omega)]; simp
 | succ e ih =>
  intro i
  have hp : 1 ≤ 2 ^ e := Nat.one_le_two_pow
  have h2 : 2 ^ (e + 1) = 2 * 2 ^ e := by rw [Nat.pow_succ, Nat.mul_comm]
  obtain ⟨r0, _, _⟩ := valK_range L (e + 1) i
  by_cases h0 : valK L (e + 1) i = 0 ∨ valK L (e + 1) i = 1
  ·rw [value_num h0]; simp only; omega
  ·by_cases h1 : valK L (e + 1) i = 2
   ·rw [value_loc h1]; simp only; omega
   ·by_cases h3 : valK L (e + 1) i = 3 ∨ valK L (e + 1) i = 4
    ·rw [value_place h3]; have := place_to L (i + 1); omega
    ·by_cases h4 : valK L (e + 1) i = 5
     ·rw [value_kind h4]; simp only; omega
     ·rw [value_bin (by omega)]
      have a := ih (i + 1)
      have b := ih (valueM L e (i + 1)).2
      simp only
      omega
theorem MValue_step (L : List Int) (d i : Nat) (hL : MkL L) (hll : L.length ≤ 1000000) (hi : i + 5 * 2 ^ d ≤ 2000000) (ih : ∀ e, d = e + 1 → ∀ j, j + 5 * 2 ^ e ≤ 2000000 → OkG Tryz.prog 56 [.bx 0 0, .d (I64 (e : Nat))] (mkH L j) (mkH L (valueM L e j).2) (.d (valueM L e j).1.d)) : OkG Tryz.prog 56 [.bx 0 0, .d (I64 (d : Nat))] (mkH L i) (mkH L (valueM L d i).2) (.d (valueM L d i).1.d) := by
 have h2d : 1 ≤ 2 ^ d := Nat.one_le_two_pow
 unfold mkH
 refine OkG.cell hT Tryz.func56 (by kernel_rfl) (c := _) rfl Tryz.ntmps56 (by simp) Tryz.results56 fun w0 X hp => ?_
 refine LWp.sz hT hW ?_
 simp
 refine LWp.seq ?_
 have ha := MTake_ok L i 12 hL (by omega) (by decide)
 refine LWp.ro hT hW (fun | 8 => some (.gen ⟨[(0, 0)], [], [], mkH L (i + 1), .d (I64 (atL L i 12))⟩) | _ => none) ?_
 simp
 refine ⟨by simpa using ha, ?_⟩
 refine LWp.seqCut (ι := KC) (fun ⟨k⟩ => mkEnv [(0, .bx 0 0), (1, .d (I64 (d : Nat))), (4, .bx 4 0), (5, .d (I64 k))]) (fun ⟨k⟩ => mkObs [(0, .box false [.d (.sl (L.map I64)), .d (I64 ((i + 1 : Nat) : Int))]), (4, .box false [.d (I64 0), .d (.str []), .d (I64 0), .nl])]) (fun ⟨k⟩ => valK L d i = k) ?_ fun ⟨k⟩ hc4 => ?_
 ·refine LWp.seq ?_
  refine LWp.regAny hT hW hMixed (lk [[],[0],[0,1],[0,1,2],[0,1,2,3],[0,1,2,3,4],[0,1,2,3,4,5],[0,1,2],[0,1,2,7],[0,1,2,7,8],[0,1,2,7,8,9],[0,1,2,7,8,9,10],[0,1,2,3,4,5,6,7,8,9,10,11],[0,1,2,3,4,5,6,7,8,9,10,11,12]]) (lk [[],[],[],[],[],[],[],[],[],[],[],[],[],[]]) (lk [[],[],[],[],[],[],[],[],[],[],[],[],[],[]]) (by kernel_rfl) (fun _ => none) (fun _ => ⟨rfl, fun _ h => h⟩) ?_
  simp
  refine LWp.iff ?_
  simp
  refine ⟨fun h2 => ?_, fun h2 h2b => ?_⟩
  ·refine LWp.rz hT hW ?_
   simp
   refine cutQ.mk ⟨(atL L i 12).tmod 6⟩ (Weak.to [0, 1, 4, 5] [(0, 0), (4, 4)] (by decide) (by decide) (by simp [hp]) (by simp) (by simp)) ?_
   unfold valK; rw [if_pos (by omega)]
  ·refine LWp.skip ?_
   simp
   refine cutQ.mk ⟨atL L i 12⟩ (Weak.to [0, 1, 4, 5] [(0, 0), (4, 4)] (by decide) (by decide) (by simp [hp]) (by simp) (by simp)) ?_
   unfold valK; rw [if_neg (by omega)]
 ·refine LWp.seq ?_
  refine LWp.sz hT hW ?_
  simp
  refine LWp.block ?_
  refine LWp.seqCut (ι := BC) (fun ⟨b⟩ => mkEnv [(0, .bx 0 0), (1, .d (I64 (d : Nat))), (4, .bx 4 0), (5, .d (I64 k)), (25, .d (I64 (k))), (26, .d (.bool b))]) (fun ⟨b⟩ => mkObs [(0, .box false [.d (.sl (L.map I64)), .d (I64 ((i + 1 : Nat) : Int))]), (4, .box false [.d (I64 0), .d (.str []), .d (I64 0), .nl])]) (fun ⟨b⟩ => b = true ↔ (k = 0 ∨ k = 1)) ?_ fun ⟨b⟩ hc7 => ?_
  ·refine LWp.sz hT hW ?_
   simp
   refine LWp.iff ?_
   simp
   refine ⟨fun h5 => ?_, fun h5 => ?_⟩
   ·refine LWp.skip ?_
    simp
    refine cutQ.mk ⟨decide (k = 0)⟩ (Weak.to [0, 1, 4, 5, 25, 26] [(0, 0), (4, 4)] (by decide) (by decide) (by simp [hp]) (by simp) (by simp)) ?_
    simp [h5]
   ·refine LWp.rz hT hW ?_
    simp
    refine cutQ.mk ⟨decide (k = 1)⟩ (Weak.to [0, 1, 4, 5, 25, 26] [(0, 0), (4, 4)] (by decide) (by decide) (by simp [hp]) (by simp) (by simp)) ?_
    simp only [decide_eq_true_eq]; omega
  ·refine LWp.iff ?_
   simp
   refine ⟨fun h7 => ?_, fun h7 => ?_⟩
   ·have q7 := hc7.1 h7
    refine LWp.seq ?_
    have ha := MTake_ok L (i + 1) 6 hL (by omega) (by decide)
    have hr := atL_range L ((i : Int) + 1) 6 (by decide)
    have hc := num_at (L := L) (i := i + 1)
    simp [numsM] at hc
    refine LWp.ro hT hW (fun | 31 => some (.gen ⟨[(0, 0)], [], [], mkH L (i + 1 + 1), .d (I64 (atL L ((i : Int) + 1) 6))⟩) | _ => none) ?_
    simp [hc]
    refine ⟨⟨⟨⟨by decide, by simpa using ha⟩, by omega⟩, by omega⟩, ?_⟩
    refine LWp.ret ?_
    simp
    have e := value_num (L := L) (d := d) (i := i) (by simp only at hc4; omega)
    refine Weak.closed (x := (valueM L d i).1.d) (by simp [e, numsM]) ?_
    simp
    exact Weak.to [0] [(0, 0)] (by decide) (by decide) (by simp [hp]) (by simp) (by simp [e])
   ·have q7 : ¬ (k = 0 ∨ k = 1) := fun q => by simp [hc7.2 q] at h7
    refine LWp.sz hT hW ?_
    simp
    refine LWp.iff ?_
    simp
    refine ⟨fun h8 => ?_, fun h8 => ?_⟩
    ·refine LWp.seq ?_
     have hc := MOwn_ok L (i + 1) hL (by omega)
     refine LWp.ro hT hW (fun | 38 => some (.gen ⟨[(0, 0)], [], [], mkH L (i + 1 + 1), .d (.str (ownM L (i + 1)))⟩) | _ => none) ?_
     simp
     refine ⟨by simpa using hc, ?_⟩
     refine LWp.ret ?_
     simp
     have e := value_loc (L := L) (d := d) (i := i) (by simp only at hc4; omega)
     refine Weak.closed (x := (valueM L d i).1.d) (by simp [e]) ?_
     simp
     exact Weak.to [0] [(0, 0)] (by decide) (by decide) (by simp [hp]) (by simp) (by simp [e])
    ·refine LWp.seqCut (ι := BC) (fun ⟨b⟩ => mkEnv [(0, .bx 0 0), (1, .d (I64 (d : Nat))), (4, .bx 4 0), (5, .d (I64 k)), (25, .d (I64 (k))), (40, .d (.bool b))]) (fun ⟨b⟩ => mkObs [(0, .box false [.d (.sl (L.map I64)), .d (I64 ((i + 1 : Nat) : Int))]), (4, .box false [.d (I64 0), .d (.str []), .d (I64 0), .nl])]) (fun ⟨b⟩ => b = true ↔ (k = 3 ∨ k = 4)) ?_ fun ⟨b⟩ hc12 => ?_
     ·refine LWp.sz hT hW ?_
      simp
      refine LWp.iff ?_
      simp
      refine ⟨fun h10 => ?_, fun h10 => ?_⟩
      ·refine LWp.skip ?_
       simp
       refine cutQ.mk ⟨decide (k = 3)⟩ (Weak.to [0, 1, 4, 5, 25, 40] [(0, 0), (4, 4)] (by decide) (by decide) (by simp [hp]) (by simp) (by simp)) ?_
       simp [h10]
      ·refine LWp.rz hT hW ?_
       simp
       refine cutQ.mk ⟨decide (k = 4)⟩ (Weak.to [0, 1, 4, 5, 25, 40] [(0, 0), (4, 4)] (by decide) (by decide) (by simp [hp]) (by simp) (by simp)) ?_
       simp only [decide_eq_true_eq]; omega
     ·refine LWp.iff ?_
      simp
      refine ⟨fun h12 => ?_, fun h12 => ?_⟩
      ·have q12 := hc12.1 h12
       refine LWp.seq ?_
       have hc := MAt_ok L (i + 1) hL (by omega)
       refine LWp.ro hT hW (fun | 44 => some (.gen ⟨[(0, 0)], [], [], mkH L (placeM L (i + 1)).2, .d (placeM L (i + 1)).1.d⟩) | _ => none) ?_
       simp
       refine ⟨by simpa using hc, ?_⟩
       refine LWp.ret ?_
       simp
       have e := value_place (L := L) (d := d) (i := i) (by simp only at hc4; omega)
       refine Weak.closed (x := (valueM L d i).1.d) (by simp [e]) ?_
       simp
       exact Weak.to [0] [(0, 0)] (by decide) (by decide) (by simp [hp]) (by simp) (by simp [e])
      ·have q12 : ¬ (k = 3 ∨ k = 4) := fun q => by simp [hc12.2 q] at h12
       refine LWp.sz hT hW ?_
       simp
       refine LWp.iff ?_
       simp
       refine ⟨fun h13 => ?_, fun h13 => ?_⟩
       ·refine LWp.sz hT hW ?_
        simp
        refine LWp.ret ?_
        simp
        have e := value_kind (L := L) (d := d) (i := i) (by simp only at hc4; omega)
        refine Weak.closed (x := (valueM L d i).1.d) (by simp [e]) ?_
        simp
        exact Weak.to [0] [(0, 0)] (by decide) (by decide) (by simp [hp]) (by simp) (by simp [e])
       ·refine LWp.skip ?_
        simp
        refine LWp.seq ?_
        have hk6 : 6 ≤ k ∧ k < 12 := by have := valK_range L d i; simp only at hc4; omega
        obtain ⟨e, rfl⟩ : ∃ e, d = e + 1 := ⟨d - 1, by have := valK_range L d i; simp only at hc4; omega⟩
        have hp2 : 2 ^ (e + 1) = 2 * 2 ^ e := by rw [Nat.pow_succ, Nat.mul_comm]
        have hpe : 1 ≤ 2 ^ e := Nat.one_le_two_pow
        have hlt : e < 2 ^ e := Nat.lt_two_pow_self
        have c1 := ih e rfl (i + 1) (by omega)
        have t1 := value_to L e (i + 1)
        have c2 := ih e rfl (valueM L e (i + 1)).2 (by omega)
        have ez : ((e : Int) + 1) - 1 = e := by omega
        refine LWp.ro hT hW (fun | 51 => some (.gen ⟨[(0, 0)], [], [], mkH L (valueM L e (i + 1)).2, .d (valueM L e (i + 1)).1.d⟩) | _ => none) ?_
        simp [ez]
        refine ⟨⟨by omega, by simpa using c1⟩, ?_⟩
        refine LWp.seq ?_
        refine LWp.regAny hT hW hMixed (lk [[],[0],[0,1],[],[],[],[5],[4,5,6],[3,4,5,6,7],[0,1,2,3,4,5,6,7,8],[0,1,2,3,4,5,6,7,8,9]]) (lk [[0,60],[0,60],[0,60],[0],[],[],[],[],[],[],[]]) (lk [[],[],[],[],[],[],[],[0],[60],[],[4]]) (by kernel_rfl) (fun | 59 => some (.gen ⟨[(0, 0)], [], [], mkH L (valueM L e (valueM L e (i + 1)).2).2, .d (valueM L e (valueM L e (i + 1)).2).1.d⟩) | _ => none) (by intro d; first | exact ⟨rfl, fun _ h => h⟩ | (split <;> exact ⟨rfl, fun _ h => h⟩)) ?_
        simp [ez]
        refine ⟨⟨⟨⟨⟨by omega, by omega⟩, by omega⟩, by simpa using c2⟩, by decide⟩, ?_⟩
        refine LWp.ret ?_
        simp
        have ev := value_bin (L := L) (e := e) (i := i) (by simp only at hc4; omega)
        rw [show valK L (e + 1) i = k from hc4] at ev
        refine Weak.closed (x := (valueM L (e + 1) i).1.d) (by simp [ev]) ?_
        simp
        exact Weak.to [0] [(0, 0)] (by decide) (by decide) (by simp [hp]) (by simp) (by simp [ev])
theorem MValue_ok (L : List Int) (hL : MkL L) (hll : L.length ≤ 1000000) : ∀ (d i : Nat), i + 5 * 2 ^ d ≤ 2000000 → OkG Tryz.prog 56 [.bx 0 0, .d (I64 (d : Nat))] (mkH L i) (mkH L (valueM L d i).2) (.d (valueM L d i).1.d) := fun d => by
 induction d with
 | zero => exact fun i hi => MValue_step L 0 i hL hll hi fun e he => by omega
 | succ d ihd =>
  intro i hi
  refine MValue_step L (d + 1) i hL hll hi fun e he j hj => ?_
  have : e = d := by omega
  subst this
  exact ihd j hj
end
end Go.Eng
