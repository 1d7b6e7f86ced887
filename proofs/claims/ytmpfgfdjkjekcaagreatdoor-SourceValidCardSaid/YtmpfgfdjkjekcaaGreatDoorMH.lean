/-
  Texts of the proofs of this seat, part 8. No condition.
-/
import Derived.Test.YtmpfgfdjkjekcaaGreatDoorMG
import Derived.Test.YtmpfgfdjkjekcaaGreatDoorRows
import Derived.ChangeSame
import Derived.Lib.LaidTab
set_option linter.unusedVariables false
set_option linter.unusedSimpArgs false
namespace Go.Eng
open Go.Proofs
theorem own_len (L : List Int) (i : Nat) : (ownM L i).length ≤ 16 := by
  unfold ownM
  have : ∀ k : Nat, (ownL.getD k []).length ≤ 16 := fun k => by
    rw [List.getD_eq_getElem?_getD]
    cases e : ownL[k]? with
    | none => simp
    | some w =>
      have := List.mem_of_getElem? e
      exact (by decide : ∀ w ∈ ownL, w.length ≤ 16) w this
  exact this _
theorem weigh_leaf (k : Int) (t : Str) (n : Int) : weighN (.mk k t n []) = t.length + 1 := by simp [weighN, weighL]
theorem place_weigh (L : List Int) (i : Nat) : weighN (placeM L i).1 ≤ 34 := by
  have h1 := callM_len L (i + 1)
  have h2 := callM_len L (i + 2)
  unfold placeM
  split <;> simp only [weigh_leaf, List.length_append, List.length_cons] <;> omega
theorem value_weigh (L : List Int) : ∀ (d i : Nat), weighN (valueM L d i).1 + 1 ≤ 35 * 2 ^ d := fun d => by
  induction d with
  | zero =>
    intro i
    obtain ⟨r0, _, r2⟩ := valK_range L 0 i
    have r2 := r2 rfl
    have ho := own_len L (i + 1)
    have hp := place_weigh L (i + 1)
    by_cases h0 : valK L 0 i = 0 ∨ valK L 0 i = 1
    · rw [value_num h0]; simp [weigh_leaf]
    · by_cases h1 : valK L 0 i = 2
      · rw [value_loc h1]; simp only [weigh_leaf]; omega
      · by_cases h2 : valK L 0 i = 3 ∨ valK L 0 i = 4
        · rw [value_place h2]; omega
        · rw [value_kind (by omega)]; simp [weigh_leaf]
  | succ e ih =>
    intro i
    have hp1 : 1 ≤ 2 ^ e := Nat.one_le_two_pow
    have h2 : 2 ^ (e + 1) = 2 * 2 ^ e := by rw [Nat.pow_succ, Nat.mul_comm]
    have ho := own_len L (i + 1)
    have hp := place_weigh L (i + 1)
    obtain ⟨r0, _, _⟩ := valK_range L (e + 1) i
    by_cases h0 : valK L (e + 1) i = 0 ∨ valK L (e + 1) i = 1
    · rw [value_num h0]; simp only [weigh_leaf, List.length_nil]; omega
    · by_cases h1 : valK L (e + 1) i = 2
      · rw [value_loc h1]; simp only [weigh_leaf]; omega
      · by_cases h3 : valK L (e + 1) i = 3 ∨ valK L (e + 1) i = 4
        · rw [value_place h3]; omega
        · by_cases h4 : valK L (e + 1) i = 5
          · rw [value_kind h4]; simp only [weigh_leaf, List.length_nil]; omega
          · rw [value_bin (by omega)]
            have a := ih (i + 1)
            have b := ih (valueM L e (i + 1)).2
            simp only [weighN, weighL, List.length_nil]
            omega
theorem oneB_weigh {L : List Int} {d i C : Nat} {bl : Nat → Nd × Nat} (hb : ∀ j, weighN (bl j).1 ≤ C) : weighN (oneB L d bl i).1 ≤ 200 + 2 * C := by
  rw [oneB_eq rfl]
  have v1 := fun j => value_weigh L 1 j
  have v2 := fun j => value_weigh L 2 j
  have pl := place_weigh L (i + 1)
  have cl := callM_len L (i + 1)
  have ol := own_len L (i + 1)
  have ol2 := own_len L (i + 1 + 1)
  unfold oneC
  have a1 := v1 (i + 1)
  have a2 := v1 (i + 1 + 1)
  have a3 := v2 (i + 1)
  have a4 := v2 (i + 1 + 1)
  have a5 := v2 (placeM L (i + 1)).2
  have b1 := hb (valueM L 1 (i + 1)).2
  have b2 := hb ((bl (valueM L 1 (i + 1)).2).2 + 1)
  simp only [Nat.reducePow, Nat.reduceMul] at *
  repeat (first | (simp only [weighN, weighL, List.length_nil]; omega) | split)
theorem somes_weigh {L : List Int} {st : Nat → Nd × Nat} {C : Nat} (h : ∀ j, weighN (st j).1 ≤ C) : ∀ (m : Nat) (ks : List Nd) (j : Nat), weighL (somesM L st m ks j).1 ≤ weighL ks + m * C
  | 0, ks, j => by simp [somesM]
  | m + 1, ks, j => by
    unfold somesM
    split
    · simp
    · have a := somes_weigh (L := L) h m (ks ++ [(st j).1]) (st j).2
      have b := h j
      rw [weighL_append] at a
      simp only [weighL] at a
      rw [Nat.succ_mul]
      omega
theorem some_weigh {L : List Int} {st : Nat → Nd × Nat} {C : Nat} (h : ∀ j, weighN (st j).1 ≤ C) (i : Nat) : weighN (someM L st i).1 ≤ 1 + 3 * C := by
  have hr := atL_range L i 4 (by decide)
  have a := somes_weigh (L := L) h (atL L i 4).toNat [] (i + 1)
  have b : (atL L i 4).toNat * C ≤ 3 * C := Nat.mul_le_mul_right C (by omega)
  show weighN (.mk 8 [] 0 (somesM L st (atL L i 4).toNat [] (i + 1)).1) ≤ _
  simp only [weighN, weighL, List.length_nil] at *
  omega
def oneWt : Nat → Nat
  | 0 => 204
  | d + 1 => 200 + 2 * (1 + 3 * oneWt d)
theorem one_weigh (L : List Int) : ∀ d i, weighN (oneM L d i).1 ≤ oneWt d
  | 0, i => by
    rw [oneM]
    exact oneB_weigh (C := 2) fun j => by show weighN default ≤ 2; decide
  | d + 1, i => by
    rw [oneM]
    exact oneB_weigh (C := 1 + 3 * oneWt d) fun j => some_weigh (one_weigh L d) j
theorem body_weigh (L : List Int) : ∀ (m : Nat) (ks : List Nd) (j : Nat), weighL (bodyM L m ks j) ≤ weighL ks + m * oneWt 2
  | 0, ks, j => by simp [bodyM]
  | m + 1, ks, j => by
    unfold bodyM
    split
    · simp
    · have a := body_weigh L m (ks ++ [(oneM L 2 j).1]) (oneM L 2 j).2
      have b := one_weigh L 2 j
      rw [weighL_append] at a
      simp only [weighL] at a
      rw [Nat.succ_mul]
      omega
theorem items_weigh (L : List Int) : ∀ c, weighL (itemsM L c) ≤ 17 * c
  | 0 => Nat.le_refl _
  | c + 1 => by
    have a := items_weigh L c
    have b := callM_len L (3 + 2 * c)
    rw [itemsM, weighL_append]
    simp only [weighL, weigh_leaf]
    omega
theorem tree_weigh (l : List Int) : weighN (treeS l) ≤ 1000000 := by
  have hl : (l.take 48).length ≤ 48 := by rw [List.length_take]; omega
  have cl := callM_len (l.take 48) 1
  have r4 := atL_range (l.take 48) 2 4 (by decide)
  have bw := body_weigh (l.take 48) (l.take 48).length [] 2
  have b2 : (l.take 48).length * oneWt 2 ≤ 48 * oneWt 2 := Nat.mul_le_mul_right _ hl
  have b3 : oneWt 2 = 8758 := rfl
  have iw := items_weigh (l.take 48) (atL (l.take 48) 2 4).toNat
  unfold treeS treeB
  simp only []
  simp only [weighL] at bw
  repeat (first | (simp only [weighN, weighL, List.length_nil]; omega) | split)
theorem weighL_spoil : ∀ (ks : List Nd) (j : Nat) (hj : j < ks.length) (y : Nd), weighN y ≤ weighN ks[j] + 30 → weighL (ks.set j y) ≤ weighL ks + 30
  | x :: r, 0, _, y, h => by
    have h : weighN y ≤ weighN x + 30 := h
    simp only [List.set_cons_zero, weighL]; omega
  | x :: r, j + 1, hj, y, h => by
    have := weighL_spoil r j (by simpa using hj) y (by simpa using h)
    simp only [List.set_cons_succ, weighL]
    omega
theorem weighL_take (ks : List Nd) (n : Nat) : weighL (ks.take n) ≤ weighL ks := by
  have := weighL_append (ks.take n) (ks.drop n)
  rw [List.take_append_drop] at this
  omega
theorem spoilHere_weigh (x : Nd) (how b : Int) : weighN (spoilHere x how b) ≤ weighN x + 30 := by
  have ht : (spoilTexts.getD (around b 14).toNat []).length ≤ 20 := by
    rw [List.getD_eq_getElem?_getD]
    cases e : spoilTexts[(around b 14).toNat]? with
    | none => simp
    | some w =>
      have := List.mem_of_getElem? e
      exact (by decide : ∀ w ∈ spoilTexts, w.length ≤ 20) w this
  have h1 := weighN_eq x
  have h2 := weighL_take x.kids (x.kids.length / 2)
  have h3 := weighL_append x.kids [.mk 32 [] 0 []]
  have h4 : weighL [Nd.mk 32 [] 0 []] = 1 := rfl
  unfold spoilHere
  simp only []
  repeat (first | (rw [weighN]; omega) | split)
theorem spoil_weigh (x : Nd) : ∀ a how b : Int, weighN (spoilN x a how b) ≤ weighN x + 30 :=
  Nd.ind (p := fun x => ∀ a how b : Int, weighN (spoilN x a how b) ≤ weighN x + 30) (fun k t n ks ih a how b => by
    by_cases h : around a ((ks.length : Int) + 1) < ks.length
    · have hr := around_lt a ((ks.length : Int) + 1) (by omega)
      obtain ⟨j, hj⟩ : ∃ j : Nat, around a ((ks.length : Int) + 1) = (j : Int) := ⟨(around a ((ks.length : Int) + 1)).toNat, by omega⟩
      have hlt : j < ks.length := by omega
      rw [spoil_kid (x := .mk k t n ks) hj hlt]
      have := weighL_spoil ks j hlt _ (ih ks[j] (List.getElem_mem hlt) (a.tdiv ((ks.length : Int) + 1)) how b)
      simp only [weighN, Nd.kind_mk, Nd.text_mk, Nd.n_mk, Nd.kids_mk]
      omega
    · rw [spoil_here (x := .mk k t n ks) h]
      exact spoilHere_weigh _ _ _) x
def lvA : Str := [118, 97, 114, 32, 110, 61, 45, 55, 59]
def lvB : Str := [112, 114, 111, 99, 32, 112, 123, 36, 97, 61, 40, 120, 46, 121, 43, 49, 41, 42, 50, 59, 105, 102, 32, 36, 97, 60, 51, 123, 103, 111, 32, 113, 59, 125, 101, 108, 115, 101, 123, 125, 125]
def lvC : Str := [116, 101, 115, 116, 32, 116, 32, 123, 32, 99, 104, 101, 99, 107, 32, 49, 32, 61, 61, 32, 107, 105, 110, 100, 59, 32, 125]
def lvP : Str := [112, 114, 111, 99, 32, 112, 32, 123, 32, 36, 97, 32, 61, 32, 40, 120, 46, 121, 32, 43, 32, 49, 41, 32, 42, 32, 50, 59, 32, 105, 102, 32, 36, 97, 32, 60, 32, 51, 32, 123, 32, 103, 111, 32, 113, 59, 32, 125, 32, 101, 108, 115, 101, 32, 123, 32, 125, 32, 125]
def lvK : Nd := .mk 24 [] 0 [.mk 28 [] 0 [.mk 32 [] 1 [], .mk 36 [] 0 []]]
def lvT : List Str := [[99, 104, 97, 110, 32, 99, 32, 52, 59], [116, 101, 115, 116, 32, 116, 32, 123, 32, 120, 32, 61, 32, 59, 32, 125], [108, 111, 99, 107, 32, 108], [118, 97, 114, 32, 114, 101, 97, 100, 32, 61, 32, 49, 59]]
def lvO : List Int := [7, 13, 6, 4]
set_option maxRecDepth 10000
theorem lvA_parse : parseS lvA = (.mk 0 [110] (-7) [], 0, 0) := by decide
theorem lvA_print : printS (.mk 0 [110] (-7) []) = [118, 97, 114, 32, 110, 32, 61, 32, 45, 55, 59] := by decide
theorem lvB_parse : (parseS lvB).2 = (0, 0) := by decide
theorem lvB_size : sizeN (parseS lvB).1 = 15 := by decide
theorem lvB_weigh : weighN (parseS lvB).1 ≤ 1000 := by decide
theorem lvB_print : printS (parseS lvB).1 = lvP := by decide
theorem lvC_parse : parseS lvC = (.mk 6 [116] 0 [.mk 8 [] 0 [lvK]], 0, 0) := by decide
theorem lvC_head : headK (.mk 6 [116] 0 [.mk 8 [] 0 [lvK]]) = 6 ∧ headT (.mk 6 [116] 0 [.mk 8 [] 0 [lvK]]) = [116] := by decide
theorem lvT_parse : ∀ i, i < 4 → (parseS (lvT.getD i [])).2 = (lvO.getD i 0, if i = 0 then 5 else 2) := by decide
end Go.Eng
namespace Go.Eng
open Go.Proofs
attribute [local simp] runL stepL evalG evalOp opLV constLV putEnv dstOk upd upds Res.plain Res.cond Res.fail evalBin evalUn seqQ blockQ argsEnv lookL lookH RetIs memless freshL evalPick evalMin bval bok evalLen evalIn strip whenC guardOps guardC slotsOf
  runM foldS stepI stepM maskE wrIn lk renO lookN evalCall evalCallee optAll resLV resObj retLV retObj retsLV retsObj evalLoad evalIndexAddr evalField solid cellsD_agg cellsD_int cellsD_bool cellsD_str cellsD_sl cellsD_ro cellsD_fn cellsL_agg cellsL_dagg cellsL_int cellsL_bool cellsL_str cellsL_sl cellsL_fn cellsL_ow cellsL_bx cellsL_lfn cellsL_nl takeL takeD mkAgg allD eqD eqDs kindsAre kindIs LObj.live TK.isNone TK.agg TK.isBool TK.isStr TK.isStruct Op.operands Call.operands
  evalBuildSlice evalAppend elemsOf evalStore evalBuild fillL lookupF putL evalSlice bound evalConv elemsS freezes frozen loadR
  mkEnv_at mkObs_at close_d close_agg close_ow close_bx close_fn close_nl touch_d touch_agg touch_ow touch_bx touch_fn touch_nl ren_d ren_agg ren_bx ren_rp ren_ow ren_fn ren_nl ren_junk retQ_ret retQ2_ret condQ_bool Nm.d Df.d Ed.d nmsD dfsD strsD edsD retC_ret nm_eq df_eq take_map_len take_map_app
  nm_t nm_d nm_td df_t df_d df_td str_t str_d str_td ed_t ed_d ed_td
  evalAppendIn evalBuildSliceC evalCopyC shortL evalApart evalAppendC evalAppendZ evalAppendG evalCapC isOc TK.isInt close_oc touch_oc ren_oc cellsL_oc evalCut evalClear evalCopy evalMake evalWrap evalCap evalNil isNilC lenL isInp gorc gorc2
  mapOf findD keyEq keyOk evalMakeMap evalRange zeroD zeroDV argsG shutG outN lenv retG0_ret retG0_normal retG1_ret retGR_ret renO close_mp touch_mp ren_mp optAll_d optAll_d' touch_ds cellsL_mp cellsD_mp cellsL_dmp
  evalMapSet evalPtr TK.isPtr evalToArr firstL retN_ret retsQ rvarL close_bm touch_bm ren_bm cellsD_bm cellsL_bm cellsL_lbm
attribute [local simp] cutQ_normal cutQ_ret cutQ_exit
section
attribute [local simp] Res.cond Nd.d_eq nd_t nd_dr nd_td ndsD evalIndex retGC_ret tksD psH upds_same
attribute [local simp] constL1 one_i one_s one_l all4
theorem exprO_reads (n : Nat) : Reads n 140 (fun q => exprP false (q.l.length + 1) q) :=
  ⟨fun q _ hg => (Reads.expr (q.l.length + 1)).ok q (Nat.lt_succ_self _) hg, fun q hq hg => (exprO_rt n).le q hq hg⟩
theorem stmtP_eats : ∀ n, Eats n (stmtP false n)
  | 0 => fun q h => absurd h (Nat.not_lt_zero _)
  | n + 1 => stmtB_eats (exprO_stk false) (blockB_stk (stmtP_stk false n)) (exprO_rt (n + 1)) (blockB_rt (stmtP_stk false n) (stmtP_rt n))
theorem Reads.stmt : ∀ n : Nat, n ≤ 1100000 → Reads n 114 (stmtP false n)
  | 0, _ => ⟨fun q h _ => absurd h (Nat.not_lt_zero _), fun q h _ => absurd h (Nat.not_lt_zero _)⟩
  | n + 1, h => by
    have hB : Reads n 77 (blockB (stmtP false n)) :=
      ⟨fun q hq hg => block_ok q n (stmtP false n) (Reads.stmt n (by omega)) (stmtP_eats n) hq hg (by omega), fun q hq hg => (blockB_rt (stmtP_stk false n) (stmtP_rt n)).le q hq hg⟩
    refine ⟨fun q hq hg => ?_, fun q hq hg => (stmtP_rt (n + 1)).le q hq hg⟩
    exact stmt_rstep q n (fun q => exprP false (q.l.length + 1) q) (blockB (stmtP false n)) (exprO_reads (n + 1)) hB hq hg
theorem Reads.block (n : Nat) (h : n ≤ 1100000) : Reads n 77 (blockP false n) :=
  ⟨fun q hq hg => block_ok q n (stmtP false n) (Reads.stmt n h) (stmtP_eats n) hq hg (by omega), fun q hq hg => (blockB_rt (stmtP_stk false n) (stmtP_rt n)).le q hq hg⟩
theorem def_idx (s : Str) : defKind s = idxI (fun x => decide (s = x)) (wordsL.take 7) := by
  unfold defKind
  have e2 : (fun i => decide (wordsL.getD i [] = s)) = fun i => decide (s = wordsL.getD i []) := by funext i; rw [decide_eq_decide]; exact eq_comm
  have e := range_find (fun x => decide (s = x)) [] (wordsL.take 7)
  split
  · rename_i h; subst h; rfl
  · unfold idxI
    rw [← e]
    rw [e2]
    rfl
theorem def_range {s : Str} : -1 ≤ defKind s ∧ defKind s ≤ 6 := by
  unfold defKind
  split
  · omega
  · split
    · rename_i i e
      have := List.mem_of_find?_eq_some e
      simp at this
      omega
    · omega
theorem def_word {s : Str} (h : 0 ≤ defKind s) : wordAt (defKind s) = s ∧ s ≠ [] := by
  unfold defKind at *
  split at h
  · omega
  · rename_i hs
    split at h
    · rename_i i e
      have := List.find?_some e
      simp only [decide_eq_true_eq] at this
      rw [if_neg hs]
      exact ⟨this, hs⟩
    · omega
theorem def_neg {p : PS} (h : defKind p.peek < 0) : defP false p = (.mk 0 [] 0 [], p.fail 2) := by unfold defP; simp only []; rw [if_pos h]
theorem def_skip {p : PS} (h : ¬ defKind p.peek < 0) : p.skip = p.took (wordAt (defKind p.peek)) := by
  obtain ⟨h1, h2⟩ := def_word (s := p.peek) (by omega)
  rw [h1, took_is (is_iff.2 ⟨h2, rfl⟩)]
section
variable {p q : PS} {t : Str} {k : Int} (hk : defKind p.peek = k) (h : ¬ k < 0) (hn : nameP (p.took (wordAt k)) = (t, q))
include hk h hn
theorem def_block (h5 : k = 5 ∨ k = 6) : defP false p = (.mk k t 0 [(blockP false (q.l.length + 1) q).1], (blockP false (q.l.length + 1) q).2) := by
  subst hk
  unfold defP; simp only []; rw [if_neg h, def_skip h, hn, if_pos h5]
theorem def_rec (h1 : k = 1) : defP false p = (.mk k t 0 (itemsF ((q.need [123]).l.length + 1) [] (q.need [123])).1, (itemsF ((q.need [123]).l.length + 1) [] (q.need [123])).2.need [125]) := by
  subst hk
  unfold defP; simp only []; rw [if_neg h, def_skip h, hn, if_neg (by omega), if_pos h1]
theorem def_var (h1 : k = 0) : defP false p = (.mk k t (numberP (q.need [61])).1 [], (numberP (q.need [61])).2.need [59]) := by
  subst hk
  unfold defP; simp only []; rw [if_neg h, def_skip h, hn, if_neg (by omega), if_neg (by omega), if_pos h1]
theorem def_chan (h1 : k = 2) : defP false p = (.mk k t (numeralP 2 q).1 [], (numeralP 2 q).2.need [59]) := by
  subst hk
  unfold defP; simp only []; rw [if_neg h, def_skip h, hn, if_neg (by omega), if_neg (by omega), if_neg (by omega), if_pos h1]
theorem def_else (h1 : ¬ (k = 5 ∨ k = 6)) (h2 : ¬ k = 1) (h3 : ¬ k = 0) (h4 : ¬ k = 2) : defP false p = (.mk k t 0 [], q.need [59]) := by
  subst hk
  unfold defP; simp only []; rw [if_neg h, def_skip h, hn, if_neg h1, if_neg h2, if_neg h3, if_neg h4]
end
theorem items_end {ks : List Nd} {q : PS} (h : q.e = 0 → q.peek = [125]) : ∀ f, itemsF f ks q = (ks, q)
  | 0 => rfl
  | f + 1 => by
    rw [itemsF, if_pos]
    by_cases e : q.e = 0
    · exact .inr (h e)
    · exact .inl e
theorem items_go {ks : List Nd} {q : PS} {f : Nat} (hf : q.l.length < f) (h : q.e = 0) (hp : ¬ q.peek = [125]) :
    itemsF f ks q = itemsF (f - 1) (ks ++ [.mk 7 (nameP q).1 (numberP ((nameP q).2.need [61])).1 []]) ((numberP ((nameP q).2.need [61])).2.need [59]) := by
  obtain ⟨k, rfl⟩ : ∃ k, f = k + 1 := ⟨f - 1, by omega⟩
  rw [itemsF, if_neg]
  · rfl
  · rintro (e | e)
    · exact e h
    · exact hp e
theorem item_eats {q : PS} (h : GoodT q.l) : ((numberP ((nameP q).2.need [61])).2.need [59]).l.length ≤ q.l.length ∧ GoodT ((numberP ((nameP q).2.need [61])).2.need [59]).l ∧
    (((numberP ((nameP q).2.need [61])).2.need [59]).e = 0 → ((numberP ((nameP q).2.need [61])).2.need [59]).l.length < q.l.length) := by
  have g1 := nameP_good h
  have g2 := good_need (s := [61]) g1.2.1
  have g3 := numberP_good g2.2
  have g4 := good_need (s := [59]) g3.2.1
  refine ⟨by omega, g4.2, fun e => ?_⟩
  have e1 := (need_e e).1
  have l1 := is_len e1
  have : (numberP ((nameP q).2.need [61])).2.need [59] = (numberP ((nameP q).2.need [61])).2.skip := by rw [need_is e1, took_is e1]
  rw [this]
  omega
theorem glob0_cells : ∀ x ∈ List.take 26 glob0, (cellsD x).length = 1 := by
  intro x hx
  rw [glob0_take] at hx
  obtain ⟨a, _, rfl⟩ := List.mem_map.1 hx
  rfl
theorem glob0_take7 : List.take 7 glob0 = (wordsL.take 7).map DV.str := rfl
structure DnS where
  n : Int
  q : PS
theorem def_ok (p : PS) (hg : GoodT p.l) (hb : p.l.length ≤ 1000000) : OkG Tryz.prog 52 [.bx 0 0] (psH p) (psH (defP false p).2) (.d (defP false p).1.d) := by
  unfold psH
  refine OkG.cell hT Tryz.func52 (by kernel_rfl) (c := _) rfl Tryz.ntmps52 (by simp) Tryz.results52 fun w0 X hp => ?_
  refine LWp.seq ?_
  refine LWp.rz hT hW ?_
  simp
  refine LWp.seq ?_
  have hi := IndexOfStr_ok (wordsL.take 7) p.peek
  have q2 := glob0_len
  rw [← def_idx] at hi
  have hr := def_range (s := p.peek)
  refine LWp.regAny hT hW hMixed (lk [[],[],[1],[0,1,2],[0,1,2,3]]) (lk [[0],[],[],[],[]]) (lk [[],[],[0],[],[]]) (by kernel_rfl) (fun | 8 => some (.gen ⟨[(0, 0)], [], [], psH p, .d (.str p.peek)⟩) | 9 => some <| .plain ⟨.d (I64 (defKind p.peek)), true⟩ | _ => none) (by intro d; first | exact ⟨rfl, fun _ h => h⟩ | (split <;> exact ⟨rfl, fun _ h => h⟩)) ?_
  simp [glob0_take7]
  refine ⟨⟨⟨⟨by omega, glob0_cells⟩, peek_ok p⟩, by simpa using hi⟩, ?_⟩
  refine LWp.seq ?_
  refine LWp.seq ?_
  refine LWp.ro hT hW (fun | 14 => some (.gen ⟨[(0, 0)], [], [], psH p, .d (.str p.peek)⟩) | _ => none) ?_
  simp [upds_then]
  refine ⟨fun _ => peek_ok p, ?_⟩
  refine LWp.iff ?_
  simp
  refine ⟨fun h2 => ?_, fun h2 h2b => ?_⟩
  · have h2 : defKind p.peek < 0 := by
      rcases h2 with h | h
      · exact h
      · rw [h]; decide
    refine LWp.seq ?_
    refine LWp.ro hT hW (fun | 18 => some (.gen ⟨[(0, 0)], [], [], psH (p.fail 2), .tup []⟩) | _ => none) ?_
    simp
    refine ⟨fail_ok p 2, ?_⟩
    refine LWp.seq ?_
    refine LWp.rz hT hW ?_
    simp
    refine LWp.ret ?_
    simp
    have e := def_neg h2
    refine Weak.closed (x := (defP false p).1.d) (by simp [e]) ?_
    simp
    exact Weak.to [0] [(0, 0)] (by decide) (by decide) (by simp [hp]) (by simp) (by simp [e])
  · have hlt : ¬ defKind p.peek < 0 := by omega
    refine LWp.skip ?_
    simp
    refine LWp.seq ?_
    have hlt : ¬ defKind p.peek < 0 := by omega
    have wat := word_at (k := defKind p.peek) (by omega) (by omega)
    have htk := take_ok p (wordAt (defKind p.peek))
    refine LWp.ro hT hW (fun | 24 => some (.gen ⟨[(0, 0)], [], [], psH (p.took (wordAt (defKind p.peek))), .d (.bool (p.is (wordAt (defKind p.peek))))⟩) | _ => none) ?_
    simp [wat]
    refine ⟨⟨⟨by omega, by omega⟩, htk⟩, ?_⟩
    refine LWp.seq ?_
    have hna := name_ok (p.took (wordAt (defKind p.peek)))
    have gt := good_took (s := wordAt (defKind p.peek)) hg
    have gl := nameP_good gt
    have lt : (p.took (wordAt (defKind p.peek))).l.length ≤ p.l.length := by unfold PS.took; split; exact skip_len; exact Nat.le_refl _
    refine LWp.ro hT hW (fun | 27 => some (.gen ⟨[(0, 0)], [], [], psH (nameP (p.took (wordAt (defKind p.peek)))).2, .d (.str (nameP (p.took (wordAt (defKind p.peek)))).1)⟩) | _ => none) ?_
    simp
    refine ⟨hna, ?_⟩
    obtain ⟨k, hk⟩ : ∃ k, defKind p.peek = k := ⟨_, rfl⟩
    obtain ⟨⟨t, q⟩, hn⟩ : ∃ x, nameP (p.took (wordAt (defKind p.peek))) = x := ⟨_, rfl⟩
    simp only [hn] at gl
    have lq : q.l.length ≤ p.l.length := by omega
    simp only [hn]
    rw [hk] at hlt hn hr ⊢
    refine LWp.seqCut (ι := DnS) (fun ⟨n, r⟩ => mkEnv [(0, .bx 0 0), (2, .bx 2 0), (4, .bx 4 0)]) (fun ⟨n, r⟩ => mkObs [(0, .box false [.d (tksD r.l), .d (I64 r.e)]), (2, .box false [.d (I64 0), .d (.str []), .d (I64 0), .nl]), (4, .box false [.d (I64 k), .d (.str t), .d (I64 n), .nl])]) (fun ⟨n, r⟩ => defP false p = (.mk k t n [], r.need [59])) ?_ fun ⟨n, r⟩ hc27 => ?_
    · refine LWp.seq ?_
      refine LWp.rz hT hW ?_
      simp
      refine LWp.block ?_
      refine LWp.seqCut (ι := BC) (fun ⟨b⟩ => mkEnv [(0, .bx 0 0), (2, .bx 2 0), (4, .bx 4 0), (29, .d (I64 k)), (30, .d (.bool b))]) (fun ⟨b⟩ => mkObs [(0, .box false [.d (tksD q.l), .d (I64 q.e)]), (2, .box false [.d (I64 0), .d (.str []), .d (I64 0), .nl]), (4, .box false [.d (I64 k), .d (.str t), .d (I64 0), .nl])]) (fun ⟨b⟩ => b = true ↔ (k = 5 ∨ k = 6)) ?_ fun ⟨b⟩ hc10 => ?_
      · refine LWp.seq ?_
        refine LWp.rz hT hW ?_
        simp
        refine LWp.iff ?_
        simp
        refine ⟨fun h8 => ?_, fun h8 => ?_⟩
        · refine LWp.skip ?_
          simp
          refine cutQ.mk ⟨decide (k = 5)⟩ (Weak.to [0, 2, 4, 29, 30] [(0, 0), (2, 2), (4, 4)] (by decide) (by decide) (by simp [hp]) (by simp) (by simp)) ?_
          simp [h8]
        · refine LWp.rz hT hW ?_
          simp
          refine cutQ.mk ⟨decide (k = 6)⟩ (Weak.to [0, 2, 4, 29, 30] [(0, 0), (2, 2), (4, 4)] (by decide) (by decide) (by simp [hp]) (by simp) (by simp)) ?_
          simp only [decide_eq_true_eq]; omega
      · refine LWp.iff ?_
        simp
        refine ⟨fun h10 => ?_, fun h10 => ?_⟩
        · have q10 := hc10.1 h10
          refine LWp.seq ?_
          have hbl := (Reads.block (q.l.length + 1) (by omega)).ok q (Nat.lt_succ_self _) gl.2.1
          refine LWp.ro hT hW (fun | 34 => some (.gen ⟨[(0, 0)], [], [], psH (blockP false (q.l.length + 1) q).2, .d (blockP false (q.l.length + 1) q).1.d⟩) | _ => none) ?_
          simp
          refine ⟨by simpa using hbl, ?_⟩
          refine LWp.seq ?_
          refine LWp.rz hT hW ?_
          simp
          refine LWp.ret ?_
          simp
          have e := def_block hk hlt hn q10
          refine Weak.closed (x := (defP false p).1.d) (by simp [e]) ?_
          simp
          exact Weak.to [0] [(0, 0)] (by decide) (by decide) (by simp [hp]) (by simp) (by simp [e])
        · have q10 : ¬ (k = 5 ∨ k = 6) := fun z => by simp [hc10.2 z] at h10
          refine LWp.seq ?_
          refine LWp.rz hT hW ?_
          simp
          refine LWp.iff ?_
          simp
          refine ⟨fun h12 => ?_, fun h12 => ?_⟩
          · refine LWp.seq ?_
            have hne := need_ok q [123]
            have gn := good_need (s := [123]) gl.2.1
            refine LWp.ro hT hW (fun | 41 => some (.gen ⟨[(0, 0)], [], [], psH (q.need [123]), .tup []⟩) | _ => none) ?_
            simp
            refine ⟨hne, ?_⟩
            refine LWp.nlCell (fz := false) (cs := [.d (I64 k), .d (.str t), .d (I64 0), .nl]) 4 3 1066 4 (by decide) ⟨by simp, by simp, by simp, ?_⟩
            simp
            refine LWp.seq ?_
            refine LWp.block ?_
            refine LWp.loopW (ι := BlS) (fun ⟨f, ks, r⟩ => mkEnv [(0, .bx 0 0), (2, .bx 2 0), (4, .bx 4 0)]) (fun ⟨f, ks, r⟩ => mkObs [(0, .box false [.d (tksD r.l), .d (I64 r.e)]), (2, .box false [.d (I64 0), .d (.str []), .d (I64 0), .nl]), (4, .box false [.d (I64 k), .d (.str t), .d (I64 0), .ow 1066 0 ks.length]), (1066, .row false 4 (ks.map Nd.d))]) (fun ⟨f, ks, r⟩ => (r.e = 0 → r.l.length < f) ∧ GoodT r.l ∧ r.l.length ≤ p.l.length ∧ ks.length + r.l.length ≤ p.l.length + (if r.e = 0 then 0 else 1) ∧ itemsF ((q.need [123]).l.length + 1) [] (q.need [123]) = itemsF f ks r) (fun ⟨f, ks, r⟩ => 2 * r.l.length + (if r.e = 0 then 1 else 0)) ⟨(q.need [123]).l.length + 1, [], q.need [123]⟩ (Weak.to [0, 2, 4] [(0, 0), (2, 2), (4, 4), (1066, 1066)] (by decide) (by decide) (by simp [hp]) (by simp) (by simp)) (⟨fun _ => Nat.lt_succ_self _, gn.2, by have := gn.1; omega, by have := gn.1; simp only [List.length_nil]; omega, rfl⟩) fun ⟨f, ks, r⟩ hi14 => ?_
            refine LWp.seq ?_
            refine LWp.seq ?_
            have hpk := peek_ok r
            refine LWp.ro hT hW (fun | 49 => some (.gen ⟨[(0, 0)], [], [], psH r, .d (.str r.peek)⟩) | _ => none) ?_
            simp [upds_then]
            refine ⟨fun _ => hpk, ?_⟩
            refine LWp.iff ?_
            simp
            refine ⟨fun g1 g2 => ?_, fun g => ?_⟩
            · refine LWp.skip ?_
              simp
              refine LWp.block ?_
              refine LWp.seq ?_
              have ha : r.l.length ≤ p.l.length := hi14.2.2.1
              have hks : ks.length + r.l.length ≤ p.l.length := by have z := hi14.2.2.2.1; simp only [g1, if_true] at z; omega
              have hle := item_eats (q := r) hi14.2.1
              have hn15 := name_ok r
              have g15 := nameP_good (p := r) hi14.2.1
              have g16 := good_need (s := [61]) g15.2.1
              refine LWp.ro hT hW (fun | 53 => some (.gen ⟨[(0, 0)], [], [], psH (nameP r).2, .d (.str (nameP r).1)⟩) | _ => none) ?_
              simp
              refine ⟨hn15, ?_⟩
              refine LWp.seq ?_
              have hn16 := need_ok (nameP r).2 [61]
              refine LWp.ro hT hW (fun | 56 => some (.gen ⟨[(0, 0)], [], [], psH ((nameP r).2.need [61]), .tup []⟩) | _ => none) ?_
              simp
              refine ⟨hn16, ?_⟩
              refine LWp.seq ?_
              have hn17 := number_ok ((nameP r).2.need [61]) g16.2
              refine LWp.ro hT hW (fun | 58 => some (.gen ⟨[(0, 0)], [], [], psH (numberP ((nameP r).2.need [61])).2, .d (I64 (numberP ((nameP r).2.need [61])).1)⟩) | _ => none) ?_
              simp
              refine ⟨hn17, ?_⟩
              refine LWp.seq ?_
              have hn18 := need_ok (numberP ((nameP r).2.need [61])).2 [59]
              refine LWp.ro hT hW (fun | 61 => some (.gen ⟨[(0, 0)], [], [], psH ((numberP ((nameP r).2.need [61])).2.need [59]), .tup []⟩) | _ => none) ?_
              simp
              refine ⟨hn18, ?_⟩
              refine LWp.rz hT hW ?_
              simp
              refine ⟨⟨by omega, by omega⟩, ?_⟩
              refine loopQ.mk ⟨f - 1, ks ++ [.mk 7 (nameP r).1 (numberP ((nameP r).2.need [61])).1 []], (numberP ((nameP r).2.need [61])).2.need [59]⟩ (Weak.to [0, 2, 4] [(0, 0), (2, 2), (4, 4), (66, 1066)] (by decide) (by decide) (by simp [hp]) (by simp) (by simp)) ?_ ?_
              · refine ⟨fun e => ?_, hle.2.1, ?_, ?_, ?_⟩
                · show ((numberP ((nameP r).2.need [61])).2.need [59]).l.length < f - 1
                  have z := hi14.1 g1
                  have h := hle.2.2 e
                  omega
                · show ((numberP ((nameP r).2.need [61])).2.need [59]).l.length ≤ p.l.length
                  omega
                · show (ks ++ [Nd.mk 7 (nameP r).1 (numberP ((nameP r).2.need [61])).1 []]).length + ((numberP ((nameP r).2.need [61])).2.need [59]).l.length ≤ p.l.length + (if ((numberP ((nameP r).2.need [61])).2.need [59]).e = 0 then 0 else 1)
                  rw [List.length_append, List.length_singleton]
                  by_cases e : ((numberP ((nameP r).2.need [61])).2.need [59]).e = 0
                  · rw [if_pos e]
                    have h := hle.2.2 e
                    omega
                  · rw [if_neg e]; omega
                · rw [hi14.2.2.2.2]; exact items_go (hi14.1 g1) g1 g2
              · show 2 * ((numberP ((nameP r).2.need [61])).2.need [59]).l.length + (if ((numberP ((nameP r).2.need [61])).2.need [59]).e = 0 then 1 else 0) < 2 * r.l.length + (if r.e = 0 then 1 else 0)
                rw [if_pos g1]
                by_cases e : ((numberP ((nameP r).2.need [61])).2.need [59]).e = 0
                · rw [if_pos e]
                  have h := hle.2.2 e
                  omega
                · rw [if_neg e]; omega
            · refine LWp.exit ?_
              simp
              refine LWp.seq ?_
              have hn20 := need_ok r [125]
              refine LWp.ro hT hW (fun | 69 => some (.gen ⟨[(0, 0)], [], [], psH (r.need [125]), .tup []⟩) | _ => none) ?_
              simp
              refine ⟨hn20, ?_⟩
              refine LWp.seq ?_
              refine LWp.rz hT hW ?_
              simp
              refine LWp.ret ?_
              simp
              have e : defP false p = (.mk k t 0 ks, r.need [125]) := by rw [def_rec hk hlt hn h12, hi14.2.2.2.2, items_end g]
              refine Weak.closed (x := (defP false p).1.d) (by simp [e]) ?_
              simp
              exact Weak.to [0] [(0, 0)] (by decide) (by decide) (by simp [hp]) (by simp) (by simp [e])
          · refine LWp.seq ?_
            refine LWp.rz hT hW ?_
            simp
            refine LWp.iff ?_
            simp
            refine ⟨fun h22 => ?_, fun h22 => ?_⟩
            · refine LWp.seq ?_
              have hne := need_ok q [61]
              have gn := good_need (s := [61]) gl.2.1
              refine LWp.ro hT hW (fun | 74 => some (.gen ⟨[(0, 0)], [], [], psH (q.need [61]), .tup []⟩) | _ => none) ?_
              simp
              refine ⟨hne, ?_⟩
              have hnu := number_ok (q.need [61]) gn.2
              refine LWp.ro hT hW (fun | 76 => some (.gen ⟨[(0, 0)], [], [], psH (numberP (q.need [61])).2, .d (I64 (numberP (q.need [61])).1)⟩) | _ => none) ?_
              simp
              refine ⟨hnu, ?_⟩
              refine cutQ.mk ⟨(numberP (q.need [61])).1, (numberP (q.need [61])).2⟩ (Weak.to [0, 2, 4] [(0, 0), (2, 2), (4, 4)] (by decide) (by decide) (by simp [hp]) (by simp) (by simp)) ?_
              exact def_var hk hlt hn h22
            · refine LWp.seq ?_
              refine LWp.rz hT hW ?_
              simp
              refine LWp.iff ?_
              simp
              refine ⟨fun h25 => ?_, fun h25 => ?_⟩
              · have hnu := numeral_ok q 2 gl.2.1 (by decide)
                refine LWp.ro hT hW (fun | 81 => some (.gen ⟨[(0, 0)], [], [], psH (numeralP 2 q).2, .d (I64 (numeralP 2 q).1)⟩) | _ => none) ?_
                simp
                refine ⟨hnu, ?_⟩
                refine cutQ.mk ⟨(numeralP 2 q).1, (numeralP 2 q).2⟩ (Weak.to [0, 2, 4] [(0, 0), (2, 2), (4, 4)] (by decide) (by decide) (by simp [hp]) (by simp) (by simp)) ?_
                exact def_chan hk hlt hn h25
              · refine LWp.skip ?_
                simp
                refine cutQ.mk ⟨0, q⟩ (Weak.to [0, 2, 4] [(0, 0), (2, 2), (4, 4)] (by decide) (by decide) (by simp [hp]) (by simp) (by simp)) ?_
                exact def_else hk hlt hn q10 h12 h22 h25
    · refine LWp.seq ?_
      have hne := need_ok r [59]
      refine LWp.ro hT hW (fun | 84 => some (.gen ⟨[(0, 0)], [], [], psH (r.need [59]), .tup []⟩) | _ => none) ?_
      simp
      refine ⟨hne, ?_⟩
      refine LWp.seq ?_
      refine LWp.rz hT hW ?_
      simp
      refine LWp.ret ?_
      simp
      refine Weak.closed (x := (defP false p).1.d) (by simp [hc27]) ?_
      simp
      exact Weak.to [0] [(0, 0)] (by decide) (by decide) (by simp [hp]) (by simp) (by simp [hc27])
end
open Go.Proofs
section
attribute [local simp] Res.cond Nd.d_eq nd_t nd_dr nd_td ndsD evalIndex retGC_ret tksD psH upds_same
theorem parse_left {s : Str} {R : Nd × PS} (hR : defP false ⟨(scanS s).1, 0⟩ = R) (hl : s.length ≤ 1024) {x : Tk} {r : List Tk} (h : R.2.l = x :: r) : parseS s = (zeroNd, x.at_, if R.2.e ≠ 0 then R.2.e else 2) := by
  unfold parseS; rw [if_neg (by omega)]; simp only []; rw [hR, h]
theorem parse_short {s : Str} {R : Nd × PS} (hR : defP false ⟨(scanS s).1, 0⟩ = R) (hl : s.length ≤ 1024) (h : R.2.l = []) (h2 : ¬ R.2.e = 0 ∨ (scanS s).2 < s.length) : parseS s = (zeroNd, (scanS s).2, 2) := by
  unfold parseS; rw [if_neg (by omega)]; simp only []; rw [hR, h]; simp only []; rw [if_pos h2]
theorem parse_end {s : Str} {R : Nd × PS} (hR : defP false ⟨(scanS s).1, 0⟩ = R) (hl : s.length ≤ 1024) (h : R.2.l = []) (h2 : ¬ (¬ R.2.e = 0 ∨ (scanS s).2 < s.length)) : parseS s = if validB R.1 then (R.1, 0, 0) else (zeroNd, 0, 4) := by
  unfold parseS; rw [if_neg (by omega)]; simp only []; rw [hR, h]; simp only []; rw [if_neg h2]
theorem Parse_step (s : Str) (R : Nd × PS) (hR : defP false ⟨(scanS s).1, 0⟩ = R) (hD : s.length ≤ 1024 → OkG Tryz.prog 52 [.bx 0 0] (psH ⟨(scanS s).1, 0⟩) (psH R.2) (.d R.1.d)) (hw : s.length ≤ 1024 → weighN R.1 ≤ 1000000000) : Ok Tryz.prog 25 [.str s] ⟨.tup [.d (parseS s).1.d, .d (I64 (parseS s).2.1), .d (I64 (parseS s).2.2)], false⟩ := by
  refine Ok.many hT Tryz.func25 (by kernel_rfl) (c := _) rfl Tryz.ntmps25 (by simp) Tryz.results25 (by simp) (by rfl) fun w0 X hp => ?_
  refine LWp.seq ?_
  refine LWp.rz hT hW ?_
  simp
  refine LWp.seq ?_
  refine LWp.seq ?_
  refine LWp.rz hT hW ?_
  simp
  refine LWp.iff ?_
  simp
  refine ⟨fun h1 => ?_, fun h1 => ?_⟩
  · refine LWp.seq ?_
    refine LWp.rz hT hW ?_
    simp
    refine LWp.ret ?_
    have e : parseS s = (zeroNd, 1024, 4) := by unfold parseS; rw [if_pos (by omega)]
    simp [e, zeroNd]
  · refine LWp.skip ?_
    simp
    refine LWp.seq ?_
    have hs := scan_ok s (by omega)
    refine LWp.ro hT hW (fun | 15 => some <| .plain ⟨.tup [.d (.sl ((scanS s).1.map Tk.d)), .d (I64 (scanS s).2)], true⟩ | _ => none) ?_
    simp [evalExtract]
    refine ⟨hs, ?_⟩
    refine LWp.seq ?_
    refine LWp.rz hT hW ?_
    simp
    refine LWp.seq ?_
    have hd := hD (by omega)
    refine LWp.ro hT hW (fun | 22 => some (.gen ⟨[(20, 0)], [], [], psH R.2, .d R.1.d⟩) | _ => none) ?_
    simp
    refine ⟨by simpa using hd, ?_⟩
    refine LWp.seq ?_
    refine LWp.block ?_
    refine LWp.seq ?_
    refine LWp.rz hT hW ?_
    simp
    refine LWp.iff ?_
    simp
    refine ⟨fun g1 g2 => ?_, fun g => ?_⟩
    · refine LWp.seq ?_
      obtain ⟨x, r, hxr⟩ := List.exists_cons_of_length_pos g2
      have hx2 : (cellsD x.d).length = 2 := rfl
      refine LWp.regAny hT hW hMixed (lk [[],[],[1],[1,2],[1,2,3],[1,2,3,4],[1,2,3,4,5],[1,2,3,4,5,6],[],[8],[8,9],[8,9,10],[0],[0,1,2,3,4,5,6,7,12],[0,1,2,3,4,5,6,7,8,9,10,11,12,13]]) (lk [[],[2],[2],[2],[2],[2],[2],[2],[2],[2],[2],[2],[],[],[]]) (lk [[],[],[],[],[],[],[],[],[],[],[],[],[2],[],[]]) (by kernel_rfl) (fun _ => none) (fun _ => ⟨rfl, fun _ h => h⟩) ?_
      simp [hxr, Tk.d]
      refine LWp.ret ?_
      have e := parse_left hR (by omega) hxr
      simp [e, zeroNd, g1]
    · refine LWp.seq ?_
      refine LWp.rz hT hW ?_
      simp
      refine LWp.iff ?_
      simp
      refine ⟨fun h8 => ?_, fun h8 => ?_⟩
      · refine LWp.seq ?_
        obtain ⟨x, r, hxr⟩ := List.exists_cons_of_length_pos h8
        refine LWp.regAny hT hW hMixed (lk [[],[],[1],[1,2],[1,2,3],[1,2,3,4],[1,2,3,4,5],[1,2,3,4,5,6],[0],[0,1,2,3,4,5,6,7,8],[0,1,2,3,4,5,6,7,8,9]]) (lk [[],[2],[2],[2],[2],[2],[2],[2],[],[],[]]) (lk [[],[],[],[],[],[],[],[],[2],[],[]]) (by kernel_rfl) (fun _ => none) (fun _ => ⟨rfl, fun _ h => h⟩) ?_
        simp [hxr, Tk.d]
        refine LWp.ret ?_
        have e := parse_left hR (by omega) hxr
        have g9 : R.2.e = 0 := Classical.byContradiction fun q => by have := g q; rw [this] at hxr; cases hxr
        simp [e, zeroNd, g9]
      · refine LWp.seq ?_
        refine LWp.rz hT hW ?_
        simp
        refine LWp.iff ?_
        simp
        refine ⟨fun h10 => ?_, fun h10 h11 => ?_⟩
        · refine LWp.seq ?_
          refine LWp.rz hT hW ?_
          simp
          refine LWp.ret ?_
          have e := parse_short hR (by omega) h8 h10
          simp [e, zeroNd]
        · refine LWp.seq ?_
          have hv := Valid_ok R.1 (hw (by omega))
          refine LWp.ro hT hW (fun | 80 => some <| .plain ⟨.d (.bool (validB R.1)), true⟩ | _ => none) ?_
          simp
          refine ⟨by simpa using hv, ?_⟩
          refine LWp.iff ?_
          simp
          refine ⟨fun h12 => ?_, fun h12 => ?_⟩
          · refine LWp.seq ?_
            refine LWp.rz hT hW ?_
            simp
            refine LWp.ret ?_
            have e := parse_end hR (by omega) h8 (by omega)
            simp [e, h12, zeroNd]
          · refine LWp.skip ?_
            simp
            refine LWp.seq ?_
            refine LWp.rz hT hW ?_
            simp
            refine LWp.ret ?_
            have e := parse_end hR (by omega) h8 (by omega)
            simp [e, h12]
end
end Go.Eng
namespace Go.Eng
def Wt (x : PS → Nd × PS) : Prop := ∀ p : PS, GoodT p.l → weighN (x p).1 + 41 * (x p).2.l.length ≤ 41 * p.l.length + 40 ∧ GoodT (x p).2.l
theorem place_wt : Wt placeP := fun p h => by
  have a := nameP_good h
  have t1 := name_tl h
  unfold placeP
  split
  · have b := nameP_good (good_skip a.2.1)
    have t2 := name_tl (p := (nameP p).2.skip) (good_skip a.2.1)
    have s := skip_len (p := (nameP p).2)
    refine ⟨?_, b.2.1⟩
    simp only [weighN, weighL, List.length_append, List.length_cons]
    omega
  · refine ⟨?_, a.2.1⟩
    simp only [weighN, weighL]
    omega
theorem fact_wt {ex : PS → Nd × PS} (hx : Wt ex) : Wt (factP ex) := fun p h => by
  unfold factP
  split
  · have a := hx p.skip (good_skip h)
    have s := skip_len (p := p)
    have n := need_le (p := (ex p.skip).2) (s := [41])
    exact ⟨by simp only; omega, (good_need a.2).2⟩
  · split
    · have s := skip_len (p := p)
      exact ⟨by simp only [weighN, weighL, List.length_nil]; omega, good_skip h⟩
    · split
      · split
        · have a := numeralP_good (k := 32) h
          exact ⟨by simp only [weighN, weighL, List.length_nil]; omega, a.2.1⟩
        · split
          · have a := localP_good h
            have t : (localP p).1.length ≤ 17 := by
              by_cases q : p.peek.take 1 = [36]
              · rw [(local_is q).2]
                have := peek_tl h
                simp only [List.length_drop]; omega
              · rw [local_not q]; simp
            exact ⟨by simp only [weighN, weighL]; omega, a.2.1⟩
          · exact place_wt p h
      · exact place_wt p h
theorem chainF_wt {lv : Int} {x : PS → Nd × PS} (hx : Wt x) (B : Nat) : ∀ (f : Nat) (n : Nd) (p : PS), GoodT p.l → weighN n + 41 * p.l.length ≤ B → weighN (chainF lv x f n p).1 + 41 * (chainF lv x f n p).2.l.length ≤ B ∧ GoodT (chainF lv x f n p).2.l
  | 0, _, _, h, hn => ⟨hn, h⟩
  | f + 1, n, p, h, hn => by
    have o := good_op (lv := lv) h
    unfold chainF
    split
    · exact ⟨hn, h⟩
    · split
      · exact ⟨by simp only; omega, o.2⟩
      · rename_i q
        have ol := op_less (lv := lv) (q := p) (by omega)
        have a := hx (opP lv p).2 o.2
        refine chainF_wt hx B f _ _ a.2 ?_
        simp only [weighN, weighL, List.length_nil]
        omega
theorem chainP_wt {lv : Int} {x : PS → Nd × PS} (hx : Wt x) : Wt (chainP lv x) := fun p h => chainF_wt hx _ _ _ _ (hx p h).2 (hx p h).1
theorem sum_wt {ex : PS → Nd × PS} (hx : Wt ex) : Wt (sumP ex) := chainP_wt (chainP_wt (fact_wt hx))
theorem exprB_wt {ex : PS → Nd × PS} (hx : Wt ex) : Wt (exprB ex) := fun p h => by
  have a := sum_wt hx p h
  have o := good_op (lv := 1) a.2
  by_cases q : 0 ≤ (opP 1 (sumP ex p).2).1
  · have ol := op_less q
    have b := sum_wt hx (opP 1 (sumP ex p).2).2 o.2
    rw [exprB_bin q]
    refine ⟨?_, b.2⟩
    simp only [weighN, weighL, List.length_nil]
    omega
  · rw [exprB_one (by omega)]
    exact ⟨by simp only; omega, o.2⟩
theorem exprP_wt : ∀ f, Wt (exprP false f)
  | 0 => fun p h => ⟨by
      have : weighN (default : Nd) ≤ 40 := by decide
      show weighN default + 41 * p.l.length ≤ _
      omega, h⟩
  | f + 1 => fun p h => by
    rw [exprP, if_neg (by simp)]
    exact exprB_wt (exprP_wt f) p h
end Go.Eng
namespace Go.Eng
def Ws (n : Nat) (x : PS → Nd × PS) : Prop := ∀ p : PS, p.l.length < n → GoodT p.l → weighN (x p).1 + 240 * (x p).2.l.length ≤ 240 * p.l.length + 90 ∧ GoodT (x p).2.l ∧ ((x p).2.e = 0 → weighN (x p).1 + 240 * (x p).2.l.length ≤ 240 * p.l.length)
def Wb (n : Nat) (x : PS → Nd × PS) : Prop := ∀ p : PS, p.l.length < n → GoodT p.l → weighN (x p).1 + 240 * (x p).2.l.length ≤ 240 * p.l.length + 91 ∧ GoodT (x p).2.l
theorem weighL_app (a b : List Nd) : weighL (a ++ b) = weighL a + weighL b := by
  induction a with
  | nil => simp [weighL]
  | cons x a ih => simp only [List.cons_append, weighL, ih]; omega
theorem stmtsF_ws {m : Nat} {st : PS → Nd × PS} (hs : Ws m st) (B : Nat) : ∀ (f : Nat) (ks : List Nd) (p : PS), p.l.length < m → GoodT p.l → weighL ks + 240 * p.l.length ≤ B + 90 → (p.e = 0 → weighL ks + 240 * p.l.length ≤ B) →
    weighL (stmtsF st f ks p).1 + 240 * (stmtsF st f ks p).2.l.length ≤ B + 90 ∧ GoodT (stmtsF st f ks p).2.l
  | 0, _, _, _, h, h1, _ => ⟨h1, h⟩
  | f + 1, ks, p, hm, h, h1, h2 => by
    unfold stmtsF
    split
    · exact ⟨h1, h⟩
    · rename_i q
      have e0 : p.e = 0 := Classical.byContradiction fun z => q (.inl z)
      have a := hs p hm h
      have b := h2 e0
      refine stmtsF_ws hs B f _ _ (by have := a.1; omega) a.2.1 ?_ fun z => ?_
      · rw [weighL_app]; simp only [weighL]; have := a.1; omega
      · rw [weighL_app]; simp only [weighL]; have := a.2.2 z; omega
theorem blockB_wb {m : Nat} {st : PS → Nd × PS} (hs : Ws m st) : Wb m (blockB st) := fun p hm h => by
  have n := need_le (p := p) (s := [123])
  have g := (good_need (s := [123]) h).2
  unfold blockB
  simp only []
  have a := stmtsF_ws hs (240 * (p.need [123]).l.length) ((p.need [123]).l.length + 1) [] (p.need [123]) (by omega) g (by simp only [weighL]; omega) (fun _ => by simp only [weighL]; omega)
  have m := need_le (p := (stmtsF st ((p.need [123]).l.length + 1) [] (p.need [123])).2) (s := [125])
  refine ⟨?_, (good_need a.2).2⟩
  simp only [weighN, List.length_nil]
  have := a.1
  omega
theorem cmdP_wb {ex : PS → Nd × PS} (hx : Wt ex) {k : Int} : ∀ p : PS, GoodT p.l → weighN (cmdP ex k p).1 + 240 * (cmdP ex k p).2.l.length ≤ 240 * p.l.length + 90 ∧ GoodT (cmdP ex k p).2.l := fun p h => by
  have a := cmdA_good (k := k) h
  have t : (cmdA k p).1.length ≤ 17 := by
    unfold cmdA
    split
    · by_cases q : p.peek.take 1 = [36]
      · rw [(local_is q).2]
        have := peek_tl h
        simp only [List.length_drop]; omega
      · rw [local_not q]; simp
    · split
      · simp
      · exact name_tl h
  by_cases h1 : k = 15 ∨ k = 22 ∨ k = 24
  · rw [cmd_ex h1]
    have b := hx (cmdA k p).2 a.2
    refine ⟨?_, b.2⟩
    simp only [weighN, weighL]; omega
  · by_cases h2 : k = 16 ∨ k = 23
    · rw [cmd_loc h1 h2]
      have b := localP_good a.2
      have t2 : (localP (cmdA k p).2).1.length ≤ 17 := by
        by_cases q : (cmdA k p).2.peek.take 1 = [36]
        · rw [(local_is q).2]
          have := peek_tl a.2
          simp only [List.length_drop]; omega
        · rw [local_not q]; simp
      refine ⟨?_, b.2.1⟩
      simp only [weighN, weighL]; omega
    · by_cases h3 : k = 19 ∨ k = 21 ∨ k = 25
      · rw [cmd_num h1 h2 h3]
        have b := numeralP_good (k := k) a.2
        refine ⟨?_, b.2.1⟩
        simp only [weighN, weighL]; omega
      · rw [cmd_plain h1 h2 h3]
        refine ⟨?_, a.2⟩
        simp only [weighN, weighL]; omega
end Go.Eng
namespace Go.Eng
theorem place_eats {p : PS} (h : GoodT p.l) (he3 : (placeP p).2.e = 0) : (placeP p).2.l.length < p.l.length := by
  unfold placeP at he3 ⊢
  have nm : (nameP p).2.e = 0 → (nameP p).2.l.length < p.l.length := fun z => by
    cases q : isNameB p.peek with
    | false => rw [name_not q] at z; exact absurd z (fail_e (by decide))
    | true =>
      have ip : p.is p.peek = true := is_iff.2 ⟨fun e => (by rw [e] at q; cases q), rfl⟩
      have lp := is_len ip
      rw [name_is q, took_is ip]
      simp only; omega
  have ng := nameP_good h
  split at he3
  · rename_i z
    rw [if_pos z]
    have z2 : (nameP p).2.skip.e = 0 := nameP_stk _ he3
    have z3 : (nameP p).2.e = 0 := z2
    have ll := (nameP_good (p := (nameP p).2.skip) (good_skip ng.2.1)).1
    have l3 := skip_len (p := (nameP p).2)
    have := nm z3
    simp only; omega
  · rename_i z
    rw [if_neg z]
    exact nm he3
theorem stmtB_ws {m : Nat} {ex bl : PS → Nd × PS} (hs : Stk ex) (hx : Wt ex) (hb : Wb m bl) : Ws (m + 1) (stmtB ex bl) := fun p hm h => by
  obtain ⟨k, hk⟩ : ∃ k, kindP p.peek = k := ⟨_, rfl⟩
  by_cases h1 : k = 11 ∨ k = 12
  · have ip := kind_pos (p := p) (by omega)
    have lp := is_len ip
    rw [← took_is ip] at lp
    have e0 := hx (p.took p.peek) (good_took h)
    have b0 := hb (ex (p.took p.peek)).2 (by have := e0.1; omega) e0.2
    by_cases h2 : k = 11 ∧ (bl (ex (p.took p.peek)).2).2.is sElse = true
    · rw [st_else hk h2.1 h2.2]
      have l2 := is_len h2.2
      rw [← took_is h2.2] at l2
      have c0 := hb ((bl (ex (p.took p.peek)).2).2.took sElse) (by have := e0.1; have := b0.1; omega) (good_took b0.2)
      refine ⟨?_, c0.2, fun _ => ?_⟩ <;> (simp only [weighN, weighL, List.length_nil]; omega)
    · rw [st_if hk h1 (fun q => by
        cases z : (bl (ex (p.took p.peek)).2).2.is sElse with
        | false => rfl
        | true => exact absurd ⟨q, z⟩ h2)]
      refine ⟨?_, b0.2, fun _ => ?_⟩ <;> (simp only [weighN, weighL, List.length_nil]; omega)
  · by_cases h3 : 12 < k
    · have ip := kind_pos (p := p) (by omega)
      have lp := is_len ip
      rw [← took_is ip] at lp
      have c0 := cmdP_wb hx (k := k) (p.took p.peek) (good_took h)
      rw [st_cmd hk h3]
      have n := need_le (p := (cmdP ex k (p.took p.peek)).2) (s := [59])
      refine ⟨?_, (good_need c0.2).2, fun _ => ?_⟩ <;> (simp only; omega)
    · by_cases h4 : p.peek.take 1 = [36]
      · obtain ⟨i1, i2⟩ := local_is h4
        have ip : p.is p.peek = true := is_iff.2 ⟨fun e => (by rw [e] at h4; cases h4), rfl⟩
        have lp := is_len ip
        rw [← took_is ip] at lp
        have t := peek_tl h
        rw [st_local hk h1 h3 h4, i2]
        have n1 := need_le (p := p.took p.peek) (s := [61])
        have e0 := hx ((p.took p.peek).need [61]) (good_need (good_took h)).2
        have n2 := need_le (p := (ex ((p.took p.peek).need [61])).2) (s := [59])
        refine ⟨?_, (good_need e0.2).2, fun _ => ?_⟩ <;> (simp only [weighN, weighL, List.length_drop]; omega)
      · rw [st_place hk h1 h3 h4]
        have a := place_wt p h
        have le := (placeP_rt (p.l.length + 1) p (Nat.lt_succ_self _) h).1
        have n1 := need_le (p := (placeP p).2) (s := [61])
        have e0 := hx ((placeP p).2.need [61]) (good_need a.2).2
        have n2 := need_le (p := (ex ((placeP p).2.need [61])).2) (s := [59])
        refine ⟨?_, (good_need e0.2).2, fun z => ?_⟩
        · simp only [weighN, weighL, List.length_nil]; omega
        · have z : ((ex ((placeP p).2.need [61])).2.need [59]).e = 0 := z
          have pe := place_eats h (need_e (hs _ (need_e z).2)).2
          simp only [weighN, weighL, List.length_nil]; omega
theorem stmtP_ws : ∀ f, Ws f (stmtP false f)
  | 0 => fun p hm _ => absurd hm (Nat.not_lt_zero _)
  | f + 1 => stmtB_ws (exprO_stk false) (fun p h => exprP_wt _ p h) (blockB_wb (stmtP_ws f))
end Go.Eng
namespace Go.Eng
theorem name_eats {p : PS} (z : (nameP p).2.e = 0) : (nameP p).2.l.length < p.l.length := by
  cases q : isNameB p.peek with
  | false => rw [name_not q] at z; exact absurd z (fail_e (by decide))
  | true =>
    have ip : p.is p.peek = true := is_iff.2 ⟨fun e => (by rw [e] at q; cases q), rfl⟩
    have lp := is_len ip
    rw [name_is q, took_is ip]
    simp only; omega
theorem itemsF_ws (B : Nat) : ∀ (f : Nat) (ks : List Nd) (p : PS), GoodT p.l → weighL ks + 240 * p.l.length ≤ B + 90 → (p.e = 0 → weighL ks + 240 * p.l.length ≤ B) →
    weighL (itemsF f ks p).1 + 240 * (itemsF f ks p).2.l.length ≤ B + 90 ∧ GoodT (itemsF f ks p).2.l
  | 0, _, _, h, h1, _ => ⟨h1, h⟩
  | f + 1, ks, p, h, h1, h2 => by
    unfold itemsF
    split
    · exact ⟨h1, h⟩
    · rename_i q
      have e0 : p.e = 0 := Classical.byContradiction fun z => q (.inl z)
      have b := h2 e0
      have a := nameP_good h
      have t := name_tl h
      have g1 := good_need (s := [61]) a.2.1
      have v := numberP_good g1.2
      have g2 := good_need (s := [59]) v.2.1
      simp only []
      refine itemsF_ws B f _ _ g2.2 ?_ fun z => ?_
      · rw [weighL_app]; simp only [weighN, weighL]; omega
      · have z1 := numberP_stk _ (need_e z).2
        have ne := name_eats (need_e z1).2
        rw [weighL_app]; simp only [weighN, weighL]; omega
theorem defP_weigh {p : PS} (h : GoodT p.l) : weighN (defP false p).1 ≤ 240 * p.l.length + 300 := by
  have s := skip_len (p := p)
  have a := nameP_good (good_skip h)
  have t := name_tl (good_skip h)
  unfold defP
  simp only []
  split
  · simp only [weighN, weighL, List.length_nil]; omega
  · split
    · have b := blockB_wb (stmtP_ws ((nameP p.skip).2.l.length + 1)) (nameP p.skip).2 (Nat.lt_succ_self _) a.2.1
      have b1 : weighN (blockP false ((nameP p.skip).2.l.length + 1) (nameP p.skip).2).1 ≤ 240 * (nameP p.skip).2.l.length + 91 := by
        have := b.1
        show weighN (blockB (stmtP false ((nameP p.skip).2.l.length + 1)) (nameP p.skip).2).1 ≤ _
        omega
      simp only [weighN, weighL]; omega
    · split
      · have g1 := good_need (s := [123]) a.2.1
        have i := itemsF_ws (240 * ((nameP p.skip).2.need [123]).l.length) (((nameP p.skip).2.need [123]).l.length + 1) [] ((nameP p.skip).2.need [123]) g1.2 (by simp only [weighL]; omega) (fun _ => by simp only [weighL]; omega)
        have i1 := i.1
        simp only [weighN]; omega
      · split
        · simp only [weighN, weighL]; omega
        · split
          · simp only [weighN, weighL]; omega
          · simp only [weighN, weighL]; omega
theorem scanF_len : ∀ (f : Nat) (s : Str) (i : Int), (scanF f s i).1.length ≤ f
  | 0, _, _ => Nat.le_refl _
  | f + 1, s, i => by
    unfold scanF
    split
    · simp
    · split
      · have := scanF_len f (by assumption) (i + 1); omega
      · split
        · simp
        · simp only [List.length_cons]
          exact Nat.succ_le_succ (scanF_len f _ _)
theorem parse_weigh {s : Str} (hl : s.length ≤ 1024) : weighN (defP false ⟨(scanS s).1, 0⟩).1 ≤ 1000000000 := by
  have h1 : (scanS s).1.length ≤ s.length := scanF_len _ _ _
  have h2 := defP_weigh (p := ⟨(scanS s).1, 0⟩) (scanF_good _ _ _)
  have h3 : (PS.mk (scanS s).1 0).l.length = (scanS s).1.length := rfl
  omega
end Go.Eng
namespace Go.Eng
open Go.Proofs
theorem Parse_ok (s : Str) : Ok Tryz.prog 25 [.str s] ⟨.tup [.d (parseS s).1.d, .d (I64 (parseS s).2.1), .d (I64 (parseS s).2.2)], false⟩ :=
  Parse_step s _ rfl (fun hl => def_ok ⟨(scanS s).1, 0⟩ (scanF_good _ _ _) (by have := scanF_len s.length s 0; show (scanF s.length s 0).1.length ≤ 1000000; omega)) fun hl => parse_weigh hl
end Go.Eng
namespace Go.Eng
open Go.Proofs
attribute [local simp] runL stepL evalG evalOp opLV constLV putEnv dstOk upd upds Res.plain Res.cond Res.fail evalBin evalUn seqQ blockQ argsEnv lookL lookH RetIs memless freshL evalPick evalMin bval bok evalLen evalIn strip whenC guardOps guardC slotsOf
  runM foldS stepI stepM maskE wrIn lk renO lookN evalCall evalCallee optAll resLV resObj retLV retObj retsLV retsObj evalLoad evalIndexAddr evalField solid cellsD_agg cellsD_int cellsD_bool cellsD_str cellsD_sl cellsD_ro cellsD_fn cellsL_agg cellsL_dagg cellsL_int cellsL_bool cellsL_str cellsL_sl cellsL_fn cellsL_ow cellsL_bx cellsL_lfn cellsL_nl takeL takeD mkAgg allD eqD eqDs kindsAre kindIs LObj.live TK.isNone TK.agg TK.isBool TK.isStr TK.isStruct Op.operands Call.operands
  evalBuildSlice evalAppend elemsOf evalStore evalBuild fillL lookupF putL evalSlice bound evalConv elemsS freezes frozen loadR
  mkEnv_at mkObs_at close_d close_agg close_ow close_bx close_fn close_nl touch_d touch_agg touch_ow touch_bx touch_fn touch_nl ren_d ren_agg ren_bx ren_rp ren_ow ren_fn ren_nl ren_junk retQ_ret retQ2_ret condQ_bool Nm.d Df.d Ed.d nmsD dfsD strsD edsD retC_ret nm_eq df_eq take_map_len take_map_app
  nm_t nm_d nm_td df_t df_d df_td str_t str_d str_td ed_t ed_d ed_td
  evalAppendIn evalBuildSliceC evalCopyC shortL evalApart evalAppendC evalAppendZ evalAppendG evalCapC isOc TK.isInt close_oc touch_oc ren_oc cellsL_oc evalCut evalClear evalCopy evalMake evalWrap evalCap evalNil isNilC lenL isInp gorc gorc2
  mapOf findD keyEq keyOk evalMakeMap evalRange zeroD zeroDV argsG shutG outN lenv retG0_ret retG0_normal retG1_ret retGR_ret renO close_mp touch_mp ren_mp optAll_d optAll_d' touch_ds cellsL_mp cellsD_mp cellsL_dmp
  evalMapSet evalPtr TK.isPtr evalToArr firstL retN_ret retsQ rvarL close_bm touch_bm ren_bm cellsD_bm cellsL_bm cellsL_lbm
attribute [local simp] cutQ_normal cutQ_ret cutQ_exit
section
set_option maxRecDepth 10000
set_option maxHeartbeats 4000000
attribute [local simp] Res.cond Nd.d_eq nd_t nd_dr nd_td ndsD evalIndex constL1 upds_same one_i one_s one_l all4
theorem lvT_at {i : Nat} {s : Str} (hi : i < 4) (hs : lvT.getD i [] = s) : (lvT.map DV.str)[i]?.getD default = .str s := by
  have hk : i < lvT.length := hi
  subst hs
  rw [List.getElem?_map, List.getElem?_eq_getElem hk]
  simp [List.getD_eq_getElem?_getD, hk]
theorem lvO_at {i : Nat} {o : Int} (hi : i < 4) (hs : lvO.getD i 0 = o) : (lvO.map I64)[i]?.getD default = I64 o := by
  have hk : i < lvO.length := hi
  subst hs
  rw [List.getElem?_map, List.getElem?_eq_getElem hk]
  simp [List.getD_eq_getElem?_getD, hk]
theorem lives06_ok  : Ok Tryz.prog 20 [] ⟨.d (.bool true), true⟩ := by
  refine Ok.ret Tryz.func20 (by kernel_rfl) (c := _) rfl Tryz.ntmps20 (by simp) Tryz.results20 (by intro _ h; cases h) fun w0 X hp => ?_
  obtain ⟨TL, hTL⟩ : ∃ TL, lvT.map DV.str = TL := ⟨_, rfl⟩
  obtain ⟨OL, hOL⟩ : ∃ OL, lvO.map I64 = OL := ⟨_, rfl⟩
  have lT : TL.length = 4 := by rw [← hTL]; rfl
  have lO : OL.length = 4 := by rw [← hOL]; rfl
  have pA := Parse_ok lvA
  have pB := Parse_ok lvB
  have pC := Parse_ok lvC
  rw [lvA_parse] at pA
  rw [lvB_parse] at pB
  rw [lvC_parse] at pC
  obtain ⟨B, hB⟩ : ∃ B, (parseS lvB).1 = B := ⟨_, rfl⟩
  obtain ⟨K, hK⟩ : ∃ K, lvK = K := ⟨_, rfl⟩
  have hK24 : K.kind = 24 := by rw [← hK]; rfl
  have sB := lvB_size
  have wB := lvB_weigh
  have tB := lvB_print
  have hC := lvC_head
  have wC : weighN (.mk 6 [116] 0 [.mk 8 [] 0 [K]]) ≤ 1000000000 := by rw [← hK]; decide
  rw [hB] at pB sB wB tB
  rw [hK] at pC hC
  have kB := size_ok B (by omega)
  have nB := Print_ok B (by omega)
  have nA := Print_ok (.mk 0 [110] (-7) []) (by decide)
  have dC := Head_ok (.mk 6 [116] 0 [.mk 8 [] 0 [K]]) wC
  rw [sB] at kB
  rw [tB] at nB
  rw [lvA_print] at nA
  rw [hC.1, hC.2] at dC
  simp [lvA] at pA
  simp [lvB] at pB
  simp [lvC] at pC
  simp at kB nB nA dC
  refine LWp.seq ?_
  refine LWp.rz hT hW ?_
  simp
  refine LWp.seq ?_
  refine LWp.ro hT hW (fun | 19 => some <| .plain ⟨.tup [.d (Nd.mk 0 [110] (-7) []).d, .d (I64 0), .d (I64 0)], false⟩ | _ => none) ?_
  simp [evalExtract]
  refine ⟨pA, ?_⟩
  refine LWp.seq ?_
  refine LWp.ro hT hW (fun | 24 => some <| .plain ⟨.tup [.d B.d, .d (I64 0), .d (I64 0)], false⟩ | _ => none) ?_
  simp [evalExtract]
  refine ⟨pB, ?_⟩
  refine LWp.seq ?_
  refine LWp.ro hT hW (fun | 29 => some <| .plain ⟨.tup [.d (Nd.mk 6 [116] 0 [.mk 8 [] 0 [K]]).d, .d (I64 0), .d (I64 0)], false⟩ | _ => none) ?_
  simp [evalExtract]
  refine ⟨pC, ?_⟩
  refine LWp.seq ?_
  refine LWp.rz hT hW ?_
  simp
  refine ⟨by decide, ?_⟩
  refine LWp.weak (Weak.close 10 (x := .sl TL) (by simp [← hTL, lvT])) ?_
  simp
  refine LWp.seq ?_
  refine LWp.rz hT hW ?_
  simp
  refine ⟨by decide, ?_⟩
  refine LWp.weak (Weak.close 11 (x := .sl OL) (by simp [← hOL, lvO])) ?_
  simp
  refine LWp.seq ?_
  refine LWp.seq ?_
  refine LWp.rz hT hW ?_
  simp
  refine LWp.block ?_
  refine LWp.loopW (ι := Nat) (fun i => mkEnv [(1, .bx 1 0), (3, .d (I64 0)), (4, .bx 4 0), (6, .d (I64 0)), (7, .bx 7 0), (9, .d (I64 0)), (10, .d (.sl TL)), (11, .d (.sl OL)), (12, .d (I64 (i : Nat)))]) (fun i => mkObs [(1, .box false [.d (I64 0), .d (.str [110]), .d (I64 (-7)), .d (.sl [])]), (4, .box false [.d (I64 B.kind), .d (.str B.text), .d (I64 B.n), .d (ndsD B.kids)]), (7, .box false [.d (I64 6), .d (.str [116]), .d (I64 0), .d (.sl [.agg [I64 8, .str [], I64 0, .sl [.agg [I64 K.kind, .str K.text, I64 K.n, .sl (K.kids.map Nd.d)]]]])])]) (fun i => i ≤ 4) (fun i => 4 - i) 0 (Weak.to [1, 3, 4, 6, 7, 9, 10, 11, 12] [(1, 1), (4, 4), (7, 7)] (by decide) (by decide) (by simp [hp]) (by simp) (by simp)) (Nat.zero_le _) fun i hi7 => ?_
  refine LWp.seq ?_
  refine LWp.seq ?_
  refine LWp.rz hT hW ?_
  simp
  refine LWp.iff ?_
  simp
  refine ⟨fun h7 => ?_, fun h7 => ?_⟩
  · refine LWp.skip ?_
    simp
    refine LWp.seq ?_
    refine LWp.block ?_
    refine LWp.seq ?_
    have hi : i < 4 := by omega
    obtain ⟨s, hs⟩ : ∃ s, lvT.getD i [] = s := ⟨_, rfl⟩
    obtain ⟨o, ho⟩ : ∃ o, lvO.getD i 0 = o := ⟨_, rfl⟩
    have hsa := lvT_at hi hs
    have hoa := lvO_at hi ho
    have hps := Parse_ok s
    have hpe := lvT_parse i hi
    rw [hs, ho] at hpe
    rw [hTL] at hsa
    rw [hOL] at hoa
    rw [hpe] at hps
    simp at hps
    obtain ⟨Y, hY⟩ : ∃ Y, (parseS s).1 = Y := ⟨_, rfl⟩
    rw [hY] at hps
    refine LWp.ro hT hW (fun | 44 => some <| .plain ⟨.tup [.d Y.d, .d (I64 o), .d (I64 (if i = 0 then 5 else 2))], false⟩ | _ => none) ?_
    simp [evalExtract, hsa]
    refine ⟨⟨by omega, hps⟩, ?_⟩
    refine LWp.seq ?_
    refine LWp.rz hT hW ?_
    simp [hoa]
    refine ⟨by omega, ?_⟩
    refine LWp.iff ?_
    simp
    refine ⟨fun a b => absurd b (by omega), fun _ => ?_⟩
    refine LWp.skip ?_
    simp
    refine LWp.rz hT hW ?_
    simp
    refine ⟨by omega, ?_⟩
    refine loopQ.mk (i + 1) (Weak.to [1, 3, 4, 6, 7, 9, 10, 11, 12] [(1, 1), (4, 4), (7, 7)] (by decide) (by decide) (by simp [hp]) (by simp) (by simp)) ?_ ?_
    · omega
    · omega
  · refine LWp.exit ?_
    simp
    refine LWp.seq ?_
    refine LWp.seq ?_
    refine LWp.ro hT hW (fun | 93 => some <| .plain ⟨.d (I64 15), true⟩ | _ => none) ?_
    simp
    refine ⟨kB, ?_⟩
    refine LWp.iff ?_
    simp
    refine LWp.skip ?_
    simp
    refine LWp.seq ?_
    refine LWp.ro hT hW (fun | 98 => some <| .plain ⟨.tup [.d (I64 6), .d (.str [116])], true⟩ | _ => none) ?_
    simp [evalExtract]
    refine ⟨dC, ?_⟩
    refine LWp.seq ?_
    refine LWp.ro hT hW (fun | 102 => some <| .plain ⟨.d (.str [118, 97, 114, 32, 110, 32, 61, 32, 45, 55, 59]), true⟩ | 106 => some <| .plain ⟨.d (.str lvP), true⟩ | _ => none) ?_
    simp
    refine ⟨⟨nA, nB⟩, ?_⟩
    refine LWp.ret ?_
    simp [lvP, hK24]
theorem SourceValid_ok (l : List Int) (a how b : Int) (hl : MkL l) (ha : I64r a) (hh : I64r how) (hb : I64r b) : Ok Tryz.prog 3 [.sl (l.map I64), I64 a, I64 how, I64 b] ⟨.d (.bool true), true⟩ := by
  refine Ok.ret Tryz.func3 (by kernel_rfl) (c := _) rfl Tryz.ntmps3 (by simp) Tryz.results3 (by intro _ h; cases h) fun w0 X hp => ?_
  obtain ⟨x, hx⟩ : ∃ x, treeS l = x := ⟨_, rfl⟩
  obtain ⟨y, hy⟩ : ∃ y, spoilN x a how b = y := ⟨_, rfl⟩
  obtain ⟨z, hz⟩ : ∃ z, spoilN y b (how.tdiv 5) a = z := ⟨_, rfl⟩
  have wx : weighN x ≤ 1000000 := by rw [← hx]; exact tree_weigh l
  have wy : weighN y ≤ 1000030 := by rw [← hy]; have := spoil_weigh x a how b; omega
  have wz : weighN z ≤ 1000060 := by rw [← hz]; have := spoil_weigh y b (how.tdiv 5) a; omega
  have h5 : I64r (how.tdiv 5) := tdiv_r (m := 4) hh
  have kx := MTree_ok l hl
  have ky := MSpoilt_ok x (by omega) a how b ha hh hb
  have kz := MSpoilt_ok y (by omega) b (how.tdiv 5) a hb h5 ha
  rw [hx] at kx
  rw [hy] at ky
  rw [hz] at kz
  simp at kx ky kz
  unfold I64r at h5
  obtain ⟨T3, hT3⟩ : ∃ T3, T3 = [x, y, z] := ⟨_, rfl⟩
  have l3 : T3.length = 3 := by rw [hT3]; rfl
  have w3 : ∀ q ∈ T3, weighN q ≤ 1000000000 := by rw [hT3]; intro q hq; simp at hq; rcases hq with e | e | e <;> rw [e] <;> omega
  refine LWp.seq ?_
  refine LWp.rz hT hW ?_
  simp
  refine LWp.seq ?_
  refine LWp.ro hT hW (fun | 18 => some <| .plain ⟨.d x.d, false⟩ | _ => none) ?_
  simp
  refine ⟨kx, ?_⟩
  refine LWp.seq ?_
  refine LWp.ro hT hW (fun | 23 => some <| .plain ⟨.d y.d, false⟩ | _ => none) ?_
  simp
  refine ⟨ky, ?_⟩
  refine LWp.seq ?_
  refine LWp.regAny hT hW hMixed (lk [[],[],[],[],[],[4],[],[2,3,4,5,6],[0,1,2,3,4,5,6,7],[0,1,2,3,4,5,6,7,8]]) (lk [[31],[31],[],[],[],[],[],[],[],[]]) (lk [[],[],[],[],[],[],[],[31],[32],[]]) (by kernel_rfl) (fun | 31 => some <| .plain ⟨.d z.d, false⟩ | _ => none) (by intro d; first | exact ⟨rfl, fun _ h => h⟩ | (split <;> exact ⟨rfl, fun _ h => h⟩)) ?_
  simp
  refine ⟨⟨⟨by omega, kz⟩, by decide⟩, ?_⟩
  refine LWp.weak (Weak.close 11 (x := ndsD T3) (by simp [hT3])) ?_
  simp
  refine LWp.seq ?_
  refine LWp.seq ?_
  refine LWp.rz hT hW ?_
  simp
  refine LWp.block ?_
  refine LWp.loopW (ι := Nat) (fun i => mkEnv [(11, .d (ndsD T3)), (12, .d (I64 (i : Nat)))]) (fun i => mkObs []) (fun i => i ≤ 3) (fun i => 3 - i) 0 (Weak.to [11, 12] [] (by decide) (by decide) (by simp [hp]) (by simp) (by simp)) (Nat.zero_le _) fun i hi5 => ?_
  refine LWp.seq ?_
  refine LWp.seq ?_
  refine LWp.rz hT hW ?_
  simp
  refine LWp.iff ?_
  simp
  refine ⟨fun h5 => ?_, fun h5 => ?_⟩
  · refine LWp.skip ?_
    simp
    refine LWp.seq ?_
    refine LWp.block ?_
    refine LWp.seq ?_
    have hi : i < T3.length := by omega
    have wq := w3 _ (List.getElem_mem hi)
    obtain ⟨q, hq⟩ : ∃ q, T3[i] = q := ⟨_, rfl⟩
    rw [hq] at wq
    have e1 := Head_ok q wq
    have e2 := RHead_ok q wq
    have e3 := Valid_ok q wq
    have e4 := RValid_ok q wq
    have e5 := Print_ok q wq
    have e6 := RPrint_ok q wq
    have e7 := size_ok q wq
    have e8 := RSize_ok q wq
    simp at e1 e2 e3 e4 e5 e6 e7 e8
    refine LWp.ro hT hW (fun | 42 => some <| .plain ⟨.tup [.d (I64 (headK q)), .d (.str (headT q))], true⟩ | _ => none) ?_
    simp [evalExtract, hi, hq]
    refine ⟨e1, ?_⟩
    refine LWp.seq ?_
    refine LWp.ro hT hW (fun | 50 => some <| .plain ⟨.tup [.d (I64 (headK q)), .d (.str (headT q))], true⟩ | _ => none) ?_
    simp [evalExtract, hi, hq]
    refine ⟨e2, ?_⟩
    refine LWp.seq ?_
    refine LWp.regAny hT hW hMixed (lk [[],[],[0,1],[0,1,2],[0,1,2,3],[],[],[5,6],[5,6,7],[0,1,2,3,4,5,6,7,8],[0,1,2,3,4,5,6,7,8,9],[0,1,2,3,4,5,6,7,8,9,10],[0,1,2,3,4,5,6,7,8,9,10,11],[0,1,2,3,4,5,6,7,8,9,10,11],[0,1,2,3,4,5,6,7,8,9,10,11,12,13],[0,1,2,3,4,5,6,7,8,9,10,11,12,13,14],[0,1,2,3,4,5,6,7,8,9,10,11,12,13,14,15],[0,1,2,3,4,5,6,7,8,9,10,11],[0,1,2,3,4,5,6,7,8,9,10,11],[0,1,2,3,4,5,6,7,8,9,10,11,17,18],[0,1,2,3,4,5,6,7,8,9,10,11,17,18,19],[0,1,2,3,4,5,6,7,8,9,10,11,12,13,14,15,16,17,18,19,20],[0,1,2,3,4,5,6,7,8,9,10,11,12,13,14,15,16,17,18,19,20,21],[0,1,2,3,4,5,6,7,8,9,10,11,12,13,14,15,16,17,18,19,20,21,22],[0,1,2,3,4,5,6,7,8,9,10,11,12,13,14,15,16,17,18,19,20,21,22,23],[0,1,2,3,4,5,6,7,8,9,10,11,12,13,14,15,16,17,18,19,20,21,22,23,24],[0,1,2,3,4,5,6,7,8,9,10,11,12,13,14,15,16,17,18,19,20,21,22,23,24],[0,1,2,3,4,5,6,7,8,9,10,11,12,13,14,15,16,17,18,19,20,21,22,23,24,25,26],[0,1,2,3,4,5,6,7,8,9,10,11,12,13,14,15,16,17,18,19,20,21,22,23,24,25,26,27],[0,1,2,3,4,5,6,7,8,9,10,11,12,13,14,15,16,17,18,19,20,21,22,23,24,25,26,27,28],[0,1,2,3,4,5,6,7,8,9,10,11,12,13,14,15,16,17,18,19,20,21,22,23,24],[0,1,2,3,4,5,6,7,8,9,10,11,12,13,14,15,16,17,18,19,20,21,22,23,24],[0,1,2,3,4,5,6,7,8,9,10,11,12,13,14,15,16,17,18,19,20,21,22,23,24,30,31],[0,1,2,3,4,5,6,7,8,9,10,11,12,13,14,15,16,17,18,19,20,21,22,23,24,30,31,32],[0,1,2,3,4,5,6,7,8,9,10,11,12,13,14,15,16,17,18,19,20,21,22,23,24,25,26,27,28,29,30,31,32,33],[0,1,2,3,4,5,6,7,8,9,10,11,12,13,14,15,16,17,18,19,20,21,22,23,24,25,26,27,28,29,30,31,32,33,34],[0,1,2,3,4,5,6,7,8,9,10,11,12,13,14,15,16,17,18,19,20,21,22,23,24,25,26,27,28,29,30,31,32,33,34,35],[0,1,2,3,4,5,6,7,8,9,10,11,12,13,14,15,16,17,18,19,20,21,22,23,24,25,26,27,28,29,30,31,32,33,34,35,36],[0,1,2,3,4,5,6,7,8,9,10,11,12,13,14,15,16,17,18,19,20,21,22,23,24,25,26,27,28,29,30,31,32,33,34,35,36,37],[0,1,2,3,4,5,6,7,8,9,10,11,12,13,14,15,16,17,18,19,20,21,22,23,24,25,26,27,28,29,30,31,32,33,34,35,36,37],[0,1,2,3,4,5,6,7,8,9,10,11,12,13,14,15,16,17,18,19,20,21,22,23,24,25,26,27,28,29,30,31,32,33,34,35,36,37,38,39],[0,1,2,3,4,5,6,7,8,9,10,11,12,13,14,15,16,17,18,19,20,21,22,23,24,25,26,27,28,29,30,31,32,33,34,35,36,37,38,39,40],[0,1,2,3,4,5,6,7,8,9,10,11,12,13,14,15,16,17,18,19,20,21,22,23,24,25,26,27,28,29,30,31,32,33,34,35,36,37,38,39,40,41],[0,1,2,3,4,5,6,7,8,9,10,11,12,13,14,15,16,17,18,19,20,21,22,23,24,25,26,27,28,29,30,31,32,33,34,35,36,37,38,39,40,41,42],[0,1,2,3,4,5,6,7,8,9,10,11,12,13,14,15,16,17,18,19,20,21,22,23,24,25,26,27,28,29,30,31,32,33,34,35,36,37,38,39,40,41,42],[0,1,2,3,4,5,6,7,8,9,10,11,12,13,14,15,16,17,18,19,20,21,22,23,24,25,26,27,28,29,30,31,32,33,34,35,36,37,38,39,40,41,42,43,44],[0,1,2,3,4,5,6,7,8,9,10,11,12,13,14,15,16,17,18,19,20,21,22,23,24,25,26,27,28,29,30,31,32,33,34,35,36,37,38,39,40,41,42,43,44,45]]) (lk [[],[],[],[],[],[57],[57],[57],[57],[],[],[],[],[],[],[],[],[69],[69],[69],[69],[],[],[],[],[],[],[],[],[],[82],[82],[82],[82],[],[],[],[],[],[],[],[],[],[],[],[],[]]) (lk [[],[],[],[],[57],[],[],[],[],[62],[],[],[],[],[],[],[69],[],[],[],[],[74],[],[],[],[],[],[],[],[82],[],[],[],[],[87],[],[],[],[],[],[],[],[],[],[],[],[]]) (by kernel_rfl) (fun | 57 => some <| .plain ⟨.d (.bool (validB q)), true⟩ | 62 => some <| .plain ⟨.d (.bool (validB q)), true⟩ | 69 => some <| .plain ⟨.d (.str (printS q)), true⟩ | 74 => some <| .plain ⟨.d (.str (printS q)), true⟩ | 82 => some <| .plain ⟨.d (I64 (sizeN q)), true⟩ | 87 => some <| .plain ⟨.d (I64 (sizeN q)), true⟩ | _ => none) (by intro d; first | exact ⟨rfl, fun _ h => h⟩ | (split <;> exact ⟨rfl, fun _ h => h⟩)) ?_
    simp [hi, hq]
    refine ⟨⟨⟨⟨⟨⟨e3, e4⟩, e5⟩, e6⟩, e7⟩, e8⟩, ?_⟩
    refine LWp.iff ?_
    simp
    refine LWp.skip ?_
    simp
    refine LWp.rz hT hW ?_
    simp
    refine ⟨by omega, ?_⟩
    refine loopQ.mk (i + 1) (Weak.to [11, 12] [] (by decide) (by decide) (by simp [hp]) (by simp) (by simp)) ?_ ?_
    · omega
    · omega
  · refine LWp.exit ?_
    simp
    refine LWp.seq ?_
    have hlv := lives06_ok
    refine LWp.ro hT hW (fun | 100 => some <| .plain ⟨.d (.bool true), true⟩ | _ => none) ?_
    simp
    refine ⟨hlv, ?_⟩
    refine LWp.ret ?_
    simp
end
end Go.Eng
namespace Go.Eng
open Go.RowKit
def offsOk (P : Program) : List Field → Nat → Bool
  | [], _ => true
  | f :: r, o => f.offset == o && offsOk P r (o + P.cellsOf f.type)
def litCells (P : Program) : Nat → TypeId → DataW Unit → Option (List Value)
  | 0, _, _ => none
  | n + 1, t, d => match P.underlying t, d with
    | some (.int _), .lit (.int k z) => some [.int k z]
    | some .string, .lit (.string s) => some [.string ⟨s.toArray⟩]
    | some (.array _ e), .agg ds => match ds.mapM (litCells P n e) with
      | some xs => if xs.all (fun x => x.length == P.cellsOf e) && xs.length * P.cellsOf e == P.cellsOf t then some xs.flatten else none
      | none => none
    | some (.struct fs), .agg ds => match (fs.toList.zip ds).mapM (fun p => litCells P n p.1.type p.2) with
      | some xs => if offsOk P fs.toList 0 && xs.flatten.length == P.cellsOf t && ((fs.toList.zip xs).all fun p => p.2.length == P.cellsOf p.1.type) && ds.length == fs.size then some xs.flatten else none
      | none => none
    | _, _ => none
theorem litChunks {c : Nat} : ∀ (xs : List (List Value)) (cs : List Value), cs.length = xs.length * c → (∀ (i : Nat) (x : List Value), xs[i]? = some x → (cs.drop (i * c)).take c = x) → cs = xs.flatten
  | [], cs, hl, _ => by
    have : cs = [] := List.eq_nil_of_length_eq_zero (by simpa using hl)
    simp [this]
  | x :: xs, cs, hl, h => by
    have h0 := h 0 x rfl
    simp only [Nat.zero_mul, List.drop_zero] at h0
    have hr := litChunks (c := c) xs (cs.drop c) (by rw [List.length_drop, hl, List.length_cons, Nat.succ_mul]; omega) fun i y hy => by
      have := h (i + 1) y (by simpa using hy)
      rw [List.drop_drop, Nat.add_comm c, ← Nat.succ_mul]
      exact this
    rw [List.flatten_cons, ← hr, ← h0, List.take_append_drop]
theorem fields_flat {P : Program} {cs : List Value} : ∀ (fs : List Field) (xs : List (List Value)) (o : Nat), offsOk P fs o = true → xs.length = fs.length → (∀ (i : Nat) (f : Field) (x : List Value), fs[i]? = some f → xs[i]? = some x → (cs.drop f.offset).take (P.cellsOf f.type) = x ∧ x.length = P.cellsOf f.type) →
    (cs.drop o).take xs.flatten.length = xs.flatten
  | [], [], _, _, _, _ => by simp
  | [], _ :: _, _, _, h, _ => by simp at h
  | _ :: _, [], _, _, h, _ => by simp at h
  | f :: fs, x :: xs, o, ho, hl, h => by
    simp only [offsOk, Bool.and_eq_true, beq_iff_eq] at ho
    obtain ⟨h1, h2⟩ := h 0 f x rfl rfl
    have hr := fields_flat fs xs (o + P.cellsOf f.type) ho.2 (by simpa using hl) fun i g y hg hy => h (i + 1) g y (by simpa using hg) (by simpa using hy)
    rw [ho.1] at h1
    rw [List.flatten_cons, List.length_append, List.take_add, h2, h1, List.drop_drop, hr]
theorem lit_cells {enc : TypeId × Value → Unit} {P : Program} {w : World} {base : Nat} {sp : Nat → Bool} {held : Bool} : ∀ (n fuel : Nat) (t : TypeId) (cs : List Value) (d : DataW Unit) (p : List MemPlace) (vs : List Value),
    DataW.trod enc P w base sp held fuel t cs = some (d, p) → litCells P n t d = some vs → cs = vs := by
  intro n
  induction n with
  | zero => intro fuel t cs d p vs _ h; cases h
  | succ n ih =>
    intro fuel t cs d p vs ht hv
    unfold litCells at hv
    split at hv
    · rename_i k' k z hu
      obtain ⟨m, rfl, hx, _⟩ := DataW.trod_int hu ht
      injection hx with e1 e2
      injection e1 with e1
      injection e1 with e3 e4
      subst e3 e4
      exact Option.some.inj hv
    · rename_i s hu
      obtain ⟨b, rfl, hx, _⟩ := DataW.trod_string hu ht
      injection hx with e1 e2
      injection e1 with e1
      injection e1 with e3
      subst e3
      exact Option.some.inj hv
    · rename_i m e ds hu
      cases fuel with
      | zero => simp [DataW.trod] at ht
      | succ fuel =>
        unfold DataW.trod at ht
        rw [hu] at ht
        simp only at ht
        split at ht
        · rename_i hl
          obtain ⟨ys, hm, hx⟩ := Option.map_eq_some_iff.1 ht
          have hds : ys.map (·.1) = ds := by
            have := congrArg Prod.fst hx
            simpa using this
          split at hv
          · rename_i xs hxs
            split at hv
            · rename_i hc
              simp only [Bool.and_eq_true, List.all_eq_true, beq_iff_eq] at hc
              have hv := Option.some.inj hv
              rw [← hv]
              have hyl : ys.length = m := by simpa using Lib.mapM_length hm
              have hxl : xs.length = ds.length := Lib.mapM_length hxs
              have hdl : ds.length = m := by rw [← hds, List.length_map, hyl]
              refine litChunks (c := P.cellsOf e) xs cs (by rw [hl, hc.2]) fun i x hx' => ?_
              have hi : i < m := by have := (List.getElem?_eq_some_iff.1 hx').1; omega
              obtain ⟨y, hy, hf⟩ := Lib.mapM_at hm i i (by simp [hi])
              have hdi : ds[i]? = some y.1 := by rw [← hds, List.getElem?_map, hy]; rfl
              obtain ⟨x2, hx2, hlc⟩ := Lib.mapM_at hxs i _ hdi
              have : x2 = x := Option.some.inj (hx2.symm.trans hx')
              subst this
              exact ih fuel e _ y.1 y.2 x2 hf hlc
            · cases hv
          · cases hv
        · cases ht
    · rename_i fs ds hu
      obtain ⟨ys, m, rfl, hx, hl, hyl, hf⟩ := DataW.trod_struct hu ht
      have hds : ys.map (·.1) = ds := by
        have := congrArg Prod.fst hx
        simpa using this.symm
      split at hv
      · rename_i xs hxs
        split at hv
        · rename_i hc
          simp only [Bool.and_eq_true, List.all_eq_true, beq_iff_eq] at hc
          obtain ⟨⟨⟨c1, c2⟩, c3⟩, c4⟩ := hc
          have hv := Option.some.inj hv
          rw [← hv]
          have hxl : xs.length = (fs.toList.zip ds).length := Lib.mapM_length hxs
          have hzl : (fs.toList.zip ds).length = fs.size := by rw [List.length_zip, c4]; simp
          have key := fields_flat (P := P) (cs := cs) fs.toList xs 0 c1 (by rw [hxl, hzl]; simp) fun i f x hfi hxi => by
            have hfa : fs[i]? = some f := by simpa using hfi
            have hyi := hf i f hfa
            have hi : i < fs.size := (Array.getElem?_eq_some_iff.1 hfa).1
            obtain ⟨y, hy⟩ : ∃ y, ys[i]? = some y := ⟨_, List.getElem?_eq_getElem (by omega)⟩
            rw [hy] at hyi
            have hdi : ds[i]? = some y.1 := by rw [← hds, List.getElem?_map, hy]; rfl
            have hz : (fs.toList.zip ds)[i]? = some (f, y.1) := by
              rw [List.getElem?_zip_eq_some]
              exact ⟨hfi, hdi⟩
            obtain ⟨x2, hx2, hlc⟩ := Lib.mapM_at hxs i _ hz
            have : x2 = x := Option.some.inj (hx2.symm.trans hxi)
            subst this
            refine ⟨ih m f.type _ _ _ x2 hyi hlc, ?_⟩
            have hz2 : (fs.toList.zip xs)[i]? = some (f, x2) := by
              rw [List.getElem?_zip_eq_some]
              exact ⟨hfi, hxi⟩
            exact c3 _ (List.mem_of_getElem? hz2)
          rw [List.drop_zero, c2, ← hl, List.take_length] at key
          exact key
        · cases hv
      · cases hv
    · cases hv
def dvVal : DV → Value
  | .int k n => .int k n
  | .str s => .string ⟨s.toArray⟩
  | _ => undef
def flatB : DV → Bool
  | .int _ _ => true
  | .str _ => true
  | _ => false
theorem glob_one {P : Program} {W : World} {name : String} {g g' : Nat} {t t' : TypeId} {cs : Array Value} {fuel n : Nat} {p : List MemPlace} {d : DataW Unit} {ds : List DV} {enc : TypeId × Value → Unit} {base : Nat} {sp : Nat → Bool} {held : Bool}
    (hg : P.globalNamed name = some g) (hty : (P.globals[g]?).map (·.type) = some t) (hg' : P.globalNamed name = some g') (ht' : (P.globals[g']?).map (·.type) = some t') (hvar : W.var? P name = some cs)
    (hd : DataW.trod enc P W base sp held fuel t' cs.toList = some (d, p)) (hlit : litCells P n t d = some (ds.map dvVal)) (hfl : ds.all flatB = true) :
    RD W (fun _ => False) (.ro ds) (.pointer (some ⟨g, 0, none⟩)) ∧ ∃ arr t fz, W.heap[g]? = some (.cells arr t fz) ∧ arr.size = ds.length := by
  obtain rfl := Option.some.inj (hg.symm.trans hg')
  obtain rfl := Option.some.inj (hty.symm.trans ht')
  have hc := lit_cells n fuel t cs.toList d p _ hd hlit
  have hsz : cs.size = ds.length := by
    have := congrArg List.length hc
    simpa using this
  have hblk : ∃ ty fz, W.heap[g]? = some (.cells cs ty fz) := by
    unfold World.var? at hvar
    rw [hg] at hvar
    simp only [Option.bind_some] at hvar
    split at hvar
    · rename_i c ty fz hh
      cases hvar
      exact ⟨ty, fz, hh⟩
    · cases hvar
  obtain ⟨ty, fz, hblk⟩ := hblk
  refine ⟨.ro ds g 0 (ds.map dvVal) (fun h => h) (by simp) (fun u hu => ?_) (Array.getElem?_eq_some_iff.1 hblk).1 (fun j u hj => ?_) (fun i x v hx hv => ?_), cs, ty, fz, hblk, hsz⟩
  · obtain ⟨x, hx, rfl⟩ := List.mem_map.1 hu
    have := List.all_eq_true.1 hfl x hx
    cases x <;> first | rfl | cases this
  · have := World.var?_cell hg hvar j
    rw [Nat.zero_add, this, ← hj, ← hc]
    simp
  · rw [List.getElem?_map, hx] at hv
    cases hv
    have := List.all_eq_true.1 hfl x (List.mem_of_getElem? hx)
    cases x with
    | int k n => exact .int k n
    | str s => exact .str s
    | _ => cases this
end Go.Eng
namespace Go.Proofs.YtmpfgfdjkjekcaaGreatDoor.crA
open Go.Eng
theorem gl {W : World} (h : laidMetH Tryz.prog Rows.sourceValidRow.laid W) : Glob W (fun _ => False) := by
  have h : laidMet Tryz.prog Rows.sourceValidRow.laid W := h
  obtain ⟨ps, ⟨g1, t1, c1, f1, p1, q1, n1, y1, v1, d1, ⟨g2, t2, c2, f2, p2, q2, n2, y2, v2, d2, ⟨g3, t3, c3, f3, p3, q3, n3, y3, v3, d3, ⟨g4, t4, c4, f4, p4, q4, n4, y4, v4, d4, ⟨g5, t5, c5, f5, p5, q5, n5, y5, v5, d5, ⟨g6, t6, c6, f6, p6, q6, n6, y6, v6, d6, ⟨g7, t7, c7, f7, p7, q7, n7, y7, v7, d7, ⟨g8, t8, c8, f8, p8, q8, n8, y8, v8, d8, _, _⟩, _⟩, _⟩, _⟩, _⟩, _⟩, _⟩, _⟩, _⟩ := h
  intro n cs hn
  match n, hn with
  | 0, hn => cases hn; exact glob_one (n := 4) (g := 0) (t := 81) (by kernel_rfl) (by kernel_rfl) n6 y6 v6 d6 (by kernel_rfl) (by kernel_rfl)
  | 1, hn => cases hn; exact glob_one (n := 4) (g := 1) (t := 99) (by kernel_rfl) (by kernel_rfl) n8 y8 v8 d8 (by kernel_rfl) (by kernel_rfl)
  | 2, hn => cases hn; exact glob_one (n := 4) (g := 2) (t := 142) (by kernel_rfl) (by kernel_rfl) n7 y7 v7 d7 (by kernel_rfl) (by kernel_rfl)
  | 3, hn => cases hn
  | 4, hn => cases hn; exact glob_one (n := 4) (g := 4) (t := 158) (by kernel_rfl) (by kernel_rfl) n3 y3 v3 d3 (by kernel_rfl) (by kernel_rfl)
  | 5, hn => cases hn
  | 6, hn => cases hn
  | 7, hn => cases hn; exact glob_one (n := 4) (g := 7) (t := 177) (by kernel_rfl) (by kernel_rfl) n1 y1 v1 d1 (by kernel_rfl) (by kernel_rfl)
  | 8, hn => cases hn; exact glob_one (n := 4) (g := 8) (t := 178) (by kernel_rfl) (by kernel_rfl) n2 y2 v2 d2 (by kernel_rfl) (by kernel_rfl)
  | n + 9, hn => cases hn
abbrev rangeS : ByteArray := { data := #[118, 97, 108, 117, 101, 32, 111, 117, 116, 32, 111, 102, 32, 114, 97, 110, 103, 101] }
abbrev syntaxS : ByteArray := { data := #[105, 110, 118, 97, 108, 105, 100, 32, 115, 121, 110, 116, 97, 120] }
noncomputable def low : Nat := (World.holding Tryz.prog default ⟨#[], #[], []⟩).heap.size
noncomputable def held (g : Nat) (cs : Array Value) : Array Value := match g with
  | 5 => #[.iface 174 (.pointer (some ⟨low + 1, 0, none⟩))]
  | 6 => #[.iface 174 (.pointer (some ⟨low, 0, none⟩))]
  | g => match globD g with
    | some ds => (ds.map dvVal).toArray
    | none => cs
noncomputable def laidWorld (os : Os) : World :=
  let w0 := World.holding Tryz.prog os ⟨#[.cells #[.string rangeS] 176, .cells #[.string syntaxS] 176], #[], []⟩
  { w0 with heap := (List.range 9).foldl (fun h g => h.modify g fun
      | .cells cs t frozen => .cells (held g cs) t frozen
      | o => o) w0.heap }
theorem laidWorld_met (os : Os) (args : Array Value) : laidMet Tryz.prog Rows.sourceValidRow.laid ((laidWorld os).forCall (fun _ _ => 0) ⟨#[], args, []⟩).memory :=
  laidMet_of_run' 8 (by kernel_rfl) (by kernel_rfl)
end Go.Proofs.YtmpfgfdjkjekcaaGreatDoor.crA
