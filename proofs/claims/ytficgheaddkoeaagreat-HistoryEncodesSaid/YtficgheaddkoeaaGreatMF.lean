/-
  Texts of the proofs of this seat, part 6. No condition.
-/
import Derived.Test.YtficgheaddkoeaaGreatME
import Derived.RangeFuncNested
import Derived.OwnWalkIn
import Derived.Test.YtficgheaddkoeaaGreatProg
import Derived.Maps.RangeRun
import Derived.Shelf.SlIter.Collect
import Derived.OpenShut
set_option linter.unusedVariables false
set_option linter.unusedSimpArgs false
namespace Go.Eng
open Go.Proofs
attribute [local simp] runL stepL evalG evalOp opLV constLV putEnv dstOk upd upds Res.plain Res.cond Res.fail evalBin evalUn seqQ blockQ argsEnv lookL lookH RetIs memless freshL evalPick evalMin bval bok evalLen evalIn strip whenC guardOps guardC slotsOf
  runM foldS stepI stepM maskE wrIn lk renO lookN evalCall evalCallee optAll resLV resObj retLV retObj retsLV retsObj evalLoad evalIndexAddr evalField solid cellsD_agg cellsD_int cellsD_bool cellsD_str cellsD_sl cellsD_ro cellsD_fn cellsL_agg cellsL_dagg cellsL_int cellsL_bool cellsL_str cellsL_sl cellsL_fn cellsL_ow cellsL_bx cellsL_lfn cellsL_nl takeL takeD mkAgg allD eqD eqDs kindsAre kindIs LObj.live TK.isNone TK.agg TK.isBool TK.isStr TK.isStruct Op.operands Call.operands
  evalBuildSlice evalAppend elemsOf evalStore evalBuild fillL lookupF putL evalSlice bound evalConv elemsS freezes frozen loadR
  mkEnv_at mkObs_at close_d close_agg close_ow close_bx close_fn close_nl touch_d touch_agg touch_ow touch_bx touch_fn touch_nl ren_d ren_agg ren_bx ren_rp ren_ow ren_fn ren_nl ren_junk retQ_ret retQ2_ret condQ_bool Nm.d Df.d Ed.d nmsD dfsD strsD edsD retC_ret nm_eq df_eq take_map_len take_map_app
  nm_t nm_d nm_td df_t df_d df_td str_t str_d str_td ed_t ed_d ed_td
  evalAppendIn evalBuildSliceC evalCopyC shortL evalApart evalAppendC evalAppendZ evalAppendG evalCapC isOc TK.isInt close_oc touch_oc ren_oc cellsL_oc evalCut evalClear evalCopy evalMake evalWrap evalCap evalNil isNilC lenL isInp gorc gorc2
  mapOf findD keyEq keyOk evalMakeMap evalRange zeroD zeroDV argsG shutG outN lenv retG0_ret retG0_normal retG1_ret retGR_ret renO close_mp touch_mp ren_mp optAll_d optAll_d' touch_ds cellsL_mp cellsD_mp cellsL_dmp
  evalMapSet evalPtr TK.isPtr evalToArr firstL retN_ret retsQ rvarL close_bm touch_bm ren_bm cellsD_bm cellsL_bm cellsL_lbm
theorem EOrder_ok (l : List Ed) (set : List Nm) (hs : small l) (hl : set.length ≤ 1100000) : Ok Tryz.prog 11 [edsD l, nmsD set] ⟨.tup [.own 2 ((orderV l set).1.map Nm.d), .d (I64 (orderV l set).2)], true⟩ := by
  refine Ok.two Tryz.func11 (by kernel_rfl) (c := _) rfl Tryz.ntmps11 (by simp) Tryz.results11 rfl fun w0 X hp => ?_
  refine LWp.seq ?_
  refine LWp.rz hT hW ?_
  simp
  refine LWp.seq ?_
  refine LWp.seq ?_
  refine LWp.ro hT hW (fun | 10 => some <| .plain ⟨.tup [.d (I64 (validV l).1), .d (I64 (validV l).2)], true⟩ | _ => none) ?_
  simp [evalExtract]
  refine ⟨EValid_ok l hs, ?_⟩
  refine LWp.seq ?_
  refine LWp.rz hT hW ?_
  simp
  refine LWp.iff ?_
  simp
  refine ⟨fun h2 => ?_, fun h2 => ?_⟩
  · refine LWp.seq ?_
    refine LWp.rz hT hW ?_
    simp
    refine LWp.ret ?_
    simp [orderV, h2]
  · refine LWp.skip ?_
    simp
    refine LWp.seq ?_
    refine LWp.seq ?_
    refine LWp.ro hT hW (fun | 18 => some <| .plain ⟨.d (.bool (closedB l set)), true⟩ | _ => none) ?_
    simp
    refine ⟨EClosed_ok l set, ?_⟩
    refine LWp.iff ?_
    simp
    refine ⟨fun h4 => ?_, fun h4 => ?_⟩
    · refine LWp.seq ?_
      refine LWp.rz hT hW ?_
      simp
      refine LWp.ret ?_
      simp [orderV, h2, h4]
    · refine LWp.skip ?_
      simp
      refine LWp.seq ?_
      refine LWp.ro hT hW (fun | 22 => some <| .plain ⟨.own 2 ((orderN l set).map Nm.d), true⟩ | _ => none) ?_
      simp
      refine ⟨order_ok l set hl (valid_acyc (by simpa using h2)) (by simpa using h4), ?_⟩
      refine LWp.ret ?_
      simp [orderV, h2, h4]
theorem idxI_cases {α : Type} {p : α → Bool} {l : List α} (h : idxI p l ≠ -1) : ∃ k : Nat, idxI p l = (k : Int) ∧ ∃ hk : k < l.length, p l[k] = true ∧ (l.take (k + 1)).filter (fun x => !p x) = l.take k := by
  unfold idxI at h ⊢
  split at h
  · rename_i k hk
    refine ⟨k, by simp, ?_⟩
    obtain ⟨h1, h2, h3⟩ := List.findIdx?_eq_some_iff_getElem.1 hk
    refine ⟨h1, h2, ?_⟩
    rw [List.take_succ_eq_append_getElem h1, List.filter_append]
    simp only [List.filter_cons, h2, Bool.not_true, Bool.false_eq_true, if_false, List.filter_nil, List.append_nil]
    rw [List.filter_eq_self]
    intro a ha
    obtain ⟨j, hj, rfl⟩ := List.getElem_of_mem ha
    simp at hj ⊢
    simpa using h3 j (by omega)
  · exact absurd rfl h
theorem idxI_neg {α : Type} {p : α → Bool} {l : List α} (h : idxI p l = -1) : l.filter (fun x => !p x) = l := by
  unfold idxI at h
  split at h
  · omega
  · rename_i hk
    rw [List.filter_eq_self]
    intro a ha
    simpa using List.findIdx?_eq_none_iff.1 hk a ha
def edAt (l : List Ed) (n : Nm) : Ed := match find? l n with | some i => l.getD i default | none => default
def sharedL (l : List Ed) (a b : Nm) : List Str :=
  if findI l a < 0 ∨ findI l b < 0 ∨ a = b ∨ a ∈ aboveL l b ∨ b ∈ aboveL l a then [] else (touches (edAt l a)).filter fun s => decide (s ∈ touches (edAt l b))
theorem edAt_of {l : List Ed} {n : Nm} (h : 0 ≤ findI l n) : ∃ i, ∃ hi : i < l.length, findI l n = (i : Int) ∧ edAt l n = l[i] := by
  unfold findI at h
  unfold findI edAt
  cases q : find? l n with
  | none => rw [q] at h; simp at h
  | some i =>
    obtain ⟨hi, _, _⟩ := find_at q
    exact ⟨i, hi, rfl, by simp [hi]⟩
theorem touches_len {e : Ed} (h1 : e.puts.length ≤ 1100000) (h2 : e.drops.length ≤ 1100000) : (touches e).length ≤ 2200000 := by unfold touches; simp; omega
def resolvedB (l : List Ed) (s : Str) (a b c : Nm) : Bool := decide (s ∈ touches (edAt l c)) && decide (a ∈ aboveL l c) && decide (b ∈ aboveL l c)
def clashB (l : List Ed) (set : List Nm) (a b : Nm) : Bool := (sharedL l a b).any fun s => !set.any (resolvedB l s a b)
open Go.Proofs
end Go.Eng
namespace Go.Eng
open Go.RowKit
def AbW {β : Type} (B : Nat) (J : β → World → Prop) : Prop :=
  ∀ s W W' row, J s W → W.grownBy W' row → W.drawn ≤ W'.drawn → (∀ r, row = some r → B ≤ r ∧ ∃ o : Obj, W.heap[r]? = some o ∧ o.isCells = false) → J s W'
theorem AbW.alloc {β : Type} {B : Nat} {J : β → World → Prop} (h : AbW B J) {s : β} {W : World} (o : Obj) (hs : J s W) : J s (W.alloc o) :=
  h s W _ none hs (World.grownBy_alloc W o none) (Nat.le_refl _) (fun r e => by cases e)
structure RowAt (s : Nat) (b0 : Option Nat) (base : Nat) (W : World) (v : Value) (n : Nat) (cells : List Value) (gb : Option Nat) : Prop where
  len : cells.length = n * s
  one : ∀ u ∈ cells, u.oneCell' = true
  lies : (gb = none ∧ n = 0 ∧ ∃ a, v = .slice a 0 0) ∨ ∃ g cap cur e, gb = some g ∧ v = .slice (some ⟨g, 0, none⟩) n cap ∧ (b0 = some g ∨ base ≤ g) ∧ W.heap[g]? = some (.cells cur e (0, 0)) ∧ n ≤ cap ∧ cap ≤ maxLen ∧ cap * s = cur.size ∧ cur.toList.take (n * s) = cells
theorem RowAt.append {P : Program} {t e : TypeId} {i : TypeInfo} {z : Value} {s : Nat} (ty : TypeId) (ht : P.underlying t = some (.slice e)) (hi : P.info? e = some i) (hz : i.zero = some z) (hsz : i.size = s) (hzs : z.cells.size = s) (hs : 0 < s)
    {b0 : Option Nat} {base : Nat} {W : World} {v : Value} {n : Nat} {cells : List Value} {gb : Option Nat} (h : RowAt s b0 base W v n cells gb) (hbase : base ≤ W.heap.size) {ad c : Nat} {news : List Value} (hn : news.length = s) (h1 : ∀ u ∈ news, u.oneCell' = true)
    (hc : ∀ (j : Nat) (u : Value), news[j]? = some u → W.cell? ⟨ad, j, none⟩ = some u) (hb : (n + 1) * i.bytes ≤ 140737488355328) (hm : n + 1 ≤ 140737488355328) :
    ∃ v' W' g', (Builtin.append_ #[t, t] ty #[v, .slice (some ⟨ad, 0, none⟩) 1 c]).run P W = .ok v' W' ∧ RowAt s b0 base W' v' (n + 1) (cells ++ news) (some g') ∧ W.grownBy W' gb ∧ W.drawn ≤ W'.drawn ∧ (gb = some g' ∨ g' = W.heap.size) ∧
      ((g' = W.heap.size ∧ W.grownBy W' none) ∨ (gb = some g' ∧ ∀ cur e, W.heap[g']? = some (.cells cur e (0, 0)) → ∃ cur', W'.heap[g']? = some (.cells cur' e (0, 0)) ∧ cur'.size = cur.size ∧ cur'.toList.take (n * s) = cur.toList.take (n * s))) := by
  have hlen : (cells ++ news).length = (n + 1) * s := by rw [List.length_append, h.len, hn, Nat.add_mul]; omega
  have hone : ∀ u ∈ cells ++ news, u.oneCell' = true := fun u hu => (List.mem_append.1 hu).elim (h.one u) (h1 u)
  have hlo : (Builtin.lenOf (.slice (some ⟨ad, 0, none⟩) 1 c)).run P W = .ok 1 W := by simp [Builtin.lenOf]
  have hf : ∀ w2 : World, w2.heap = W.heap → (Builtin.firstCells i.size 1 (.slice (some ⟨ad, 0, none⟩) 1 c)).run P w2 = .ok news.toArray w2 := fun w2 hw =>
    run_firstCells (by rw [hsz]; omega) fun j u hu => by rw [cell_heap hw]; simpa using hc j u hu
  have hd : ∀ k, (TypeDesc.slice e) ≠ .int k := fun k => by simp
  have out : ∀ {ba : Option Addr} {cap : Nat} (olds : List Value), olds = cells → (∀ w2 : World, w2.heap = W.heap → (Builtin.firstCells i.size n (.slice ba n cap)).run P w2 = .ok olds.toArray w2) → cap < n + 1 →
      ∃ v' W' g', (Builtin.append_ #[t, t] ty #[.slice ba n cap, .slice (some ⟨ad, 0, none⟩) 1 c]).run P W = .ok v' W' ∧ RowAt s b0 base W' v' (n + 1) (cells ++ news) (some g') ∧ W.grownBy W' gb ∧ W.drawn ≤ W'.drawn ∧ (gb = some g' ∨ g' = W.heap.size) ∧
      ((g' = W.heap.size ∧ W.grownBy W' none) ∨ (gb = some g' ∧ ∀ cur e, W.heap[g']? = some (.cells cur e (0, 0)) → ∃ cur', W'.heap[g']? = some (.cells cur' e (0, 0)) ∧ cur'.size = cur.size ∧ cur'.toList.take (n * s) = cur.toList.take (n * s))) := by
    intro ba cap olds ho hol hcap
    subst ho
    have hrun := run_append_out (P := P) (w := W) (ty := ty) (base := ba) (sLen := n) (sCap := cap) ht ht hd hi hz hlo hf hol hcap (by omega) hb
    have hge := grownCap_ge W (n + 1) cap e
    have hgc : (olds.toArray ++ news.toArray ++ Builtin.zeroCells z.cells (grownCap W (n + 1) cap e - (n + 1))).size = grownCap W (n + 1) cap e * s := by
      simp only [Array.size_append, List.size_toArray, size_zeroCells, hzs, h.len, hn]
      have : (n + 1 + (grownCap W (n + 1) cap e - (n + 1))) * s = n * s + s + (grownCap W (n + 1) cap e - (n + 1)) * s := by rw [Nat.add_mul, Nat.add_mul]; omega
      rw [← this]; congr 1; omega
    refine ⟨_, _, _, hrun, ⟨hlen, hone, .inr ⟨_, _, _, e, rfl, rfl, .inr hbase, heap_alloc_new W.drew _, hge, grownCap_le_maxLen W (n + 1) cap e (by unfold maxLen; omega), hgc.symm, ?_⟩⟩, ⟨rfl, rfl, rfl, by simp, fun k hk _ => heap_alloc_old W.drew _ hk⟩, Nat.le_succ _, .inr rfl, .inl ⟨rfl, ⟨rfl, rfl, rfl, by simp, fun k hk _ => heap_alloc_old W.drew _ hk⟩⟩⟩
    rw [← hlen]
    simp only [Array.toList_append, List.append_assoc]
    rw [← List.append_assoc, List.take_left]
  rcases h.lies with ⟨rfl, rfl, a, rfl⟩ | ⟨g, cap, cur, e', rfl, rfl, hbg, hblk, hnc, hcm, hcs, htk⟩
  · have hc0 : cells = [] := List.eq_nil_of_length_eq_zero (by simpa using h.len)
    refine out [] hc0.symm (fun w2 _ => by cases a <;> simp [Builtin.firstCells, loadCells, loadCellsFrom]) (by omega)
  · by_cases hroom : n + 1 ≤ cap
    · have hfit : n * s + news.length ≤ cur.size := by
        rw [hn, ← hcs]
        have : (n + 1) * s ≤ cap * s := Nat.mul_le_mul_right _ hroom
        rw [Nat.add_mul] at this; omega
      have hrun := run_append_in (P := P) (w := W) (ty := ty) (base := some ⟨g, 0, none⟩) (sLen := n) (sCap := cap) ht ht hd hi hlo hf hroom
      have hst := run_storeCells_at P g (n * s) e' news 0 cur W hblk (by omega) h1
      simp only [Nat.add_zero] at hst
      simp only [Addr.add_lit, Nat.zero_add, hsz] at hrun
      rw [hst] at hrun
      have hcl : cur.toList.length = cur.size := by simp
      refine ⟨_, _, g, hrun, ⟨hlen, hone, .inr ⟨g, cap, _, e', rfl, rfl, hbg, setRow_heap W g cur _ e' (0, 0) hblk, hroom, hcm, ?_, ?_⟩⟩, ⟨rfl, rfl, rfl, by simp, fun k _ hk => setRow_other W g k _ (fun e => hk (by rw [e]))⟩, Nat.le_refl _, .inl rfl, .inr ⟨rfl, fun cur2 e2 hc2 => ?_⟩⟩
      · rw [hcs]; simp only [List.size_toArray, List.length_append, List.length_take, List.length_drop, hcl]; omega
      · simp only [htk]
        rw [List.append_assoc, ← List.append_assoc, ← hlen, List.take_left]
      · rw [hblk] at hc2; injection hc2 with hc2; injection hc2 with p1 p2; subst p1; subst p2
        refine ⟨_, setRow_heap W g cur _ e' (0, 0) hblk, ?_, ?_⟩
        · simp only [List.size_toArray, List.length_append, List.length_take, List.length_drop, hcl]; omega
        · simp only [htk]
          rw [List.append_assoc, ← h.len, List.take_left]
    · refine out (cur.toList.take (n * s)) htk (fun w2 hw => ?_) (by omega)
      refine run_firstCells (by rw [hsz, List.length_take, Array.length_toList, ← hcs]; have : n * s ≤ cap * s := Nat.mul_le_mul_right _ hnc; omega) fun j u hu => ?_
      rw [cell_heap hw, cell_of_row W g _ cur e' (0, 0) hblk]
      rw [List.getElem?_take] at hu
      split at hu
      · simpa using hu
      · cases hu
structure Still (b0 : Option Nat) (W0 W : World) : Prop where
  os : W.os = W0.os
  tape : W.tape = W0.tape
  output : W.output = W0.output
  size : W0.heap.size ≤ W.heap.size
  block : ∀ k, k < W0.heap.size → some k ≠ b0 → W.heap[k]? = W0.heap[k]?
  drawn : W0.drawn ≤ W.drawn
theorem Still.refl (b0 : Option Nat) (W : World) : Still b0 W W := ⟨rfl, rfl, rfl, Nat.le_refl _, fun _ _ _ => rfl, Nat.le_refl _⟩
theorem Still.step {b0 : Option Nat} {W0 W W' : World} {row : Option Nat} (h : Still b0 W0 W) (hg : W.grownBy W' row) (hd : W.drawn ≤ W'.drawn) (hr : ∀ r, row = some r → b0 = some r ∨ W0.heap.size ≤ r) : Still b0 W0 W' :=
  ⟨hg.os.trans h.os, hg.tape.trans h.tape, hg.output.trans h.output, Nat.le_trans h.size hg.size, fun k hk hb => (hg.block k (Nat.lt_of_lt_of_le hk h.size) (fun e => by rcases hr k e.symm with q | q; exact hb q.symm; omega)).trans (h.block k hk hb), Nat.le_trans h.drawn hd⟩
def Head0 (m : Nat) (b0 : Option Nat) (W0 W : World) : Prop := ∀ g cur0 e0, b0 = some g → W0.heap[g]? = some (.cells cur0 e0 (0, 0)) → ∃ cur, W.heap[g]? = some (.cells cur e0 (0, 0)) ∧ cur.size = cur0.size ∧ cur.toList.take m = cur0.toList.take m
theorem Head0.refl (m : Nat) (b0 : Option Nat) (W : World) : Head0 m b0 W W := fun _ cur0 _ _ h => ⟨cur0, h, rfl, rfl⟩
theorem Head0.step {m : Nat} {b0 : Option Nat} {W0 W W' : World} {row : Option Nat} (h : Head0 m b0 W0 W) (hg : W.grownBy W' row) (hr : b0 = none ∨ b0 ≠ row) : Head0 m b0 W0 W' := fun g cur0 e0 hb h0 => by
  obtain ⟨cur, h1, h2, h3⟩ := h g cur0 e0 hb h0
  refine ⟨cur, (hg.block g (Array.getElem?_eq_some_iff.1 h1).1 (fun e => ?_)).trans h1, h2, h3⟩
  rcases hr with hr | hr
  · rw [hr] at hb; cases hb
  · exact hr (hb.trans e)
section
variable {w0 : Base} {X : Nat → Prop} {H : Nat → LObj} {β : Nat → Option Nat} {w w' : World} {α : Type} [Inhabited α] {k : Nat} {d : α → DV} {enc : α → List Value}
theorem Cells.flat_len (C : Cells k d enc) (l : List α) : (l.flatMap enc).length = l.length * k := by rw [← flatK_list C l]; simp
theorem Cells.flatD_len {α : Type} {k : Nat} {d : α → DV} {enc : α → List Value} (C : Cells k d enc) (l : List α) : (flatD (l.map d)).length = l.length * k := by
  rw [Go.Eng.flat_len (size := k) (fun x hx => by obtain ⟨y, _, rfl⟩ := List.mem_map.1 hx; exact C.lenD y)]; simp
theorem Cells.all {α : Type} {k : Nat} {d : α → DV} {enc : α → List Value} (C : Cells k d enc) (l : List α) : ∀ x ∈ l.map d, (cellsD x).length = k := fun x hx => by obtain ⟨y, _, rfl⟩ := List.mem_map.1 hx; exact C.lenD y
theorem Cells.holds (C : Cells k d enc) {l : List α} {cur : Array Value} (hn : l.length * k ≤ cur.size) {E : Nat → Prop} {W : World} (h : ∀ (i : Nat) (c : DV) (v : Value), (flatD (l.map d))[i]? = some c → cur[i]? = some v → RD W E c v) : cur.toList.take (l.length * k) = l.flatMap enc := by
  apply List.ext_getElem?
  intro i
  rw [List.getElem?_take]
  by_cases hi : i < l.length * k
  · rw [if_pos hi]
    have h1 : i < cur.size := by omega
    have h2 : i < (l.flatMap enc).length := by rw [C.flat_len]; exact hi
    have h3 : i < (flatD (l.map d)).length := by rw [C.flatD_len]; exact hi
    have := (flat_cells C l i _ _ (List.getElem?_eq_getElem h3) (List.getElem?_eq_getElem h2) W E _).1 (h i _ _ (List.getElem?_eq_getElem h3) (Array.getElem?_eq_getElem h1))
    rw [List.getElem?_eq_getElem h2, ← this]
    simp [h1]
  · rw [if_neg hi, List.getElem?_eq_none (by rw [C.flat_len]; omega)]
end
end Go.Eng
namespace Go.Eng
open Go.RowKit Go.Maps Go.Sort Go.Shelf Go.Proofs
open Go.ChangeMaps (setBlock)
section
variable {P : Program} {F : Fence} {n : Nat} (w : World) {ops : Array Oper} {rest : List Oper} {o : Oper} {a : Act} {Q : Exit → Act → World → Prop}
structure Came (es : Array MapEntry) (vs : List MapEntry) (seen : Array Nat) : Prop where
  mem : ∀ e ∈ vs, e ∈ es.toList
  nd : (vs.map (·.born)).Nodup
  seen : seen.toList = vs.map (·.born)
theorem Came.step {es : Array MapEntry} {vs : List MapEntry} {seen : Array Nat} (h : Came es vs seen) {e : MapEntry} (he : e ∈ (leftOf es seen).toList) : Came es (vs ++ [e]) (seen.push e.born) := by
  unfold leftOf at he
  simp only [Array.toList_filter, List.mem_filter, Bool.not_eq_true'] at he
  refine ⟨fun x hx => ?_, ?_, by simp [h.seen]⟩
  · rcases List.mem_append.1 hx with hx | hx
    · exact h.mem x hx
    · simp at hx; subst hx; exact he.1
  · rw [List.map_append, List.nodup_append]
    refine ⟨h.nd, by simp, fun x hx y hy e' => ?_⟩
    simp at hy; subst hy; subst e'
    rw [← h.seen] at hx
    have := he.2
    simp at this
    exact this (by simpa using hx)
theorem nodup_le : ∀ {l m : List Nat}, l.Nodup → (∀ x ∈ l, x ∈ m) → l.length ≤ m.length
  | [], _, _, _ => Nat.zero_le _
  | a :: l, m, h, hs => by
    simp only [List.nodup_cons] at h
    have ha : a ∈ m := hs a (List.mem_cons_self ..)
    have := nodup_le h.2 (m := m.erase a) (fun x hx => (List.mem_erase_of_ne (show x ≠ a from fun e => by subst e; exact h.1 hx)).2 (hs x (List.mem_cons_of_mem _ hx)))
    rw [List.length_erase_of_mem ha] at this
    have := List.length_pos_of_mem ha
    simp only [List.length_cons]; omega
theorem Came.size {es : Array MapEntry} {clock : Nat} {vs : List MapEntry} {seen : Array Nat} (h : Came es vs seen) (hb : BornOk es clock) : seen.size ≤ es.size := by
  have h1 : seen.size = vs.length := by have := congrArg List.length h.seen; simpa using this
  rw [h1]
  have := nodup_le h.nd (m := es.toList.map (·.born)) (fun x hx => by obtain ⟨e, he, rfl⟩ := List.mem_map.1 hx; exact List.mem_map.2 ⟨e, h.mem e he, rfl⟩)
  simpa using this
end
end Go.Eng
namespace Go.Eng
open Go.Proofs
attribute [local simp] runL stepL evalG evalOp opLV constLV putEnv dstOk upd upds Res.plain Res.cond Res.fail evalBin evalUn seqQ blockQ argsEnv lookL lookH RetIs memless freshL evalPick evalMin bval bok evalLen evalIn strip whenC guardOps guardC slotsOf
  runM foldS stepI stepM maskE wrIn lk renO lookN evalCall evalCallee optAll resLV resObj retLV retObj retsLV retsObj evalLoad evalIndexAddr evalField solid cellsD_agg cellsD_int cellsD_bool cellsD_str cellsD_sl cellsD_ro cellsD_fn cellsL_agg cellsL_dagg cellsL_int cellsL_bool cellsL_str cellsL_sl cellsL_fn cellsL_ow cellsL_bx cellsL_lfn cellsL_nl takeL takeD mkAgg allD eqD eqDs kindsAre kindIs LObj.live TK.isNone TK.agg TK.isBool TK.isStr TK.isStruct Op.operands Call.operands
  evalBuildSlice evalAppend elemsOf evalStore evalBuild fillL lookupF putL evalSlice bound evalConv elemsS freezes frozen loadR
  mkEnv_at mkObs_at close_d close_agg close_ow close_bx close_fn close_nl touch_d touch_agg touch_ow touch_bx touch_fn touch_nl ren_d ren_agg ren_bx ren_rp ren_ow ren_fn ren_nl ren_junk retQ_ret retQ2_ret condQ_bool Nm.d Df.d Ed.d nmsD dfsD strsD edsD retC_ret nm_eq df_eq take_map_len take_map_app
  nm_t nm_d nm_td df_t df_d df_td str_t str_d str_td ed_t ed_d ed_td
  evalAppendIn evalBuildSliceC evalCopyC shortL evalApart evalAppendC evalAppendZ evalAppendG evalCapC isOc TK.isInt close_oc touch_oc ren_oc cellsL_oc evalCut evalClear evalCopy evalMake evalWrap evalCap evalNil isNilC lenL isInp gorc gorc2
  mapOf findD keyEq keyOk evalMakeMap evalRange zeroD zeroDV argsG shutG outN lenv retG0_ret retG0_normal retG1_ret retGR_ret renO close_mp touch_mp ren_mp optAll_d optAll_d' touch_ds cellsL_mp cellsD_mp cellsL_dmp
  evalMapSet evalPtr TK.isPtr evalToArr firstL retN_ret retsQ rvarL close_bm touch_bm ren_bm cellsD_bm cellsL_bm cellsL_lbm
theorem nodup_le' {α : Type} [DecidableEq α] : ∀ {l m : List α}, l.Nodup → (∀ x ∈ l, x ∈ m) → l.length ≤ m.length
  | [], _, _, _ => Nat.zero_le _
  | a :: l, m, h, hs => by
    simp only [List.nodup_cons] at h
    have ha : a ∈ m := hs a (List.mem_cons_self ..)
    have := nodup_le' h.2 (m := m.erase a) (fun x hx => (List.mem_erase_of_ne (show x ≠ a from fun e => by subst e; exact h.1 hx)).2 (hs x (List.mem_cons_of_mem _ hx)))
    rw [List.length_erase_of_mem ha] at this
    have := List.length_pos_of_mem ha
    simp only [List.length_cons]; omega
theorem reach_all {l : List Ed} {n m : Nm} (h : Reach l n m) : m ∈ allNeeds l := by
  induction h with
  | one h => exact needs_all h
  | next _ _ ih => exact ih
theorem aboveL_len (l : List Ed) (n : Nm) : (aboveL l n).length ≤ (allNeeds l).length := nodup_le' (aboveL_nodup l n) fun x hx => reach_all (mem_aboveL.1 hx)
open Go.Proofs
def IsAbove (l : List Ed) (n : Nm) (o : List Nm) : Prop := (∀ x, x ∈ o ↔ Reach l n x) ∧ o.length ≤ 2 * (allNeeds l).length
theorem flat_mem_len : ∀ {l : List Ed} {e : Ed}, e ∈ l → e.needs.length ≤ (l.flatMap Ed.needs).length
  | a :: l, e, h => by
    simp only [List.flatMap_cons, List.length_append]
    rcases List.mem_cons.1 h with rfl | h
    · omega
    · have := flat_mem_len h; omega
theorem needsOf_len {l : List Ed} {n : Nm} : (needsOf l n).length ≤ (allNeeds l).length := by
  unfold needsOf
  split
  · rename_i i h
    obtain ⟨hi, _, _⟩ := find_at h
    simp only [List.getD_eq_getElem?_getD, List.getElem?_eq_getElem hi, Option.getD_some]
    exact flat_mem_len (List.getElem_mem hi)
  · simp
theorem mu_nil (l : List Ed) (M : List Nm) : mu l M ≤ (allNeeds l).length := List.length_filter_le _ _
structure Sofar (l : List Ed) (n : Nm) (out : List Nm) (i : Nat) : Prop where
  reach : ∀ x ∈ out, Reach l n x
  first : ∀ x ∈ needsOf l n, x ∈ out
  done : ∀ (j : Nat) (h : j < out.length), j < i → ∀ x ∈ needsOf l out[j], x ∈ out
  size : mu l out + out.length ≤ 2 * (allNeeds l).length
theorem Sofar.start (l : List Ed) (n : Nm) : Sofar l n (needsOf l n) 0 :=
  ⟨fun x h => .one h, fun x h => h, fun j _ h => absurd h (Nat.not_lt_zero _), by have := mu_nil l (needsOf l n); have := needsOf_len (l := l) (n := n); omega⟩
theorem Sofar.step {l : List Ed} {n : Nm} {out o : List Nm} {i : Nat} (h : Sofar l n out i) (hi : i < out.length) (hp : out <+: o) (hr : ∀ x ∈ o, Reach l n x) (hd : ∀ x ∈ needsOf l out[i], x ∈ o) (hs : mu l o + o.length ≤ mu l out + out.length) : Sofar l n o (i + 1) := by
  have hsub : ∀ x ∈ out, x ∈ o := fun x hx => hp.subset hx
  refine ⟨hr, fun x hx => hsub x (h.first x hx), fun j hj hji x hx => ?_, by have := h.size; omega⟩
  have hjo : j < out.length := by omega
  have e : o[j] = out[j] := (List.IsPrefix.getElem hp hjo).symm
  rw [e] at hx
  by_cases hj2 : j < i
  · exact hsub x (h.done j hjo hj2 x hx)
  · have : j = i := by omega
    subst this
    exact hd x hx
theorem Sofar.above {l : List Ed} {n : Nm} {out : List Nm} {i : Nat} (h : Sofar l n out i) (hi : out.length ≤ i) : IsAbove l n out := by
  refine ⟨fun x => ⟨h.reach x, fun hr => ?_⟩, by have := h.size; omega⟩
  have key : ∀ {m k : Nm}, Reach l m k → (m = n ∨ m ∈ out) → k ∈ out := by
    intro m k hr
    induction hr with
    | one hm =>
      rintro (rfl | hmo)
      · exact h.first _ hm
      · obtain ⟨j, hj, rfl⟩ := List.getElem_of_mem hmo
        exact h.done j hj (by omega) _ hm
    | next hm _ ih =>
      rintro (rfl | hmo)
      · exact ih (.inr (h.first _ hm))
      · obtain ⟨j, hj, rfl⟩ := List.getElem_of_mem hmo
        exact ih (.inr (h.done j hj (by omega) _ hm))
  exact key hr (.inl rfl)
theorem Above_ok (l : List Ed) (n : Nm) (hn : (allNeeds l).length ≤ 1100000) : OkR Tryz.prog 45 [edsD l, n.d] (fun r => (fun v => ∃ o : List Nm, IsAbove l n o ∧ v = .d (nmsD o)) r.v ∧ r.fresh = true) := by
  refine OkR.ret (Rel := fun v => ∃ o : List Nm, IsAbove l n o ∧ v = .d (nmsD o)) Tryz.func45 (by kernel_rfl) (c := _) rfl Tryz.ntmps45 (by simp) Tryz.results45 fun w0 X hp => ?_
  have hnl := needsOf_len (l := l) (n := n)
  refine LWp.seq ?_
  refine LWp.rz hT hW ?_
  simp
  refine LWp.seq ?_
  refine LWp.ro hT hW (fun | 12 => some <| .plain ⟨.d (nmsD (needsOf l n)), false⟩ | _ => none) ?_
  simp
  refine ⟨⟨Needs_ok l n, by omega⟩, ?_⟩
  refine LWp.seq ?_
  refine LWp.seq ?_
  refine LWp.rz hT hW ?_
  simp
  refine LWp.block ?_
  refine LWp.loopW (ι := Nat × List Nm) (fun ⟨i, out⟩ => mkEnv [(0, .d (edsD l)), (5, .ow 5 0 out.length), (6, .d (I64 i))]) (fun ⟨i, out⟩ => mkObs [(5, .row false 2 (out.map Nm.d))]) (fun ⟨i, out⟩ => Sofar l n out i) (fun ⟨i, out⟩ => mu l out + (out.length - i)) (0, needsOf l n) (Weak.to [0, 5, 6] [(13, 5)] (by decide) (by decide) (by simp [hp]) (by simp) (by simp)) (Sofar.start l n) fun ⟨i, out⟩ hi3 => ?_
  refine LWp.seq ?_
  refine LWp.seq ?_
  refine LWp.rz hT hW ?_
  simp
  refine LWp.iff ?_
  simp
  refine ⟨fun h3 => ?_, fun h3 => ?_⟩
  · refine LWp.skip ?_
    simp
    refine LWp.seq ?_
    refine LWp.block ?_
    refine LWp.seq ?_
    refine LWp.ro hT hW (fun | 25 => some <| .plain ⟨.d (nmsD (needsOf l out[i])), false⟩ | _ => none) ?_
    simp [h3]
    refine ⟨Needs_ok l out[i], ?_⟩
    refine LWp.seq ?_
    refine LWp.rz hT hW ?_
    simp
    refine LWp.block ?_
    refine LWp.loopW (ι := Nat × List Nm) (fun ⟨k, o⟩ => mkEnv [(0, .d (edsD l)), (5, .ow 5 0 o.length), (6, .d (I64 i)), (7, .d (nmsD (needsOf l out[i]))), (8, .d (I64 k))]) (fun ⟨k, o⟩ => mkObs [(5, .row false 2 (o.map Nm.d))]) (fun ⟨k, o⟩ => k ≤ (needsOf l out[i]).length ∧ out <+: o ∧ (∀ x ∈ o, Reach l n x) ∧ (∀ (j : Nat) (h : j < (needsOf l out[i]).length), j < k → (needsOf l out[i])[j] ∈ o) ∧ mu l o + o.length ≤ mu l out + out.length) (fun ⟨k, o⟩ => (needsOf l out[i]).length - k) (0, out) (Weak.to [0, 5, 6, 7, 8] [(5, 5)] (by decide) (by decide) (by simp [hp]) (by simp) (by simp)) (⟨Nat.zero_le _, List.prefix_refl _, hi3.reach, fun j _ h => absurd h (Nat.not_lt_zero _), Nat.le_refl _⟩) fun ⟨k, o⟩ hi7 => ?_
    refine LWp.seq ?_
    refine LWp.seq ?_
    refine LWp.rz hT hW ?_
    simp
    refine LWp.iff ?_
    simp
    refine ⟨fun h7 => ?_, fun h7 => ?_⟩
    · refine LWp.skip ?_
      simp
      refine LWp.seq ?_
      refine LWp.block ?_
      refine LWp.seq ?_
      refine LWp.ro hT hW (fun | 37 => some <| .plain ⟨.d (.bool (decide ((needsOf l out[i])[k] ∈ o))), true⟩ | _ => none) ?_
      simp [h7]
      refine ⟨Has_ok o _, ?_⟩
      refine LWp.iff ?_
      simp
      refine ⟨fun h9 => ?_, fun h9 => ?_⟩
      · refine LWp.rz hT hW ?_
        simp [h7]
        have hb1 := hi7.2.2.2.2
        have hb2 := hi3.size
        refine ⟨by omega, ?_⟩
        refine LWp.rz hT hW ?_
        simp
        have hk := needsOf_len (l := l) (n := out[i])
        refine ⟨by omega, ?_⟩
        refine loopQ.mk (k + 1, o ++ [(needsOf l out[i])[k]]) (Weak.to [0, 5, 6, 7, 8] [(45, 5)] (by decide) (by decide) (by simp [hp]) (by simp) (by simp)) ?_ ?_
        · obtain ⟨q1, q2, q3, q4, q5⟩ := hi7
          have hm : (needsOf l out[i])[k] ∈ needsOf l out[i] := List.getElem_mem h7
          refine ⟨h7, q2.trans (List.prefix_append _ _), fun x hx => ?_, fun j hj hjk => ?_, ?_⟩
          · rcases List.mem_append.1 hx with hx | hx
            · exact q3 x hx
            · simp at hx; subst hx; exact (hi3.reach _ (List.getElem_mem h3)).snoc hm
          · by_cases e : j = k
            · subst e; simp
            · exact List.mem_append_left _ (q4 j hj (by omega))
          · have := mu_lt (needs_all hm) h9
            simp only [List.length_append, List.length_singleton]; omega
        · omega
      · refine LWp.skip ?_
        simp
        refine LWp.rz hT hW ?_
        simp
        have hk := needsOf_len (l := l) (n := out[i])
        refine ⟨by omega, ?_⟩
        refine loopQ.mk (k + 1, o) (Weak.to [0, 5, 6, 7, 8] [(5, 5)] (by decide) (by decide) (by simp [hp]) (by simp) (by simp)) ?_ ?_
        · obtain ⟨q1, q2, q3, q4, q5⟩ := hi7
          refine ⟨h7, q2, q3, fun j hj hjk => ?_, q5⟩
          by_cases e : j = k
          · subst e; exact h9
          · exact q4 j hj (by omega)
        · omega
    · refine LWp.exit ?_
      simp
      refine LWp.rz hT hW ?_
      simp
      have hb2 := hi3.size
      refine ⟨by omega, ?_⟩
      refine loopQ.mk (i + 1, o) (Weak.to [0, 5, 6] [(5, 5)] (by decide) (by decide) (by simp [hp]) (by simp) (by simp)) ?_ ?_
      · exact hi3.step h3 hi7.2.1 hi7.2.2.1 (fun x hx => by obtain ⟨j, hj, rfl⟩ := List.getElem_of_mem hx; exact hi7.2.2.2.1 j hj (by omega)) hi7.2.2.2.2
      · have := hi7.2.2.2.2
        have := (hi7.2.1).length_le
        dsimp only
        omega
  · refine LWp.exit ?_
    simp
    refine LWp.seq ?_
    refine LWp.rz hT hW ?_
    simp
    refine LWp.ret ?_
    simp only [retR_ret]
    refine ⟨_, ⟨out, hi3.above (by omega), rfl⟩, by simp, ?_⟩
    simp
theorem Before_ok (l : List Ed) (a b : Nm) (hn : (allNeeds l).length ≤ 1100000) : Ok Tryz.prog 103 [edsD l, a.d, b.d] ⟨.d (.bool (decide (a ∈ aboveL l b))), true⟩ := by
  refine Ok.ret Tryz.func103 (by kernel_rfl) (c := _) rfl Tryz.ntmps103 (by simp) Tryz.results103 (by intro _ h; cases h) fun w0 X hp => ?_
  refine LWp.seq ?_
  refine LWp.rz hT hW ?_
  simp
  refine LWp.seq ?_
  refine LWp.anyRel hT hW hMixed (lk [[],[],[0,1],[],[0,1,2,3],[0,1,2,3,4]]) (lk [[],[],[],[9],[],[]]) (lk [[],[],[9],[],[11],[]]) (by kernel_rfl) 9 (fun r => (∃ o : List Nm, IsAbove l b o ∧ r.v = .d (nmsD o)) ∧ r.fresh = true) true ⟨.d (nmsD (aboveL l b)), true⟩ ⟨⟨⟨aboveL l b, ⟨fun x => mem_aboveL, by have := aboveL_len l b; omega⟩, rfl⟩, rfl⟩, rfl⟩ (fun | 11 => some <| .plain ⟨.d (.bool (decide (a ∈ aboveL l b))), true⟩ | _ => none) (by intro d; first | exact ⟨rfl, fun _ h => h⟩ | (split <;> exact ⟨rfl, fun _ h => h⟩)) (by kernel_rfl) fun r1 hr1 => ?_
  obtain ⟨v1, f1⟩ := r1
  obtain ⟨⟨o, ho, hv⟩, hf⟩ := hr1
  dsimp only at hv hf
  subst hv; subst hf
  have hmo : decide (a ∈ o) = decide (a ∈ aboveL l b) := by rw [decide_eq_decide, ho.1, mem_aboveL]
  simp
  refine ⟨⟨Above_ok l b hn, by rw [← hmo]; exact Has_ok o a⟩, ?_⟩
  refine LWp.ret ?_
  simp
theorem Closed_ok (l : List Ed) (set : List Nm) (hn : (allNeeds l).length ≤ 1100000) (hs : set.length ≤ 1000000000000) : Ok Tryz.prog 46 [edsD l, nmsD set] ⟨.d (.bool (closedB l set)), true⟩ := by
  refine Ok.ret Tryz.func46 (by kernel_rfl) (c := _) rfl Tryz.ntmps46 (by simp) Tryz.results46 (by intro _ h; cases h) fun w0 X hp => ?_
  refine LWp.seq ?_
  refine LWp.rz hT hW ?_
  simp
  refine LWp.seq ?_
  refine LWp.seq ?_
  refine LWp.rz hT hW ?_
  simp
  refine LWp.block ?_
  refine LWp.loopW (ι := Nat) (fun i => mkEnv [(0, .d (edsD l)), (1, .d (nmsD set)), (5, .d (I64 i))]) (fun i => mkObs []) (fun i => i ≤ set.length ∧ Pre (fun n => !closedAt l set n) set i) (fun i => set.length - i) 0 (Weak.to [0, 1, 5] [] (by decide) (by decide) (by simp [hp]) (by simp) (by simp)) (⟨Nat.zero_le _, Pre.zero⟩) fun i hi2 => ?_
  refine LWp.seq ?_
  refine LWp.seq ?_
  refine LWp.rz hT hW ?_
  simp
  refine LWp.iff ?_
  simp
  refine ⟨fun h2 => ?_, fun h2 => ?_⟩
  · refine LWp.skip ?_
    simp
    refine LWp.seq ?_
    refine LWp.block ?_
    refine LWp.seq ?_
    refine LWp.seq ?_
    refine LWp.ro hT hW (fun | 19 => some <| .plain ⟨.d (I64 (findI l set[i])), true⟩ | _ => none) ?_
    simp [h2]
    refine ⟨Find_ok l _, ?_⟩
    refine LWp.iff ?_
    simp
    refine ⟨fun h4 => ?_, fun h4 => ?_⟩
    · refine LWp.seq ?_
      refine LWp.rz hT hW ?_
      simp
      refine LWp.ret ?_
      simp
      exact closedB_false h2 (by simp [closedAt, h4])
    · refine LWp.skip ?_
      simp
      refine LWp.seq ?_
      refine LWp.ro hT hW (fun | 26 => some <| .plain ⟨.d (nmsD (needsOf l set[i])), false⟩ | _ => none) ?_
      simp [h2]
      refine ⟨Needs_ok l _, ?_⟩
      refine LWp.seq ?_
      refine LWp.rz hT hW ?_
      simp
      refine LWp.block ?_
      refine LWp.loopW (ι := Nat) (fun k => mkEnv [(0, .d (edsD l)), (1, .d (nmsD set)), (5, .d (I64 i)), (6, .d (nmsD (needsOf l set[i]))), (7, .d (I64 k))]) (fun k => mkObs []) (fun k => k ≤ (needsOf l set[i]).length ∧ Pre (fun m => !decide (m ∈ set)) (needsOf l set[i]) k) (fun k => (needsOf l set[i]).length - k) 0 (Weak.to [0, 1, 5, 6, 7] [] (by decide) (by decide) (by simp [hp]) (by simp) (by simp)) (⟨Nat.zero_le _, Pre.zero⟩) fun k hi8 => ?_
      refine LWp.seq ?_
      refine LWp.seq ?_
      refine LWp.rz hT hW ?_
      simp
      refine LWp.iff ?_
      simp
      refine ⟨fun h8 => ?_, fun h8 => ?_⟩
      · refine LWp.skip ?_
        simp
        refine LWp.seq ?_
        refine LWp.block ?_
        refine LWp.seq ?_
        refine LWp.ro hT hW (fun | 38 => some <| .plain ⟨.d (.bool (decide ((needsOf l set[i])[k] ∈ set))), true⟩ | _ => none) ?_
        simp [h8]
        refine ⟨Has_ok set _, ?_⟩
        refine LWp.iff ?_
        simp
        refine ⟨fun h10 => ?_, fun h10 => ?_⟩
        · refine LWp.seq ?_
          refine LWp.rz hT hW ?_
          simp
          refine LWp.ret ?_
          simp
          refine closedB_false h2 ?_
          simp only [closedAt, Bool.and_eq_false_iff]
          refine .inr ?_
          rw [List.all_eq_false]
          exact ⟨_, List.getElem_mem h8, by simpa using h10⟩
        · refine LWp.skip ?_
          simp
          refine LWp.rz hT hW ?_
          simp
          have hk := needsOf_len (l := l) (n := set[i])
          refine ⟨by omega, ?_⟩
          refine loopQ.mk (k + 1) (Weak.to [0, 1, 5, 6, 7] [] (by decide) (by decide) (by simp [hp]) (by simp) (by simp)) ?_ ?_
          · exact ⟨h8, hi8.2.succ h8 (by simpa using h10)⟩
          · omega
      · refine LWp.exit ?_
        simp
        refine LWp.rz hT hW ?_
        simp
        refine ⟨by omega, ?_⟩
        refine loopQ.mk (i + 1) (Weak.to [0, 1, 5] [] (by decide) (by decide) (by simp [hp]) (by simp) (by simp)) ?_ ?_
        · refine ⟨h2, hi2.2.succ h2 ?_⟩
          have hneg : ¬ findI l set[i] < 0 := by omega
          simp [closedAt, hneg]
          intro m hm
          obtain ⟨j, hj, rfl⟩ := List.getElem_of_mem hm
          have := hi8.2 j hj (by omega)
          simpa using this
        · omega
  · refine LWp.exit ?_
    simp
    refine LWp.seq ?_
    refine LWp.rz hT hW ?_
    simp
    refine LWp.ret ?_
    simp
    exact closedB_true hi2.2 h2
theorem Closure_ok (l : List Ed) (set : List Nm) (hn : (allNeeds l).length ≤ 1000) (hs : set.length ≤ 400) : Ok Tryz.prog 10 [edsD l, nmsD set] ⟨.tup [.d (nmsD (closureV l set).1), .d (I64 (closureV l set).2)], false⟩ := by
  refine Ok.two Tryz.func10 (by kernel_rfl) (c := _) rfl Tryz.ntmps10 (by simp) Tryz.results10 rfl fun w0 X hp => ?_
  refine LWp.seq ?_
  refine LWp.rz hT hW ?_
  simp
  refine LWp.seq ?_
  refine LWp.rz hT hW ?_
  simp
  refine ⟨by omega, ?_⟩
  refine LWp.seq ?_
  refine LWp.seq ?_
  refine LWp.rz hT hW ?_
  simp
  refine LWp.block ?_
  refine LWp.loopW (ι := Nat × List Nm) (fun ⟨i, out⟩ => mkEnv [(0, .d (edsD l)), (1, .d (nmsD set)), (6, .ow 6 0 out.length), (7, .d (I64 i))]) (fun ⟨i, out⟩ => mkObs [(6, .row false 2 (out.map Nm.d))]) (fun ⟨i, out⟩ => i ≤ set.length ∧ out.length ≤ set.length + i * 2000 ∧ ∀ x, x ∈ out ↔ x ∈ set ++ (set.take i).flatMap (aboveL l)) (fun ⟨i, out⟩ => set.length - i) (0, set) (Weak.to [0, 1, 6, 7] [(10, 6)] (by decide) (by decide) (by simp [hp]) (by simp) (by simp)) (by simp) fun ⟨i, out⟩ hi3 => ?_
  refine LWp.seq ?_
  refine LWp.seq ?_
  refine LWp.rz hT hW ?_
  simp
  refine LWp.iff ?_
  simp
  refine ⟨fun h3 => ?_, fun h3 => ?_⟩
  · refine LWp.skip ?_
    simp
    refine LWp.seq ?_
    refine LWp.block ?_
    obtain ⟨q1, q2, q3⟩ := hi3
    have hip : i * 2000 ≤ set.length * 2000 := Nat.mul_le_mul_right _ q1
    have hab := aboveL_len l set[i]
    refine LWp.regRel hT hW 23 (fun r => (∃ o : List Nm, IsAbove l set[i] o ∧ r.v = .d (nmsD o)) ∧ r.fresh = true) true ⟨.d (nmsD (aboveL l set[i])), true⟩ ⟨⟨⟨aboveL l set[i], ⟨fun x => mem_aboveL, by omega⟩, rfl⟩, rfl⟩, rfl⟩ (fun | 99 => none | _ => none) (by intro d; first | exact ⟨rfl, fun _ h => h⟩ | (split <;> exact ⟨rfl, fun _ h => h⟩)) (by kernel_rfl) fun r5 hr5 => ?_
    obtain ⟨v1, f1⟩ := r5
    obtain ⟨⟨o, ho, hv⟩, hf⟩ := hr5
    dsimp only at hv hf
    subst hv; subst hf
    have hol := ho.2
    simp [h3]
    refine ⟨⟨Above_ok l set[i] (by omega), by omega⟩, ?_⟩
    refine LWp.rz hT hW ?_
    simp
    refine ⟨by omega, ?_⟩
    refine loopQ.mk (i + 1, out ++ o) (Weak.to [0, 1, 6, 7] [(24, 6)] (by decide) (by decide) (by simp [hp]) (by simp) (by simp)) ?_ ?_
    · refine ⟨h3, ?_, fun x => ?_⟩
      · have := ho.2
        simp only [List.length_append, Nat.add_mul]; omega
      · have e : set ++ (set.take (i + 1)).flatMap (aboveL l) = (set ++ (set.take i).flatMap (aboveL l)) ++ aboveL l set[i] := by
          rw [List.take_succ_eq_append_getElem h3, List.flatMap_append]; simp
        have h5 : x ∈ out ++ o ↔ x ∈ set ++ (set.take (i + 1)).flatMap (aboveL l) := by
          rw [e, List.mem_append, List.mem_append (s := set ++ _), q3 x, ho.1 x, mem_aboveL]
        simpa using h5
    · omega
  · refine LWp.exit ?_
    simp
    refine LWp.seq ?_
    refine LWp.seq ?_
    obtain ⟨q1, q2, q3⟩ := hi3
    have hi' : i = set.length := by omega
    rw [hi', List.take_length] at q3
    have hcl : closedB l out = closedB l (set ++ set.flatMap (aboveL l)) := closedB_mem q3
    have hso : sortN out = sortN (set ++ set.flatMap (aboveL l)) := sortN_mem q3
    have hil : i * 2000 ≤ 400 * 2000 := Nat.mul_le_mul_right _ (by omega)
    refine LWp.ro hT hW (fun | 27 => some <| .plain ⟨.d (.bool (closedB l out)), true⟩ | _ => none) ?_
    simp
    refine ⟨Closed_ok l out (by omega) (by omega), ?_⟩
    refine LWp.iff ?_
    simp
    refine ⟨fun h6 => ?_, fun h6 => ?_⟩
    · refine LWp.seq ?_
      refine LWp.rz hT hW ?_
      simp
      refine LWp.ret ?_
      have e : closureV l set = ([], 6) := by unfold closureV; rw [← hcl, if_pos (by simpa using h6)]
      simp [e]
    · refine LWp.skip ?_
      simp
      refine LWp.seq ?_
      refine LWp.ro hT hW (fun | 30 => some <| .plain ⟨.d (nmsD (sortN out)), true⟩ | _ => none) ?_
      simp
      refine ⟨Sort_ok out (by omega), ?_⟩
      refine LWp.ret ?_
      have e : closureV l set = (sortN out, 0) := by unfold closureV; rw [← hcl, ← hso, if_neg (by simpa using h6)]
      simp [e]
end Go.Eng
namespace Go.Eng
open Go.RowKit Go.Maps Go.Sort Go.Shelf Go.Proofs
open Go.ChangeMaps (setBlock)
def keyS (x : Str) : Value := .string ⟨x.toArray⟩
def Str.enc (x : Str) : List Value := [keyS x]
end Go.Eng
namespace Go.Eng
open Go.Proofs Go.Sort Go.Shelf Go.RowKit
attribute [local simp] runL stepL evalG evalOp opLV constLV putEnv dstOk upd upds Res.plain Res.cond Res.fail evalBin evalUn seqQ blockQ argsEnv lookL lookH RetIs memless freshL evalPick evalMin bval bok evalLen evalIn strip whenC guardOps guardC slotsOf
  runM foldS stepI stepM maskE wrIn lk renO lookN evalCall evalCallee optAll resLV resObj retLV retObj retsLV retsObj evalLoad evalIndexAddr evalField solid cellsD_agg cellsD_int cellsD_bool cellsD_str cellsD_sl cellsD_ro cellsD_fn cellsL_agg cellsL_dagg cellsL_int cellsL_bool cellsL_str cellsL_sl cellsL_fn cellsL_ow cellsL_bx cellsL_lfn cellsL_nl takeL takeD mkAgg allD eqD eqDs kindsAre kindIs LObj.live TK.isNone TK.agg TK.isBool TK.isStr TK.isStruct Op.operands Call.operands
  evalBuildSlice evalAppend elemsOf evalStore evalBuild fillL lookupF putL evalSlice bound evalConv elemsS freezes frozen loadR
  mkEnv_at mkObs_at close_d close_agg close_ow close_bx close_fn close_nl touch_d touch_agg touch_ow touch_bx touch_fn touch_nl ren_d ren_agg ren_bx ren_rp ren_ow ren_fn ren_nl ren_junk retQ_ret retQ2_ret condQ_bool Nm.d Df.d Ed.d nmsD dfsD strsD edsD retC_ret nm_eq df_eq take_map_len take_map_app
  nm_t nm_d nm_td df_t df_d df_td str_t str_d str_td ed_t ed_d ed_td
  evalAppendIn evalBuildSliceC evalCopyC shortL evalApart evalAppendC evalAppendZ evalAppendG evalCapC isOc TK.isInt close_oc touch_oc ren_oc cellsL_oc evalCut evalClear evalCopy evalMake evalWrap evalCap evalNil isNilC lenL isInp gorc gorc2
  mapOf findD keyEq keyOk evalMakeMap evalRange zeroD zeroDV argsG shutG outN lenv retG0_ret retG0_normal retG1_ret retGR_ret renO close_mp touch_mp ren_mp optAll_d optAll_d' touch_ds cellsL_mp cellsD_mp cellsL_dmp
  evalMapSet evalPtr TK.isPtr evalToArr firstL retN_ret retsQ rvarL close_bm touch_bm ren_bm cellsD_bm cellsL_bm cellsL_lbm
end Go.Eng
namespace Go.Eng
theorem bless_iff : ∀ {a b : Str}, bless a b = true ↔ a < b
  | [], [] => by simp [bless, Op.bytesLess]
  | [], _ :: _ => by simp [bless, Op.bytesLess]
  | _ :: _, [] => by simp [bless, Op.bytesLess]
  | a :: x, b :: y => by
    have ih := bless_iff (a := x) (b := y)
    unfold bless at *
    simp only [Op.bytesLess, List.cons_lt_cons_iff]
    by_cases h1 : a < b
    · simp [h1]
    · by_cases h2 : b < a
      · have hne : a ≠ b := fun e => by subst e; exact h1 h2
        simp [h1, h2, hne]
      · have e : a = b := by
          have h1' : ¬ a.toNat < b.toNat := h1
          have h2' : ¬ b.toNat < a.toNat := h2
          exact UInt8.toNat_inj.1 (by omega)
        subst e
        simp [h1, ih]
theorem bless_sto : STO bless := by
  refine ⟨fun a => ?_, fun a b c h1 h2 => ?_, fun a b h1 h2 => ?_⟩
  · cases q : bless a a with
    | false => rfl
    | true => exact absurd (bless_iff.1 q) (List.lt_irrefl a)
  · exact bless_iff.2 (List.lt_trans (bless_iff.1 h1) (bless_iff.1 h2))
  · have h1' : ¬ a < b := fun h => by rw [bless_iff.2 h] at h1; cases h1
    have h2' : ¬ b < a := fun h => by rw [bless_iff.2 h] at h2; cases h2
    exact List.le_antisymm (List.not_lt.1 h2') (List.not_lt.1 h1')
def upsert (m : List Df) (d : Df) : List Df := match m.findIdx? (fun x => decide (d.name = x.name)) with | some j => m.set j d | none => m ++ [d]
def removeN (m : List Df) (s : Str) : List Df := match m.findIdx? (fun x => decide (s = x.name)) with | some j => m.eraseIdx j | none => m
def lookD (m : List Df) (s : Str) : Df := match m.findIdx? (fun x => decide (s = x.name)) with | some j => m.getD j default | none => ⟨[], []⟩
def nameLt (a b : Df) : Bool := bless a.name b.name
structure Rep (m L : List Df) : Prop where
  nd : (m.map Df.name).Nodup
  ri : Rising nameLt L
  mem : ∀ d, d ∈ m ↔ d ∈ L
theorem Rep.nil : Rep [] [] := ⟨by simp, by simp [Rising], by simp⟩
theorem rising_names {L : List Df} (h : Rising nameLt L) : (L.map Df.name).Nodup := by
  rw [List.Nodup, List.pairwise_map]
  exact h.imp fun {a b} hab e => by unfold nameLt at hab; rw [e, bless_sto.irrefl] at hab; cases hab
theorem name_inj {m : List Df} (h : (m.map Df.name).Nodup) {a b : Df} (ha : a ∈ m) (hb : b ∈ m) (e : a.name = b.name) : a = b := by
  obtain ⟨i, hi, rfl⟩ := List.getElem_of_mem ha
  obtain ⟨j, hj, rfl⟩ := List.getElem_of_mem hb
  rw [List.Nodup, List.pairwise_map, List.pairwise_iff_getElem] at h
  rcases Nat.lt_trichotomy i j with hij | hij | hij
  · exact absurd e (h i j hi hj hij)
  · subst hij; rfl
  · exact absurd e.symm (h j i hj hi hij)
theorem find_name_none {m : List Df} {s : Str} (h : m.findIdx? (fun x => decide (s = x.name)) = none) : ∀ x ∈ m, x.name ≠ s := fun x hx e => by
  have := List.findIdx?_eq_none_iff.1 h x hx; simp at this; exact this e.symm
theorem find_name_some {m : List Df} {s : Str} {j : Nat} (h : m.findIdx? (fun x => decide (s = x.name)) = some j) : ∃ hj : j < m.length, m[j].name = s := by
  obtain ⟨hj, h1, _⟩ := List.findIdx?_eq_some_iff_getElem.1 h
  exact ⟨hj, (of_decide_eq_true h1).symm⟩
theorem upsert_names {m : List Df} {d : Df} (h : (m.map Df.name).Nodup) : ((upsert m d).map Df.name).Nodup ∧ ∀ x, x ∈ upsert m d ↔ x = d ∨ (x ∈ m ∧ x.name ≠ d.name) := by
  unfold upsert
  cases q : m.findIdx? (fun x => decide (d.name = x.name)) with
  | none =>
    have hn := find_name_none q
    refine ⟨?_, fun x => ?_⟩
    · rw [List.map_append, List.nodup_append]
      refine ⟨h, by simp, fun a ha b hb e => ?_⟩
      simp at hb; subst hb; subst e
      obtain ⟨x, hx, hxe⟩ := List.mem_map.1 ha
      exact hn x hx hxe
    · rw [List.mem_append, List.mem_singleton]
      constructor
      · rintro (hx | rfl)
        · exact .inr ⟨hx, hn x hx⟩
        · exact .inl rfl
      · rintro (rfl | ⟨hx, _⟩)
        · exact .inr rfl
        · exact .inl hx
  | some j =>
    obtain ⟨hj, hjn⟩ := find_name_some q
    simp only
    have hset : (m.set j d).map Df.name = m.map Df.name := by
      rw [List.map_set]
      apply List.ext_getElem?
      intro i
      rw [List.getElem?_set]
      by_cases e : j = i
      · subst e; simp [hj, hjn]
      · simp [e]
    refine ⟨by rw [hset]; exact h, fun x => ?_⟩
    constructor
    · intro hx
      obtain ⟨i, hi, rfl⟩ := List.getElem_of_mem hx
      simp at hi
      rw [List.getElem_set]
      by_cases e : j = i
      · simp [e]
      · simp only [e, if_false]
        refine .inr ⟨List.getElem_mem hi, fun en => e ?_⟩
        rw [List.Nodup, List.pairwise_map, List.pairwise_iff_getElem] at h
        rcases Nat.lt_trichotomy i j with hij | hij | hij
        · exact absurd (en.trans hjn.symm) (h i j hi hj hij)
        · exact hij.symm
        · exact absurd (hjn.trans en.symm) (h j i hj hi hij)
    · rintro (rfl | ⟨hx, hne⟩)
      · exact List.mem_iff_getElem.2 ⟨j, by simpa using hj, by simp⟩
      · obtain ⟨i, hi, rfl⟩ := List.getElem_of_mem hx
        have e : j ≠ i := fun e => by subst e; exact hne hjn
        exact List.mem_iff_getElem.2 ⟨i, by simpa using hi, by rw [List.getElem_set]; simp [e]⟩
theorem removeN_names {m : List Df} {s : Str} (h : (m.map Df.name).Nodup) : ((removeN m s).map Df.name).Nodup ∧ ∀ x, x ∈ removeN m s ↔ x ∈ m ∧ x.name ≠ s := by
  unfold removeN
  cases q : m.findIdx? (fun x => decide (s = x.name)) with
  | none => exact ⟨h, fun x => ⟨fun hx => ⟨hx, find_name_none q x hx⟩, fun hx => hx.1⟩⟩
  | some j =>
    obtain ⟨hj, hjn⟩ := find_name_some q
    simp only
    refine ⟨h.sublist ((List.eraseIdx_sublist m j).map Df.name), fun x => ?_⟩
    rw [List.mem_eraseIdx_iff_getElem]
    constructor
    · rintro ⟨i, hi, hij, rfl⟩
      refine ⟨List.getElem_mem hi, fun en => ?_⟩
      rw [List.Nodup, List.pairwise_map, List.pairwise_iff_getElem] at h
      rcases Nat.lt_trichotomy i j with hlt | he | hlt
      · exact h i j hi hj hlt (en.trans hjn.symm)
      · exact hij he
      · exact h j i hj hi hlt (hjn.trans en.symm)
    · rintro ⟨hx, hne⟩
      obtain ⟨i, hi, rfl⟩ := List.getElem_of_mem hx
      exact ⟨i, hi, fun e => by subst e; exact hne hjn, rfl⟩
theorem ins_rising' {α : Type} {lt : α → α → Bool} (tr : ∀ a b c, lt a b = true → lt b c = true → lt a c = true) {out : List α} {x : α} (h : Rising lt out) (ht : ∀ y ∈ out, lt x y = false → lt y x = true) : Rising lt (insAt (rpos (fun y => lt x y) out out.length) x out) := by
  obtain ⟨h1, h2⟩ := rpos_spec (p := fun y => lt x y) (out := out) out.length (Nat.le_refl _)
  have hle := rpos_le (p := fun y => lt x y) (out := out) out.length
  generalize rpos (fun y => lt x y) out out.length = k at *
  have hout := List.pairwise_iff_getElem.1 h
  have below : ∀ i (hi : i < out.length), i < k → lt out[i] x = true := by
    intro i hi hik
    have hk1 : k - 1 < out.length := by omega
    have hlast : lt out[k - 1] x = true := ht _ (List.getElem_mem hk1) (h2 (k - 1) hk1 (by omega))
    by_cases e : i = k - 1
    · subst e; exact hlast
    · exact tr _ _ _ (hout i (k - 1) hi hk1 (by omega)) hlast
  unfold insAt
  refine List.pairwise_append.2 ⟨h.sublist (List.take_sublist _ _), List.pairwise_cons.2 ⟨fun y hy => ?_, h.sublist (List.drop_sublist _ _)⟩, fun y hy z hz => ?_⟩
  · obtain ⟨i, hi, rfl⟩ := List.getElem_of_mem hy
    simp at hi
    simp only [List.getElem_drop]
    exact h1 (k + i) (by omega) (by omega) (by omega)
  · obtain ⟨i, hi, rfl⟩ := List.getElem_of_mem hy
    simp at hi
    simp only [List.getElem_take]
    rcases List.mem_cons.1 hz with rfl | hz
    · exact below i (by omega) (by omega)
    · obtain ⟨j, hj, rfl⟩ := List.getElem_of_mem hz
      simp at hj
      simp only [List.getElem_drop]
      exact hout i (k + j) (by omega) (by omega) (by omega)
theorem mem_dropD {L : List Df} {s : Str} {x : Df} : x ∈ dropD L s ↔ x ∈ L ∧ x.name ≠ s := by simp [dropD]
theorem Rep.drop {m L : List Df} (h : Rep m L) (s : Str) : Rep (removeN m s) (dropD L s) :=
  ⟨(removeN_names h.nd).1, h.ri.sublist List.filter_sublist, fun d => by rw [(removeN_names h.nd).2, mem_dropD, h.mem]⟩
theorem Rep.put {m L : List Df} (h : Rep m L) (d : Df) : Rep (upsert m d) (putD L d) := by
  refine ⟨(upsert_names h.nd).1, ?_, fun x => ?_⟩
  · refine ins_rising' (lt := nameLt) (fun a b c h1 h2 => bless_sto.trans _ _ _ h1 h2) (h.ri.sublist List.filter_sublist) fun y hy hf => ?_
    have hne := (mem_dropD.1 hy).2
    unfold nameLt at *
    cases q : bless y.name d.name with
    | true => rfl
    | false => exact absurd (bless_sto.total _ _ q hf) hne
  · rw [(upsert_names h.nd).2]
    unfold putD
    rw [mem_insAt, mem_dropD, h.mem]
theorem Rep.has {m L : List Df} (h : Rep m L) (s : Str) : (m.any fun x => decide (x.name = s)) = (L.any fun x => decide (x.name = s)) := by
  rw [Bool.eq_iff_iff, List.any_eq_true, List.any_eq_true]
  constructor
  · rintro ⟨x, hx, e⟩; exact ⟨x, (h.mem x).1 hx, e⟩
  · rintro ⟨x, hx, e⟩; exact ⟨x, (h.mem x).2 hx, e⟩
theorem lookD_mem {m : List Df} (h : (m.map Df.name).Nodup) {d : Df} (hd : d ∈ m) : lookD m d.name = d := by
  unfold lookD
  cases q : m.findIdx? (fun x => decide (d.name = x.name)) with
  | none => exact absurd rfl (find_name_none q d hd)
  | some j =>
    obtain ⟨hj, hjn⟩ := find_name_some q
    simp only [List.getD_eq_getElem?_getD, List.getElem?_eq_getElem hj, Option.getD_some]
    exact name_inj h (List.getElem_mem hj) hd hjn
theorem Rep.out {m L : List Df} (h : Rep m L) {ns : List Str} (hp : ns.Perm (m.map Df.name)) (hs : ns.Pairwise fun x y => x ≤ y) : ns.map (lookD m) = L := by
  have hL : ns = L.map Df.name := by
    refine List.Perm.eq_of_pairwise (le := fun x y : Str => x ≤ y) (fun a b _ _ h1 h2 => List.le_antisymm h1 h2) hs ?_ (hp.trans ?_)
    · rw [List.pairwise_map]
      exact h.ri.imp fun {a b} hab => List.le_of_lt (bless_iff.1 hab)
    · refine (List.perm_ext_iff_of_nodup h.nd (rising_names h.ri)).2 fun s => ?_
      simp only [List.mem_map]
      constructor
      · rintro ⟨x, hx, e⟩; exact ⟨x, (h.mem x).1 hx, e⟩
      · rintro ⟨x, hx, e⟩; exact ⟨x, (h.mem x).2 hx, e⟩
  rw [hL, List.map_map]
  conv => rhs; rw [← List.map_id L]
  apply List.map_congr_left
  intro d hd
  exact lookD_mem h.nd ((h.mem d).2 hd)
end Go.Eng
namespace Go.Eng
open Go.Proofs
attribute [local simp] runL stepL evalG evalOp opLV constLV putEnv dstOk upd upds Res.plain Res.cond Res.fail evalBin evalUn seqQ blockQ argsEnv lookL lookH RetIs memless freshL evalPick evalMin bval bok evalLen evalIn strip whenC guardOps guardC slotsOf
  runM foldS stepI stepM maskE wrIn lk renO lookN evalCall evalCallee optAll resLV resObj retLV retObj retsLV retsObj evalLoad evalIndexAddr evalField solid cellsD_agg cellsD_int cellsD_bool cellsD_str cellsD_sl cellsD_ro cellsD_fn cellsL_agg cellsL_dagg cellsL_int cellsL_bool cellsL_str cellsL_sl cellsL_fn cellsL_ow cellsL_bx cellsL_lfn cellsL_nl takeL takeD mkAgg allD eqD eqDs kindsAre kindIs LObj.live TK.isNone TK.agg TK.isBool TK.isStr TK.isStruct Op.operands Call.operands
  evalBuildSlice evalAppend elemsOf evalStore evalBuild fillL lookupF putL evalSlice bound evalConv elemsS freezes frozen loadR
  mkEnv_at mkObs_at close_d close_agg close_ow close_bx close_fn close_nl touch_d touch_agg touch_ow touch_bx touch_fn touch_nl ren_d ren_agg ren_bx ren_rp ren_ow ren_fn ren_nl ren_junk retQ_ret retQ2_ret condQ_bool Nm.d Df.d Ed.d nmsD dfsD strsD edsD retC_ret nm_eq df_eq take_map_len take_map_app
  nm_t nm_d nm_td df_t df_d df_td str_t str_d str_td ed_t ed_d ed_td
  evalAppendIn evalBuildSliceC evalCopyC shortL evalApart evalAppendC evalAppendZ evalAppendG evalCapC isOc TK.isInt close_oc touch_oc ren_oc cellsL_oc evalCut evalClear evalCopy evalMake evalWrap evalCap evalNil isNilC lenL isInp gorc gorc2
  mapOf findD keyEq keyOk evalMakeMap evalRange zeroD zeroDV argsG shutG outN lenv retG0_ret retG0_normal retG1_ret retGR_ret renO close_mp touch_mp ren_mp optAll_d optAll_d' touch_ds cellsL_mp cellsD_mp cellsL_dmp
  evalMapSet evalPtr TK.isPtr evalToArr firstL retN_ret retsQ rvarL close_bm touch_bm ren_bm cellsD_bm cellsL_bm cellsL_lbm
def km (m : List Df) : List DV := m.map fun d => .str d.name
def NoClash (l : List Ed) (set names : List Nm) (j : Nat) : Prop := ∀ i', i' < j → ((names.take i').any fun a => clashB l set a (names.getD i' default)) = false
theorem NoClash.step {l : List Ed} {set names : List Nm} {j : Nat} (h : NoClash l set names j) (hj : j < names.length) (hp : Pre (fun a => clashB l set a names[j]) names j) : NoClash l set names (j + 1) := fun i' hi => by
  by_cases e : i' = j
  · subst e
    rw [List.any_eq_false]
    intro a ha
    obtain ⟨q, hq, rfl⟩ := List.getElem_of_mem ha
    simp at hq
    have := hp q (by omega) (by omega)
    simp only [List.getElem_take, List.getD_eq_getElem?_getD, List.getElem?_eq_getElem hj, Option.getD_some]
    simpa using this
  · exact h i' (by omega)
open Go.Proofs
theorem IncTo.next {α : Type} {lt : α → α → Bool} {l : List α} {i : Nat} {d : α} (h : IncTo lt l i) (hi : i < l.length) (hp : 0 < i → lt (l.getD (i - 1) d) (l.getD i d) = true) : IncTo lt l (i + 1) := by
  cases i with
  | zero => exact IncTo.start (by omega)
  | succ i =>
    refine h.succ hi ?_
    have := hp (by omega)
    simpa [show i < l.length by omega, hi] using this
theorem incr_no {α : Type} {lt : α → α → Bool} {l : List α} {i : Nat} {d : α} (hi : i < l.length) (h0 : 0 < i) (hp : lt (l.getD (i - 1) d) (l.getD i d) = false) : incr lt l = false := by
  obtain ⟨j, rfl⟩ : ∃ j, i = j + 1 := ⟨i - 1, by omega⟩
  exact incr_false hi (by simpa [show j < l.length by omega, hi] using hp)
set_option maxRecDepth 20000
theorem Possible_ok (e : Ed) (b1 : e.puts.length ≤ 1100000) (b2 : e.drops.length ≤ 1100000) (b3 : e.needs.length ≤ 1100000) : Ok Tryz.prog 102 [e.d] ⟨.d (.bool (properE e)), true⟩ := by
  refine Ok.ret Tryz.func102 (by kernel_rfl) (c := _) rfl Tryz.ntmps102 (by simp) Tryz.results102 (by intro _ h; cases h) fun w0 X hp => ?_
  have htl := touches_len b1 b2
  refine LWp.seq ?_
  refine LWp.rz hT hW ?_
  simp
  refine LWp.seq ?_
  refine LWp.ro hT hW (fun | 9 => some <| .plain ⟨.d (strsD (touches e)), true⟩ | _ => none) ?_
  simp
  refine ⟨Touches_ok e b1 b2, ?_⟩
  refine LWp.seq ?_
  refine LWp.seq ?_
  refine LWp.ro hT hW (fun | 12 => some <| .plain ⟨.d (.bool e.name.isName), true⟩ | _ => none) ?_
  simp
  refine ⟨IsName_ok _, ?_⟩
  refine LWp.iff ?_
  simp
  refine ⟨fun h2 => ?_, fun n1 n2 => ?_⟩
  · refine LWp.seq ?_
    refine LWp.rz hT hW ?_
    simp
    refine LWp.ret ?_
    simp
    rcases h2 with h | h
    · simp [properE, h]
    · have h : ¬ (touches e).length ≤ 24 := by omega
      simp [properE, h]
  · refine LWp.skip ?_
    simp
    refine LWp.seq ?_
    refine LWp.seq ?_
    refine LWp.rz hT hW ?_
    simp
    refine LWp.block ?_
    refine LWp.loopW (ι := Nat) (fun i => mkEnv [(1, .bx 1 0), (3, .d (strsD (touches e))), (4, .d (I64 i))]) (fun i => mkObs [(1, .box false ((cellsD e.d).map .d))]) (fun i => i ≤ e.needs.length ∧ Pre (fun n => !Nm.isName n) e.needs i ∧ IncTo Nm.less e.needs i) (fun i => e.needs.length - i) 0 (Weak.to [1, 3, 4] [(1, 1)] (by decide) (by decide) (by simp [hp]) (by simp) (by simp)) (⟨Nat.zero_le _, Pre.zero, IncTo.start (by omega)⟩) fun i hi5 => ?_
    refine LWp.seq ?_
    refine LWp.seq ?_
    refine LWp.rz hT hW ?_
    simp
    refine LWp.iff ?_
    simp
    refine ⟨fun h5 => ?_, fun h5 => ?_⟩
    · refine LWp.skip ?_
      simp
      refine LWp.seq ?_
      refine LWp.block ?_
      refine LWp.seq ?_
      obtain ⟨i1, hi1⟩ : ∃ i1, i1 = i - 1 := ⟨_, rfl⟩
      have hmx : (if (i : Int) - 1 < 0 then (0 : Int) else (i : Int) - 1) = (i1 : Int) := by split <;> omega
      have hil : i1 < e.needs.length := by omega
      refine LWp.regAny hT hW hMixed (lk [[],[0],[],[0,1,2],[0,1,2,3],[0,1,2,3,4],[0,1,2,3,4,5],[0,1,2,3,4,5,6],[0,1,2,3,4,5,6,7],[0,1,2,3,4,5,6,7,8],[0,1,2,3,4,5,6,7,8,9],[0,1,2,3,4,5,6,7,8,9,10],[0,1,2,3,4,5,6,7,8,9,10,11],[0,1,2,3,4,5,6,7,8,9,10],[0,1,2,3,4,5,6,7,8,9,10,13],[0,1,2,3,4,5,6,7,8,9,10,13,14],[0,1,2,3,4,5,6,7,8,9,10,11,12,13,14,15],[0,1,2,3,4,5,6,7,8,9,10,11,12,13,14,15,16],[0,1,2,3,4,5,6,7,8,9,10],[0,1,2,3,4,5,6,7,8,9,10,18],[0,1,2,3,4,5,6,7,8,9,10],[0,1,2,3,4,5,6,7,8,9,10,18,19,20],[0,1,2,3,4,5,6,7,8,9,10,18,19,20,21],[0,1,2,3,4,5,6,7,8,9,10,11,12,13,14,15,16,17,18,19,20,21,22],[0,1,2,3,4,5,6,7,8,9,10,11,12,13,14,15,16,17,18,19,20,21,22,23],[0,1,2,3,4,5,6,7,8,9,10,11,12,13,14,15,16,17,18,19,20,21,22,23,24],[0,1,2,3,4,5,6,7,8,9,10,11,12,13,14,15,16,17,18,19,20,21,22,23,24,25]]) (lk [[],[],[],[],[],[],[],[],[],[],[],[],[],[],[],[],[],[],[],[],[],[],[],[],[],[],[]]) (lk [[],[],[],[],[],[31],[],[],[],[],[],[],[],[],[],[],[],[],[],[],[],[],[],[49],[],[],[]]) (by kernel_rfl) (fun | 31 => some <| .plain ⟨.d (.bool e.needs[i].isName), true⟩ | 49 => some <| .plain ⟨.d (.bool (Nm.less e.needs[i1] e.needs[i])), true⟩ | _ => none) (by intro d; first | exact ⟨rfl, fun _ h => h⟩ | (split <;> exact ⟨rfl, fun _ h => h⟩)) ?_
      simp [h5, hmx, hil]
      refine ⟨⟨⟨⟨IsName_ok _, fun _ _ => by omega⟩, fun _ _ => Less_ok _ _⟩, fun a b => ⟨a, b⟩⟩, ?_⟩
      refine LWp.iff ?_
      simp
      refine ⟨fun h7 => ?_, fun g1 g2 => ?_⟩
      · refine LWp.seq ?_
        refine LWp.rz hT hW ?_
        simp
        refine LWp.ret ?_
        simp
        rcases h7 with h | ⟨h0, h⟩
        · have : e.needs.all Nm.isName = false := by
            rw [List.all_eq_false]
            exact ⟨_, List.getElem_mem h5, by simp [h]⟩
          simp [properE, this]
        · have : incr Nm.less e.needs = false := incr_no (d := default) h5 h0 (by subst hi1; simpa [hil, h5] using h)
          simp [properE, this]
      · refine LWp.skip ?_
        simp
        refine LWp.rz hT hW ?_
        simp
        refine ⟨by omega, ?_⟩
        refine loopQ.mk (i + 1) (Weak.to [1, 3, 4] [(1, 1)] (by decide) (by decide) (by simp [hp]) (by simp) (by simp)) ?_ ?_
        · refine ⟨h5, hi5.2.1.succ h5 (by simpa using g1), hi5.2.2.next (d := default) h5 fun h0 => ?_⟩
          have := g2 h0
          subst hi1
          simpa [hil, h5] using this
        · omega
    · refine LWp.exit ?_
      simp
      refine LWp.seq ?_
      refine LWp.seq ?_
      refine LWp.rz hT hW ?_
      simp
      refine LWp.block ?_
      refine LWp.loopW (ι := Nat) (fun k => mkEnv [(1, .bx 1 0), (3, .d (strsD (touches e))), (5, .d (I64 k))]) (fun k => mkObs [(1, .box false ((cellsD e.d).map .d))]) (fun k => k ≤ (touches e).length ∧ ∀ (j : Nat) (h : j < (touches e).length), j < k → okName (touches e) j h = true) (fun k => (touches e).length - k) 0 (Weak.to [1, 3, 5] [(1, 1)] (by decide) (by decide) (by simp [hp]) (by simp) (by simp)) (⟨Nat.zero_le _, fun j _ h => absurd h (Nat.not_lt_zero _)⟩) fun k hi10 => ?_
      refine LWp.seq ?_
      refine LWp.seq ?_
      refine LWp.rz hT hW ?_
      simp
      refine LWp.iff ?_
      simp
      refine ⟨fun h10 => ?_, fun h10 => ?_⟩
      · refine LWp.skip ?_
        simp
        refine LWp.seq ?_
        refine LWp.block ?_
        refine LWp.seq ?_
        refine LWp.regAny hT hW hMixed (lk [[],[],[0,1],[0,1,2],[0,1,2,3],[0,1,2,3,4],[0,1,2,3,4,5],[0,1,2,3,4,5,6],[0,1,2,3,4,5,6],[0,1,2,3,4,5,6,7,8],[0,1,2,3,4,5,6,7,8,9],[0,1,2,3,4,5,6,7,8,9,10],[0,1,2,3,4,5,6,7,8,9,10,11],[0,1,2,3,4,5,6,7,8,9,10,11,12],[0,1,2,3,4,5,6,7,8,9,10,11,12,13],[0,1,2,3,4,5,6,7,8,9,10,11,12,13,14],[0,1,2,3,4,5,6,7,8,9,10,11,12,13,14],[0,1,2,3,4,5,6,7,8,9,10,11,12,13,14,15,16],[0,1,2,3,4,5,6,7,8,9,10,11,12,13,14],[0,1,2,3,4,5,6,7,8,9,10,11,12,13,14],[0,1,2,3,4,5,6,7,8,9,10,11,12,13,14,18,19],[0,1,2,3,4,5,6,7,8,9,10,11,12,13,14,18,19,20],[0,1,2,3,4,5,6,7,8,9,10,11,12,13,14,15,16,17,18,19,20,21],[0,1,2,3,4,5,6,7,8,9,10,11,12,13,14,15,16,17,18,19,20,21,22]]) (lk [[],[],[],[],[],[],[],[],[],[],[],[],[],[],[],[],[],[],[],[],[],[],[],[]]) (lk [[],[],[],[],[],[],[],[],[],[],[],[],[],[],[],[],[],[],[],[],[],[],[81],[]]) (by kernel_rfl) (fun | 81 => some <| .plain ⟨.d (.bool (decide ((touches e)[k] ∈ (touches e).take k))), true⟩ | _ => none) (by intro d; first | exact ⟨rfl, fun _ h => h⟩ | (split <;> exact ⟨rfl, fun _ h => h⟩)) ?_
        simp [h10]
        refine ⟨⟨fun _ _ => by omega, fun _ _ => by simpa [strsD] using In_ok ((touches e).take k) (touches e)[k]⟩, ?_⟩
        refine LWp.iff ?_
        simp
        refine ⟨fun h12 => ?_, fun q1 q2 q3 => ?_⟩
        · refine LWp.seq ?_
          refine LWp.rz hT hW ?_
          simp
          refine LWp.ret ?_
          simp
          have hn : okNames (touches e) = false := by
            cases qn : okNames (touches e) with
            | false => rfl
            | true =>
              have := okNames_iff.1 qn k h10
              simp only [okName, Bool.and_eq_true, decide_eq_true_eq] at this
              obtain ⟨⟨z1, z2⟩, z3⟩ := this
              rcases h12 with (h | h) | h
              · have := List.length_pos_iff.2 z1; omega
              · omega
              · exact absurd h z3
          simp [properE, hn]
        · refine LWp.skip ?_
          simp
          refine LWp.rz hT hW ?_
          simp
          refine ⟨by omega, ?_⟩
          refine loopQ.mk (k + 1) (Weak.to [1, 3, 5] [(1, 1)] (by decide) (by decide) (by simp [hp]) (by simp) (by simp)) ?_ ?_
          · refine ⟨h10, fun j hj hjk => ?_⟩
            by_cases hjk' : j = k
            · subst hjk'
              have z : (touches e)[j] ≠ [] := fun z => by rw [z] at q1; simp at q1
              simp only [okName, Bool.and_eq_true, decide_eq_true_eq]
              exact ⟨⟨z, by omega⟩, q3⟩
            · exact hi10.2 j hj (by omega)
          · omega
      · refine LWp.exit ?_
        simp
        refine LWp.seq ?_
        refine LWp.seq ?_
        refine LWp.rz hT hW ?_
        simp
        refine LWp.block ?_
        refine LWp.loopW (ι := Nat) (fun t => mkEnv [(1, .bx 1 0), (6, .d (I64 t))]) (fun t => mkObs [(1, .box false ((cellsD e.d).map .d))]) (fun t => t ≤ e.puts.length ∧ Pre (fun d => decide (1024 < d.text.length)) e.puts t ∧ IncTo bless (e.puts.map Df.name) t) (fun t => e.puts.length - t) 0 (Weak.to [1, 6] [(1, 1)] (by decide) (by decide) (by simp [hp]) (by simp) (by simp)) (⟨Nat.zero_le _, Pre.zero, IncTo.start (by omega)⟩) fun t hi15 => ?_
        refine LWp.seq ?_
        refine LWp.seq ?_
        refine LWp.rz hT hW ?_
        simp
        refine LWp.iff ?_
        simp
        refine ⟨fun h15 => ?_, fun h15 => ?_⟩
        · refine LWp.skip ?_
          simp
          refine LWp.seq ?_
          refine LWp.block ?_
          refine LWp.seq ?_
          obtain ⟨t1, ht1⟩ : ∃ t1, t1 = t - 1 := ⟨_, rfl⟩
          have hmx : (if (t : Int) - 1 < 0 then (0 : Int) else (t : Int) - 1) = (t1 : Int) := by split <;> omega
          have htl1 : t1 < e.puts.length := by omega
          refine LWp.regAny hT hW hMixed (lk [[],[0],[],[0,1,2],[0,1,2,3],[0,1,2,3,4],[0,1,2,3,4,5],[0,1,2,3,4,5,6],[0,1,2,3,4,5,6,7],[0,1,2,3,4,5,6,7,8],[0,1,2,3,4,5,6,7,8,9],[0,1,2,3,4,5,6,7,8,9,10],[0,1,2,3,4,5,6,7,8,9,10,11],[0,1,2,3,4,5,6,7,8,9,10,11,12],[0,1,2,3,4,5,6,7,8,9,10,11],[0,1,2,3,4,5,6,7,8,9,10,11,14],[0,1,2,3,4,5,6,7,8,9,10,11,14,15],[0,1,2,3,4,5,6,7,8,9,10,11,12,13,14,15,16],[0,1,2,3,4,5,6,7,8,9,10,11,12,13,14,15,16,17],[0,1,2,3,4,5,6,7,8,9,10,11,12,13,14,15,16,17,18],[0,1,2,3,4,5,6,7,8,9,10,11],[0,1,2,3,4,5,6,7,8,9,10,11,20],[0,1,2,3,4,5,6,7,8,9,10,11],[0,1,2,3,4,5,6,7,8,9,10,11,20,21,22],[0,1,2,3,4,5,6,7,8,9,10,11,20,21,22,23],[0,1,2,3,4,5,6,7,8,9,10,11,20,21,22,23,24],[0,1,2,3,4,5,6,7,8,9,10,11,12,13,14,15,16,17,18,19,20,21,22,23,24,25],[0,1,2,3,4,5,6,7,8,9,10,11,12,13,14,15,16,17,18,19,20,21,22,23,24,25,26],[0,1,2,3,4,5,6,7,8,9,10,11,12,13,14,15,16,17,18,19,20,21,22,23,24,25,26,27]]) (lk [[],[],[],[],[],[],[],[],[],[],[],[],[],[],[],[],[],[],[],[],[],[],[],[],[],[],[],[],[]]) (lk [[],[],[],[],[],[],[],[],[],[],[],[],[],[],[],[],[],[],[],[],[],[],[],[],[],[],[],[],[]]) (by kernel_rfl) (fun _ => none) (fun _ => ⟨rfl, fun _ h => h⟩) ?_
          simp [h15, hmx, htl1]
          refine ⟨⟨fun _ _ => by omega, fun a b => ⟨a, b⟩⟩, ?_⟩
          refine LWp.iff ?_
          simp
          refine ⟨fun h17 => ?_, fun q4 q5 => ?_⟩
          · refine LWp.seq ?_
            refine LWp.rz hT hW ?_
            simp
            refine LWp.ret ?_
            simp
            rcases h17 with h | ⟨h0, h⟩
            · have : (e.puts.all fun d => decide (d.text.length ≤ 1024)) = false := by
                rw [List.all_eq_false]
                exact ⟨_, List.getElem_mem h15, by simp; omega⟩
              simp [properE, this]
            · have : incr bless (e.puts.map Df.name) = false := incr_no (d := default) (by simpa using h15) h0 (by subst ht1; simpa [htl1, h15, bless] using h)
              simp [properE, this]
          · refine LWp.skip ?_
            simp
            refine LWp.rz hT hW ?_
            simp
            refine ⟨by omega, ?_⟩
            refine loopQ.mk (t + 1) (Weak.to [1, 6] [(1, 1)] (by decide) (by decide) (by simp [hp]) (by simp) (by simp)) ?_ ?_
            · refine ⟨h15, hi15.2.1.succ h15 (by simp; omega), hi15.2.2.next (d := default) (by simpa using h15) fun h0 => ?_⟩
              have := q5 h0
              subst ht1
              simpa [htl1, h15, bless] using this
            · omega
        · refine LWp.exit ?_
          simp
          refine LWp.seq ?_
          refine LWp.seq ?_
          refine LWp.rz hT hW ?_
          simp
          refine LWp.block ?_
          refine LWp.loopW (ι := Nat) (fun u => mkEnv [(1, .bx 1 0), (7, .d (I64 u))]) (fun u => mkObs [(1, .box false ((cellsD e.d).map .d))]) (fun u => 1 ≤ u ∧ u ≤ e.drops.length + 1 ∧ IncTo bless e.drops u) (fun u => e.drops.length + 1 - u) 1 (Weak.to [1, 7] [(1, 1)] (by decide) (by decide) (by simp [hp]) (by simp) (by simp)) (⟨Nat.le_refl _, by omega, IncTo.start (Nat.le_refl _)⟩) fun u hi20 => ?_
          refine LWp.seq ?_
          refine LWp.seq ?_
          refine LWp.rz hT hW ?_
          simp
          refine LWp.iff ?_
          simp
          refine ⟨fun h20 => ?_, fun h20 => ?_⟩
          · refine LWp.skip ?_
            simp
            refine LWp.seq ?_
            refine LWp.block ?_
            refine LWp.seq ?_
            obtain ⟨u1, hu1⟩ : ∃ u1, u1 = u - 1 := ⟨_, rfl⟩
            have hu10 : 1 ≤ u := hi20.1
            have hmu : ((u : Int) - 1).toNat = u1 := by omega
            have hul1 : u1 < e.drops.length := by omega
            refine LWp.regAny hT hW hMixed (lk [[],[0],[],[2],[0,1,2,3],[0,1,2,3,4],[],[6],[],[6,7,8],[6,7,8,9],[0,1,2,3,4,5,6,7,8,9,10]]) (lk [[],[],[],[],[],[],[],[],[],[],[],[]]) (lk [[],[],[],[],[],[],[],[],[],[],[],[]]) (by kernel_rfl) (fun _ => none) (fun _ => ⟨rfl, fun _ h => h⟩) ?_
            simp [h20, hmu, hul1]
            refine ⟨⟨by omega, by omega, by omega⟩, ?_⟩
            refine LWp.iff ?_
            simp
            refine ⟨fun h22 => ?_, fun h22 => ?_⟩
            · refine LWp.seq ?_
              refine LWp.rz hT hW ?_
              simp
              refine LWp.ret ?_
              simp
              have : incr bless e.drops = false := incr_no (d := default) h20 (by omega) (by subst hu1; simpa [hul1, h20, bless] using h22)
              simp [properE, this]
            · refine LWp.skip ?_
              simp
              refine LWp.rz hT hW ?_
              simp
              refine ⟨by omega, ?_⟩
              refine loopQ.mk (u + 1) (Weak.to [1, 7] [(1, 1)] (by decide) (by decide) (by simp [hp]) (by simp) (by simp)) ?_ ?_
              · refine ⟨by omega, by omega, hi20.2.2.next (d := default) h20 fun h0 => ?_⟩
                subst hu1
                simpa [hul1, h20, bless] using h22
              · omega
          · refine LWp.exit ?_
            simp
            refine LWp.seq ?_
            refine LWp.rz hT hW ?_
            simp
            refine LWp.ret ?_
            simp
            have a1 : (e.needs.all Nm.isName) = true := by
              rw [List.all_eq_true]
              intro x hx
              obtain ⟨j, hj, rfl⟩ := List.getElem_of_mem hx
              have := hi5.2.1 j hj (by omega)
              simpa using this
            have a2 : (e.puts.all fun d => decide (d.text.length ≤ 1024)) = true := by
              rw [List.all_eq_true]
              intro x hx
              obtain ⟨j, hj, rfl⟩ := List.getElem_of_mem hx
              have := hi15.2.1 j hj (by omega)
              simp at this ⊢; omega
            have a3 : okNames (touches e) = true := okNames_iff.2 fun j hj => hi10.2 j hj (by omega)
            have a4 : incr Nm.less e.needs = true := hi5.2.2.done (by omega)
            have a5 : incr bless (e.puts.map Df.name) = true := hi15.2.2.done (by simp; omega)
            have a6 : incr bless e.drops = true := hi20.2.2.done (by omega)
            have a7 : (touches e).length ≤ 24 := by omega
            simp [properE, n1, a1, a2, a3, a4, a5, a6, a7]
open Go.Proofs
theorem Valid_ok (l : List Ed) (hs : small l) (hn : (allNeeds l).length ≤ 1100000) : Ok Tryz.prog 51 [edsD l] ⟨.tup [.d (I64 (validV l).1), .d (I64 (validV l).2)], true⟩ := by
  refine Ok.two Tryz.func51 (by kernel_rfl) (c := _) rfl Tryz.ntmps51 (by simp) Tryz.results51 rfl fun w0 X hp => ?_
  refine LWp.len (t := 0) rfl fun hlen => ?_
  simp at hlen
  refine LWp.seq ?_
  refine LWp.rz hT hW ?_
  simp
  refine LWp.seq ?_
  refine LWp.seq ?_
  refine LWp.rz hT hW ?_
  simp
  refine LWp.iff ?_
  simp
  refine ⟨fun h1 => ?_, fun h1 => ?_⟩
  · refine LWp.seq ?_
    refine LWp.rz hT hW ?_
    simp
    refine LWp.ret ?_
    have : 64 < l.length := by omega
    simp [validV, this]
  · refine LWp.skip ?_
    simp
    refine LWp.seq ?_
    refine LWp.seq ?_
    refine LWp.rz hT hW ?_
    simp
    refine LWp.block ?_
    refine LWp.loopW (ι := Nat) (fun i => mkEnv [(0, .d (edsD l)), (4, .d (I64 i))]) (fun i => mkObs []) (fun i => i ≤ l.length ∧ validFrom l (l.drop i) i = validFrom l l 0) (fun i => l.length - i) 0 (Weak.to [0, 4] [] (by decide) (by decide) (by simp [hp]) (by simp) (by simp)) (by simp) fun i hi4 => ?_
    refine LWp.seq ?_
    refine LWp.seq ?_
    refine LWp.rz hT hW ?_
    simp
    refine LWp.iff ?_
    simp
    refine ⟨fun h4 => ?_, fun h4 => ?_⟩
    · refine LWp.skip ?_
      simp
      refine LWp.seq ?_
      refine LWp.block ?_
      refine LWp.seq ?_
      refine LWp.rz hT hW ?_
      simp [h4]
      refine LWp.seq ?_
      refine LWp.seq ?_
      have hnd := flat_mem_len (List.getElem_mem h4)
      have hnd2 : l[i].needs.length ≤ 1100000 := Nat.le_trans hnd hn
      refine LWp.ro hT hW (fun | 21 => some <| .plain ⟨.d (.bool (properE l[i])), true⟩ | _ => none) ?_
      simp [h4]
      refine ⟨Possible_ok l[i] (hs _ (List.getElem_mem h4)).1 (hs _ (List.getElem_mem h4)).2 hnd2, ?_⟩
      refine LWp.iff ?_
      simp
      refine ⟨fun h7 => ?_, fun h7 => ?_⟩
      · refine LWp.seq ?_
        refine LWp.rz hT hW ?_
        simp
        refine LWp.ret ?_
        have hl : ¬ 64 < l.length := by omega
        have e : errE l i l[i] = 1 := by simp [errE, h7]
        have hv := validFrom_stop h4 (by rw [e]; decide)
        rw [hi4.2, e] at hv
        simp [validV, hl, hv]
      · refine LWp.skip ?_
        simp
        refine LWp.seq ?_
        refine LWp.seq ?_
        refine LWp.ro hT hW (fun | 27 => some <| .plain ⟨.d (I64 (findI l l[i].name)), true⟩ | _ => none) ?_
        simp
        refine ⟨Find_ok l l[i].name, ?_⟩
        refine LWp.iff ?_
        simp
        refine ⟨fun h9 => ?_, fun h9 => ?_⟩
        · refine LWp.seq ?_
          refine LWp.rz hT hW ?_
          simp
          refine LWp.ret ?_
          have hl : ¬ 64 < l.length := by omega
          have e : errE l i l[i] = 7 := by simp [errE, h7, h9]
          have hv := validFrom_stop h4 (by rw [e]; decide)
          rw [hi4.2, e] at hv
          simp [validV, hl, hv]
        · refine LWp.skip ?_
          simp
          refine LWp.seq ?_
          refine LWp.seq ?_
          refine LWp.rz hT hW ?_
          simp
          refine LWp.block ?_
          refine LWp.loopW (ι := Nat) (fun k => mkEnv [(0, .d (edsD l)), (4, .d (I64 i)), (5, .bx 5 0), (6, .d (I64 k))]) (fun k => mkObs [(5, .box false ((cellsD l[i].d).map .d))]) (fun k => k ≤ l[i].needs.length ∧ Pre (fun n => decide (findI l n < 0)) l[i].needs k) (fun k => l[i].needs.length - k) 0 (Weak.to [0, 4, 5, 6] [(5, 5)] (by decide) (by decide) (by simp [hp]) (by simp) (by simp)) (⟨Nat.zero_le _, Pre.zero⟩) fun k hi12 => ?_
          refine LWp.seq ?_
          refine LWp.seq ?_
          refine LWp.rz hT hW ?_
          simp
          refine LWp.iff ?_
          simp
          refine ⟨fun h12 => ?_, fun h12 => ?_⟩
          · refine LWp.skip ?_
            simp
            refine LWp.seq ?_
            refine LWp.block ?_
            refine LWp.seq ?_
            refine LWp.ro hT hW (fun | 44 => some <| .plain ⟨.d (I64 (findI l l[i].needs[k])), true⟩ | _ => none) ?_
            simp [h12]
            refine ⟨Find_ok l _, ?_⟩
            refine LWp.iff ?_
            simp
            refine ⟨fun h14 => ?_, fun h14 => ?_⟩
            · refine LWp.seq ?_
              refine LWp.rz hT hW ?_
              simp
              refine LWp.ret ?_
              have hl : ¬ 64 < l.length := by omega
              have k8 : ¬ findI l l[i].name < i := by omega
              have k10 : l[i].needs.any (fun n => decide (findI l n < 0)) = true := List.any_eq_true.2 ⟨_, List.getElem_mem h12, by simpa using h14⟩
              have e : errE l i l[i] = 6 := by simp [errE, h7, k8, k10]
              have hv := validFrom_stop h4 (by rw [e]; decide)
              rw [hi4.2, e] at hv
              simp [validV, hl, hv]
            · refine LWp.skip ?_
              simp
              refine LWp.rz hT hW ?_
              simp
              refine ⟨by omega, ?_⟩
              refine loopQ.mk (k + 1) (Weak.to [0, 4, 5, 6] [(5, 5)] (by decide) (by decide) (by simp [hp]) (by simp) (by simp)) ?_ ?_
              · exact ⟨h12, hi12.2.succ h12 (by simpa using h14)⟩
              · omega
          · refine LWp.exit ?_
            simp
            refine LWp.seq ?_
            refine LWp.ro hT hW (fun | 52 => some <| .plain ⟨.d (.bool (decide (l[i].name ∈ aboveL l l[i].name))), true⟩ | _ => none) ?_
            simp
            refine ⟨Before_ok l _ _ hn, ?_⟩
            refine LWp.iff ?_
            simp
            refine ⟨fun h16 => ?_, fun h16 => ?_⟩
            · refine LWp.seq ?_
              refine LWp.rz hT hW ?_
              simp
              refine LWp.ret ?_
              have hl : ¬ 64 < l.length := by omega
              have k8 : ¬ findI l l[i].name < i := by omega
              have k10 : l[i].needs.any (fun n => decide (findI l n < 0)) = false := hi12.2.any (by omega)
              have e : errE l i l[i] = 13 := by simp [errE, h7, k8, k10, h16]
              have hv := validFrom_stop h4 (by rw [e]; decide)
              rw [hi4.2, e] at hv
              simp [validV, hl, hv]
            · refine LWp.skip ?_
              simp
              refine LWp.rz hT hW ?_
              simp
              refine ⟨by omega, ?_⟩
              refine loopQ.mk (i + 1) (Weak.to [0, 4] [] (by decide) (by decide) (by simp [hp]) (by simp) (by simp)) ?_ ?_
              · refine ⟨h4, ?_⟩
                rw [← hi4.2, ← validFrom_step h4]
                have k8 : ¬ findI l l[i].name < i := by omega
                have k10 : l[i].needs.any (fun n => decide (findI l n < 0)) = false := hi12.2.any (by omega)
                simp [errE, h7, k8, k10, h16]
              · omega
    · refine LWp.exit ?_
      simp
      refine LWp.seq ?_
      refine LWp.rz hT hW ?_
      simp
      refine LWp.ret ?_
      have hl : ¬ 64 < l.length := by omega
      have hv := validFrom_end (l := l) (i := i) (by omega)
      rw [hi4.2] at hv
      have q : i = l.length := by omega
      simp [validV, hl, hv, q]
open Go.Proofs
theorem five {k : Nat} (h : k < 5) : [DV.str [97], DV.str [98], DV.str [99], DV.str [100], DV.str [97, 97]][k]?.getD default = .str ((([[97], [98], [99], [100], [97, 97]] : List Str)).getD k []) := by
  match k, h with
  | 0, _ => rfl
  | 1, _ => rfl
  | 2, _ => rfl
  | 3, _ => rfl
  | 4, _ => rfl
theorem name_ok (n : Int) (h1 : -9223372036854775808 ≤ n) (h2 : n ≤ 9223372036854775807) : Ok Tryz.prog 68 [I64 n] ⟨.d (.str (nameS n)), true⟩ := by
  refine Ok.ret Tryz.func68 (by kernel_rfl) (c := _) rfl Tryz.ntmps68 (by simp) Tryz.results68 (by intro _ h; cases h) fun w0 X hp => ?_
  have ha := around_lt n 5 (by decide)
  have h5 : [DV.str [97], DV.str [98], DV.str [99], DV.str [100], DV.str [97, 97]][(around n 5).toNat]?.getD default = .str (nameS n) := five (by omega)
  have h0 : [0, 1, 2, 3, 4] = List.range 5 := by decide
  refine LWp.seq ?_
  refine LWp.rz hT hW ?_
  simp
  refine LWp.seq ?_
  refine LWp.ro hT hW (fun | 5 => some <| .plain ⟨.d (I64 (around n 5)), true⟩ | _ => none) ?_
  simp [h5]
  refine ⟨⟨⟨⟨h0, Around_ok n 5 h1 h2 (by decide)⟩, ha⟩, ha.2⟩, ?_⟩
  refine LWp.ret ?_
  simp
theorem digit_byte (n : Int) : byteOf (.int .u8 (IntKind.u8.wrap (48 + around n 10))) = UInt8.ofNat (48 + around n 10).toNat := by
  obtain ⟨ha, hb⟩ := around_lt n 10 (by decide)
  obtain ⟨k, hk⟩ : ∃ k : Nat, around n 10 = k := ⟨(around n 10).toNat, by omega⟩
  rw [hk] at ha hb ⊢
  have hk10 : k < 10 := by omega
  clear hk ha hb
  match k, hk10 with
  | 0, _ => rfl
  | 1, _ => rfl
  | 2, _ => rfl
  | 3, _ => rfl
  | 4, _ => rfl
  | 5, _ => rfl
  | 6, _ => rfl
  | 7, _ => rfl
  | 8, _ => rfl
  | 9, _ => rfl
theorem nameS_len (n : Int) : (nameS n).length ≤ 2 := by
  unfold nameS
  obtain ⟨ha, hb⟩ := around_lt n 5 (by decide)
  obtain ⟨k, hk⟩ : ∃ k : Nat, (around n 5).toNat = k := ⟨_, rfl⟩
  have hk5 : k < 5 := by omega
  rw [hk]
  clear hk ha hb
  match k, hk5 with
  | 0, _ => exact Nat.le_succ 1
  | 1, _ => exact Nat.le_succ 1
  | 2, _ => exact Nat.le_succ 1
  | 3, _ => exact Nat.le_succ 1
  | 4, _ => exact Nat.le_refl 2
theorem def_ok (n v : Int) (h1 : -9223372036854775808 ≤ n) (h2 : n ≤ 9223372036854775807) (h3 : -9223372036854775808 ≤ v) (h4 : v ≤ 9223372036854775807) : Ok Tryz.prog 42 [I64 n, I64 v] ⟨.d (defD n v).d, true⟩ := by
  refine Ok.cell hT Tryz.func42 (by kernel_rfl) (c := _) rfl Tryz.ntmps42 (by simp) Tryz.results42 (by intro _ h; cases h) fun w0 X hp => ?_
  have ha := around_lt v 10 (by decide)
  have hl := nameS_len n
  refine LWp.seq ?_
  refine LWp.rz hT hW ?_
  simp
  refine LWp.seq ?_
  refine LWp.ro hT hW (fun | 7 => some <| .plain ⟨.d (I64 (around v 10)), true⟩ | _ => none) ?_
  simp [digit_byte]
  refine ⟨⟨Around_ok v 10 h3 h4 (by decide), by omega, by omega⟩, ?_⟩
  refine LWp.seq ?_
  refine LWp.ro hT hW (fun | 13 => some <| .plain ⟨.d (.str (nameS n)), true⟩ | 15 => some <| .plain ⟨.d (.str (nameS n)), true⟩ | _ => none) ?_
  simp
  refine ⟨⟨⟨⟨⟨name_ok n h1 h2, by omega⟩, by omega⟩, by omega⟩, by omega⟩, ?_⟩
  refine LWp.ret ?_
  simp [defD, digitS]
end Go.Eng
namespace Go.Eng
open Go.RowKit
section
variable {P : Program} {N : Nat} {w0 : Base} {X : Nat → Prop} {Q : LX → Env → Obs → Prop} {env : Env} {H : Obs}
theorem LWp.nlCell {c : Code} (b j id s : Nat) {fz : Bool} {cs : List LV} (hs : 0 < s) (h : H b = .box fz cs ∧ cs[j]? = some .nl ∧ H id = .absent ∧ LWp P N w0 X c Q env (upd (upd H id (.row false s [])) b (.box fz (cs.set j (.ow id 0 0))))) : LWp P N w0 X c Q env H := by
  obtain ⟨hb, hj, hid, h⟩ := h
  have hne : b ≠ id := fun e => by rw [e, hid] at hb; cases hb
  intro β a w sm
  obtain ⟨m1, g1⟩ := new_none sm.mem hid hs
  obtain ⟨m2, g2⟩ := m1.rebox (b := b) (fz := fz) (cs := cs) (cs' := cs.set j (.ow id 0 0)) (by rw [upd_ne _ _ hne]; exact hb) (by simp) fun i c c' v hc hc' hr => by
    rw [List.getElem?_set] at hc'
    by_cases e : j = i
    · subst e
      rw [hj] at hc; injection hc with hc; subst hc
      have hl := (List.getElem?_eq_some_iff.1 hj).1
      simp [hl] at hc'
      subst hc'
      cases hr with | nl p => exact .ow0 id 0 p false s [] (by rw [upd_same]) (.inl ⟨by rw [upd_same], rfl⟩)
    · simp only [e, if_false] at hc'
      rw [hc] at hc'; injection hc' with hc'; subst hc'
      exact hr
  exact h _ a w ⟨sm.defers, sm.size, m2.ext, m2.xold, m2.fresh, m2.inj, fun t => g2.R (g1.R (sm.env t)), m2.obj, m2.pin⟩
end
end Go.Eng
namespace Go.Eng
open Go.Proofs
attribute [local simp] runL stepL evalG evalOp opLV constLV putEnv dstOk upd upds Res.plain Res.cond Res.fail evalBin evalUn seqQ blockQ argsEnv lookL lookH RetIs memless freshL evalPick evalMin bval bok evalLen evalIn strip whenC guardOps guardC slotsOf
  runM foldS stepI stepM maskE wrIn lk renO lookN evalCall evalCallee optAll resLV resObj retLV retObj retsLV retsObj evalLoad evalIndexAddr evalField solid cellsD_agg cellsD_int cellsD_bool cellsD_str cellsD_sl cellsD_ro cellsD_fn cellsL_agg cellsL_dagg cellsL_int cellsL_bool cellsL_str cellsL_sl cellsL_fn cellsL_ow cellsL_bx cellsL_lfn cellsL_nl takeL takeD mkAgg allD eqD eqDs kindsAre kindIs LObj.live TK.isNone TK.agg TK.isBool TK.isStr TK.isStruct Op.operands Call.operands
  evalBuildSlice evalAppend elemsOf evalStore evalBuild fillL lookupF putL evalSlice bound evalConv elemsS freezes frozen loadR
  mkEnv_at mkObs_at close_d close_agg close_ow close_bx close_fn close_nl touch_d touch_agg touch_ow touch_bx touch_fn touch_nl ren_d ren_agg ren_bx ren_rp ren_ow ren_fn ren_nl ren_junk retQ_ret retQ2_ret condQ_bool Nm.d Df.d Ed.d nmsD dfsD strsD edsD retC_ret nm_eq df_eq take_map_len take_map_app
  nm_t nm_d nm_td df_t df_d df_td str_t str_d str_td ed_t ed_d ed_td
  evalAppendIn evalBuildSliceC evalCopyC shortL evalApart evalAppendC evalAppendZ evalAppendG evalCapC isOc TK.isInt close_oc touch_oc ren_oc cellsL_oc evalCut evalClear evalCopy evalMake evalWrap evalCap evalNil isNilC lenL isInp gorc gorc2
  mapOf findD keyEq keyOk evalMakeMap evalRange zeroD zeroDV argsG shutG outN lenv retG0_ret retG0_normal retG1_ret retGR_ret renO close_mp touch_mp ren_mp optAll_d optAll_d' touch_ds cellsL_mp cellsD_mp cellsL_dmp
  evalMapSet evalPtr TK.isPtr evalToArr firstL retN_ret retsQ rvarL close_bm touch_bm ren_bm cellsD_bm cellsL_bm cellsL_lbm
theorem u64_nat {k : Nat} (h : k < 1000) : IntKind.u64.wrap (k : Int) = k := by
  unfold IntKind.wrap
  simp [IntKind.bits, IntKind.signed]
  omega
def shr (a : Int) (k : Nat) : Int := a.fdiv (2 ^ k)
def madeNeeds (bits : Int) (earlier : List Nm) : Nat → List Nm
  | 0 => []
  | k + 1 => madeNeeds bits earlier k ++ if (shr bits k).tmod 3 = 1 then (match earlier[k]? with | some n => [n] | none => []) else []
def madePuts (m : Int) (i : Nat) : Nat → List Df
  | 0 => []
  | k + 1 => madePuts m i k ++ if (shr m (2 * k)).tmod 4 = 1 then [defD k (m + i)] else []
def madeDrops (m : Int) : Nat → List Str
  | 0 => []
  | k + 1 => madeDrops m k ++ if (shr m (2 * k)).tmod 4 = 2 ∧ 1 < k then [nameS k] else []
def madeE (l : List Int) (out : List Ed) (i : Nat) : Ed :=
  let n := atL l (1 + 3 * i) 4096
  let bits := atL l (2 + 3 * i) 4096
  let m := atL l (3 + 3 * i) 4096
  let earlier := sortN (out.map Ed.name)
  ⟨⟨n.tmod 3, i + 6 * ((n.tdiv 3).tmod 8)⟩, madeNeeds bits earlier earlier.length, madePuts m i 4, madeDrops m 4⟩
def madeTo (l : List Int) : Nat → List Ed
  | 0 => []
  | i + 1 => madeTo l i ++ [madeE l (madeTo l i) i]
def madeL (l : List Int) : List Ed := madeTo l (atL l 0 7).toNat
theorem madeNeeds_len (bits : Int) (ear : List Nm) : ∀ k, (madeNeeds bits ear k).length ≤ k
  | 0 => Nat.le_refl _
  | k + 1 => by
    have := madeNeeds_len bits ear k
    simp only [madeNeeds, List.length_append]
    split
    · split <;> simp <;> omega
    · simp; omega
theorem madePuts_len (m : Int) (i : Nat) : ∀ k, (madePuts m i k).length ≤ k
  | 0 => Nat.le_refl _
  | k + 1 => by
    have := madePuts_len m i k
    simp only [madePuts, List.length_append]
    split <;> simp <;> omega
theorem madeDrops_len (m : Int) : ∀ k, (madeDrops m k).length ≤ k
  | 0 => Nat.le_refl _
  | k + 1 => by
    have := madeDrops_len m k
    simp only [madeDrops, List.length_append]
    split <;> simp <;> omega
theorem madeTo_len (l : List Int) : ∀ i, (madeTo l i).length = i
  | 0 => rfl
  | i + 1 => by simp [madeTo, madeTo_len l i]
theorem atL_range (l : List Int) (i m : Int) (h : 0 < m) : 0 ≤ atL l i m ∧ atL l i m < m := by
  unfold atL
  split
  · omega
  · exact around_lt _ _ h
theorem Made_ok (l : List Int) (hr : ∀ n ∈ l, -9223372036854775808 ≤ n ∧ n ≤ 9223372036854775807) : Ok Tryz.prog 18 [.sl (l.map I64)] ⟨.d (edsD (madeL l)), false⟩ := by
  refine Ok.ret Tryz.func18 (by kernel_rfl) (c := _) rfl Tryz.ntmps18 (by simp) Tryz.results18 (by intro _ h; cases h) fun w0 X hp => ?_
  obtain ⟨c0, hc0⟩ : ∃ c0 : Nat, (c0 : Int) = atL l 0 7 := ⟨(atL l 0 7).toNat, by have := (atL_range l 0 7 (by decide)).1; omega⟩
  have hc7 : c0 < 7 := by have := (atL_range l 0 7 (by decide)).2; omega
  refine LWp.seq ?_
  refine LWp.rz hT hW ?_
  simp
  refine LWp.seq ?_
  refine LWp.rz hT hW ?_
  simp
  refine LWp.seq ?_
  refine LWp.seq ?_
  refine LWp.rz hT hW ?_
  simp
  refine LWp.block ?_
  refine LWp.loopW (ι := Nat) (fun i => mkEnv [(0, .d (.sl (l.map I64))), (3, .ow 3 0 i), (4, .d (I64 i))]) (fun i => mkObs [(3, .row false 5 ((madeTo l i).map Ed.d))]) (fun i => i ≤ c0) (fun i => c0 - i) 0 (Weak.to [0, 3, 4] [(3, 3)] (by decide) (by decide) (by simp [hp]) (by simp) (by simp [madeTo])) (Nat.zero_le _) fun i hi3 => ?_
  refine LWp.seq ?_
  refine LWp.seq ?_
  refine LWp.ro hT hW (fun | 14 => some <| .plain ⟨.d (I64 c0), true⟩ | _ => none) ?_
  simp
  refine ⟨by rw [hc0]; exact At_ok l 0 7 hr (by decide), ?_⟩
  refine LWp.iff ?_
  simp
  refine ⟨fun h3 => ?_, fun h3 => ?_⟩
  · refine LWp.skip ?_
    simp
    refine LWp.seq ?_
    refine LWp.block ?_
    refine LWp.seq ?_
    obtain ⟨an1, an2⟩ := atL_range l (1 + 3 * i) 4096 (by decide)
    obtain ⟨ab1, ab2⟩ := atL_range l (2 + 3 * i) 4096 (by decide)
    obtain ⟨am1, am2⟩ := atL_range l (3 + 3 * i) 4096 (by decide)
    obtain ⟨n, hnn⟩ : ∃ n, n = atL l (1 + 3 * i) 4096 := ⟨_, rfl⟩
    obtain ⟨bits, hbits⟩ : ∃ n, n = atL l (2 + 3 * i) 4096 := ⟨_, rfl⟩
    obtain ⟨m, hm⟩ : ∃ n, n = atL l (3 + 3 * i) 4096 := ⟨_, rfl⟩
    have hml := madeTo_len l i
    have htk : List.take i (List.map Ed.d (madeTo l i)) = List.map Ed.d (madeTo l i) := List.take_of_length_le (by simp [hml])
    refine LWp.ro hT hW (fun | 22 => some <| .plain ⟨.d (I64 n), true⟩ | _ => none) ?_
    simp
    refine ⟨⟨by omega, by rw [hnn]; exact At_ok l _ 4096 hr (by decide)⟩, ?_⟩
    refine LWp.seq ?_
    have hd1 : 0 ≤ n.tdiv 3 := Int.tdiv_nonneg (by omega) (by omega)
    have hd2 : n.tdiv 3 ≤ n := by rw [Int.tdiv_eq_ediv_of_nonneg (by omega)]; omega
    have h81 : 0 ≤ (n.tdiv 3).tmod 8 := Int.tmod_nonneg _ hd1
    have h82 : (n.tdiv 3).tmod 8 < 8 := Int.tmod_lt_of_pos _ (by omega)
    refine LWp.rz hT hW ?_
    simp
    refine ⟨⟨⟨by omega, by omega⟩, by omega⟩, ?_⟩
    refine LWp.nlCell (fz := false) (cs := [.d (I64 (n.tmod 3)), .d (I64 (i + 6 * (n.tdiv 3).tmod 8)), .nl, .nl, .nl]) 6 2 1060 2 (by decide) ⟨by simp, by simp, by simp, ?_⟩
    refine LWp.nlCell (fz := false) (cs := [.d (I64 (n.tmod 3)), .d (I64 (i + 6 * (n.tdiv 3).tmod 8)), .ow 1060 0 0, .nl, .nl]) 6 3 1087 2 (by decide) ⟨by simp, by simp, by simp, ?_⟩
    refine LWp.nlCell (fz := false) (cs := [.d (I64 (n.tmod 3)), .d (I64 (i + 6 * (n.tdiv 3).tmod 8)), .ow 1060 0 0, .ow 1087 0 0, .nl]) 6 4 1098 1 (by decide) ⟨by simp, by simp, by simp, ?_⟩
    simp
    refine LWp.seq ?_
    obtain ⟨nms, hnms⟩ : ∃ nms, nms = (madeTo l i).map Ed.name := ⟨_, rfl⟩
    have hnml : nms.length = i := by rw [hnms]; simp [hml]
    obtain ⟨ear, hear⟩ : ∃ ear, ear = sortN nms := ⟨_, rfl⟩
    have hel : ear.length ≤ i := by rw [hear]; have := sortN_len nms; omega
    refine LWp.ro hT hW (fun | 34 => some <| .plain ⟨.d (nmsD nms), true⟩ | 35 => some <| .plain ⟨.d (nmsD ear), true⟩ | _ => none) ?_
    simp [htk]
    refine ⟨⟨by rw [hnms]; exact Names_ok _ (by omega), by rw [hear]; exact Sort_ok nms (by omega)⟩, ?_⟩
    refine LWp.seq ?_
    refine LWp.ro hT hW (fun | 40 => some <| .plain ⟨.d (I64 bits), true⟩ | _ => none) ?_
    simp
    refine ⟨⟨by omega, by rw [hbits]; exact At_ok l _ 4096 hr (by decide)⟩, ?_⟩
    refine LWp.seq ?_
    refine LWp.seq ?_
    refine LWp.rz hT hW ?_
    simp
    refine LWp.block ?_
    refine LWp.loopW (ι := Nat) (fun k => mkEnv [(0, .d (.sl (l.map I64))), (3, .ow 3 0 i), (4, .d (I64 i)), (6, .bx 6 0), (7, .d (nmsD ear)), (8, .d (I64 bits)), (9, .d (I64 k))]) (fun k => mkObs [(3, .row false 5 ((madeTo l i).map Ed.d)), (6, .box false [.d (I64 (n.tmod 3)), .d (I64 (i + 6 * (n.tdiv 3).tmod 8)), .ow 1060 0 (madeNeeds bits ear k).length, .ow 1087 0 0, .ow 1098 0 0]), (1060, .row false 2 ((madeNeeds bits ear k).map Nm.d)), (1087, .row false 2 []), (1098, .row false 1 [])]) (fun k => k ≤ ear.length) (fun k => ear.length - k) 0 (Weak.to [0, 3, 4, 6, 7, 8, 9] [(3, 3), (6, 6), (1060, 1060), (1087, 1087), (1098, 1098)] (by decide) (by decide) (by simp [hp]) (by simp) (by simp [madeNeeds])) (Nat.zero_le _) fun k hi10 => ?_
    refine LWp.seq ?_
    refine LWp.seq ?_
    refine LWp.rz hT hW ?_
    simp
    refine LWp.iff ?_
    simp
    refine ⟨fun h10 => ?_, fun h10 => ?_⟩
    · refine LWp.skip ?_
      simp
      refine LWp.seq ?_
      refine LWp.block ?_
      refine LWp.seq ?_
      have hkw := u64_nat (k := k) (by omega)
      have hk64 : min k 64 = k := by omega
      refine LWp.rz hT hW ?_
      simp [hkw, IntKind.bits, hk64]
      refine LWp.iff ?_
      simp
      refine ⟨fun h12 => ?_, fun h12 => ?_⟩
      · refine LWp.regAny hT hW hMixed (lk [[],[0],[],[],[2,3],[2,3,4],[2,3,4,5],[0,1,2,3,4,5,6],[0,1,2,3,4,5,6,7],[0,1,2,3,4,5,6,7,8]]) (lk [[59],[59],[],[],[],[],[],[],[],[]]) (lk [[],[],[],[],[],[],[59],[54,60],[],[6]]) (by kernel_rfl) (fun _ => none) (fun _ => ⟨rfl, fun _ h => h⟩) ?_
        simp [h10]
        have z := madeNeeds_len bits ear k
        refine ⟨by omega, ?_⟩
        refine LWp.rz hT hW ?_
        simp
        refine ⟨by omega, ?_⟩
        refine loopQ.mk (k + 1) (Weak.to [0, 3, 4, 6, 7, 8, 9] [(3, 3), (6, 6), (60, 1060), (1087, 1087), (1098, 1098)] (by decide) (by decide) (by simp [hp]) (by simp) (by simp [madeNeeds, shr, h12, h10])) ?_ ?_
        · exact h10
        · omega
      · refine LWp.skip ?_
        simp
        refine LWp.rz hT hW ?_
        simp
        refine ⟨by omega, ?_⟩
        refine loopQ.mk (k + 1) (Weak.to [0, 3, 4, 6, 7, 8, 9] [(3, 3), (6, 6), (1060, 1060), (1087, 1087), (1098, 1098)] (by decide) (by decide) (by simp [hp]) (by simp) (by simp [madeNeeds, shr, h12])) ?_ ?_
        · exact h10
        · omega
    · refine LWp.exit ?_
      simp
      refine LWp.seq ?_
      have hke : k = ear.length := by omega
      refine LWp.ro hT hW (fun | 66 => some <| .plain ⟨.d (I64 m), true⟩ | _ => none) ?_
      simp
      refine ⟨⟨by omega, by rw [hm]; exact At_ok l _ 4096 hr (by decide)⟩, ?_⟩
      refine LWp.seq ?_
      refine LWp.seq ?_
      refine LWp.rz hT hW ?_
      simp
      refine LWp.block ?_
      refine LWp.loopW (ι := Nat) (fun q => mkEnv [(0, .d (.sl (l.map I64))), (3, .ow 3 0 i), (4, .d (I64 i)), (6, .bx 6 0), (10, .d (I64 m)), (11, .d (I64 q))]) (fun q => mkObs [(3, .row false 5 ((madeTo l i).map Ed.d)), (6, .box false [.d (I64 (n.tmod 3)), .d (I64 (i + 6 * (n.tdiv 3).tmod 8)), .ow 1060 0 (madeNeeds bits ear ear.length).length, .ow 1087 0 (madePuts m i q).length, .ow 1098 0 (madeDrops m q).length]), (1060, .row false 2 ((madeNeeds bits ear ear.length).map Nm.d)), (1087, .row false 2 ((madePuts m i q).map Df.d)), (1098, .row false 1 ((madeDrops m q).map .str))]) (fun q => q ≤ 4) (fun q => 4 - q) 0 (Weak.to [0, 3, 4, 6, 10, 11] [(3, 3), (6, 6), (1060, 1060), (1087, 1087), (1098, 1098)] (by decide) (by decide) (by simp [hp]) (by simp) (by simp [madePuts, madeDrops, hke])) (Nat.zero_le _) fun q hi16 => ?_
      refine LWp.seq ?_
      refine LWp.seq ?_
      refine LWp.rz hT hW ?_
      simp
      refine LWp.iff ?_
      simp
      refine ⟨fun h16 => ?_, fun h16 => ?_⟩
      · refine LWp.skip ?_
        simp
        refine LWp.seq ?_
        refine LWp.block ?_
        refine LWp.seq ?_
        have hkw : IntKind.u64.wrap (2 * (q : Int)) = ((2 * q : Nat) : Int) := by rw [← u64_nat (k := 2 * q) (by omega)]; congr 1
        have hk64 : min (2 * q) 64 = 2 * q := by omega
        have h2t : (2 * (q : Int)).toNat = 2 * q := by omega
        have z1 := madePuts_len m i q
        have z2 := madeDrops_len m q
        refine LWp.rz hT hW ?_
        simp [hkw, IntKind.bits, hk64, h2t]
        refine ⟨⟨by omega, by omega⟩, ?_⟩
        refine LWp.block ?_
        refine LWp.seq ?_
        refine LWp.rz hT hW ?_
        simp
        refine LWp.iff ?_
        simp
        refine ⟨fun h19 => ?_, fun h19 => ?_⟩
        · refine LWp.regAny hT hW hMixed (lk [[],[0],[],[],[],[3,4],[2,3,4,5],[2,3,4,5,6],[0,1,2,3,4,5,6,7],[0,1,2,3,4,5,6,7,8],[0,1,2,3,4,5,6,7,8,9]]) (lk [[85,86],[85,86],[],[],[],[],[],[],[],[],[]]) (lk [[],[],[],[],[],[],[85],[86],[80,87],[],[6]]) (by kernel_rfl) (fun | 85 => some <| .plain ⟨.d (defD q (m + i)).d, true⟩ | _ => none) (by intro d; first | exact ⟨rfl, fun _ h => h⟩ | (split <;> exact ⟨rfl, fun _ h => h⟩)) ?_
          simp
          refine ⟨⟨⟨by omega, def_ok q (m + i) (by omega) (by omega) (by omega) (by omega)⟩, by omega⟩, ?_⟩
          refine LWp.rz hT hW ?_
          simp
          refine ⟨by omega, ?_⟩
          refine loopQ.mk (q + 1) (Weak.to [0, 3, 4, 6, 10, 11] [(3, 3), (6, 6), (1060, 1060), (87, 1087), (1098, 1098)] (by decide) (by decide) (by simp [hp]) (by simp) (by simp [madePuts, madeDrops, shr, h19])) ?_ ?_
          · omega
          · omega
        · refine LWp.seq ?_
          refine LWp.rz hT hW ?_
          simp
          refine LWp.iff ?_
          simp
          refine ⟨fun h21 => ?_, fun h21 => ?_⟩
          · refine LWp.seq ?_
            refine LWp.rz hT hW ?_
            simp
            refine LWp.iff ?_
            simp
            refine ⟨fun h22 => ?_, fun h22 => ?_⟩
            · refine LWp.regAny hT hW hMixed (lk [[],[0],[],[2],[2,3],[0,1,2,3,4],[0,1,2,3,4,5],[0,1,2,3,4,5,6]]) (lk [[96,97],[96,97],[],[],[],[],[],[]]) (lk [[],[],[],[96],[97],[94,98],[],[6]]) (by kernel_rfl) (fun | 96 => some <| .plain ⟨.d (.str (nameS q)), true⟩ | _ => none) (by intro d; first | exact ⟨rfl, fun _ h => h⟩ | (split <;> exact ⟨rfl, fun _ h => h⟩)) ?_
              simp
              refine ⟨⟨name_ok q (by omega) (by omega), by omega⟩, ?_⟩
              refine LWp.rz hT hW ?_
              simp
              refine ⟨by omega, ?_⟩
              refine loopQ.mk (q + 1) (Weak.to [0, 3, 4, 6, 10, 11] [(3, 3), (6, 6), (1060, 1060), (1087, 1087), (98, 1098)] (by decide) (by decide) (by simp [hp]) (by simp) (by simp [madePuts, madeDrops, shr, h21, show 1 < q by omega])) ?_ ?_
              · omega
              · omega
            · refine LWp.skip ?_
              simp
              refine LWp.rz hT hW ?_
              simp
              refine ⟨by omega, ?_⟩
              refine loopQ.mk (q + 1) (Weak.to [0, 3, 4, 6, 10, 11] [(3, 3), (6, 6), (1060, 1060), (1087, 1087), (1098, 1098)] (by decide) (by decide) (by simp [hp]) (by simp) (by simp [madePuts, madeDrops, shr, h21, show ¬ 1 < q by omega])) ?_ ?_
              · omega
              · omega
          · refine LWp.skip ?_
            simp
            refine LWp.rz hT hW ?_
            simp
            refine ⟨by omega, ?_⟩
            refine loopQ.mk (q + 1) (Weak.to [0, 3, 4, 6, 10, 11] [(3, 3), (6, 6), (1060, 1060), (1087, 1087), (1098, 1098)] (by decide) (by decide) (by simp [hp]) (by simp) (by simp [madePuts, madeDrops, shr, h19, h21])) ?_ ?_
            · omega
            · omega
      · refine LWp.exit ?_
        simp
        refine LWp.rz hT hW ?_
        simp
        refine ⟨by omega, ?_⟩
        refine LWp.rz hT hW ?_
        simp
        refine ⟨by omega, ?_⟩
        refine loopQ.mk (i + 1) (Weak.to [0, 3, 4] [(103, 3)] (by decide) (by decide) (by simp [hp]) (by simp) (by simp [htk, madeTo, madeE, ← hnn, ← hbits, ← hm, ← hnms, ← hear, show q = 4 by omega])) ?_ ?_
        · exact h3
        · omega
  · refine LWp.exit ?_
    simp
    refine LWp.seq ?_
    refine LWp.rz hT hW ?_
    simp
    refine LWp.ret ?_
    have e : madeL l = madeTo l i := by
      unfold madeL
      rw [show (atL l 0 7).toNat = i by omega]
    rw [e]
    simp [madeTo_len]
    rw [List.take_of_length_le (by simp [madeTo_len])]
open Go.Proofs
def liveN (l : List Ed) : Nat := (l.filter fun e => decide (touches e ≠ [])).length
theorem filter_set_le {α : Type} (p : α → Bool) (e : α) : ∀ (l : List α) (k : Nat), ((l.set k e).filter p).length ≤ (l.filter p).length + 1
  | [], _ => by simp
  | a :: l, 0 => by
    rw [List.set_cons_zero, List.filter_cons, List.filter_cons]
    split <;> split <;> simp <;> omega
  | a :: l, k + 1 => by
    have := filter_set_le p e l k
    rw [List.set_cons_succ, List.filter_cons, List.filter_cons]
    split <;> simp <;> omega
structure SpB (l L : List Ed) : Prop where
  len : L.length ≤ l.length + 67
  needs : (allNeeds L).length ≤ (allNeeds l).length + 1
  parts : ∀ P, (∀ e ∈ l, e.puts.length ≤ P ∧ e.drops.length ≤ P) → ∀ e ∈ L, e.puts.length ≤ P + 27 ∧ e.drops.length ≤ P + 27
  live : liveN L ≤ liveN l + 1
theorem allNeeds_set : ∀ {l : List Ed} {k : Nat} (hk : k < l.length) (e : Ed), (allNeeds (l.set k e)).length + l[k].needs.length = (allNeeds l).length + e.needs.length
  | a :: l, 0, _, e => by simp [allNeeds]; omega
  | a :: l, k + 1, hk, e => by
    have := allNeeds_set (l := l) (k := k) (by simpa using hk) e
    simp only [allNeeds, List.set_cons_succ, List.flatMap_cons, List.length_append, List.getElem_cons_succ] at *
    omega
theorem SpB.set {l : List Ed} {k : Nat} (hk : k < l.length) {e : Ed} (h1 : e.needs.length ≤ l[k].needs.length + 1) (h2 : e.puts.length ≤ l[k].puts.length + 27) (h3 : e.drops.length ≤ l[k].drops.length + 1) : SpB l (l.set k e) := by
  refine ⟨by simp, by have := allNeeds_set hk e; omega, fun P hP x hx => ?_, filter_set_le _ e l k⟩
  rcases List.mem_or_eq_of_mem_set hx with hx | rfl
  · have := hP x hx; omega
  · have := hP _ (List.getElem_mem hk); omega
theorem allNeeds_erase : ∀ (l : List Ed) (k : Nat), (allNeeds (l.eraseIdx k)).length ≤ (allNeeds l).length
  | [], _ => by simp
  | a :: l, 0 => by simp [allNeeds]
  | a :: l, k + 1 => by
    have := allNeeds_erase l k
    simp only [allNeeds, List.eraseIdx_cons_succ, List.flatMap_cons, List.length_append] at *
    omega
theorem SpB.erase (l : List Ed) (k : Nat) : SpB l (l.eraseIdx k) := by
  refine ⟨by have := List.length_eraseIdx_le l k; omega, by have := allNeeds_erase l k; omega, fun P hP e he => ?_, Nat.le_succ_of_le ((List.eraseIdx_sublist l k).filter _).length_le⟩
  have := hP e (List.mem_of_mem_eraseIdx he); omega
theorem SpB.refl (l : List Ed) : SpB l l := ⟨by omega, by omega, fun P hP e he => by have := hP e he; omega, by omega⟩
theorem SpB.push {l m : List Ed} (h : SpB l m) (hl : m.length ≤ 66) (n : Nm) : SpB l (m ++ [⟨n, [], [], []⟩]) := by
  refine ⟨by simp; omega, by have := h.needs; simp [allNeeds] at *; omega, fun P hP e he => ?_, by have := h.live; simp [liveN, touches] at *; omega⟩
  rcases List.mem_append.1 he with he | he
  · exact h.parts P hP e he
  · simp at he; subst he; simp
open Go.Proofs
theorem madeL_len (l : List Int) : (madeL l).length ≤ 6 := by
  have := (atL_range l 0 7 (by decide)).2
  rw [madeL, madeTo_len]; omega
theorem madeTo_mem {l : List Int} {e : Ed} : ∀ {c : Nat}, e ∈ madeTo l c → ∃ i, i < c ∧ e = madeE l (madeTo l i) i
  | 0, h => by simp [madeTo] at h
  | c + 1, h => by
    simp only [madeTo, List.mem_append, List.mem_singleton] at h
    rcases h with h | h
    · obtain ⟨i, hi, he⟩ := madeTo_mem h
      exact ⟨i, by omega, he⟩
    · exact ⟨c, by omega, h⟩
theorem madeE_needs (l : List Int) (out : List Ed) (i : Nat) : (madeE l out i).needs.length ≤ out.length := by
  have h := madeNeeds_len (atL l (2 + 3 * i) 4096) (sortN (out.map Ed.name)) (sortN (out.map Ed.name)).length
  have := sortN_len (out.map Ed.name)
  simp [madeE] at *; omega
theorem made_mem {l : List Int} {e : Ed} (h : e ∈ madeL l) : e.needs.length ≤ 6 ∧ e.puts.length ≤ 4 ∧ e.drops.length ≤ 4 := by
  obtain ⟨i, hi, rfl⟩ := madeTo_mem h
  have := (atL_range l 0 7 (by decide)).2
  have h1 := madeE_needs l (madeTo l i) i
  rw [madeTo_len] at h1
  exact ⟨by omega, madePuts_len _ _ 4, madeDrops_len _ 4⟩
theorem flat_le {α β : Type} {f : α → List β} {m : Nat} : ∀ {l : List α}, (∀ x ∈ l, (f x).length ≤ m) → (l.flatMap f).length ≤ l.length * m
  | [], _ => by simp
  | a :: l, h => by
    have h1 := h a (by simp)
    have h2 := flat_le (l := l) fun x hx => h x (by simp [hx])
    simp only [List.flatMap_cons, List.length_append, List.length_cons, Nat.add_mul]
    omega
theorem made_needs (l : List Int) : (allNeeds (madeL l)).length ≤ 36 := by
  have h := flat_le (f := Ed.needs) (l := madeL l) fun x hx => (made_mem hx).1
  have := madeL_len l
  unfold allNeeds; omega
theorem made_small (l : List Int) : small (madeL l) := fun e he => by have := made_mem he; omega
end Go.Eng
namespace Go.Eng
theorem find_of {l : List Ed} {n : Nm} {i : Nat} (h : find? l n = some i) : ∃ h : i < l.length, l[i].name = n := by
  obtain ⟨h1, h2, _⟩ := List.findIdx?_eq_some_iff_getElem.1 h
  exact ⟨h1, by simpa using h2⟩
theorem find_mem {l : List Ed} {n : Nm} (h : n ∈ l.map Ed.name) : ∃ i, find? l n = some i := by
  cases q : find? l n with
  | some i => exact ⟨i, rfl⟩
  | none =>
    obtain ⟨e, he, rfl⟩ := List.mem_map.1 h
    have := List.findIdx?_eq_none_iff.1 q e he
    simp at this
end Go.Eng
namespace Go.Eng
def leftN (all out : List Nm) : List Nm := all.filter fun n => decide (n ∉ out)
theorem mem_left {all out : List Nm} {x : Nm} : x ∈ leftN all out ↔ x ∈ all ∧ x ∉ out := by simp [leftN]
theorem left_app {a b out : List Nm} : leftN (a ++ b) out = leftN a out ++ leftN b out := by simp [leftN]
theorem left_snoc {a out : List Nm} {x : Nm} (h : x ∉ a) : leftN a (out ++ [x]) = leftN a out := by
  unfold leftN
  apply List.filter_congr
  intro y hy
  have : y ≠ x := fun e => h (e ▸ hy)
  simp [this]
theorem left_cons {b out : List Nm} {x : Nm} (h : x ∉ out) : leftN (x :: b) out = x :: leftN b out := by simp [leftN, h]
theorem left_cons_in {b out : List Nm} {x : Nm} (h : x ∈ out) : leftN (x :: b) out = leftN b out := by simp [leftN, h]
theorem left_first {l : List Ed} {all out : List Nm} (hnd : all.Nodup) {i : Nat} (hi : i < all.length) (h1 : all[i] ∉ out) (h2 : readyN l out all[i] = true)
    (h3 : ∀ (j : Nat) (h : j < all.length), j < i → all[j] ∈ out ∨ readyN l out all[j] = false) :
    ∃ k, (leftN all out).findIdx? (readyN l out) = some k ∧ ∃ hk : k < (leftN all out).length, (leftN all out)[k] = all[i] ∧ (leftN all out).eraseIdx k = leftN all (out ++ [all[i]]) := by
  have hs : all = all.take i ++ all[i] :: all.drop (i + 1) := by rw [List.getElem_cons_drop, List.take_append_drop]
  obtain ⟨A, hA⟩ : ∃ A, A = all.take i := ⟨_, rfl⟩
  obtain ⟨B, hB⟩ : ∃ B, B = all.drop (i + 1) := ⟨_, rfl⟩
  obtain ⟨x, hx⟩ : ∃ x, x = all[i] := ⟨_, rfl⟩
  have hAn : ∀ y ∈ A, y ∈ out ∨ readyN l out y = false := fun y hy => by
    rw [hA] at hy
    obtain ⟨j, hj, rfl⟩ := List.getElem_of_mem hy
    simp at hj
    simp only [List.getElem_take]
    exact h3 j (by omega) (by omega)
  rw [← hx] at h1 h2 ⊢
  rw [← hA, ← hB, ← hx] at hs
  clear h3 hA hB hx
  have hnd' : (A ++ x :: B).Nodup := hs ▸ hnd
  have hxA : x ∉ A := fun h => (List.nodup_append.1 hnd').2.2 x h x (by simp) rfl
  have hxB : x ∉ B := (List.nodup_cons.1 (List.nodup_append.1 hnd').2.1).1
  have e1 : leftN all out = leftN A out ++ x :: leftN B out := by rw [hs, left_app, left_cons h1]
  have e2 : leftN all (out ++ [x]) = leftN A out ++ leftN B out := by rw [hs, left_app, left_cons_in (by simp), left_snoc hxA, left_snoc hxB]
  have hn : (leftN A out).findIdx? (readyN l out) = none := by
    rw [List.findIdx?_eq_none_iff]
    intro y hy
    simp only [leftN, List.mem_filter, decide_eq_true_eq] at hy
    exact (hAn y hy.1).resolve_left hy.2
  refine ⟨(leftN A out).length, ?_, ?_, ?_, ?_⟩
  · rw [e1, List.findIdx?_append, hn, List.findIdx?_cons, h2]; simp
  · rw [e1]; simp
  · simp [e1]
  · rw [e1, e2, List.eraseIdx_append_of_length_le (Nat.le_refl _)]; simp
structure OrdI (l : List Ed) (set out : List Nm) : Prop where
  go : orderF l (leftN (sortN set) out).length (leftN (sortN set) out) out = orderN l set
  cl : ∀ n ∈ leftN (sortN set) out, ∀ m ∈ needsOf l n, m ∈ leftN (sortN set) out ∨ m ∈ out
  len : out.length + (leftN (sortN set) out).length = (sortN set).length
theorem sortN_nodup (set : List Nm) : (sortN set).Nodup := (sortN_spec set).1.imp fun {a b} h e => by subst e; rw [Nm.sto.irrefl] at h; cases h
theorem OrdI.start {l : List Ed} {set : List Nm} (hc : closedB l set = true) : OrdI l set [] := by
  have e : leftN (sortN set) [] = sortN set := by simp [leftN]
  refine ⟨by rw [e]; rfl, fun n hn m hm => ?_, by rw [e]; simp⟩
  rw [e] at hn ⊢
  exact .inl (((sortN_spec set).2 m).2 ((closedB_iff.1 hc n (((sortN_spec set).2 n).1 hn)).2 m hm))
theorem OrdI.step {l : List Ed} {set out : List Nm} (h : OrdI l set out) {i : Nat} (hi : i < (sortN set).length) (h1 : (sortN set)[i] ∉ out) (h2 : readyN l out (sortN set)[i] = true)
    (h3 : ∀ (j : Nat) (h : j < (sortN set).length), j < i → (sortN set)[j] ∈ out ∨ readyN l out (sortN set)[j] = false) : OrdI l set (out ++ [(sortN set)[i]]) := by
  obtain ⟨k, hk, hkl, hke, hkr⟩ := left_first (sortN_nodup set) hi h1 h2 h3
  have hlen : (leftN (sortN set) (out ++ [(sortN set)[i]])).length + 1 = (leftN (sortN set) out).length := by
    rw [← hkr, List.length_eraseIdx, if_pos hkl]; omega
  have hgo := h.go
  rw [← hlen, orderF_succ hk hkl, hke, hkr] at hgo
  refine ⟨hgo, ?_, by have := h.len; rw [List.length_append, List.length_singleton]; omega⟩
  have := closed_step h.cl hkl
  rw [hkr, hke] at this
  exact this
theorem OrdI.done {l : List Ed} {set out : List Nm} (h : OrdI l set out) (hl : (sortN set).length ≤ out.length) : out = orderN l set := by
  have h1 := h.len
  have h2 : leftN (sortN set) out = [] := List.eq_nil_of_length_eq_zero (by omega)
  have := h.go
  rw [h2] at this
  exact this
theorem OrdI.found {l : List Ed} {set out : List Nm} (h : OrdI l set out) (ha : Acyc l) (hl : out.length < (sortN set).length) (h3 : ∀ (j : Nat) (h : j < (sortN set).length), (sortN set)[j] ∈ out ∨ readyN l out (sortN set)[j] = false) : False := by
  have h1 := h.len
  obtain ⟨k, hk, hkl⟩ := ready_at ha h.cl (by omega)
  obtain ⟨_, hr, _⟩ := List.findIdx?_eq_some_iff_getElem.1 hk
  have hm : (leftN (sortN set) out)[k] ∈ leftN (sortN set) out := List.getElem_mem hkl
  have hm2 := mem_left.1 hm
  obtain ⟨j, hj, hje⟩ := List.getElem_of_mem hm2.1
  rcases h3 j hj with q | q
  · rw [hje] at q; exact hm2.2 q
  · rw [hje] at q; rw [hr] at q; cases q
end Go.Eng
namespace Go.Eng
theorem found_iff {l : List Ed} {n : Nm} : 0 ≤ findI l n ↔ n ∈ l.map Ed.name := by
  constructor
  · intro h
    obtain ⟨i, hi, _, _⟩ := edAt_of h
    unfold findI at h
    cases q : find? l n with
    | none => rw [q] at h; simp at h
    | some i => obtain ⟨hi, e⟩ := find_of q; rw [← e]; exact List.mem_map_of_mem (List.getElem_mem hi)
  · intro h
    obtain ⟨i, hi⟩ := find_mem h
    simp [findI, hi]
def cloN (l : List Ed) (S : List Nm) : List Nm := sortN (S ++ S.flatMap (aboveL l))
theorem mem_cloN {l : List Ed} {S : List Nm} {x : Nm} : x ∈ cloN l S ↔ x ∈ S ∨ ∃ n ∈ S, Reach l n x := by
  unfold cloN
  rw [(sortN_spec _).2, List.mem_append, List.mem_flatMap]
  simp only [mem_aboveL]
def Chain (l : List Ed) (x : List Nm) : Prop := ∀ (i : Nat) (h : i < x.length), ∀ m ∈ needsOf l x[i], m ∈ x.take i
theorem Chain.nil {l : List Ed} : Chain l [] := fun i h => absurd h (Nat.not_lt_zero _)
theorem Chain.snoc {l : List Ed} {x : List Nm} {n : Nm} (h : Chain l x) (hr : readyN l x n = true) : Chain l (x ++ [n]) := fun i hi m hm => by
  simp at hi
  by_cases e : i < x.length
  · rw [List.getElem_append_left e] at hm
    rw [List.take_append_of_le_length (by omega)]
    exact h i e m hm
  · have e : i = x.length := by omega
    subst e
    simp only [List.getElem_concat_length] at hm
    rw [List.take_left]
    have := List.all_eq_true.1 hr m hm
    simpa using this
theorem orderF_perm {l : List Ed} (ha : Acyc l) : ∀ (f : Nat) (rest out : List Nm), rest.length = f → (∀ n ∈ rest, ∀ m ∈ needsOf l n, m ∈ rest ∨ m ∈ out) → (orderF l f rest out).Perm (out ++ rest)
  | 0, rest, out, h, _ => by
    have : rest = [] := List.eq_nil_of_length_eq_zero h
    subst this
    simp [orderF]
  | f + 1, rest, out, h, hc => by
    obtain ⟨k, hk, hkl⟩ := ready_at ha hc (by omega)
    rw [orderF_succ hk hkl]
    refine (orderF_perm ha f _ _ (by rw [List.length_eraseIdx, if_pos hkl]; omega) (closed_step hc hkl)).trans ?_
    rw [List.append_assoc]
    refine List.Perm.append_left _ ?_
    have hs : rest = rest.take k ++ rest[k] :: rest.drop (k + 1) := by rw [List.getElem_cons_drop, List.take_append_drop]
    have e0 : rest.eraseIdx k = rest.take k ++ rest.drop (k + 1) := List.eraseIdx_eq_take_drop_succ ..
    rw [e0]
    have h2 := (List.perm_middle (a := rest[k]) (l₁ := rest.take k) (l₂ := rest.drop (k + 1))).symm
    rw [← hs] at h2
    exact h2
theorem orderN_perm {l : List Ed} {set : List Nm} (h : (validV l).2 = 0) (hc : closedB l set = true) : (orderN l set).Perm (sortN set) := by
  have := orderF_perm (valid_acyc h) (sortN set).length (sortN set) [] rfl (order_init hc).1
  simpa [orderN] using this
theorem Chain.take {l : List Ed} {x : List Nm} (h : Chain l x) (k : Nat) : Chain l (x.take k) := fun i hi m hm => by
  simp at hi
  simp only [List.getElem_take] at hm
  rw [List.take_take, Nat.min_eq_left (by omega)]
  exact h i (by omega) m hm
theorem Chain.ahead {l : List Ed} {x : List Nm} (h : Chain l x) {n m : Nm} (r : Reach l n m) : ∀ {i : Nat} (hi : i < x.length), x[i] = n → m ∈ x.take i := by
  induction r with
  | one h1 => intro i hi e; subst e; exact h i hi _ h1
  | next h1 _ ih =>
    intro i hi e
    subst e
    have h2 := h i hi _ h1
    obtain ⟨j, hj, e2⟩ := List.getElem_of_mem h2
    simp at hj
    simp only [List.getElem_take] at e2
    have h3 := ih (by omega) e2
    have : x.take j = (x.take i).take j := by rw [List.take_take, Nat.min_eq_left (by omega)]
    rw [this] at h3
    exact List.mem_of_mem_take h3
end Go.Eng
namespace Go.Eng
theorem ed_inj {l : List Ed} (h : (l.map Ed.name).Nodup) {a b : Ed} (ha : a ∈ l) (hb : b ∈ l) (e : a.name = b.name) : a = b := by
  obtain ⟨i, hi, rfl⟩ := List.getElem_of_mem ha
  obtain ⟨j, hj, rfl⟩ := List.getElem_of_mem hb
  rw [List.Nodup, List.pairwise_map, List.pairwise_iff_getElem] at h
  rcases Nat.lt_trichotomy i j with hij | hij | hij
  · exact absurd e (h i j hi hj hij)
  · subst hij; rfl
  · exact absurd e.symm (h j i hj hi hij)
theorem find_uniq {l : List Ed} (h : (l.map Ed.name).Nodup) {e : Ed} (he : e ∈ l) : ∃ i, find? l e.name = some i ∧ ∃ hi : i < l.length, l[i] = e := by
  obtain ⟨i, hi⟩ := find_mem (List.mem_map_of_mem (f := Ed.name) he)
  obtain ⟨h1, h2⟩ := find_of hi
  exact ⟨i, hi, h1, ed_inj h (List.getElem_mem h1) he h2⟩
theorem needsOf_of {l : List Ed} (h : (l.map Ed.name).Nodup) {e : Ed} (he : e ∈ l) : needsOf l e.name = e.needs := by
  obtain ⟨i, h1, h2, h3⟩ := find_uniq h he
  simp [needsOf, h1, h2, h3]
theorem edAt_mem {l : List Ed} (h : (l.map Ed.name).Nodup) {e : Ed} (he : e ∈ l) : edAt l e.name = e := by
  obtain ⟨i, h1, h2, h3⟩ := find_uniq h he
  simp [edAt, h1, h2, h3]
theorem find_not {l : List Ed} {n : Nm} (h : n ∉ l.map Ed.name) : find? l n = none := by
  cases q : find? l n with
  | none => rfl
  | some i => obtain ⟨hi, e⟩ := find_of q; exact absurd (e ▸ List.mem_map_of_mem (List.getElem_mem hi)) h
structure SameEds (a b : List Ed) : Prop where
  na : (a.map Ed.name).Nodup
  nb : (b.map Ed.name).Nodup
  mem : ∀ e, e ∈ a ↔ e ∈ b
theorem SameEds.names {a b : List Ed} (h : SameEds a b) {n : Nm} : n ∈ a.map Ed.name ↔ n ∈ b.map Ed.name := by
  simp only [List.mem_map, h.mem]
theorem SameEds.needs {a b : List Ed} (h : SameEds a b) (n : Nm) : needsOf a n = needsOf b n := by
  by_cases q : n ∈ a.map Ed.name
  · obtain ⟨e, he, rfl⟩ := List.mem_map.1 q
    rw [needsOf_of h.na he, needsOf_of h.nb ((h.mem e).1 he)]
  · unfold needsOf
    rw [find_not q, find_not fun x => q (h.names.2 x)]
theorem SameEds.edAt {a b : List Ed} (h : SameEds a b) (n : Nm) : edAt a n = edAt b n := by
  by_cases q : n ∈ a.map Ed.name
  · obtain ⟨e, he, rfl⟩ := List.mem_map.1 q
    rw [edAt_mem h.na he, edAt_mem h.nb ((h.mem e).1 he)]
  · unfold Go.Eng.edAt
    rw [find_not q, find_not fun x => q (h.names.2 x)]
theorem SameEds.found {a b : List Ed} (h : SameEds a b) (n : Nm) : (0 ≤ findI a n) = (0 ≤ findI b n) := by
  rw [eq_iff_iff, found_iff, found_iff]
  exact h.names
theorem reach_to {a b : List Ed} (h : ∀ n, needsOf a n = needsOf b n) {n m : Nm} (r : Reach a n m) : Reach b n m := by
  induction r with
  | one h1 => exact .one (h _ ▸ h1)
  | next h1 _ ih => exact .next (h _ ▸ h1) ih
theorem SameEds.reach {a b : List Ed} (h : SameEds a b) {n m : Nm} : Reach a n m ↔ Reach b n m := ⟨reach_to h.needs, reach_to fun n => (h.needs n).symm⟩
theorem SameEds.above {a b : List Ed} (h : SameEds a b) (n m : Nm) : (n ∈ aboveL a m) = (n ∈ aboveL b m) := by
  rw [eq_iff_iff, mem_aboveL, mem_aboveL]; exact h.reach
theorem SameEds.clo {a b : List Ed} (h : SameEds a b) (S : List Nm) : cloN a S = cloN b S := by
  refine rising_eq Nm.sto (sortN_spec _).1 (sortN_spec _).1 fun x => ?_
  show x ∈ cloN a S ↔ x ∈ cloN b S
  rw [mem_cloN, mem_cloN]
  simp only [h.reach]
theorem Rep.self {L : List Df} (h : Rising nameLt L) : Rep L L := ⟨rising_names h, h, fun _ => Iff.rfl⟩
end Go.Eng
namespace Go.Eng
open Go.RowKit
def IsRow (k : IntKind) (w : World) (a : Option Addr) (len cap : Nat) (zs : List Int) : Prop :=
  (a = none ∧ len = 0 ∧ cap = 0 ∧ zs = []) ∨
  ∃ x, a = some x ∧ len ≤ cap ∧ cap ≤ maxLen ∧ zs.length = cap ∧ (∀ i, i < zs.length → w.cell? (x.add i) = some (.int k (zs.getD i 0))) ∧ ∀ n ∈ zs, (Lit.int k n).wf = true
theorem int_rng {n : Int} (h : (Lit.int .i64 n).wf = true) : -9223372036854775808 ≤ n ∧ n ≤ 9223372036854775807 := by
  simp only [Lit.wf, Bool.and_eq_true, decide_eq_true_eq, IntKind.min, IntKind.max, IntKind.signed, IntKind.bits] at h
  exact ⟨h.1, h.2⟩
theorem row_rng {w : World} {a : Option Addr} {len cap : Nat} {zs : List Int} (h : IsRow .i64 w a len cap zs) : ∀ n ∈ zs.take len, -9223372036854775808 ≤ n ∧ n ≤ 9223372036854775807 := fun n hn => by
  have hn := List.mem_of_mem_take hn
  rcases h with ⟨_, _, _, rfl⟩ | ⟨x, _, _, _, _, _, h⟩
  · cases hn
  · exact int_rng (h n hn)
theorem row_rd {w : World} {k : IntKind} {a : Option Addr} {len cap : Nat} {zs : List Int} (h : IsRow k w a len cap zs) : RD w (fun _ => False) (.sl ((zs.take len).map (.int k))) (.slice a len cap) := by
  rcases h with ⟨rfl, rfl, rfl, rfl⟩ | ⟨x, rfl, h1, h2, h3, h4, h5⟩
  · exact .sl0 _ 0 (Nat.zero_le _)
  · by_cases h0 : len = 0
    · subst h0
      rw [List.take_zero]
      exact .sl0 _ cap h2
    · obtain ⟨b, o, rfl, hc⟩ := ints_at h4 (by omega)
      have hl : ((zs.take len).map (DV.int k)).length = len := by simp; omega
      have hfl : flatD ((zs.take len).map (DV.int k)) = (zs.take len).map (DV.int k) := by
        unfold flatD
        rw [List.flatMap_map]
        induction zs.take len with
        | nil => rfl
        | cons a l ih => rw [List.flatMap_cons, ih]; rfl
      have := RD.sl (w := w) (E := fun _ => False) ((zs.take len).map (.int k)) b o cap 1 ((zs.take len).map (.int k)) (fun e => by rw [e] at hl; simp at hl; omega) (fun h => h) (fun x hx => by obtain ⟨n, _, rfl⟩ := List.mem_map.1 hx; rfl)
        (by rw [hl]; exact h1) h2 (by simp) (fun u hu => by obtain ⟨n, _, rfl⟩ := List.mem_map.1 hu; rfl) (cell_lt (hc 0 (by omega))) (fun j u hj => by
          have hj' : j < len := by
            have := (List.getElem?_eq_some_iff.1 hj).1
            simp at this; omega
          have hz : j < zs.length := by omega
          have := hc j hz
          rw [this]
          simp [hj', hz] at hj
          simp [hz, hj]) (fun i d v hd hv => by
          rw [hfl] at hd
          simp only [List.getElem?_map] at hd hv
          cases q : (zs.take len)[i]? with
          | none => rw [q] at hd; cases hd
          | some n => rw [q] at hd hv; cases hd; cases hv; exact .int k n)
      rw [hl] at this
      exact this
theorem RDs.nil {w : World} {E : Nat → Prop} : RDs w E [] [] := ⟨rfl, fun i c v h => by simp at h⟩
theorem RDs.cons {w : World} {E : Nat → Prop} {d : DV} {v : Value} {ds : List DV} {vs : List Value} (h : RD w E d v) (hs : RDs w E ds vs) : RDs w E (d :: ds) (v :: vs) :=
  ⟨by simp [hs.1], fun i c u hc hu => by
    cases i with
    | zero => simp at hc hu; subst hc; subst hu; exact h
    | succ i => exact hs.2 i c u (by simpa using hc) (by simpa using hu)⟩
theorem law_calls {P : Program} {f : FuncId} {args : List DV} {fr : Bool} (h : Ok P f args ⟨.d (.bool true), fr⟩) (w : World) (vs : List Value) (hr : RDs w (fun _ => False) args vs) :
    Calls P f vs.toArray w fun e w' => e = .returned (.bool true) ∧ Below w.heap.size w w' :=
  (h.2 w (fun _ => False) vs (fun _ h => h.elim) hr).mono fun _ _ ⟨v, h1, h2, h3⟩ => by
    obtain ⟨_, h4⟩ := h3
    cases h4
    exact ⟨h1, h2.below⟩
end Go.Eng
namespace Go.Eng
open Go.Proofs
attribute [local simp] runL stepL evalG evalOp opLV constLV putEnv dstOk upd upds Res.plain Res.cond Res.fail evalBin evalUn seqQ blockQ argsEnv lookL lookH RetIs memless freshL evalPick evalMin bval bok evalLen evalIn strip whenC guardOps guardC slotsOf
  runM foldS stepI stepM maskE wrIn lk renO lookN evalCall evalCallee optAll resLV resObj retLV retObj retsLV retsObj evalLoad evalIndexAddr evalField solid cellsD_agg cellsD_int cellsD_bool cellsD_str cellsD_sl cellsD_ro cellsD_fn cellsL_agg cellsL_dagg cellsL_int cellsL_bool cellsL_str cellsL_sl cellsL_fn cellsL_ow cellsL_bx cellsL_lfn cellsL_nl takeL takeD mkAgg allD eqD eqDs kindsAre kindIs LObj.live TK.isNone TK.agg TK.isBool TK.isStr TK.isStruct Op.operands Call.operands
  evalBuildSlice evalAppend elemsOf evalStore evalBuild fillL lookupF putL evalSlice bound evalConv elemsS freezes frozen loadR
  mkEnv_at mkObs_at close_d close_agg close_ow close_bx close_fn close_nl touch_d touch_agg touch_ow touch_bx touch_fn touch_nl ren_d ren_agg ren_bx ren_rp ren_ow ren_fn ren_nl ren_junk retQ_ret retQ2_ret condQ_bool Nm.d Df.d Ed.d nmsD dfsD strsD edsD retC_ret nm_eq df_eq take_map_len take_map_app
  nm_t nm_d nm_td df_t df_d df_td str_t str_d str_td ed_t ed_d ed_td
  evalAppendIn evalBuildSliceC evalCopyC shortL evalApart evalAppendC evalAppendZ evalAppendG evalCapC isOc TK.isInt close_oc touch_oc ren_oc cellsL_oc evalCut evalClear evalCopy evalMake evalWrap evalCap evalNil isNilC lenL isInp gorc gorc2
  mapOf findD keyEq keyOk evalMakeMap evalRange zeroD zeroDV argsG shutG outN lenv retG0_ret retG0_normal retG1_ret retGR_ret renO close_mp touch_mp ren_mp optAll_d optAll_d' touch_ds cellsL_mp cellsD_mp cellsL_dmp
  evalMapSet evalPtr TK.isPtr evalToArr firstL retN_ret retsQ rvarL close_bm touch_bm ren_bm cellsD_bm cellsL_bm cellsL_lbm
theorem someN_succ {l : List Ed} {b : Int} {i : Nat} (h : i < l.length) : someN (l.take (i + 1)) b = someN (l.take i) b ++ if bit16 b i then [l[i].name] else [] := by
  have e : l.take (i + 1) = l.take i ++ [l[i]] := by simp
  unfold someN
  rw [e, List.zipIdx_append, List.filter_append, List.map_append]
  congr 1
  simp [List.length_take, Nat.min_eq_left (Nat.le_of_lt h), List.filter_cons]
  split <;> rfl
theorem bit16_at {b : Int} {i k : Nat} (h : (k : Int) = (i : Int).tmod 16) : (bit16 b i = true) = (((around b 65536).fdiv (2 ^ k)).tmod 2 = 1) := by
  unfold bit16
  rw [← h]
  simp
theorem Some_ok (l : List Ed) (b : Int) (hl : l.length ≤ 1100000) (h1 : -9223372036854775808 ≤ b) (h2 : b ≤ 9223372036854775807) : Ok Tryz.prog 43 [edsD l, I64 b] ⟨.d (nmsD (someN l b)), true⟩ := by
  refine Ok.ret Tryz.func43 (by kernel_rfl) (c := _) rfl Tryz.ntmps43 (by simp) Tryz.results43 (by intro _ h; cases h) fun w0 X hp => ?_
  refine LWp.seq ?_
  refine LWp.rz hT hW ?_
  simp
  refine LWp.seq ?_
  refine LWp.rz hT hW ?_
  simp
  refine LWp.seq ?_
  refine LWp.seq ?_
  refine LWp.rz hT hW ?_
  simp
  refine LWp.block ?_
  refine LWp.loopW (ι := Nat × List Nm) (fun ⟨i, acc⟩ => mkEnv [(0, .d (edsD l)), (1, .d (I64 b)), (5, .ow 5 0 acc.length), (6, .d (I64 i))]) (fun ⟨i, acc⟩ => mkObs [(5, .row false 2 (acc.map Nm.d))]) (fun ⟨i, acc⟩ => i ≤ l.length ∧ acc.length ≤ i ∧ acc = someN (l.take i) b) (fun ⟨i, acc⟩ => l.length - i) (0, []) (Weak.to [0, 1, 5, 6] [(5, 5)] (by decide) (by decide) (by simp [hp]) (by simp) (by simp)) (⟨Nat.zero_le _, Nat.le_refl _, rfl⟩) fun ⟨i, acc⟩ hi3 => ?_
  refine LWp.seq ?_
  refine LWp.seq ?_
  refine LWp.rz hT hW ?_
  simp
  refine LWp.iff ?_
  simp
  refine ⟨fun h3 => ?_, fun h3 => ?_⟩
  · refine LWp.skip ?_
    simp
    refine LWp.seq ?_
    refine LWp.block ?_
    refine LWp.seq ?_
    have hm1 : 0 ≤ ((i : Int)).tmod 16 := Int.tmod_nonneg _ (by omega)
    have hm2 : ((i : Int)).tmod 16 < 16 := Int.tmod_lt_of_pos _ (by omega)
    obtain ⟨k0, hk0⟩ : ∃ k0 : Nat, (k0 : Int) = ((i : Int)).tmod 16 := ⟨(((i : Int)).tmod 16).toNat, by omega⟩
    have hkw := u64_nat (k := k0) (by omega)
    have hk64 : min k0 64 = k0 := by omega
    refine LWp.ro hT hW (fun | 14 => some <| .plain ⟨.d (I64 (around b 65536)), true⟩ | _ => none) ?_
    simp [← hk0, hkw, IntKind.bits, hk64]
    refine ⟨Around_ok b 65536 h1 h2 (by decide), ?_⟩
    refine LWp.iff ?_
    simp
    refine ⟨fun h5 => ?_, fun h5 => ?_⟩
    · refine LWp.rz hT hW ?_
      simp [h3]
      refine ⟨by have := hi3.2.1; omega, ?_⟩
      refine LWp.rz hT hW ?_
      simp
      refine ⟨by omega, ?_⟩
      refine loopQ.mk (i + 1, acc ++ [l[i].name]) (Weak.to [0, 1, 5, 6] [(28, 5)] (by decide) (by decide) (by simp [hp]) (by simp) (by simp)) ?_ ?_
      · refine ⟨h3, by have := hi3.2.1; simp; omega, ?_⟩
        dsimp only
        rw [someN_succ h3, ← hi3.2.2, if_pos ((bit16_at hk0).mpr h5)]
      · omega
    · refine LWp.skip ?_
      simp
      refine LWp.rz hT hW ?_
      simp
      refine ⟨by omega, ?_⟩
      refine loopQ.mk (i + 1, acc) (Weak.to [0, 1, 5, 6] [(5, 5)] (by decide) (by decide) (by simp [hp]) (by simp) (by simp)) ?_ ?_
      · refine ⟨h3, by have := hi3.2.1; dsimp only; omega, ?_⟩
        dsimp only
        rw [someN_succ h3, ← hi3.2.2, if_neg (fun q => h5 ((bit16_at hk0).mp q)), List.append_nil]
      · omega
  · refine LWp.exit ?_
    simp
    refine LWp.seq ?_
    refine LWp.rz hT hW ?_
    simp
    refine LWp.ret ?_
    have q : i = l.length := by omega
    have := hi3.2.2
    rw [q, List.take_length] at this
    simp [this]
open Go.Proofs
abbrev Hs := List (List Nm)
def cmD (h : Hs) : DV := .agg [.sl (h.map nmsD)]
theorem hless_ok (a b : Nm) : Ok Tryz.prog 162 [a.d, b.d] ⟨.d (.bool (a.less b)), true⟩ := by
  refine Ok.ret Tryz.func162 (by kernel_rfl) (c := _) rfl Tryz.ntmps162 (by simp) Tryz.results162 (by intro _ h; cases h) fun w0 X hp => ?_
  refine LWp.seq ?_
  refine LWp.rz hT hW ?_
  simp
  refine LWp.seq ?_
  refine LWp.rz hT hW ?_
  simp
  refine ⟨by omega, ?_⟩
  refine LWp.ret ?_
  simp [Nm.less]
theorem hrising_ok (l : List Nm) (hl : l.length ≤ 1000000) : Ok Tryz.prog 121 [nmsD l] ⟨.d (.bool (incr Nm.less l)), true⟩ := by
  refine Ok.ret Tryz.func121 (by kernel_rfl) (c := _) rfl Tryz.ntmps121 (by simp) Tryz.results121 (by intro _ h; cases h) fun w0 X hp => ?_
  refine LWp.seq ?_
  refine LWp.rz hT hW ?_
  simp
  refine LWp.seq ?_
  refine LWp.seq ?_
  refine LWp.rz hT hW ?_
  simp
  refine LWp.block ?_
  refine LWp.loopW (ι := Nat) (fun i => mkEnv [(0, .d (nmsD l)), (3, .d (I64 (i + 1 : Nat)))]) (fun i => mkObs []) (fun i => i ≤ l.length ∧ IncTo Nm.less l (i + 1)) (fun i => l.length - i) 0 (Weak.to [0, 3] [] (by decide) (by decide) (by simp [hp]) (by simp) (by simp)) (⟨Nat.zero_le _, IncTo.start (by omega)⟩) fun i hi2 => ?_
  refine LWp.seq ?_
  refine LWp.seq ?_
  have hcast : ((i + 1 : Nat) : Int) = (i : Int) + 1 := by omega
  refine LWp.rz hT hW ?_
  simp
  refine LWp.iff ?_
  simp
  refine ⟨fun h2 => ?_, fun h2 => ?_⟩
  · refine LWp.skip ?_
    simp
    refine LWp.seq ?_
    refine LWp.block ?_
    refine LWp.seq ?_
    have h2' : i + 1 < l.length := by omega
    have h2'' : i < l.length := by omega
    refine LWp.regAny hT hW hMixed (lk [[],[],[1],[0,1,2],[0,1,2,3],[],[],[5,6],[5,6,7],[0,1,2,3,4,5,6,7,8],[0,1,2,3,4,5,6,7,8,9]]) (lk [[],[],[],[],[],[],[],[],[],[],[]]) (lk [[],[],[],[],[],[],[],[],[],[19],[]]) (by kernel_rfl) (fun | 19 => some <| .plain ⟨.d (.bool (l[i].less l[i + 1])), true⟩ | _ => none) (by intro d; first | exact ⟨rfl, fun _ h => h⟩ | (split <;> exact ⟨rfl, fun _ h => h⟩)) ?_
    simp [h2', h2'']
    refine ⟨⟨by omega, hless_ok _ _⟩, ?_⟩
    refine LWp.iff ?_
    simp
    refine ⟨fun h4 => ?_, fun h4 => ?_⟩
    · refine LWp.seq ?_
      refine LWp.rz hT hW ?_
      simp
      refine LWp.ret ?_
      simp
      exact incr_false h2' (by simpa using h4)
    · refine LWp.skip ?_
      simp
      refine LWp.rz hT hW ?_
      simp
      refine ⟨by omega, ?_⟩
      refine loopQ.mk (i + 1) (Weak.to [0, 3] [] (by decide) (by decide) (by simp [hp]) (by simp) (by simp)) ?_ ?_
      · exact ⟨by omega, hi2.2.succ (by omega) (by simpa using h4)⟩
      · omega
  · refine LWp.exit ?_
    simp
    refine LWp.seq ?_
    refine LWp.rz hT hW ?_
    simp
    refine LWp.ret ?_
    simp
    exact hi2.2.done (by omega)
theorem hpart1_ok (m : List Nm) (n : Nm) : Ok Tryz.prog 161 [n.d, .ro [nmsD m]] ⟨.d (.bool (!decide (n ∈ m))), true⟩ := by
  refine Ok.ret Tryz.func161 (by kernel_rfl) (c := _) rfl Tryz.ntmps161 (by simp) Tryz.results161 (by intro _ h; cases h) fun w0 X hp => ?_
  refine LWp.seq ?_
  refine LWp.rz hT hW ?_
  simp
  refine LWp.seq ?_
  refine LWp.ro hT hW (fun | 6 => some <| .plain ⟨.d (.bool (decide (n ∈ m))), true⟩ | _ => none) ?_
  simp
  refine ⟨InNm_ok m n, ?_⟩
  refine LWp.ret ?_
  simp
def partB (l m : List Nm) : Bool := l.all fun n => decide (n ∈ m)
theorem hpart_ok (l m : List Nm) : Ok Tryz.prog 120 [nmsD l, nmsD m] ⟨.d (.bool (partB l m)), true⟩ := by
  refine Ok.ret Tryz.func120 (by kernel_rfl) (c := _) rfl Tryz.ntmps120 (by simp) Tryz.results120 (by intro _ h; cases h) fun w0 X hp => ?_
  refine LWp.seq ?_
  refine LWp.rz hT hW ?_
  simp
  refine LWp.seq ?_
  refine LWp.ro hT hW (fun | 7 => some <| .plain ⟨.d (.bool (l.any fun n => !decide (n ∈ m))), true⟩ | _ => none) ?_
  simp
  refine ⟨by simpa [nmsD] using AnyNm_ok l (fun n => !decide (n ∈ m)) _ _ fun n _ => hpart1_ok m n, ?_⟩
  refine LWp.ret ?_
  simp [partB]
  rw [Bool.eq_iff_iff]
  simp
theorem horder2_ok (l : List Ed) (n : Nm) : Ok Tryz.prog 122 [n.d, .ro [edsD l]] ⟨.d (.bool (decide (findI l n < 0))), true⟩ := by
  refine Ok.ret Tryz.func122 (by kernel_rfl) (c := _) rfl Tryz.ntmps122 (by simp) Tryz.results122 (by intro _ h; cases h) fun w0 X hp => ?_
  refine LWp.seq ?_
  refine LWp.rz hT hW ?_
  simp
  refine LWp.seq ?_
  refine LWp.ro hT hW (fun | 6 => some <| .plain ⟨.d (I64 (findI l n)), true⟩ | _ => none) ?_
  simp
  refine ⟨EFind_ok l n, ?_⟩
  refine LWp.ret ?_
  simp
theorem horder3_ok (m : List Nm) (n : Nm) : Ok Tryz.prog 123 [n.d, .ro [nmsD m]] ⟨.d (.bool (decide (n ∈ m))), true⟩ := by
  refine Ok.ret Tryz.func123 (by kernel_rfl) (c := _) rfl Tryz.ntmps123 (by simp) Tryz.results123 (by intro _ h; cases h) fun w0 X hp => ?_
  refine LWp.seq ?_
  refine LWp.rz hT hW ?_
  simp
  refine LWp.seq ?_
  refine LWp.ro hT hW (fun | 6 => some <| .plain ⟨.d (.bool (decide (n ∈ m))), true⟩ | _ => none) ?_
  simp
  refine ⟨InNm_ok m n, ?_⟩
  refine LWp.ret ?_
  simp
theorem horder1_ok (l : List Ed) (all : List Nm) (n : Nm) (h : 0 ≤ findI l n) : Ok Tryz.prog 119 [n.d, .ro [edsD l], .ro [nmsD all]] ⟨.d (.bool (!partB (needsOf l n) all)), true⟩ := by
  refine Ok.ret Tryz.func119 (by kernel_rfl) (c := _) rfl Tryz.ntmps119 (by simp) Tryz.results119 (by intro _ h; cases h) fun w0 X hp => ?_
  refine LWp.seq ?_
  refine LWp.rz hT hW ?_
  simp
  refine LWp.seq ?_
  obtain ⟨i0, hi0, hfi, hfe, hne⟩ := edit_find (show ¬ findI l n < 0 by omega)
  have hpo := hpart_ok (needsOf l n) all
  rw [hne] at hpo
  refine LWp.regAny hT hW hMixed (lk [[],[],[],[1,2],[0,1,2,3],[0,1,2,3,4],[0,1,2,3,4,5],[],[0,1,2,3,4,5,6,7],[0,1,2,3,4,5,6,7,8],[0,1,2,3,4,5,6,7,8,9]]) (lk [[8],[],[],[],[],[],[],[8],[],[],[]]) (lk [[],[],[],[8],[],[],[],[],[13],[],[]]) (by kernel_rfl) (fun | 8 => some <| .plain ⟨.d (I64 (findI l n)), true⟩ | 13 => some <| .plain ⟨.d (.bool (partB (needsOf l n) all)), true⟩ | _ => none) (by intro d; first | exact ⟨rfl, fun _ h => h⟩ | (split <;> exact ⟨rfl, fun _ h => h⟩)) ?_
  simp [hfe, hi0, hne]
  refine ⟨⟨by rw [← hfe]; exact EFind_ok l n, hpo⟩, ?_⟩
  refine LWp.ret ?_
  simp
theorem Rising_ok (l : List Nm) (hl : l.length ≤ 1000000) : Ok Tryz.prog 124 [nmsD l] ⟨.d (.bool (incr Nm.less l)), true⟩ := by
  refine Ok.ret Tryz.func124 (by kernel_rfl) (c := _) rfl Tryz.ntmps124 (by simp) Tryz.results124 (by intro _ h; cases h) fun w0 X hp => ?_
  refine LWp.seq ?_
  refine LWp.rz hT hW ?_
  simp
  refine LWp.seq ?_
  refine LWp.seq ?_
  refine LWp.rz hT hW ?_
  simp
  refine LWp.block ?_
  refine LWp.loopW (ι := Nat) (fun i => mkEnv [(0, .d (nmsD l)), (3, .d (I64 (i + 1 : Nat)))]) (fun i => mkObs []) (fun i => i ≤ l.length ∧ IncTo Nm.less l (i + 1)) (fun i => l.length - i) 0 (Weak.to [0, 3] [] (by decide) (by decide) (by simp [hp]) (by simp) (by simp)) (⟨Nat.zero_le _, IncTo.start (by omega)⟩) fun i hi2 => ?_
  refine LWp.seq ?_
  refine LWp.seq ?_
  refine LWp.rz hT hW ?_
  simp
  refine LWp.iff ?_
  simp
  refine ⟨fun h2 => ?_, fun h2 => ?_⟩
  · refine LWp.skip ?_
    simp
    refine LWp.seq ?_
    refine LWp.block ?_
    refine LWp.seq ?_
    have h2' : i + 1 < l.length := by omega
    have h2'' : i < l.length := by omega
    refine LWp.regAny hT hW hMixed (lk [[],[],[1],[0,1,2],[0,1,2,3],[],[],[5,6],[5,6,7],[0,1,2,3,4,5,6,7,8],[0,1,2,3,4,5,6,7,8,9]]) (lk [[],[],[],[],[],[],[],[],[],[],[]]) (lk [[],[],[],[],[],[],[],[],[],[19],[]]) (by kernel_rfl) (fun | 19 => some <| .plain ⟨.d (.bool (l[i].less l[i + 1])), true⟩ | _ => none) (by intro d; first | exact ⟨rfl, fun _ h => h⟩ | (split <;> exact ⟨rfl, fun _ h => h⟩)) ?_
    simp [h2', h2'']
    refine ⟨⟨by omega, Less_ok _ _⟩, ?_⟩
    refine LWp.iff ?_
    simp
    refine ⟨fun h4 => ?_, fun h4 => ?_⟩
    · refine LWp.seq ?_
      refine LWp.rz hT hW ?_
      simp
      refine LWp.ret ?_
      simp
      exact incr_false h2' (by simpa using h4)
    · refine LWp.skip ?_
      simp
      refine LWp.rz hT hW ?_
      simp
      refine ⟨by omega, ?_⟩
      refine loopQ.mk (i + 1) (Weak.to [0, 3] [] (by decide) (by decide) (by simp [hp]) (by simp) (by simp)) ?_ ?_
      · exact ⟨by omega, hi2.2.succ (by omega) (by simpa using h4)⟩
      · omega
  · refine LWp.exit ?_
    simp
    refine LWp.seq ?_
    refine LWp.rz hT hW ?_
    simp
    refine LWp.ret ?_
    simp
    exact hi2.2.done (by omega)
def restN (l m : List Nm) : List Nm := l.filter fun n => decide (n ∉ m)
theorem rest_ok (l m : List Nm) (hl : l.length ≤ 1000000) : Ok Tryz.prog 83 [nmsD l, nmsD m] ⟨.d (nmsD (restN l m)), true⟩ := by
  refine Ok.ret Tryz.func83 (by kernel_rfl) (c := _) rfl Tryz.ntmps83 (by simp) Tryz.results83 (by intro _ h; cases h) fun w0 X hp => ?_
  refine LWp.seq ?_
  refine LWp.rz hT hW ?_
  simp
  refine LWp.seq ?_
  refine LWp.rz hT hW ?_
  simp
  refine LWp.seq ?_
  refine LWp.seq ?_
  refine LWp.rz hT hW ?_
  simp
  refine LWp.block ?_
  refine LWp.loopW (ι := Nat × List Nm) (fun ⟨i, acc⟩ => mkEnv [(0, .d (nmsD l)), (1, .d (nmsD m)), (5, .ow 5 0 acc.length), (6, .d (I64 i))]) (fun ⟨i, acc⟩ => mkObs [(5, .row false 2 (acc.map Nm.d))]) (fun ⟨i, acc⟩ => i ≤ l.length ∧ acc.length ≤ i ∧ acc = restN (l.take i) m) (fun ⟨i, acc⟩ => l.length - i) (0, []) (Weak.to [0, 1, 5, 6] [(5, 5)] (by decide) (by decide) (by simp [hp]) (by simp) (by simp)) (⟨Nat.zero_le _, Nat.le_refl _, rfl⟩) fun ⟨i, acc⟩ hi3 => ?_
  refine LWp.seq ?_
  refine LWp.seq ?_
  refine LWp.rz hT hW ?_
  simp
  refine LWp.iff ?_
  simp
  refine ⟨fun h3 => ?_, fun h3 => ?_⟩
  · refine LWp.skip ?_
    simp
    refine LWp.seq ?_
    refine LWp.block ?_
    refine LWp.seq ?_
    refine LWp.ro hT hW (fun | 18 => some <| .plain ⟨.d (.bool (decide (l[i] ∈ m))), true⟩ | _ => none) ?_
    simp [h3]
    refine ⟨Has_ok m _, ?_⟩
    refine LWp.iff ?_
    simp
    refine ⟨fun h5 => ?_, fun h5 => ?_⟩
    · refine LWp.rz hT hW ?_
      simp [h3]
      refine ⟨by have := hi3.2.1; omega, ?_⟩
      refine LWp.rz hT hW ?_
      simp
      refine ⟨by omega, ?_⟩
      refine loopQ.mk (i + 1, acc ++ [l[i]]) (Weak.to [0, 1, 5, 6] [(26, 5)] (by decide) (by decide) (by simp [hp]) (by simp) (by simp)) ?_ ?_
      · refine ⟨h3, by have := hi3.2.1; simp; omega, ?_⟩
        dsimp only
        unfold restN
        rw [filter_take_succ h3]
        have := hi3.2.2
        unfold restN at this
        rw [← this]; simp [h5]
      · omega
    · refine LWp.skip ?_
      simp
      refine LWp.rz hT hW ?_
      simp
      refine ⟨by omega, ?_⟩
      refine loopQ.mk (i + 1, acc) (Weak.to [0, 1, 5, 6] [(5, 5)] (by decide) (by decide) (by simp [hp]) (by simp) (by simp)) ?_ ?_
      · refine ⟨h3, by have := hi3.2.1; dsimp only; omega, ?_⟩
        dsimp only
        unfold restN
        rw [filter_take_succ h3]
        have := hi3.2.2
        unfold restN at this
        rw [← this]; simp [h5]
      · omega
  · refine LWp.exit ?_
    simp
    refine LWp.seq ?_
    refine LWp.rz hT hW ?_
    simp
    refine LWp.ret ?_
    have q : i = l.length := by omega
    have := hi3.2.2
    rw [q, List.take_length] at this
    simp [this]
theorem part_rest (l m : List Nm) : decide ((restN l m).length = 0) = partB l m := by
  unfold restN partB
  rw [Bool.eq_iff_iff]
  simp
theorem part_ok (l m : List Nm) (hl : l.length ≤ 1000000) : Ok Tryz.prog 144 [nmsD l, nmsD m] ⟨.d (.bool (partB l m)), true⟩ := by
  refine Ok.ret Tryz.func144 (by kernel_rfl) (c := _) rfl Tryz.ntmps144 (by simp) Tryz.results144 (by intro _ h; cases h) fun w0 X hp => ?_
  refine LWp.seq ?_
  refine LWp.rz hT hW ?_
  simp
  refine LWp.seq ?_
  refine LWp.ro hT hW (fun | 7 => some <| .plain ⟨.d (nmsD (restN l m)), true⟩ | _ => none) ?_
  simp
  refine ⟨rest_ok l m hl, ?_⟩
  refine LWp.ret ?_
  have := part_rest l m
  simp at this ⊢
  rw [← this]
def orderC (l : List Ed) (c there : List Nm) : Int :=
  if c = [] ∨ incr Nm.less c = false then 1 else if c.any (fun n => decide (findI l n < 0)) = true then 6 else if c.any (fun n => decide (n ∈ there)) = true then 7
  else if c.any (fun n => !partB (needsOf l n) (there ++ c)) = true then 10 else 0
theorem orderC_1 {l : List Ed} {c there : List Nm} (h : c = [] ∨ incr Nm.less c = false) : orderC l c there = 1 := if_pos h
theorem orderC_6 {l : List Ed} {c there : List Nm} (h1 : ¬ (c = [] ∨ incr Nm.less c = false)) (h2 : c.any (fun n => decide (findI l n < 0)) = true) : orderC l c there = 6 := by
  unfold orderC; rw [if_neg h1, if_pos h2]
theorem orderC_7 {l : List Ed} {c there : List Nm} (h1 : ¬ (c = [] ∨ incr Nm.less c = false)) (h2 : c.any (fun n => decide (findI l n < 0)) = false) (h3 : c.any (fun n => decide (n ∈ there)) = true) : orderC l c there = 7 := by
  unfold orderC; rw [if_neg h1, if_neg (by rw [h2]; simp), if_pos h3]
theorem orderC_10 {l : List Ed} {c there : List Nm} (h1 : ¬ (c = [] ∨ incr Nm.less c = false)) (h2 : c.any (fun n => decide (findI l n < 0)) = false) (h3 : c.any (fun n => decide (n ∈ there)) = false) (h4 : c.any (fun n => !partB (needsOf l n) (there ++ c)) = true) : orderC l c there = 10 := by
  unfold orderC; rw [if_neg h1, if_neg (by rw [h2]; simp), if_neg (by rw [h3]; simp), if_pos h4]
theorem orderC_0 {l : List Ed} {c there : List Nm} (h1 : ¬ (c = [] ∨ incr Nm.less c = false)) (h2 : c.any (fun n => decide (findI l n < 0)) = false) (h3 : c.any (fun n => decide (n ∈ there)) = false) (h4 : c.any (fun n => !partB (needsOf l n) (there ++ c)) = false) : orderC l c there = 0 := by
  unfold orderC; rw [if_neg h1, if_neg (by rw [h2]; simp), if_neg (by rw [h3]; simp), if_neg (by rw [h4]; simp)]
theorem order25_ok (l : List Ed) (c there : List Nm) (hn : (allNeeds l).length ≤ 1000000) (hc : c.length ≤ 1000000) (ht : there.length ≤ 1000000) : Ok Tryz.prog 71 [edsD l, nmsD c, nmsD there] ⟨.d (I64 (orderC l c there)), true⟩ := by
  refine Ok.ret Tryz.func71 (by kernel_rfl) (c := _) rfl Tryz.ntmps71 (by simp) Tryz.results71 (by intro _ h; cases h) fun w0 X hp => ?_
  refine LWp.seq ?_
  refine LWp.rz hT hW ?_
  simp
  refine LWp.seq ?_
  refine LWp.seq ?_
  refine LWp.ro hT hW (fun | 18 => some <| .plain ⟨.d (.bool (incr Nm.less c)), true⟩ | _ => none) ?_
  simp
  refine ⟨fun _ => Rising_ok c hc, ?_⟩
  refine LWp.iff ?_
  simp
  refine ⟨fun h1 => ?_, fun g1 g2 => ?_⟩
  · refine LWp.seq ?_
    refine LWp.rz hT hW ?_
    simp
    refine LWp.ret ?_
    simp [orderC_1 (l := l) (there := there) (by simpa using h1)]
  · refine LWp.skip ?_
    simp
    refine LWp.seq ?_
    refine LWp.seq ?_
    refine LWp.rz hT hW ?_
    simp
    refine LWp.block ?_
    refine LWp.loopW (ι := Nat) (fun i => mkEnv [(0, .d (edsD l)), (1, .d (nmsD c)), (2, .d (nmsD there)), (7, .d (I64 i))]) (fun i => mkObs []) (fun i => i ≤ c.length ∧ Pre (fun n => decide (findI l n < 0)) c i) (fun i => c.length - i) 0 (Weak.to [0, 1, 2, 7] [] (by decide) (by decide) (by simp [hp]) (by simp) (by simp)) (⟨Nat.zero_le _, Pre.zero⟩) fun i hi4 => ?_
    refine LWp.seq ?_
    refine LWp.seq ?_
    refine LWp.rz hT hW ?_
    simp
    refine LWp.iff ?_
    simp
    refine ⟨fun h4 => ?_, fun h4 => ?_⟩
    · refine LWp.skip ?_
      simp
      refine LWp.seq ?_
      refine LWp.block ?_
      refine LWp.seq ?_
      refine LWp.ro hT hW (fun | 32 => some <| .plain ⟨.d (I64 (findI l c[i])), true⟩ | _ => none) ?_
      simp [h4]
      refine ⟨Find_ok l _, ?_⟩
      refine LWp.iff ?_
      simp
      refine ⟨fun h6 => ?_, fun h6 => ?_⟩
      · refine LWp.seq ?_
        refine LWp.rz hT hW ?_
        simp
        refine LWp.ret ?_
        simp [orderC_6 (l := l) (there := there) (by simpa using ⟨g1, g2⟩) (any_at h4 (by simpa using h6))]
      · refine LWp.skip ?_
        simp
        refine LWp.rz hT hW ?_
        simp
        refine ⟨by omega, ?_⟩
        refine loopQ.mk (i + 1) (Weak.to [0, 1, 2, 7] [] (by decide) (by decide) (by simp [hp]) (by simp) (by simp)) ?_ ?_
        · exact ⟨h4, hi4.2.succ h4 (by simpa using h6)⟩
        · omega
    · refine LWp.exit ?_
      simp
      refine LWp.seq ?_
      refine LWp.seq ?_
      refine LWp.rz hT hW ?_
      simp
      refine LWp.block ?_
      refine LWp.loopW (ι := Nat) (fun j => mkEnv [(0, .d (edsD l)), (1, .d (nmsD c)), (2, .d (nmsD there)), (8, .d (I64 j))]) (fun j => mkObs []) (fun j => j ≤ c.length ∧ Pre (fun n => decide (n ∈ there)) c j) (fun j => c.length - j) 0 (Weak.to [0, 1, 2, 8] [] (by decide) (by decide) (by simp [hp]) (by simp) (by simp)) (⟨Nat.zero_le _, Pre.zero⟩) fun j hi9 => ?_
      refine LWp.seq ?_
      refine LWp.seq ?_
      refine LWp.rz hT hW ?_
      simp
      refine LWp.iff ?_
      simp
      refine ⟨fun h9 => ?_, fun h9 => ?_⟩
      · refine LWp.skip ?_
        simp
        refine LWp.seq ?_
        refine LWp.block ?_
        refine LWp.seq ?_
        refine LWp.ro hT hW (fun | 45 => some <| .plain ⟨.d (.bool (decide (c[j] ∈ there))), true⟩ | _ => none) ?_
        simp [h9]
        refine ⟨Has_ok there _, ?_⟩
        refine LWp.iff ?_
        simp
        refine ⟨fun h11 => ?_, fun h11 => ?_⟩
        · refine LWp.seq ?_
          refine LWp.rz hT hW ?_
          simp
          refine LWp.ret ?_
          simp [orderC_7 (l := l) (there := there) (by simpa using ⟨g1, g2⟩) (hi4.2.any (by omega)) (any_at h9 (by simpa using h11))]
        · refine LWp.skip ?_
          simp
          refine LWp.rz hT hW ?_
          simp
          refine ⟨by omega, ?_⟩
          refine loopQ.mk (j + 1) (Weak.to [0, 1, 2, 8] [] (by decide) (by decide) (by simp [hp]) (by simp) (by simp)) ?_ ?_
          · exact ⟨h9, hi9.2.succ h9 (by simpa using h11)⟩
          · omega
      · refine LWp.exit ?_
        simp
        refine LWp.seq ?_
        refine LWp.rz hT hW ?_
        simp
        refine ⟨⟨by omega, by omega⟩, ?_⟩
        have htk : List.take (there.length + c.length) (there.map Nm.d ++ c.map Nm.d) = there.map Nm.d ++ c.map Nm.d := List.take_of_length_le (by simp)
        obtain ⟨tc, htc⟩ : ∃ tc, tc = there ++ c := ⟨_, rfl⟩
        refine LWp.weak (Weak.close 9 (x := nmsD tc) (by simp [htk, htc])) ?_
        refine LWp.seq ?_
        refine LWp.seq ?_
        refine LWp.rz hT hW ?_
        simp
        refine LWp.block ?_
        refine LWp.loopW (ι := Nat) (fun k => mkEnv [(0, .d (edsD l)), (1, .d (nmsD c)), (9, .d (nmsD tc)), (10, .d (I64 k))]) (fun k => mkObs []) (fun k => k ≤ c.length ∧ Pre (fun n => !partB (needsOf l n) tc) c k) (fun k => c.length - k) 0 (Weak.to [0, 1, 9, 10] [] (by decide) (by decide) (by simp [hp]) (by simp) (by simp)) (⟨Nat.zero_le _, Pre.zero⟩) fun k hi15 => ?_
        refine LWp.seq ?_
        refine LWp.seq ?_
        refine LWp.rz hT hW ?_
        simp
        refine LWp.iff ?_
        simp
        refine ⟨fun h15 => ?_, fun h15 => ?_⟩
        · refine LWp.skip ?_
          simp
          refine LWp.seq ?_
          refine LWp.block ?_
          refine LWp.seq ?_
          refine LWp.ro hT hW (fun | 62 => some <| .plain ⟨.d (nmsD (needsOf l c[k])), false⟩ | _ => none) ?_
          simp [h15]
          refine ⟨Needs_ok l _, ?_⟩
          refine LWp.seq ?_
          refine LWp.rz hT hW ?_
          simp
          refine LWp.block ?_
          refine LWp.loopW (ι := Nat) (fun q => mkEnv [(0, .d (edsD l)), (1, .d (nmsD c)), (9, .d (nmsD tc)), (10, .d (I64 k)), (11, .d (nmsD (needsOf l c[k]))), (12, .d (I64 q))]) (fun q => mkObs []) (fun q => q ≤ (needsOf l c[k]).length ∧ Pre (fun m => !decide (m ∈ tc)) (needsOf l c[k]) q) (fun q => (needsOf l c[k]).length - q) 0 (Weak.to [0, 1, 9, 10, 11, 12] [] (by decide) (by decide) (by simp [hp]) (by simp) (by simp)) (⟨Nat.zero_le _, Pre.zero⟩) fun q hi19 => ?_
          refine LWp.seq ?_
          refine LWp.seq ?_
          refine LWp.rz hT hW ?_
          simp
          refine LWp.iff ?_
          simp
          refine ⟨fun h19 => ?_, fun h19 => ?_⟩
          · refine LWp.skip ?_
            simp
            refine LWp.seq ?_
            refine LWp.block ?_
            refine LWp.seq ?_
            have hha := Has_ok tc (needsOf l c[k])[q]
            refine LWp.ro hT hW (fun | 74 => some <| .plain ⟨.d (.bool (decide ((needsOf l c[k])[q] ∈ tc))), true⟩ | _ => none) ?_
            simp [h19]
            refine ⟨by simpa using hha, ?_⟩
            refine LWp.iff ?_
            simp
            refine ⟨fun h21 => ?_, fun h21 => ?_⟩
            · refine LWp.seq ?_
              refine LWp.rz hT hW ?_
              simp
              refine LWp.ret ?_
              have hnp : partB (needsOf l c[k]) tc = false := by
                unfold partB
                rw [List.all_eq_false]
                exact ⟨_, List.getElem_mem h19, by simpa using h21⟩
              simp [orderC_10 (l := l) (there := there) (by simpa using ⟨g1, g2⟩) (hi4.2.any (by omega)) (hi9.2.any (by omega)) (any_at h15 (by subst htc; rw [hnp]; rfl))]
            · refine LWp.skip ?_
              simp
              refine LWp.rz hT hW ?_
              simp
              have hk := needsOf_len (l := l) (n := c[k])
              refine ⟨by omega, ?_⟩
              refine loopQ.mk (q + 1) (Weak.to [0, 1, 9, 10, 11, 12] [] (by decide) (by decide) (by simp [hp]) (by simp) (by simp)) ?_ ?_
              · exact ⟨h19, hi19.2.succ h19 (by simpa using h21)⟩
              · omega
          · refine LWp.exit ?_
            simp
            refine LWp.rz hT hW ?_
            simp
            refine ⟨by omega, ?_⟩
            refine loopQ.mk (k + 1) (Weak.to [0, 1, 9, 10] [] (by decide) (by decide) (by simp [hp]) (by simp) (by simp)) ?_ ?_
            · exact ⟨h15, hi15.2.succ h15 (by have := hi19.2.any (by omega); simpa [partB] using this)⟩
            · omega
        · refine LWp.exit ?_
          simp
          refine LWp.seq ?_
          refine LWp.rz hT hW ?_
          simp
          refine LWp.ret ?_
          simp [orderC_0 (l := l) (there := there) (by simpa using ⟨g1, g2⟩) (hi4.2.any (by omega)) (hi9.2.any (by omega)) (by subst htc; exact hi15.2.any (by omega))]
open Go.Proofs
section
attribute [local simp] Res.cond
def cat (h : Hs) : List Nm := h.flatten
theorem cat_succ {h : Hs} {i : Nat} (hi : i < h.length) : cat (h.take (i + 1)) = cat (h.take i) ++ h[i] := by
  unfold cat
  rw [List.take_succ_eq_append_getElem hi, List.flatten_append]; simp
theorem cat_nil : cat [] = [] := rfl
theorem cat_app (h g : Hs) : cat (h ++ g) = cat h ++ cat g := by simp [cat]
theorem cat_cons (c : List Nm) (h : Hs) : cat (c :: h) = c ++ cat h := by simp [cat]
theorem cat_le {h : Hs} {i : Nat} (hi : i < h.length) : (cat (h.take (i + 1))).length = (cat (h.take i)).length + h[i].length := by rw [cat_succ hi, List.length_append]
theorem cat_tot {h : Hs} (i : Nat) : (cat (h.take i)).length ≤ (cat h).length := by
  conv => rhs; rw [← List.take_append_drop i h]
  rw [cat_app, List.length_append]; omega
theorem cat_none {h : Hs} (hz : (cat h).length = 0) {i : Nat} (hi : i < h.length) : h[i] = [] := by
  have h1 := cat_le hi
  have h2 := cat_tot (h := h) (i + 1)
  exact List.eq_nil_of_length_eq_zero (by omega)
theorem GrowNm0_ok  : OkG Tryz.prog 128 [.nl, .d (I64 0)] [] [] (.nl) := by
  refine OkG.one Tryz.func128 (by kernel_rfl) (c := _) rfl Tryz.ntmps128 (by simp) Tryz.results128 fun w0 X hp => ?_
  refine LWp.seq ?_
  refine LWp.rz hT hW ?_
  simp
  refine LWp.seq ?_
  refine LWp.seq ?_
  refine LWp.rz hT hW ?_
  simp
  refine LWp.iff ?_
  simp
  refine LWp.skip ?_
  simp
  refine LWp.seq ?_
  refine LWp.seq ?_
  refine LWp.rz hT hW ?_
  simp
  refine LWp.seq ?_
  refine LWp.rz hT hW ?_
  simp
  refine LWp.iff ?_
  simp
  refine LWp.skip ?_
  simp
  refine LWp.seq ?_
  refine LWp.rz hT hW ?_
  simp
  refine LWp.ret ?_
  simp
  exact Weak.to [4] [] (by decide) (by decide) (by simp [hp]) (by simp) (by simp)
theorem GrowNm1_ok (n : Nat) (h0 : 0 < n) (hn : n ≤ 8000000000000) : OkG Tryz.prog 128 [.nl, .d (I64 n)] [] [(0, .row false 2 (List.replicate n zeroNm.d))] (.ow 0 0 0) := by
  refine OkG.one Tryz.func128 (by kernel_rfl) (c := _) rfl Tryz.ntmps128 (by simp) Tryz.results128 fun w0 X hp => ?_
  refine LWp.seq ?_
  refine LWp.rz hT hW ?_
  simp
  refine LWp.seq ?_
  refine LWp.seq ?_
  refine LWp.rz hT hW ?_
  simp [(show ¬ ((n : Int) < 0) by omega)]
  refine LWp.iff ?_
  simp
  refine LWp.skip ?_
  simp
  refine LWp.seq ?_
  refine LWp.seq ?_
  refine LWp.rz hT hW ?_
  simp
  refine ⟨by omega, ?_⟩
  refine LWp.seq ?_
  refine LWp.rz hT hW ?_
  simp
  refine LWp.iff ?_
  simp [h0]
  refine LWp.rz hT hW ?_
  simp [h0]
  refine ⟨by omega, ?_⟩
  refine LWp.seq ?_
  refine LWp.rz hT hW ?_
  simp
  refine LWp.ret ?_
  simp
  exact Weak.to [4] [(22, 0)] (by decide) (by decide) (by simp [hp]) (by simp) (by simp [zeroNm])
theorem ConcatNm0_ok (h : Hs) (hl : h.length ≤ 1000000) (hz : (cat h).length = 0) : Ok Tryz.prog 73 [.sl (h.map nmsD)] ⟨.d (nmsD (cat h)), true⟩ := by
  refine Ok.ret Tryz.func73 (by kernel_rfl) (c := _) rfl Tryz.ntmps73 (by simp) Tryz.results73 (by intro _ h; cases h) fun w0 X hp => ?_
  refine LWp.seq ?_
  refine LWp.rz hT hW ?_
  simp
  refine LWp.seq ?_
  refine LWp.rz hT hW ?_
  simp
  refine LWp.seq ?_
  refine LWp.seq ?_
  refine LWp.rz hT hW ?_
  simp
  refine LWp.block ?_
  refine LWp.loopW (ι := Nat) (fun i => mkEnv [(0, .d (.sl (h.map nmsD))), (3, .d (I64 0)), (9, .d (.sl (h.map nmsD))), (10, .d (I64 h.length)), (11, .d (I64 i))]) (fun i => mkObs []) (fun i => i ≤ h.length) (fun i => h.length - i) 0 (Weak.to [0, 3, 9, 10, 11] [] (by decide) (by decide) (by simp [hp]) (by simp) (by simp)) (by omega) fun i hi3 => ?_
  refine LWp.seq ?_
  refine LWp.rz hT hW ?_
  simp
  refine LWp.seq ?_
  refine LWp.iff ?_
  simp
  refine ⟨fun h3 => ?_, fun h3 => ?_⟩
  · refine LWp.skip ?_
    simp
    refine LWp.seq ?_
    refine LWp.block ?_
    refine LWp.seq ?_
    have hnil := cat_none hz h3
    refine LWp.rz hT hW ?_
    simp [h3, hnil]
    refine LWp.seq ?_
    refine LWp.rz hT hW ?_
    simp
    refine LWp.seq ?_
    refine LWp.rz hT hW ?_
    simp
    refine LWp.iff ?_
    simp
    refine LWp.skip ?_
    simp
    refine LWp.rz hT hW ?_
    simp
    refine ⟨by omega, ?_⟩
    refine loopQ.mk (i + 1) (Weak.to [0, 3, 9, 10, 11] [] (by decide) (by decide) (by simp [hp]) (by simp) (by simp)) ?_ ?_
    · exact h3
    · omega
  · refine LWp.exit ?_
    simp
    refine LWp.seq ?_
    refine LWp.ro hT hW (fun | 24 => some (.gen ⟨[], [], [], [], .nl⟩) | _ => none) ?_
    simp
    refine ⟨GrowNm0_ok, ?_⟩
    refine LWp.seq ?_
    refine LWp.seq ?_
    refine LWp.rz hT hW ?_
    simp
    refine LWp.block ?_
    refine LWp.loopW (ι := Nat) (fun i => mkEnv [(0, .d (.sl (h.map nmsD))), (6, .ow 6 0 0), (25, .d (.sl (h.map nmsD))), (26, .d (I64 h.length)), (27, .d (I64 i))]) (fun i => mkObs [(6, .row false 2 [])]) (fun i => i ≤ h.length) (fun i => h.length - i) 0 (Weak.to [0, 6, 25, 26, 27] [(6, 6)] (by decide) (by decide) (by simp [hp]) (by simp) (by simp)) (by omega) fun i hi11 => ?_
    refine LWp.seq ?_
    refine LWp.rz hT hW ?_
    simp
    refine LWp.seq ?_
    refine LWp.iff ?_
    simp
    refine ⟨fun h11 => ?_, fun h11 => ?_⟩
    · refine LWp.skip ?_
      simp
      refine LWp.seq ?_
      refine LWp.block ?_
      refine LWp.seq ?_
      have hnil := cat_none hz h11
      refine LWp.rz hT hW ?_
      simp [h11, hnil]
      refine LWp.rz hT hW ?_
      simp
      refine LWp.rz hT hW ?_
      simp
      refine ⟨by omega, ?_⟩
      refine loopQ.mk (i + 1) (Weak.to [0, 6, 25, 26, 27] [(33, 6)] (by decide) (by decide) (by simp [hp]) (by simp) (by simp)) ?_ ?_
      · exact h11
      · omega
    · refine LWp.exit ?_
      simp
      refine LWp.seq ?_
      refine LWp.rz hT hW ?_
      simp
      refine LWp.ret ?_
      simp
      have := List.eq_nil_of_length_eq_zero hz
      rw [this]
theorem ConcatNm1_ok (h : Hs) (hl : h.length ≤ 1000000) (h0 : 0 < (cat h).length) (hn : (cat h).length ≤ 8000000000000) : Ok Tryz.prog 73 [.sl (h.map nmsD)] ⟨.d (nmsD (cat h)), true⟩ := by
  refine Ok.ret Tryz.func73 (by kernel_rfl) (c := _) rfl Tryz.ntmps73 (by simp) Tryz.results73 (by intro _ h; cases h) fun w0 X hp => ?_
  refine LWp.seq ?_
  refine LWp.rz hT hW ?_
  simp
  refine LWp.seq ?_
  refine LWp.rz hT hW ?_
  simp
  refine LWp.seq ?_
  refine LWp.seq ?_
  refine LWp.rz hT hW ?_
  simp
  refine LWp.block ?_
  refine LWp.loopW (ι := Nat) (fun i => mkEnv [(0, .d (.sl (h.map nmsD))), (3, .d (I64 ((cat (h.take i)).length : Nat))), (9, .d (.sl (h.map nmsD))), (10, .d (I64 h.length)), (11, .d (I64 i))]) (fun i => mkObs []) (fun i => i ≤ h.length) (fun i => h.length - i) 0 (Weak.to [0, 3, 9, 10, 11] [] (by decide) (by decide) (by simp [hp]) (by simp [cat_nil]) (by simp)) (by omega) fun i hi3 => ?_
  refine LWp.seq ?_
  refine LWp.rz hT hW ?_
  simp
  refine LWp.seq ?_
  refine LWp.iff ?_
  simp
  refine ⟨fun h3 => ?_, fun h3 => ?_⟩
  · refine LWp.skip ?_
    simp
    refine LWp.seq ?_
    refine LWp.block ?_
    refine LWp.seq ?_
    refine LWp.rz hT hW ?_
    simp [h3]
    refine LWp.seq ?_
    have hf1 := cat_le h3
    have hf2 := cat_tot (h := h) (i + 1)
    refine LWp.rz hT hW ?_
    simp
    refine ⟨by omega, ?_⟩
    refine LWp.seq ?_
    refine LWp.rz hT hW ?_
    simp [(show ¬ (((cat (h.take i)).length : Int) + (h[i].length : Int) < 0) by omega)]
    refine LWp.iff ?_
    simp
    refine LWp.skip ?_
    simp
    refine LWp.rz hT hW ?_
    simp
    refine ⟨by omega, ?_⟩
    refine loopQ.mk (i + 1) (Weak.to [0, 3, 9, 10, 11] [] (by decide) (by decide) (by simp [hp]) (by simp [cat_le h3]) (by simp)) ?_ ?_
    · exact h3
    · omega
  · refine LWp.exit ?_
    simp
    refine LWp.seq ?_
    have hi : i = h.length := by omega
    subst hi
    refine LWp.ro hT hW (fun | 24 => some (.gen ⟨[], [(0, 24)], [], [(0, .row false 2 (List.replicate (cat h).length zeroNm.d))], .ow 0 0 0⟩) | _ => none) ?_
    simp
    refine ⟨GrowNm1_ok _ h0 hn, ?_⟩
    refine LWp.seq ?_
    refine LWp.seq ?_
    refine LWp.rz hT hW ?_
    simp
    refine LWp.block ?_
    refine LWp.loopW (ι := Nat × List DV) (fun ⟨j, L⟩ => mkEnv [(0, .d (.sl (h.map nmsD))), (6, .ow 6 0 (cat (h.take j)).length), (25, .d (.sl (h.map nmsD))), (26, .d (I64 h.length)), (27, .d (I64 j))]) (fun ⟨j, L⟩ => mkObs [(6, .row false 2 L)]) (fun ⟨j, L⟩ => j ≤ h.length ∧ L.take (cat (h.take j)).length = (cat (h.take j)).map Nm.d) (fun ⟨j, L⟩ => h.length - j) (0, List.replicate (cat h).length zeroNm.d) (Weak.to [0, 6, 25, 26, 27] [(24, 6)] (by decide) (by decide) (by simp [hp]) (by simp [cat_nil]) (by simp)) (⟨by omega, by simp [cat_nil]⟩) fun ⟨j, L⟩ hi11 => ?_
    refine LWp.seq ?_
    refine LWp.rz hT hW ?_
    simp
    refine LWp.seq ?_
    refine LWp.iff ?_
    simp
    refine ⟨fun h11 => ?_, fun h11 => ?_⟩
    · refine LWp.skip ?_
      simp
      refine LWp.seq ?_
      refine LWp.block ?_
      refine LWp.seq ?_
      refine LWp.rz hT hW ?_
      simp [h11]
      have hf1 := cat_le h11
      have hf2 := cat_tot (h := h) (j + 1)
      refine LWp.rz hT hW ?_
      simp
      refine ⟨by omega, ?_⟩
      refine LWp.rz hT hW ?_
      simp
      refine ⟨by omega, ?_⟩
      refine loopQ.mk (j + 1, (cat (h.take (j + 1))).map Nm.d) (Weak.to [0, 6, 25, 26, 27] [(33, 6)] (by decide) (by decide) (by simp [hp]) (by simp [cat_le h11]) (by simp [hi11.2, cat_succ h11])) ?_ ?_
      · refine ⟨h11, ?_⟩
        rw [List.take_of_length_le (by simp)]
      · omega
    · refine LWp.exit ?_
      simp
      refine LWp.seq ?_
      refine LWp.rz hT hW ?_
      simp
      refine LWp.ret ?_
      have hj : j = h.length := by omega
      have := hi11.2
      rw [hj, List.take_length] at this
      simp [hj, this]
theorem ConcatNm_ok (h : Hs) (hl : h.length ≤ 1000000) (hn : (cat h).length ≤ 8000000000000) : Ok Tryz.prog 73 [.sl (h.map nmsD)] ⟨.d (nmsD (cat h)), true⟩ := by
  rcases Nat.eq_zero_or_pos (cat h).length with hz | hz
  · exact ConcatNm0_ok h hl hz
  · exact ConcatNm1_ok h hl hz hn
theorem CloneH_ok (h : Hs) (hl : h.length ≤ 1000000) : OkGR Tryz.prog 79 [.d (.sl (h.map nmsD))] [] (fun fin ret => (h = [] ∧ fin = [] ∧ ret = .nl) ∨ ∃ c, h.length ≤ c ∧ c ≤ maxLen ∧ fin = [(7, .row false 1 (h.map nmsD ++ List.replicate (c - h.length) (.sl [])))] ∧ ret = .oc 7 0 h.length c) := by
  refine OkGR.one Tryz.func79 (by kernel_rfl) (c := _) rfl Tryz.ntmps79 (by simp) Tryz.results79 fun w0 X hp => ?_
  refine LWp.seq ?_
  refine LWp.rz hT hW ?_
  simp
  refine LWp.seq ?_
  refine LWp.seq ?_
  refine LWp.regNil hT hW 4 (decide (h = [])) (fun _ => none) (fun _ => ⟨rfl, fun _ h => h⟩) (by kernel_rfl) fun b1 hb1 => ?_
  simp
  refine LWp.iff ?_
  simp
  refine ⟨fun h1 => ?_, fun h1 => ?_⟩
  · refine LWp.seq ?_
    refine LWp.rz hT hW ?_
    simp
    refine LWp.ret ?_
    simp
    have := hb1 h1
    simp at this
    exact ⟨[], .nl, .inl ⟨this, rfl, rfl⟩, Weak.to [2] [] (by decide) (by decide) (by simp [hp]) (by simp) (by simp)⟩
  · refine LWp.skip ?_
    simp
    refine LWp.seq ?_
    refine LWp.regApp hT hW 7 h.length (by unfold maxLen; omega) (fun | 5 => some .inp | _ => none) (by intro d; first | exact ⟨rfl, fun _ h => h⟩ | (split <;> exact ⟨rfl, fun _ h => h⟩)) (by kernel_rfl) fun c3 hc3 hm3 => ?_
    simp
    refine ⟨by omega, ?_⟩
    refine LWp.ret ?_
    simp
    exact ⟨_, _, .inr ⟨c3, hc3, hm3, rfl, rfl⟩, Weak.to [2] [(7, 7)] (by decide) (by decide) (by simp [hp]) (by simp) (by simp)⟩
end
end Go.Eng
namespace Go.Eng
def digF : Nat → Nat → List Nat
  | 0, _ => []
  | f + 1, m => if m = 0 then [] else m % 256 :: digF f (m / 256)
def valF : List Nat → Nat
  | [] => 0
  | d :: r => d + 256 * valF r
theorem valF_dig : ∀ (f m : Nat), m < 256 ^ f → valF (digF f m) = m
  | 0, m, h => by simp at h; subst h; rfl
  | f + 1, m, h => by
    unfold digF
    split
    · rename_i h0; subst h0; rfl
    · rw [valF, valF_dig f (m / 256) (by rw [Nat.pow_succ] at h; omega)]
      omega
theorem digF_len : ∀ (f m : Nat), (digF f m).length ≤ f
  | 0, _ => Nat.le_refl _
  | f + 1, m => by
    unfold digF
    split
    · simp
    · have := digF_len f (m / 256); simp only [List.length_cons]; omega
theorem digF_lt : ∀ (f m : Nat), ∀ d ∈ digF f m, d < 256
  | 0, _, d, h => by cases h
  | f + 1, m, d, h => by
    unfold digF at h
    split at h
    · cases h
    · rcases List.mem_cons.1 h with rfl | h
      · omega
      · exact digF_lt f _ d h
def absE (n : Int) : Nat := (if n < 0 then -1 - n else n).toNat
def intE (n : Int) : List Nat := (if n < 0 then 127 - (digF 8 (absE n)).length else 128 + (digF 8 (absE n)).length) :: (digF 8 (absE n)).reverse.map fun d => if n < 0 then 255 - d else d
def I64R (n : Int) : Prop := -9223372036854775808 ≤ n ∧ n ≤ 9223372036854775807
theorem absE_lt {n : Int} (h : I64R n) : absE n < 256 ^ 8 := by
  obtain ⟨h1, h2⟩ := h
  unfold absE
  split <;> omega
theorem abs_sign {n n' : Int} (hs : n < 0 ↔ n' < 0) (h : absE n = absE n') : n = n' := by
  unfold absE at h
  by_cases q : n < 0
  · rw [if_pos q, if_pos (hs.1 q)] at h; have := hs.1 q; omega
  · rw [if_neg q, if_neg fun h => q (hs.2 h)] at h; have : ¬ n' < 0 := fun h => q (hs.2 h); omega
theorem map_rev {f : Nat → Nat} (hf : ∀ x, x < 256 → ∀ y, y < 256 → f x = f y → x = y) : ∀ {a b : List Nat}, (∀ x ∈ a, x < 256) → (∀ x ∈ b, x < 256) → a.map f = b.map f → a = b
  | [], [], _, _, _ => rfl
  | [], _ :: _, _, _, h => by simp at h
  | _ :: _, [], _, _, h => by simp at h
  | x :: a, y :: b, ha, hb, h => by
    simp only [List.map_cons, List.cons.injEq] at h
    rw [hf x (ha x (List.mem_cons_self ..)) y (hb y (List.mem_cons_self ..)) h.1, map_rev hf (fun z hz => ha z (List.mem_cons_of_mem _ hz)) (fun z hz => hb z (List.mem_cons_of_mem _ hz)) h.2]
theorem intE_pre {n n' : Int} (h : I64R n) (h' : I64R n') {a b : List Nat} (e : intE n ++ a = intE n' ++ b) : n = n' ∧ a = b := by
  have l1 := digF_len 8 (absE n)
  have l2 := digF_len 8 (absE n')
  have v1 := valF_dig 8 _ (absE_lt h)
  have v2 := valF_dig 8 _ (absE_lt h')
  have d1 := digF_lt 8 (absE n)
  have d2 := digF_lt 8 (absE n')
  unfold intE at e
  generalize digF 8 (absE n) = D1 at *
  generalize digF 8 (absE n') = D2 at *
  simp only [List.cons_append, List.cons.injEq] at e
  obtain ⟨e1, e2⟩ := e
  have hs : n < 0 ↔ n' < 0 := by
    by_cases q : n < 0 <;> by_cases q' : n' < 0 <;> simp only [q, q', if_true, if_false] at e1 ⊢ <;> omega
  have hl : D1.length = D2.length := by
    by_cases q : n < 0
    · rw [if_pos q, if_pos (hs.1 q)] at e1; omega
    · rw [if_neg q, if_neg fun h => q (hs.2 h)] at e1; omega
  have hd := List.append_inj e2 (by simp [hl])
  refine ⟨abs_sign hs ?_, hd.2⟩
  have hD : D1.reverse = D2.reverse := by
    have hd1 := hd.1
    by_cases q : n < 0
    · simp only [q, hs.1 q, if_true] at hd1
      exact map_rev (f := fun d => 255 - d) (fun x hx y hy h => by omega) (fun x hx => d1 x (List.mem_reverse.1 hx)) (fun x hx => d2 x (List.mem_reverse.1 hx)) hd1
    · have q' : ¬ n' < 0 := fun h => q (hs.2 h)
      simp only [q, q', if_false] at hd1
      simpa using hd1
  rw [List.reverse_inj] at hD
  rw [← v1, ← v2, hD]
theorem flat_pre {α : Type} {f : α → List Nat} {P : α → Prop} (hf : ∀ (x y : α), P x → P y → ∀ (a b : List Nat), f x ++ a = f y ++ b → x = y ∧ a = b) :
    ∀ {l l' : List α}, l.length = l'.length → (∀ x ∈ l, P x) → (∀ x ∈ l', P x) → ∀ {a b : List Nat}, l.flatMap f ++ a = l'.flatMap f ++ b → l = l' ∧ a = b
  | [], [], _, _, _, _, _, e => ⟨rfl, by simpa using e⟩
  | [], _ :: _, h, _, _, _, _, _ => by simp at h
  | _ :: _, [], h, _, _, _, _, _ => by simp at h
  | x :: l, y :: l', h, h1, h2, a, b, e => by
    simp only [List.flatMap_cons, List.append_assoc] at e
    have q := hf x y (h1 x (List.mem_cons_self ..)) (h2 y (List.mem_cons_self ..)) _ _ e
    have q2 := flat_pre hf (by simpa using h) (fun z hz => h1 z (List.mem_cons_of_mem _ hz)) (fun z hz => h2 z (List.mem_cons_of_mem _ hz)) q.2
    exact ⟨by rw [q.1, q2.1], q2.2⟩
def intsE (l : List Int) : List Nat := intE l.length ++ l.flatMap intE
def IsR (l : List Int) : Prop := l.length ≤ 9223372036854775807 ∧ ∀ n ∈ l, I64R n
theorem len_R {n : Nat} (h : n ≤ 9223372036854775807) : I64R (n : Int) := ⟨by omega, by omega⟩
theorem intsE_pre {l l' : List Int} (h : IsR l) (h' : IsR l') {a b : List Nat} (e : intsE l ++ a = intsE l' ++ b) : l = l' ∧ a = b := by
  unfold intsE at e
  rw [List.append_assoc, List.append_assoc] at e
  obtain ⟨e1, e2⟩ := intE_pre (len_R h.1) (len_R h'.1) e
  exact flat_pre (fun _ _ hx hy _ _ e => intE_pre hx hy e) (by omega) h.2 h'.2 e2
def flatN (c : List Nm) : List Int := c.flatMap fun n => [n.who, n.seq]
theorem flatN_inj : ∀ {a b : List Nm}, flatN a = flatN b → a = b
  | [], [], _ => rfl
  | [], _ :: _, h => by simp [flatN] at h
  | _ :: _, [], h => by simp [flatN] at h
  | x :: a, y :: b, h => by
    simp only [flatN, List.flatMap_cons, List.cons_append, List.nil_append, List.cons.injEq] at h
    obtain ⟨h1, h2, h3⟩ := h
    rw [flatN_inj h3]
    cases x; cases y; simp only at h1 h2; rw [h1, h2]
def encH (h : Hs) : List Nat := intE h.length ++ h.flatMap fun c => intsE (flatN c)
def HsR (h : Hs) : Prop := h.length ≤ 9223372036854775807 ∧ ∀ c ∈ h, IsR (flatN c)
theorem encH_inj {h h' : Hs} (k : HsR h) (k' : HsR h') : encH h = encH h' ↔ h = h' := by
  refine ⟨fun e => ?_, fun e => by rw [e]⟩
  have e : encH h ++ [] = encH h' ++ [] := by rw [e]
  unfold encH at e
  rw [List.append_assoc, List.append_assoc] at e
  obtain ⟨e1, e2⟩ := intE_pre (len_R k.1) (len_R k'.1) e
  exact (flat_pre (P := fun c => IsR (flatN c)) (f := fun c => intsE (flatN c)) (fun _ _ hx hy _ _ e => by
    obtain ⟨e3, e4⟩ := intsE_pre hx hy e
    exact ⟨flatN_inj e3, e4⟩) (by omega) k.2 k'.2 e2).1
end Go.Eng
namespace Go.Eng
open Go.Proofs
attribute [local simp] runL stepL evalG evalOp opLV constLV putEnv dstOk upd upds Res.plain Res.cond Res.fail evalBin evalUn seqQ blockQ argsEnv lookL lookH RetIs memless freshL evalPick evalMin bval bok evalLen evalIn strip whenC guardOps guardC slotsOf
  runM foldS stepI stepM maskE wrIn lk renO lookN evalCall evalCallee optAll resLV resObj retLV retObj retsLV retsObj evalLoad evalIndexAddr evalField solid cellsD_agg cellsD_int cellsD_bool cellsD_str cellsD_sl cellsD_ro cellsD_fn cellsL_agg cellsL_dagg cellsL_int cellsL_bool cellsL_str cellsL_sl cellsL_fn cellsL_ow cellsL_bx cellsL_lfn cellsL_nl takeL takeD mkAgg allD eqD eqDs kindsAre kindIs LObj.live TK.isNone TK.agg TK.isBool TK.isStr TK.isStruct Op.operands Call.operands
  evalBuildSlice evalAppend elemsOf evalStore evalBuild fillL lookupF putL evalSlice bound evalConv elemsS freezes frozen loadR
  mkEnv_at mkObs_at close_d close_agg close_ow close_bx close_fn close_nl touch_d touch_agg touch_ow touch_bx touch_fn touch_nl ren_d ren_agg ren_bx ren_rp ren_ow ren_fn ren_nl ren_junk retQ_ret retQ2_ret condQ_bool Nm.d Df.d Ed.d nmsD dfsD strsD edsD retC_ret nm_eq df_eq take_map_len take_map_app
  nm_t nm_d nm_td df_t df_d df_td str_t str_d str_td ed_t ed_d ed_td
  evalAppendIn evalBuildSliceC evalCopyC shortL evalApart evalAppendC evalAppendZ evalAppendG evalCapC isOc TK.isInt close_oc touch_oc ren_oc cellsL_oc evalCut evalClear evalCopy evalMake evalWrap evalCap evalNil isNilC lenL isInp gorc gorc2
  mapOf findD keyEq keyOk evalMakeMap evalRange zeroD zeroDV argsG shutG outN lenv retG0_ret retG0_normal retG1_ret retGR_ret renO close_mp touch_mp ren_mp optAll_d optAll_d' touch_ds cellsL_mp cellsD_mp cellsL_dmp
  evalMapSet evalPtr TK.isPtr evalToArr firstL retN_ret retsQ rvarL close_bm touch_bm ren_bm cellsD_bm cellsL_bm cellsL_lbm
section
attribute [local simp] Res.cond
def badAt (l : List Ed) (h : Hs) (i : Nat) : Int := orderC l (h.getD i []) (cat (h.take i))
def validH (l : List Ed) (h : Hs) : Nat × Int :=
  if (validV l).2 ≠ 0 then (0, (validV l).2) else if 32 < h.length then (0, 4) else match (List.range h.length).find? fun i => decide (badAt l h i ≠ 0) with
    | some i => (i, badAt l h i)
    | none => (h.length, 0)
theorem validH_1 {l : List Ed} {h : Hs} (h1 : (validV l).2 ≠ 0) : validH l h = (0, (validV l).2) := if_pos h1
theorem validH_2 {l : List Ed} {h : Hs} (h1 : (validV l).2 = 0) (h2 : 32 < h.length) : validH l h = (0, 4) := by unfold validH; rw [if_neg (by simp [h1]), if_pos h2]
theorem validH_3 {l : List Ed} {h : Hs} (h1 : (validV l).2 = 0) (h2 : h.length ≤ 32) {i : Nat} (hi : i < h.length) (hb : ∀ j, j < i → badAt l h j = 0) (hc : badAt l h i ≠ 0) : validH l h = (i, badAt l h i) := by
  have : ((List.range h.length).find? fun i => decide (badAt l h i ≠ 0)) = some i := by
    rw [List.find?_eq_some_iff_getElem]
    exact ⟨by simpa using hc, i, by simpa using hi, by simp, fun j hj => by simpa using hb j hj⟩
  unfold validH
  rw [if_neg (by simp [h1]), if_neg (by omega), this]
theorem validH_4 {l : List Ed} {h : Hs} (h1 : (validV l).2 = 0) (h2 : h.length ≤ 32) (hb : ∀ j, j < h.length → badAt l h j = 0) : validH l h = (h.length, 0) := by
  have : ((List.range h.length).find? fun i => decide (badAt l h i ≠ 0)) = none := by
    rw [List.find?_eq_none]
    intro j hj
    simpa using hb j (List.mem_range.1 hj)
  unfold validH
  rw [if_neg (by simp [h1]), if_neg (by omega), this]
theorem badAt_get {l : List Ed} {h : Hs} {i : Nat} (hi : i < h.length) : badAt l h i = orderC l h[i] (cat (h.take i)) := by unfold badAt; simp [List.getD_eq_getElem?_getD, hi]
theorem horder_ok (l : List Ed) (c there : List Nm) (hc : c.length ≤ 1000000) (ht : there.length ≤ 1000000) : Ok Tryz.prog 70 [edsD l, nmsD c, nmsD there] ⟨.d (I64 (orderC l c there)), true⟩ := by
  refine Ok.ret Tryz.func70 (by kernel_rfl) (c := _) rfl Tryz.ntmps70 (by simp) Tryz.results70 (by intro _ h; cases h) fun w0 X hp => ?_
  refine LWp.seq ?_
  refine LWp.rz hT hW ?_
  simp
  refine LWp.seq ?_
  have hcat : cat [there, c] = there ++ c := by simp [cat]
  have hcc := ConcatNm_ok [there, c] (by simp) (by rw [hcat, List.length_append]; omega)
  rw [hcat] at hcc
  refine LWp.ro hT hW (fun | 12 => some <| .plain ⟨.d (nmsD (there ++ c)), true⟩ | _ => none) ?_
  simp
  refine ⟨⟨by decide, by simpa using hcc⟩, ?_⟩
  refine LWp.seq ?_
  refine LWp.rz hT hW ?_
  simp
  refine LWp.seq ?_
  refine LWp.block ?_
  refine LWp.seq ?_
  refine LWp.ro hT hW (fun | 20 => some <| .plain ⟨.d (.bool (incr Nm.less c)), true⟩ | _ => none) ?_
  simp
  refine ⟨fun _ => hrising_ok c hc, ?_⟩
  refine LWp.iff ?_
  simp
  refine ⟨fun h1 => ?_, fun g1 g2 => ?_⟩
  · refine LWp.seq ?_
    refine LWp.rz hT hW ?_
    simp
    refine LWp.ret ?_
    simp [orderC_1 (l := l) (there := there) (by simpa using h1)]
  · refine LWp.seq ?_
    obtain ⟨b5, hb5⟩ : ∃ b, b = (c.any fun n => decide (findI l n < 0)) := ⟨_, rfl⟩
    refine LWp.ro hT hW (fun | 26 => some <| .plain ⟨.d (.bool b5), true⟩ | _ => none) ?_
    simp
    refine ⟨by rw [hb5]; simpa [nmsD] using AnyNm_ok c (fun n => decide (findI l n < 0)) _ _ fun n _ => horder2_ok l n, ?_⟩
    refine LWp.iff ?_
    simp
    refine ⟨fun h5 => ?_, fun h5 => ?_⟩
    · refine LWp.seq ?_
      refine LWp.rz hT hW ?_
      simp
      refine LWp.ret ?_
      simp [orderC_6 (l := l) (there := there) (by simpa using ⟨g1, g2⟩) (by rw [← hb5]; exact h5)]
    · refine LWp.seq ?_
      obtain ⟨b7, hb7⟩ : ∃ b, b = (c.any fun n => decide (n ∈ there)) := ⟨_, rfl⟩
      refine LWp.ro hT hW (fun | 30 => some <| .plain ⟨.d (.bool b7), true⟩ | _ => none) ?_
      simp
      refine ⟨by rw [hb7]; simpa [nmsD] using AnyNm_ok c (fun n => decide (n ∈ there)) _ _ fun n _ => horder3_ok there n, ?_⟩
      refine LWp.iff ?_
      simp
      refine ⟨fun h7 => ?_, fun h7 => ?_⟩
      · refine LWp.seq ?_
        refine LWp.rz hT hW ?_
        simp
        refine LWp.ret ?_
        simp [orderC_7 (l := l) (there := there) (by simpa using ⟨g1, g2⟩) (by rw [← hb5]; exact h5) (by rw [← hb7]; exact h7)]
      · refine LWp.seq ?_
        obtain ⟨b9, hb9⟩ : ∃ b, b = (c.any fun n => !partB (needsOf l n) (there ++ c)) := ⟨_, rfl⟩
        refine LWp.ro hT hW (fun | 34 => some <| .plain ⟨.d (.bool b9), true⟩ | _ => none) ?_
        simp
        refine ⟨by rw [hb9]; simpa [nmsD] using AnyNm_ok c (fun n => !partB (needsOf l n) (there ++ c)) _ _ fun n hn => horder1_ok l (there ++ c) n (by have := hb5; rw [h5] at this; simpa using (List.any_eq_false.1 this.symm) n hn), ?_⟩
        refine LWp.iff ?_
        simp
        refine ⟨fun h9 => ?_, fun h9 => ?_⟩
        · refine LWp.seq ?_
          refine LWp.rz hT hW ?_
          simp
          refine LWp.ret ?_
          simp [orderC_10 (l := l) (there := there) (by simpa using ⟨g1, g2⟩) (by rw [← hb5]; exact h5) (by rw [← hb7]; exact h7) (by rw [← hb9]; exact h9)]
        · refine LWp.skip ?_
          simp
          refine LWp.seq ?_
          refine LWp.rz hT hW ?_
          simp
          refine LWp.ret ?_
          simp [orderC_0 (l := l) (there := there) (by simpa using ⟨g1, g2⟩) (by rw [← hb5]; exact h5) (by rw [← hb7]; exact h7) (by rw [← hb9]; exact h9)]
theorem hValid_ok (l : List Ed) (h : Hs) (hs : small l) (hn : (allNeeds l).length ≤ 1000000) (hl : h.length ≤ 1000000) (hf : (cat h).length ≤ 1000000) : Ok Tryz.prog 22 [edsD l, cmD h] ⟨.tup [.d (I64 (validH l h).1), .d (I64 (validH l h).2)], true⟩ := by
  refine Ok.two Tryz.func22 (by kernel_rfl) (c := _) rfl Tryz.ntmps22 (by simp) Tryz.results22 rfl fun w0 X hp => ?_
  refine LWp.seq ?_
  refine LWp.rz hT hW ?_
  simp
  refine LWp.seq ?_
  refine LWp.seq ?_
  refine LWp.ro hT hW (fun | 14 => some <| .plain ⟨.tup [.d (I64 (validV l).1), .d (I64 (validV l).2)], true⟩ | _ => none) ?_
  simp [evalExtract]
  refine ⟨EValid_ok l hs, ?_⟩
  refine LWp.seq ?_
  refine LWp.rz hT hW ?_
  simp
  refine LWp.iff ?_
  simp
  refine ⟨fun h2 => ?_, fun h2 => ?_⟩
  · refine LWp.seq ?_
    refine LWp.rz hT hW ?_
    simp
    refine LWp.ret ?_
    simp [validH_1 (h := h) h2]
  · refine LWp.skip ?_
    simp
    refine LWp.seq ?_
    refine LWp.seq ?_
    refine LWp.rz hT hW ?_
    simp [cmD]
    refine LWp.iff ?_
    simp
    refine ⟨fun h4 => ?_, fun h4 => ?_⟩
    · refine LWp.seq ?_
      refine LWp.rz hT hW ?_
      simp
      refine LWp.ret ?_
      simp [validH_2 (by simpa using h2) (show 32 < h.length by omega)]
    · refine LWp.skip ?_
      simp
      refine LWp.seq ?_
      refine LWp.rz hT hW ?_
      simp
      refine LWp.seq ?_
      refine LWp.seq ?_
      refine LWp.rz hT hW ?_
      simp
      refine LWp.block ?_
      refine LWp.loopW (ι := Nat) (fun i => mkEnv [(0, .d (edsD l)), (3, .bx 3 0), (8, .ow 8 0 (cat (h.take i)).length), (25, .d (.sl (h.map nmsD))), (26, .d (I64 h.length)), (27, .d (I64 i))]) (fun i => mkObs [(3, .box false [.d (.sl (h.map nmsD))]), (8, .row false 2 ((cat (h.take i)).map Nm.d))]) (fun i => i ≤ h.length ∧ ∀ j, j < i → badAt l h j = 0) (fun i => h.length - i) 0 (Weak.to [0, 3, 8, 25, 26, 27] [(3, 3), (8, 8)] (by decide) (by decide) (by simp [hp]) (by simp [cat_nil]) (by simp [cat_nil])) (⟨by omega, fun j hj => by omega⟩) fun i hi8 => ?_
      refine LWp.seq ?_
      refine LWp.rz hT hW ?_
      simp
      refine LWp.seq ?_
      refine LWp.iff ?_
      simp
      refine ⟨fun h8 => ?_, fun h8 => ?_⟩
      · refine LWp.skip ?_
        simp
        refine LWp.seq ?_
        refine LWp.block ?_
        refine LWp.seq ?_
        refine LWp.rz hT hW ?_
        simp [h8]
        refine LWp.seq ?_
        refine LWp.seq ?_
        have hf1 := cat_le h8
        have hf2 := cat_tot (h := h) (i + 1)
        refine LWp.ro hT hW (fun | 35 => some <| .plain ⟨.d (I64 (orderC l h[i] (cat (h.take i)))), true⟩ | _ => none) ?_
        simp
        refine ⟨by simpa using horder_ok l h[i] (cat (h.take i)) (by omega) (by omega), ?_⟩
        refine LWp.seq ?_
        refine LWp.rz hT hW ?_
        simp
        refine LWp.iff ?_
        simp
        refine ⟨fun h11 => ?_, fun h11 => ?_⟩
        · refine LWp.seq ?_
          refine LWp.rz hT hW ?_
          simp
          refine LWp.ret ?_
          rw [validH_3 (by simpa using h2) (by omega) h8 hi8.2 (by rw [badAt_get h8]; simpa using h11)]
          simp [badAt_get h8]
        · refine LWp.skip ?_
          simp
          refine LWp.rz hT hW ?_
          simp
          refine ⟨by omega, ?_⟩
          refine LWp.rz hT hW ?_
          simp
          refine ⟨by omega, ?_⟩
          refine loopQ.mk (i + 1) (Weak.to [0, 3, 8, 25, 26, 27] [(3, 3), (42, 8)] (by decide) (by decide) (by simp [hp]) (by simp [cat_le h8]) (by simp [cat_succ h8])) ?_ ?_
          · refine ⟨h8, fun j hj => ?_⟩
            rcases Nat.lt_or_ge j i with q | q
            · exact hi8.2 j q
            · rw [show j = i by omega, badAt_get h8]; simpa using h11
          · omega
      · refine LWp.exit ?_
        simp
        refine LWp.seq ?_
        refine LWp.rz hT hW ?_
        simp
        refine LWp.ret ?_
        have hi : i = h.length := by omega
        rw [validH_4 (by simpa using h2) (by omega) (hi ▸ hi8.2)]
        simp
end
open Go.Proofs
theorem part_one {L : List DV} (hs : ∀ y ∈ L, (cellsD y).length = 1) {n k : Nat} : (∀ y ∈ List.take n (List.drop k L), (cellsD y).length = 1) ↔ True := iff_true_intro fun y hy => hs y (mem_part hy)
theorem take_one {L : List DV} (hs : ∀ y ∈ L, (cellsD y).length = 1) {n : Nat} : (∀ y ∈ List.take n L, (cellsD y).length = 1) ↔ True := iff_true_intro fun y hy => hs y (List.mem_of_mem_take hy)
theorem all_one {L : List DV} (hs : ∀ y ∈ L, (cellsD y).length = 1) : (∀ y ∈ L, (cellsD y).length = 1) ↔ True := iff_true_intro hs
theorem delH {A B : List DV} {k : Nat} (hk : k < A.length) (z : DV) :
    List.take (A.length - 1) (List.take k (A ++ B) ++ (List.take (A.length - (k + 1)) (List.drop (k + 1) (A ++ B)) ++ List.drop (k + (A.length - (k + 1))) (A ++ B))) ++ z :: List.drop (A.length - 1 + 1) (List.take k (A ++ B) ++ (List.take (A.length - (k + 1)) (List.drop (k + 1) (A ++ B)) ++ List.drop (k + (A.length - (k + 1))) (A ++ B))) = A.eraseIdx k ++ z :: B := del_row rfl hk z
theorem insH {A B : List DV} {x z : DV} {i : Nat} (hi : i < A.length) :
    List.take i (List.take (i + 1) (A ++ z :: B) ++ (List.take (A.length - i) (List.drop i (A ++ z :: B)) ++ List.drop (i + 1 + (A.length - i)) (A ++ z :: B))) ++
      (x :: List.drop (i + 1) (List.take (i + 1) (A ++ z :: B) ++ (List.take (A.length - i) (List.drop i (A ++ z :: B)) ++ List.drop (i + 1 + (A.length - i)) (A ++ z :: B)))) = List.take i A ++ x :: (List.drop i A ++ B) := by
  have e0 : List.take (i + 1) (A ++ z :: B) = List.take (i + 1) A := by rw [List.take_append_of_le_length (by omega)]
  have e1 : List.take (A.length - i) (List.drop i (A ++ z :: B)) = List.drop i A := by rw [List.drop_append_of_le_length (by omega), List.take_append_of_le_length (by simp), List.take_of_length_le (by simp)]
  have e2 : List.drop (i + 1 + (A.length - i)) (A ++ z :: B) = B := by
    rw [show i + 1 + (A.length - i) = A.length + 1 by omega, List.drop_append]; simp
  rw [e0, e1, e2]
  have hl : (List.take (i + 1) A).length = i + 1 := by simp; omega
  rw [List.take_append_of_le_length (by omega), List.take_take, show min i (i + 1) = i by omega, List.drop_append_of_le_length (by omega), List.drop_of_length_le (by omega), List.nil_append]
theorem DeleteH_ok (A B : List DV) (k : Nat) (hk : k < A.length) (hA : A.length ≤ 1000000) (hB : A.length + B.length ≤ maxLen) (hs : ∀ y ∈ A ++ B, (cellsD y).length = 1) : OkG Tryz.prog 142 [.oc 0 0 A.length (A.length + B.length), .d (I64 k), .d (I64 (k + 1))] [(0, .row false 1 (A ++ B))] [(0, .row false 1 (A.eraseIdx k ++ .sl [] :: B))] (.oc 0 0 (A.length - 1) (A.length + B.length)) := by
  refine OkG.one Tryz.func142 (by kernel_rfl) (c := _) rfl Tryz.ntmps142 (by simp) Tryz.results142 fun w0 X hp => ?_
  refine LWp.seq ?_
  refine LWp.rz hT hW ?_
  simp
  refine LWp.seq ?_
  refine LWp.ro hT hW (fun | 13 => some .inp | _ => none) ?_
  simp
  refine ⟨by omega, ?_⟩
  refine LWp.seq ?_
  refine LWp.seq ?_
  refine LWp.rz hT hW ?_
  simp [(show ¬ ((k : Int) = (k : Int) + 1) by omega)]
  refine LWp.iff ?_
  simp
  refine LWp.skip ?_
  simp
  refine LWp.seq ?_
  refine LWp.rz hT hW ?_
  simp
  refine LWp.seq ?_
  refine LWp.regAny hT hW hMixed (lk [[],[],[0,1],[],[],[3,4],[0,1,2,3,4,5],[0,1,2,3,4,5,6]]) (lk [[],[],[],[],[],[],[],[]]) (lk [[],[],[],[],[],[],[0,26],[]]) (by kernel_rfl) (fun _ => none) (fun _ => ⟨rfl, fun _ h => h⟩) ?_
  simp [(show ((A.length : Int) - ((k : Int) + 1)).toNat = A.length - (k + 1) by omega), (show A.length - (k + 1) ≤ A.length + B.length - (k + 1) by omega), (show k + (A.length - (k + 1)) ≤ A.length + B.length by omega), part_one hs]
  refine ⟨by omega, ?_⟩
  refine LWp.seq ?_
  refine LWp.rz hT hW ?_
  simp [(show ((k : Int) + ((A.length - (k + 1) : Nat) : Int)).toNat = A.length - 1 by omega), (show ((A.length : Int) - ((k : Int) + ((A.length - (k + 1) : Nat) : Int))).toNat = 1 by omega)]
  refine ⟨by omega, ?_⟩
  refine LWp.seq ?_
  refine LWp.rz hT hW ?_
  simp
  refine LWp.ret ?_
  simp
  refine Weak.to [6] [(0, 0)] (by decide) (by decide) (by simp [hp]) ?_ ?_
  · simp [show k + (A.length - (k + 1)) = A.length - 1 by omega]
  · simp
    rw [delH hk]
theorem InsertH_ok (A B : List DV) (x z : DV) (i : Nat) (hi : i ≤ A.length) (hA : A.length ≤ 1000000) (hB : A.length + (B.length + 1) ≤ maxLen) (hs : ∀ y ∈ A ++ z :: B, (cellsD y).length = 1) (hx : (cellsD x).length = 1) : OkG Tryz.prog 141 [.oc 0 0 A.length (A.length + (B.length + 1)), .d (I64 i), .oc 2 0 1 1] [(0, .row false 1 (A ++ z :: B)), (2, .row false 1 [x])] [(0, .row false 1 (A.take i ++ x :: A.drop i ++ B)), (2, .row false 1 [x])] (.oc 0 0 (A.length + 1) (A.length + (B.length + 1))) := by
  refine OkG.one Tryz.func141 (by kernel_rfl) (c := _) rfl Tryz.ntmps141 (by simp) Tryz.results141 fun w0 X hp => ?_
  refine LWp.seq ?_
  refine LWp.rz hT hW ?_
  simp
  refine LWp.seq ?_
  refine LWp.rz hT hW ?_
  simp
  refine ⟨by omega, ?_⟩
  refine LWp.seq ?_
  refine LWp.rz hT hW ?_
  simp
  refine LWp.seq ?_
  refine LWp.seq ?_
  refine LWp.rz hT hW ?_
  simp
  refine LWp.iff ?_
  simp
  refine LWp.skip ?_
  simp
  refine LWp.seq ?_
  refine LWp.rz hT hW ?_
  simp
  refine LWp.seq ?_
  refine LWp.seq ?_
  refine LWp.rz hT hW ?_
  simp
  refine LWp.iff ?_
  simp
  refine ⟨fun h6 => ?_, fun h6 => ?_⟩
  · refine LWp.seq ?_
    refine LWp.rz hT hW ?_
    simp [hx]
    refine LWp.ret ?_
    have hi' : i = A.length := by omega
    simp
    refine Weak.to [6] [(0, 0), (2, 2)] (by decide) (by decide) (by simp [hp]) ?_ ?_
    · simp
    · simp [hi']
  · refine LWp.skip ?_
    simp
    refine LWp.seq ?_
    refine LWp.seq ?_
    refine LWp.rz hT hW ?_
    simp [(show ¬ ((A.length : Int) + ((B.length : Int) + 1) < (A.length : Int) + 1) by omega)]
    refine ⟨by omega, ?_⟩
    refine LWp.iff ?_
    simp
    refine LWp.skip ?_
    simp
    refine LWp.seq ?_
    refine LWp.rz hT hW ?_
    simp
    refine ⟨by omega, ?_⟩
    refine LWp.seq ?_
    refine LWp.seq ?_
    have hap : Apart Tryz.prog T 167 := ⟨_, 28, 4, 31, Tryz.func167, by kernel_rfl, by kernel_rfl, by kernel_rfl, by kernel_rfl, by simp, by simp⟩
    refine LWp.ro hT hW (fun | 67 => some .inp | _ => none) ?_
    simp
    refine ⟨⟨by omega, by omega, hap⟩, ?_⟩
    refine LWp.iff ?_
    simp
    refine LWp.seq ?_
    refine LWp.regAny hT hW hMixed (lk [[],[],[],[1,2],[0,1,2,3],[],[],[5,6],[0,1,2,3,4,5,6,7]]) (lk [[],[],[],[],[],[],[],[],[]]) (lk [[],[],[],[],[],[],[],[],[0]]) (by kernel_rfl) (fun _ => none) (fun _ => ⟨rfl, fun _ h => h⟩) ?_
    simp [part_one hs, (show ((A.length : Int) + 1 - ((i : Int) + 1)).toNat = A.length - i by omega), (show ((A.length : Int) + 1 - (i : Int)).toNat = A.length + 1 - i by omega), (show min (A.length + 1 - i) (A.length - i) = A.length - i by omega)]
    refine ⟨by omega, ?_⟩
    refine LWp.seq ?_
    refine LWp.rz hT hW ?_
    simp [hx, (show min 1 (A.length + 1 - i) = 1 by omega)]
    refine ⟨by omega, ?_⟩
    refine LWp.seq ?_
    refine LWp.rz hT hW ?_
    simp
    refine LWp.ret ?_
    simp
    refine Weak.to [6] [(0, 0), (2, 2)] (by decide) (by decide) (by simp [hp]) ?_ ?_
    · simp
    · have e1 : min (A.length - i) (A.length + (B.length + 1) - i) = A.length - i := by omega
      simp [e1, insH (x := x) (z := z) (B := B) (show i < A.length by omega)]
end Go.Eng
