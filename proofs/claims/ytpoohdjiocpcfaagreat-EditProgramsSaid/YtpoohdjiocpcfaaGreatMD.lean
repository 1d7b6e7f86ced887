/-
  Texts of the proofs of this seat, part 4. No condition.
-/
import Derived.Test.YtpoohdjiocpcfaaGreatMC
set_option linter.unusedVariables false
set_option linter.unusedSimpArgs false
/-
  maps.Keys over a map whose keys are strings, and slices.AppendSeq of it. No condition.
-/
namespace Go.Eng
open Go.RowKit Go.Maps Go.Sort Go.Shelf Go.Proofs
open Go.ChangeMaps (setBlock)

def keyS (x : Str) : Value := .string ⟨x.toArray⟩
def Str.enc (x : Str) : List Value := [keyS x]

set_option maxRecDepth 100000 in
set_option maxHeartbeats 2000000 in
/-- The iterator that maps.Keys hands back: the keys come, each once, in some order. -/
theorem keysStr_gives (F : Fence) (n : Nat) (hf : F.fn 142) (hro : F.round = none) (hn : 1 ≤ n) {Bm ob b clock : Nat} {es : Array MapEntry} (W : World) (hm' : W.cell? ⟨Bm, ob, none⟩ = some (.map (some b)))
    (hb' : W.heap[b]? = some (.map es clock)) (hborn : BornOk es clock) (key : MapEntry → Str) (hkey : ∀ e ∈ es.toList, e.key = keyS (key e)) (l : Nat) (J : List Str → World → Prop) (hJ : AbW W.heap.size J)
    (hY : ∀ pre x W1, J pre W1 → pre.length < es.size → YieldAt F (n - 1) Tryz.prog l #[keyS x] W1 fun e W' => e = .returned (.bool true) ∧ J (pre ++ [x]) W' ∧ KeepsWalks W1 W') (h0 : J [] W) :
    CallsIn F n Tryz.prog 142 #[.func (.yield l) #[] #[], .pointer (some ⟨Bm, ob, none⟩)] W fun e W' => (∃ v, e = .returned v) ∧ ∃ ss : List Str, ss.Perm (es.toList.map key) ∧ J ss W' := by
  have hbW : b < W.heap.size := (Array.getElem?_eq_some_iff.1 hb').1
  refine callsIn_of_wp Tryz.func142 rfl hf ?_ hro
  simp only [Tryz.ntmps142, List.size_toArray, List.length_cons, List.length_nil, Nat.reduceAdd, Nat.reduceSub, Array.replicate_succ, Array.replicate_zero, List.push_toArray, List.append_toArray, List.nil_append, List.cons_append]
  gi_wp2_with (first
    | (gi_at_range; refine wpListIn_range_map _ rfl _ _ rfl _ _ Tryz.underlying121 rfl hb' ?_)
    | gi_in)
  have hg0 : W.grownBy (W.alloc (.mapIter (some b) clock #[] clock)) none := World.grownBy_alloc W _ none
  have hr0 : (W.alloc (.mapIter (some b) clock #[] clock)).heap[W.heap.size]? = some (.mapIter (some b) clock #[] clock) := heap_alloc_new W _
  have hb0 : (W.alloc (.mapIter (some b) clock #[] clock)).heap[b]? = some (.map es clock) := (hg0.block b hbW (by simp)).trans hb'
  have hJ0 := hJ [] W _ none h0 hg0 (Nat.le_refl _) (fun r e => by cases e)
  generalize W.alloc (.mapIter (some b) clock #[] clock) = w0 at *
  try go_frame
  gi_loopw [3] (fun _ wr => ∃ (vs : List MapEntry) (seen : Array Nat) (c0 : Nat), wr.heap[W.heap.size]? = some (.mapIter (some b) clock seen c0) ∧ wr.heap[b]? = some (.map es clock) ∧ clock ≤ c0 ∧ Came es vs seen ∧ J (vs.map key) wr)
    (fun _ wr => toCome es.size W.heap.size wr)
  case atStart =>
    exact ⟨[], #[], clock, hr0, hb0, Nat.le_refl _, ⟨by simp, by simp, by simp⟩, hJ0⟩
  case round =>
    obtain ⟨vs, seen, c0, hr, hbr, hcc, hC, hJs⟩ := hrel
    gi_wp2_with (first
      | (gi_at_next; refine wpListIn_next_map _ rfl _ rfl (Nat.ne_of_gt hbW) rfl hr hbr hborn hcc (Nat.le_refl _) hC ?_ ?_)
      | gi_in)
    · intro hp
      gi_wp2
      go_end0
      exact ⟨⟨_, rfl⟩, vs.map key, hp.map key, hJs⟩
    · intro e w2 he hC2 hr2 hg2 hd2 hen
      have hJ2 : J (vs.map key) w2 := hJ _ wr w2 (some W.heap.size) hJs hg2 hd2 (fun r e => by cases e; exact ⟨Nat.le_refl _, _, hr, rfl⟩)
      have hb2 : w2.heap[b]? = some (.map es clock) := (hg2.block b (Array.getElem?_eq_some_iff.1 hbr).1 (fun e => by injection e with e; omega)).trans hbr
      have hsz := hC2.size hborn
      have hvs : seen.size = vs.length := by have := congrArg List.length hC.seen; simpa using this
      obtain ⟨fn, tmps, assign, body, hy, hR⟩ := hY (vs.map key) (key e) _ hJ2 (by simp at hsz ⊢; omega)
      rw [hkey e (by simpa using he)] at hen ⊢
      unfold keyS at hen hy ⊢
      gi_wp2
      refine hR.mono ?_
      rintro e' W3 ⟨rfl, hJ3, hk3⟩
      gi_wp2
      have hr4 := hk3.same _ _ hr2 rfl
      have hb4 := hk3.same _ _ hb2 rfl
      go_roundw
      case rel => exact ⟨vs ++ [e], seen.push e.born, clock, hr4, hb4, Nat.le_refl _, hC2, by simpa using hJ3⟩
      case measure => rw [toCome_eq hr4, toCome_eq hr]; simp at hsz ⊢; omega

/-- Between two rounds: the box holds what has come so far. -/
def AppS (b0 : Option Nat) (W0 : World) (l : List Str) (ss : List Str) (W : World) : Prop :=
  ∃ v gb, W.heap[W0.heap.size]? = some (.cells #[v] 59 (0, 0)) ∧ RowAt 1 b0 W0.heap.size W v (l.length + ss.length) ((l ++ ss).flatMap Str.enc) gb ∧ gb ≠ some W0.heap.size ∧ Still b0 W0 W ∧ Head0 (l.length * 1) b0 W0 W
theorem appS_abW (b0 : Option Nat) (W0 : World) (l : List Str) (hb0 : ∀ b, b0 = some b → b < W0.heap.size) : AbW (W0.heap.size + 1) (AppS b0 W0 l) := by
  rintro ss W W' row ⟨v, gb, h1, h2, h3, h4, h5⟩ hg hd hr
  have hrow : ∀ {k : Nat} {cur : Array Value} {e : TypeId}, W.heap[k]? = some (.cells cur e (0, 0)) → some k ≠ row := fun hk e => by
    obtain ⟨_, o, ho, hc⟩ := hr _ e.symm
    rw [hk] at ho; cases ho; cases hc
  refine ⟨v, gb, (hg.block _ (Array.getElem?_eq_some_iff.1 h1).1 (hrow h1)).trans h1, h2.kept hg ?_, h3, h4.step hg hd (fun r e => .inr (by have := (hr r e).1; omega)), h5.step hg ?_⟩
  rcases h2.lies with ⟨rfl, _⟩ | ⟨g, cap, cur, e, rfl, _, _, hb, _⟩
  · exact .inl rfl
  · exact .inr (hrow hb)
  · cases hb : b0 with
    | none => exact .inl rfl
    | some g => exact .inr fun e => by have := (hr g e.symm).1; have := hb0 g hb; omega

set_option maxRecDepth 100000 in
set_option maxHeartbeats 4000000 in
theorem appendSeqStr (W0 : World) (v0 : Value) (l : List Str) (b0 : Option Nat) (hrow : RowAt 1 b0 W0.heap.size W0 v0 l.length (l.flatMap Str.enc) b0) (hb0 : ∀ b, b0 = some b → b < W0.heap.size) {Bm ob b clock : Nat} {es : Array MapEntry} (hm : W0.cell? ⟨Bm, ob, none⟩ = some (.map (some b))) (hBm : some Bm ≠ b0)
    (hb : W0.heap[b]? = some (.map es clock)) (hbb : some b ≠ b0) (hborn : BornOk es clock) (key : MapEntry → Str) (hkey : ∀ e ∈ es.toList, e.key = keyS (key e)) (hN : (l.length + es.size) * 16 ≤ 140737488355328) :
    Calls Tryz.prog 183 #[v0, .func (.func 142) #[] #[.pointer (some ⟨Bm, ob, none⟩)]] W0 fun e W' =>
      ∃ v ss gb, e = .returned v ∧ List.Perm ss (es.toList.map key) ∧ RowAt 1 b0 W0.heap.size W' v (l.length + ss.length) ((l ++ ss).flatMap Str.enc) gb ∧ Still b0 W0 W' ∧ Head0 (l.length * 1) b0 W0 W' := by
  refine (callsIn_wide (n := 6)).1 ?_
  obtain ⟨ba, bn, bc, hv0⟩ : ∃ ba bn bc, v0 = .slice ba bn bc := by
    rcases hrow.lies with ⟨_, _, a, rfl⟩ | ⟨g, cap, cur, e, _, rfl, _⟩
    · exact ⟨_, _, _, rfl⟩
    · exact ⟨_, _, _, rfl⟩
  subst hv0
  have hBml : Bm < W0.heap.size := World.block_lt_of_cell? W0 _ hm
  have hbl : b < W0.heap.size := (Array.getElem?_eq_some_iff.1 hb).1
  refine callsIn_of_wp_marks Tryz.func183 rfl trivial ?_ rfl
  simp only [Tryz.ntmps183, List.size_toArray, List.length_cons, List.length_nil, Nat.reduceAdd, Nat.reduceSub, Array.replicate_succ, Array.replicate_zero, List.push_toArray, List.append_toArray, List.nil_append, List.cons_append]
  gi_wp2
  obtain ⟨W1, hW1⟩ : ∃ W1, W0.alloc (.cells #[.slice ba bn bc] 59) = W1 := ⟨_, rfl⟩
  have hs1 : W1.heap.size = W0.heap.size + 1 := by rw [← hW1]; simp
  have hg1 : W0.grownBy W1 none := by rw [← hW1]; exact World.grownBy_alloc W0 _ none
  have hd1 : W0.drawn ≤ W1.drawn := by rw [← hW1]; exact Nat.le_refl _
  have hv1 : W1.heap[W0.heap.size]? = some (.cells #[.slice ba bn bc] 59 (0, 0)) := by rw [← hW1]; exact heap_alloc_new W0 _
  rw [hW1]
  clear hW1
  refine wpIn_rangeFunc_gives (enc := keyS) (N := es.size) (S := fun ss => List.Perm ss (es.toList.map key)) rfl (by omega) rfl trivial (enters_of Tryz.func142 (by kernel_rfl) rfl) (AppS b0 W0 l) (by rw [hs1]; exact appS_abW b0 W0 l hb0)
    ⟨.slice ba bn bc, b0, hv1, by simpa using hrow.kept hg1 (by cases b0 <;> simp), fun e => by have := hb0 _ e; omega, (Still.refl b0 W0).step hg1 hd1 (fun r e => by cases e), (Head0.refl _ b0 W0).step hg1 (by cases b0 <;> simp)⟩ ?_
    (fun x a' W => a' = ⟨#[.slice ba bn bc, .func (.func 142) #[] #[.pointer (some ⟨Bm, ob, none⟩)], .pointer (some ⟨W0.heap.size, 0, none⟩), undef, .slice none 0 0, .string ⟨x.toArray⟩, .func (.func 142) #[] #[.pointer (some ⟨Bm, ob, none⟩)], keyS x, undef, undef, undef, undef, undef], []⟩) ?_ ?_ ?_ ?_
  · intro l' J W2 hI hsz hJ hY hJ0
    obtain ⟨v, gb, q1, q2, q3, q4, q6⟩ := hI
    exact keysStr_gives _ 5 trivial rfl (by omega) W2 ((World.cell?_of_block (q4.block Bm hBml hBm)).trans hm) ((q4.block b hbl hbb).trans hb) hborn key hkey l' J hJ hY hJ0
  · exact fun x a' s W W' row h _ _ _ => h
  · intro l' pre x W K hI hK
    change Code.wpIn (Fence.wide.inRound l') (6 - 1 - 1) Tryz.prog _ _ ⟨#[.slice ba bn bc, .func (.func 142) #[] #[.pointer (some ⟨Bm, ob, none⟩)], .pointer (some ⟨W0.heap.size, 0, none⟩), undef, .slice none 0 0, undef, .func (.func 142) #[] #[.pointer (some ⟨Bm, ob, none⟩)], keyS x, undef, undef, undef, undef, undef], []⟩ W
    have hK' := hK _ W ⟨rfl, rfl, rfl, Nat.le_refl _, fun _ _ _ => rfl⟩ (Nat.le_refl _) rfl
    clear hK
    unfold keyS at hK' ⊢
    gi_wp2_with gi_round_op_a
    exact hK'
  · rintro l' pre x a' W ⟨v, gb, q1, q2, q3, q4, q6⟩ rfl hlen
    obtain ⟨hc1, hf1⟩ := cell_of_box_a q1
    obtain ⟨inf, d, z, i1, i2, i3, i4, i5, i6, i7⟩ := hT.parts (t := 9) (by simp [TK.isNone])
    simp at i4 i5 i7
    obtain ⟨va, vn, vc, hv⟩ : ∃ va vn vc, v = .slice va vn vc := by
      rcases q2.lies with ⟨_, _, a, rfl⟩ | ⟨g, cap, cur, e, _, rfl, _⟩
      · exact ⟨_, _, _, rfl⟩
      · exact ⟨_, _, _, rfl⟩
    subst hv
    have hWs : W0.heap.size < W.heap.size := (Array.getElem?_eq_some_iff.1 q1).1
    have q5 : RowAt 1 b0 W0.heap.size (W.alloc (.cells #[.string ⟨x.toArray⟩] 9)) (.slice va vn vc) (l.length + pre.length) ((l ++ pre).flatMap Str.enc) gb := q2.kept (World.grownBy_alloc W _ none) (by cases gb <;> simp)
    have hnew : ∀ (j : Nat) (u : Value), [Value.string ⟨x.toArray⟩][j]? = some u → (W.alloc (.cells #[.string ⟨x.toArray⟩] 9)).cell? ⟨W.heap.size, j, none⟩ = some u := fun j u hj => by
      have := heap_alloc_new W (.cells #[.string ⟨x.toArray⟩] 9)
      simp only [World.cell?, this]
      simpa using hj
    gi_wp2_with (first
      | (gi_at_builtin; refine wpListIn_append_row _ rfl _ _ 59 rfl Tryz.underlying59 i1 i6 i4 (by rw [← Array.length_toList, i7]; rfl) (by decide) rfl q5 (by simp; omega) rfl (news := [.string ⟨x.toArray⟩]) rfl (by simp [Value.oneCell']) hnew (by rw [i5]; omega) (by omega) ?_; intro v' W3 g' r1 r2 r3 r4 r5
         have hv3 : W3.heap[W0.heap.size]? = some (.cells #[.slice va vn vc] 59 (0, 0)) := (r2.block _ (by simp; omega) (fun e => q3 e.symm)).trans ((heap_alloc_old W _ hWs).trans q1)
         obtain ⟨hc3, hf3⟩ := cell_of_box_a hv3
         obtain ⟨cap', cur', e', rfl, s2, s3, s4, s5, s6, s7⟩ : ∃ cap' cur' e', v' = .slice (some ⟨g', 0, none⟩) (l.length + pre.length + 1) cap' ∧ (b0 = some g' ∨ W0.heap.size ≤ g') ∧ W3.heap[g']? = some (.cells cur' e' (0, 0)) ∧ l.length + pre.length + 1 ≤ cap' ∧ cap' ≤ maxLen ∧ cap' * 1 = cur'.size ∧ cur'.toList.take ((l.length + pre.length + 1) * 1) = (l ++ pre).flatMap Str.enc ++ [.string ⟨x.toArray⟩] := by
           rcases r1.lies with ⟨h, _⟩ | ⟨g, cap, cur, e, h, h1, h2, h3, h4, h5, h6, h7⟩
           · cases h
           · injection h with h; subst h; exact ⟨cap, cur, e, h1, h2, h3, h4, h5, h6, h7⟩
         go_frame)
      | gi_round_op_a)
    have hg0 : W.grownBy (W.alloc (.cells #[.string ⟨x.toArray⟩] 9)) none := World.grownBy_alloc W _ none
    have hd0 : W.drawn ≤ (W.alloc (.cells #[.string ⟨x.toArray⟩] 9)).drawn := Nat.le_refl _
    have hgb : ∀ r, gb = some r → (b0 = some r ∨ W0.heap.size ≤ r) ∧ ∃ cur e, W.heap[r]? = some (.cells cur e (0, 0)) := fun r e => by
      rcases q2.lies with ⟨h, _⟩ | ⟨g, cap, cur, e', h, _, h2, h3, _⟩
      · rw [h] at e; cases e
      · rw [h] at e; injection e with e; subst e; exact ⟨h2, cur, e', h3⟩
    have hgne : g' ≠ W0.heap.size := by
      rcases r4 with h | h
      · exact fun e => q3 (by rw [h, e])
      · rw [h]; simp; omega
    generalize W.alloc (.cells #[.string ⟨x.toArray⟩] 9) = W2 at *
    have hg4 : W3.grownBy (W3.setCell ⟨W0.heap.size, 0, none⟩ (.slice (some ⟨g', 0, none⟩) (l.length + pre.length + 1) cap')) (some W0.heap.size) := grownBy_setCell0_a _ _ _
    refine ⟨⟨Nat.le_trans hg0.size (Nat.le_trans r2.size hg4.size), fun k o hk ho hcell => ?_⟩, ((KeepsWalks.of_grownBy hg0 (fun j o e => by cases e)).trans (KeepsWalks.of_grownBy r2 (fun j o e ho => ?_))).trans (KeepsWalks.setCell _ _ _),
      .slice (some ⟨g', 0, none⟩) (l.length + pre.length + 1) cap', some g', heap_setCell_box_a _ hv3, ?_, fun e => hgne (by injection e), ((q4.step hg0 hd0 (fun r e => by cases e)).step r2 r3 (fun r e => (hgb r e).1)).step hg4 (Nat.le_refl _) (fun r e => .inr (by injection e with e; omega)), ((q6.step hg0 (by cases b0 <;> simp)).write (by rw [Nat.add_mul]; omega) r2 r5).step hg4 ?_⟩
    · have h2 := (hg0.block k (Array.getElem?_eq_some_iff.1 ho).1 (by simp)).trans ho
      have h3 := (r2.block k (Array.getElem?_eq_some_iff.1 h2).1 (fun e => by
        obtain ⟨_, cur, e', h⟩ := hgb k e.symm
        rw [ho] at h; cases h; cases hcell)).trans h2
      exact (hg4.block k (Array.getElem?_eq_some_iff.1 h3).1 (fun e => by injection e with e; omega)).trans h3
    · obtain ⟨_, cur, e', h⟩ := hgb j e
      have h2 := (hg0.block j (Array.getElem?_eq_some_iff.1 h).1 (by simp)).trans h
      rw [ho] at h2; cases h2; rfl
    · have := r1.kept hg4 (.inr (fun e => hgne (by injection e)))
      simpa [Str.enc, keyS, Nat.add_assoc] using this
    · cases hb : b0 with
      | none => exact .inl rfl
      | some g => exact .inr fun e => by injection e with e; have := hb0 g hb; omega
  · rintro D xs W hD hS ⟨v, gb, q1, q2, q3, q4, q6⟩ hdef
    obtain ⟨hc1, hf1⟩ := cell_of_box_a q1
    gi_wp2
    refine ⟨by simp, .inl ⟨_, _, rfl, run_takeDeferred hdef, ?_⟩⟩
    refine ⟨_, results_tmp rfl _ _ _, v, xs, gb, rfl, hS, q2.kept (grownBy_putObj_a _ _ _) ?_, q4.step (grownBy_putObj_a _ _ _) (Nat.le_refl _) (fun r e => .inr (by injection e with e; omega)), q6.step (grownBy_putObj_a _ _ _) ?_⟩
    rcases q2.lies with ⟨h, _⟩ | ⟨g, cap, cur, e', h, _, h2, h3, _⟩
    · exact .inl h
    · refine .inr fun e => ?_
      rw [h] at e; injection e with e; subst e
      rw [hdef] at h3; cases h3
    · cases hb : b0 with
      | none => exact .inl rfl
      | some g => exact .inr fun e => by injection e with e; have := hb0 g hb; omega
end Go.Eng

/-
  Chapter 22, plain: lists without doubles; the sorted list of a set. No condition.
-/
namespace Go.Eng

/-- What slices.Compact leaves: neighbours that are equal, once. -/
def dedup {α : Type} [DecidableEq α] : List α → List α
  | a :: b :: r => if a = b then dedup (b :: r) else a :: dedup (b :: r)
  | l => l
theorem dedup_snoc {α : Type} [DecidableEq α] : ∀ (l : List α) (x : α) (h : l ≠ []), dedup (l ++ [x]) = if l.getLast h = x then dedup l else dedup l ++ [x]
  | [a], x, _ => by
    simp only [List.cons_append, List.nil_append, dedup, List.getLast_singleton]
    split <;> rename_i e <;> simp [e]
  | a :: b :: r, x, _ => by
    have ih := dedup_snoc (b :: r) x (by simp)
    have hl : (a :: b :: r).getLast (by simp) = (b :: r).getLast (by simp) := by simp
    rw [hl]
    simp only [List.cons_append] at ih ⊢
    simp only [dedup]
    rw [ih]
    by_cases h1 : a = b
    · simp only [if_pos h1]
    · simp only [if_neg h1]
      split <;> rfl
theorem take_last {α : Type} {l : List α} {p : Nat} (h0 : 0 < p) (hp : p ≤ l.length) (hne : l.take p ≠ []) : (l.take p).getLast hne = l[p - 1] := by
  rw [List.getLast_eq_getElem]
  simp [Nat.min_eq_left hp]
theorem dedup_take {α : Type} [DecidableEq α] {l : List α} {p : Nat} (h0 : 0 < p) (hp : p < l.length) : dedup (l.take (p + 1)) = if l[p - 1] = l[p] then dedup (l.take p) else dedup (l.take p) ++ [l[p]] := by
  have hne : l.take p ≠ [] := fun e => by have := congrArg List.length e; rw [List.length_take, List.length_nil] at this; omega
  have h1 : l.take (p + 1) = l.take p ++ [l[p]] := by simp
  rw [h1, dedup_snoc _ _ hne, take_last h0 (by omega)]
theorem dedup_length {α : Type} [DecidableEq α] : ∀ l : List α, (dedup l).length ≤ l.length
  | a :: b :: r => by
    have := dedup_length (b :: r)
    simp only [dedup]
    split
    · simp at *; omega
    · simp at *; omega
  | [] => Nat.le_refl _
  | [_] => Nat.le_refl _
theorem mem_dedup {α : Type} [DecidableEq α] {x : α} : ∀ l : List α, x ∈ dedup l ↔ x ∈ l
  | a :: b :: r => by
    have := mem_dedup (x := x) (b :: r)
    simp only [dedup]
    split
    · rename_i e
      rw [this]; subst e; simp
    · rw [List.mem_cons, this]; simp
  | [] => Iff.rfl
  | [_] => Iff.rfl

/-- Strictly increasing by a strict total order. -/
def Rising {α : Type} (lt : α → α → Bool) (l : List α) : Prop := l.Pairwise fun a b => lt a b = true
structure STO {α : Type} (lt : α → α → Bool) : Prop where
  irrefl : ∀ a, lt a a = false
  trans : ∀ a b c, lt a b = true → lt b c = true → lt a c = true
  total : ∀ a b, lt a b = false → lt b a = false → a = b
theorem STO.asym {α : Type} {lt : α → α → Bool} (O : STO lt) {a b : α} (h : lt a b = true) : lt b a = false := by
  cases q : lt b a with
  | false => rfl
  | true => have := O.trans a b a h q; rw [O.irrefl] at this; cases this
/-- Two rising lists with the same members are the same. -/
theorem rising_eq {α : Type} {lt : α → α → Bool} (O : STO lt) : ∀ {l m : List α}, Rising lt l → Rising lt m → (∀ x, x ∈ l ↔ x ∈ m) → l = m
  | [], [], _, _, _ => rfl
  | [], b :: m, _, _, h => by have := (h b).2 (by simp); cases this
  | a :: l, [], _, _, h => by have := (h a).1 (by simp); cases this
  | a :: l, b :: m, hl, hm, h => by
    have hl' := List.pairwise_cons.1 hl
    have hm' := List.pairwise_cons.1 hm
    have hab : a = b := by
      have h1 := (h a).1 (by simp)
      have h2 := (h b).2 (by simp)
      rcases List.mem_cons.1 h1 with h1 | h1
      · exact h1
      · rcases List.mem_cons.1 h2 with h2 | h2
        · exact h2.symm
        · have := O.asym (hl'.1 b h2)
          rw [hm'.1 a h1] at this; cases this
    subst hab
    rw [rising_eq O hl'.2 hm'.2 fun x => ?_]
    constructor
    · intro hx
      rcases List.mem_cons.1 ((h x).1 (by simp [hx])) with e | h'
      · subst e; have := hl'.1 x hx; rw [O.irrefl] at this; cases this
      · exact h'
    · intro hx
      rcases List.mem_cons.1 ((h x).2 (by simp [hx])) with e | h'
      · subst e; have := hm'.1 x hx; rw [O.irrefl] at this; cases this
      · exact h'
theorem dedup_rising {α : Type} [DecidableEq α] {lt : α → α → Bool} (O : STO lt) : ∀ {l : List α}, l.Pairwise (fun a b => lt b a = false) → Rising lt (dedup l)
  | [], _ => .nil
  | [_], _ => List.pairwise_singleton _ _
  | a :: b :: r, h => by
    have h' := List.pairwise_cons.1 h
    have ih := dedup_rising O h'.2
    simp only [dedup]
    split
    · exact ih
    · rename_i hne
      refine List.pairwise_cons.2 ⟨fun x hx => ?_, ih⟩
      have hx := (mem_dedup _).1 hx
      have h1 := h'.1 b (by simp)
      have hab : lt a b = true := by
        cases q : lt a b with
        | true => rfl
        | false => exact absurd (O.total a b q h1) hne
      rcases List.mem_cons.1 hx with rfl | hx
      · exact hab
      · have h2 := (List.pairwise_cons.1 h'.2).1 x hx
        cases q : lt b x with
        | true => exact O.trans _ _ _ hab q
        | false => have := O.total b x q h2; subst this; exact hab

theorem Nm.sto : STO Nm.less := by
  refine ⟨fun a => ?_, fun a b c h1 h2 => ?_, fun a b h1 h2 => ?_⟩
  · simp [Nm.less]
  · simp [Nm.less] at *; omega
  · cases a; cases b; simp [Nm.less] at *; omega

theorem mem_insAt {α : Type} {k : Nat} {x y : α} {out : List α} : y ∈ insAt k x out ↔ y = x ∨ y ∈ out := by
  unfold insAt
  rw [List.mem_append, List.mem_cons]
  conv => rhs; rw [← List.take_append_drop k out, List.mem_append]
  constructor
  · rintro (h | h | h) <;> simp [h]
  · rintro (h | h | h) <;> simp [h]
theorem rpos_spec {α : Type} {p : α → Bool} {out : List α} : ∀ k, k ≤ out.length → (∀ i (h : i < out.length), rpos p out k ≤ i → i < k → p out[i] = true) ∧ (∀ i (h : i < out.length), rpos p out k = i + 1 → p out[i] = false)
  | 0, _ => ⟨fun i _ _ h => by omega, fun i _ h => by simp [rpos] at h⟩
  | k + 1, hk => by
    have hlt : k < out.length := by omega
    obtain ⟨h1, h2⟩ := rpos_spec k (by omega) (p := p) (out := out)
    cases q : p out[k] with
    | true =>
      rw [rpos_go hlt q]
      refine ⟨fun i hi hle hik => ?_, h2⟩
      by_cases e : i = k
      · subst e; exact q
      · exact h1 i hi hle (by omega)
    | false =>
      have : rpos p out (k + 1) = k + 1 := rpos_stop fun i e hi => by
        have : i = k := by omega
        subst this; exact q
      rw [this]
      exact ⟨fun i _ h1 h2 => by omega, fun i hi e => by
        have : i = k := by omega
        subst this; exact q⟩
/-- One more, put in its place. -/
theorem ins_rising {α : Type} {lt : α → α → Bool} (O : STO lt) {out : List α} {x : α} (h : Rising lt out) (hx : x ∉ out) : Rising lt (insAt (rpos (fun y => lt x y) out out.length) x out) := by
  obtain ⟨h1, h2⟩ := rpos_spec (p := fun y => lt x y) (out := out) out.length (Nat.le_refl _)
  have hle := rpos_le (p := fun y => lt x y) (out := out) out.length
  generalize rpos (fun y => lt x y) out out.length = k at *
  have hout := List.pairwise_iff_getElem.1 h
  have below : ∀ i (hi : i < out.length), i < k → lt out[i] x = true := by
    intro i hi hik
    have hk1 : k - 1 < out.length := by omega
    have := h2 (k - 1) hk1 (by omega)
    have hlast : lt out[k - 1] x = true := by
      cases q : lt out[k - 1] x with
      | true => rfl
      | false => exact absurd (O.total _ _ this q) (fun e => hx (e ▸ List.getElem_mem hk1))
    by_cases e : i = k - 1
    · subst e; exact hlast
    · exact O.trans _ _ _ (hout i (k - 1) hi hk1 (by omega)) hlast
  unfold insAt
  refine List.pairwise_append.2 ⟨h.sublist (List.take_sublist _ _), List.pairwise_cons.2 ⟨fun y hy => ?_, h.sublist (List.drop_sublist _ _)⟩, fun y hy z hz => ?_⟩
  · obtain ⟨i, hi, rfl⟩ := List.getElem_of_mem hy
    simp at hi
    simp only [List.getElem_drop]
    exact h1 (k + i) (by omega) (by omega) (by omega)
  · obtain ⟨i, hi, rfl⟩ := List.getElem_of_mem hy
    simp at hi
    simp only [List.getElem_take]
    rcases List.mem_cons.1 hz with rfl | hz
    · exact below i (by omega) (by omega)
    · obtain ⟨j, hj, rfl⟩ := List.getElem_of_mem hz
      simp at hj
      simp only [List.getElem_drop]
      exact hout i (k + j) (by omega) (by omega) (by omega)

theorem sortN_spec (l : List Nm) : Rising Nm.less (sortN l) ∧ ∀ x, x ∈ sortN l ↔ x ∈ l := by
  unfold sortN
  have key : ∀ (l out : List Nm), Rising Nm.less out → Rising Nm.less (l.foldl sortStep out) ∧ ∀ x, x ∈ l.foldl sortStep out ↔ x ∈ out ∨ x ∈ l := by
    intro l
    induction l with
    | nil => intro out h; exact ⟨h, fun x => by simp⟩
    | cons a l ih =>
      intro out h
      simp only [List.foldl_cons]
      rw [show sortStep out a = if a ∈ out then out else insAt (rpos (fun y => a.less y) out out.length) a out from rfl]
      by_cases ha : a ∈ out
      · rw [if_pos ha]
        obtain ⟨h1, h2⟩ := ih out h
        refine ⟨h1, fun x => ?_⟩
        rw [h2 x, List.mem_cons]
        constructor
        · rintro (h | h) <;> simp [h]
        · rintro (h | rfl | h)
          · exact .inl h
          · exact .inl ha
          · exact .inr h
      · rw [if_neg ha]
        obtain ⟨h1, h2⟩ := ih _ (ins_rising Nm.sto h ha)
        refine ⟨h1, fun x => ?_⟩
        rw [h2 x, mem_insAt, List.mem_cons]
        constructor
        · rintro ((rfl | h) | h) <;> simp [*]
        · rintro (h | rfl | h) <;> simp [*]
  obtain ⟨h1, h2⟩ := key l [] .nil
  exact ⟨h1, fun x => by rw [h2 x]; simp⟩
/-- The sorted list, doubles taken out, is the sorted list of the set. -/
theorem dedup_sorted {l s : List Nm} (hm : ∀ x, x ∈ s ↔ x ∈ l) (hs : s.Pairwise (fun a b => Nm.less b a = false)) : dedup s = sortN l := by
  obtain ⟨h1, h2⟩ := sortN_spec l
  exact rising_eq Nm.sto (dedup_rising Nm.sto hs) h1 fun x => by rw [mem_dedup, hm, h2]
def closedAt (l : List Ed) (set : List Nm) (n : Nm) : Bool := !(decide (findI l n < 0)) && (needsOf l n).all fun m => decide (m ∈ set)
/-- All needs of the names of a set are in it, and its names are names of edits. -/
def closedB (l : List Ed) (set : List Nm) : Bool := set.all (closedAt l set)
theorem closedB_false {l : List Ed} {set : List Nm} {i : Nat} (h : i < set.length) (e : closedAt l set set[i] = false) : closedB l set = false := List.all_eq_false.2 ⟨_, List.getElem_mem h, by simp [e]⟩
theorem closedB_true {l : List Ed} {set : List Nm} {i : Nat} (hi : Pre (fun n => !closedAt l set n) set i) (h : set.length ≤ i) : closedB l set = true := List.all_eq_true.2 fun x hx => by
  have := List.any_eq_false.1 (hi.any h) x hx
  simpa using this


end Go.Eng

/-
  Chapter 22, plain: the order of a closed set. No condition.
-/
namespace Go.Eng

def Acyc (l : List Ed) : Prop := ∀ n, ¬ Reach l n n
def readyN (l : List Ed) (out : List Nm) (n : Nm) : Bool := (needsOf l n).all fun m => decide (m ∈ out)
def orderF (l : List Ed) : Nat → List Nm → List Nm → List Nm
  | 0, _, out => out
  | f + 1, rest, out => match rest.findIdx? (readyN l out) with
    | some k => orderF l f (rest.eraseIdx k) (out ++ [rest.getD k default])
    | none => out
def orderN (l : List Ed) (set : List Nm) : List Nm := orderF l (sortN set).length (sortN set) []
theorem orderF_succ {l : List Ed} {f : Nat} {rest out : List Nm} {k : Nat} (h : rest.findIdx? (readyN l out) = some k) (hk : k < rest.length) : orderF l (f + 1) rest out = orderF l f (rest.eraseIdx k) (out ++ [rest[k]]) := by
  simp only [orderF, h]
  simp [hk]

def dep (l : List Ed) (n : Nm) : Nat := ((allNeeds l).filter fun x => decide (x ∈ aboveL l n)).length
theorem dep_lt {l : List Ed} {n m : Nm} (h : m ∈ needsOf l n) (ha : ¬ Reach l m m) : dep l m < dep l n :=
  filter_lt (m := m) (fun x hx => by simp [mem_aboveL] at hx ⊢; exact .next h hx) (needs_all h) (by simp [mem_aboveL]; exact .one h) (by simp [mem_aboveL, ha])
theorem ready_ex {l : List Ed} (ha : Acyc l) {rest out : List Nm} (hc : ∀ n ∈ rest, ∀ m ∈ needsOf l n, m ∈ rest ∨ m ∈ out) : ∀ (d : Nat) (n : Nm), n ∈ rest → dep l n < d → ∃ x ∈ rest, readyN l out x = true
  | 0, _, _, h => absurd h (Nat.not_lt_zero _)
  | d + 1, n, hn, hd => by
    cases q : readyN l out n with
    | true => exact ⟨n, hn, q⟩
    | false =>
      unfold readyN at q
      obtain ⟨m, hm, hmo⟩ := List.all_eq_false.1 q
      have hmo : m ∉ out := by simpa using hmo
      have hmr : m ∈ rest := (hc n hn m hm).resolve_right hmo
      exact ready_ex ha hc d m hmr (by have := dep_lt hm (ha m); omega)
theorem ready_at {l : List Ed} (ha : Acyc l) {rest out : List Nm} (hc : ∀ n ∈ rest, ∀ m ∈ needsOf l n, m ∈ rest ∨ m ∈ out) (h0 : 0 < rest.length) : ∃ k, rest.findIdx? (readyN l out) = some k ∧ k < rest.length := by
  obtain ⟨x, hx, hr⟩ := ready_ex ha hc (dep l (rest[0]) + 1) rest[0] (List.getElem_mem h0) (Nat.lt_succ_self _)
  cases q : rest.findIdx? (readyN l out) with
  | none => rw [List.findIdx?_eq_none_iff] at q; have := q x hx; rw [hr] at this; cases this
  | some k => exact ⟨k, rfl, (List.findIdx?_eq_some_iff_getElem.1 q).1⟩
/-- What is left stays closed. -/
theorem closed_step {l : List Ed} {rest out : List Nm} (hc : ∀ n ∈ rest, ∀ m ∈ needsOf l n, m ∈ rest ∨ m ∈ out) {k : Nat} (hk : k < rest.length) :
    ∀ n ∈ rest.eraseIdx k, ∀ m ∈ needsOf l n, m ∈ rest.eraseIdx k ∨ m ∈ out ++ [rest[k]] := by
  intro n hn m hm
  have hn' : n ∈ rest := List.mem_of_mem_eraseIdx hn
  rcases hc n hn' m hm with h | h
  · by_cases e : m = rest[k]
    · exact .inr (by simp [e])
    · refine .inl (List.mem_eraseIdx_iff_getElem.2 ?_)
      obtain ⟨i, hi, rfl⟩ := List.getElem_of_mem h
      exact ⟨i, hi, fun e' => e (by subst e'; rfl), rfl⟩
  · exact .inr (by simp [h])

theorem validFrom_ok {l : List Ed} : ∀ (r : List Ed) (i : Nat), (validFrom l r i).2 = 0 → ∀ (j : Nat) (h : j < r.length), errE l (i + j) r[j] = 0
  | [], _, _, j, h => absurd h (Nat.not_lt_zero _)
  | e :: r, i, hv, j, h => by
    simp only [validFrom] at hv
    split at hv
    · rename_i he
      cases j with
      | zero => simpa using he
      | succ j => have := validFrom_ok r (i + 1) hv j (by simpa using h); simpa [Nat.add_assoc, Nat.add_comm 1] using this
    · rename_i he; exact absurd hv he
theorem valid_err {l : List Ed} (h : (validV l).2 = 0) : l.length ≤ 64 ∧ ∀ (j : Nat) (hj : j < l.length), errE l j l[j] = 0 := by
  unfold validV at h
  split at h
  · cases h
  · rename_i hl
    exact ⟨by omega, fun j hj => by have := validFrom_ok l 0 h j hj; simpa using this⟩
theorem errE_zero {l : List Ed} {i : Nat} {e : Ed} (h : errE l i e = 0) : properE e = true ∧ (i : Int) ≤ findI l e.name ∧ (∀ n ∈ e.needs, 0 ≤ findI l n) ∧ e.name ∉ aboveL l e.name := by
  unfold errE at h
  split at h
  · cases h
  · rename_i h1
    split at h
    · cases h
    · rename_i h2
      split at h
      · cases h
      · rename_i h3
        split at h
        · cases h
        · rename_i h4
          refine ⟨by simpa using h1, by omega, fun n hn => ?_, h4⟩
          have := List.any_eq_false.1 (by simpa using h3 : (e.needs.any fun n => decide (findI l n < 0)) = false) n hn
          simp at this; exact this
theorem find_at {l : List Ed} {n : Nm} {i : Nat} (h : find? l n = some i) : ∃ hi : i < l.length, l[i].name = n ∧ needsOf l n = l[i].needs := by
  unfold find? at h
  obtain ⟨hi, h1, _⟩ := List.findIdx?_eq_some_iff_getElem.1 h
  refine ⟨hi, by simpa using h1, ?_⟩
  unfold needsOf find?
  rw [h]
  simp [hi]
theorem valid_acyc {l : List Ed} (h : (validV l).2 = 0) : Acyc l := by
  obtain ⟨_, he⟩ := valid_err h
  intro n hr
  have hne : needsOf l n ≠ [] := by
    cases hr with
    | one h => exact List.ne_nil_of_mem h
    | next h _ => exact List.ne_nil_of_mem h
  cases q : find? l n with
  | none => exact hne (by unfold needsOf; rw [q])
  | some i =>
    obtain ⟨hi, e1, _⟩ := find_at q
    have := (errE_zero (he i hi)).2.2.2
    rw [e1] at this
    exact this (mem_aboveL.2 hr)
def orderV (l : List Ed) (set : List Nm) : List Nm × Int := if (validV l).2 ≠ 0 then ([], (validV l).2) else if closedB l set = false then ([], 10) else (orderN l set, 0)

/-- The least closed set with some names; 6: there is none. -/
def closureV (l : List Ed) (set : List Nm) : List Nm × Int := if closedB l (set ++ set.flatMap (aboveL l)) = false then ([], 6) else (sortN (set ++ set.flatMap (aboveL l)), 0)
theorem closedB_mem {l : List Ed} {a b : List Nm} (h : ∀ x, x ∈ a ↔ x ∈ b) : closedB l a = closedB l b := by
  rw [Bool.eq_iff_iff]
  unfold closedB closedAt
  simp only [List.all_eq_true, Bool.and_eq_true, Bool.not_eq_true', decide_eq_false_iff_not, decide_eq_true_eq, h]
theorem sortN_mem {a b : List Nm} (h : ∀ x, x ∈ a ↔ x ∈ b) : sortN a = sortN b := by
  refine rising_eq Nm.sto (sortN_spec a).1 (sortN_spec b).1 fun x => ?_
  rw [(sortN_spec a).2, (sortN_spec b).2, h]
theorem closureV_perm {l : List Ed} {set out : List Nm} (h : out.Perm (set ++ set.flatMap (aboveL l))) : closureV l set = if closedB l out = false then ([], 6) else (sortN out, 0) := by
  have hm : ∀ x, x ∈ out ↔ x ∈ set ++ set.flatMap (aboveL l) := fun x => h.mem_iff
  unfold closureV
  rw [closedB_mem hm, sortN_mem hm]
end Go.Eng

/-
  Chapter 22, plain: programs as maps and as sorted lists. No condition.
-/
namespace Go.Eng

theorem bless_iff : ∀ {a b : Str}, bless a b = true ↔ a < b
  | [], [] => by simp [bless, Op.bytesLess]
  | [], _ :: _ => by simp [bless, Op.bytesLess]
  | _ :: _, [] => by simp [bless, Op.bytesLess]
  | a :: x, b :: y => by
    have ih := bless_iff (a := x) (b := y)
    unfold bless at *
    simp only [Op.bytesLess, List.cons_lt_cons_iff]
    by_cases h1 : a < b
    · simp [h1]
    · by_cases h2 : b < a
      · have hne : a ≠ b := fun e => by subst e; exact h1 h2
        simp [h1, h2, hne]
      · have e : a = b := by
          have h1' : ¬ a.toNat < b.toNat := h1
          have h2' : ¬ b.toNat < a.toNat := h2
          exact UInt8.toNat_inj.1 (by omega)
        subst e
        simp [h1, ih]
theorem bless_sto : STO bless := by
  refine ⟨fun a => ?_, fun a b c h1 h2 => ?_, fun a b h1 h2 => ?_⟩
  · cases q : bless a a with
    | false => rfl
    | true => exact absurd (bless_iff.1 q) (List.lt_irrefl a)
  · exact bless_iff.2 (List.lt_trans (bless_iff.1 h1) (bless_iff.1 h2))
  · have h1' : ¬ a < b := fun h => by rw [bless_iff.2 h] at h1; cases h1
    have h2' : ¬ b < a := fun h => by rw [bless_iff.2 h] at h2; cases h2
    exact List.le_antisymm (List.not_lt.1 h2') (List.not_lt.1 h1')

/-- A program as a map: the definitions, in no order. -/
def upsert (m : List Df) (d : Df) : List Df := match m.findIdx? (fun x => decide (d.name = x.name)) with | some j => m.set j d | none => m ++ [d]
def removeN (m : List Df) (s : Str) : List Df := match m.findIdx? (fun x => decide (s = x.name)) with | some j => m.eraseIdx j | none => m
def lookD (m : List Df) (s : Str) : Df := match m.findIdx? (fun x => decide (s = x.name)) with | some j => m.getD j default | none => ⟨[], []⟩
def nameLt (a b : Df) : Bool := bless a.name b.name
structure Rep (m L : List Df) : Prop where
  nd : (m.map Df.name).Nodup
  ri : Rising nameLt L
  mem : ∀ d, d ∈ m ↔ d ∈ L
theorem Rep.nil : Rep [] [] := ⟨by simp, by simp [Rising], by simp⟩
theorem rising_names {L : List Df} (h : Rising nameLt L) : (L.map Df.name).Nodup := by
  rw [List.Nodup, List.pairwise_map]
  exact h.imp fun {a b} hab e => by unfold nameLt at hab; rw [e, bless_sto.irrefl] at hab; cases hab
theorem name_inj {m : List Df} (h : (m.map Df.name).Nodup) {a b : Df} (ha : a ∈ m) (hb : b ∈ m) (e : a.name = b.name) : a = b := by
  obtain ⟨i, hi, rfl⟩ := List.getElem_of_mem ha
  obtain ⟨j, hj, rfl⟩ := List.getElem_of_mem hb
  rw [List.Nodup, List.pairwise_map, List.pairwise_iff_getElem] at h
  rcases Nat.lt_trichotomy i j with hij | hij | hij
  · exact absurd e (h i j hi hj hij)
  · subst hij; rfl
  · exact absurd e.symm (h j i hj hi hij)
theorem find_name_none {m : List Df} {s : Str} (h : m.findIdx? (fun x => decide (s = x.name)) = none) : ∀ x ∈ m, x.name ≠ s := fun x hx e => by
  have := List.findIdx?_eq_none_iff.1 h x hx; simp at this; exact this e.symm
theorem find_name_some {m : List Df} {s : Str} {j : Nat} (h : m.findIdx? (fun x => decide (s = x.name)) = some j) : ∃ hj : j < m.length, m[j].name = s := by
  obtain ⟨hj, h1, _⟩ := List.findIdx?_eq_some_iff_getElem.1 h
  exact ⟨hj, (of_decide_eq_true h1).symm⟩
theorem upsert_names {m : List Df} {d : Df} (h : (m.map Df.name).Nodup) : ((upsert m d).map Df.name).Nodup ∧ ∀ x, x ∈ upsert m d ↔ x = d ∨ (x ∈ m ∧ x.name ≠ d.name) := by
  unfold upsert
  cases q : m.findIdx? (fun x => decide (d.name = x.name)) with
  | none =>
    have hn := find_name_none q
    refine ⟨?_, fun x => ?_⟩
    · rw [List.map_append, List.nodup_append]
      refine ⟨h, by simp, fun a ha b hb e => ?_⟩
      simp at hb; subst hb; subst e
      obtain ⟨x, hx, hxe⟩ := List.mem_map.1 ha
      exact hn x hx hxe
    · rw [List.mem_append, List.mem_singleton]
      constructor
      · rintro (hx | rfl)
        · exact .inr ⟨hx, hn x hx⟩
        · exact .inl rfl
      · rintro (rfl | ⟨hx, _⟩)
        · exact .inr rfl
        · exact .inl hx
  | some j =>
    obtain ⟨hj, hjn⟩ := find_name_some q
    simp only
    have hset : (m.set j d).map Df.name = m.map Df.name := by
      rw [List.map_set]
      apply List.ext_getElem?
      intro i
      rw [List.getElem?_set]
      by_cases e : j = i
      · subst e; simp [hj, hjn]
      · simp [e]
    refine ⟨by rw [hset]; exact h, fun x => ?_⟩
    constructor
    · intro hx
      obtain ⟨i, hi, rfl⟩ := List.getElem_of_mem hx
      simp at hi
      rw [List.getElem_set]
      by_cases e : j = i
      · simp [e]
      · simp only [e, if_false]
        refine .inr ⟨List.getElem_mem hi, fun en => e ?_⟩
        rw [List.Nodup, List.pairwise_map, List.pairwise_iff_getElem] at h
        rcases Nat.lt_trichotomy i j with hij | hij | hij
        · exact absurd (en.trans hjn.symm) (h i j hi hj hij)
        · exact hij.symm
        · exact absurd (hjn.trans en.symm) (h j i hj hi hij)
    · rintro (rfl | ⟨hx, hne⟩)
      · exact List.mem_iff_getElem.2 ⟨j, by simpa using hj, by simp⟩
      · obtain ⟨i, hi, rfl⟩ := List.getElem_of_mem hx
        have e : j ≠ i := fun e => by subst e; exact hne hjn
        exact List.mem_iff_getElem.2 ⟨i, by simpa using hi, by rw [List.getElem_set]; simp [e]⟩
theorem removeN_names {m : List Df} {s : Str} (h : (m.map Df.name).Nodup) : ((removeN m s).map Df.name).Nodup ∧ ∀ x, x ∈ removeN m s ↔ x ∈ m ∧ x.name ≠ s := by
  unfold removeN
  cases q : m.findIdx? (fun x => decide (s = x.name)) with
  | none => exact ⟨h, fun x => ⟨fun hx => ⟨hx, find_name_none q x hx⟩, fun hx => hx.1⟩⟩
  | some j =>
    obtain ⟨hj, hjn⟩ := find_name_some q
    simp only
    refine ⟨h.sublist ((List.eraseIdx_sublist m j).map Df.name), fun x => ?_⟩
    rw [List.mem_eraseIdx_iff_getElem]
    constructor
    · rintro ⟨i, hi, hij, rfl⟩
      refine ⟨List.getElem_mem hi, fun en => ?_⟩
      rw [List.Nodup, List.pairwise_map, List.pairwise_iff_getElem] at h
      rcases Nat.lt_trichotomy i j with hlt | he | hlt
      · exact h i j hi hj hlt (en.trans hjn.symm)
      · exact hij he
      · exact h j i hj hi hlt (hjn.trans en.symm)
    · rintro ⟨hx, hne⟩
      obtain ⟨i, hi, rfl⟩ := List.getElem_of_mem hx
      exact ⟨i, hi, fun e => by subst e; exact hne hjn, rfl⟩
theorem ins_rising' {α : Type} {lt : α → α → Bool} (tr : ∀ a b c, lt a b = true → lt b c = true → lt a c = true) {out : List α} {x : α} (h : Rising lt out) (ht : ∀ y ∈ out, lt x y = false → lt y x = true) : Rising lt (insAt (rpos (fun y => lt x y) out out.length) x out) := by
  obtain ⟨h1, h2⟩ := rpos_spec (p := fun y => lt x y) (out := out) out.length (Nat.le_refl _)
  have hle := rpos_le (p := fun y => lt x y) (out := out) out.length
  generalize rpos (fun y => lt x y) out out.length = k at *
  have hout := List.pairwise_iff_getElem.1 h
  have below : ∀ i (hi : i < out.length), i < k → lt out[i] x = true := by
    intro i hi hik
    have hk1 : k - 1 < out.length := by omega
    have hlast : lt out[k - 1] x = true := ht _ (List.getElem_mem hk1) (h2 (k - 1) hk1 (by omega))
    by_cases e : i = k - 1
    · subst e; exact hlast
    · exact tr _ _ _ (hout i (k - 1) hi hk1 (by omega)) hlast
  unfold insAt
  refine List.pairwise_append.2 ⟨h.sublist (List.take_sublist _ _), List.pairwise_cons.2 ⟨fun y hy => ?_, h.sublist (List.drop_sublist _ _)⟩, fun y hy z hz => ?_⟩
  · obtain ⟨i, hi, rfl⟩ := List.getElem_of_mem hy
    simp at hi
    simp only [List.getElem_drop]
    exact h1 (k + i) (by omega) (by omega) (by omega)
  · obtain ⟨i, hi, rfl⟩ := List.getElem_of_mem hy
    simp at hi
    simp only [List.getElem_take]
    rcases List.mem_cons.1 hz with rfl | hz
    · exact below i (by omega) (by omega)
    · obtain ⟨j, hj, rfl⟩ := List.getElem_of_mem hz
      simp at hj
      simp only [List.getElem_drop]
      exact hout i (k + j) (by omega) (by omega) (by omega)
theorem mem_dropD {L : List Df} {s : Str} {x : Df} : x ∈ dropD L s ↔ x ∈ L ∧ x.name ≠ s := by simp [dropD]
theorem Rep.drop {m L : List Df} (h : Rep m L) (s : Str) : Rep (removeN m s) (dropD L s) :=
  ⟨(removeN_names h.nd).1, h.ri.sublist List.filter_sublist, fun d => by rw [(removeN_names h.nd).2, mem_dropD, h.mem]⟩
theorem Rep.put {m L : List Df} (h : Rep m L) (d : Df) : Rep (upsert m d) (putD L d) := by
  refine ⟨(upsert_names h.nd).1, ?_, fun x => ?_⟩
  · refine ins_rising' (lt := nameLt) (fun a b c h1 h2 => bless_sto.trans _ _ _ h1 h2) (h.ri.sublist List.filter_sublist) fun y hy hf => ?_
    have hne := (mem_dropD.1 hy).2
    unfold nameLt at *
    cases q : bless y.name d.name with
    | true => rfl
    | false => exact absurd (bless_sto.total _ _ q hf) hne
  · rw [(upsert_names h.nd).2]
    unfold putD
    rw [mem_insAt, mem_dropD, h.mem]
theorem Rep.has {m L : List Df} (h : Rep m L) (s : Str) : (m.any fun x => decide (x.name = s)) = (L.any fun x => decide (x.name = s)) := by
  rw [Bool.eq_iff_iff, List.any_eq_true, List.any_eq_true]
  constructor
  · rintro ⟨x, hx, e⟩; exact ⟨x, (h.mem x).1 hx, e⟩
  · rintro ⟨x, hx, e⟩; exact ⟨x, (h.mem x).2 hx, e⟩
theorem lookD_mem {m : List Df} (h : (m.map Df.name).Nodup) {d : Df} (hd : d ∈ m) : lookD m d.name = d := by
  unfold lookD
  cases q : m.findIdx? (fun x => decide (d.name = x.name)) with
  | none => exact absurd rfl (find_name_none q d hd)
  | some j =>
    obtain ⟨hj, hjn⟩ := find_name_some q
    simp only [List.getD_eq_getElem?_getD, List.getElem?_eq_getElem hj, Option.getD_some]
    exact name_inj h (List.getElem_mem hj) hd hjn
/-- The names in order, each with its definition. -/
theorem Rep.out {m L : List Df} (h : Rep m L) {ns : List Str} (hp : ns.Perm (m.map Df.name)) (hs : ns.Pairwise fun x y => x ≤ y) : ns.map (lookD m) = L := by
  have hL : ns = L.map Df.name := by
    refine List.Perm.eq_of_pairwise (le := fun x y : Str => x ≤ y) (fun a b _ _ h1 h2 => List.le_antisymm h1 h2) hs ?_ (hp.trans ?_)
    · rw [List.pairwise_map]
      exact h.ri.imp fun {a b} hab => List.le_of_lt (bless_iff.1 hab)
    · refine (List.perm_ext_iff_of_nodup h.nd (rising_names h.ri)).2 fun s => ?_
      simp only [List.mem_map]
      constructor
      · rintro ⟨x, hx, e⟩; exact ⟨x, (h.mem x).1 hx, e⟩
      · rintro ⟨x, hx, e⟩; exact ⟨x, (h.mem x).2 hx, e⟩
  rw [hL, List.map_map]
  conv => rhs; rw [← List.map_id L]
  apply List.map_congr_left
  intro d hd
  exact lookD_mem h.nd ((h.mem d).2 hd)
end Go.Eng

/-
  Chapter 22: contracts of the small functions. No condition.
-/
namespace Go.Eng
open Go.Proofs
theorem hMixed : Tryz.prog.follows .mixedOrders = true := by kernel_rfl
theorem nm_eq (a b : Nm) : (decide (a.who = b.who) && decide (a.seq = b.seq)) = decide (a = b) := by
  cases a; cases b; simp [Bool.decide_and]
theorem df_eq (a b : Df) : (a.name == b.name && a.text == b.text) = decide (a = b) := by
  cases a; cases b; simp [Bool.beq_eq_decide_eq]
attribute [local simp] runL stepL evalG evalOp opLV constLV putEnv dstOk upd upds Res.plain Res.cond Res.fail evalBin evalUn seqQ blockQ argsEnv lookL lookH RetIs memless freshL evalPick evalMin bval bok evalLen evalIn strip whenC guardOps guardC slotsOf
  runM foldS stepI stepM maskE wrIn lk renO lookN evalCall evalCallee optAll resLV resObj retLV retObj retsLV retsObj evalLoad evalIndexAddr evalField solid cellsD_agg cellsD_int cellsD_bool cellsD_str cellsD_sl cellsD_ro cellsD_fn cellsL_agg cellsL_dagg cellsL_int cellsL_bool cellsL_str cellsL_sl cellsL_fn cellsL_ow cellsL_bx cellsL_lfn cellsL_nl takeL takeD mkAgg allD eqD eqDs kindsAre kindIs LObj.live TK.isNone TK.agg TK.isBool TK.isStr TK.isStruct Op.operands Call.operands
  evalBuildSlice evalAppend elemsOf evalStore evalBuild fillL lookupF putL evalSlice bound evalConv elemsS freezes frozen loadR
  mkEnv_at mkObs_at close_d close_agg close_ow close_bx close_fn close_nl touch_d touch_agg touch_ow touch_bx touch_fn touch_nl ren_d ren_agg ren_bx ren_rp ren_ow ren_fn ren_nl ren_junk retQ_ret retQ2_ret condQ_bool Nm.d Df.d Ed.d nmsD dfsD strsD edsD retC_ret nm_eq df_eq take_map_len take_map_app
  nm_t nm_d nm_td df_t df_d df_td str_t str_d str_td ed_t ed_d ed_td
  evalAppendIn evalCut evalClear evalCopy evalMake evalWrap evalCap evalNil isNilC lenL isInp gorc
  mapOf findD keyEq keyOk evalMakeMap evalRange zeroD zeroDV argsG shutG outN lenv retG0_ret retG0_normal retG1_ret renO close_mp touch_mp ren_mp optAll_d optAll_d' touch_ds cellsL_mp cellsD_mp cellsL_dmp

/-- culprit/culpritref22.Has -/
theorem Has_ok (l : List Nm) (n : Nm) : Ok Tryz.prog 38 [nmsD l, n.d] ⟨.d (.bool (decide (n ∈ l))), true⟩ := by
  refine Ok.ret Tryz.func38 (by kernel_rfl) (c := _) rfl Tryz.ntmps38 (by simp) Tryz.results38 (by intro _ h; cases h) fun w0 X hp => ?_
  refine LWp.len (t := 0) rfl fun hlen => ?_
  simp at hlen
  refine LWp.seq ?_
  refine LWp.reg hT hW (fun _ => none) (fun _ => ⟨rfl, fun _ h => h⟩) ?_
  simp
  refine LWp.seq ?_
  refine LWp.seq ?_
  refine LWp.reg hT hW (fun _ => none) (fun _ => ⟨rfl, fun _ h => h⟩) ?_
  simp
  refine LWp.block ?_
  refine LWp.loopW (ι := Nat) (fun i => mkEnv [(0, .d (nmsD l)), (3, .bx 3 0), (5, .d (I64 i))]) (fun i => mkObs [(3, .box false [.d (I64 n.who), .d (I64 n.seq)])]) (fun i => i ≤ l.length ∧ n ∉ l.take i) (fun i => l.length - i) 0 (Weak.to [0, 3, 5] [(3, 3)] (by decide) (by decide) (by simp [hp]) (by simp) (by simp)) (by simp) fun i hi2 => ?_
  refine LWp.seq ?_
  refine LWp.seq ?_
  refine LWp.reg hT hW (fun _ => none) (fun _ => ⟨rfl, fun _ h => h⟩) ?_
  simp
  refine LWp.iff ?_
  simp
  refine ⟨fun h2 => ?_, fun h2 => ?_⟩
  · refine LWp.skip ?_
    simp
    refine LWp.seq ?_
    refine LWp.block ?_
    refine LWp.seq ?_
    refine LWp.regAny hT hW hMixed (lk [[], [], [0, 1], [0, 1, 2], [], [0, 1, 2, 3, 4]]) (lk [[], [], [], [], [], []]) (lk [[], [], [], [], [], []]) (by kernel_rfl) (fun _ => none) (fun _ => ⟨rfl, fun _ h => h⟩) ?_
    simp [h2]
    refine LWp.iff ?_
    simp
    refine ⟨fun h4 => ?_, fun h4 => ?_⟩
    · refine LWp.seq ?_
      refine LWp.reg hT hW (fun _ => none) (fun _ => ⟨rfl, fun _ h => h⟩) ?_
      simp
      refine LWp.ret ?_
      simp
      rw [← h4]; exact List.getElem_mem h2
    · refine LWp.skip ?_
      simp
      refine LWp.reg hT hW (fun _ => none) (fun _ => ⟨rfl, fun _ h => h⟩) ?_
      simp
      refine ⟨by omega, ?_⟩
      refine loopQ.mk (i + 1) (Weak.to [0, 3, 5] [(3, 3)] (by decide) (by decide) (by simp [hp]) (by simp) (by simp)) ?_ ?_
      · exact ⟨h2, fun hm => ((mem_take_succ h2).1 hm).elim hi2.2 fun e => h4 e.symm⟩
      · omega
  · refine LWp.exit ?_
    simp
    refine LWp.seq ?_
    refine LWp.reg hT hW (fun _ => none) (fun _ => ⟨rfl, fun _ h => h⟩) ?_
    simp
    refine LWp.ret ?_
    simp
    have e : i = l.length := by omega
    have := hi2.2
    rw [e, List.take_length] at this
    exact this

/-- culprit/culpritref01.Around -/
theorem Around_ok (n m : Int) (h1 : -9223372036854775808 ≤ n) (h2 : n ≤ 9223372036854775807) (hm : m ≠ 0) : Ok Tryz.prog 24 [I64 n, I64 m] ⟨.d (I64 (around n m)), true⟩ := by
  refine Ok.ret Tryz.func24 (by kernel_rfl) (c := _) rfl Tryz.ntmps24 (by simp) Tryz.results24 (by intro _ h; cases h) fun w0 X hp => ?_
  refine LWp.seq ?_
  refine LWp.reg hT hW (fun _ => none) (fun _ => ⟨rfl, fun _ h => h⟩) ?_
  simp
  refine LWp.seq ?_
  refine LWp.seq ?_
  refine LWp.reg hT hW (fun _ => none) (fun _ => ⟨rfl, fun _ h => h⟩) ?_
  simp
  refine LWp.iff ?_
  simp
  refine ⟨fun h1 => ?_, fun h1 => ?_⟩
  · refine LWp.reg hT hW (fun _ => none) (fun _ => ⟨rfl, fun _ h => h⟩) ?_
    simp
    refine ⟨by omega, ?_⟩
    refine LWp.seq ?_
    refine LWp.reg hT hW (fun _ => none) (fun _ => ⟨rfl, fun _ h => h⟩) ?_
    simp
    refine ⟨hm, ?_⟩
    refine LWp.ret ?_
    simp [around, h1]
  · refine LWp.skip ?_
    simp
    refine LWp.seq ?_
    refine LWp.reg hT hW (fun _ => none) (fun _ => ⟨rfl, fun _ h => h⟩) ?_
    simp
    refine ⟨hm, ?_⟩
    refine LWp.ret ?_
    have : ¬ n < 0 := by omega
    simp [around, this]

/-- culprit/culpritref01.At -/
theorem At_ok (l : List Int) (i m : Int) (hl : ∀ n ∈ l, -9223372036854775808 ≤ n ∧ n ≤ 9223372036854775807) (hm : m ≠ 0) : Ok Tryz.prog 94 [.sl (l.map I64), I64 i, I64 m] ⟨.d (I64 (atL l i m)), true⟩ := by
  refine Ok.ret Tryz.func94 (by kernel_rfl) (c := _) rfl Tryz.ntmps94 (by simp) Tryz.results94 (by intro _ h; cases h) fun w0 X hp => ?_
  refine LWp.seq ?_
  refine LWp.reg hT hW (fun _ => none) (fun _ => ⟨rfl, fun _ h => h⟩) ?_
  simp
  refine LWp.seq ?_
  refine LWp.seq ?_
  refine LWp.len (t := 0) rfl fun hlen => ?_
  simp at hlen
  refine LWp.reg hT hW (fun _ => none) (fun _ => ⟨rfl, fun _ h => h⟩) ?_
  simp
  refine LWp.iff ?_
  simp
  refine ⟨fun h1 => ?_, fun h1 h2 => ?_⟩
  · refine LWp.seq ?_
    refine LWp.reg hT hW (fun _ => none) (fun _ => ⟨rfl, fun _ h => h⟩) ?_
    simp
    refine LWp.ret ?_
    simp [atL, h1]
  · obtain ⟨k, rfl⟩ := Int.eq_ofNat_of_zero_le h1
    have hi' : k < l.length := by omega
    refine LWp.skip ?_
    simp
    refine LWp.seq ?_
    refine LWp.reg hT hW (fun | 20 => some <| .plain ⟨.d (I64 (around l[k] m)), true⟩ | _ => none) (by intro d; first | exact ⟨rfl, fun _ h => h⟩ | (split <;> exact ⟨rfl, fun _ h => h⟩)) ?_
    simp [h2, hi']
    refine ⟨Around_ok _ _ (hl _ (List.getElem_mem hi')).1 (hl _ (List.getElem_mem hi')).2 hm, ?_⟩
    refine LWp.ret ?_
    simp [atL, hi']
    omega

/-- culprit/culpritref22.Less -/
theorem Less_ok (a b : Nm) : Ok Tryz.prog 82 [a.d, b.d] ⟨.d (.bool (a.less b)), true⟩ := by
  refine Ok.ret Tryz.func82 (by kernel_rfl) (c := _) rfl Tryz.ntmps82 (by simp) Tryz.results82 (by intro _ h; cases h) fun w0 X hp => ?_
  refine LWp.seq ?_
  refine LWp.reg hT hW (fun _ => none) (fun _ => ⟨rfl, fun _ h => h⟩) ?_
  simp
  refine LWp.seq ?_
  refine LWp.reg hT hW (fun _ => none) (fun _ => ⟨rfl, fun _ h => h⟩) ?_
  simp
  refine ⟨by omega, ?_⟩
  refine LWp.ret ?_
  simp [Nm.less]

/-- culprit/culpritref22.IsName -/
theorem IsName_ok (n : Nm) : Ok Tryz.prog 127 [n.d] ⟨.d (.bool n.isName), true⟩ := by
  refine Ok.ret Tryz.func127 (by kernel_rfl) (c := _) rfl Tryz.ntmps127 (by simp) Tryz.results127 (by intro _ h; cases h) fun w0 X hp => ?_
  refine LWp.seq ?_
  refine LWp.reg hT hW (fun _ => none) (fun _ => ⟨rfl, fun _ h => h⟩) ?_
  simp
  refine LWp.seq ?_
  refine LWp.reg hT hW (fun _ => none) (fun _ => ⟨rfl, fun _ h => h⟩) ?_
  simp
  refine LWp.ret ?_
  simp [Nm.isName]

/-- culprit/culpritref22.In -/
theorem In_ok (l : List Str) (s : Str) : Ok Tryz.prog 96 [strsD l, .str s] ⟨.d (.bool (decide (s ∈ l))), true⟩ := by
  refine Ok.ret Tryz.func96 (by kernel_rfl) (c := _) rfl Tryz.ntmps96 (by simp) Tryz.results96 (by intro _ h; cases h) fun w0 X hp => ?_
  refine LWp.len (t := 0) rfl fun hlen => ?_
  simp at hlen
  refine LWp.seq ?_
  refine LWp.reg hT hW (fun _ => none) (fun _ => ⟨rfl, fun _ h => h⟩) ?_
  simp
  refine LWp.seq ?_
  refine LWp.seq ?_
  refine LWp.reg hT hW (fun _ => none) (fun _ => ⟨rfl, fun _ h => h⟩) ?_
  simp
  refine LWp.block ?_
  refine LWp.loopW (ι := Nat) (fun i => mkEnv [(0, .d (strsD l)), (1, .d (.str s)), (5, .d (I64 i))]) (fun i => mkObs []) (fun i => i ≤ l.length ∧ s ∉ l.take i) (fun i => l.length - i) 0 (Weak.to [0, 1, 5] [] (by decide) (by decide) (by simp [hp]) (by simp) (by simp)) (by simp) fun i hi2 => ?_
  refine LWp.seq ?_
  refine LWp.seq ?_
  refine LWp.reg hT hW (fun _ => none) (fun _ => ⟨rfl, fun _ h => h⟩) ?_
  simp
  refine LWp.iff ?_
  simp
  refine ⟨fun h2 => ?_, fun h2 => ?_⟩
  · refine LWp.skip ?_
    simp
    refine LWp.seq ?_
    refine LWp.block ?_
    refine LWp.seq ?_
    refine LWp.reg hT hW (fun _ => none) (fun _ => ⟨rfl, fun _ h => h⟩) ?_
    simp [h2]
    refine LWp.iff ?_
    simp
    refine ⟨fun h4 => ?_, fun h4 => ?_⟩
    · refine LWp.seq ?_
      refine LWp.reg hT hW (fun _ => none) (fun _ => ⟨rfl, fun _ h => h⟩) ?_
      simp
      refine LWp.ret ?_
      simp
      rw [← h4]; exact List.getElem_mem h2
    · refine LWp.skip ?_
      simp
      refine LWp.reg hT hW (fun _ => none) (fun _ => ⟨rfl, fun _ h => h⟩) ?_
      simp
      refine ⟨by omega, ?_⟩
      refine loopQ.mk (i + 1) (Weak.to [0, 1, 5] [] (by decide) (by decide) (by simp [hp]) (by simp) (by simp)) ?_ ?_
      · exact ⟨h2, fun hm => ((mem_take_succ h2).1 hm).elim hi2.2 fun e => h4 e.symm⟩
      · omega
  · refine LWp.exit ?_
    simp
    refine LWp.seq ?_
    refine LWp.reg hT hW (fun _ => none) (fun _ => ⟨rfl, fun _ h => h⟩) ?_
    simp
    refine LWp.ret ?_
    simp
    have e : i = l.length := by omega
    have := hi2.2
    rw [e, List.take_length] at this
    exact this

/-- culprit/culpritref22.Find -/
theorem Find_ok (l : List Ed) (n : Nm) : Ok Tryz.prog 26 [edsD l, n.d] ⟨.d (I64 (findI l n)), true⟩ := by
  refine Ok.ret Tryz.func26 (by kernel_rfl) (c := _) rfl Tryz.ntmps26 (by simp) Tryz.results26 (by intro _ h; cases h) fun w0 X hp => ?_
  refine LWp.len (t := 0) rfl fun hlen => ?_
  simp at hlen
  refine LWp.seq ?_
  refine LWp.reg hT hW (fun _ => none) (fun _ => ⟨rfl, fun _ h => h⟩) ?_
  simp
  refine LWp.seq ?_
  refine LWp.seq ?_
  refine LWp.reg hT hW (fun _ => none) (fun _ => ⟨rfl, fun _ h => h⟩) ?_
  simp
  refine LWp.block ?_
  refine LWp.loopW (ι := Nat) (fun i => mkEnv [(0, .d (edsD l)), (3, .bx 3 0), (5, .d (I64 i))]) (fun i => mkObs [(3, .box false [.d (I64 n.who), .d (I64 n.seq)])]) (fun i => i ≤ l.length ∧ Pre (fun e => decide (e.name = n)) l i) (fun i => l.length - i) 0 (Weak.to [0, 3, 5] [(3, 3)] (by decide) (by decide) (by simp [hp]) (by simp) (by simp)) (⟨Nat.zero_le _, Pre.zero⟩) fun i hi2 => ?_
  refine LWp.seq ?_
  refine LWp.seq ?_
  refine LWp.reg hT hW (fun _ => none) (fun _ => ⟨rfl, fun _ h => h⟩) ?_
  simp
  refine LWp.iff ?_
  simp
  refine ⟨fun h2 => ?_, fun h2 => ?_⟩
  · refine LWp.skip ?_
    simp
    refine LWp.seq ?_
    refine LWp.block ?_
    refine LWp.seq ?_
    refine LWp.regAny hT hW hMixed (lk [[], [], [0, 1], [0, 1, 2], [0, 1, 2, 3], [], [0, 1, 2, 3, 4, 5]]) (lk [[], [], [], [], [], [], []]) (lk [[], [], [], [], [], [], []]) (by kernel_rfl) (fun _ => none) (fun _ => ⟨rfl, fun _ h => h⟩) ?_
    simp [h2]
    refine LWp.iff ?_
    simp
    refine ⟨fun h4 => ?_, fun h4 => ?_⟩
    · refine LWp.seq ?_
      refine LWp.reg hT hW (fun _ => none) (fun _ => ⟨rfl, fun _ h => h⟩) ?_
      simp
      refine LWp.ret ?_
      have := hi2.2.found h2 (by simpa using h4)
      simp [findI, find?, this]
    · refine LWp.skip ?_
      simp
      refine LWp.reg hT hW (fun _ => none) (fun _ => ⟨rfl, fun _ h => h⟩) ?_
      simp
      refine ⟨by omega, ?_⟩
      refine loopQ.mk (i + 1) (Weak.to [0, 3, 5] [(3, 3)] (by decide) (by decide) (by simp [hp]) (by simp) (by simp)) ?_ ?_
      · exact ⟨h2, hi2.2.succ h2 (by simpa using h4)⟩
      · omega
  · refine LWp.exit ?_
    simp
    refine LWp.seq ?_
    refine LWp.reg hT hW (fun _ => none) (fun _ => ⟨rfl, fun _ h => h⟩) ?_
    simp
    refine LWp.ret ?_
    have := hi2.2.none (by omega)
    simp [findI, find?, this]

/-- culprit/culpritref22.Needs -/
theorem Needs_ok (l : List Ed) (n : Nm) : Ok Tryz.prog 78 [edsD l, n.d] ⟨.d (nmsD (needsOf l n)), false⟩ := by
  refine Ok.ret Tryz.func78 (by kernel_rfl) (c := _) rfl Tryz.ntmps78 (by simp) Tryz.results78 (by intro _ h; cases h) fun w0 X hp => ?_
  refine LWp.len (t := 0) rfl fun hlen => ?_
  simp at hlen
  refine LWp.seq ?_
  refine LWp.reg hT hW (fun _ => none) (fun _ => ⟨rfl, fun _ h => h⟩) ?_
  simp
  refine LWp.seq ?_
  refine LWp.seq ?_
  refine LWp.reg hT hW (fun _ => none) (fun _ => ⟨rfl, fun _ h => h⟩) ?_
  simp
  refine LWp.block ?_
  refine LWp.loopW (ι := Nat) (fun i => mkEnv [(0, .d (edsD l)), (3, .bx 3 0), (5, .d (I64 i))]) (fun i => mkObs [(3, .box false [.d (I64 n.who), .d (I64 n.seq)])]) (fun i => i ≤ l.length ∧ Pre (fun e => decide (e.name = n)) l i) (fun i => l.length - i) 0 (Weak.to [0, 3, 5] [(3, 3)] (by decide) (by decide) (by simp [hp]) (by simp) (by simp)) (⟨Nat.zero_le _, Pre.zero⟩) fun i hi2 => ?_
  refine LWp.seq ?_
  refine LWp.seq ?_
  refine LWp.reg hT hW (fun _ => none) (fun _ => ⟨rfl, fun _ h => h⟩) ?_
  simp
  refine LWp.iff ?_
  simp
  refine ⟨fun h2 => ?_, fun h2 => ?_⟩
  · refine LWp.skip ?_
    simp
    refine LWp.seq ?_
    refine LWp.block ?_
    refine LWp.seq ?_
    refine LWp.regAny hT hW hMixed (lk [[], [], [0, 1], [0, 1, 2], [0, 1, 2, 3], [], [0, 1, 2, 3, 4, 5]]) (lk [[], [], [], [], [], [], []]) (lk [[], [], [], [], [], [], []]) (by kernel_rfl) (fun _ => none) (fun _ => ⟨rfl, fun _ h => h⟩) ?_
    simp [h2]
    refine LWp.iff ?_
    simp
    refine ⟨fun h4 => ?_, fun h4 => ?_⟩
    · refine LWp.seq ?_
      refine LWp.reg hT hW (fun _ => none) (fun _ => ⟨rfl, fun _ h => h⟩) ?_
      simp [h2]
      refine LWp.ret ?_
      have := hi2.2.found h2 (by simpa using h4)
      simp [needsOf, find?, this, nmsD, h2]
    · refine LWp.skip ?_
      simp
      refine LWp.reg hT hW (fun _ => none) (fun _ => ⟨rfl, fun _ h => h⟩) ?_
      simp
      refine ⟨by omega, ?_⟩
      refine loopQ.mk (i + 1) (Weak.to [0, 3, 5] [(3, 3)] (by decide) (by decide) (by simp [hp]) (by simp) (by simp)) ?_ ?_
      · exact ⟨h2, hi2.2.succ h2 (by simpa using h4)⟩
      · omega
  · refine LWp.exit ?_
    simp
    refine LWp.seq ?_
    refine LWp.reg hT hW (fun _ => none) (fun _ => ⟨rfl, fun _ h => h⟩) ?_
    simp
    refine LWp.ret ?_
    have := hi2.2.none (by omega)
    simp [needsOf, find?, this, nmsD]

end Go.Eng

/-
  Chapter 22: contracts of the small functions, second part. No condition.
-/
namespace Go.Eng
open Go.Proofs
attribute [local simp] runL stepL evalG evalOp opLV constLV putEnv dstOk upd upds Res.plain Res.cond Res.fail evalBin evalUn seqQ blockQ argsEnv lookL lookH RetIs memless freshL evalPick evalMin bval bok evalLen evalIn strip whenC guardOps guardC slotsOf
  runM foldS stepI stepM maskE wrIn lk renO lookN evalCall evalCallee optAll resLV resObj retLV retObj retsLV retsObj evalLoad evalIndexAddr evalField solid cellsD_agg cellsD_int cellsD_bool cellsD_str cellsD_sl cellsD_ro cellsD_fn cellsL_agg cellsL_dagg cellsL_int cellsL_bool cellsL_str cellsL_sl cellsL_fn cellsL_ow cellsL_bx cellsL_lfn cellsL_nl takeL takeD mkAgg allD eqD eqDs kindsAre kindIs LObj.live TK.isNone TK.agg TK.isBool TK.isStr TK.isStruct Op.operands Call.operands
  evalBuildSlice evalAppend elemsOf evalStore evalBuild fillL lookupF putL evalSlice bound evalConv elemsS freezes frozen loadR
  mkEnv_at mkObs_at close_d close_agg close_ow close_bx close_fn close_nl touch_d touch_agg touch_ow touch_bx touch_fn touch_nl ren_d ren_agg ren_bx ren_rp ren_ow ren_fn ren_nl ren_junk retQ_ret retQ2_ret condQ_bool Nm.d Df.d Ed.d nmsD dfsD strsD edsD retC_ret nm_eq df_eq take_map_len take_map_app
  nm_t nm_d nm_td df_t df_d df_td str_t str_d str_td ed_t ed_d ed_td
  evalAppendIn evalCut evalClear evalCopy evalMake evalWrap evalCap evalNil isNilC lenL isInp gorc
  mapOf findD keyEq keyOk evalMakeMap evalRange zeroD zeroDV argsG shutG outN lenv retG0_ret retG0_normal retG1_ret renO close_mp touch_mp ren_mp optAll_d optAll_d' touch_ds cellsL_mp cellsD_mp cellsL_dmp

/-- culprit/culpritref22.ready -/
theorem ready_ok (l o : List Nm) : Ok Tryz.prog 87 [nmsD l, nmsD o] ⟨.d (.bool (l.all fun n => decide (n ∈ o))), true⟩ := by
  refine Ok.ret Tryz.func87 (by kernel_rfl) (c := _) rfl Tryz.ntmps87 (by simp) Tryz.results87 (by intro _ h; cases h) fun w0 X hp => ?_
  refine LWp.len (t := 0) rfl fun hlen => ?_
  simp at hlen
  refine LWp.seq ?_
  refine LWp.reg hT hW (fun _ => none) (fun _ => ⟨rfl, fun _ h => h⟩) ?_
  simp
  refine LWp.seq ?_
  refine LWp.seq ?_
  refine LWp.reg hT hW (fun _ => none) (fun _ => ⟨rfl, fun _ h => h⟩) ?_
  simp
  refine LWp.block ?_
  refine LWp.loopW (ι := Nat) (fun i => mkEnv [(0, .d (nmsD l)), (1, .d (nmsD o)), (5, .d (I64 i))]) (fun i => mkObs []) (fun i => i ≤ l.length ∧ Pre (fun n => !decide (n ∈ o)) l i) (fun i => l.length - i) 0 (Weak.to [0, 1, 5] [] (by decide) (by decide) (by simp [hp]) (by simp) (by simp)) (⟨Nat.zero_le _, Pre.zero⟩) fun i hi2 => ?_
  refine LWp.seq ?_
  refine LWp.seq ?_
  refine LWp.reg hT hW (fun _ => none) (fun _ => ⟨rfl, fun _ h => h⟩) ?_
  simp
  refine LWp.iff ?_
  simp
  refine ⟨fun h2 => ?_, fun h2 => ?_⟩
  · refine LWp.skip ?_
    simp
    refine LWp.seq ?_
    refine LWp.block ?_
    refine LWp.seq ?_
    refine LWp.reg hT hW (fun | 17 => some <| .plain ⟨.d (.bool (decide (l[i] ∈ o))), true⟩ | _ => none) (by intro d; first | exact ⟨rfl, fun _ h => h⟩ | (split <;> exact ⟨rfl, fun _ h => h⟩)) ?_
    simp [h2]
    refine ⟨Has_ok o l[i], ?_⟩
    refine LWp.iff ?_
    simp
    refine ⟨fun h4 => ?_, fun h4 => ?_⟩
    · refine LWp.seq ?_
      refine LWp.reg hT hW (fun _ => none) (fun _ => ⟨rfl, fun _ h => h⟩) ?_
      simp
      refine LWp.ret ?_
      simp
      exact ⟨l[i], List.getElem_mem h2, by simpa using h4⟩
    · refine LWp.skip ?_
      simp
      refine LWp.reg hT hW (fun _ => none) (fun _ => ⟨rfl, fun _ h => h⟩) ?_
      simp
      refine ⟨by omega, ?_⟩
      refine loopQ.mk (i + 1) (Weak.to [0, 1, 5] [] (by decide) (by decide) (by simp [hp]) (by simp) (by simp)) ?_ ?_
      · exact ⟨h2, hi2.2.succ h2 (by simpa using h4)⟩
      · omega
  · refine LWp.exit ?_
    simp
    refine LWp.seq ?_
    refine LWp.reg hT hW (fun _ => none) (fun _ => ⟨rfl, fun _ h => h⟩) ?_
    simp
    refine LWp.ret ?_
    simp
    have := hi2.2.any (by omega)
    simpa using this

/-- culprit/culpritref22.Names -/
theorem Names_ok (l : List Ed) (hl : l.length ≤ 1000000) : Ok Tryz.prog 69 [edsD l] ⟨.d (nmsD (l.map Ed.name)), true⟩ := by
  refine Ok.ret Tryz.func69 (by kernel_rfl) (c := _) rfl Tryz.ntmps69 (by simp) Tryz.results69 (by intro _ h; cases h) fun w0 X hp => ?_
  refine LWp.seq ?_
  refine LWp.reg hT hW (fun _ => none) (fun _ => ⟨rfl, fun _ h => h⟩) ?_
  simp
  refine LWp.seq ?_
  refine LWp.reg hT hW (fun _ => none) (fun _ => ⟨rfl, fun _ h => h⟩) ?_
  simp
  refine LWp.seq ?_
  refine LWp.seq ?_
  refine LWp.reg hT hW (fun _ => none) (fun _ => ⟨rfl, fun _ h => h⟩) ?_
  simp
  refine LWp.block ?_
  refine LWp.loopW (ι := Nat × List Nm) (fun ⟨i, acc⟩ => mkEnv [(0, .d (edsD l)), (3, .ow 3 0 acc.length), (4, .d (I64 i))]) (fun ⟨i, acc⟩ => mkObs [(3, .row false 2 (acc.map Nm.d))]) (fun ⟨i, acc⟩ => i ≤ l.length ∧ acc.length = i ∧ acc = (l.map Ed.name).take i) (fun ⟨i, acc⟩ => l.length - i) (0, []) (Weak.to [0, 3, 4] [(3, 3)] (by decide) (by decide) (by simp [hp]) (by simp) (by simp)) (by simp) fun ⟨i, acc⟩ hi3 => ?_
  refine LWp.seq ?_
  refine LWp.seq ?_
  refine LWp.reg hT hW (fun _ => none) (fun _ => ⟨rfl, fun _ h => h⟩) ?_
  simp
  refine LWp.iff ?_
  simp
  refine ⟨fun h3 => ?_, fun h3 => ?_⟩
  · refine LWp.skip ?_
    simp
    refine LWp.seq ?_
    refine LWp.block ?_
    refine LWp.reg hT hW (fun _ => none) (fun _ => ⟨rfl, fun _ h => h⟩) ?_
    simp [h3]
    refine ⟨by have := hi3.2.1; omega, ?_⟩
    refine LWp.reg hT hW (fun _ => none) (fun _ => ⟨rfl, fun _ h => h⟩) ?_
    simp
    refine ⟨by omega, ?_⟩
    refine loopQ.mk (i + 1, acc ++ [l[i].name]) (Weak.to [0, 3, 4] [(18, 3)] (by decide) (by decide) (by simp [hp]) (by simp) (by simp)) ?_ ?_
    · exact ⟨h3, by simp [hi3.2.1], by rw [map_take_succ h3, ← hi3.2.2]⟩
    · omega
  · refine LWp.exit ?_
    simp
    refine LWp.seq ?_
    refine LWp.reg hT hW (fun _ => none) (fun _ => ⟨rfl, fun _ h => h⟩) ?_
    simp
    refine LWp.ret ?_
    have e : i = l.length := by omega
    have := hi3.2.2
    rw [e] at this
    simp [this]

/-- culprit/culpritref22.Touches -/
theorem Touches_ok (e : Ed) (h1 : e.puts.length ≤ 1000000) (h2 : e.drops.length ≤ 1000000) : Ok Tryz.prog 97 [e.d] ⟨.d (strsD (touches e)), true⟩ := by
  refine Ok.ret Tryz.func97 (by kernel_rfl) (c := _) rfl Tryz.ntmps97 (by simp) Tryz.results97 (by intro _ h; cases h) fun w0 X hp => ?_
  refine LWp.seq ?_
  refine LWp.reg hT hW (fun _ => none) (fun _ => ⟨rfl, fun _ h => h⟩) ?_
  simp
  refine LWp.seq ?_
  refine LWp.reg hT hW (fun _ => none) (fun _ => ⟨rfl, fun _ h => h⟩) ?_
  simp
  refine LWp.seq ?_
  refine LWp.seq ?_
  refine LWp.reg hT hW (fun _ => none) (fun _ => ⟨rfl, fun _ h => h⟩) ?_
  simp
  refine LWp.block ?_
  refine LWp.loopW (ι := Nat × List Str) (fun ⟨i, acc⟩ => mkEnv [(1, .bx 1 0), (3, .ow 3 0 acc.length), (4, .d (I64 i))]) (fun ⟨i, acc⟩ => mkObs [(3, .row false 1 (acc.map .str)), (1, .box false ((cellsD e.d).map .d))]) (fun ⟨i, acc⟩ => i ≤ e.puts.length ∧ acc.length = i ∧ acc = (e.puts.map Df.name).take i) (fun ⟨i, acc⟩ => e.puts.length - i) (0, []) (Weak.to [1, 3, 4] [(3, 3), (1, 1)] (by decide) (by decide) (by simp [hp]) (by simp) (by simp)) (by simp) fun ⟨i, acc⟩ hi3 => ?_
  refine LWp.seq ?_
  refine LWp.seq ?_
  refine LWp.reg hT hW (fun _ => none) (fun _ => ⟨rfl, fun _ h => h⟩) ?_
  simp
  refine LWp.iff ?_
  simp
  refine ⟨fun h3 => ?_, fun h3 => ?_⟩
  · refine LWp.skip ?_
    simp
    refine LWp.seq ?_
    refine LWp.block ?_
    refine LWp.reg hT hW (fun _ => none) (fun _ => ⟨rfl, fun _ h => h⟩) ?_
    simp [h3]
    refine ⟨by have := hi3.2.1; omega, ?_⟩
    refine LWp.reg hT hW (fun _ => none) (fun _ => ⟨rfl, fun _ h => h⟩) ?_
    simp
    refine ⟨by omega, ?_⟩
    refine loopQ.mk (i + 1, acc ++ [e.puts[i].name]) (Weak.to [1, 3, 4] [(20, 3), (1, 1)] (by decide) (by decide) (by simp [hp]) (by simp) (by simp)) ?_ ?_
    · exact ⟨h3, by simp [hi3.2.1], by rw [map_take_succ h3, ← hi3.2.2]⟩
    · omega
  · refine LWp.exit ?_
    simp
    refine LWp.seq ?_
    refine LWp.reg hT hW (fun _ => none) (fun _ => ⟨rfl, fun _ h => h⟩) ?_
    simp
    refine ⟨by have := hi3.2.1; omega, ?_⟩
    refine LWp.ret ?_
    have q : i = e.puts.length := by omega
    have := hi3.2.2
    rw [q] at this
    have q2 : ∀ (x y : List DV) (n : Nat), n = x.length + y.length → List.take n (x ++ y) = x ++ y := fun x y n h => List.take_of_length_le (by simp [h])
    simp [this, touches, q2]
    rintro x (⟨a, _, rfl⟩ | ⟨a, _, rfl⟩) <;> simp

/-- culprit/culpritref22.SameNames -/
theorem SameNames_ok (a b : List Nm) : Ok Tryz.prog 19 [nmsD a, nmsD b] ⟨.d (.bool (decide (a = b))), true⟩ := by
  refine Ok.ret Tryz.func19 (by kernel_rfl) (c := _) rfl Tryz.ntmps19 (by simp) Tryz.results19 (by intro _ h; cases h) fun w0 X hp => ?_
  refine LWp.len (t := 0) rfl fun hlen => ?_
  simp at hlen
  refine LWp.seq ?_
  refine LWp.reg hT hW (fun _ => none) (fun _ => ⟨rfl, fun _ h => h⟩) ?_
  simp
  refine LWp.seq ?_
  refine LWp.seq ?_
  refine LWp.reg hT hW (fun _ => none) (fun _ => ⟨rfl, fun _ h => h⟩) ?_
  simp
  refine LWp.iff ?_
  simp
  refine ⟨fun h1 => ?_, fun h1 => ?_⟩
  · refine LWp.seq ?_
    refine LWp.reg hT hW (fun _ => none) (fun _ => ⟨rfl, fun _ h => h⟩) ?_
    simp
    refine LWp.ret ?_
    simp
    exact fun e => h1 (by rw [e])
  · refine LWp.skip ?_
    simp
    refine LWp.seq ?_
    refine LWp.seq ?_
    refine LWp.reg hT hW (fun _ => none) (fun _ => ⟨rfl, fun _ h => h⟩) ?_
    simp
    refine LWp.block ?_
    refine LWp.loopW (ι := Nat) (fun i => mkEnv [(0, .d (nmsD a)), (1, .d (nmsD b)), (5, .d (I64 i))]) (fun i => mkObs []) (fun i => i ≤ a.length ∧ a.take i = b.take i) (fun i => a.length - i) 0 (Weak.to [0, 1, 5] [] (by decide) (by decide) (by simp [hp]) (by simp) (by simp)) (by simp) fun i hi4 => ?_
    refine LWp.seq ?_
    refine LWp.seq ?_
    refine LWp.reg hT hW (fun _ => none) (fun _ => ⟨rfl, fun _ h => h⟩) ?_
    simp
    refine LWp.iff ?_
    simp
    refine ⟨fun h4 => ?_, fun h4 => ?_⟩
    · refine LWp.skip ?_
      simp
      refine LWp.seq ?_
      refine LWp.block ?_
      refine LWp.seq ?_
      refine LWp.regAny hT hW hMixed (lk [[], [], [0, 1], [0, 1, 2], [], [], [4, 5], [4, 5, 6], [0, 1, 2, 3, 4, 5, 6, 7]]) (lk [[], [], [], [], [], [], [], [], []]) (lk [[], [], [], [], [], [], [], [], []]) (by kernel_rfl) (fun _ => none) (fun _ => ⟨rfl, fun _ h => h⟩) ?_
      simp [h4, show i < b.length by omega]
      refine LWp.iff ?_
      simp
      refine ⟨fun h6 => ?_, fun h6 => ?_⟩
      · refine LWp.seq ?_
        refine LWp.reg hT hW (fun _ => none) (fun _ => ⟨rfl, fun _ h => h⟩) ?_
        simp
        refine LWp.ret ?_
        simp
        intro e
        subst e
        simp at h6
      · refine LWp.skip ?_
        simp
        refine LWp.reg hT hW (fun _ => none) (fun _ => ⟨rfl, fun _ h => h⟩) ?_
        simp
        refine ⟨by omega, ?_⟩
        refine loopQ.mk (i + 1) (Weak.to [0, 1, 5] [] (by decide) (by decide) (by simp [hp]) (by simp) (by simp)) ?_ ?_
        · exact ⟨h4, take_eq_succ hi4.2 h4 (by omega) (by simpa using h6)⟩
        · omega
    · refine LWp.exit ?_
      simp
      refine LWp.seq ?_
      refine LWp.reg hT hW (fun _ => none) (fun _ => ⟨rfl, fun _ h => h⟩) ?_
      simp
      refine LWp.ret ?_
      simp
      have e : i = a.length := by omega
      have := hi4.2
      rw [e, List.take_length] at this
      have h1' : a.length = b.length := by omega
      rw [this, h1', List.take_length]

/-- culprit/culpritref22.SameDefs -/
theorem SameDefs_ok (a b : List Df) : Ok Tryz.prog 34 [dfsD a, dfsD b] ⟨.d (.bool (decide (a = b))), true⟩ := by
  refine Ok.ret Tryz.func34 (by kernel_rfl) (c := _) rfl Tryz.ntmps34 (by simp) Tryz.results34 (by intro _ h; cases h) fun w0 X hp => ?_
  refine LWp.len (t := 0) rfl fun hlen => ?_
  simp at hlen
  refine LWp.seq ?_
  refine LWp.reg hT hW (fun _ => none) (fun _ => ⟨rfl, fun _ h => h⟩) ?_
  simp
  refine LWp.seq ?_
  refine LWp.seq ?_
  refine LWp.reg hT hW (fun _ => none) (fun _ => ⟨rfl, fun _ h => h⟩) ?_
  simp
  refine LWp.iff ?_
  simp
  refine ⟨fun h1 => ?_, fun h1 => ?_⟩
  · refine LWp.seq ?_
    refine LWp.reg hT hW (fun _ => none) (fun _ => ⟨rfl, fun _ h => h⟩) ?_
    simp
    refine LWp.ret ?_
    simp
    exact fun e => h1 (by rw [e])
  · refine LWp.skip ?_
    simp
    refine LWp.seq ?_
    refine LWp.seq ?_
    refine LWp.reg hT hW (fun _ => none) (fun _ => ⟨rfl, fun _ h => h⟩) ?_
    simp
    refine LWp.block ?_
    refine LWp.loopW (ι := Nat) (fun i => mkEnv [(0, .d (dfsD a)), (1, .d (dfsD b)), (5, .d (I64 i))]) (fun i => mkObs []) (fun i => i ≤ a.length ∧ a.take i = b.take i) (fun i => a.length - i) 0 (Weak.to [0, 1, 5] [] (by decide) (by decide) (by simp [hp]) (by simp) (by simp)) (by simp) fun i hi4 => ?_
    refine LWp.seq ?_
    refine LWp.seq ?_
    refine LWp.reg hT hW (fun _ => none) (fun _ => ⟨rfl, fun _ h => h⟩) ?_
    simp
    refine LWp.iff ?_
    simp
    refine ⟨fun h4 => ?_, fun h4 => ?_⟩
    · refine LWp.skip ?_
      simp
      refine LWp.seq ?_
      refine LWp.block ?_
      refine LWp.seq ?_
      refine LWp.regAny hT hW hMixed (lk [[], [], [0, 1], [0, 1, 2], [], [], [4, 5], [4, 5, 6], [0, 1, 2, 3, 4, 5, 6, 7]]) (lk [[], [], [], [], [], [], [], [], []]) (lk [[], [], [], [], [], [], [], [], []]) (by kernel_rfl) (fun _ => none) (fun _ => ⟨rfl, fun _ h => h⟩) ?_
      simp [h4, show i < b.length by omega]
      refine LWp.iff ?_
      simp
      refine ⟨fun h6 => ?_, fun h6 => ?_⟩
      · refine LWp.seq ?_
        refine LWp.reg hT hW (fun _ => none) (fun _ => ⟨rfl, fun _ h => h⟩) ?_
        simp
        refine LWp.ret ?_
        simp
        intro e
        subst e
        simp at h6
      · refine LWp.skip ?_
        simp
        refine LWp.reg hT hW (fun _ => none) (fun _ => ⟨rfl, fun _ h => h⟩) ?_
        simp
        refine ⟨by omega, ?_⟩
        refine loopQ.mk (i + 1) (Weak.to [0, 1, 5] [] (by decide) (by decide) (by simp [hp]) (by simp) (by simp)) ?_ ?_
        · exact ⟨h4, take_eq_succ hi4.2 h4 (by omega) (by simpa using h6)⟩
        · omega
    · refine LWp.exit ?_
      simp
      refine LWp.seq ?_
      refine LWp.reg hT hW (fun _ => none) (fun _ => ⟨rfl, fun _ h => h⟩) ?_
      simp
      refine LWp.ret ?_
      simp
      have e : i = a.length := by omega
      have := hi4.2
      rw [e, List.take_length] at this
      have h1' : a.length = b.length := by omega
      rw [this, h1', List.take_length]

/-- culprit/culpritlaw22.within -/
theorem within_ok (l o : List Nm) : Ok Tryz.prog 37 [nmsD l, nmsD o] ⟨.d (.bool (l.all fun n => decide (n ∈ o))), true⟩ := by
  refine Ok.ret Tryz.func37 (by kernel_rfl) (c := _) rfl Tryz.ntmps37 (by simp) Tryz.results37 (by intro _ h; cases h) fun w0 X hp => ?_
  refine LWp.len (t := 0) rfl fun hlen => ?_
  simp at hlen
  refine LWp.seq ?_
  refine LWp.reg hT hW (fun _ => none) (fun _ => ⟨rfl, fun _ h => h⟩) ?_
  simp
  refine LWp.seq ?_
  refine LWp.seq ?_
  refine LWp.reg hT hW (fun _ => none) (fun _ => ⟨rfl, fun _ h => h⟩) ?_
  simp
  refine LWp.block ?_
  refine LWp.loopW (ι := Nat) (fun i => mkEnv [(0, .d (nmsD l)), (1, .d (nmsD o)), (5, .d (I64 i))]) (fun i => mkObs []) (fun i => i ≤ l.length ∧ Pre (fun n => !decide (n ∈ o)) l i) (fun i => l.length - i) 0 (Weak.to [0, 1, 5] [] (by decide) (by decide) (by simp [hp]) (by simp) (by simp)) (⟨Nat.zero_le _, Pre.zero⟩) fun i hi2 => ?_
  refine LWp.seq ?_
  refine LWp.seq ?_
  refine LWp.reg hT hW (fun _ => none) (fun _ => ⟨rfl, fun _ h => h⟩) ?_
  simp
  refine LWp.iff ?_
  simp
  refine ⟨fun h2 => ?_, fun h2 => ?_⟩
  · refine LWp.skip ?_
    simp
    refine LWp.seq ?_
    refine LWp.block ?_
    refine LWp.seq ?_
    refine LWp.reg hT hW (fun | 17 => some <| .plain ⟨.d (.bool (decide (l[i] ∈ o))), true⟩ | _ => none) (by intro d; first | exact ⟨rfl, fun _ h => h⟩ | (split <;> exact ⟨rfl, fun _ h => h⟩)) ?_
    simp [h2]
    refine ⟨Has_ok o l[i], ?_⟩
    refine LWp.iff ?_
    simp
    refine ⟨fun h4 => ?_, fun h4 => ?_⟩
    · refine LWp.seq ?_
      refine LWp.reg hT hW (fun _ => none) (fun _ => ⟨rfl, fun _ h => h⟩) ?_
      simp
      refine LWp.ret ?_
      simp
      exact ⟨l[i], List.getElem_mem h2, by simpa using h4⟩
    · refine LWp.skip ?_
      simp
      refine LWp.reg hT hW (fun _ => none) (fun _ => ⟨rfl, fun _ h => h⟩) ?_
      simp
      refine ⟨by omega, ?_⟩
      refine loopQ.mk (i + 1) (Weak.to [0, 1, 5] [] (by decide) (by decide) (by simp [hp]) (by simp) (by simp)) ?_ ?_
      · exact ⟨h2, hi2.2.succ h2 (by simpa using h4)⟩
      · omega
  · refine LWp.exit ?_
    simp
    refine LWp.seq ?_
    refine LWp.reg hT hW (fun _ => none) (fun _ => ⟨rfl, fun _ h => h⟩) ?_
    simp
    refine LWp.ret ?_
    simp
    have := hi2.2.any (by omega)
    simpa using this

/-- culprit/culpritlaw22.text -/
theorem text_ok (l : List Df) (s : Str) : Ok Tryz.prog 41 [dfsD l, .str s] ⟨.d (.str (textOf l s)), true⟩ := by
  refine Ok.ret Tryz.func41 (by kernel_rfl) (c := _) rfl Tryz.ntmps41 (by simp) Tryz.results41 (by intro _ h; cases h) fun w0 X hp => ?_
  refine LWp.len (t := 0) rfl fun hlen => ?_
  simp at hlen
  refine LWp.seq ?_
  refine LWp.reg hT hW (fun _ => none) (fun _ => ⟨rfl, fun _ h => h⟩) ?_
  simp
  refine LWp.seq ?_
  refine LWp.seq ?_
  refine LWp.reg hT hW (fun _ => none) (fun _ => ⟨rfl, fun _ h => h⟩) ?_
  simp
  refine LWp.block ?_
  refine LWp.loopW (ι := Nat) (fun i => mkEnv [(0, .d (dfsD l)), (1, .d (.str s)), (5, .d (I64 i))]) (fun i => mkObs []) (fun i => i ≤ l.length ∧ Pre (fun e => decide (e.name = s)) l i) (fun i => l.length - i) 0 (Weak.to [0, 1, 5] [] (by decide) (by decide) (by simp [hp]) (by simp) (by simp)) (⟨Nat.zero_le _, Pre.zero⟩) fun i hi2 => ?_
  refine LWp.seq ?_
  refine LWp.seq ?_
  refine LWp.reg hT hW (fun _ => none) (fun _ => ⟨rfl, fun _ h => h⟩) ?_
  simp
  refine LWp.iff ?_
  simp
  refine ⟨fun h2 => ?_, fun h2 => ?_⟩
  · refine LWp.skip ?_
    simp
    refine LWp.seq ?_
    refine LWp.block ?_
    refine LWp.seq ?_
    refine LWp.reg hT hW (fun _ => none) (fun _ => ⟨rfl, fun _ h => h⟩) ?_
    simp [h2]
    refine LWp.iff ?_
    simp
    refine ⟨fun h4 => ?_, fun h4 => ?_⟩
    · refine LWp.seq ?_
      refine LWp.reg hT hW (fun _ => none) (fun _ => ⟨rfl, fun _ h => h⟩) ?_
      simp [h2]
      refine LWp.ret ?_
      have := hi2.2.found h2 (by simpa using h4)
      simp [textOf, this, h2]
    · refine LWp.skip ?_
      simp
      refine LWp.reg hT hW (fun _ => none) (fun _ => ⟨rfl, fun _ h => h⟩) ?_
      simp
      refine ⟨by omega, ?_⟩
      refine loopQ.mk (i + 1) (Weak.to [0, 1, 5] [] (by decide) (by decide) (by simp [hp]) (by simp) (by simp)) ?_ ?_
      · exact ⟨h2, hi2.2.succ h2 (by simpa using h4)⟩
      · omega
  · refine LWp.exit ?_
    simp
    refine LWp.seq ?_
    refine LWp.reg hT hW (fun _ => none) (fun _ => ⟨rfl, fun _ h => h⟩) ?_
    simp
    refine LWp.ret ?_
    have := hi2.2.none (by omega)
    simp [textOf, this]

/-- culprit/culpritref22.Drop -/
theorem Drop_ok (l : List Df) (s : Str) (hl : l.length ≤ 1000000) : Ok Tryz.prog 91 [dfsD l, .str s] ⟨.d (dfsD (dropD l s)), true⟩ := by
  refine Ok.ret Tryz.func91 (by kernel_rfl) (c := _) rfl Tryz.ntmps91 (by simp) Tryz.results91 (by intro _ h; cases h) fun w0 X hp => ?_
  refine LWp.seq ?_
  refine LWp.reg hT hW (fun _ => none) (fun _ => ⟨rfl, fun _ h => h⟩) ?_
  simp
  refine LWp.seq ?_
  refine LWp.reg hT hW (fun _ => none) (fun _ => ⟨rfl, fun _ h => h⟩) ?_
  simp
  refine LWp.seq ?_
  refine LWp.seq ?_
  refine LWp.reg hT hW (fun _ => none) (fun _ => ⟨rfl, fun _ h => h⟩) ?_
  simp
  refine LWp.block ?_
  refine LWp.loopW (ι := Nat × List Df) (fun ⟨i, acc⟩ => mkEnv [(0, .d (dfsD l)), (1, .d (.str s)), (5, .ow 5 0 acc.length), (6, .d (I64 i))]) (fun ⟨i, acc⟩ => mkObs [(5, .row false 2 (acc.map Df.d))]) (fun ⟨i, acc⟩ => i ≤ l.length ∧ acc.length ≤ i ∧ acc = dropD (l.take i) s) (fun ⟨i, acc⟩ => l.length - i) (0, []) (Weak.to [0, 1, 5, 6] [(5, 5)] (by decide) (by decide) (by simp [hp]) (by simp) (by simp)) (by simp [dropD]) fun ⟨i, acc⟩ hi3 => ?_
  refine LWp.seq ?_
  refine LWp.seq ?_
  refine LWp.reg hT hW (fun _ => none) (fun _ => ⟨rfl, fun _ h => h⟩) ?_
  simp
  refine LWp.iff ?_
  simp
  refine ⟨fun h3 => ?_, fun h3 => ?_⟩
  · refine LWp.skip ?_
    simp
    refine LWp.seq ?_
    refine LWp.block ?_
    refine LWp.seq ?_
    refine LWp.reg hT hW (fun _ => none) (fun _ => ⟨rfl, fun _ h => h⟩) ?_
    simp [h3]
    refine LWp.iff ?_
    simp
    refine ⟨fun h5 => ?_, fun h5 => ?_⟩
    · refine LWp.reg hT hW (fun _ => none) (fun _ => ⟨rfl, fun _ h => h⟩) ?_
      simp [h3]
      refine ⟨by have := hi3.2.1; omega, ?_⟩
      refine LWp.reg hT hW (fun _ => none) (fun _ => ⟨rfl, fun _ h => h⟩) ?_
      simp
      refine ⟨by omega, ?_⟩
      refine loopQ.mk (i + 1, acc ++ [l[i]]) (Weak.to [0, 1, 5, 6] [(26, 5)] (by decide) (by decide) (by simp [hp]) (by simp) (by simp)) ?_ ?_
      · exact ⟨h3, by have := hi3.2.1; simp; omega, by rw [dropD_keep h3 h5, ← hi3.2.2]⟩
      · omega
    · refine LWp.skip ?_
      simp
      refine LWp.reg hT hW (fun _ => none) (fun _ => ⟨rfl, fun _ h => h⟩) ?_
      simp
      refine ⟨by omega, ?_⟩
      refine loopQ.mk (i + 1, acc) (Weak.to [0, 1, 5, 6] [(5, 5)] (by decide) (by decide) (by simp [hp]) (by simp) (by simp)) ?_ ?_
      · exact ⟨h3, by have := hi3.2.1; simp; omega, by rw [dropD_skip h3 h5, ← hi3.2.2]⟩
      · omega
  · refine LWp.exit ?_
    simp
    refine LWp.seq ?_
    refine LWp.reg hT hW (fun _ => none) (fun _ => ⟨rfl, fun _ h => h⟩) ?_
    simp
    refine LWp.ret ?_
    have q : i = l.length := by omega
    have := hi3.2.2
    rw [q, List.take_length] at this
    simp [← this]

end Go.Eng

/-
  Chapter 22: contracts of the small functions, third part. No condition.
-/
namespace Go.Eng
open Go.Proofs
attribute [local simp] runL stepL evalG evalOp opLV constLV putEnv dstOk upd upds Res.plain Res.cond Res.fail evalBin evalUn seqQ blockQ argsEnv lookL lookH RetIs memless freshL evalPick evalMin bval bok evalLen evalIn strip whenC guardOps guardC slotsOf
  runM foldS stepI stepM maskE wrIn lk renO lookN evalCall evalCallee optAll resLV resObj retLV retObj retsLV retsObj evalLoad evalIndexAddr evalField solid cellsD_agg cellsD_int cellsD_bool cellsD_str cellsD_sl cellsD_ro cellsD_fn cellsL_agg cellsL_dagg cellsL_int cellsL_bool cellsL_str cellsL_sl cellsL_fn cellsL_ow cellsL_bx cellsL_lfn cellsL_nl takeL takeD mkAgg allD eqD eqDs kindsAre kindIs LObj.live TK.isNone TK.agg TK.isBool TK.isStr TK.isStruct Op.operands Call.operands
  evalBuildSlice evalAppend elemsOf evalStore evalBuild fillL lookupF putL evalSlice bound evalConv elemsS freezes frozen loadR
  mkEnv_at mkObs_at close_d close_agg close_ow close_bx close_fn close_nl touch_d touch_agg touch_ow touch_bx touch_fn touch_nl ren_d ren_agg ren_bx ren_rp ren_ow ren_fn ren_nl ren_junk retQ_ret retQ2_ret condQ_bool Nm.d Df.d Ed.d nmsD dfsD strsD edsD retC_ret nm_eq df_eq take_map_len take_map_app
  nm_t nm_d nm_td df_t df_d df_td str_t str_d str_td ed_t ed_d ed_td
  evalAppendIn evalCut evalClear evalCopy evalMake evalWrap evalCap evalNil isNilC lenL isInp gorc
  mapOf findD keyEq keyOk evalMakeMap evalRange zeroD zeroDV argsG shutG outN lenv retG0_ret retG0_normal retG1_ret renO close_mp touch_mp ren_mp optAll_d optAll_d' touch_ds cellsL_mp cellsD_mp cellsL_dmp

/-- culprit/culpritref22.Sort -/
theorem Sort_ok (l : List Nm) (hl : l.length ≤ 1000000) : Ok Tryz.prog 23 [nmsD l] ⟨.d (nmsD (sortN l)), true⟩ := by
  refine Ok.ret Tryz.func23 (by kernel_rfl) (c := _) rfl Tryz.ntmps23 (by simp) Tryz.results23 (by intro _ h; cases h) fun w0 X hp => ?_
  refine LWp.seq ?_
  refine LWp.reg hT hW (fun _ => none) (fun _ => ⟨rfl, fun _ h => h⟩) ?_
  simp
  refine LWp.seq ?_
  refine LWp.reg hT hW (fun _ => none) (fun _ => ⟨rfl, fun _ h => h⟩) ?_
  simp
  refine LWp.seq ?_
  refine LWp.seq ?_
  refine LWp.reg hT hW (fun _ => none) (fun _ => ⟨rfl, fun _ h => h⟩) ?_
  simp
  refine LWp.block ?_
  refine LWp.loopW (ι := Nat × List Nm) (fun ⟨i, acc⟩ => mkEnv [(0, .d (nmsD l)), (3, .ow 3 0 acc.length), (4, .d (I64 i))]) (fun ⟨i, acc⟩ => mkObs [(3, .row false 2 (acc.map Nm.d))]) (fun ⟨i, acc⟩ => i ≤ l.length ∧ acc.length ≤ i ∧ acc = sortN (l.take i)) (fun ⟨i, acc⟩ => l.length - i) (0, []) (Weak.to [0, 3, 4] [(3, 3)] (by decide) (by decide) (by simp [hp]) (by simp) (by simp)) (by simp [sortN]) fun ⟨i, acc⟩ hi3 => ?_
  refine LWp.seq ?_
  refine LWp.seq ?_
  refine LWp.reg hT hW (fun _ => none) (fun _ => ⟨rfl, fun _ h => h⟩) ?_
  simp
  refine LWp.iff ?_
  simp
  refine ⟨fun h3 => ?_, fun h3 => ?_⟩
  · refine LWp.skip ?_
    simp
    refine LWp.seq ?_
    refine LWp.block ?_
    refine LWp.seq ?_
    refine LWp.seq ?_
    refine LWp.reg hT hW (fun | 17 => some <| .plain ⟨.d (.bool (decide (l[i] ∈ acc))), true⟩ | _ => none) (by intro d; first | exact ⟨rfl, fun _ h => h⟩ | (split <;> exact ⟨rfl, fun _ h => h⟩)) ?_
    simp [h3]
    refine ⟨Has_ok acc l[i], ?_⟩
    refine LWp.iff ?_
    simp
    refine ⟨fun h5 => ?_, fun h5 => ?_⟩
    · refine LWp.exit ?_
      simp
      refine LWp.reg hT hW (fun _ => none) (fun _ => ⟨rfl, fun _ h => h⟩) ?_
      simp
      refine ⟨by omega, ?_⟩
      refine loopQ.mk (i + 1, acc) (Weak.to [0, 3, 4] [(3, 3)] (by decide) (by decide) (by simp [hp]) (by simp) (by simp)) ?_ ?_
      · exact ⟨h3, by have := hi3.2.1; simp; omega, by rw [sortN_succ h3, ← hi3.2.2]; simp [sortStep, h5]⟩
      · omega
    · refine LWp.skip ?_
      simp
      refine LWp.seq ?_
      refine LWp.reg hT hW (fun _ => none) (fun _ => ⟨rfl, fun _ h => h⟩) ?_
      simp
      refine LWp.seq ?_
      refine LWp.block ?_
      refine LWp.loopW (ι := Nat) (fun k => mkEnv [(0, .d (nmsD l)), (3, .ow 3 0 acc.length), (4, .d (I64 i)), (5, .d (I64 k))]) (fun k => mkObs [(3, .row false 2 (acc.map Nm.d))]) (fun k => k ≤ acc.length ∧ rpos (fun y => l[i].less y) acc k = rpos (fun y => l[i].less y) acc acc.length) (fun k => k) acc.length (Weak.to [0, 3, 4, 5] [(3, 3)] (by decide) (by decide) (by simp [hp]) (by simp) (by simp)) (by simp) fun k hi7 => ?_
      refine LWp.seq ?_
      refine LWp.seq ?_
      refine LWp.regAny hT hW hMixed (lk [[], [0], [0, 1], [0, 1, 2], [0, 1, 2], [0, 1, 2, 3, 4], [0, 1, 2, 3, 4, 5], [0, 1, 2], [0, 1, 2], [0, 1, 2, 8], [0, 1, 2, 7, 8, 9], [0, 1, 2, 7, 8, 9, 10], [0, 1, 2, 3, 4, 5, 6, 7, 8, 9, 10, 11], [0, 1, 2, 3, 4, 5, 6, 7, 8, 9, 10, 11, 12]]) (lk [[], [], [], [], [], [], [], [], [], [], [], [], [], []]) (lk [[], [], [], [], [], [], [], [], [], [], [], [], [32], []]) (by kernel_rfl) (fun | 32 => some <| .plain ⟨.d (.bool (l[i].less (acc.getD (k - 1) default))), true⟩ | _ => none) (by intro d; first | exact ⟨rfl, fun _ h => h⟩ | (split <;> exact ⟨rfl, fun _ h => h⟩)) ?_
      simp [h3]
      refine ⟨⟨⟨by omega, fun hk => ?_⟩, fun hk => ?_⟩, ?_⟩
      · have hk' : k - 1 < acc.length := by omega
        simp [hk']
      · have hk' : k - 1 < acc.length := by omega
        simpa [hk'] using Less_ok l[i] acc[k - 1]
      refine LWp.iff ?_
      simp
      refine ⟨fun h7 h7' => ?_, fun h7 => ?_⟩
      · obtain ⟨k, rfl⟩ : ∃ j, k = j + 1 := ⟨k - 1, by omega⟩
        refine LWp.skip ?_
        simp
        refine LWp.block ?_
        refine LWp.reg hT hW (fun _ => none) (fun _ => ⟨rfl, fun _ h => h⟩) ?_
        simp
        refine ⟨by omega, ?_⟩
        refine loopQ.mk k (Weak.to [0, 3, 4, 5] [(3, 3)] (by decide) (by decide) (by simp [hp]) (by simp) (by simp)) ?_ ?_
        · have hk : k < acc.length := hi7.1
          refine ⟨by omega, ?_⟩
          rw [← hi7.2, rpos_go hk (by simpa [hk] using h7')]
        · omega
      · refine LWp.exit ?_
        simp
        refine LWp.regAny hT hW hMixed (lk [[], [], [], [1, 2], [0, 1, 2, 3], [], [], [5, 6], [5, 6, 7], [5, 6, 7, 8], [0, 1, 2, 3, 4, 5, 6, 7, 8, 9], [], [], [11, 12], [0, 1, 2, 3, 4, 5, 6, 7, 8, 9, 10, 11, 12, 13], [0, 1, 2, 3, 4, 5, 6, 7, 8, 9, 10, 11, 12, 13, 14]]) (lk [[45], [36, 45], [36, 45], [36, 45], [45], [36, 40], [36, 40], [36, 40], [36, 40], [36, 40], [], [36, 40, 45, 46], [36, 40, 45, 46], [36, 40, 45, 46], [], []]) (lk [[36], [], [], [], [36, 40], [], [], [], [], [45], [40, 46], [], [], [], [46, 50], []]) (by kernel_rfl) (fun _ => none) (fun _ => ⟨rfl, fun _ h => h⟩) ?_
        simp [h3]
        have hb := hi3.2.1
        have hc := hi7.1
        refine ⟨by omega, ?_⟩
        refine LWp.reg hT hW (fun _ => none) (fun _ => ⟨rfl, fun _ h => h⟩) ?_
        simp
        refine ⟨by omega, ?_⟩
        refine loopQ.mk (i + 1, insAt k l[i] acc) (Weak.to [0, 3, 4] [(50, 3)] (by decide) (by decide) (by simp [hp]) (by simp [insAt_length, Nat.min_eq_left hi7.1, show k + 1 + (acc.length - k) = acc.length + 1 by have := hi7.1; omega]) (by simp [Nat.min_eq_left hi7.1, row_ins_nm hi7.1])) ?_ ?_
        · refine ⟨h3, by have := hi3.2.1; simp [insAt_length]; omega, ?_⟩
          rw [sortN_succ h3, ← hi3.2.2]
          have hk : rpos (fun y => l[i].less y) acc k = k := rpos_stop fun j hj hjl => by
            subst hj
            simpa [hjl] using h7 (by omega)
          simp only [sortStep, if_neg h5, ← hi7.2, hk]
        · omega
  · refine LWp.exit ?_
    simp
    refine LWp.seq ?_
    refine LWp.reg hT hW (fun _ => none) (fun _ => ⟨rfl, fun _ h => h⟩) ?_
    simp
    refine LWp.ret ?_
    have q : i = l.length := by omega
    have := hi3.2.2
    rw [q, List.take_length] at this
    simp [← this]

/-- culprit/culpritref22.Put -/
theorem Put_ok (l : List Df) (d : Df) (hl : l.length ≤ 1000000) : Ok Tryz.prog 92 [dfsD l, d.d] ⟨.d (dfsD (putD l d)), true⟩ := by
  have hm : (dropD l d.name).length ≤ 1000000 := Nat.le_trans (List.length_filter_le _ _) hl
  unfold putD
  generalize hq : dropD l d.name = m at *
  refine Ok.ret Tryz.func92 (by kernel_rfl) (c := _) rfl Tryz.ntmps92 (by simp) Tryz.results92 (by intro _ h; cases h) fun w0 X hp => ?_
  refine LWp.seq ?_
  refine LWp.reg hT hW (fun _ => none) (fun _ => ⟨rfl, fun _ h => h⟩) ?_
  simp
  refine LWp.seq ?_
  refine LWp.reg hT hW (fun | 10 => some <| .plain ⟨.d (dfsD m), true⟩ | _ => none) (by intro d; first | exact ⟨rfl, fun _ h => h⟩ | (split <;> exact ⟨rfl, fun _ h => h⟩)) ?_
  simp
  refine ⟨hq ▸ Drop_ok l d.name hl, ?_⟩
  refine LWp.seq ?_
  refine LWp.reg hT hW (fun _ => none) (fun _ => ⟨rfl, fun _ h => h⟩) ?_
  simp
  refine LWp.seq ?_
  refine LWp.block ?_
  refine LWp.loopW (ι := Nat) (fun k => mkEnv [(3, .bx 3 0), (5, .d (dfsD m)), (6, .d (I64 k))]) (fun k => mkObs [(3, .box false [.d (.str d.name), .d (.str d.text)])]) (fun k => k ≤ m.length ∧ rpos (fun y => Op.bytesLess d.name y.name) m k = rpos (fun y => Op.bytesLess d.name y.name) m m.length) (fun k => k) m.length (Weak.to [3, 5, 6] [(3, 3)] (by decide) (by decide) (by simp [hp]) (by simp) (by simp)) (by simp) fun k hi3 => ?_
  refine LWp.seq ?_
  refine LWp.seq ?_
  rcases k with _ | k
  · refine LWp.regAny hT hW hMixed (lk [[], [0], [0, 1], [0, 1, 2], [0, 1, 2, 3], [0, 1, 2], [0, 1, 2], [0, 1, 2, 6], [0, 1, 2, 5, 6, 7], [0, 1, 2, 5, 6, 7, 8], [0, 1, 2, 5, 6, 7, 8, 9], [0, 1, 2, 3, 4, 5, 6, 7, 8, 9, 10], [0, 1, 2, 3, 4, 5, 6, 7, 8, 9, 10, 11]]) (lk [[], [], [], [], [], [], [], [], [], [], [], [], []]) (lk [[], [], [], [], [], [], [], [], [], [], [], [], []]) (by kernel_rfl) (fun _ => none) (fun _ => ⟨rfl, fun _ h => h⟩) ?_
    simp [Nat.zero_le]
    refine LWp.iff ?_
    simp [Nat.zero_le]
    refine LWp.exit ?_
    simp
    refine LWp.seq ?_
    refine LWp.regAny hT hW hMixed (lk [[], [], [], [1, 2], [0, 1, 2, 3], [], [5], [0, 1, 2, 3, 4, 5, 6], [], [], [8, 9], [0, 1, 2, 3, 4, 5, 6, 7, 8, 9, 10], [0, 1, 2, 3, 4, 5, 6, 7, 8, 9, 10, 11]]) (lk [[34], [28, 34], [28, 34], [28, 34], [34], [28, 32], [28, 32], [], [28, 32, 34, 35], [28, 32, 34, 35], [28, 32, 34, 35], [], []]) (lk [[28], [], [], [], [28, 32], [], [34], [32, 35], [], [], [], [35, 39], []]) (by kernel_rfl) (fun _ => none) (fun _ => ⟨rfl, fun _ h => h⟩) ?_
    simp
    refine ⟨by have hc := hi3.1; omega, ?_⟩
    refine LWp.ret ?_
    simp
    have e : List.take (1 + m.length) (DV.agg [DV.str d.name, DV.str d.text] :: List.map Df.d m) = List.map Df.d (insAt (rpos (fun y => Op.bytesLess d.name y.name) m m.length) d m) := by
      rw [← hi3.2]
      rw [List.take_of_length_le (by simp; omega)]
      simp [rpos, insAt]
    rw [e]
    exact ⟨rfl, fun x hx c hc => (df_mem hx).2 c hc⟩
  · refine LWp.regAny hT hW hMixed (lk [[], [0], [0, 1], [0, 1, 2], [0, 1, 2, 3], [0, 1, 2], [0, 1, 2], [0, 1, 2, 6], [0, 1, 2, 5, 6, 7], [0, 1, 2, 5, 6, 7, 8], [0, 1, 2, 5, 6, 7, 8, 9], [0, 1, 2, 3, 4, 5, 6, 7, 8, 9, 10], [0, 1, 2, 3, 4, 5, 6, 7, 8, 9, 10, 11]]) (lk [[], [], [], [], [], [], [], [], [], [], [], [], []]) (lk [[], [], [], [], [], [], [], [], [], [], [], [], []]) (by kernel_rfl) (fun _ => none) (fun _ => ⟨rfl, fun _ h => h⟩) ?_
    simp [show k < m.length from hi3.1]
    refine ⟨by have := hi3.1; omega, ?_⟩
    refine LWp.iff ?_
    simp
    refine ⟨fun h3 => ?_, fun h3 => ?_⟩
    · refine LWp.skip ?_
      simp
      refine LWp.block ?_
      refine LWp.reg hT hW (fun _ => none) (fun _ => ⟨rfl, fun _ h => h⟩) ?_
      simp
      refine ⟨by omega, ?_⟩
      refine loopQ.mk k (Weak.to [3, 5, 6] [(3, 3)] (by decide) (by decide) (by simp [hp]) (by simp) (by simp)) ?_ ?_
      · have hk : k < m.length := hi3.1
        refine ⟨by omega, ?_⟩
        rw [← hi3.2, rpos_go hk h3]
      · omega
    · refine LWp.exit ?_
      simp
      refine LWp.seq ?_
      refine LWp.regAny hT hW hMixed (lk [[], [], [], [1, 2], [0, 1, 2, 3], [], [5], [0, 1, 2, 3, 4, 5, 6], [], [], [8, 9], [0, 1, 2, 3, 4, 5, 6, 7, 8, 9, 10], [0, 1, 2, 3, 4, 5, 6, 7, 8, 9, 10, 11]]) (lk [[34], [28, 34], [28, 34], [28, 34], [34], [28, 32], [28, 32], [], [28, 32, 34, 35], [28, 32, 34, 35], [28, 32, 34, 35], [], []]) (lk [[28], [], [], [], [28, 32], [], [34], [32, 35], [], [], [], [35, 39], []]) (by kernel_rfl) (fun _ => none) (fun _ => ⟨rfl, fun _ h => h⟩) ?_
      simp
      refine ⟨by have hc := hi3.1; omega, ?_⟩
      refine LWp.ret ?_
      simp
      have hk : rpos (fun y => Op.bytesLess d.name y.name) m (k + 1) = k + 1 := rpos_stop fun j hj hjl => by
        have : k = j := by omega
        subst this
        exact h3
      have hle : k + 1 ≤ m.length := hi3.1
      have e := row_ins_df (x := d) hle
      rw [Nat.min_eq_left hle, show k + 1 + 1 + (m.length - (k + 1)) = m.length + 1 by omega]
      rw [List.take_of_length_le (by simp; omega), ← hi3.2, hk]
      rw [show List.drop (k + 1) (List.map Df.d m) = List.take (m.length - (k + 1)) (List.drop (k + 1) (List.map Df.d m)) from (List.take_of_length_le (by simp)).symm, e]
      exact ⟨rfl, fun x hx c hc => (df_mem hx).2 c hc⟩

end Go.Eng

/-
  Chapter 22: contracts of functions of slices at its types, and of the small functions of package edit. No condition.
-/
namespace Go.Eng
open Go.Proofs
attribute [local simp] runL stepL evalG evalOp opLV constLV putEnv dstOk upd upds Res.plain Res.cond Res.fail evalBin evalUn seqQ blockQ argsEnv lookL lookH RetIs memless freshL evalPick evalMin bval bok evalLen evalIn strip whenC guardOps guardC slotsOf
  runM foldS stepI stepM maskE wrIn lk renO lookN evalCall evalCallee optAll resLV resObj retLV retObj retsLV retsObj evalLoad evalIndexAddr evalField solid cellsD_agg cellsD_int cellsD_bool cellsD_str cellsD_sl cellsD_ro cellsD_fn cellsL_agg cellsL_dagg cellsL_int cellsL_bool cellsL_str cellsL_sl cellsL_fn cellsL_ow cellsL_bx cellsL_lfn cellsL_nl takeL takeD mkAgg allD eqD eqDs kindsAre kindIs LObj.live TK.isNone TK.agg TK.isBool TK.isStr TK.isStruct Op.operands Call.operands
  evalBuildSlice evalAppend elemsOf evalStore evalBuild fillL lookupF putL evalSlice bound evalConv elemsS freezes frozen loadR
  mkEnv_at mkObs_at close_d close_agg close_ow close_bx close_fn close_nl touch_d touch_agg touch_ow touch_bx touch_fn touch_nl ren_d ren_agg ren_bx ren_rp ren_ow ren_fn ren_nl ren_junk retQ_ret retQ2_ret condQ_bool Nm.d Df.d Ed.d nmsD dfsD strsD edsD retC_ret nm_eq df_eq take_map_len take_map_app
  nm_t nm_d nm_td df_t df_d df_td str_t str_d str_td ed_t ed_d ed_td
  evalAppendIn evalCut evalClear evalCopy evalMake evalWrap evalCap evalNil isNilC lenL isInp gorc
  mapOf findD keyEq keyOk evalMakeMap evalRange zeroD zeroDV argsG shutG outN lenv retG0_ret retG0_normal retG1_ret renO close_mp touch_mp ren_mp optAll_d optAll_d' touch_ds cellsL_mp cellsD_mp cellsL_dmp

def idxI {α : Type} (p : α → Bool) (l : List α) : Int := match l.findIdx? p with | some i => i | none => -1
theorem idxI_some {α : Type} {p : α → Bool} {l : List α} {i : Nat} (h : l.findIdx? p = some i) : idxI p l = i := by simp [idxI, h]
theorem idxI_none {α : Type} {p : α → Bool} {l : List α} (h : l.findIdx? p = none) : idxI p l = -1 := by simp [idxI, h]
theorem idxI_nonneg {α : Type} {p : α → Bool} {l : List α} : decide (0 ≤ idxI p l) = l.any p := by
  unfold idxI
  split
  · rename_i i hi
    obtain ⟨h1, h2, _⟩ := List.findIdx?_eq_some_iff_getElem.1 hi
    have : l.any p = true := any_at h1 h2
    rw [this]; simp
  · rename_i hi
    rw [List.findIdx?_eq_none_iff] at hi
    have : l.any p = false := by rw [List.any_eq_false]; intro x hx; rw [hi x hx]; simp
    rw [this]; simp
theorem idxI_nonneg' {α : Type} {p : α → Bool} {l : List α} : 0 ≤ idxI p l ↔ l.any p = true := by
  rw [← idxI_nonneg]; simp

/-- slices.IndexFunc[[]culprit/api.Edit,culprit/api.Edit] -/
theorem IndexEd_ok (l : List Ed) (p : Ed → Bool) (g : FuncId) (cs : List DV) (hg : ∀ x ∈ l, Ok Tryz.prog g (x.d :: cs) ⟨.d (.bool (p x)), true⟩) : Ok Tryz.prog 83 [edsD l, .fn g cs] ⟨.d (I64 (idxI p l)), true⟩ := by
  refine Ok.ret Tryz.func83 (by kernel_rfl) (c := _) rfl Tryz.ntmps83 (by simp) Tryz.results83 (by intro _ h; cases h) fun w0 X hp => ?_
  refine LWp.len (t := 0) rfl fun hlen => ?_
  simp at hlen
  refine LWp.seq ?_
  refine LWp.reg hT hW (fun _ => none) (fun _ => ⟨rfl, fun _ h => h⟩) ?_
  simp
  refine LWp.seq ?_
  refine LWp.seq ?_
  refine LWp.reg hT hW (fun _ => none) (fun _ => ⟨rfl, fun _ h => h⟩) ?_
  simp
  refine LWp.block ?_
  refine LWp.loopW (ι := Nat) (fun i => mkEnv [(0, .d (edsD l)), (1, .d (.fn g cs)), (7, .d (I64 l.length)), (8, .d (I64 i))]) (fun i => mkObs []) (fun i => i ≤ l.length ∧ Pre p l i) (fun i => l.length - i) 0 (Weak.to [0, 1, 7, 8] [] (by decide) (by decide) (by simp [hp]) (by simp) (by simp)) (⟨Nat.zero_le _, Pre.zero⟩) fun i hi2 => ?_
  refine LWp.seq ?_
  refine LWp.reg hT hW (fun _ => none) (fun _ => ⟨rfl, fun _ h => h⟩) ?_
  simp
  refine LWp.seq ?_
  refine LWp.iff ?_
  simp
  refine ⟨fun h2 => ?_, fun h2 => ?_⟩
  · refine LWp.skip ?_
    simp
    refine LWp.seq ?_
    refine LWp.block ?_
    refine LWp.seq ?_
    refine LWp.reg hT hW (fun _ => none) (fun _ => ⟨rfl, fun _ h => h⟩) ?_
    simp
    refine LWp.seq ?_
    refine LWp.reg hT hW (fun | 16 => some <| .plain ⟨.d (.bool (p l[i])), true⟩ | _ => none) (by intro d; first | exact ⟨rfl, fun _ h => h⟩ | (split <;> exact ⟨rfl, fun _ h => h⟩)) ?_
    simp [h2]
    refine ⟨hg l[i] (List.getElem_mem h2), ?_⟩
    refine LWp.iff ?_
    simp
    refine ⟨fun h4 => ?_, fun h4 => ?_⟩
    · refine LWp.seq ?_
      refine LWp.reg hT hW (fun _ => none) (fun _ => ⟨rfl, fun _ h => h⟩) ?_
      simp
      refine LWp.ret ?_
      simp [idxI_some (hi2.2.found h2 h4)]
    · refine LWp.skip ?_
      simp
      refine LWp.reg hT hW (fun _ => none) (fun _ => ⟨rfl, fun _ h => h⟩) ?_
      simp
      refine ⟨by omega, ?_⟩
      refine loopQ.mk (i + 1) (Weak.to [0, 1, 7, 8] [] (by decide) (by decide) (by simp [hp]) (by simp) (by simp)) ?_ ?_
      · exact ⟨h2, hi2.2.succ h2 h4⟩
      · omega
  · refine LWp.exit ?_
    simp
    refine LWp.seq ?_
    refine LWp.reg hT hW (fun _ => none) (fun _ => ⟨rfl, fun _ h => h⟩) ?_
    simp
    refine LWp.ret ?_
    simp [idxI_none (hi2.2.none (by omega))]

/-- slices.IndexFunc[[]culprit/api.Name,culprit/api.Name] -/
theorem IndexNm_ok (l : List Nm) (p : Nm → Bool) (g : FuncId) (cs : List DV) (hg : ∀ x ∈ l, Ok Tryz.prog g (x.d :: cs) ⟨.d (.bool (p x)), true⟩) : Ok Tryz.prog 126 [nmsD l, .fn g cs] ⟨.d (I64 (idxI p l)), true⟩ := by
  refine Ok.ret Tryz.func126 (by kernel_rfl) (c := _) rfl Tryz.ntmps126 (by simp) Tryz.results126 (by intro _ h; cases h) fun w0 X hp => ?_
  refine LWp.len (t := 0) rfl fun hlen => ?_
  simp at hlen
  refine LWp.seq ?_
  refine LWp.reg hT hW (fun _ => none) (fun _ => ⟨rfl, fun _ h => h⟩) ?_
  simp
  refine LWp.seq ?_
  refine LWp.seq ?_
  refine LWp.reg hT hW (fun _ => none) (fun _ => ⟨rfl, fun _ h => h⟩) ?_
  simp
  refine LWp.block ?_
  refine LWp.loopW (ι := Nat) (fun i => mkEnv [(0, .d (nmsD l)), (1, .d (.fn g cs)), (7, .d (I64 l.length)), (8, .d (I64 i))]) (fun i => mkObs []) (fun i => i ≤ l.length ∧ Pre p l i) (fun i => l.length - i) 0 (Weak.to [0, 1, 7, 8] [] (by decide) (by decide) (by simp [hp]) (by simp) (by simp)) (⟨Nat.zero_le _, Pre.zero⟩) fun i hi2 => ?_
  refine LWp.seq ?_
  refine LWp.reg hT hW (fun _ => none) (fun _ => ⟨rfl, fun _ h => h⟩) ?_
  simp
  refine LWp.seq ?_
  refine LWp.iff ?_
  simp
  refine ⟨fun h2 => ?_, fun h2 => ?_⟩
  · refine LWp.skip ?_
    simp
    refine LWp.seq ?_
    refine LWp.block ?_
    refine LWp.seq ?_
    refine LWp.reg hT hW (fun _ => none) (fun _ => ⟨rfl, fun _ h => h⟩) ?_
    simp
    refine LWp.seq ?_
    refine LWp.reg hT hW (fun | 16 => some <| .plain ⟨.d (.bool (p l[i])), true⟩ | _ => none) (by intro d; first | exact ⟨rfl, fun _ h => h⟩ | (split <;> exact ⟨rfl, fun _ h => h⟩)) ?_
    simp [h2]
    refine ⟨hg l[i] (List.getElem_mem h2), ?_⟩
    refine LWp.iff ?_
    simp
    refine ⟨fun h4 => ?_, fun h4 => ?_⟩
    · refine LWp.seq ?_
      refine LWp.reg hT hW (fun _ => none) (fun _ => ⟨rfl, fun _ h => h⟩) ?_
      simp
      refine LWp.ret ?_
      simp [idxI_some (hi2.2.found h2 h4)]
    · refine LWp.skip ?_
      simp
      refine LWp.reg hT hW (fun _ => none) (fun _ => ⟨rfl, fun _ h => h⟩) ?_
      simp
      refine ⟨by omega, ?_⟩
      refine loopQ.mk (i + 1) (Weak.to [0, 1, 7, 8] [] (by decide) (by decide) (by simp [hp]) (by simp) (by simp)) ?_ ?_
      · exact ⟨h2, hi2.2.succ h2 h4⟩
      · omega
  · refine LWp.exit ?_
    simp
    refine LWp.seq ?_
    refine LWp.reg hT hW (fun _ => none) (fun _ => ⟨rfl, fun _ h => h⟩) ?_
    simp
    refine LWp.ret ?_
    simp [idxI_none (hi2.2.none (by omega))]

/-- slices.ContainsFunc[[]culprit/api.Name,culprit/api.Name] -/
theorem AnyNm_ok (l : List Nm) (p : Nm → Bool) (g : FuncId) (cs : List DV) (hg : ∀ x ∈ l, Ok Tryz.prog g (x.d :: cs) ⟨.d (.bool (p x)), true⟩) : Ok Tryz.prog 65 [nmsD l, .fn g cs] ⟨.d (.bool (l.any p)), true⟩ := by
  refine Ok.ret Tryz.func65 (by kernel_rfl) (c := _) rfl Tryz.ntmps65 (by simp) Tryz.results65 (by intro _ h; cases h) fun w0 X hp => ?_
  refine LWp.seq ?_
  refine LWp.reg hT hW (fun _ => none) (fun _ => ⟨rfl, fun _ h => h⟩) ?_
  simp
  refine LWp.seq ?_
  refine LWp.reg hT hW (fun | 7 => some <| .plain ⟨.d (I64 (idxI p l)), true⟩ | _ => none) (by intro d; first | exact ⟨rfl, fun _ h => h⟩ | (split <;> exact ⟨rfl, fun _ h => h⟩)) ?_
  simp
  refine ⟨IndexNm_ok l p g cs hg, ?_⟩
  refine LWp.ret ?_
  simp [← idxI_nonneg]

/-- slices.Index[[]culprit/api.Name,culprit/api.Name] -/
theorem IndexOfNm_ok (l : List Nm) (n : Nm) : Ok Tryz.prog 131 [nmsD l, n.d] ⟨.d (I64 (idxI (fun x => decide (n = x)) l)), true⟩ := by
  refine Ok.ret Tryz.func131 (by kernel_rfl) (c := _) rfl Tryz.ntmps131 (by simp) Tryz.results131 (by intro _ h; cases h) fun w0 X hp => ?_
  refine LWp.len (t := 0) rfl fun hlen => ?_
  simp at hlen
  refine LWp.seq ?_
  refine LWp.reg hT hW (fun _ => none) (fun _ => ⟨rfl, fun _ h => h⟩) ?_
  simp
  refine LWp.seq ?_
  refine LWp.seq ?_
  refine LWp.reg hT hW (fun _ => none) (fun _ => ⟨rfl, fun _ h => h⟩) ?_
  simp
  refine LWp.block ?_
  refine LWp.loopW (ι := Nat) (fun i => mkEnv [(0, .d (nmsD l)), (3, .bx 3 0), (7, .d (I64 l.length)), (8, .d (I64 i))]) (fun i => mkObs [(3, .box false [.d (I64 n.who), .d (I64 n.seq)])]) (fun i => i ≤ l.length ∧ Pre (fun x => decide (n = x)) l i) (fun i => l.length - i) 0 (Weak.to [0, 3, 7, 8] [(3, 3)] (by decide) (by decide) (by simp [hp]) (by simp) (by simp)) (⟨Nat.zero_le _, Pre.zero⟩) fun i hi2 => ?_
  refine LWp.seq ?_
  refine LWp.reg hT hW (fun _ => none) (fun _ => ⟨rfl, fun _ h => h⟩) ?_
  simp
  refine LWp.seq ?_
  refine LWp.iff ?_
  simp
  refine ⟨fun h2 => ?_, fun h2 => ?_⟩
  · refine LWp.skip ?_
    simp
    refine LWp.seq ?_
    refine LWp.block ?_
    refine LWp.seq ?_
    refine LWp.reg hT hW (fun _ => none) (fun _ => ⟨rfl, fun _ h => h⟩) ?_
    simp
    refine LWp.seq ?_
    refine LWp.regAny hT hW hMixed (lk [[], [], [], [1, 2], [1, 2, 3], [0, 1, 2, 3, 4]]) (lk [[], [], [], [], [], []]) (lk [[], [], [], [], [], []]) (by kernel_rfl) (fun _ => none) (fun _ => ⟨rfl, fun _ h => h⟩) ?_
    simp [h2]
    refine LWp.iff ?_
    simp
    refine ⟨fun h4 => ?_, fun h4 => ?_⟩
    · refine LWp.seq ?_
      refine LWp.reg hT hW (fun _ => none) (fun _ => ⟨rfl, fun _ h => h⟩) ?_
      simp
      refine LWp.ret ?_
      simp [idxI_some (hi2.2.found h2 (by simpa using h4))]
    · refine LWp.skip ?_
      simp
      refine LWp.reg hT hW (fun _ => none) (fun _ => ⟨rfl, fun _ h => h⟩) ?_
      simp
      refine ⟨by omega, ?_⟩
      refine loopQ.mk (i + 1) (Weak.to [0, 3, 7, 8] [(3, 3)] (by decide) (by decide) (by simp [hp]) (by simp) (by simp)) ?_ ?_
      · exact ⟨h2, hi2.2.succ h2 (by simpa using h4)⟩
      · omega
  · refine LWp.exit ?_
    simp
    refine LWp.seq ?_
    refine LWp.reg hT hW (fun _ => none) (fun _ => ⟨rfl, fun _ h => h⟩) ?_
    simp
    refine LWp.ret ?_
    simp [idxI_none (hi2.2.none (by omega))]

/-- slices.Contains[[]culprit/api.Name,culprit/api.Name] -/
theorem InNm_ok (l : List Nm) (n : Nm) : Ok Tryz.prog 77 [nmsD l, n.d] ⟨.d (.bool (decide (n ∈ l))), true⟩ := by
  refine Ok.ret Tryz.func77 (by kernel_rfl) (c := _) rfl Tryz.ntmps77 (by simp) Tryz.results77 (by intro _ h; cases h) fun w0 X hp => ?_
  refine LWp.seq ?_
  refine LWp.reg hT hW (fun _ => none) (fun _ => ⟨rfl, fun _ h => h⟩) ?_
  simp
  refine LWp.seq ?_
  refine LWp.reg hT hW (fun | 7 => some <| .plain ⟨.d (I64 (idxI (fun x => decide (n = x)) l)), true⟩ | _ => none) (by intro d; first | exact ⟨rfl, fun _ h => h⟩ | (split <;> exact ⟨rfl, fun _ h => h⟩)) ?_
  simp
  refine ⟨IndexOfNm_ok l n, ?_⟩
  refine LWp.ret ?_
  simp [idxI_nonneg']

/-- culprit/edit.Find$1 -/
theorem FindF_ok (e : Ed) (n : Nm) : Ok Tryz.prog 84 [e.d, .ro [I64 n.who, I64 n.seq]] ⟨.d (.bool (decide (e.name = n))), true⟩ := by
  refine Ok.ret Tryz.func84 (by kernel_rfl) (c := _) rfl Tryz.ntmps84 (by simp) Tryz.results84 (by intro _ h; cases h) fun w0 X hp => ?_
  refine LWp.seq ?_
  refine LWp.reg hT hW (fun _ => none) (fun _ => ⟨rfl, fun _ h => h⟩) ?_
  simp
  refine LWp.seq ?_
  refine LWp.reg hT hW (fun _ => none) (fun _ => ⟨rfl, fun _ h => h⟩) ?_
  simp
  refine LWp.ret ?_
  simp

/-- culprit/edit.Find -/
theorem EFind_ok (l : List Ed) (n : Nm) : Ok Tryz.prog 25 [edsD l, n.d] ⟨.d (I64 (findI l n)), true⟩ := by
  refine Ok.ret Tryz.func25 (by kernel_rfl) (c := _) rfl Tryz.ntmps25 (by simp) Tryz.results25 (by intro _ h; cases h) fun w0 X hp => ?_
  refine LWp.seq ?_
  refine LWp.reg hT hW (fun _ => none) (fun _ => ⟨rfl, fun _ h => h⟩) ?_
  simp
  refine LWp.seq ?_
  refine LWp.reg hT hW (fun | 7 => some <| .plain ⟨.d (I64 (findI l n)), true⟩ | _ => none) (by intro d; first | exact ⟨rfl, fun _ h => h⟩ | (split <;> exact ⟨rfl, fun _ h => h⟩)) ?_
  simp
  refine ⟨IndexEd_ok l (fun e => decide (e.name = n)) _ _ fun e _ => FindF_ok e n, ?_⟩
  refine LWp.ret ?_
  simp

end Go.Eng

/-
  Chapter 22: what package edit finds above a name. No condition.
-/
namespace Go.Eng
open Go.Proofs
attribute [local simp] runL stepL evalG evalOp opLV constLV putEnv dstOk upd upds Res.plain Res.cond Res.fail evalBin evalUn seqQ blockQ argsEnv lookL lookH RetIs memless freshL evalPick evalMin bval bok evalLen evalIn strip whenC guardOps guardC slotsOf
  runM foldS stepI stepM maskE wrIn lk renO lookN evalCall evalCallee optAll resLV resObj retLV retObj retsLV retsObj evalLoad evalIndexAddr evalField solid cellsD_agg cellsD_int cellsD_bool cellsD_str cellsD_sl cellsD_ro cellsD_fn cellsL_agg cellsL_dagg cellsL_int cellsL_bool cellsL_str cellsL_sl cellsL_fn cellsL_ow cellsL_bx cellsL_lfn cellsL_nl takeL takeD mkAgg allD eqD eqDs kindsAre kindIs LObj.live TK.isNone TK.agg TK.isBool TK.isStr TK.isStruct Op.operands Call.operands
  evalBuildSlice evalAppend elemsOf evalStore evalBuild fillL lookupF putL evalSlice bound evalConv elemsS freezes frozen loadR
  mkEnv_at mkObs_at close_d close_agg close_ow close_bx close_fn close_nl touch_d touch_agg touch_ow touch_bx touch_fn touch_nl ren_d ren_agg ren_bx ren_rp ren_ow ren_fn ren_nl ren_junk retQ_ret retQ2_ret condQ_bool Nm.d Df.d Ed.d nmsD dfsD strsD edsD retC_ret nm_eq df_eq take_map_len take_map_app
  nm_t nm_d nm_td df_t df_d df_td str_t str_d str_td ed_t ed_d ed_td
  evalAppendIn evalCut evalClear evalCopy evalMake evalWrap evalCap evalNil isNilC lenL isInp gorc
  mapOf findD keyEq keyOk evalMakeMap evalRange zeroD zeroDV argsG shutG outN lenv retG0_ret retG0_normal retG1_ret renO close_mp touch_mp ren_mp optAll_d optAll_d' touch_ds cellsL_mp cellsD_mp cellsL_dmp

theorem findD_nm {m : Nm} : ∀ {M : List Nm} {i : Nat}, findD (.agg [.int .i64 m.who, .int .i64 m.seq]) (List.map Nm.d M) i = some ((M.findIdx? fun x => decide (m = x)).map (· + i))
  | [], i => by simp [findD]
  | x :: M, i => by
    have ih := findD_nm (m := m) (M := M) (i := i + 1)
    simp only [List.map_cons, findD]
    have e : keyEq (.agg [.int .i64 m.who, .int .i64 m.seq]) (Nm.d x) = some (decide (m = x)) := by
      cases m; cases x; simp [keyEq, Nm.d, eqDs, eqD]
    rw [e, List.findIdx?_cons]
    cases q : decide (m = x) with
    | true => simp
    | false =>
      simp only [ih, Bool.false_eq_true, if_false]
      cases (M.findIdx? fun x => decide (m = x)) with
      | none => rfl
      | some j => simp; omega
theorem find_none {M : List Nm} {m : Nm} (h : m ∉ M) : (M.findIdx? fun x => decide (m = x)) = none := by
  rw [List.findIdx?_eq_none_iff]
  intro x hx
  simp
  intro e; subst e; exact h hx
theorem find_some {M : List Nm} {m : Nm} (h : m ∈ M) : ∃ j, (M.findIdx? fun x => decide (m = x)) = some j ∧ j < M.length := by
  cases q : (M.findIdx? fun x => decide (m = x)) with
  | none => rw [List.findIdx?_eq_none_iff] at q; have := q m h; simp at this
  | some j => exact ⟨j, rfl, (List.findIdx?_eq_some_iff_getElem.1 q).1⟩
theorem look_set (M : List Nm) {H : Obs} {x : LV} {m : Nm} (h : mapOf H x = some (List.map Nm.d M, List.map (fun _ => .bool true) M)) :
    evalLookup T H 112 x (.d (.agg [.int .i64 m.who, .int .i64 m.seq])) false = ⟨.d (.bool (decide (m ∈ M))), True, []⟩ := by
  unfold evalLookup
  simp only [t112, h, findD_nm]
  by_cases hm : m ∈ M
  · obtain ⟨j, hj, hl⟩ := find_some hm
    simp [hj, hl, hm, keyOk, kindsAre, kindIs]
  · simp [find_none hm, hm, keyOk, kindsAre, kindIs, zeroD, zeroDV, TK.isNone, TK.agg]
theorem look_set' (M : List Nm) {H : Obs} {m : Nm} : evalLookup T H 112 (.d (.mp (List.map Nm.d M) (List.map (fun _ => .bool true) M))) (.d (.agg [.int .i64 m.who, .int .i64 m.seq])) false = ⟨.d (.bool (decide (m ∈ M))), True, []⟩ := look_set M rfl
theorem put_set (M : List Nm) {H : Obs} {id : Nat} {m : Nm} (hm : m ∉ M) (h : H id = .map false (List.map Nm.d M) (List.map (fun _ => .bool true) M)) :
    evalMapUpdate T H 112 (.mp id) (.d (.agg [.int .i64 m.who, .int .i64 m.seq])) (.d (.bool true)) = ⟨.junk, True, [(id, .map false (List.map Nm.d (M ++ [m])) (List.map (fun _ => .bool true) (M ++ [m])))]⟩ := by
  unfold evalMapUpdate
  simp only [t112, h, findD_nm, find_none hm]
  simp [keyOk, kindsAre, kindIs, Nm.d]
theorem edit_find {l : List Ed} {n : Nm} (h : ¬ findI l n < 0) : ∃ i, ∃ hi : i < l.length, find? l n = some i ∧ findI l n = i ∧ needsOf l n = l[i].needs := by
  unfold findI at h
  split at h
  · rename_i i hi
    have hl := (List.findIdx?_eq_some_iff_getElem.1 (show l.findIdx? _ = some i from hi)).1
    exact ⟨i, hl, hi, by simp [findI, hi], by simp [needsOf, hi, hl]⟩
  · simp at h
theorem edit_none {l : List Ed} {n : Nm} (h : findI l n < 0) : needsOf l n = [] := by
  unfold findI at h
  split at h
  · rename_i i hi; omega
  · rename_i hi; simp [needsOf, hi]
def climbH (l : List Ed) (M : List Nm) : List (Nat × LObj) := [(1, .box false [.d (edsD l)]), (2, .box false [.mp 100]), (3, .box false [.fn 130 [.bx 1 0, .bx 2 0, .bx 3 0]]), (100, .map false (List.map Nm.d M) (List.map (fun _ => .bool true) M))]

/-- culprit/edit.above$1 -/
theorem climb_step (l : List Ed) (f : Nat) (n : Nm) (M : List Nm) (hf : mu l M < f + 1) (ih : ∀ m M', mu l M' < f → OkG Tryz.prog 130 [.d m.d, .bx 1 0, .bx 2 0, .bx 3 0] (climbH l M') (climbH l (climbF l f m M')) (.tup [])) : OkG Tryz.prog 130 [.d n.d, .bx 1 0, .bx 2 0, .bx 3 0] (climbH l M) (climbH l (climbF l (f + 1) n M)) (.tup []) := by
  unfold climbH at *
  refine OkG.unit Tryz.func130 (by kernel_rfl) (c := _) rfl Tryz.ntmps130 (by simp) Tryz.results130 fun w0 X hp => ?_
  refine LWp.seq ?_
  refine LWp.reg hT hW (fun _ => none) (fun _ => ⟨rfl, fun _ h => h⟩) ?_
  simp
  refine LWp.seq ?_
  refine LWp.reg hT hW (fun | 10 => some <| .plain ⟨.d (I64 (findI l n)), true⟩ | _ => none) (by intro d; first | exact ⟨rfl, fun _ h => h⟩ | (split <;> exact ⟨rfl, fun _ h => h⟩)) ?_
  simp
  refine ⟨EFind_ok l n, ?_⟩
  refine LWp.seq ?_
  refine LWp.seq ?_
  refine LWp.reg hT hW (fun _ => none) (fun _ => ⟨rfl, fun _ h => h⟩) ?_
  simp
  refine LWp.iff ?_
  simp
  refine ⟨fun h2 => ?_, fun h2 => ?_⟩
  · refine LWp.ret ?_
    simp
    exact Weak.to [] [(1, 1), (2, 2), (3, 3), (100, 100)] (by decide) (by decide) (by simp [hp]) (by simp) (by simp [climbF_succ, edit_none h2])
  · refine LWp.skip ?_
    simp
    refine LWp.seq ?_
    obtain ⟨i0, hi0, hfi, hfe, hne⟩ := edit_find (by simpa using h2)
    refine LWp.reg hT hW (fun _ => none) (fun _ => ⟨rfl, fun _ h => h⟩) ?_
    simp [hfe, hi0]
    refine LWp.block ?_
    refine LWp.loopW (ι := Nat × List Nm) (fun ⟨i, acc⟩ => mkEnv [(1, .bx 1 0), (2, .bx 2 0), (3, .bx 3 0), (17, .d (nmsD (needsOf l n))), (18, .d (I64 (needsOf l n).length)), (19, .d (I64 i))]) (fun ⟨i, acc⟩ => mkObs [(1, .box false [.d (edsD l)]), (2, .box false [.mp 100]), (3, .box false [.fn 130 [.bx 1 0, .bx 2 0, .bx 3 0]]), (100, .map false (List.map Nm.d acc) (List.map (fun _ => .bool true) acc))]) (fun ⟨i, acc⟩ => i ≤ (needsOf l n).length ∧ acc = ((needsOf l n).take i).foldl (climbS l f) M ∧ mu l acc < f + 1) (fun ⟨i, acc⟩ => (needsOf l n).length - i) (0, M) (Weak.to [1, 2, 3, 17, 18, 19] [(1, 1), (2, 2), (3, 3), (100, 100)] (by decide) (by decide) (by simp [hp]) (by simp [hne]) (by simp)) (by simp [hf]) fun ⟨i, acc⟩ hi4 => ?_
    refine LWp.len (t := 17) rfl fun hlen => ?_
    simp at hlen
    refine LWp.seq ?_
    refine LWp.reg hT hW (fun _ => none) (fun _ => ⟨rfl, fun _ h => h⟩) ?_
    simp
    refine LWp.seq ?_
    refine LWp.iff ?_
    simp
    refine ⟨fun h4 => ?_, fun h4 => ?_⟩
    · refine LWp.skip ?_
      simp
      refine LWp.seq ?_
      refine LWp.block ?_
      refine LWp.seq ?_
      refine LWp.reg hT hW (fun _ => none) (fun _ => ⟨rfl, fun _ h => h⟩) ?_
      simp [h4]
      refine LWp.seq ?_
      refine LWp.reg hT hW (fun _ => none) (fun _ => ⟨rfl, fun _ h => h⟩) ?_
      simp [look_set acc]
      refine LWp.iff ?_
      simp
      refine ⟨fun h6 => ?_, fun h6 => ?_⟩
      · refine LWp.seq ?_
        refine LWp.reg hT hW (fun _ => none) (fun _ => ⟨rfl, fun _ h => h⟩) ?_
        simp [put_set acc h6]
        refine LWp.reg hT hW (fun | 31 => some (.gen ⟨[(1, 1), (2, 2), (3, 3), (100, 100)], [], [], climbH l (climbF l f (needsOf l n)[i] (acc ++ [(needsOf l n)[i]])), .tup []⟩) | _ => none) (by intro d; first | exact ⟨rfl, fun _ h => h⟩ | (split <;> exact ⟨rfl, fun _ h => h⟩)) ?_
        simp [climbH]
        have hmem : (needsOf l n)[i] ∈ allNeeds l := needs_all (List.getElem_mem h4)
        have hI := ih (needsOf l n)[i] (acc ++ [(needsOf l n)[i]]) (by have := mu_lt hmem h6; have h3 : mu l acc < f + 1 := hi4.2.2; omega)
        refine ⟨by simpa using hI, ?_⟩
        refine LWp.reg hT hW (fun _ => none) (fun _ => ⟨rfl, fun _ h => h⟩) ?_
        simp
        refine ⟨by omega, ?_⟩
        refine loopQ.mk (i + 1, climbF l f (needsOf l n)[i] (acc ++ [(needsOf l n)[i]])) (Weak.to [1, 2, 3, 17, 18, 19] [(1, 1), (2, 2), (3, 3), (100, 100)] (by decide) (by decide) (by simp [hp]) (by simp) (by simp)) ?_ ?_
        · refine ⟨h4, ?_, ?_⟩
          · rw [List.take_succ_eq_append_getElem h4, List.foldl_append, ← hi4.2.1]
            simp [climbS, h6]
          · have hmem : (needsOf l n)[i] ∈ allNeeds l := needs_all (List.getElem_mem h4)
            have := climbS_sub (f := f) hmem hi4.2.2
            simp only [climbS, if_neg h6] at this
            exact Nat.lt_of_le_of_lt (mu_le this) hi4.2.2
        · omega
      · refine LWp.skip ?_
        simp
        refine LWp.reg hT hW (fun _ => none) (fun _ => ⟨rfl, fun _ h => h⟩) ?_
        simp
        refine ⟨by omega, ?_⟩
        refine loopQ.mk (i + 1, acc) (Weak.to [1, 2, 3, 17, 18, 19] [(1, 1), (2, 2), (3, 3), (100, 100)] (by decide) (by decide) (by simp [hp]) (by simp) (by simp)) ?_ ?_
        · refine ⟨h4, ?_, hi4.2.2⟩
          rw [List.take_succ_eq_append_getElem h4, List.foldl_append, ← hi4.2.1]
          simp [climbS, h6]
        · omega
    · refine LWp.exit ?_
      simp
      have q : i = (needsOf l n).length := by omega
      have e := hi4.2.1
      rw [q, List.take_length] at e
      exact Weak.to [] [(1, 1), (2, 2), (3, 3), (100, 100)] (by decide) (by decide) (by simp [hp]) (by simp) (by simp [climbF_succ, ← e])

theorem climb_ok (l : List Ed) : ∀ (f : Nat) (n : Nm) (M : List Nm), mu l M < f → OkG Tryz.prog 130 [.d n.d, .bx 1 0, .bx 2 0, .bx 3 0] (climbH l M) (climbH l (climbF l f n M)) (.tup [])
  | 0, _, _, h => absurd h (Nat.not_lt_zero _)
  | f + 1, n, M, h => climb_step l f n M h fun m M' h' => climb_ok l f m M' h'

/-- culprit/edit.above -/
theorem above_ok (l : List Ed) (n : Nm) : Ok Tryz.prog 74 [edsD l, n.d] ⟨.d (.mp (List.map Nm.d (aboveL l n)) (List.map (fun _ => .bool true) (aboveL l n))), false⟩ := by
  refine Ok.ret Tryz.func74 (by kernel_rfl) (c := _) rfl Tryz.ntmps74 (by simp) Tryz.results74 (by intro _ h; cases h) fun w0 X hp => ?_
  refine LWp.seq ?_
  refine LWp.reg hT hW (fun _ => none) (fun _ => ⟨rfl, fun _ h => h⟩) ?_
  simp
  refine LWp.seq ?_
  refine LWp.reg hT hW (fun _ => none) (fun _ => ⟨rfl, fun _ h => h⟩) ?_
  simp
  refine LWp.seq ?_
  refine LWp.reg hT hW (fun _ => none) (fun _ => ⟨rfl, fun _ h => h⟩) ?_
  simp
  refine LWp.seq ?_
  refine LWp.reg hT hW (fun _ => none) (fun _ => ⟨rfl, fun _ h => h⟩) ?_
  simp
  refine LWp.seq ?_
  refine LWp.reg hT hW (fun | 11 => some (.gen ⟨[(2, 1), (5, 2), (6, 3), (7, 100)], [], [], climbH l (aboveL l n), .tup []⟩) | _ => none) (by intro d; first | exact ⟨rfl, fun _ h => h⟩ | (split <;> exact ⟨rfl, fun _ h => h⟩)) ?_
  simp [climbH]
  refine ⟨by simpa [climbH, aboveL] using climb_ok l (mu l [] + 1) n [] (Nat.lt_succ_self _), ?_⟩
  refine LWp.seq ?_
  refine LWp.reg hT hW (fun _ => none) (fun _ => ⟨rfl, fun _ h => h⟩) ?_
  simp
  refine LWp.ret ?_
  simp

/-- culprit/edit.Before -/
theorem EBefore_ok (l : List Ed) (a b : Nm) : Ok Tryz.prog 27 [edsD l, a.d, b.d] ⟨.d (.bool (decide (a ∈ aboveL l b))), true⟩ := by
  refine Ok.ret Tryz.func27 (by kernel_rfl) (c := _) rfl Tryz.ntmps27 (by simp) Tryz.results27 (by intro _ h; cases h) fun w0 X hp => ?_
  refine LWp.seq ?_
  refine LWp.reg hT hW (fun _ => none) (fun _ => ⟨rfl, fun _ h => h⟩) ?_
  simp
  refine LWp.seq ?_
  refine LWp.regAny hT hW hMixed (lk [[], [], [0, 1], [], [0, 1, 2, 3], [0, 1, 2, 3, 4]]) (lk [[], [], [], [9], [], []]) (lk [[], [], [9], [], [], []]) (by kernel_rfl) (fun | 9 => some <| .plain ⟨.d (.mp (List.map Nm.d (aboveL l b)) (List.map (fun _ => .bool true) (aboveL l b))), false⟩ | _ => none) (by intro d; first | exact ⟨rfl, fun _ h => h⟩ | (split <;> exact ⟨rfl, fun _ h => h⟩)) ?_
  simp [look_set']
  refine ⟨above_ok l b, ?_⟩
  refine LWp.ret ?_
  simp

end Go.Eng

/-
  Chapter 22: what package edit asks of an edit and of a list. No condition.
-/
namespace Go.Eng
open Go.Proofs
attribute [local simp] runL stepL evalG evalOp opLV constLV putEnv dstOk upd upds Res.plain Res.cond Res.fail evalBin evalUn seqQ blockQ argsEnv lookL lookH RetIs memless freshL evalPick evalMin bval bok evalLen evalIn strip whenC guardOps guardC slotsOf
  runM foldS stepI stepM maskE wrIn lk renO lookN evalCall evalCallee optAll resLV resObj retLV retObj retsLV retsObj evalLoad evalIndexAddr evalField solid cellsD_agg cellsD_int cellsD_bool cellsD_str cellsD_sl cellsD_ro cellsD_fn cellsL_agg cellsL_dagg cellsL_int cellsL_bool cellsL_str cellsL_sl cellsL_fn cellsL_ow cellsL_bx cellsL_lfn cellsL_nl takeL takeD mkAgg allD eqD eqDs kindsAre kindIs LObj.live TK.isNone TK.agg TK.isBool TK.isStr TK.isStruct Op.operands Call.operands
  evalBuildSlice evalAppend elemsOf evalStore evalBuild fillL lookupF putL evalSlice bound evalConv elemsS freezes frozen loadR
  mkEnv_at mkObs_at close_d close_agg close_ow close_bx close_fn close_nl touch_d touch_agg touch_ow touch_bx touch_fn touch_nl ren_d ren_agg ren_bx ren_rp ren_ow ren_fn ren_nl ren_junk retQ_ret retQ2_ret condQ_bool Nm.d Df.d Ed.d nmsD dfsD strsD edsD retC_ret nm_eq df_eq take_map_len take_map_app
  nm_t nm_d nm_td df_t df_d df_td str_t str_d str_td ed_t ed_d ed_td
  evalAppendIn evalCut evalClear evalCopy evalMake evalWrap evalCap evalNil isNilC lenL isInp gorc
  mapOf findD keyEq keyOk evalMakeMap evalRange zeroD zeroDV argsG shutG outN lenv retG0_ret retG0_normal retG1_ret renO close_mp touch_mp ren_mp optAll_d optAll_d' touch_ds cellsL_mp cellsD_mp cellsL_dmp

/-- strings.Compare -/
theorem Compare_ok (a b : Str) : Ok Tryz.prog 122 [.str a, .str b] ⟨.d (I64 (cmpB a b)), true⟩ := by
  refine Ok.ret Tryz.func122 (by kernel_rfl) (c := _) rfl Tryz.ntmps122 (by simp) Tryz.results122 (by intro _ h; cases h) fun w0 X hp => ?_
  refine LWp.seq ?_
  refine LWp.reg hT hW (fun _ => none) (fun _ => ⟨rfl, fun _ h => h⟩) ?_
  simp
  refine LWp.seq ?_
  refine LWp.reg hT hW (fun | 7 => some <| .plain ⟨.d (I64 (cmpB a b)), true⟩ | _ => none) (by intro d; first | exact ⟨rfl, fun _ h => h⟩ | (split <;> exact ⟨rfl, fun _ h => h⟩)) ?_
  simp
  refine ⟨CompareString_ok a b, ?_⟩
  refine LWp.ret ?_
  simp

/-- cmp.isNaN[int] -/
theorem isNaN_ok (a : Int) : Ok Tryz.prog 182 [I64 a] ⟨.d (.bool false), true⟩ := by
  refine Ok.ret Tryz.func182 (by kernel_rfl) (c := _) rfl Tryz.ntmps182 (by simp) Tryz.results182 (by intro _ h; cases h) fun w0 X hp => ?_
  refine LWp.seq ?_
  refine LWp.reg hT hW (fun _ => none) (fun _ => ⟨rfl, fun _ h => h⟩) ?_
  simp
  refine LWp.seq ?_
  refine LWp.reg hT hW (fun _ => none) (fun _ => ⟨rfl, fun _ h => h⟩) ?_
  simp
  refine LWp.ret ?_
  simp

def cmpI (a b : Int) : Int := if a < b then -1 else if a > b then 1 else 0
def cmpN (a b : Nm) : Int := if cmpI a.who b.who ≠ 0 then cmpI a.who b.who else cmpI a.seq b.seq
theorem cmpN_ge (a b : Nm) : decide (0 ≤ cmpN a b) = !a.less b := by
  unfold cmpN cmpI Nm.less
  by_cases h1 : a.who < b.who
  · simp [h1]
  · by_cases h2 : a.who > b.who
    · have : ¬ a.who = b.who := by omega
      simp [h1, h2, this]
    · have : a.who = b.who := by omega
      by_cases h3 : a.seq < b.seq
      · simp [this, h3]
      · by_cases h4 : a.seq > b.seq <;> simp [this, h3, h4]
theorem cmpN_ge' (a b : Nm) : 0 ≤ cmpN a b ↔ a.less b = false := by
  have := cmpN_ge a b
  rw [Bool.eq_iff_iff] at this
  simpa using this
theorem cmpB_ge' (a b : Str) : 0 ≤ cmpB a b ↔ Op.bytesLess a b = false := by
  have := cmpB_ge a b
  rw [Bool.eq_iff_iff] at this
  simpa using this
theorem cmpI_range (a b : Int) : -1 ≤ cmpI a b ∧ cmpI a b ≤ 1 := by unfold cmpI; split; omega; split <;> omega

/-- cmp.Compare[int] -/
theorem cmpI_ok (a b : Int) : Ok Tryz.prog 135 [I64 a, I64 b] ⟨.d (I64 (cmpI a b)), true⟩ := by
  refine Ok.ret Tryz.func135 (by kernel_rfl) (c := _) rfl Tryz.ntmps135 (by simp) Tryz.results135 (by intro _ h; cases h) fun w0 X hp => ?_
  refine LWp.seq ?_
  refine LWp.reg hT hW (fun _ => none) (fun _ => ⟨rfl, fun _ h => h⟩) ?_
  simp
  refine LWp.seq ?_
  refine LWp.reg hT hW (fun | 8 => some <| .plain ⟨.d (.bool false), true⟩ | _ => none) (by intro d; first | exact ⟨rfl, fun _ h => h⟩ | (split <;> exact ⟨rfl, fun _ h => h⟩)) ?_
  simp
  refine ⟨isNaN_ok a, ?_⟩
  refine LWp.seq ?_
  refine LWp.reg hT hW (fun | 10 => some <| .plain ⟨.d (.bool false), true⟩ | _ => none) (by intro d; first | exact ⟨rfl, fun _ h => h⟩ | (split <;> exact ⟨rfl, fun _ h => h⟩)) ?_
  simp
  refine ⟨isNaN_ok b, ?_⟩
  refine LWp.seq ?_
  refine LWp.seq ?_
  refine LWp.reg hT hW (fun _ => none) (fun _ => ⟨rfl, fun _ h => h⟩) ?_
  simp
  refine LWp.iff ?_
  simp
  refine LWp.skip ?_
  simp
  refine LWp.seq ?_
  refine LWp.seq ?_
  refine LWp.reg hT hW (fun _ => none) (fun _ => ⟨rfl, fun _ h => h⟩) ?_
  simp
  refine LWp.iff ?_
  simp
  refine LWp.skip ?_
  simp
  refine LWp.seq ?_
  refine LWp.seq ?_
  refine LWp.reg hT hW (fun _ => none) (fun _ => ⟨rfl, fun _ h => h⟩) ?_
  simp
  refine LWp.iff ?_
  simp
  refine ⟨fun h9 => ?_, fun h9 => ?_⟩
  · refine LWp.seq ?_
    refine LWp.reg hT hW (fun _ => none) (fun _ => ⟨rfl, fun _ h => h⟩) ?_
    simp
    refine LWp.ret ?_
    simp [cmpI, h9]
  · refine LWp.skip ?_
    simp
    refine LWp.seq ?_
    refine LWp.seq ?_
    refine LWp.reg hT hW (fun _ => none) (fun _ => ⟨rfl, fun _ h => h⟩) ?_
    simp
    refine LWp.iff ?_
    simp
    refine ⟨fun h11 => ?_, fun h11 => ?_⟩
    · refine LWp.seq ?_
      refine LWp.reg hT hW (fun _ => none) (fun _ => ⟨rfl, fun _ h => h⟩) ?_
      simp
      refine LWp.ret ?_
      have : ¬ a < b := by omega
      simp [cmpI, this, h11]
    · refine LWp.skip ?_
      simp
      refine LWp.seq ?_
      refine LWp.reg hT hW (fun _ => none) (fun _ => ⟨rfl, fun _ h => h⟩) ?_
      simp
      refine LWp.ret ?_
      have h1 : ¬ a < b := by omega
      have h2 : ¬ b < a := by omega
      simp [cmpI, h1, h2]

def orI (l : List Int) : Int := match l.find? (fun x => decide (x ≠ 0)) with | some x => x | none => 0
theorem orI_nil : orI [] = 0 := rfl
theorem orI_cons (x : Int) (l : List Int) : orI (x :: l) = if x ≠ 0 then x else orI l := by
  unfold orI
  by_cases h : x = 0
  · subst h; simp
  · simp [h]

/-- cmp.Or[int] -/
theorem orI_ok (l : List Int) : Ok Tryz.prog 134 [.sl (l.map I64)] ⟨.d (I64 (orI l)), true⟩ := by
  refine Ok.ret Tryz.func134 (by kernel_rfl) (c := _) rfl Tryz.ntmps134 (by simp) Tryz.results134 (by intro _ h; cases h) fun w0 X hp => ?_
  refine LWp.len (t := 0) rfl fun hlen => ?_
  simp at hlen
  refine LWp.seq ?_
  refine LWp.reg hT hW (fun _ => none) (fun _ => ⟨rfl, fun _ h => h⟩) ?_
  simp
  refine LWp.seq ?_
  refine LWp.reg hT hW (fun _ => none) (fun _ => ⟨rfl, fun _ h => h⟩) ?_
  simp
  refine LWp.seq ?_
  refine LWp.seq ?_
  refine LWp.reg hT hW (fun _ => none) (fun _ => ⟨rfl, fun _ h => h⟩) ?_
  simp
  refine LWp.block ?_
  refine LWp.loopW (ι := Nat) (fun i => mkEnv [(3, .d (I64 0)), (6, .d (.sl (l.map I64))), (7, .d (I64 l.length)), (8, .d (I64 i))]) (fun i => mkObs []) (fun i => i ≤ l.length ∧ orI (l.drop i) = orI l) (fun i => l.length - i) 0 (Weak.to [3, 6, 7, 8] [] (by decide) (by decide) (by simp [hp]) (by simp) (by simp)) (by simp) fun i hi3 => ?_
  refine LWp.seq ?_
  refine LWp.reg hT hW (fun _ => none) (fun _ => ⟨rfl, fun _ h => h⟩) ?_
  simp
  refine LWp.seq ?_
  refine LWp.iff ?_
  simp
  refine ⟨fun h3 => ?_, fun h3 => ?_⟩
  · refine LWp.skip ?_
    simp
    refine LWp.seq ?_
    refine LWp.block ?_
    refine LWp.seq ?_
    refine LWp.reg hT hW (fun _ => none) (fun _ => ⟨rfl, fun _ h => h⟩) ?_
    simp [h3]
    refine LWp.seq ?_
    refine LWp.reg hT hW (fun _ => none) (fun _ => ⟨rfl, fun _ h => h⟩) ?_
    simp
    refine LWp.iff ?_
    simp
    refine ⟨fun h5 => ?_, fun h5 => ?_⟩
    · refine LWp.seq ?_
      refine LWp.reg hT hW (fun _ => none) (fun _ => ⟨rfl, fun _ h => h⟩) ?_
      simp
      refine LWp.ret ?_
      have h := hi3.2
      rw [List.drop_eq_getElem_cons h3, orI_cons, if_pos (by simpa using h5)] at h
      simp [← h]
    · refine LWp.skip ?_
      simp
      refine LWp.reg hT hW (fun _ => none) (fun _ => ⟨rfl, fun _ h => h⟩) ?_
      simp
      refine ⟨by omega, ?_⟩
      refine loopQ.mk (i + 1) (Weak.to [3, 6, 7, 8] [] (by decide) (by decide) (by simp [hp]) (by simp) (by simp)) ?_ ?_
      · refine ⟨h3, ?_⟩
        have h := hi3.2
        rw [List.drop_eq_getElem_cons h3, orI_cons, if_neg (by simpa using h5)] at h
        exact h
      · omega
  · refine LWp.exit ?_
    simp
    refine LWp.seq ?_
    refine LWp.reg hT hW (fun _ => none) (fun _ => ⟨rfl, fun _ h => h⟩) ?_
    simp
    refine LWp.ret ?_
    have h := hi3.2
    rw [List.drop_eq_nil_of_le (by omega), orI_nil] at h
    simp [← h]

/-- culprit/edit.compare -/
theorem compare_ok (a b : Nm) : Ok Tryz.prog 80 [a.d, b.d] ⟨.d (I64 (cmpN a b)), true⟩ := by
  refine Ok.ret Tryz.func80 (by kernel_rfl) (c := _) rfl Tryz.ntmps80 (by simp) Tryz.results80 (by intro _ h; cases h) fun w0 X hp => ?_
  refine LWp.seq ?_
  refine LWp.reg hT hW (fun _ => none) (fun _ => ⟨rfl, fun _ h => h⟩) ?_
  simp
  refine LWp.seq ?_
  refine LWp.regAny hT hW hMixed (lk [[], [0], [], [2], [0, 1, 2, 3], [], [5], [], [7], [0, 1, 2, 3, 4, 5, 6, 7, 8], [0, 1, 2, 3, 4, 5, 6, 7, 8, 9], [0, 1, 2, 3, 4, 5, 6, 7, 8, 9, 10], [0, 1, 2, 3, 4, 5, 6, 7, 8, 9, 10, 11]]) (lk [[], [], [], [], [], [9], [9], [9], [9], [], [], [], []]) (lk [[], [], [], [], [9], [], [], [], [], [14], [15], [16], []]) (by kernel_rfl) (fun | 9 => some <| .plain ⟨.d (I64 (cmpI a.who b.who)), true⟩ | 14 => some <| .plain ⟨.d (I64 (cmpI a.seq b.seq)), true⟩ | 16 => some <| .plain ⟨.d (I64 (cmpN a b)), true⟩ | _ => none) (by intro d; first | exact ⟨rfl, fun _ h => h⟩ | (split <;> exact ⟨rfl, fun _ h => h⟩)) ?_
  simp
  refine ⟨⟨⟨⟨cmpI_ok _ _, cmpI_ok _ _⟩, rfl⟩, ?_⟩, ?_⟩
  · have h := orI_ok [cmpI a.who b.who, cmpI a.seq b.seq]
    simp only [orI_cons, orI_nil] at h
    have e : (if cmpI a.who b.who ≠ 0 then cmpI a.who b.who else if cmpI a.seq b.seq ≠ 0 then cmpI a.seq b.seq else 0) = cmpN a b := by
      unfold cmpN
      split
      · rfl
      · split
        · rfl
        · omega
    rw [e] at h
    exact h
  refine LWp.ret ?_
  simp

/-- culprit/edit.possible -/
theorem possible_ok (n : Nm) : Ok Tryz.prog 119 [n.d] ⟨.d (.bool n.isName), true⟩ := by
  refine Ok.ret Tryz.func119 (by kernel_rfl) (c := _) rfl Tryz.ntmps119 (by simp) Tryz.results119 (by intro _ h; cases h) fun w0 X hp => ?_
  refine LWp.seq ?_
  refine LWp.reg hT hW (fun _ => none) (fun _ => ⟨rfl, fun _ h => h⟩) ?_
  simp
  refine LWp.seq ?_
  refine LWp.reg hT hW (fun _ => none) (fun _ => ⟨rfl, fun _ h => h⟩) ?_
  simp
  refine LWp.ret ?_
  have h : (n.who < 4) ↔ (n.who ≤ 3) := by omega
  simp [Nm.isName, h]

/-- culprit/edit.increasing[culprit/api.Name] -/
theorem incNm_ok (l : List Nm) : Ok Tryz.prog 120 [nmsD l, .fn 80 []] ⟨.d (.bool (incr Nm.less l)), true⟩ := by
  refine Ok.ret Tryz.func120 (by kernel_rfl) (c := _) rfl Tryz.ntmps120 (by simp) Tryz.results120 (by intro _ h; cases h) fun w0 X hp => ?_
  refine LWp.len (t := 0) rfl fun hlen => ?_
  simp at hlen
  refine LWp.seq ?_
  refine LWp.reg hT hW (fun _ => none) (fun _ => ⟨rfl, fun _ h => h⟩) ?_
  simp
  refine LWp.seq ?_
  refine LWp.seq ?_
  refine LWp.reg hT hW (fun _ => none) (fun _ => ⟨rfl, fun _ h => h⟩) ?_
  simp
  refine LWp.block ?_
  refine LWp.loopW (ι := Nat) (fun i => mkEnv [(0, .d (nmsD l)), (1, .d (.fn 80 [])), (7, .d (I64 l.length)), (8, .d (I64 i))]) (fun i => mkObs []) (fun i => i ≤ l.length ∧ IncTo Nm.less l i) (fun i => l.length - i) 0 (Weak.to [0, 1, 7, 8] [] (by decide) (by decide) (by simp [hp]) (by simp) (by simp)) (⟨Nat.zero_le _, IncTo.start (by omega)⟩) fun i hi2 => ?_
  refine LWp.seq ?_
  refine LWp.reg hT hW (fun _ => none) (fun _ => ⟨rfl, fun _ h => h⟩) ?_
  simp
  refine LWp.seq ?_
  refine LWp.iff ?_
  simp
  refine ⟨fun h2 => ?_, fun h2 => ?_⟩
  · refine LWp.skip ?_
    simp
    refine LWp.seq ?_
    refine LWp.block ?_
    refine LWp.seq ?_
    refine LWp.reg hT hW (fun _ => none) (fun _ => ⟨rfl, fun _ h => h⟩) ?_
    simp
    refine LWp.seq ?_
    rcases i with _ | i
    · refine LWp.regAny hT hW hMixed (lk [[], [0], [0, 1], [0, 1, 2], [0, 1, 2], [0, 1, 2], [0, 1, 2, 5], [0, 1, 2, 4, 5, 6], [0, 1, 2, 4, 5, 6, 7], [0, 1, 2], [0, 1, 2], [0, 1, 2, 9, 10], [0, 1, 2, 9, 10, 11], [0, 1, 2, 3, 4, 5, 6, 7, 8, 9, 10, 11, 12], [0, 1, 2, 3, 4, 5, 6, 7, 8, 9, 10, 11, 12, 13], [0, 1, 2, 3, 4, 5, 6, 7, 8, 9, 10, 11, 12, 13, 14]]) (lk [[], [], [], [], [], [], [], [], [], [], [], [], [], [], [], []]) (lk [[], [], [], [], [], [], [], [], [], [], [], [], [], [24], [], []]) (by kernel_rfl) (fun _ => none) (by intro d; first | exact ⟨rfl, fun _ h => h⟩ | (split <;> exact ⟨rfl, fun _ h => h⟩)) ?_
      simp [Nat.zero_le]
      refine LWp.iff ?_
      simp [Nat.zero_le]
      refine LWp.skip ?_
      simp
      refine LWp.reg hT hW (fun _ => none) (fun _ => ⟨rfl, fun _ h => h⟩) ?_
      simp
      first | refine And.intro (by omega) ?_ | skip
      refine loopQ.mk 1 (Weak.to [0, 1, 7, 8] [] (by decide) (by decide) (by simp [hp]) (by simp) (by simp)) ?_ ?_
      · exact ⟨h2, IncTo.start (by omega)⟩
      · omega
    · refine LWp.regAny hT hW hMixed (lk [[], [0], [0, 1], [0, 1, 2], [0, 1, 2], [0, 1, 2], [0, 1, 2, 5], [0, 1, 2, 4, 5, 6], [0, 1, 2, 4, 5, 6, 7], [0, 1, 2], [0, 1, 2], [0, 1, 2, 9, 10], [0, 1, 2, 9, 10, 11], [0, 1, 2, 3, 4, 5, 6, 7, 8, 9, 10, 11, 12], [0, 1, 2, 3, 4, 5, 6, 7, 8, 9, 10, 11, 12, 13], [0, 1, 2, 3, 4, 5, 6, 7, 8, 9, 10, 11, 12, 13, 14]]) (lk [[], [], [], [], [], [], [], [], [], [], [], [], [], [], [], []]) (lk [[], [], [], [], [], [], [], [], [], [], [], [], [], [24], [], []]) (by kernel_rfl) (fun | 24 => some <| .plain ⟨.d (I64 (cmpN (l.getD i default) (l.getD (i + 1) default))), true⟩ | _ => none) (by intro d; first | exact ⟨rfl, fun _ h => h⟩ | (split <;> exact ⟨rfl, fun _ h => h⟩)) ?_
      simp [h2, show i < l.length by omega]
      refine ⟨⟨by omega, compare_ok _ _⟩, ?_⟩
      refine LWp.iff ?_
      simp [cmpN_ge']
      refine ⟨fun h4 => ?_, fun h4 => ?_⟩
      · refine LWp.seq ?_
        refine LWp.reg hT hW (fun _ => none) (fun _ => ⟨rfl, fun _ h => h⟩) ?_
        simp
        refine LWp.ret ?_
        simp
        exact incr_false h2 (by simpa using h4)
      · refine LWp.skip ?_
        simp
        refine LWp.reg hT hW (fun _ => none) (fun _ => ⟨rfl, fun _ h => h⟩) ?_
        simp
        first | refine And.intro (by omega) ?_ | skip
        refine loopQ.mk (i + 2) (Weak.to [0, 1, 7, 8] [] (by decide) (by decide) (by simp [hp]) (by simp [show (i : Int) + 1 + 1 = i + 2 by omega]) (by simp)) ?_ ?_
        · exact ⟨h2, hi2.2.succ h2 h4⟩
        · omega
  · refine LWp.exit ?_
    simp
    refine LWp.seq ?_
    refine LWp.reg hT hW (fun _ => none) (fun _ => ⟨rfl, fun _ h => h⟩) ?_
    simp
    refine LWp.ret ?_
    simp
    exact hi2.2.done (by omega)

/-- culprit/edit.increasing[string] -/
theorem incStr_ok (l : List Str) : Ok Tryz.prog 121 [strsD l, .fn 122 []] ⟨.d (.bool (incr bless l)), true⟩ := by
  refine Ok.ret Tryz.func121 (by kernel_rfl) (c := _) rfl Tryz.ntmps121 (by simp) Tryz.results121 (by intro _ h; cases h) fun w0 X hp => ?_
  refine LWp.len (t := 0) rfl fun hlen => ?_
  simp at hlen
  refine LWp.seq ?_
  refine LWp.reg hT hW (fun _ => none) (fun _ => ⟨rfl, fun _ h => h⟩) ?_
  simp
  refine LWp.seq ?_
  refine LWp.seq ?_
  refine LWp.reg hT hW (fun _ => none) (fun _ => ⟨rfl, fun _ h => h⟩) ?_
  simp
  refine LWp.block ?_
  refine LWp.loopW (ι := Nat) (fun i => mkEnv [(0, .d (strsD l)), (1, .d (.fn 122 [])), (7, .d (I64 l.length)), (8, .d (I64 i))]) (fun i => mkObs []) (fun i => i ≤ l.length ∧ IncTo bless l i) (fun i => l.length - i) 0 (Weak.to [0, 1, 7, 8] [] (by decide) (by decide) (by simp [hp]) (by simp) (by simp)) (⟨Nat.zero_le _, IncTo.start (by omega)⟩) fun i hi2 => ?_
  refine LWp.seq ?_
  refine LWp.reg hT hW (fun _ => none) (fun _ => ⟨rfl, fun _ h => h⟩) ?_
  simp
  refine LWp.seq ?_
  refine LWp.iff ?_
  simp
  refine ⟨fun h2 => ?_, fun h2 => ?_⟩
  · refine LWp.skip ?_
    simp
    refine LWp.seq ?_
    refine LWp.block ?_
    refine LWp.seq ?_
    refine LWp.reg hT hW (fun _ => none) (fun _ => ⟨rfl, fun _ h => h⟩) ?_
    simp
    refine LWp.seq ?_
    rcases i with _ | i
    · refine LWp.regAny hT hW hMixed (lk [[], [0], [0, 1], [0, 1, 2], [0, 1, 2], [0, 1, 2], [0, 1, 2, 5], [0, 1, 2, 4, 5, 6], [0, 1, 2, 4, 5, 6, 7], [0, 1, 2], [0, 1, 2], [0, 1, 2, 9, 10], [0, 1, 2, 9, 10, 11], [0, 1, 2, 3, 4, 5, 6, 7, 8, 9, 10, 11, 12], [0, 1, 2, 3, 4, 5, 6, 7, 8, 9, 10, 11, 12, 13], [0, 1, 2, 3, 4, 5, 6, 7, 8, 9, 10, 11, 12, 13, 14]]) (lk [[], [], [], [], [], [], [], [], [], [], [], [], [], [], [], []]) (lk [[], [], [], [], [], [], [], [], [], [], [], [], [], [24], [], []]) (by kernel_rfl) (fun _ => none) (by intro d; first | exact ⟨rfl, fun _ h => h⟩ | (split <;> exact ⟨rfl, fun _ h => h⟩)) ?_
      simp [Nat.zero_le]
      refine LWp.iff ?_
      simp [Nat.zero_le]
      refine LWp.skip ?_
      simp
      refine LWp.reg hT hW (fun _ => none) (fun _ => ⟨rfl, fun _ h => h⟩) ?_
      simp
      first | refine And.intro (by omega) ?_ | skip
      refine loopQ.mk 1 (Weak.to [0, 1, 7, 8] [] (by decide) (by decide) (by simp [hp]) (by simp) (by simp)) ?_ ?_
      · exact ⟨h2, IncTo.start (by omega)⟩
      · omega
    · refine LWp.regAny hT hW hMixed (lk [[], [0], [0, 1], [0, 1, 2], [0, 1, 2], [0, 1, 2], [0, 1, 2, 5], [0, 1, 2, 4, 5, 6], [0, 1, 2, 4, 5, 6, 7], [0, 1, 2], [0, 1, 2], [0, 1, 2, 9, 10], [0, 1, 2, 9, 10, 11], [0, 1, 2, 3, 4, 5, 6, 7, 8, 9, 10, 11, 12], [0, 1, 2, 3, 4, 5, 6, 7, 8, 9, 10, 11, 12, 13], [0, 1, 2, 3, 4, 5, 6, 7, 8, 9, 10, 11, 12, 13, 14]]) (lk [[], [], [], [], [], [], [], [], [], [], [], [], [], [], [], []]) (lk [[], [], [], [], [], [], [], [], [], [], [], [], [], [24], [], []]) (by kernel_rfl) (fun | 24 => some <| .plain ⟨.d (I64 (cmpB (l.getD i default) (l.getD (i + 1) default))), true⟩ | _ => none) (by intro d; first | exact ⟨rfl, fun _ h => h⟩ | (split <;> exact ⟨rfl, fun _ h => h⟩)) ?_
      simp [h2, show i < l.length by omega]
      refine ⟨⟨by omega, Compare_ok _ _⟩, ?_⟩
      refine LWp.iff ?_
      simp [cmpB_ge']
      refine ⟨fun h4 => ?_, fun h4 => ?_⟩
      · refine LWp.seq ?_
        refine LWp.reg hT hW (fun _ => none) (fun _ => ⟨rfl, fun _ h => h⟩) ?_
        simp
        refine LWp.ret ?_
        simp
        exact incr_false h2 (by simpa [bless] using h4)
      · refine LWp.skip ?_
        simp
        refine LWp.reg hT hW (fun _ => none) (fun _ => ⟨rfl, fun _ h => h⟩) ?_
        simp
        first | refine And.intro (by omega) ?_ | skip
        refine loopQ.mk (i + 2) (Weak.to [0, 1, 7, 8] [] (by decide) (by decide) (by simp [hp]) (by simp [show (i : Int) + 1 + 1 = i + 2 by omega]) (by simp)) ?_ ?_
        · exact ⟨h2, hi2.2.succ h2 h4⟩
        · omega
  · refine LWp.exit ?_
    simp
    refine LWp.seq ?_
    refine LWp.reg hT hW (fun _ => none) (fun _ => ⟨rfl, fun _ h => h⟩) ?_
    simp
    refine LWp.ret ?_
    simp
    exact hi2.2.done (by omega)

end Go.Eng

/-
  Chapter 22: which edits package edit takes for possible. No condition.
-/
namespace Go.Eng
open Go.Proofs
attribute [local simp] runL stepL evalG evalOp opLV constLV putEnv dstOk upd upds Res.plain Res.cond Res.fail evalBin evalUn seqQ blockQ argsEnv lookL lookH RetIs memless freshL evalPick evalMin bval bok evalLen evalIn strip whenC guardOps guardC slotsOf
  runM foldS stepI stepM maskE wrIn lk renO lookN evalCall evalCallee optAll resLV resObj retLV retObj retsLV retsObj evalLoad evalIndexAddr evalField solid cellsD_agg cellsD_int cellsD_bool cellsD_str cellsD_sl cellsD_ro cellsD_fn cellsL_agg cellsL_dagg cellsL_int cellsL_bool cellsL_str cellsL_sl cellsL_fn cellsL_ow cellsL_bx cellsL_lfn cellsL_nl takeL takeD mkAgg allD eqD eqDs kindsAre kindIs LObj.live TK.isNone TK.agg TK.isBool TK.isStr TK.isStruct Op.operands Call.operands
  evalBuildSlice evalAppend elemsOf evalStore evalBuild fillL lookupF putL evalSlice bound evalConv elemsS freezes frozen loadR
  mkEnv_at mkObs_at close_d close_agg close_ow close_bx close_fn close_nl touch_d touch_agg touch_ow touch_bx touch_fn touch_nl ren_d ren_agg ren_bx ren_rp ren_ow ren_fn ren_nl ren_junk retQ_ret retQ2_ret condQ_bool Nm.d Df.d Ed.d nmsD dfsD strsD edsD retC_ret nm_eq df_eq take_map_len take_map_app
  nm_t nm_d nm_td df_t df_d df_td str_t str_d str_td ed_t ed_d ed_td
  evalAppendIn evalCut evalClear evalCopy evalMake evalWrap evalCap evalNil isNilC lenL isInp gorc
  mapOf findD keyEq keyOk evalMakeMap evalRange zeroD zeroDV argsG shutG outN lenv retG0_ret retG0_normal retG1_ret renO close_mp touch_mp ren_mp optAll_d optAll_d' touch_ds cellsL_mp cellsD_mp cellsL_dmp

/-- culprit/edit.touches -/
theorem etouches_ok (e : Ed) (h1 : e.puts.length ≤ 1000000) (h2 : e.drops.length ≤ 1000000) : Ok Tryz.prog 118 [e.d] ⟨.d (strsD (touches e)), true⟩ := by
  refine Ok.ret Tryz.func118 (by kernel_rfl) (c := _) rfl Tryz.ntmps118 (by simp) Tryz.results118 (by intro _ h; cases h) fun w0 X hp => ?_
  refine LWp.seq ?_
  refine LWp.reg hT hW (fun _ => none) (fun _ => ⟨rfl, fun _ h => h⟩) ?_
  simp
  refine LWp.seq ?_
  refine LWp.reg hT hW (fun _ => none) (fun _ => ⟨rfl, fun _ h => h⟩) ?_
  simp
  refine LWp.seq ?_
  refine LWp.seq ?_
  refine LWp.reg hT hW (fun _ => none) (fun _ => ⟨rfl, fun _ h => h⟩) ?_
  simp
  refine LWp.block ?_
  refine LWp.loopW (ι := Nat × List Str) (fun ⟨i, acc⟩ => mkEnv [(1, .bx 1 0), (3, .ow 3 0 acc.length), (7, .d (dfsD e.puts)), (8, .d (I64 e.puts.length)), (9, .d (I64 i))]) (fun ⟨i, acc⟩ => mkObs [(3, .row false 1 (acc.map .str)), (1, .box false ((cellsD e.d).map .d))]) (fun ⟨i, acc⟩ => i ≤ e.puts.length ∧ acc.length = i ∧ acc = (e.puts.map Df.name).take i) (fun ⟨i, acc⟩ => e.puts.length - i) (0, []) (Weak.to [1, 3, 7, 8, 9] [(3, 3), (1, 1)] (by decide) (by decide) (by simp [hp]) (by simp) (by simp)) (by simp) fun ⟨i, acc⟩ hi3 => ?_
  refine LWp.seq ?_
  refine LWp.reg hT hW (fun _ => none) (fun _ => ⟨rfl, fun _ h => h⟩) ?_
  simp
  refine LWp.seq ?_
  refine LWp.iff ?_
  simp
  refine ⟨fun h3 => ?_, fun h3 => ?_⟩
  · refine LWp.skip ?_
    simp
    refine LWp.seq ?_
    refine LWp.block ?_
    refine LWp.seq ?_
    refine LWp.reg hT hW (fun _ => none) (fun _ => ⟨rfl, fun _ h => h⟩) ?_
    simp [h3]
    refine LWp.reg hT hW (fun _ => none) (fun _ => ⟨rfl, fun _ h => h⟩) ?_
    simp
    refine ⟨by have := hi3.2.1; omega, ?_⟩
    refine LWp.reg hT hW (fun _ => none) (fun _ => ⟨rfl, fun _ h => h⟩) ?_
    simp
    refine ⟨by omega, ?_⟩
    refine loopQ.mk (i + 1, acc ++ [e.puts[i].name]) (Weak.to [1, 3, 7, 8, 9] [(17, 3), (1, 1)] (by decide) (by decide) (by simp [hp]) (by simp) (by simp)) ?_ ?_
    · exact ⟨h3, by simp [hi3.2.1], by rw [map_take_succ h3, ← hi3.2.2]⟩
    · omega
  · refine LWp.exit ?_
    simp
    refine LWp.seq ?_
    refine LWp.reg hT hW (fun _ => none) (fun _ => ⟨rfl, fun _ h => h⟩) ?_
    simp
    refine ⟨by have := hi3.2.1; omega, ?_⟩
    refine LWp.ret ?_
    have q : i = e.puts.length := by omega
    have := hi3.2.2
    rw [q] at this
    have q2 : ∀ (x y : List DV) (n : Nat), n = x.length + y.length → List.take n (x ++ y) = x ++ y := fun x y n h => List.take_of_length_le (by simp [h])
    simp [this, touches, q2]
    rintro x (⟨a, _, rfl⟩ | ⟨a, _, rfl⟩) <;> simp

/-- slices.Index[[]string,string] -/
theorem IndexOfStr_ok (l : List Str) (n : Str) : Ok Tryz.prog 168 [strsD l, .str n] ⟨.d (I64 (idxI (fun x => decide (n = x)) l)), true⟩ := by
  refine Ok.ret Tryz.func168 (by kernel_rfl) (c := _) rfl Tryz.ntmps168 (by simp) Tryz.results168 (by intro _ h; cases h) fun w0 X hp => ?_
  refine LWp.len (t := 0) rfl fun hlen => ?_
  simp at hlen
  refine LWp.seq ?_
  refine LWp.reg hT hW (fun _ => none) (fun _ => ⟨rfl, fun _ h => h⟩) ?_
  simp
  refine LWp.seq ?_
  refine LWp.seq ?_
  refine LWp.reg hT hW (fun _ => none) (fun _ => ⟨rfl, fun _ h => h⟩) ?_
  simp
  refine LWp.block ?_
  refine LWp.loopW (ι := Nat) (fun i => mkEnv [(0, .d (strsD l)), (1, .d (.str n)), (7, .d (I64 l.length)), (8, .d (I64 i))]) (fun i => mkObs []) (fun i => i ≤ l.length ∧ Pre (fun x => decide (n = x)) l i) (fun i => l.length - i) 0 (Weak.to [0, 1, 7, 8] [] (by decide) (by decide) (by simp [hp]) (by simp) (by simp)) (⟨Nat.zero_le _, Pre.zero⟩) fun i hi2 => ?_
  refine LWp.seq ?_
  refine LWp.reg hT hW (fun _ => none) (fun _ => ⟨rfl, fun _ h => h⟩) ?_
  simp
  refine LWp.seq ?_
  refine LWp.iff ?_
  simp
  refine ⟨fun h2 => ?_, fun h2 => ?_⟩
  · refine LWp.skip ?_
    simp
    refine LWp.seq ?_
    refine LWp.block ?_
    refine LWp.seq ?_
    refine LWp.reg hT hW (fun _ => none) (fun _ => ⟨rfl, fun _ h => h⟩) ?_
    simp
    refine LWp.seq ?_
    refine LWp.reg hT hW (fun _ => none) (fun _ => ⟨rfl, fun _ h => h⟩) ?_
    simp [h2]
    refine LWp.iff ?_
    simp
    refine ⟨fun h4 => ?_, fun h4 => ?_⟩
    · refine LWp.seq ?_
      refine LWp.reg hT hW (fun _ => none) (fun _ => ⟨rfl, fun _ h => h⟩) ?_
      simp
      refine LWp.ret ?_
      simp [idxI_some (hi2.2.found h2 (by simpa using h4))]
    · refine LWp.skip ?_
      simp
      refine LWp.reg hT hW (fun _ => none) (fun _ => ⟨rfl, fun _ h => h⟩) ?_
      simp
      refine ⟨by omega, ?_⟩
      refine loopQ.mk (i + 1) (Weak.to [0, 1, 7, 8] [] (by decide) (by decide) (by simp [hp]) (by simp) (by simp)) ?_ ?_
      · exact ⟨h2, hi2.2.succ h2 (by simpa using h4)⟩
      · omega
  · refine LWp.exit ?_
    simp
    refine LWp.seq ?_
    refine LWp.reg hT hW (fun _ => none) (fun _ => ⟨rfl, fun _ h => h⟩) ?_
    simp
    refine LWp.ret ?_
    simp [idxI_none (hi2.2.none (by omega))]

/-- slices.Contains[[]string,string] -/
theorem InStr_ok (l : List Str) (n : Str) : Ok Tryz.prog 123 [strsD l, .str n] ⟨.d (.bool (decide (n ∈ l))), true⟩ := by
  refine Ok.ret Tryz.func123 (by kernel_rfl) (c := _) rfl Tryz.ntmps123 (by simp) Tryz.results123 (by intro _ h; cases h) fun w0 X hp => ?_
  refine LWp.seq ?_
  refine LWp.reg hT hW (fun _ => none) (fun _ => ⟨rfl, fun _ h => h⟩) ?_
  simp
  refine LWp.seq ?_
  refine LWp.reg hT hW (fun | 7 => some <| .plain ⟨.d (I64 (idxI (fun x => decide (n = x)) l)), true⟩ | _ => none) (by intro d; first | exact ⟨rfl, fun _ h => h⟩ | (split <;> exact ⟨rfl, fun _ h => h⟩)) ?_
  simp
  refine ⟨IndexOfStr_ok l n, ?_⟩
  refine LWp.ret ?_
  simp [idxI_nonneg']

/-- slices.IndexFunc[[]culprit/api.Def,culprit/api.Def] -/
theorem IndexDf_ok (l : List Df) (p : Df → Bool) (g : FuncId) (cs : List DV) (hg : ∀ x ∈ l, Ok Tryz.prog g (x.d :: cs) ⟨.d (.bool (p x)), true⟩) : Ok Tryz.prog 169 [dfsD l, .fn g cs] ⟨.d (I64 (idxI p l)), true⟩ := by
  refine Ok.ret Tryz.func169 (by kernel_rfl) (c := _) rfl Tryz.ntmps169 (by simp) Tryz.results169 (by intro _ h; cases h) fun w0 X hp => ?_
  refine LWp.len (t := 0) rfl fun hlen => ?_
  simp at hlen
  refine LWp.seq ?_
  refine LWp.reg hT hW (fun _ => none) (fun _ => ⟨rfl, fun _ h => h⟩) ?_
  simp
  refine LWp.seq ?_
  refine LWp.seq ?_
  refine LWp.reg hT hW (fun _ => none) (fun _ => ⟨rfl, fun _ h => h⟩) ?_
  simp
  refine LWp.block ?_
  refine LWp.loopW (ι := Nat) (fun i => mkEnv [(0, .d (dfsD l)), (1, .d (.fn g cs)), (7, .d (I64 l.length)), (8, .d (I64 i))]) (fun i => mkObs []) (fun i => i ≤ l.length ∧ Pre p l i) (fun i => l.length - i) 0 (Weak.to [0, 1, 7, 8] [] (by decide) (by decide) (by simp [hp]) (by simp) (by simp)) (⟨Nat.zero_le _, Pre.zero⟩) fun i hi2 => ?_
  refine LWp.seq ?_
  refine LWp.reg hT hW (fun _ => none) (fun _ => ⟨rfl, fun _ h => h⟩) ?_
  simp
  refine LWp.seq ?_
  refine LWp.iff ?_
  simp
  refine ⟨fun h2 => ?_, fun h2 => ?_⟩
  · refine LWp.skip ?_
    simp
    refine LWp.seq ?_
    refine LWp.block ?_
    refine LWp.seq ?_
    refine LWp.reg hT hW (fun _ => none) (fun _ => ⟨rfl, fun _ h => h⟩) ?_
    simp
    refine LWp.seq ?_
    refine LWp.reg hT hW (fun | 16 => some <| .plain ⟨.d (.bool (p l[i])), true⟩ | _ => none) (by intro d; first | exact ⟨rfl, fun _ h => h⟩ | (split <;> exact ⟨rfl, fun _ h => h⟩)) ?_
    simp [h2]
    refine ⟨hg l[i] (List.getElem_mem h2), ?_⟩
    refine LWp.iff ?_
    simp
    refine ⟨fun h4 => ?_, fun h4 => ?_⟩
    · refine LWp.seq ?_
      refine LWp.reg hT hW (fun _ => none) (fun _ => ⟨rfl, fun _ h => h⟩) ?_
      simp
      refine LWp.ret ?_
      simp [idxI_some (hi2.2.found h2 h4)]
    · refine LWp.skip ?_
      simp
      refine LWp.reg hT hW (fun _ => none) (fun _ => ⟨rfl, fun _ h => h⟩) ?_
      simp
      refine ⟨by omega, ?_⟩
      refine loopQ.mk (i + 1) (Weak.to [0, 1, 7, 8] [] (by decide) (by decide) (by simp [hp]) (by simp) (by simp)) ?_ ?_
      · exact ⟨h2, hi2.2.succ h2 h4⟩
      · omega
  · refine LWp.exit ?_
    simp
    refine LWp.seq ?_
    refine LWp.reg hT hW (fun _ => none) (fun _ => ⟨rfl, fun _ h => h⟩) ?_
    simp
    refine LWp.ret ?_
    simp [idxI_none (hi2.2.none (by omega))]

/-- slices.ContainsFunc[[]culprit/api.Def,culprit/api.Def] -/
theorem AnyDf_ok (l : List Df) (p : Df → Bool) (g : FuncId) (cs : List DV) (hg : ∀ x ∈ l, Ok Tryz.prog g (x.d :: cs) ⟨.d (.bool (p x)), true⟩) : Ok Tryz.prog 124 [dfsD l, .fn g cs] ⟨.d (.bool (l.any p)), true⟩ := by
  refine Ok.ret Tryz.func124 (by kernel_rfl) (c := _) rfl Tryz.ntmps124 (by simp) Tryz.results124 (by intro _ h; cases h) fun w0 X hp => ?_
  refine LWp.seq ?_
  refine LWp.reg hT hW (fun _ => none) (fun _ => ⟨rfl, fun _ h => h⟩) ?_
  simp
  refine LWp.seq ?_
  refine LWp.reg hT hW (fun | 7 => some <| .plain ⟨.d (I64 (idxI p l)), true⟩ | _ => none) (by intro d; first | exact ⟨rfl, fun _ h => h⟩ | (split <;> exact ⟨rfl, fun _ h => h⟩)) ?_
  simp
  refine ⟨IndexDf_ok l p g cs hg, ?_⟩
  refine LWp.ret ?_
  simp [← idxI_nonneg]

/-- culprit/edit.proper$1 -/
theorem proper1_ok (d : Df) : Ok Tryz.prog 125 [d.d] ⟨.d (.bool (decide (d.text.length > 1024))), true⟩ := by
  refine Ok.ret Tryz.func125 (by kernel_rfl) (c := _) rfl Tryz.ntmps125 (by simp) Tryz.results125 (by intro _ h; cases h) fun w0 X hp => ?_
  refine LWp.seq ?_
  refine LWp.reg hT hW (fun _ => none) (fun _ => ⟨rfl, fun _ h => h⟩) ?_
  simp
  refine LWp.seq ?_
  refine LWp.reg hT hW (fun _ => none) (fun _ => ⟨rfl, fun _ h => h⟩) ?_
  simp
  refine LWp.ret ?_
  simp
  omega

theorem names_take' {e : Ed} : List.take e.puts.length (List.map DV.str (touches e)) = List.map DV.str (e.puts.map Df.name) := by simp [touches]
theorem names_take {e : Ed} : (touches e).take e.puts.length = e.puts.map Df.name := by simp [touches]

/-- culprit/edit.proper -/
theorem proper_ok (e : Ed) (b1 : e.puts.length ≤ 1000000) (b2 : e.drops.length ≤ 1000000) : Ok Tryz.prog 64 [e.d] ⟨.d (.bool (properE e)), true⟩ := by
  refine Ok.ret Tryz.func64 (by kernel_rfl) (c := _) rfl Tryz.ntmps64 (by simp) Tryz.results64 (by intro _ h; cases h) fun w0 X hp => ?_
  refine LWp.seq ?_
  refine LWp.reg hT hW (fun _ => none) (fun _ => ⟨rfl, fun _ h => h⟩) ?_
  simp
  refine LWp.seq ?_
  refine LWp.reg hT hW (fun | 10 => some <| .plain ⟨.d (strsD (touches e)), true⟩ | _ => none) (by intro d; first | exact ⟨rfl, fun _ h => h⟩ | (split <;> exact ⟨rfl, fun _ h => h⟩)) ?_
  simp
  refine ⟨etouches_ok e b1 b2, ?_⟩
  refine LWp.seq ?_
  refine LWp.reg hT hW (fun _ => none) (fun _ => ⟨rfl, fun _ h => h⟩) ?_
  simp [names_take']
  refine ⟨by simp [touches], ?_⟩
  refine LWp.seq ?_
  refine LWp.seq ?_
  refine LWp.reg hT hW (fun | 18 => some <| .plain ⟨.d (.bool e.name.isName), true⟩ | 28 => some <| .plain ⟨.d (.bool (incr Nm.less e.needs)), true⟩ | 33 => some <| .plain ⟨.d (.bool (incr bless (e.puts.map Df.name))), true⟩ | 39 => some <| .plain ⟨.d (.bool (incr bless e.drops)), true⟩ | _ => none) (by intro d; first | exact ⟨rfl, fun _ h => h⟩ | (split <;> exact ⟨rfl, fun _ h => h⟩)) ?_
  simp
  refine ⟨⟨⟨⟨possible_ok _, fun _ _ => incNm_ok _⟩, fun _ _ _ => by simpa [strsD] using incStr_ok (e.puts.map Df.name)⟩, fun _ _ _ _ => incStr_ok _⟩, ?_⟩
  refine LWp.iff ?_
  simp
  refine ⟨fun h3 => ?_, fun n1 n2 n3 n4 n5 => ?_⟩
  · refine LWp.seq ?_
    refine LWp.reg hT hW (fun _ => none) (fun _ => ⟨rfl, fun _ h => h⟩) ?_
    simp
    refine LWp.ret ?_
    simp
    rcases h3 with (((h | h) | h) | h) | h
    · simp [properE, h]
    · have h : ¬ (touches e).length ≤ 24 := by omega
      simp [properE, h]
    · simp [properE, h]
    · simp [properE, h]
    · simp [properE, h]
  · refine LWp.skip ?_
    simp
    refine LWp.seq ?_
    refine LWp.seq ?_
    refine LWp.reg hT hW (fun _ => none) (fun _ => ⟨rfl, fun _ h => h⟩) ?_
    simp
    refine LWp.block ?_
    refine LWp.loopW (ι := Nat) (fun i => mkEnv [(1, .bx 1 0), (3, .d (strsD (touches e))), (43, .d (nmsD e.needs)), (44, .d (I64 e.needs.length)), (45, .d (I64 i))]) (fun i => mkObs [(1, .box false ((cellsD e.d).map .d))]) (fun i => i ≤ e.needs.length ∧ Pre (fun n => !Nm.isName n) e.needs i) (fun i => e.needs.length - i) 0 (Weak.to [1, 3, 43, 44, 45] [(1, 1)] (by decide) (by decide) (by simp [hp]) (by simp) (by simp)) (⟨Nat.zero_le _, Pre.zero⟩) fun i hi6 => ?_
    refine LWp.len (t := 43) rfl fun hlen6 => ?_
    simp at hlen6
    refine LWp.seq ?_
    refine LWp.reg hT hW (fun _ => none) (fun _ => ⟨rfl, fun _ h => h⟩) ?_
    simp
    refine LWp.seq ?_
    refine LWp.iff ?_
    simp
    refine ⟨fun h6 => ?_, fun h6 => ?_⟩
    · refine LWp.skip ?_
      simp
      refine LWp.seq ?_
      refine LWp.block ?_
      refine LWp.seq ?_
      refine LWp.reg hT hW (fun _ => none) (fun _ => ⟨rfl, fun _ h => h⟩) ?_
      simp [h6]
      refine LWp.seq ?_
      refine LWp.reg hT hW (fun | 50 => some <| .plain ⟨.d (.bool e.needs[i].isName), true⟩ | _ => none) (by intro d; first | exact ⟨rfl, fun _ h => h⟩ | (split <;> exact ⟨rfl, fun _ h => h⟩)) ?_
      simp
      refine ⟨possible_ok _, ?_⟩
      refine LWp.iff ?_
      simp
      refine ⟨fun h8 => ?_, fun h8 => ?_⟩
      · refine LWp.seq ?_
        refine LWp.reg hT hW (fun _ => none) (fun _ => ⟨rfl, fun _ h => h⟩) ?_
        simp
        refine LWp.ret ?_
        simp
        have : e.needs.all Nm.isName = false := by
          rw [List.all_eq_false]
          exact ⟨_, List.getElem_mem h6, by simp [h8]⟩
        simp [properE, this]
      · refine LWp.skip ?_
        simp
        refine LWp.reg hT hW (fun _ => none) (fun _ => ⟨rfl, fun _ h => h⟩) ?_
        simp
        refine ⟨by omega, ?_⟩
        refine loopQ.mk (i + 1) (Weak.to [1, 3, 43, 44, 45] [(1, 1)] (by decide) (by decide) (by simp [hp]) (by simp) (by simp)) ?_ ?_
        · exact ⟨h6, hi6.2.succ h6 (by simpa using h8)⟩
        · omega
    · refine LWp.exit ?_
      simp
      refine LWp.seq ?_
      refine LWp.seq ?_
      refine LWp.reg hT hW (fun _ => none) (fun _ => ⟨rfl, fun _ h => h⟩) ?_
      simp
      refine LWp.block ?_
      refine LWp.loopW (ι := Nat) (fun k => mkEnv [(1, .bx 1 0), (3, .d (strsD (touches e))), (53, .d (strsD (touches e))), (54, .d (I64 (touches e).length)), (55, .d (I64 k))]) (fun k => mkObs [(1, .box false ((cellsD e.d).map .d))]) (fun k => k ≤ (touches e).length ∧ ∀ (j : Nat) (h : j < (touches e).length), j < k → okName (touches e) j h = true) (fun k => (touches e).length - k) 0 (Weak.to [1, 3, 53, 54, 55] [(1, 1)] (by decide) (by decide) (by simp [hp]) (by simp) (by simp)) (⟨Nat.zero_le _, fun j _ h => absurd h (Nat.not_lt_zero _)⟩) fun k hi12 => ?_
      refine LWp.len (t := 53) rfl fun hlen12 => ?_
      simp at hlen12
      refine LWp.seq ?_
      refine LWp.reg hT hW (fun _ => none) (fun _ => ⟨rfl, fun _ h => h⟩) ?_
      simp
      refine LWp.seq ?_
      refine LWp.iff ?_
      simp
      refine ⟨fun h12 => ?_, fun h12 => ?_⟩
      · refine LWp.skip ?_
        simp
        refine LWp.seq ?_
        refine LWp.block ?_
        refine LWp.seq ?_
        refine LWp.reg hT hW (fun _ => none) (fun _ => ⟨rfl, fun _ h => h⟩) ?_
        simp [h12]
        refine LWp.seq ?_
        refine LWp.reg hT hW (fun | 72 => some <| .plain ⟨.d (.bool (decide ((touches e).getD k default ∈ (touches e).take k))), true⟩ | _ => none) (by intro d; first | exact ⟨rfl, fun _ h => h⟩ | (split <;> exact ⟨rfl, fun _ h => h⟩)) ?_
        simp [h12]
        refine ⟨⟨fun _ _ => by omega, fun _ _ => by simpa [strsD] using InStr_ok ((touches e).take k) (touches e)[k]⟩, ?_⟩
        refine LWp.iff ?_
        simp
        refine ⟨fun h14 => ?_, fun q1 q2 q3 => ?_⟩
        · refine LWp.seq ?_
          refine LWp.reg hT hW (fun _ => none) (fun _ => ⟨rfl, fun _ h => h⟩) ?_
          simp
          refine LWp.ret ?_
          simp
          have : okNames (touches e) = false := by
            cases q : okNames (touches e) with
            | false => rfl
            | true =>
              have := okNames_iff.1 q k h12
              simp [okName] at this
              rcases h14 with (h | h) | h
              · exact absurd h this.1.1
              · omega
              · exact absurd h this.2
          simp [properE, this]
        · refine LWp.skip ?_
          simp
          refine LWp.reg hT hW (fun _ => none) (fun _ => ⟨rfl, fun _ h => h⟩) ?_
          simp
          refine ⟨by omega, ?_⟩
          refine loopQ.mk (k + 1) (Weak.to [1, 3, 53, 54, 55] [(1, 1)] (by decide) (by decide) (by simp [hp]) (by simp) (by simp)) ?_ ?_
          · refine ⟨h12, fun j hj hjk => ?_⟩
            by_cases hjk' : j = k
            · subst hjk'
              simp [okName, q1, q3, show (touches e)[j].length ≤ 16 by omega]
            · exact hi12.2 j hj (by omega)
          · omega
      · refine LWp.exit ?_
        simp
        refine LWp.seq ?_
        refine LWp.reg hT hW (fun | 77 => some <| .plain ⟨.d (.bool (e.puts.any fun d => decide (d.text.length > 1024))), true⟩ | _ => none) (by intro d; first | exact ⟨rfl, fun _ h => h⟩ | (split <;> exact ⟨rfl, fun _ h => h⟩)) ?_
        simp
        refine ⟨AnyDf_ok _ _ _ _ fun d _ => proper1_ok d, ?_⟩
        refine LWp.ret ?_
        simp
        have h1 : e.needs.all Nm.isName = true := by
          have := hi6.2.any (by omega)
          simpa using this
        have h2 : okNames (touches e) = true := okNames_iff.2 fun j hj => hi12.2 j hj (by omega)
        have h3 : (touches e).length ≤ 24 := by omega
        simp only [properE, n1, n3, n4, n5, h1, h2, h3, decide_true, Bool.true_and, Bool.and_self]
        rw [Bool.eq_iff_iff]
        simp

end Go.Eng

/-
  Chapter 22: edit.Valid, edit.Closed. No condition.
-/
namespace Go.Eng
open Go.Proofs
attribute [local simp] runL stepL evalG evalOp opLV constLV putEnv dstOk upd upds Res.plain Res.cond Res.fail evalBin evalUn seqQ blockQ argsEnv lookL lookH RetIs memless freshL evalPick evalMin bval bok evalLen evalIn strip whenC guardOps guardC slotsOf
  runM foldS stepI stepM maskE wrIn lk renO lookN evalCall evalCallee optAll resLV resObj retLV retObj retsLV retsObj evalLoad evalIndexAddr evalField solid cellsD_agg cellsD_int cellsD_bool cellsD_str cellsD_sl cellsD_ro cellsD_fn cellsL_agg cellsL_dagg cellsL_int cellsL_bool cellsL_str cellsL_sl cellsL_fn cellsL_ow cellsL_bx cellsL_lfn cellsL_nl takeL takeD mkAgg allD eqD eqDs kindsAre kindIs LObj.live TK.isNone TK.agg TK.isBool TK.isStr TK.isStruct Op.operands Call.operands
  evalBuildSlice evalAppend elemsOf evalStore evalBuild fillL lookupF putL evalSlice bound evalConv elemsS freezes frozen loadR
  mkEnv_at mkObs_at close_d close_agg close_ow close_bx close_fn close_nl touch_d touch_agg touch_ow touch_bx touch_fn touch_nl ren_d ren_agg ren_bx ren_rp ren_ow ren_fn ren_nl ren_junk retQ_ret retQ2_ret condQ_bool Nm.d Df.d Ed.d nmsD dfsD strsD edsD retC_ret nm_eq df_eq take_map_len take_map_app
  nm_t nm_d nm_td df_t df_d df_td str_t str_d str_td ed_t ed_d ed_td
  evalAppendIn evalCut evalClear evalCopy evalMake evalWrap evalCap evalNil isNilC lenL isInp gorc
  mapOf findD keyEq keyOk evalMakeMap evalRange zeroD zeroDV argsG shutG outN lenv retG0_ret retG0_normal retG1_ret renO close_mp touch_mp ren_mp optAll_d optAll_d' touch_ds cellsL_mp cellsD_mp cellsL_dmp

/-- culprit/edit.Valid$1 -/
theorem Valid1_ok (l : List Ed) (n : Nm) : Ok Tryz.prog 66 [n.d, .ro [edsD l]] ⟨.d (.bool (decide (findI l n < 0))), true⟩ := by
  refine Ok.ret Tryz.func66 (by kernel_rfl) (c := _) rfl Tryz.ntmps66 (by simp) Tryz.results66 (by intro _ h; cases h) fun w0 X hp => ?_
  refine LWp.seq ?_
  refine LWp.reg hT hW (fun _ => none) (fun _ => ⟨rfl, fun _ h => h⟩) ?_
  simp
  refine LWp.seq ?_
  refine LWp.reg hT hW (fun | 6 => some <| .plain ⟨.d (I64 (findI l n)), true⟩ | _ => none) (by intro d; first | exact ⟨rfl, fun _ h => h⟩ | (split <;> exact ⟨rfl, fun _ h => h⟩)) ?_
  simp
  refine ⟨EFind_ok l n, ?_⟩
  refine LWp.ret ?_
  simp

/-- No list of an edit is too long for a machine. -/
def small (l : List Ed) : Prop := ∀ e ∈ l, e.puts.length ≤ 1000000 ∧ e.drops.length ≤ 1000000

/-- culprit/edit.Valid -/
theorem EValid_ok (l : List Ed) (hs : small l) : Ok Tryz.prog 13 [edsD l] ⟨.tup [.d (I64 (validV l).1), .d (I64 (validV l).2)], true⟩ := by
  refine Ok.two Tryz.func13 (by kernel_rfl) (c := _) rfl Tryz.ntmps13 (by simp) Tryz.results13 rfl fun w0 X hp => ?_
  refine LWp.len (t := 0) rfl fun hlen => ?_
  simp at hlen
  refine LWp.seq ?_
  refine LWp.reg hT hW (fun _ => none) (fun _ => ⟨rfl, fun _ h => h⟩) ?_
  simp
  refine LWp.seq ?_
  refine LWp.seq ?_
  refine LWp.reg hT hW (fun _ => none) (fun _ => ⟨rfl, fun _ h => h⟩) ?_
  simp
  refine LWp.iff ?_
  simp
  refine ⟨fun h1 => ?_, fun h1 => ?_⟩
  · refine LWp.seq ?_
    refine LWp.reg hT hW (fun _ => none) (fun _ => ⟨rfl, fun _ h => h⟩) ?_
    simp
    refine LWp.ret ?_
    have : 64 < l.length := by omega
    simp [validV, this]
  · refine LWp.skip ?_
    simp
    refine LWp.seq ?_
    refine LWp.seq ?_
    refine LWp.reg hT hW (fun _ => none) (fun _ => ⟨rfl, fun _ h => h⟩) ?_
    simp
    refine LWp.block ?_
    refine LWp.loopW (ι := Nat) (fun i => mkEnv [(1, .bx 1 0), (9, .d (edsD l)), (10, .d (I64 l.length)), (11, .d (I64 i))]) (fun i => mkObs [(1, .box false [.d (edsD l)])]) (fun i => i ≤ l.length ∧ validFrom l (l.drop i) i = validFrom l l 0) (fun i => l.length - i) 0 (Weak.to [1, 9, 10, 11] [(1, 1)] (by decide) (by decide) (by simp [hp]) (by simp) (by simp)) (by simp) fun i hi4 => ?_
    refine LWp.seq ?_
    refine LWp.reg hT hW (fun _ => none) (fun _ => ⟨rfl, fun _ h => h⟩) ?_
    simp
    refine LWp.seq ?_
    refine LWp.iff ?_
    simp
    refine ⟨fun h4 => ?_, fun h4 => ?_⟩
    · refine LWp.skip ?_
      simp
      refine LWp.seq ?_
      refine LWp.block ?_
      refine LWp.seq ?_
      refine LWp.reg hT hW (fun _ => none) (fun _ => ⟨rfl, fun _ h => h⟩) ?_
      simp [h4]
      refine LWp.block ?_
      refine LWp.seq ?_
      refine LWp.reg hT hW (fun | 18 => some <| .plain ⟨.d (.bool (properE l[i])), true⟩ | _ => none) (by intro d; first | exact ⟨rfl, fun _ h => h⟩ | (split <;> exact ⟨rfl, fun _ h => h⟩)) ?_
      simp [h4]
      refine ⟨proper_ok l[i] (hs _ (List.getElem_mem h4)).1 (hs _ (List.getElem_mem h4)).2, ?_⟩
      refine LWp.iff ?_
      simp
      refine ⟨fun h6 => ?_, fun h6 => ?_⟩
      · refine LWp.seq ?_
        refine LWp.reg hT hW (fun _ => none) (fun _ => ⟨rfl, fun _ h => h⟩) ?_
        simp
        refine LWp.ret ?_
        have hl : ¬ 64 < l.length := by omega
        have e : errE l i l[i] = 1 := by simp [errE, h6]
        have hv := validFrom_stop h4 (by rw [e]; decide)
        rw [hi4.2, e] at hv
        simp [validV, hl, hv]
      · refine LWp.seq ?_
        refine LWp.reg hT hW (fun | 25 => some <| .plain ⟨.d (I64 (findI l l[i].name)), true⟩ | _ => none) (by intro d; first | exact ⟨rfl, fun _ h => h⟩ | (split <;> exact ⟨rfl, fun _ h => h⟩)) ?_
        simp
        refine ⟨EFind_ok l l[i].name, ?_⟩
        refine LWp.iff ?_
        simp
        refine ⟨fun h8 => ?_, fun h8 => ?_⟩
        · refine LWp.seq ?_
          refine LWp.reg hT hW (fun _ => none) (fun _ => ⟨rfl, fun _ h => h⟩) ?_
          simp
          refine LWp.ret ?_
          have hl : ¬ 64 < l.length := by omega
          have e : errE l i l[i] = 7 := by simp [errE, h6, h8]
          have hv := validFrom_stop h4 (by rw [e]; decide)
          rw [hi4.2, e] at hv
          simp [validV, hl, hv]
        · refine LWp.seq ?_
          refine LWp.reg hT hW (fun | 33 => some <| .plain ⟨.d (.bool (l[i].needs.any fun n => decide (findI l n < 0))), true⟩ | _ => none) (by intro d; first | exact ⟨rfl, fun _ h => h⟩ | (split <;> exact ⟨rfl, fun _ h => h⟩)) ?_
          simp
          refine ⟨AnyNm_ok _ _ _ _ fun n _ => Valid1_ok l n, ?_⟩
          refine LWp.iff ?_
          simp
          refine ⟨fun n10 hm10 hl10 => ?_, fun h10 => ?_⟩
          · have h10 : l[i].needs.any (fun n => decide (findI l n < 0)) = true := List.any_eq_true.2 ⟨n10, hm10, by simpa using hl10⟩
            refine LWp.seq ?_
            refine LWp.reg hT hW (fun _ => none) (fun _ => ⟨rfl, fun _ h => h⟩) ?_
            simp
            refine LWp.ret ?_
            have hl : ¬ 64 < l.length := by omega
            have k8 : ¬ findI l l[i].name < i := by omega
            have k10 : l[i].needs.any (fun n => decide (findI l n < 0)) = true := h10
            have e : errE l i l[i] = 6 := by simp [errE, h6, k8, k10]
            have hv := validFrom_stop h4 (by rw [e]; decide)
            rw [hi4.2, e] at hv
            simp [validV, hl, hv]
          · refine LWp.seq ?_
            refine LWp.reg hT hW (fun | 41 => some <| .plain ⟨.d (.bool (decide (l[i].name ∈ aboveL l l[i].name))), true⟩ | _ => none) (by intro d; first | exact ⟨rfl, fun _ h => h⟩ | (split <;> exact ⟨rfl, fun _ h => h⟩)) ?_
            simp
            refine ⟨EBefore_ok l _ _, ?_⟩
            refine LWp.iff ?_
            simp
            refine ⟨fun h12 => ?_, fun h12 => ?_⟩
            · refine LWp.seq ?_
              refine LWp.reg hT hW (fun _ => none) (fun _ => ⟨rfl, fun _ h => h⟩) ?_
              simp
              refine LWp.ret ?_
              have hl : ¬ 64 < l.length := by omega
              have k8 : ¬ findI l l[i].name < i := by omega
              have k10 : l[i].needs.any (fun n => decide (findI l n < 0)) = false := by simpa using h10
              have e : errE l i l[i] = 13 := by simp [errE, h6, k8, k10, h12]
              have hv := validFrom_stop h4 (by rw [e]; decide)
              rw [hi4.2, e] at hv
              simp [validV, hl, hv]
            · refine LWp.skip ?_
              simp
              refine LWp.reg hT hW (fun _ => none) (fun _ => ⟨rfl, fun _ h => h⟩) ?_
              simp
              refine ⟨by omega, ?_⟩
              refine loopQ.mk (i + 1) (Weak.to [1, 9, 10, 11] [(1, 1)] (by decide) (by decide) (by simp [hp]) (by simp) (by simp)) ?_ ?_
              · refine ⟨h4, ?_⟩
                rw [← hi4.2, ← validFrom_step h4]
                have k8 : ¬ findI l l[i].name < i := by omega
                have k10 : l[i].needs.any (fun n => decide (findI l n < 0)) = false := by simpa using h10
                simp [errE, h6, k8, k10, h12]
              · omega
    · refine LWp.exit ?_
      simp
      refine LWp.seq ?_
      refine LWp.reg hT hW (fun _ => none) (fun _ => ⟨rfl, fun _ h => h⟩) ?_
      simp
      refine LWp.ret ?_
      have hl : ¬ 64 < l.length := by omega
      have hv := validFrom_end (l := l) (i := i) (by omega)
      rw [hi4.2] at hv
      have q : i = l.length := by omega
      simp [validV, hl, hv, q]

end Go.Eng

/-
  Chapter 22: closed sets; copies of lists of names; lists without doubles; deletions. No condition.
-/
namespace Go.Eng
open Go.Proofs
attribute [local simp] runL stepL evalG evalOp opLV constLV putEnv dstOk upd upds Res.plain Res.cond Res.fail evalBin evalUn seqQ blockQ argsEnv lookL lookH RetIs memless freshL evalPick evalMin bval bok evalLen evalIn strip whenC guardOps guardC slotsOf
  runM foldS stepI stepM maskE wrIn lk renO lookN evalCall evalCallee optAll resLV resObj retLV retObj retsLV retsObj evalLoad evalIndexAddr evalField solid cellsD_agg cellsD_int cellsD_bool cellsD_str cellsD_sl cellsD_ro cellsD_fn cellsL_agg cellsL_dagg cellsL_int cellsL_bool cellsL_str cellsL_sl cellsL_fn cellsL_ow cellsL_bx cellsL_lfn cellsL_nl takeL takeD mkAgg allD eqD eqDs kindsAre kindIs LObj.live TK.isNone TK.agg TK.isBool TK.isStr TK.isStruct Op.operands Call.operands
  evalBuildSlice evalAppend elemsOf evalStore evalBuild fillL lookupF putL evalSlice bound evalConv elemsS freezes frozen loadR
  mkEnv_at mkObs_at close_d close_agg close_ow close_bx close_fn close_nl touch_d touch_agg touch_ow touch_bx touch_fn touch_nl ren_d ren_agg ren_bx ren_rp ren_ow ren_fn ren_nl ren_junk retQ_ret retQ2_ret condQ_bool Nm.d Df.d Ed.d nmsD dfsD strsD edsD retC_ret nm_eq df_eq take_map_len take_map_app
  nm_t nm_d nm_td df_t df_d df_td str_t str_d str_td ed_t ed_d ed_td
  evalAppendIn evalCut evalClear evalCopy evalMake evalWrap evalCap evalNil isNilC lenL isInp gorc
  mapOf findD keyEq keyOk evalMakeMap evalRange zeroD zeroDV argsG shutG outN lenv retG0_ret retG0_normal retG1_ret renO close_mp touch_mp ren_mp optAll_d optAll_d' touch_ds cellsL_mp cellsD_mp cellsL_dmp

/-- culprit/edit.Closed$1 -/
theorem Closed1_ok (l : List Nm) (n : Nm) : Ok Tryz.prog 76 [n.d, .ro [nmsD l]] ⟨.d (.bool (!decide (n ∈ l))), true⟩ := by
  refine Ok.ret Tryz.func76 (by kernel_rfl) (c := _) rfl Tryz.ntmps76 (by simp) Tryz.results76 (by intro _ h; cases h) fun w0 X hp => ?_
  refine LWp.seq ?_
  refine LWp.reg hT hW (fun _ => none) (fun _ => ⟨rfl, fun _ h => h⟩) ?_
  simp
  refine LWp.seq ?_
  refine LWp.reg hT hW (fun | 6 => some <| .plain ⟨.d (.bool (decide (n ∈ l))), true⟩ | _ => none) (by intro d; first | exact ⟨rfl, fun _ h => h⟩ | (split <;> exact ⟨rfl, fun _ h => h⟩)) ?_
  simp
  refine ⟨InNm_ok l n, ?_⟩
  refine LWp.ret ?_
  simp

/-- culprit/edit.Closed -/
theorem EClosed_ok (l : List Ed) (set : List Nm) : Ok Tryz.prog 20 [edsD l, nmsD set] ⟨.d (.bool (closedB l set)), true⟩ := by
  refine Ok.ret Tryz.func20 (by kernel_rfl) (c := _) rfl Tryz.ntmps20 (by simp) Tryz.results20 (by intro _ h; cases h) fun w0 X hp => ?_
  refine LWp.len (t := 1) rfl fun hlen => ?_
  simp at hlen
  refine LWp.seq ?_
  refine LWp.reg hT hW (fun _ => none) (fun _ => ⟨rfl, fun _ h => h⟩) ?_
  simp
  refine LWp.seq ?_
  refine LWp.seq ?_
  refine LWp.reg hT hW (fun _ => none) (fun _ => ⟨rfl, fun _ h => h⟩) ?_
  simp
  refine LWp.block ?_
  refine LWp.loopW (ι := Nat) (fun i => mkEnv [(0, .d (edsD l)), (3, .bx 3 0), (8, .d (nmsD set)), (9, .d (I64 set.length)), (10, .d (I64 i))]) (fun i => mkObs [(3, .box false [.d (nmsD set)])]) (fun i => i ≤ set.length ∧ Pre (fun n => !closedAt l set n) set i) (fun i => set.length - i) 0 (Weak.to [0, 3, 8, 9, 10] [(3, 3)] (by decide) (by decide) (by simp [hp]) (by simp) (by simp)) (⟨Nat.zero_le _, Pre.zero⟩) fun i hi2 => ?_
  refine LWp.seq ?_
  refine LWp.reg hT hW (fun _ => none) (fun _ => ⟨rfl, fun _ h => h⟩) ?_
  simp
  refine LWp.seq ?_
  refine LWp.iff ?_
  simp
  refine ⟨fun h2 => ?_, fun h2 => ?_⟩
  · refine LWp.skip ?_
    simp
    refine LWp.seq ?_
    refine LWp.block ?_
    refine LWp.seq ?_
    refine LWp.reg hT hW (fun _ => none) (fun _ => ⟨rfl, fun _ h => h⟩) ?_
    simp [h2]
    refine LWp.seq ?_
    refine LWp.reg hT hW (fun | 16 => some <| .plain ⟨.d (I64 (findI l set[i])), true⟩ | _ => none) (by intro d; first | exact ⟨rfl, fun _ h => h⟩ | (split <;> exact ⟨rfl, fun _ h => h⟩)) ?_
    simp
    refine ⟨EFind_ok l set[i], ?_⟩
    refine LWp.seq ?_
    rcases Int.lt_or_le (findI l set[i]) 0 with hneg | hneg
    · refine LWp.reg hT hW (fun _ => none) (by intro d; first | exact ⟨rfl, fun _ h => h⟩ | (split <;> exact ⟨rfl, fun _ h => h⟩)) ?_
      simp [hneg]
      refine LWp.iff ?_
      simp [hneg]
      refine LWp.seq ?_
      refine LWp.reg hT hW (fun _ => none) (fun _ => ⟨rfl, fun _ h => h⟩) ?_
      simp
      refine LWp.ret ?_
      simp
      exact closedB_false h2 (by simp [closedAt, hneg])
    · obtain ⟨i0, hi0, hfi, hfe, hne⟩ := edit_find (show ¬ findI l set[i] < 0 by omega)
      refine LWp.reg hT hW (fun | 26 => some <| .plain ⟨.d (.bool (l[i0].needs.any fun m => !decide (m ∈ set))), true⟩ | _ => none) (by intro d; first | exact ⟨rfl, fun _ h => h⟩ | (split <;> exact ⟨rfl, fun _ h => h⟩)) ?_
      simp [hfe, hi0]
      refine ⟨AnyNm_ok _ _ _ _ fun n _ => Closed1_ok set n, ?_⟩
      refine LWp.iff ?_
      simp
      refine ⟨fun h5 => ?_, fun h5 => ?_⟩
      · refine LWp.seq ?_
        refine LWp.reg hT hW (fun _ => none) (fun _ => ⟨rfl, fun _ h => h⟩) ?_
        simp
        refine LWp.ret ?_
        simp
        refine closedB_false h2 ?_
        have : ¬ findI l set[i] < 0 := by omega
        simp [closedAt, this, hne]
        rcases h5 with h | h
        · omega
        · exact h
      · refine LWp.skip ?_
        simp
        refine LWp.reg hT hW (fun _ => none) (fun _ => ⟨rfl, fun _ h => h⟩) ?_
        simp
        refine ⟨by omega, ?_⟩
        refine loopQ.mk (i + 1) (Weak.to [0, 3, 8, 9, 10] [(3, 3)] (by decide) (by decide) (by simp [hp]) (by simp) (by simp)) ?_ ?_
        · refine ⟨h2, hi2.2.succ h2 ?_⟩
          have : ¬ findI l set[i] < 0 := by omega
          simp [closedAt, this, hne]
          exact h5
        · omega
  · refine LWp.exit ?_
    simp
    refine LWp.seq ?_
    refine LWp.reg hT hW (fun _ => none) (fun _ => ⟨rfl, fun _ h => h⟩) ?_
    simp
    refine LWp.ret ?_
    simp
    exact closedB_true hi2.2 h2

/-- slices.Clone[[]culprit/api.Name,culprit/api.Name] -/
theorem CloneNm_ok (l : List Nm) (hl : l.length ≤ 8000000000000) : Ok Tryz.prog 71 [nmsD l] ⟨.own 2 (l.map Nm.d), true⟩ := by
  refine Ok.ret Tryz.func71 (by kernel_rfl) (c := _) rfl Tryz.ntmps71 (by simp) Tryz.results71 (by intro _ h; cases h) fun w0 X hp => ?_
  refine LWp.seq ?_
  refine LWp.reg hT hW (fun _ => none) (fun _ => ⟨rfl, fun _ h => h⟩) ?_
  simp
  refine LWp.seq ?_
  refine LWp.seq ?_
  refine LWp.regNil hT hW 4 (decide (l = [])) (fun _ => none) (fun _ => ⟨rfl, fun _ h => h⟩) (by kernel_rfl) fun b1 hb1 => ?_
  simp
  refine LWp.iff ?_
  simp
  refine ⟨fun h1 => ?_, fun h1 => ?_⟩
  · refine LWp.seq ?_
    refine LWp.reg hT hW (fun _ => none) (fun _ => ⟨rfl, fun _ h => h⟩) ?_
    simp
    refine LWp.ret ?_
    have := hb1 h1
    simp at this
    simp [this]
  · refine LWp.skip ?_
    simp
    refine LWp.seq ?_
    refine LWp.reg hT hW (fun _ => none) (fun _ => ⟨rfl, fun _ h => h⟩) ?_
    simp
    refine ⟨by omega, ?_⟩
    refine LWp.ret ?_
    simp

theorem del_row {b t : List DV} {n k : Nat} (hn : b.length = n) (hk : k < n) (z : DV) :
    List.take (n - 1) (List.take k (b ++ t) ++ (List.take (n - (k + 1)) (List.drop (k + 1) (b ++ t)) ++ List.drop (k + (n - (k + 1))) (b ++ t))) ++ z :: List.drop (n - 1 + 1) (List.take k (b ++ t) ++ (List.take (n - (k + 1)) (List.drop (k + 1) (b ++ t)) ++ List.drop (k + (n - (k + 1))) (b ++ t))) = b.eraseIdx k ++ z :: t := by
  have e0 : List.take k (b ++ t) = List.take k b := by rw [List.take_append_of_le_length (by omega)]
  have e1 : List.take (n - (k + 1)) (List.drop (k + 1) (b ++ t)) = List.drop (k + 1) b := by
    rw [List.drop_append_of_le_length (by omega), List.take_append_of_le_length (by simp; omega), List.take_of_length_le (by simp; omega)]
  have e2 : List.drop (k + (n - (k + 1))) (b ++ t) = List.drop (n - 1) b ++ t := by
    rw [show k + (n - (k + 1)) = n - 1 by omega, List.drop_append_of_le_length (by omega)]
  rw [e0, e1, e2, ← List.append_assoc, ← List.eraseIdx_eq_take_drop_succ]
  have hl : (b.eraseIdx k).length = n - 1 := by rw [List.length_eraseIdx]; simp [hn, hk]
  rw [List.take_append_of_le_length (by omega), List.take_of_length_le (by omega), ← List.append_assoc, List.drop_append_of_le_length (by simp [hl, hn]; omega), List.drop_eq_nil_of_le (by simp [hl, hn]; omega), List.nil_append]
theorem map_erase {α β : Type} (f : α → β) (l : List α) (k : Nat) : (l.map f).eraseIdx k = (l.eraseIdx k).map f := by
  rw [List.eraseIdx_eq_take_drop_succ, List.eraseIdx_eq_take_drop_succ, List.map_append, List.map_take, List.map_drop]
theorem nmt_td {l : List Nm} {t : List DV} (ht : ∀ y ∈ t, (cellsD y).length = 2) {n k : Nat} : (∀ y ∈ List.take n (List.drop k (List.map Nm.d l ++ t)), (cellsD y).length = 2) ↔ True := iff_true_intro fun y hy => by
  rcases List.mem_append.1 (mem_part hy) with h | h
  · exact (nm_mem h).1
  · exact ht y h

/-- slices.Delete[[]culprit/api.Name,culprit/api.Name] -/
theorem DeleteNm_ok (l : List Nm) (t : List DV) (ht : ∀ y ∈ t, (cellsD y).length = 2) (k : Nat) (hk : k < l.length) : OkG Tryz.prog 138 [.ow 0 0 l.length, .d (I64 k), .d (I64 (k + 1))] [(0, .row false 2 (l.map Nm.d ++ t))] [(0, .row false 2 ((l.eraseIdx k).map Nm.d ++ Nm.d ⟨0, 0⟩ :: t))] (.ow 0 0 (l.length - 1)) := by
  refine OkG.one Tryz.func138 (by kernel_rfl) (c := _) rfl Tryz.ntmps138 (by simp) Tryz.results138 fun w0 X hp => ?_
  refine LWp.seq ?_
  refine LWp.reg hT hW (fun _ => none) (fun _ => ⟨rfl, fun _ h => h⟩) ?_
  simp
  refine LWp.seq ?_
  refine LWp.reg hT hW (fun | 13 => some .inp | _ => none) (by intro d; first | exact ⟨rfl, fun _ h => h⟩ | (split <;> exact ⟨rfl, fun _ h => h⟩)) ?_
  simp
  refine ⟨by omega, ?_⟩
  refine LWp.seq ?_
  refine LWp.seq ?_
  refine LWp.reg hT hW (fun _ => none) (fun _ => ⟨rfl, fun _ h => h⟩) ?_
  simp [(show ¬ ((k : Int) = (k : Int) + 1) by omega)]
  refine LWp.iff ?_
  simp
  refine LWp.skip ?_
  simp
  refine LWp.seq ?_
  refine LWp.reg hT hW (fun _ => none) (fun _ => ⟨rfl, fun _ h => h⟩) ?_
  simp
  refine LWp.seq ?_
  refine LWp.regAny hT hW hMixed (lk [[], [], [0, 1], [], [], [3, 4], [0, 1, 2, 3, 4, 5], [0, 1, 2, 3, 4, 5, 6]]) (lk [[], [], [], [], [], [], [], []]) (lk [[], [], [], [], [], [], [0, 26], []]) (by kernel_rfl) (fun | 26 => some .inp | _ => none) (by intro d; first | exact ⟨rfl, fun _ h => h⟩ | (split <;> exact ⟨rfl, fun _ h => h⟩)) ?_
  simp [(show ((l.length : Int) - ((k : Int) + 1)).toNat = l.length - (k + 1) by omega), (show l.length - (k + 1) ≤ l.length + t.length - (k + 1) by omega), nmt_td ht]
  refine ⟨by omega, ?_⟩
  refine LWp.seq ?_
  refine LWp.reg hT hW (fun _ => none) (fun _ => ⟨rfl, fun _ h => h⟩) ?_
  simp [(show ((k : Int) + ((l.length - (k + 1) : Nat) : Int)).toNat = l.length - 1 by omega), (show ((l.length : Int) - ((k : Int) + ((l.length - (k + 1) : Nat) : Int))).toNat = 1 by omega)]
  refine ⟨by omega, ?_⟩
  refine LWp.seq ?_
  refine LWp.reg hT hW (fun _ => none) (fun _ => ⟨rfl, fun _ h => h⟩) ?_
  simp
  refine LWp.ret ?_
  simp
  refine Weak.to [6] [(0, 0)] (by decide) (by decide) (by simp [hp]) ?_ ?_
  · simp [show k + (l.length - (k + 1)) = l.length - 1 by omega]
  · simp
    rw [del_row (by simp) hk, map_erase]

def zeroNm : Nm := ⟨0, 0⟩
theorem dedup_one {l : List Nm} : dedup (l.take 1) = l.take 1 := by cases l <;> simp [dedup]
theorem dedup_small {l : List Nm} (h : l.length < 2) : dedup l = l := by
  match l, h with
  | [], _ => rfl
  | [_], _ => rfl
theorem drop_get {α : Type} {a b : List α} {p i : Nat} (h : a.drop p = b.drop p) (hp : p ≤ i) (ha : i < a.length) (hb : i < b.length) : a[i] = b[i] := by
  have h1 := congrArg (·[i - p]?) h
  simp only [List.getElem?_drop, show p + (i - p) = i by omega, List.getElem?_eq_getElem ha, List.getElem?_eq_getElem hb] at h1
  exact Option.some.inj h1
theorem getD_map {α : Type} {f : α → DV} {l : List α} {i : Nat} (h : i < l.length) : (l.map f)[i]?.getD default = f l[i] := by simp [h]

/-- slices.Compact[[]culprit/api.Name,culprit/api.Name] -/
theorem CompactNm_ok (l : List Nm) (hl : l.length ≤ 8000000000000) : OkG Tryz.prog 81 [.ow 0 0 l.length] [(0, .row false 2 (l.map Nm.d))] [(0, .row false 2 ((dedup l).map Nm.d ++ List.replicate (l.length - (dedup l).length) zeroNm.d))] (.ow 0 0 (dedup l).length) := by
  refine OkG.one Tryz.func81 (by kernel_rfl) (c := _) rfl Tryz.ntmps81 (by simp) Tryz.results81 fun w0 X hp => ?_
  refine LWp.seq ?_
  refine LWp.reg hT hW (fun _ => none) (fun _ => ⟨rfl, fun _ h => h⟩) ?_
  simp
  refine LWp.seq ?_
  refine LWp.seq ?_
  refine LWp.reg hT hW (fun _ => none) (fun _ => ⟨rfl, fun _ h => h⟩) ?_
  simp
  refine LWp.iff ?_
  simp
  refine ⟨fun h1 => ?_, fun h1 => ?_⟩
  · refine LWp.seq ?_
    refine LWp.reg hT hW (fun _ => none) (fun _ => ⟨rfl, fun _ h => h⟩) ?_
    simp
    refine LWp.ret ?_
    simp
    refine Weak.to [2] [(0, 0)] (by decide) (by decide) (by simp [hp]) ?_ ?_
    · simp [dedup_small (by omega : l.length < 2)]
    · simp [dedup_small (by omega : l.length < 2)]
  · refine LWp.skip ?_
    simp
    refine LWp.seq ?_
    refine LWp.seq ?_
    refine LWp.reg hT hW (fun _ => none) (fun _ => ⟨rfl, fun _ h => h⟩) ?_
    simp
    refine LWp.block ?_
    refine LWp.loopW (ι := Nat) (fun k => mkEnv [(0, .ow 0 0 l.length), (3, .d (I64 k))]) (fun k => mkObs [(0, .row false 2 (l.map Nm.d))]) (fun k => 1 ≤ k ∧ k ≤ l.length ∧ dedup (l.take k) = l.take k) (fun k => l.length - k) 1 (Weak.to [0, 3] [(0, 0)] (by decide) (by decide) (by simp [hp]) (by simp) (by simp)) (⟨by omega, by omega, dedup_one⟩) fun k hi4 => ?_
    refine LWp.seq ?_
    refine LWp.seq ?_
    refine LWp.reg hT hW (fun _ => none) (fun _ => ⟨rfl, fun _ h => h⟩) ?_
    simp
    refine LWp.iff ?_
    simp
    refine ⟨fun h4 => ?_, fun h4 => ?_⟩
    · refine LWp.skip ?_
      simp
      refine LWp.seq ?_
      refine LWp.block ?_
      refine LWp.seq ?_
      refine LWp.regAny hT hW hMixed (lk [[], [], [0, 1], [0, 1, 2], [], [], [5], [4, 5, 6], [4, 5, 6, 7], [0, 1, 2, 3, 4, 5, 6, 7, 8]]) (lk [[], [], [], [], [], [], [], [], [], []]) (lk [[], [], [], [], [], [], [], [], [], []]) (by kernel_rfl) (fun _ => none) (fun _ => ⟨rfl, fun _ h => h⟩) ?_
      simp [(show ((k : Int) - 1).toNat = k - 1 by omega), h4, (show k - 1 < l.length by omega)]
      refine ⟨by omega, ?_⟩
      refine LWp.iff ?_
      simp
      refine ⟨fun h6 => ?_, fun h6 => ?_⟩
      · refine LWp.seq ?_
        refine LWp.reg hT hW (fun _ => none) (fun _ => ⟨rfl, fun _ h => h⟩) ?_
        simp
        refine ⟨by omega, ?_⟩
        refine LWp.seq ?_
        refine LWp.seq ?_
        refine LWp.reg hT hW (fun _ => none) (fun _ => ⟨rfl, fun _ h => h⟩) ?_
        simp
        refine LWp.block ?_
        refine LWp.loopW (ι := Nat × Nat × List Nm) (fun ⟨q, k', r⟩ => mkEnv [(0, .ow 0 0 l.length), (3, .d (I64 k')), (4, .ow 0 k (l.length - k)), (5, .d (I64 q))]) (fun ⟨q, k', r⟩ => mkObs [(0, .row false 2 (r.map Nm.d))]) (fun ⟨q, k', r⟩ => 1 ≤ q ∧ k + q ≤ l.length ∧ 1 ≤ k' ∧ k' + 1 ≤ k + q ∧ r.length = l.length ∧ r.take k' = dedup (l.take (k + q)) ∧ r.drop (k + q - 1) = l.drop (k + q - 1)) (fun ⟨q, k', r⟩ => l.length - k - q) (1, k, l) (Weak.to [0, 3, 4, 5] [(0, 0)] (by decide) (by decide) (by simp [hp]) (by simp) (by simp)) (⟨by omega, by omega, by omega, by omega, rfl, by rw [dedup_take (by omega) h4, if_pos h6.symm, hi4.2.2], rfl⟩) fun ⟨q, k', r⟩ hi9 => ?_
        refine LWp.seq ?_
        refine LWp.seq ?_
        refine LWp.reg hT hW (fun _ => none) (fun _ => ⟨rfl, fun _ h => h⟩) ?_
        simp
        refine LWp.iff ?_
        simp
        refine ⟨fun h9 => ?_, fun h9 => ?_⟩
        · refine LWp.skip ?_
          simp
          refine LWp.seq ?_
          refine LWp.block ?_
          refine LWp.seq ?_
          obtain ⟨g1, g2, g3, g4, g5, g6, g7⟩ := hi9
          have hq : k + q < l.length := by omega
          have e1 : r[k + q]'(by omega) = l[k + q] := drop_get g7 (by omega) (by omega) hq
          have e2 : r[k + (q - 1)]'(by omega) = l[k + (q - 1)] := drop_get g7 (by omega) (by omega) (by omega)
          refine LWp.regAny hT hW hMixed (lk [[], [], [0, 1], [0, 1, 2], [], [], [5], [4, 5, 6], [4, 5, 6, 7], [0, 1, 2, 3, 4, 5, 6, 7, 8]]) (lk [[], [], [], [], [], [], [], [], [], []]) (lk [[], [], [], [], [], [], [], [], [], []]) (by kernel_rfl) (fun _ => none) (fun _ => ⟨rfl, fun _ h => h⟩) ?_
          simp [(show ((q : Int) - 1).toNat = q - 1 by omega), (show k + q < r.length by omega), (show k + (q - 1) < r.length by omega), e1, e2]
          refine ⟨by omega, ?_⟩
          refine LWp.iff ?_
          simp
          refine ⟨fun h11 => ?_, fun h11 => ?_⟩
          · refine LWp.seq ?_
            refine LWp.reg hT hW (fun _ => none) (fun _ => ⟨rfl, fun _ h => h⟩) ?_
            simp [(show k + q < r.length by omega), e1]
            refine ⟨by omega, ?_⟩
            refine LWp.reg hT hW (fun _ => none) (fun _ => ⟨rfl, fun _ h => h⟩) ?_
            simp
            refine ⟨by omega, ?_⟩
            refine LWp.reg hT hW (fun _ => none) (fun _ => ⟨rfl, fun _ h => h⟩) ?_
            simp
            refine ⟨by omega, ?_⟩
            refine loopQ.mk (q + 1, k' + 1, r.set k' l[k + q]) (Weak.to [0, 3, 4, 5] [(0, 0)] (by decide) (by decide) (by simp [hp]) (by simp) (by simp)) ?_ ?_
            · have hk' : k' < r.length := by omega
              have e3 : ¬ l[k + q - 1] = l[k + q] := fun e => h11 (by rw [← e]; congr 1; omega)
              dsimp only
              refine ⟨by omega, by omega, by omega, by omega, by simp [g5], ?_, ?_⟩
              · rw [List.take_succ_eq_append_getElem (by simpa using hk'), List.getElem_set_self, List.take_set_of_le (by omega), g6, ← Nat.add_assoc, dedup_take (by omega) hq, if_neg e3]
              · have g8 := congrArg (List.drop 1) g7
                rw [List.drop_drop, List.drop_drop, show k + q - 1 + 1 = k + q by omega] at g8
                rw [show k + (q + 1) - 1 = k + q by omega, List.drop_set_of_lt (by omega), g8]
            · omega
          · refine LWp.skip ?_
            simp
            refine LWp.reg hT hW (fun _ => none) (fun _ => ⟨rfl, fun _ h => h⟩) ?_
            simp
            refine ⟨by omega, ?_⟩
            refine loopQ.mk (q + 1, k', r) (Weak.to [0, 3, 4, 5] [(0, 0)] (by decide) (by decide) (by simp [hp]) (by simp) (by simp)) ?_ ?_
            · have e3 : l[k + q - 1] = l[k + q] := by rw [h11]; congr 1; omega
              dsimp only
              refine ⟨by omega, by omega, by omega, by omega, g5, ?_, ?_⟩
              · rw [g6, ← Nat.add_assoc, dedup_take (by omega) hq, if_pos e3]
              · have g8 := congrArg (List.drop 1) g7
                rw [List.drop_drop, List.drop_drop, show k + q - 1 + 1 = k + q by omega] at g8
                rw [show k + (q + 1) - 1 = k + q by omega, g8]
            · omega
        · refine LWp.exit ?_
          simp
          refine LWp.seq ?_
          refine LWp.reg hT hW (fun _ => none) (fun _ => ⟨rfl, fun _ h => h⟩) ?_
          simp
          refine ⟨by omega, ?_⟩
          refine LWp.seq ?_
          refine LWp.reg hT hW (fun _ => none) (fun _ => ⟨rfl, fun _ h => h⟩) ?_
          simp
          refine ⟨by omega, ?_⟩
          refine LWp.ret ?_
          simp
          obtain ⟨g1, g2, g3, g4, g5, g6, g7⟩ := hi9
          have hq : k + q = l.length := by omega
          rw [hq, List.take_length] at g6
          have hkl : (dedup l).length = k' := by rw [← g6]; simp; omega
          refine Weak.to [2] [(0, 0)] (by decide) (by decide) (by simp [hp]) ?_ ?_
          · simp [hkl]
          · have hd : List.drop (k' + (l.length - k')) (List.map Nm.d r) = [] := List.drop_eq_nil_of_le (by simp; omega)
            simp
            rw [hd, hkl, ← g6, List.map_take, List.append_nil]
            rfl
      · refine LWp.skip ?_
        simp
        refine LWp.reg hT hW (fun _ => none) (fun _ => ⟨rfl, fun _ h => h⟩) ?_
        simp
        refine ⟨by omega, ?_⟩
        refine loopQ.mk (k + 1) (Weak.to [0, 3] [(0, 0)] (by decide) (by decide) (by simp [hp]) (by simp) (by simp)) ?_ ?_
        · have e6 : ¬ l[k - 1] = l[k] := fun e => h6 e.symm
          exact ⟨by omega, h4, by rw [dedup_take (by omega) h4, if_neg e6, hi4.2.2]; simp⟩
        · omega
    · refine LWp.exit ?_
      simp
      refine LWp.seq ?_
      refine LWp.reg hT hW (fun _ => none) (fun _ => ⟨rfl, fun _ h => h⟩) ?_
      simp
      refine LWp.ret ?_
      simp
      have q : k = l.length := by omega
      have e := hi4.2.2
      rw [q, List.take_length] at e
      refine Weak.to [2] [(0, 0)] (by decide) (by decide) (by simp [hp]) ?_ ?_
      · simp [e]
      · simp [e]

end Go.Eng

/-
  Chapter 22: package edit's sorted sets and orders. No condition.
-/
namespace Go.Eng
open Go.Proofs
attribute [local simp] runL stepL evalG evalOp opLV constLV putEnv dstOk upd upds Res.plain Res.cond Res.fail evalBin evalUn seqQ blockQ argsEnv lookL lookH RetIs memless freshL evalPick evalMin bval bok evalLen evalIn strip whenC guardOps guardC slotsOf
  runM foldS stepI stepM maskE wrIn lk renO lookN evalCall evalCallee optAll resLV resObj retLV retObj retsLV retsObj evalLoad evalIndexAddr evalField solid cellsD_agg cellsD_int cellsD_bool cellsD_str cellsD_sl cellsD_ro cellsD_fn cellsL_agg cellsL_dagg cellsL_int cellsL_bool cellsL_str cellsL_sl cellsL_fn cellsL_ow cellsL_bx cellsL_lfn cellsL_nl takeL takeD mkAgg allD eqD eqDs kindsAre kindIs LObj.live TK.isNone TK.agg TK.isBool TK.isStr TK.isStruct Op.operands Call.operands
  evalBuildSlice evalAppend elemsOf evalStore evalBuild fillL lookupF putL evalSlice bound evalConv elemsS freezes frozen loadR
  mkEnv_at mkObs_at close_d close_agg close_ow close_bx close_fn close_nl touch_d touch_agg touch_ow touch_bx touch_fn touch_nl ren_d ren_agg ren_bx ren_rp ren_ow ren_fn ren_nl ren_junk retQ_ret retQ2_ret condQ_bool Nm.d Df.d Ed.d nmsD dfsD strsD edsD retC_ret nm_eq df_eq take_map_len take_map_app
  nm_t nm_d nm_td df_t df_d df_td str_t str_d str_td ed_t ed_d ed_td
  evalAppendIn evalCut evalClear evalCopy evalMake evalWrap evalCap evalNil isNilC lenL isInp gorc
  mapOf findD keyEq keyOk evalMakeMap evalRange zeroD zeroDV argsG shutG outN lenv retG0_ret retG0_normal retG1_ret renO close_mp touch_mp ren_mp optAll_d optAll_d' touch_ds cellsL_mp cellsD_mp cellsL_dmp

theorem app_get {α : Type} {f : α → DV} {l : List α} {t : List DV} {k : Nat} (h : k < l.length) : (List.map f l ++ t)[k]? = some (f l[k]) := by rw [List.getElem?_append_left (by simpa using h)]; simp [h]
def msortN (l : List Nm) : List Nm := l.mergeSort fun x y => !Nm.less y x
theorem nmAgg (x : Nm) (w : World) (E : Nat → Prop) (v : Value) : RD w E x.d v ↔ v = .agg x.enc.toArray := by
  constructor
  · intro h
    cases h with
    | agg _ us hl _ hc =>
      match us, hl with
      | [a, b], _ =>
        have h0 := hc 0 _ a rfl rfl
        have h1 := hc 1 _ b rfl rfl
        cases h0; cases h1; rfl
  · rintro rfl
    refine .agg _ _ rfl (fun u hu => by simp [Nm.enc] at hu; rcases hu with rfl | rfl <;> rfl) fun i c v hc hv => ?_
    match i, hc, hv with
    | 0, hc, hv => simp [Nm.enc] at hc hv; subst hc; subst hv; exact .int _ _
    | 1, hc, hv => simp [Nm.enc] at hc hv; subst hc; subst hv; exact .int _ _
theorem nmCells : Cells 2 Nm.d Nm.enc where
  pos := by decide
  len := fun _ => rfl
  lenD := fun _ => rfl
  one := fun x v hv => by simp [Nm.enc] at hv; rcases hv with rfl | rfl <;> rfl
  cell := fun x i c v hc hv w E u => by
    match i, hc, hv with
    | 0, hc, hv => simp [Nm.enc, Nm.d, cellsD] at hc hv; subst hc; subst hv; exact ⟨fun h => by cases h; rfl, fun h => h ▸ .int _ _⟩
    | 1, hc, hv => simp [Nm.enc, Nm.d, cellsD] at hc hv; subst hc; subst hv; exact ⟨fun h => by cases h; rfl, fun h => h ▸ .int _ _⟩
theorem ltOf_cmpN (a b : Nm) : Proofs.ltOf cmpN a b = Nm.less a b := by
  have := cmpN_ge a b
  unfold Proofs.ltOf
  by_cases h : 0 ≤ cmpN a b <;> simp [h, Int.not_lt.2, Int.lt_of_not_ge] at this ⊢ <;> simp_all
theorem SortFuncNm_ok (l : List Nm) (hl : l.length ≤ 8000000000000) : OkG Tryz.prog 79 [.ow 0 0 l.length, .d (.fn 80 [])] [(0, .row false 2 (l.map Nm.d))] [(0, .row false 2 ((msortN l).map Nm.d))] (.tup []) := by
  have e0 : Proofs.ltOf cmpN = Nm.less := by funext x y; exact ltOf_cmpN x y
  have e : msortN l = l.mergeSort fun x y => !(Proofs.ltOf cmpN) y x := by rw [e0]; rfl
  rw [e]
  have hO : Go.Sort.SWO Nm.less := ⟨fun x => by simp [Nm.less], fun x y z h1 h2 => by simp [Nm.less] at h1 h2 ⊢; omega, fun x y z h1 h2 => by simp [Nm.less] at h1 h2 ⊢; omega⟩
  have hT : ∀ x y, Nm.less x y = false → Nm.less y x = false → x = y := fun x y h1 h2 => by simp [Nm.less] at h1 h2; cases x; cases y; simp at *; omega
  exact sortFunc_ok Tryz.sortNm nmCells nmAgg Tryz.isAgg42 Tryz.sizeOf42 cmpN (e0 ▸ hO) (e0 ▸ hT) _ compare_ok
    ⟨_, Tryz.func79, by kernel_rfl, by rfl⟩ l hl
theorem msortN_len (l : List Nm) : (msortN l).length = l.length := List.length_mergeSort _
theorem dedup_msort (l : List Nm) : dedup (msortN l) = sortN l := by
  refine dedup_sorted (fun x => List.mem_mergeSort) ?_
  have := List.pairwise_mergeSort (le := fun x y : Nm => !Nm.less y x) (fun a b c h1 h2 => by simp [Nm.less] at *; omega) (fun a b => by simp [Nm.less]; omega) l
  exact this.imp fun h => by simpa using h
theorem sortN_len (l : List Nm) : (sortN l).length ≤ l.length := by rw [← dedup_msort, ← msortN_len l]; exact dedup_length _

theorem closedB_iff {l : List Ed} {set : List Nm} : closedB l set = true ↔ ∀ n ∈ set, 0 ≤ findI l n ∧ ∀ m ∈ needsOf l n, m ∈ set := by
  unfold closedB closedAt
  simp

/-- culprit/edit.Sort -/
theorem ESort_ok (l : List Nm) (hl : l.length ≤ 8000000000000) : Ok Tryz.prog 22 [nmsD l] ⟨.own 2 ((sortN l).map Nm.d), true⟩ := by
  refine Ok.ret Tryz.func22 (by kernel_rfl) (c := _) rfl Tryz.ntmps22 (by simp) Tryz.results22 (by intro _ h; cases h) fun w0 X hp => ?_
  refine LWp.seq ?_
  refine LWp.reg hT hW (fun _ => none) (fun _ => ⟨rfl, fun _ h => h⟩) ?_
  simp
  refine LWp.seq ?_
  refine LWp.reg hT hW (fun | 5 => some <| .plain ⟨.own 2 (l.map Nm.d), true⟩ | _ => none) (by intro d; first | exact ⟨rfl, fun _ h => h⟩ | (split <;> exact ⟨rfl, fun _ h => h⟩)) ?_
  simp
  refine ⟨CloneNm_ok l hl, ?_⟩
  refine LWp.seq ?_
  refine LWp.reg hT hW (fun | 7 => some (.gen ⟨[(5, 0)], [], [], [(0, .row false 2 ((msortN l).map Nm.d))], .tup []⟩) | _ => none) (by intro d; first | exact ⟨rfl, fun _ h => h⟩ | (split <;> exact ⟨rfl, fun _ h => h⟩)) ?_
  simp
  refine ⟨by simpa using SortFuncNm_ok l hl, ?_⟩
  refine LWp.seq ?_
  refine LWp.reg hT hW (fun | 9 => some (.gen ⟨[(5, 0)], [], [], [(0, .row false 2 ((sortN l).map Nm.d ++ List.replicate (l.length - (sortN l).length) zeroNm.d))], .ow 0 0 (sortN l).length⟩) | _ => none) (by intro d; first | exact ⟨rfl, fun _ h => h⟩ | (split <;> exact ⟨rfl, fun _ h => h⟩)) ?_
  simp
  refine ⟨by have := CompactNm_ok (msortN l) (by rw [msortN_len]; exact hl); rw [msortN_len, dedup_msort] at this; simpa using this, ?_⟩
  refine LWp.ret ?_
  simp

/-- culprit/edit.order$1$1 -/
theorem order11_ok (out : List Nm) (n : Nm) : Ok Tryz.prog 137 [n.d, .ro [nmsD out]] ⟨.d (.bool (!decide (n ∈ out))), true⟩ := by
  refine Ok.ret Tryz.func137 (by kernel_rfl) (c := _) rfl Tryz.ntmps137 (by simp) Tryz.results137 (by intro _ h; cases h) fun w0 X hp => ?_
  refine LWp.seq ?_
  refine LWp.reg hT hW (fun _ => none) (fun _ => ⟨rfl, fun _ h => h⟩) ?_
  simp
  refine LWp.seq ?_
  refine LWp.reg hT hW (fun | 6 => some <| .plain ⟨.d (.bool (decide (n ∈ out))), true⟩ | _ => none) (by intro d; first | exact ⟨rfl, fun _ h => h⟩ | (split <;> exact ⟨rfl, fun _ h => h⟩)) ?_
  simp
  refine ⟨InNm_ok out n, ?_⟩
  refine LWp.ret ?_
  simp

/-- culprit/edit.order$1 -/
theorem order1_ok (l : List Ed) (out : List Nm) (n : Nm) (h : 0 ≤ findI l n) : Ok Tryz.prog 136 [n.d, .ro [edsD l], .ro [nmsD out]] ⟨.d (.bool (readyN l out n)), true⟩ := by
  refine Ok.ret Tryz.func136 (by kernel_rfl) (c := _) rfl Tryz.ntmps136 (by simp) Tryz.results136 (by intro _ h; cases h) fun w0 X hp => ?_
  refine LWp.seq ?_
  refine LWp.reg hT hW (fun _ => none) (fun _ => ⟨rfl, fun _ h => h⟩) ?_
  simp
  refine LWp.seq ?_
  obtain ⟨i0, hi0, hfi, hfe, hne⟩ := edit_find (show ¬ findI l n < 0 by omega)
  refine LWp.regAny hT hW hMixed (lk [[], [], [], [1, 2], [0, 1, 2, 3], [0, 1, 2, 3, 4], [0, 1, 2, 3, 4, 5], [], [0, 1, 2, 3, 4, 5, 6, 7], [0, 1, 2, 3, 4, 5, 6, 7, 8], [0, 1, 2, 3, 4, 5, 6, 7, 8, 9]]) (lk [[8], [], [], [], [], [], [], [8], [], [], []]) (lk [[], [], [], [8], [], [], [], [], [13], [], []]) (by kernel_rfl) (fun | 8 => some <| .plain ⟨.d (I64 (findI l n)), true⟩ | 13 => some <| .plain ⟨.d (.bool (l[i0].needs.any fun m => !decide (m ∈ out))), true⟩ | _ => none) (by intro d; first | exact ⟨rfl, fun _ h => h⟩ | (split <;> exact ⟨rfl, fun _ h => h⟩)) ?_
  simp [hfe, hi0]
  refine ⟨⟨by rw [← hfe]; exact EFind_ok l n, by simpa [nmsD] using AnyNm_ok l[i0].needs (fun m => !decide (m ∈ out)) _ _ fun m _ => order11_ok out m⟩, ?_⟩
  refine LWp.ret ?_
  simp [readyN, hne]
  rw [Bool.eq_iff_iff]
  simp

theorem order_init {l : List Ed} {set : List Nm} (hc : closedB l set = true) : (∀ n ∈ sortN set, ∀ m ∈ needsOf l n, m ∈ sortN set ∨ m ∈ ([] : List Nm)) ∧ (∀ n ∈ sortN set, 0 ≤ findI l n) ∧ orderF l (sortN set).length (sortN set) [] = orderN l set ∧ (sortN set).length + ([] : List Nm).length ≤ set.length := by
  have hcl := closedB_iff.1 hc
  refine ⟨fun n hn m hm => .inl ?_, fun n hn => ?_, rfl, by simpa using sortN_len set⟩
  · exact ((sortN_spec set).2 m).2 ((hcl n (((sortN_spec set).2 n).1 hn)).2 m hm)
  · exact (hcl n (((sortN_spec set).2 n).1 hn)).1

/-- culprit/edit.order -/
theorem order_ok (l : List Ed) (set : List Nm) (hl : set.length ≤ 1000000) (ha : Acyc l) (hc : closedB l set = true) : Ok Tryz.prog 86 [edsD l, nmsD set] ⟨.own 2 ((orderN l set).map Nm.d), true⟩ := by
  refine Ok.ret Tryz.func86 (by kernel_rfl) (c := _) rfl Tryz.ntmps86 (by simp) Tryz.results86 (by intro _ h; cases h) fun w0 X hp => ?_
  refine LWp.seq ?_
  refine LWp.reg hT hW (fun _ => none) (fun _ => ⟨rfl, fun _ h => h⟩) ?_
  simp
  refine LWp.seq ?_
  refine LWp.reg hT hW (fun | 9 => some <| .plain ⟨.own 2 ((sortN set).map Nm.d), true⟩ | _ => none) (by intro d; first | exact ⟨rfl, fun _ h => h⟩ | (split <;> exact ⟨rfl, fun _ h => h⟩)) ?_
  simp
  refine ⟨ESort_ok set (by omega), ?_⟩
  refine LWp.seq ?_
  refine LWp.reg hT hW (fun _ => none) (fun _ => ⟨rfl, fun _ h => h⟩) ?_
  simp
  refine LWp.nlBox (fz := false) 6 7 2 (by decide) ⟨by simp, by simp, ?_⟩
  refine LWp.seq ?_
  refine LWp.block ?_
  refine LWp.loopW (ι := List Nm × List Nm × Nat) (fun ⟨rest, out, z⟩ => mkEnv [(2, .bx 2 0), (5, .ow 5 0 rest.length), (6, .bx 6 0)]) (fun ⟨rest, out, z⟩ => mkObs [(2, .box false [.d (edsD l)]), (5, .row false 2 (rest.map Nm.d ++ List.replicate z zeroNm.d)), (6, .box false [.ow 7 0 out.length]), (7, .row false 2 (out.map Nm.d))]) (fun ⟨rest, out, z⟩ => (∀ n ∈ rest, ∀ m ∈ needsOf l n, m ∈ rest ∨ m ∈ out) ∧ (∀ n ∈ rest, 0 ≤ findI l n) ∧ orderF l rest.length rest out = orderN l set ∧ rest.length + out.length ≤ set.length) (fun ⟨rest, out, z⟩ => rest.length) (sortN set, [], 0) (Weak.to [2, 5, 6] [(2, 2), (9, 5), (6, 6), (7, 7)] (by decide) (by decide) (by simp [hp]) (by simp) (by simp)) (order_init hc) fun ⟨rest, out, z⟩ hi3 => ?_
  refine LWp.seq ?_
  refine LWp.seq ?_
  refine LWp.reg hT hW (fun _ => none) (fun _ => ⟨rfl, fun _ h => h⟩) ?_
  simp
  refine LWp.iff ?_
  simp
  refine ⟨fun h3 => ?_, fun h3 => ?_⟩
  · obtain ⟨k, hfk, hk⟩ := ready_at ha hi3.1 h3
    refine LWp.skip ?_
    simp
    refine LWp.block ?_
    refine LWp.seq ?_
    refine LWp.reg hT hW (fun | 15 => some <| .plain ⟨.d (I64 (idxI (readyN l out) rest)), true⟩ | _ => none) (by intro d; first | exact ⟨rfl, fun _ h => h⟩ | (split <;> exact ⟨rfl, fun _ h => h⟩)) ?_
    simp
    refine ⟨by simpa [nmsD] using IndexNm_ok rest (readyN l out) _ _ fun n hn => order1_ok l out n (hi3.2.1 n hn), ?_⟩
    refine LWp.seq ?_
    refine LWp.regAny hT hW hMixed (lk [[], [], [], [1, 2], [1, 2, 3], [1, 2, 3, 4], [0, 1, 2, 3, 4, 5], [0, 1, 2, 3, 4, 5, 6]]) (lk [[21], [], [], [], [], [], [], []]) (lk [[], [], [], [], [], [21], [22, 7], [6]]) (by kernel_rfl) (fun _ => none) (fun _ => ⟨rfl, fun _ h => h⟩) ?_
    simp [idxI_some hfk, hk, app_get hk]
    refine ⟨by have := hi3.2.2.2; omega, ?_⟩
    refine LWp.reg hT hW (fun | 27 => some (.gen ⟨[(5, 0)], [], [], [(0, .row false 2 ((rest.eraseIdx k).map Nm.d ++ Nm.d ⟨0, 0⟩ :: List.replicate z zeroNm.d))], .ow 0 0 (rest.length - 1)⟩) | _ => none) (by intro d; first | exact ⟨rfl, fun _ h => h⟩ | (split <;> exact ⟨rfl, fun _ h => h⟩)) ?_
    simp
    refine ⟨⟨by have := hi3.2.2.2; omega, by simpa using DeleteNm_ok rest (List.replicate z zeroNm.d) (fun y hy => by rw [(List.mem_replicate.1 hy).2]; rfl) k hk⟩, ?_⟩
    refine loopQ.mk (rest.eraseIdx k, out ++ [rest[k]], z + 1) (Weak.to [2, 5, 6] [(2, 2), (5, 5), (6, 6), (22, 7)] (by decide) (by decide) (by simp [hp]) (by simp [List.length_eraseIdx, hk]) (by simp [List.replicate_succ, zeroNm])) ?_ ?_
    · refine ⟨closed_step hi3.1 hk, fun n hn => hi3.2.1 n (List.mem_of_mem_eraseIdx hn), ?_, ?_⟩
      · have := hi3.2.2.1
        rw [← this, show rest.length = (rest.eraseIdx k).length + 1 by rw [List.length_eraseIdx, if_pos hk]; omega, orderF_succ hfk hk]
      · have := hi3.2.2.2
        simp [List.length_eraseIdx, hk]; omega
    · simp [List.length_eraseIdx, hk]; omega
  · refine LWp.exit ?_
    simp
    refine LWp.seq ?_
    refine LWp.reg hT hW (fun _ => none) (fun _ => ⟨rfl, fun _ h => h⟩) ?_
    simp
    refine LWp.ret ?_
    have := hi3.2.2.1
    simp only [show rest = [] from List.eq_nil_of_length_eq_zero (by simpa using h3), List.length_nil, orderF] at this
    simp [← this]

end Go.Eng

/-
  Chapter 22: edit.Order, which edits are apart, clashes. No condition.
-/
namespace Go.Eng
open Go.Proofs
attribute [local simp] runL stepL evalG evalOp opLV constLV putEnv dstOk upd upds Res.plain Res.cond Res.fail evalBin evalUn seqQ blockQ argsEnv lookL lookH RetIs memless freshL evalPick evalMin bval bok evalLen evalIn strip whenC guardOps guardC slotsOf
  runM foldS stepI stepM maskE wrIn lk renO lookN evalCall evalCallee optAll resLV resObj retLV retObj retsLV retsObj evalLoad evalIndexAddr evalField solid cellsD_agg cellsD_int cellsD_bool cellsD_str cellsD_sl cellsD_ro cellsD_fn cellsL_agg cellsL_dagg cellsL_int cellsL_bool cellsL_str cellsL_sl cellsL_fn cellsL_ow cellsL_bx cellsL_lfn cellsL_nl takeL takeD mkAgg allD eqD eqDs kindsAre kindIs LObj.live TK.isNone TK.agg TK.isBool TK.isStr TK.isStruct Op.operands Call.operands
  evalBuildSlice evalAppend elemsOf evalStore evalBuild fillL lookupF putL evalSlice bound evalConv elemsS freezes frozen loadR
  mkEnv_at mkObs_at close_d close_agg close_ow close_bx close_fn close_nl touch_d touch_agg touch_ow touch_bx touch_fn touch_nl ren_d ren_agg ren_bx ren_rp ren_ow ren_fn ren_nl ren_junk retQ_ret retQ2_ret condQ_bool Nm.d Df.d Ed.d nmsD dfsD strsD edsD retC_ret nm_eq df_eq take_map_len take_map_app
  nm_t nm_d nm_td df_t df_d df_td str_t str_d str_td ed_t ed_d ed_td
  evalAppendIn evalCut evalClear evalCopy evalMake evalWrap evalCap evalNil isNilC lenL isInp gorc
  mapOf findD keyEq keyOk evalMakeMap evalRange zeroD zeroDV argsG shutG outN lenv retG0_ret retG0_normal retG1_ret renO close_mp touch_mp ren_mp optAll_d optAll_d' touch_ds cellsL_mp cellsD_mp cellsL_dmp

/-- culprit/edit.Order -/
theorem EOrder_ok (l : List Ed) (set : List Nm) (hs : small l) (hl : set.length ≤ 1000000) : Ok Tryz.prog 30 [edsD l, nmsD set] ⟨.tup [.own 2 ((orderV l set).1.map Nm.d), .d (I64 (orderV l set).2)], true⟩ := by
  refine Ok.two Tryz.func30 (by kernel_rfl) (c := _) rfl Tryz.ntmps30 (by simp) Tryz.results30 rfl fun w0 X hp => ?_
  refine LWp.seq ?_
  refine LWp.reg hT hW (fun _ => none) (fun _ => ⟨rfl, fun _ h => h⟩) ?_
  simp
  refine LWp.seq ?_
  refine LWp.seq ?_
  refine LWp.reg hT hW (fun | 10 => some <| .plain ⟨.tup [.d (I64 (validV l).1), .d (I64 (validV l).2)], true⟩ | _ => none) (by intro d; first | exact ⟨rfl, fun _ h => h⟩ | (split <;> exact ⟨rfl, fun _ h => h⟩)) ?_
  simp [evalExtract]
  refine ⟨EValid_ok l hs, ?_⟩
  refine LWp.seq ?_
  refine LWp.reg hT hW (fun _ => none) (fun _ => ⟨rfl, fun _ h => h⟩) ?_
  simp
  refine LWp.iff ?_
  simp
  refine ⟨fun h2 => ?_, fun h2 => ?_⟩
  · refine LWp.seq ?_
    refine LWp.reg hT hW (fun _ => none) (fun _ => ⟨rfl, fun _ h => h⟩) ?_
    simp
    refine LWp.ret ?_
    simp [orderV, h2]
  · refine LWp.skip ?_
    simp
    refine LWp.seq ?_
    refine LWp.seq ?_
    refine LWp.reg hT hW (fun | 18 => some <| .plain ⟨.d (.bool (closedB l set)), true⟩ | _ => none) (by intro d; first | exact ⟨rfl, fun _ h => h⟩ | (split <;> exact ⟨rfl, fun _ h => h⟩)) ?_
    simp
    refine ⟨EClosed_ok l set, ?_⟩
    refine LWp.iff ?_
    simp
    refine ⟨fun h4 => ?_, fun h4 => ?_⟩
    · refine LWp.seq ?_
      refine LWp.reg hT hW (fun _ => none) (fun _ => ⟨rfl, fun _ h => h⟩) ?_
      simp
      refine LWp.ret ?_
      simp [orderV, h2, h4]
    · refine LWp.skip ?_
      simp
      refine LWp.seq ?_
      refine LWp.reg hT hW (fun | 22 => some <| .plain ⟨.own 2 ((orderN l set).map Nm.d), true⟩ | _ => none) (by intro d; first | exact ⟨rfl, fun _ h => h⟩ | (split <;> exact ⟨rfl, fun _ h => h⟩)) ?_
      simp
      refine ⟨order_ok l set hl (valid_acyc (by simpa using h2)) (by simpa using h4), ?_⟩
      refine LWp.ret ?_
      simp [orderV, h2, h4]

/-- slices.IndexFunc[[]string,string] -/
theorem IndexStr_ok (l : List Str) (p : Str → Bool) (g : FuncId) (cs : List DV) (hg : ∀ x ∈ l, Ok Tryz.prog g (.str x :: cs) ⟨.d (.bool (p x)), true⟩) : Ok Tryz.prog 192 [strsD l, .fn g cs] ⟨.d (I64 (idxI p l)), true⟩ := by
  refine Ok.ret Tryz.func192 (by kernel_rfl) (c := _) rfl Tryz.ntmps192 (by simp) Tryz.results192 (by intro _ h; cases h) fun w0 X hp => ?_
  refine LWp.len (t := 0) rfl fun hlen => ?_
  simp at hlen
  refine LWp.seq ?_
  refine LWp.reg hT hW (fun _ => none) (fun _ => ⟨rfl, fun _ h => h⟩) ?_
  simp
  refine LWp.seq ?_
  refine LWp.seq ?_
  refine LWp.reg hT hW (fun _ => none) (fun _ => ⟨rfl, fun _ h => h⟩) ?_
  simp
  refine LWp.block ?_
  refine LWp.loopW (ι := Nat) (fun i => mkEnv [(0, .d (strsD l)), (1, .d (.fn g cs)), (7, .d (I64 l.length)), (8, .d (I64 i))]) (fun i => mkObs []) (fun i => i ≤ l.length ∧ Pre p l i) (fun i => l.length - i) 0 (Weak.to [0, 1, 7, 8] [] (by decide) (by decide) (by simp [hp]) (by simp) (by simp)) (⟨Nat.zero_le _, Pre.zero⟩) fun i hi2 => ?_
  refine LWp.seq ?_
  refine LWp.reg hT hW (fun _ => none) (fun _ => ⟨rfl, fun _ h => h⟩) ?_
  simp
  refine LWp.seq ?_
  refine LWp.iff ?_
  simp
  refine ⟨fun h2 => ?_, fun h2 => ?_⟩
  · refine LWp.skip ?_
    simp
    refine LWp.seq ?_
    refine LWp.block ?_
    refine LWp.seq ?_
    refine LWp.reg hT hW (fun _ => none) (fun _ => ⟨rfl, fun _ h => h⟩) ?_
    simp
    refine LWp.seq ?_
    refine LWp.reg hT hW (fun | 16 => some <| .plain ⟨.d (.bool (p l[i])), true⟩ | _ => none) (by intro d; first | exact ⟨rfl, fun _ h => h⟩ | (split <;> exact ⟨rfl, fun _ h => h⟩)) ?_
    simp [h2]
    refine ⟨hg l[i] (List.getElem_mem h2), ?_⟩
    refine LWp.iff ?_
    simp
    refine ⟨fun h4 => ?_, fun h4 => ?_⟩
    · refine LWp.seq ?_
      refine LWp.reg hT hW (fun _ => none) (fun _ => ⟨rfl, fun _ h => h⟩) ?_
      simp
      refine LWp.ret ?_
      simp [idxI_some (hi2.2.found h2 h4)]
    · refine LWp.skip ?_
      simp
      refine LWp.reg hT hW (fun _ => none) (fun _ => ⟨rfl, fun _ h => h⟩) ?_
      simp
      refine ⟨by omega, ?_⟩
      refine loopQ.mk (i + 1) (Weak.to [0, 1, 7, 8] [] (by decide) (by decide) (by simp [hp]) (by simp) (by simp)) ?_ ?_
      · exact ⟨h2, hi2.2.succ h2 h4⟩
      · omega
  · refine LWp.exit ?_
    simp
    refine LWp.seq ?_
    refine LWp.reg hT hW (fun _ => none) (fun _ => ⟨rfl, fun _ h => h⟩) ?_
    simp
    refine LWp.ret ?_
    simp [idxI_none (hi2.2.none (by omega))]

theorem idxI_cases {α : Type} {p : α → Bool} {l : List α} (h : idxI p l ≠ -1) : ∃ k : Nat, idxI p l = (k : Int) ∧ ∃ hk : k < l.length, p l[k] = true ∧ (l.take (k + 1)).filter (fun x => !p x) = l.take k := by
  unfold idxI at h ⊢
  split at h
  · rename_i k hk
    refine ⟨k, by simp, ?_⟩
    obtain ⟨h1, h2, h3⟩ := List.findIdx?_eq_some_iff_getElem.1 hk
    refine ⟨h1, h2, ?_⟩
    rw [List.take_succ_eq_append_getElem h1, List.filter_append]
    simp only [List.filter_cons, h2, Bool.not_true, Bool.false_eq_true, if_false, List.filter_nil, List.append_nil]
    rw [List.filter_eq_self]
    intro a ha
    obtain ⟨j, hj, rfl⟩ := List.getElem_of_mem ha
    simp at hj ⊢
    simpa using h3 j (by omega)
  · exact absurd rfl h
theorem idxI_neg {α : Type} {p : α → Bool} {l : List α} (h : idxI p l = -1) : l.filter (fun x => !p x) = l := by
  unfold idxI at h
  split at h
  · omega
  · rename_i hk
    rw [List.filter_eq_self]
    intro a ha
    simpa using List.findIdx?_eq_none_iff.1 hk a ha

/-- slices.DeleteFunc[[]string,string] -/
theorem DeleteFuncStr_ok (l : List Str) (hl : l.length ≤ 8000000000000) (p : Str → Bool) (g : FuncId) (cs : List DV) (hg : ∀ x ∈ l, Ok Tryz.prog g (.str x :: cs) ⟨.d (.bool (p x)), true⟩) : OkG Tryz.prog 170 [.ow 0 0 l.length, .d (.fn g cs)] [(0, .row false 1 (l.map .str))] [(0, .row false 1 ((l.filter fun x => !p x).map .str ++ List.replicate (l.length - (l.filter fun x => !p x).length) (.str [])))] (.ow 0 0 (l.filter fun x => !p x).length) := by
  refine OkG.one Tryz.func170 (by kernel_rfl) (c := _) rfl Tryz.ntmps170 (by simp) Tryz.results170 fun w0 X hp => ?_
  refine LWp.seq ?_
  refine LWp.reg hT hW (fun _ => none) (fun _ => ⟨rfl, fun _ h => h⟩) ?_
  simp
  refine LWp.seq ?_
  refine LWp.reg hT hW (fun | 10 => some <| .plain ⟨.d (I64 (idxI p l)), true⟩ | _ => none) (by intro d; first | exact ⟨rfl, fun _ h => h⟩ | (split <;> exact ⟨rfl, fun _ h => h⟩)) ?_
  simp
  refine ⟨by simpa [strsD] using IndexStr_ok l p g cs hg, ?_⟩
  refine LWp.seq ?_
  refine LWp.seq ?_
  refine LWp.reg hT hW (fun _ => none) (fun _ => ⟨rfl, fun _ h => h⟩) ?_
  simp
  refine LWp.iff ?_
  simp
  refine ⟨fun h2 => ?_, fun h2 => ?_⟩
  · refine LWp.seq ?_
    refine LWp.reg hT hW (fun _ => none) (fun _ => ⟨rfl, fun _ h => h⟩) ?_
    simp
    refine LWp.ret ?_
    simp
    refine Weak.to [4] [(0, 0)] (by decide) (by decide) (by simp [hp]) ?_ ?_
    · simp [idxI_neg h2]
    · simp [idxI_neg h2]
  · obtain ⟨k, hk, hkl, hpk, htk⟩ := idxI_cases h2
    refine LWp.skip ?_
    simp
    refine LWp.seq ?_
    refine LWp.seq ?_
    refine LWp.reg hT hW (fun _ => none) (fun _ => ⟨rfl, fun _ h => h⟩) ?_
    simp [hk]
    refine ⟨by omega, ?_⟩
    refine LWp.block ?_
    refine LWp.loopW (ι := Nat × Nat × List Str) (fun ⟨q, i, r⟩ => mkEnv [(0, .ow 0 0 l.length), (1, .d (.fn g cs)), (5, .d (I64 i)), (6, .d (I64 q))]) (fun ⟨q, i, r⟩ => mkObs [(0, .row false 1 (r.map .str))]) (fun ⟨q, i, r⟩ => q ≤ l.length ∧ i < q ∧ r.length = l.length ∧ r.take i = (l.take q).filter (fun x => !p x) ∧ r.drop q = l.drop q) (fun ⟨q, i, r⟩ => l.length - q) (k + 1, k, l) (Weak.to [0, 1, 5, 6] [(0, 0)] (by decide) (by decide) (by simp [hp]) (by simp) (by simp)) (⟨hkl, by omega, rfl, htk.symm, rfl⟩) fun ⟨q, i, r⟩ hi5 => ?_
    refine LWp.seq ?_
    refine LWp.seq ?_
    refine LWp.reg hT hW (fun _ => none) (fun _ => ⟨rfl, fun _ h => h⟩) ?_
    simp
    refine LWp.iff ?_
    simp
    refine ⟨fun h5 => ?_, fun h5 => ?_⟩
    · refine LWp.skip ?_
      simp
      refine LWp.seq ?_
      refine LWp.block ?_
      refine LWp.seq ?_
      obtain ⟨g1, g2, g3, g4, g5⟩ := hi5
      have e1 : r[q]'(by omega) = l[q] := drop_get g5 (by omega) (by omega) h5
      refine LWp.reg hT hW (fun _ => none) (fun _ => ⟨rfl, fun _ h => h⟩) ?_
      simp [(show q < r.length by omega), e1]
      refine ⟨by omega, ?_⟩
      refine LWp.seq ?_
      refine LWp.reg hT hW (fun | 28 => some <| .plain ⟨.d (.bool (p l[q])), true⟩ | _ => none) (by intro d; first | exact ⟨rfl, fun _ h => h⟩ | (split <;> exact ⟨rfl, fun _ h => h⟩)) ?_
      simp
      refine ⟨hg l[q] (List.getElem_mem h5), ?_⟩
      refine LWp.iff ?_
      simp
      refine ⟨fun h8 => ?_, fun h8 => ?_⟩
      · refine LWp.seq ?_
        refine LWp.reg hT hW (fun _ => none) (fun _ => ⟨rfl, fun _ h => h⟩) ?_
        simp [(show i < r.length by omega)]
        refine ⟨by omega, ?_⟩
        refine LWp.reg hT hW (fun _ => none) (fun _ => ⟨rfl, fun _ h => h⟩) ?_
        simp
        refine ⟨by omega, ?_⟩
        refine LWp.reg hT hW (fun _ => none) (fun _ => ⟨rfl, fun _ h => h⟩) ?_
        simp
        refine ⟨by omega, ?_⟩
        refine loopQ.mk (q + 1, i + 1, r.set i l[q]) (Weak.to [0, 1, 5, 6] [(0, 0)] (by decide) (by decide) (by simp [hp]) (by simp) (by simp)) ?_ ?_
        · dsimp only
          refine ⟨by omega, by omega, by simp [g3], ?_, ?_⟩
          · rw [List.take_succ_eq_append_getElem (by simpa using (show i < r.length by omega)), List.getElem_set_self, List.take_set_of_le (by omega), g4, List.take_succ_eq_append_getElem h5, List.filter_append]
            simp [h8]
          · have g8 := congrArg (List.drop 1) g5
            rw [List.drop_drop, List.drop_drop] at g8
            rw [List.drop_set_of_lt (by omega), g8]
        · omega
      · refine LWp.skip ?_
        simp
        refine LWp.reg hT hW (fun _ => none) (fun _ => ⟨rfl, fun _ h => h⟩) ?_
        simp
        refine ⟨by omega, ?_⟩
        refine loopQ.mk (q + 1, i, r) (Weak.to [0, 1, 5, 6] [(0, 0)] (by decide) (by decide) (by simp [hp]) (by simp) (by simp)) ?_ ?_
        · dsimp only
          refine ⟨by omega, by omega, g3, ?_, ?_⟩
          · rw [g4, List.take_succ_eq_append_getElem h5, List.filter_append]
            simp [h8]
          · have g8 := congrArg (List.drop 1) g5
            rw [List.drop_drop, List.drop_drop] at g8
            exact g8
        · omega
    · refine LWp.exit ?_
      simp
      refine LWp.seq ?_
      refine LWp.reg hT hW (fun _ => none) (fun _ => ⟨rfl, fun _ h => h⟩) ?_
      simp
      refine ⟨by omega, ?_⟩
      refine LWp.seq ?_
      refine LWp.reg hT hW (fun _ => none) (fun _ => ⟨rfl, fun _ h => h⟩) ?_
      simp
      refine ⟨by omega, ?_⟩
      refine LWp.ret ?_
      simp
      obtain ⟨g1, g2, g3, g4, g5⟩ := hi5
      have hq : q = l.length := by omega
      rw [hq, List.take_length] at g4
      have hkl : (l.filter fun x => !p x).length = i := by rw [← g4]; simp; omega
      refine Weak.to [4] [(0, 0)] (by decide) (by decide) (by simp [hp]) ?_ ?_
      · simp [hkl]
      · have hd : List.drop (i + (l.length - i)) (List.map DV.str r) = [] := List.drop_eq_nil_of_le (by simp; omega)
        simp
        rw [hd, hkl, ← g4, List.map_take, List.append_nil]

/-- culprit/edit.touches -/
theorem etouches_own (e : Ed) (h1 : e.puts.length ≤ 1000000) (h2 : e.drops.length ≤ 1000000) : Ok Tryz.prog 118 [e.d] ⟨.own 1 ((touches e).map .str), true⟩ := by
  refine Ok.ret Tryz.func118 (by kernel_rfl) (c := _) rfl Tryz.ntmps118 (by simp) Tryz.results118 (by intro _ h; cases h) fun w0 X hp => ?_
  refine LWp.seq ?_
  refine LWp.reg hT hW (fun _ => none) (fun _ => ⟨rfl, fun _ h => h⟩) ?_
  simp
  refine LWp.seq ?_
  refine LWp.reg hT hW (fun _ => none) (fun _ => ⟨rfl, fun _ h => h⟩) ?_
  simp
  refine LWp.seq ?_
  refine LWp.seq ?_
  refine LWp.reg hT hW (fun _ => none) (fun _ => ⟨rfl, fun _ h => h⟩) ?_
  simp
  refine LWp.block ?_
  refine LWp.loopW (ι := Nat × List Str) (fun ⟨i, acc⟩ => mkEnv [(1, .bx 1 0), (3, .ow 3 0 acc.length), (7, .d (dfsD e.puts)), (8, .d (I64 e.puts.length)), (9, .d (I64 i))]) (fun ⟨i, acc⟩ => mkObs [(3, .row false 1 (acc.map .str)), (1, .box false ((cellsD e.d).map .d))]) (fun ⟨i, acc⟩ => i ≤ e.puts.length ∧ acc.length = i ∧ acc = (e.puts.map Df.name).take i) (fun ⟨i, acc⟩ => e.puts.length - i) (0, []) (Weak.to [1, 3, 7, 8, 9] [(3, 3), (1, 1)] (by decide) (by decide) (by simp [hp]) (by simp) (by simp)) (by simp) fun ⟨i, acc⟩ hi3 => ?_
  refine LWp.seq ?_
  refine LWp.reg hT hW (fun _ => none) (fun _ => ⟨rfl, fun _ h => h⟩) ?_
  simp
  refine LWp.seq ?_
  refine LWp.iff ?_
  simp
  refine ⟨fun h3 => ?_, fun h3 => ?_⟩
  · refine LWp.skip ?_
    simp
    refine LWp.seq ?_
    refine LWp.block ?_
    refine LWp.seq ?_
    refine LWp.reg hT hW (fun _ => none) (fun _ => ⟨rfl, fun _ h => h⟩) ?_
    simp [h3]
    refine LWp.reg hT hW (fun _ => none) (fun _ => ⟨rfl, fun _ h => h⟩) ?_
    simp
    refine ⟨by have := hi3.2.1; omega, ?_⟩
    refine LWp.reg hT hW (fun _ => none) (fun _ => ⟨rfl, fun _ h => h⟩) ?_
    simp
    refine ⟨by omega, ?_⟩
    refine loopQ.mk (i + 1, acc ++ [e.puts[i].name]) (Weak.to [1, 3, 7, 8, 9] [(17, 3), (1, 1)] (by decide) (by decide) (by simp [hp]) (by simp) (by simp)) ?_ ?_
    · exact ⟨h3, by simp [hi3.2.1], by rw [map_take_succ h3, ← hi3.2.2]⟩
    · omega
  · refine LWp.exit ?_
    simp
    refine LWp.seq ?_
    refine LWp.reg hT hW (fun _ => none) (fun _ => ⟨rfl, fun _ h => h⟩) ?_
    simp
    refine ⟨by have := hi3.2.1; omega, ?_⟩
    refine LWp.ret ?_
    have q : i = e.puts.length := by omega
    have := hi3.2.2
    rw [q] at this
    have q2 : ∀ (x y : List DV) (n : Nat), n = x.length + y.length → List.take n (x ++ y) = x ++ y := fun x y n h => List.take_of_length_le (by simp [h])
    simp [this, touches, q2]
    rintro x (⟨a, _, rfl⟩ | ⟨a, _, rfl⟩) <;> simp

/-- The edit with a name. -/
def edAt (l : List Ed) (n : Nm) : Ed := match find? l n with | some i => l.getD i default | none => default
/-- What two edits touch, if neither is before the other. -/
def sharedL (l : List Ed) (a b : Nm) : List Str :=
  if findI l a < 0 ∨ findI l b < 0 ∨ a = b ∨ a ∈ aboveL l b ∨ b ∈ aboveL l a then [] else (touches (edAt l a)).filter fun s => decide (s ∈ touches (edAt l b))
theorem edAt_of {l : List Ed} {n : Nm} (h : 0 ≤ findI l n) : ∃ i, ∃ hi : i < l.length, findI l n = (i : Int) ∧ edAt l n = l[i] := by
  unfold findI at h
  unfold findI edAt
  cases q : find? l n with
  | none => rw [q] at h; simp at h
  | some i =>
    obtain ⟨hi, _, _⟩ := find_at q
    exact ⟨i, hi, rfl, by simp [hi]⟩
theorem touches_len {e : Ed} (h1 : e.puts.length ≤ 1000000) (h2 : e.drops.length ≤ 1000000) : (touches e).length ≤ 2000000 := by unfold touches; simp; omega

/-- culprit/edit.apart$1 -/
theorem apart1_ok (l : List Str) (s : Str) : Ok Tryz.prog 171 [.str s, .ro [strsD l]] ⟨.d (.bool (!decide (s ∈ l))), true⟩ := by
  refine Ok.ret Tryz.func171 (by kernel_rfl) (c := _) rfl Tryz.ntmps171 (by simp) Tryz.results171 (by intro _ h; cases h) fun w0 X hp => ?_
  refine LWp.seq ?_
  refine LWp.reg hT hW (fun _ => none) (fun _ => ⟨rfl, fun _ h => h⟩) ?_
  simp
  refine LWp.seq ?_
  refine LWp.reg hT hW (fun | 6 => some <| .plain ⟨.d (.bool (decide (s ∈ l))), true⟩ | _ => none) (by intro d; first | exact ⟨rfl, fun _ h => h⟩ | (split <;> exact ⟨rfl, fun _ h => h⟩)) ?_
  simp
  refine ⟨InStr_ok l s, ?_⟩
  refine LWp.ret ?_
  simp

/-- culprit/edit.apart -/
theorem apart_ok (l : List Ed) (a b : Nm) (hs : small l) (ha : 0 ≤ findI l a) (hb : 0 ≤ findI l b) : Ok Tryz.prog 128 [edsD l, a.d, b.d] ⟨.d (strsD (sharedL l a b)), true⟩ := by
  refine Ok.ret Tryz.func128 (by kernel_rfl) (c := _) rfl Tryz.ntmps128 (by simp) Tryz.results128 (by intro _ h; cases h) fun w0 X hp => ?_
  refine LWp.seq ?_
  refine LWp.reg hT hW (fun _ => none) (fun _ => ⟨rfl, fun _ h => h⟩) ?_
  simp
  refine LWp.seq ?_
  refine LWp.seq ?_
  refine LWp.reg hT hW (fun | 15 => some <| .plain ⟨.d (.bool (decide (a ∈ aboveL l b))), true⟩ | 21 => some <| .plain ⟨.d (.bool (decide (b ∈ aboveL l a))), true⟩ | _ => none) (by intro d; first | exact ⟨rfl, fun _ h => h⟩ | (split <;> exact ⟨rfl, fun _ h => h⟩)) ?_
  simp
  refine ⟨⟨fun _ => EBefore_ok l a b, fun _ _ => EBefore_ok l b a⟩, ?_⟩
  refine LWp.iff ?_
  simp
  refine ⟨fun h1 => ?_, fun g1 g2 g3 => ?_⟩
  · refine LWp.seq ?_
    refine LWp.reg hT hW (fun _ => none) (fun _ => ⟨rfl, fun _ h => h⟩) ?_
    simp
    refine LWp.ret ?_
    have e : sharedL l a b = [] := by unfold sharedL; rw [if_pos (by rcases h1 with (h | h) | h <;> simp [h])]
    simp [e]
  · refine LWp.skip ?_
    simp
    refine LWp.seq ?_
    obtain ⟨i, hi, fa, ea⟩ := edAt_of ha
    obtain ⟨j, hj, fb, eb⟩ := edAt_of hb
    refine LWp.reg hT hW (fun | 26 => some <| .plain ⟨.d (I64 (findI l b)), true⟩ | 29 => some <| .plain ⟨.d (strsD (touches l[j])), true⟩ | _ => none) (by intro d; first | exact ⟨rfl, fun _ h => h⟩ | (split <;> exact ⟨rfl, fun _ h => h⟩)) ?_
    simp [fb, hj]
    refine ⟨⟨by rw [← fb]; exact EFind_ok l b, etouches_ok _ (hs _ (List.getElem_mem hj)).1 (hs _ (List.getElem_mem hj)).2⟩, ?_⟩
    refine LWp.seq ?_
    refine LWp.reg hT hW (fun | 33 => some <| .plain ⟨.d (I64 (findI l a)), true⟩ | 36 => some <| .plain ⟨.own 1 ((touches l[i]).map .str), true⟩ | 38 => some (.gen ⟨[(36, 0)], [], [1], [(0, .row false 1 (((touches l[i]).filter fun x => !(!decide (x ∈ touches l[j]))).map .str ++ List.replicate ((touches l[i]).length - ((touches l[i]).filter fun x => !(!decide (x ∈ touches l[j]))).length) (.str [])))], .ow 0 0 ((touches l[i]).filter fun x => !(!decide (x ∈ touches l[j]))).length⟩) | _ => none) (by intro d; first | exact ⟨rfl, fun _ h => h⟩ | (split <;> exact ⟨rfl, fun _ h => h⟩)) ?_
    simp [fa, hi]
    refine ⟨⟨⟨by rw [← fa]; exact EFind_ok l a, etouches_own _ (hs _ (List.getElem_mem hi)).1 (hs _ (List.getElem_mem hi)).2⟩, by simpa [strsD] using DeleteFuncStr_ok (touches l[i]) (by have := touches_len (hs _ (List.getElem_mem hi)).1 (hs _ (List.getElem_mem hi)).2; omega) (fun x => !decide (x ∈ touches l[j])) _ _ fun x _ => apart1_ok (touches l[j]) x⟩, ?_⟩
    refine LWp.ret ?_
    have e : sharedL l a b = (touches l[i]).filter fun s => decide (s ∈ touches l[j]) := by unfold sharedL; rw [if_neg (by simp only [not_or]; exact ⟨by omega, by omega, g1, g2, g3⟩), ea, eb]
    simp [e]
    rintro _ x _ _ rfl
    simp

/-- A third edit resolves a clash. -/
def resolvedB (l : List Ed) (s : Str) (a b c : Nm) : Bool := decide (s ∈ touches (edAt l c)) && decide (a ∈ aboveL l c) && decide (b ∈ aboveL l c)
def clashB (l : List Ed) (set : List Nm) (a b : Nm) : Bool := (sharedL l a b).any fun s => !set.any (resolvedB l s a b)

/-- culprit/edit.clash$1 -/
theorem clash1_ok (l : List Ed) (s : Str) (a b c : Nm) (hs : small l) (hc : 0 ≤ findI l c) : Ok Tryz.prog 139 [c.d, .ro [edsD l], .ro [.str s], .ro [I64 a.who, I64 a.seq], .ro [I64 b.who, I64 b.seq]] ⟨.d (.bool (resolvedB l s a b c)), true⟩ := by
  refine Ok.ret Tryz.func139 (by kernel_rfl) (c := _) rfl Tryz.ntmps139 (by simp) Tryz.results139 (by intro _ h; cases h) fun w0 X hp => ?_
  refine LWp.seq ?_
  refine LWp.reg hT hW (fun _ => none) (fun _ => ⟨rfl, fun _ h => h⟩) ?_
  simp
  refine LWp.seq ?_
  obtain ⟨i, hi, fc, ec⟩ := edAt_of hc
  refine LWp.regAny hT hW hMixed (lk [[], [], [], [1, 2], [0, 1, 2, 3], [0, 1, 2, 3, 4], [0, 1, 2, 3, 4, 5], [], [0, 1, 2, 3, 4, 5, 6, 7], [0, 1, 2, 3, 4, 5, 6, 7, 8], [0, 1, 2, 3, 4, 5, 6, 7, 8, 9], [0, 1, 2, 3, 4, 5, 6, 7, 8, 9], [0, 1, 2, 3, 4, 5, 6, 7, 8, 9], [0, 1, 2, 3, 4, 5, 6, 7, 8, 9, 10, 11, 12], [0, 1, 2, 3, 4, 5, 6, 7, 8, 9, 10, 11, 12, 13], [0, 1, 2, 3, 4, 5, 6, 7, 8, 9, 10, 11, 12, 13, 14], [0, 1, 2, 3, 4, 5, 6, 7, 8, 9, 10, 11, 12, 13, 14, 15], [0, 1, 2, 3, 4, 5, 6, 7, 8, 9, 10, 11, 12, 13, 14, 15], [0, 1, 2, 3, 4, 5, 6, 7, 8, 9, 10, 11, 12, 13, 14, 15], [0, 1, 2, 3, 4, 5, 6, 7, 8, 9, 10, 11, 12, 13, 14, 15, 16, 17, 18], [0, 1, 2, 3, 4, 5, 6, 7, 8, 9, 10, 11, 12, 13, 14, 15, 16, 17, 18, 19], [0, 1, 2, 3, 4, 5, 6, 7, 8, 9, 10, 11, 12, 13, 14, 15, 16, 17, 18, 19, 20]]) (lk [[10], [], [], [], [], [], [], [10, 13], [], [], [], [], [], [], [], [], [], [], [], [], [], []]) (lk [[], [], [], [10], [], [], [13], [], [15], [], [], [], [], [20], [], [], [], [], [], [26], [], []]) (by kernel_rfl) (fun | 10 => some <| .plain ⟨.d (I64 (findI l c)), true⟩ | 13 => some <| .plain ⟨.d (strsD (touches l[i])), true⟩ | 15 => some <| .plain ⟨.d (.bool (decide (s ∈ touches l[i]))), true⟩ | 20 => some <| .plain ⟨.d (.bool (decide (a ∈ aboveL l c))), true⟩ | 26 => some <| .plain ⟨.d (.bool (decide (b ∈ aboveL l c))), true⟩ | _ => none) (by intro d; first | exact ⟨rfl, fun _ h => h⟩ | (split <;> exact ⟨rfl, fun _ h => h⟩)) ?_
  simp [fc, hi]
  refine ⟨⟨⟨⟨⟨by rw [← fc]; exact EFind_ok l c, etouches_ok _ (hs _ (List.getElem_mem hi)).1 (hs _ (List.getElem_mem hi)).2⟩, InStr_ok _ _⟩, fun _ => EBefore_ok l a c⟩, fun _ _ => EBefore_ok l b c⟩, ?_⟩
  refine LWp.ret ?_
  simp [resolvedB, ec]

theorem edAt_small {l : List Ed} (hs : small l) (n : Nm) : (edAt l n).puts.length ≤ 1000000 ∧ (edAt l n).drops.length ≤ 1000000 := by
  unfold edAt
  split
  · rename_i i h
    obtain ⟨hi, _, _⟩ := find_at h
    simp only [List.getD_eq_getElem?_getD, List.getElem?_eq_getElem hi, Option.getD_some]
    exact hs _ (List.getElem_mem hi)
  · exact ⟨by decide, by decide⟩
theorem sharedL_len {l : List Ed} (hs : small l) (a b : Nm) : (sharedL l a b).length ≤ 2000000 := by
  unfold sharedL
  split
  · simp
  · exact Nat.le_trans (List.length_filter_le _ _) (touches_len (edAt_small hs a).1 (edAt_small hs a).2)

/-- culprit/edit.clash -/
theorem eclash_ok (l : List Ed) (set : List Nm) (a b : Nm) (hs : small l) (hset : ∀ c ∈ set, 0 ≤ findI l c) (ha : 0 ≤ findI l a) (hb : 0 ≤ findI l b) : Ok Tryz.prog 88 [edsD l, nmsD set, a.d, b.d] ⟨.d (.bool (clashB l set a b)), true⟩ := by
  refine Ok.ret Tryz.func88 (by kernel_rfl) (c := _) rfl Tryz.ntmps88 (by simp) Tryz.results88 (by intro _ h; cases h) fun w0 X hp => ?_
  have hlen := sharedL_len hs a b
  refine LWp.seq ?_
  refine LWp.reg hT hW (fun _ => none) (fun _ => ⟨rfl, fun _ h => h⟩) ?_
  simp
  refine LWp.seq ?_
  refine LWp.seq ?_
  refine LWp.reg hT hW (fun | 14 => some <| .plain ⟨.d (strsD (sharedL l a b)), true⟩ | _ => none) (by intro d; first | exact ⟨rfl, fun _ h => h⟩ | (split <;> exact ⟨rfl, fun _ h => h⟩)) ?_
  simp
  refine ⟨apart_ok l a b hs ha hb, ?_⟩
  refine LWp.block ?_
  refine LWp.loopW (ι := Nat) (fun i => mkEnv [(1, .d (nmsD set)), (4, .bx 4 0), (6, .bx 6 0), (7, .bx 7 0), (14, .d (strsD (sharedL l a b))), (15, .d (I64 (sharedL l a b).length)), (16, .d (I64 i))]) (fun i => mkObs [(4, .box false [.d (edsD l)]), (6, .box false [.d (I64 a.who), .d (I64 a.seq)]), (7, .box false [.d (I64 b.who), .d (I64 b.seq)])]) (fun i => i ≤ (sharedL l a b).length ∧ Pre (fun s => !set.any (resolvedB l s a b)) (sharedL l a b) i) (fun i => (sharedL l a b).length - i) 0 (Weak.to [1, 4, 6, 7, 14, 15, 16] [(4, 4), (6, 6), (7, 7)] (by decide) (by decide) (by simp [hp]) (by simp) (by simp)) (⟨Nat.zero_le _, Pre.zero⟩) fun i hi2 => ?_
  refine LWp.seq ?_
  refine LWp.reg hT hW (fun _ => none) (fun _ => ⟨rfl, fun _ h => h⟩) ?_
  simp
  refine LWp.seq ?_
  refine LWp.iff ?_
  simp
  refine ⟨fun h2 => ?_, fun h2 => ?_⟩
  · refine LWp.skip ?_
    simp
    refine LWp.seq ?_
    refine LWp.block ?_
    refine LWp.seq ?_
    refine LWp.reg hT hW (fun _ => none) (fun _ => ⟨rfl, fun _ h => h⟩) ?_
    simp [h2]
    refine LWp.seq ?_
    refine LWp.reg hT hW (fun | 22 => some <| .plain ⟨.d (.bool (set.any (resolvedB l (sharedL l a b)[i] a b))), true⟩ | _ => none) (by intro d; first | exact ⟨rfl, fun _ h => h⟩ | (split <;> exact ⟨rfl, fun _ h => h⟩)) ?_
    simp
    refine ⟨AnyNm_ok set (resolvedB l (sharedL l a b)[i] a b) _ _ fun c hc => clash1_ok l _ a b c hs (hset c hc), ?_⟩
    refine LWp.iff ?_
    simp
    refine ⟨fun h4 => ?_, fun c4 hc4 hr4 => ?_⟩
    · refine LWp.seq ?_
      refine LWp.reg hT hW (fun _ => none) (fun _ => ⟨rfl, fun _ h => h⟩) ?_
      simp
      refine LWp.ret ?_
      simp
      exact List.any_eq_true.2 ⟨_, List.getElem_mem h2, by simpa using h4⟩
    · refine LWp.skip ?_
      simp
      refine LWp.reg hT hW (fun _ => none) (fun _ => ⟨rfl, fun _ h => h⟩) ?_
      simp
      refine ⟨by omega, ?_⟩
      refine loopQ.mk (i + 1) (Weak.to [1, 4, 6, 7, 14, 15, 16] [(4, 4), (6, 6), (7, 7)] (by decide) (by decide) (by simp [hp]) (by simp) (by simp)) ?_ ?_
      · exact ⟨h2, hi2.2.succ h2 (by have := List.any_eq_true.2 ⟨c4, hc4, hr4⟩; simp only [this, Bool.not_true])⟩
      · omega
  · refine LWp.exit ?_
    simp
    refine LWp.seq ?_
    refine LWp.reg hT hW (fun _ => none) (fun _ => ⟨rfl, fun _ h => h⟩) ?_
    simp
    refine LWp.ret ?_
    simp
    exact hi2.2.any h2

end Go.Eng
