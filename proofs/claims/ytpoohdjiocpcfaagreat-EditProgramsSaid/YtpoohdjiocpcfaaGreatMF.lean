/-
  Texts of the proofs of this seat, part 6. No condition.
-/
import Derived.Test.YtpoohdjiocpcfaaGreatME
import Derived.OpenShut
set_option linter.unusedVariables false
set_option linter.unusedSimpArgs false
/-
  Chapter 22, plain: closed sets and orders of valid lists. No condition.
-/
namespace Go.Eng

theorem found_iff {l : List Ed} {n : Nm} : 0 ≤ findI l n ↔ n ∈ l.map Ed.name := by
  constructor
  · intro h
    obtain ⟨i, hi, _, _⟩ := edAt_of h
    unfold findI at h
    cases q : find? l n with
    | none => rw [q] at h; simp at h
    | some i => obtain ⟨hi, e⟩ := find_of q; rw [← e]; exact List.mem_map_of_mem (List.getElem_mem hi)
  · intro h
    obtain ⟨i, hi⟩ := find_mem h
    simp [findI, hi]
theorem need_found {l : List Ed} (h : (validV l).2 = 0) {n m : Nm} (hm : m ∈ needsOf l n) : 0 ≤ findI l m := by
  obtain ⟨e, he, _, hme⟩ := needsOf_mem hm
  obtain ⟨i, hi, rfl⟩ := List.getElem_of_mem he
  exact (errE_zero ((valid_err h).2 i hi)).2.2.1 m hme
theorem reach_found {l : List Ed} (h : (validV l).2 = 0) {n m : Nm} (r : Reach l n m) : 0 ≤ findI l m := by
  induction r with
  | one h1 => exact need_found h h1
  | next _ _ ih => exact ih
theorem closed_reach {l : List Ed} {z : List Nm} (hz : closedB l z = true) {n x : Nm} (r : Reach l n x) : n ∈ z → x ∈ z := by
  induction r with
  | one h1 => intro hn; exact (closedB_iff.1 hz _ hn).2 _ h1
  | next h1 _ ih => intro hn; exact ih ((closedB_iff.1 hz _ hn).2 _ h1)
/-- The least closed set with some names. -/
def cloN (l : List Ed) (S : List Nm) : List Nm := sortN (S ++ S.flatMap (aboveL l))
theorem mem_cloN {l : List Ed} {S : List Nm} {x : Nm} : x ∈ cloN l S ↔ x ∈ S ∨ ∃ n ∈ S, Reach l n x := by
  unfold cloN
  rw [(sortN_spec _).2, List.mem_append, List.mem_flatMap]
  simp only [mem_aboveL]
theorem closure_closed {l : List Ed} (h : (validV l).2 = 0) {S : List Nm} (hS : ∀ n ∈ S, n ∈ l.map Ed.name) : closedB l (cloN l S) = true := by
  rw [closedB_iff]
  intro n hn
  rw [mem_cloN] at hn
  refine ⟨?_, fun m hm => mem_cloN.2 (.inr ?_)⟩
  · rcases hn with hn | ⟨k, _, hr⟩
    · exact found_iff.2 (hS n hn)
    · exact reach_found h hr
  · rcases hn with hn | ⟨k, hk, hr⟩
    · exact ⟨n, hn, .one hm⟩
    · exact ⟨k, hk, hr.snoc hm⟩
theorem closureV_ok {l : List Ed} (h : (validV l).2 = 0) {S : List Nm} (hS : ∀ n ∈ S, n ∈ l.map Ed.name) : closureV l S = (cloN l S, 0) := by
  have hc := closure_closed h hS
  have e : closedB l (S ++ S.flatMap (aboveL l)) = true := by rw [← hc]; exact closedB_mem fun x => ((sortN_spec _).2 x).symm
  unfold closureV
  rw [e]
  rfl
theorem cloN_least {l : List Ed} {S z : List Nm} (hz : closedB l z = true) (h : ∀ x ∈ S, x ∈ z) {x : Nm} (hx : x ∈ cloN l S) : x ∈ z := by
  rcases mem_cloN.1 hx with hx | ⟨n, hn, hr⟩
  · exact h x hx
  · exact closed_reach hz hr (h n hn)
theorem closed_app {l : List Ed} {x y : List Nm} (hx : closedB l x = true) (hy : closedB l y = true) : closedB l (x ++ y) = true := by
  rw [closedB_iff] at *
  intro n hn
  rcases List.mem_append.1 hn with h | h
  · exact ⟨(hx n h).1, fun m hm => List.mem_append.2 (.inl ((hx n h).2 m hm))⟩
  · exact ⟨(hy n h).1, fun m hm => List.mem_append.2 (.inr ((hy n h).2 m hm))⟩
theorem closed_common {l : List Ed} {x y : List Nm} (hx : closedB l x = true) (hy : closedB l y = true) : closedB l (x.filter fun n => decide (n ∈ y)) = true := by
  rw [closedB_iff] at *
  intro n hn
  simp only [List.mem_filter, decide_eq_true_eq] at hn ⊢
  exact ⟨(hx n hn.1).1, fun m hm => ⟨(hx n hn.1).2 m hm, (hy n hn.2).2 m hm⟩⟩
theorem someN_sub {l : List Ed} {b : Int} {n : Nm} (h : n ∈ someN l b) : n ∈ l.map Ed.name := by
  unfold someN at h
  obtain ⟨p, hp, rfl⟩ := List.mem_map.1 h
  have hp := (List.mem_filter.1 hp).1
  obtain ⟨_, hi, e⟩ := List.mem_zipIdx hp
  rw [e]
  exact List.mem_map_of_mem (List.getElem_mem _)
theorem someN_len (l : List Ed) (b : Int) : (someN l b).length ≤ l.length := by
  unfold someN
  rw [List.length_map]
  exact Nat.le_trans (List.length_filter_le _ _) (by simp)

/-! ### the order of a closed set -/
/-- Each name stands behind its needs. -/
def Chain (l : List Ed) (x : List Nm) : Prop := ∀ (i : Nat) (h : i < x.length), ∀ m ∈ needsOf l x[i], m ∈ x.take i
theorem Chain.nil {l : List Ed} : Chain l [] := fun i h => absurd h (Nat.not_lt_zero _)
theorem Chain.snoc {l : List Ed} {x : List Nm} {n : Nm} (h : Chain l x) (hr : readyN l x n = true) : Chain l (x ++ [n]) := fun i hi m hm => by
  simp at hi
  by_cases e : i < x.length
  · rw [List.getElem_append_left e] at hm
    rw [List.take_append_of_le_length (by omega)]
    exact h i e m hm
  · have e : i = x.length := by omega
    subst e
    simp only [List.getElem_concat_length] at hm
    rw [List.take_left]
    have := List.all_eq_true.1 hr m hm
    simpa using this
theorem orderF_chain {l : List Ed} : ∀ (f : Nat) (rest out : List Nm), Chain l out → Chain l (orderF l f rest out)
  | 0, _, _, h => h
  | f + 1, rest, out, h => by
    cases q : rest.findIdx? (readyN l out) with
    | none => simp only [orderF, q]; exact h
    | some k =>
      obtain ⟨hk, hr, _⟩ := List.findIdx?_eq_some_iff_getElem.1 q
      rw [orderF_succ q hk]
      exact orderF_chain f _ _ (h.snoc hr)
theorem orderF_perm {l : List Ed} (ha : Acyc l) : ∀ (f : Nat) (rest out : List Nm), rest.length = f → (∀ n ∈ rest, ∀ m ∈ needsOf l n, m ∈ rest ∨ m ∈ out) → (orderF l f rest out).Perm (out ++ rest)
  | 0, rest, out, h, _ => by
    have : rest = [] := List.eq_nil_of_length_eq_zero h
    subst this
    simp [orderF]
  | f + 1, rest, out, h, hc => by
    obtain ⟨k, hk, hkl⟩ := ready_at ha hc (by omega)
    rw [orderF_succ hk hkl]
    refine (orderF_perm ha f _ _ (by rw [List.length_eraseIdx, if_pos hkl]; omega) (closed_step hc hkl)).trans ?_
    rw [List.append_assoc]
    refine List.Perm.append_left _ ?_
    have hs : rest = rest.take k ++ rest[k] :: rest.drop (k + 1) := by rw [List.getElem_cons_drop, List.take_append_drop]
    have e0 : rest.eraseIdx k = rest.take k ++ rest.drop (k + 1) := List.eraseIdx_eq_take_drop_succ ..
    rw [e0]
    have h2 := (List.perm_middle (a := rest[k]) (l₁ := rest.take k) (l₂ := rest.drop (k + 1))).symm
    rw [← hs] at h2
    exact h2
theorem orderN_perm {l : List Ed} {set : List Nm} (h : (validV l).2 = 0) (hc : closedB l set = true) : (orderN l set).Perm (sortN set) := by
  have := orderF_perm (valid_acyc h) (sortN set).length (sortN set) [] rfl (order_init hc).1
  simpa [orderN] using this
theorem orderN_chain (l : List Ed) (set : List Nm) : Chain l (orderN l set) := orderF_chain _ _ _ .nil
theorem mem_orderN {l : List Ed} {set : List Nm} (h : (validV l).2 = 0) (hc : closedB l set = true) {x : Nm} : x ∈ orderN l set ↔ x ∈ set := by
  rw [(orderN_perm h hc).mem_iff, (sortN_spec set).2]
theorem chain_closed {l : List Ed} {x : List Nm} (hf : ∀ n ∈ x, 0 ≤ findI l n) (h : Chain l x) : closedB l x = true := by
  rw [closedB_iff]
  intro n hn
  refine ⟨hf n hn, fun m hm => ?_⟩
  obtain ⟨i, hi, rfl⟩ := List.getElem_of_mem hn
  exact List.mem_of_mem_take (h i hi m hm)
theorem Chain.take {l : List Ed} {x : List Nm} (h : Chain l x) (k : Nat) : Chain l (x.take k) := fun i hi m hm => by
  simp at hi
  simp only [List.getElem_take] at hm
  rw [List.take_take, Nat.min_eq_left (by omega)]
  exact h i (by omega) m hm
/-- What is above a name stands ahead of it. -/
theorem Chain.ahead {l : List Ed} {x : List Nm} (h : Chain l x) {n m : Nm} (r : Reach l n m) : ∀ {i : Nat} (hi : i < x.length), x[i] = n → m ∈ x.take i := by
  induction r with
  | one h1 => intro i hi e; subst e; exact h i hi _ h1
  | next h1 _ ih =>
    intro i hi e
    subst e
    have h2 := h i hi _ h1
    obtain ⟨j, hj, e2⟩ := List.getElem_of_mem h2
    simp at hj
    simp only [List.getElem_take] at e2
    have h3 := ih (by omega) e2
    have : x.take j = (x.take i).take j := by rw [List.take_take, Nat.min_eq_left (by omega)]
    rw [this] at h3
    exact List.mem_of_mem_take h3
end Go.Eng

/-
  Chapter 22, plain: the same edits in another order. No condition.
-/
namespace Go.Eng

theorem ed_inj {l : List Ed} (h : (l.map Ed.name).Nodup) {a b : Ed} (ha : a ∈ l) (hb : b ∈ l) (e : a.name = b.name) : a = b := by
  obtain ⟨i, hi, rfl⟩ := List.getElem_of_mem ha
  obtain ⟨j, hj, rfl⟩ := List.getElem_of_mem hb
  rw [List.Nodup, List.pairwise_map, List.pairwise_iff_getElem] at h
  rcases Nat.lt_trichotomy i j with hij | hij | hij
  · exact absurd e (h i j hi hj hij)
  · subst hij; rfl
  · exact absurd e.symm (h j i hj hi hij)
theorem find_uniq {l : List Ed} (h : (l.map Ed.name).Nodup) {e : Ed} (he : e ∈ l) : ∃ i, find? l e.name = some i ∧ ∃ hi : i < l.length, l[i] = e := by
  obtain ⟨i, hi⟩ := find_mem (List.mem_map_of_mem (f := Ed.name) he)
  obtain ⟨h1, h2⟩ := find_of hi
  exact ⟨i, hi, h1, ed_inj h (List.getElem_mem h1) he h2⟩
theorem needsOf_of {l : List Ed} (h : (l.map Ed.name).Nodup) {e : Ed} (he : e ∈ l) : needsOf l e.name = e.needs := by
  obtain ⟨i, h1, h2, h3⟩ := find_uniq h he
  simp [needsOf, h1, h2, h3]
theorem edAt_mem {l : List Ed} (h : (l.map Ed.name).Nodup) {e : Ed} (he : e ∈ l) : edAt l e.name = e := by
  obtain ⟨i, h1, h2, h3⟩ := find_uniq h he
  simp [edAt, h1, h2, h3]
theorem find_not {l : List Ed} {n : Nm} (h : n ∉ l.map Ed.name) : find? l n = none := by
  cases q : find? l n with
  | none => rfl
  | some i => obtain ⟨hi, e⟩ := find_of q; exact absurd (e ▸ List.mem_map_of_mem (List.getElem_mem hi)) h
theorem valid_nodup {l : List Ed} (h : (validV l).2 = 0) : (l.map Ed.name).Nodup := by
  obtain ⟨_, he⟩ := valid_err h
  refine List.pairwise_iff_getElem.2 fun i j hi hj hij e => ?_
  simp only [List.length_map] at hi hj
  rw [List.getElem_map, List.getElem_map] at e
  have h1 := (errE_zero (he j hj)).2.1
  unfold findI at h1
  cases q : find? l l[j].name with
  | none => rw [q] at h1; simp at h1; omega
  | some k =>
    rw [q] at h1
    simp at h1
    unfold find? at q
    obtain ⟨_, _, h3⟩ := List.findIdx?_eq_some_iff_getElem.1 q
    have := h3 i (by omega)
    simp [e] at this

/-- The same edits, each name once. -/
structure SameEds (a b : List Ed) : Prop where
  na : (a.map Ed.name).Nodup
  nb : (b.map Ed.name).Nodup
  mem : ∀ e, e ∈ a ↔ e ∈ b
theorem SameEds.names {a b : List Ed} (h : SameEds a b) {n : Nm} : n ∈ a.map Ed.name ↔ n ∈ b.map Ed.name := by
  simp only [List.mem_map, h.mem]
theorem SameEds.needs {a b : List Ed} (h : SameEds a b) (n : Nm) : needsOf a n = needsOf b n := by
  by_cases q : n ∈ a.map Ed.name
  · obtain ⟨e, he, rfl⟩ := List.mem_map.1 q
    rw [needsOf_of h.na he, needsOf_of h.nb ((h.mem e).1 he)]
  · unfold needsOf
    rw [find_not q, find_not fun x => q (h.names.2 x)]
theorem SameEds.edAt {a b : List Ed} (h : SameEds a b) (n : Nm) : edAt a n = edAt b n := by
  by_cases q : n ∈ a.map Ed.name
  · obtain ⟨e, he, rfl⟩ := List.mem_map.1 q
    rw [edAt_mem h.na he, edAt_mem h.nb ((h.mem e).1 he)]
  · unfold Go.Eng.edAt
    rw [find_not q, find_not fun x => q (h.names.2 x)]
theorem SameEds.found {a b : List Ed} (h : SameEds a b) (n : Nm) : (0 ≤ findI a n) = (0 ≤ findI b n) := by
  rw [eq_iff_iff, found_iff, found_iff]
  exact h.names
theorem SameEds.notFound {a b : List Ed} (h : SameEds a b) (n : Nm) : (findI a n < 0) = (findI b n < 0) := by
  have := h.found n
  rw [eq_iff_iff] at *
  omega
theorem reach_to {a b : List Ed} (h : ∀ n, needsOf a n = needsOf b n) {n m : Nm} (r : Reach a n m) : Reach b n m := by
  induction r with
  | one h1 => exact .one (h _ ▸ h1)
  | next h1 _ ih => exact .next (h _ ▸ h1) ih
theorem SameEds.reach {a b : List Ed} (h : SameEds a b) {n m : Nm} : Reach a n m ↔ Reach b n m := ⟨reach_to h.needs, reach_to fun n => (h.needs n).symm⟩
theorem SameEds.above {a b : List Ed} (h : SameEds a b) (n m : Nm) : (n ∈ aboveL a m) = (n ∈ aboveL b m) := by
  rw [eq_iff_iff, mem_aboveL, mem_aboveL]; exact h.reach
theorem SameEds.closed {a b : List Ed} (h : SameEds a b) (z : List Nm) : closedB a z = closedB b z := by
  rw [Bool.eq_iff_iff, closedB_iff, closedB_iff]
  simp only [h.needs, h.found]
theorem SameEds.clo {a b : List Ed} (h : SameEds a b) (S : List Nm) : cloN a S = cloN b S := by
  refine rising_eq Nm.sto (sortN_spec _).1 (sortN_spec _).1 fun x => ?_
  show x ∈ cloN a S ↔ x ∈ cloN b S
  rw [mem_cloN, mem_cloN]
  simp only [h.reach]
theorem SameEds.order {a b : List Ed} (h : SameEds a b) (z : List Nm) : orderN a z = orderN b z := by
  have e : readyN a = readyN b := by funext o n; simp [readyN, h.needs]
  have key : ∀ f rest out, orderF a f rest out = orderF b f rest out := by
    intro f
    induction f with
    | zero => intro _ _; rfl
    | succ f ih => intro rest out; simp only [orderF, e, ih]
  exact key _ _ _
theorem order_mem {l : List Ed} {x y : List Nm} (h : ∀ n, n ∈ x ↔ n ∈ y) : orderN l x = orderN l y := by
  unfold orderN; rw [sortN_mem h]
theorem SameEds.clash {a b : List Ed} (h : SameEds a b) {x y : List Nm} (hm : ∀ n, n ∈ x ↔ n ∈ y) (n m : Nm) : clashB a x n m = clashB b y n m := by
  rw [Bool.eq_iff_iff, clashB_iff, clashB_iff]
  simp only [mem_sharedL, resolvedB, h.notFound, h.above, h.edAt, hm]
theorem SameEds.clashAny {a b : List Ed} (h : SameEds a b) {x y : List Nm} (hm : ∀ n, n ∈ x ↔ n ∈ y) (ns : List Nm) : clashAny a x ns = clashAny b y ns := by
  unfold Go.Eng.clashAny
  simp only [h.clash hm]

/-! ### programs -/
theorem rep_eq {m L L' : List Df} (h : Rep m L) (h' : Rep m L') : L = L' := by
  have p : (ssort (m.map Df.name)).Perm (m.map Df.name) := List.mergeSort_perm _ _
  exact (h.out p (ssort_sorted _)).symm.trans (h'.out p (ssort_sorted _))
theorem Rep.self {L : List Df} (h : Rising nameLt L) : Rep L L := ⟨rising_names h, h, fun _ => Iff.rfl⟩
theorem putD_rising {L : List Df} (h : Rising nameLt L) (d : Df) : Rising nameLt (putD L d) := ((Rep.self h).put d).ri
theorem mem_putD {L : List Df} (h : Rising nameLt L) {d x : Df} : x ∈ putD L d ↔ x = d ∨ (x ∈ L ∧ x.name ≠ d.name) := by
  rw [← ((Rep.self h).put d).mem, (upsert_names (rising_names h)).2]
theorem dropD_rising {L : List Df} (h : Rising nameLt L) (s : Str) : Rising nameLt (dropD L s) := ((Rep.self h).drop s).ri
theorem baseD_to : ∀ (D L : List Df), Rising nameLt L → (D.map Df.name).Nodup → (∀ d ∈ D, ∀ x ∈ L, x.name ≠ d.name) → ∃ L', baseD L D = some L' ∧ Rising nameLt L' ∧ ∀ x, x ∈ L' ↔ x ∈ L ∨ x ∈ D
  | [], L, h, _, _ => ⟨L, rfl, h, by simp⟩
  | d :: D, L, h, hn, hd => by
    have hn' := List.nodup_cons.1 hn
    have hf : (L.any fun x => decide (x.name = d.name)) = false := by
      rw [List.any_eq_false]
      intro x hx
      simpa using hd d (by simp) x hx
    obtain ⟨L', h1, h2, h3⟩ := baseD_to D (putD L d) (putD_rising h d) hn'.2 fun y hy x hx => by
      rcases (mem_putD h).1 hx with rfl | ⟨hx, _⟩
      · intro e; exact hn'.1 (e ▸ List.mem_map_of_mem hy)
      · exact hd y (by simp [hy]) x hx
    refine ⟨L', by simp [baseD, hf, h1], h2, fun x => ?_⟩
    rw [h3, mem_putD h]
    constructor
    · rintro ((rfl | ⟨hx, _⟩) | hx)
      · simp
      · exact .inl hx
      · simp [hx]
    · rintro (hx | hx)
      · exact .inl (.inr ⟨hx, hd d (by simp) x hx⟩)
      · rcases List.mem_cons.1 hx with rfl | hx
        · exact .inl (.inl rfl)
        · exact .inr hx
theorem baseD_rep {D : List Df} (h : (D.map Df.name).Nodup) : ∃ L, baseD [] D = some L ∧ Rep D L := by
  obtain ⟨L, h1, h2, h3⟩ := baseD_to D [] (by simp [Rising]) h (by simp)
  exact ⟨L, h1, h, h2, fun d => by rw [h3]; simp⟩
/-- The definitions after the edits of some names, one after the other. -/
def madeOf (l : List Ed) (x : List Nm) (L : List Df) : List Df := x.foldl (fun ds n => doneD ds (edAt l n)) L
theorem programV_ok {D L : List Df} {l : List Ed} {set : List Nm} (h : (validV l).2 = 0) (hb : baseD [] D = some L) (hc : closedB l set = true) :
    programV D l set = if clashAny l set (orderN l set) = true then ([], 14) else (madeOf l (orderN l set) L, 0) := by
  unfold programV
  rw [if_neg (by simpa using h), hb]
  simp [hc, madeOf]
theorem SameEds.made {a b : List Ed} (h : SameEds a b) (x : List Nm) (L : List Df) : madeOf a x L = madeOf b x L := by
  unfold madeOf; simp only [h.edAt]
/-- The program is the same for another order of the base, the list and the set. -/
theorem program_same {a b : List Ed} (h : SameEds a b) (ha : (validV a).2 = 0) (hb : (validV b).2 = 0) {D D' : List Df} (hD : (D.map Df.name).Nodup) (hD' : (D'.map Df.name).Nodup) (hDD : ∀ d, d ∈ D ↔ d ∈ D') {x y : List Nm} (hm : ∀ n, n ∈ x ↔ n ∈ y) (hx : closedB a x = true) : programV D a x = programV D' b y := by
  obtain ⟨L, h1, h2⟩ := baseD_rep hD
  obtain ⟨L', h3, h4⟩ := baseD_rep hD'
  have e : L = L' := rep_eq h2 ⟨hD, h4.ri, fun d => by rw [hDD]; exact h4.mem d⟩
  subst e
  have hy : closedB b y = true := by rw [← h.closed, ← closedB_mem hm]; exact hx
  rw [programV_ok ha h1 hx, programV_ok hb h3 hy, ← h.order, ← order_mem hm, ← h.clashAny hm, ← h.made]
end Go.Eng

/-
  Chapter 22, plain: which edit gives a definition its text. No condition.
-/
namespace Go.Eng

theorem textOf_mem {l : List Df} (h : (l.map Df.name).Nodup) {d : Df} (hd : d ∈ l) : textOf l d.name = d.text := by
  unfold textOf
  cases q : l.findIdx? (fun x => decide (x.name = d.name)) with
  | none => have := List.findIdx?_eq_none_iff.1 q d hd; simp at this
  | some j =>
    obtain ⟨hj, h1, _⟩ := List.findIdx?_eq_some_iff_getElem.1 q
    simp only [List.getD_eq_getElem?_getD, List.getElem?_eq_getElem hj, Option.getD_some]
    rw [name_inj h (List.getElem_mem hj) hd (by simpa using h1)]
theorem textOf_not {l : List Df} {s : Str} (h : s ∉ l.map Df.name) : textOf l s = [] := by
  unfold textOf
  have : l.findIdx? (fun x => decide (x.name = s)) = none := by
    rw [List.findIdx?_eq_none_iff]
    intro x hx
    have : x.name ≠ s := fun e => h (e ▸ List.mem_map_of_mem hx)
    simpa using this
  rw [this]
theorem textOf_same {a b : List Df} (ha : (a.map Df.name).Nodup) (hb : (b.map Df.name).Nodup) (h : ∀ d, d ∈ a ↔ d ∈ b) (s : Str) : textOf a s = textOf b s := by
  by_cases q : s ∈ a.map Df.name
  · obtain ⟨d, hd, rfl⟩ := List.mem_map.1 q
    rw [textOf_mem ha hd, textOf_mem hb ((h d).1 hd)]
  · rw [textOf_not q, textOf_not fun x => q ?_]
    obtain ⟨d, hd, rfl⟩ := List.mem_map.1 x
    exact List.mem_map_of_mem ((h d).2 hd)
theorem textOf_put {L : List Df} (h : Rising nameLt L) (d : Df) (s : Str) : textOf (putD L d) s = if s = d.name then d.text else textOf L s := by
  have hn := rising_names (putD_rising h d)
  split
  · rename_i e; subst e
    exact textOf_mem hn ((mem_putD h).2 (.inl rfl))
  · rename_i e
    by_cases q : s ∈ L.map Df.name
    · obtain ⟨x, hx, rfl⟩ := List.mem_map.1 q
      rw [textOf_mem (rising_names h) hx, textOf_mem hn ((mem_putD h).2 (.inr ⟨hx, e⟩))]
    · rw [textOf_not q, textOf_not fun x => ?_]
      obtain ⟨y, hy, rfl⟩ := List.mem_map.1 x
      rcases (mem_putD h).1 hy with rfl | ⟨hy, _⟩
      · exact e rfl
      · exact q (List.mem_map_of_mem hy)
theorem textOf_drop {L : List Df} (h : Rising nameLt L) (d s : Str) : textOf (dropD L d) s = if s = d then [] else textOf L s := by
  have hn := rising_names (dropD_rising h d)
  split
  · rename_i e; subst e
    refine textOf_not fun x => ?_
    obtain ⟨y, hy, e⟩ := List.mem_map.1 x
    exact (mem_dropD.1 hy).2 e
  · rename_i e
    by_cases q : s ∈ L.map Df.name
    · obtain ⟨x, hx, rfl⟩ := List.mem_map.1 q
      rw [textOf_mem (rising_names h) hx, textOf_mem hn (mem_dropD.2 ⟨hx, e⟩)]
    · rw [textOf_not q, textOf_not fun x => ?_]
      obtain ⟨y, hy, rfl⟩ := List.mem_map.1 x
      exact q (List.mem_map_of_mem (mem_dropD.1 hy).1)
theorem puts_rising : ∀ (ps : List Df) {L : List Df}, Rising nameLt L → Rising nameLt (ps.foldl putD L)
  | [], _, h => h
  | d :: ps, _, h => puts_rising ps (putD_rising h d)
theorem drops_rising : ∀ (ds : List Str) {L : List Df}, Rising nameLt L → Rising nameLt (ds.foldl dropD L)
  | [], _, h => h
  | d :: ds, _, h => drops_rising ds (dropD_rising h d)
theorem doneD_rising {L : List Df} (h : Rising nameLt L) (e : Ed) : Rising nameLt (doneD L e) := drops_rising _ (puts_rising _ h)
theorem textOf_puts : ∀ (ps : List Df) {L : List Df}, Rising nameLt L → (ps.map Df.name).Nodup → ∀ s, textOf (ps.foldl putD L) s = if s ∈ ps.map Df.name then textOf ps s else textOf L s
  | [], L, _, _, s => by simp
  | d :: ps, L, h, hn, s => by
    have hn' := List.nodup_cons.1 hn
    rw [List.foldl_cons, textOf_puts ps (putD_rising h d) hn'.2 s, textOf_put h]
    by_cases q : s ∈ ps.map Df.name
    · have hne : s ≠ d.name := fun e => hn'.1 (e ▸ q)
      rw [if_pos q, if_pos (by simp only [List.map_cons, List.mem_cons]; exact .inr q)]
      obtain ⟨x, hx, rfl⟩ := List.mem_map.1 q
      rw [textOf_mem hn'.2 hx, textOf_mem hn (by simp [hx])]
    · rw [if_neg q]
      by_cases e : s = d.name
      · subst e
        rw [if_pos rfl, if_pos (by simp), textOf_mem hn (by simp)]
      · rw [if_neg e, if_neg (by simp only [List.map_cons, List.mem_cons, not_or]; exact ⟨e, q⟩)]
theorem textOf_drops : ∀ (ds : List Str) {L : List Df}, Rising nameLt L → ∀ s, textOf (ds.foldl dropD L) s = if s ∈ ds then [] else textOf L s
  | [], L, _, s => by simp
  | d :: ds, L, h, s => by
    rw [List.foldl_cons, textOf_drops ds (dropD_rising h d) s, textOf_drop h]
    by_cases q : s ∈ ds
    · rw [if_pos q, if_pos (by simp [q])]
    · rw [if_neg q]
      by_cases e : s = d
      · subst e; simp
      · rw [if_neg e, if_neg (by simp [e, q])]
theorem okNames_nodup {l : List Str} (h : okNames l = true) : l.Nodup := by
  unfold okNames at h
  simp only [Bool.and_eq_true, decide_eq_true_eq] at h
  exact h.2
theorem proper_nodup {e : Ed} (h : properE e = true) : (touches e).Nodup := by
  unfold properE at h
  simp only [Bool.and_eq_true] at h
  exact okNames_nodup h.1.2
theorem textOf_done {L : List Df} (h : Rising nameLt L) {e : Ed} (hn : (touches e).Nodup) (s : Str) : textOf (doneD L e) s = if s ∈ touches e then textOf e.puts s else textOf L s := by
  unfold touches at hn
  have hn := List.nodup_append.1 hn
  unfold doneD
  rw [textOf_drops _ (puts_rising _ h), textOf_puts _ h hn.1]
  unfold touches
  by_cases q : s ∈ e.drops
  · rw [if_pos q, if_pos (List.mem_append.2 (.inr q)), textOf_not fun x => hn.2.2 s x s q rfl]
  · rw [if_neg q]
    by_cases p : s ∈ e.puts.map Df.name
    · rw [if_pos p, if_pos (List.mem_append.2 (.inl p))]
    · rw [if_neg p, if_neg (fun x => (List.mem_append.1 x).elim p q)]
theorem madeOf_rising {l : List Ed} : ∀ (x : List Nm) {L : List Df}, Rising nameLt L → Rising nameLt (madeOf l x L)
  | [], _, h => h
  | n :: x, _, h => madeOf_rising x (doneD_rising h _)
theorem madeOf_snoc {l : List Ed} {x : List Nm} {n : Nm} {L : List Df} : madeOf l (x ++ [n]) L = doneD (madeOf l x L) (edAt l n) := by simp [madeOf]
/-- The last edit that touches a definition gives its text. -/
theorem textOf_made {l : List Ed} {L : List Df} (h : Rising nameLt L) {x : List Nm} (hn : ∀ n ∈ x, (touches (edAt l n)).Nodup) (s : Str) : ∀ k, k ≤ x.length →
    ((∀ n ∈ x.take k, s ∉ touches (edAt l n)) ∧ textOf (madeOf l (x.take k) L) s = textOf L s) ∨
    ∃ i, ∃ hi : i < x.length, i < k ∧ s ∈ touches (edAt l x[i]) ∧ (∀ (j : Nat) (hj : j < x.length), i < j → j < k → s ∉ touches (edAt l x[j])) ∧ textOf (madeOf l (x.take k) L) s = textOf (edAt l x[i]).puts s
  | 0, _ => .inl (by simp [madeOf])
  | k + 1, hk => by
    have hkl : k < x.length := by omega
    have e : x.take (k + 1) = x.take k ++ [x[k]] := by simp
    rw [e, madeOf_snoc, textOf_done (madeOf_rising _ h) (hn _ (List.getElem_mem hkl))]
    by_cases q : s ∈ touches (edAt l x[k])
    · exact .inr ⟨k, hkl, by omega, q, fun j _ h1 h2 => by omega, by rw [if_pos q]⟩
    · rw [if_neg q]
      rcases textOf_made h hn s k (by omega) with ⟨h1, h2⟩ | ⟨i, hi, h1, h2, h3, h4⟩
      · refine .inl ⟨fun n hm => ?_, h2⟩
        rcases List.mem_append.1 hm with hm | hm
        · exact h1 n hm
        · simp at hm; subst hm; exact q
      · refine .inr ⟨i, hi, by omega, h2, fun j hj h5 h6 => ?_, h4⟩
        by_cases e : j = k
        · subst e; exact q
        · exact h3 j hj h5 (by omega)

/-- An edit of a set touches a definition. -/
def inTouch (set : List Nm) (s : Str) (e : Ed) : Bool := decide (e.name ∈ set) && decide (s ∈ touches e)
/-- And no other one that touches it is behind. -/
def topE (l : List Ed) (set : List Nm) (s : Str) (e : Ed) : Bool := inTouch set s e && !l.any fun f => inTouch set s f && decide (e.name ∈ aboveL l f.name)
def topsL (l : List Ed) (set : List Nm) (s : Str) (n : Nat) : List Nat := (List.range n).filter fun i => topE l set s (l.getD i default)
def lastV (l : List Ed) (set : List Nm) (s : Str) : Int := match topsL l set s l.length with | [] => -1 | [i] => i | _ => -2
theorem inTouch_iff {set : List Nm} {s : Str} {e : Ed} : inTouch set s e = true ↔ e.name ∈ set ∧ s ∈ touches e := by simp [inTouch]
theorem topE_iff {l : List Ed} {set : List Nm} {s : Str} {e : Ed} : topE l set s e = true ↔ (e.name ∈ set ∧ s ∈ touches e) ∧ ∀ f ∈ l, f.name ∈ set → s ∈ touches f → ¬ Reach l f.name e.name := by
  unfold topE
  rw [Bool.and_eq_true, inTouch_iff, Bool.not_eq_true', List.any_eq_false]
  simp only [Bool.and_eq_true, inTouch_iff, decide_eq_true_eq, mem_aboveL]
  refine and_congr_right fun _ => ⟨fun h f hf h1 h2 h3 => h f hf ⟨⟨h1, h2⟩, h3⟩, fun h f hf h1 => h f hf h1.1.1 h1.1.2 h1.2⟩
theorem mem_tops {l : List Ed} {set : List Nm} {s : Str} {i : Nat} (hi : i < l.length) : i ∈ topsL l set s l.length ↔ topE l set s l[i] = true := by
  unfold topsL
  simp [hi]
theorem tops_lt {l : List Ed} {set : List Nm} {s : Str} {i n : Nat} (h : i ∈ topsL l set s n) : i < n := by
  unfold topsL at h
  have := (List.mem_filter.1 h).1
  simpa using this
theorem tops_nodup (l : List Ed) (set : List Nm) (s : Str) (n : Nat) : (topsL l set s n).Nodup := List.nodup_range.sublist List.filter_sublist
theorem noclash {l : List Ed} {set x : List Nm} (h : clashAny l set x = false) {n m : Nm} (hn : n ∈ x) (hm : m ∈ x) (hne : n ≠ m) : clashB l set n m = false := by
  have key : ∀ (i j : Nat) (hi : i < x.length) (hj : j < x.length), i < j → clashB l set x[i] x[j] = false := by
    intro i j hi hj hij
    cases q : clashB l set x[i] x[j] with
    | false => rfl
    | true => have := clashAny_yes hj hij q; rw [h] at this; cases this
  obtain ⟨i, hi, rfl⟩ := List.getElem_of_mem hn
  obtain ⟨j, hj, rfl⟩ := List.getElem_of_mem hm
  rcases Nat.lt_trichotomy i j with hij | hij | hij
  · exact key i j hi hj hij
  · subst hij; exact absurd rfl hne
  · rw [clashB_comm]; exact key j i hj hi hij
/-- The edit that touches a definition last gives its text. -/
theorem last_text {l : List Ed} (h : (validV l).2 = 0) {set : List Nm} (hc : closedB l set = true) (hnc : clashAny l set (orderN l set) = false) {L : List Df} (hL : Rising nameLt L) (s : Str) :
    (lastV l set s = -1 ∧ textOf (madeOf l (orderN l set) L) s = textOf L s) ∨ ∃ k, ∃ hk : k < l.length, lastV l set s = (k : Int) ∧ textOf (madeOf l (orderN l set) L) s = textOf l[k].puts s := by
  have hnd := valid_nodup h
  obtain ⟨x, hx⟩ : ∃ x, x = orderN l set := ⟨_, rfl⟩
  have hmem : ∀ n, n ∈ x ↔ n ∈ set := fun n => by rw [hx]; exact mem_orderN h hc
  have hch : Chain l x := hx ▸ orderN_chain l set
  have hxn : x.Nodup := by rw [hx]; exact (orderN_perm h hc).nodup_iff.2 (sortN_nodup set)
  have hed : ∀ n ∈ x, ∃ e ∈ l, e.name = n ∧ edAt l n = e := fun n hn => by
    obtain ⟨e, he, rfl⟩ := List.mem_map.1 (found_iff.1 ((closedB_iff.1 hc n ((hmem n).1 hn)).1))
    exact ⟨e, he, rfl, edAt_mem hnd he⟩
  have hto : ∀ n ∈ x, (touches (edAt l n)).Nodup := fun n hn => by
    obtain ⟨e, he, _, h2⟩ := hed n hn
    rw [h2]
    obtain ⟨i, hi, rfl⟩ := List.getElem_of_mem he
    exact proper_nodup (errE_zero ((valid_err h).2 i hi)).1
  rw [← hx] at hnc ⊢
  have hmade := textOf_made hL hto s x.length (Nat.le_refl _)
  rw [List.take_length] at hmade
  rcases hmade with ⟨h1, h2⟩ | ⟨i, hi, _, h2, h3, h4⟩
  · refine .inl ⟨?_, h2⟩
    have : topsL l set s l.length = [] := by
      rw [List.eq_nil_iff_forall_not_mem]
      intro k hk
      have hkl := tops_lt hk
      obtain ⟨⟨h5, h6⟩, _⟩ := topE_iff.1 ((mem_tops hkl).1 hk)
      have h7 := (hmem _).2 h5
      refine h1 _ h7 ?_
      rw [edAt_mem hnd (List.getElem_mem hkl)]
      exact h6
    unfold lastV; rw [this]
  · refine .inr ?_
    obtain ⟨e, he, hen, hee⟩ := hed _ (List.getElem_mem hi)
    rw [hee] at h2 h4
    obtain ⟨k, hk, rfl⟩ := List.getElem_of_mem he
    refine ⟨k, hk, ?_, h4⟩
    have hset : l[k].name ∈ set := by rw [hen]; exact (hmem _).1 (List.getElem_mem hi)
    have htop : topE l set s l[k] = true := by
      refine topE_iff.2 ⟨⟨hset, h2⟩, fun f hf hfs hft hr => ?_⟩
      obtain ⟨j, hj, hje⟩ := List.getElem_of_mem ((hmem _).2 hfs)
      have h5 := hch.ahead hr hj hje
      obtain ⟨j', hj', hje'⟩ := List.getElem_of_mem h5
      simp at hj'
      simp only [List.getElem_take] at hje'
      have : j' = i := by
        rw [hen] at hje'
        exact (List.getElem_inj hxn).1 hje'
      subst this
      refine h3 j hj (by omega) hj ?_
      rw [hje, edAt_mem hnd hf]
      exact hft
    have huniq : ∀ k' ∈ topsL l set s l.length, k' = k := fun k' hk' => by
      have hkl' := tops_lt hk'
      have ht' := topE_iff.1 ((mem_tops hkl').1 hk')
      have ht := topE_iff.1 htop
      by_cases en : l[k'].name = l[k].name
      · have := List.pairwise_iff_getElem.1 hnd
        rcases Nat.lt_trichotomy k' k with q | q | q
        · exact absurd (by rw [List.getElem_map, List.getElem_map]; exact en) (this k' k (by simpa using hkl') (by simpa using hk) q)
        · exact q
        · exact absurd (by rw [List.getElem_map, List.getElem_map]; exact en.symm) (this k k' (by simpa using hk) (by simpa using hkl') q)
      · exfalso
        have hno := noclash hnc ((hmem _).2 ht'.1.1) ((hmem _).2 hset) en
        have hcl : clashB l set l[k'].name l[k].name = true := by
          refine clashB_iff.2 ⟨s, mem_sharedL.2 ⟨?_, ?_, ?_⟩, fun c hcs => ?_⟩
          · have f1 := found_iff.2 (List.mem_map_of_mem (f := Ed.name) (List.getElem_mem hkl'))
            have f2 := found_iff.2 (List.mem_map_of_mem (f := Ed.name) (List.getElem_mem hk))
            rintro (q | q | q | q | q)
            · omega
            · omega
            · exact en q
            · exact ht'.2 _ (List.getElem_mem hk) hset ht.1.2 (mem_aboveL.1 q)
            · exact ht.2 _ (List.getElem_mem hkl') ht'.1.1 ht'.1.2 (mem_aboveL.1 q)
          · rw [edAt_mem hnd (List.getElem_mem hkl')]; exact ht'.1.2
          · rw [edAt_mem hnd (List.getElem_mem hk)]; exact ht.1.2
          · unfold resolvedB
            obtain ⟨f, hf, hfn, hfe⟩ := hed c ((hmem c).2 hcs)
            rw [hfe]
            cases q : decide (s ∈ touches f) with
            | false => simp
            | true =>
              have : ¬ Reach l c l[k].name := by rw [← hfn]; exact ht.2 f hf (hfn ▸ hcs) (by simpa using q)
              simp [mem_aboveL, this]
        rw [hno] at hcl; cases hcl
    have hin := (mem_tops hk).2 htop
    have hnd2 := tops_nodup l set s l.length
    have : topsL l set s l.length = [k] := by
      generalize topsL l set s l.length = T at *
      match T, hin, huniq, hnd2 with
      | [a], _, hu, _ => rw [hu a (by simp)]
      | a :: b :: r, _, hu, hn =>
        have h1 := hu a (by simp)
        have h2 := hu b (by simp)
        subst h1
        rw [h2] at hn
        simp at hn
    unfold lastV; rw [this]
end Go.Eng

/-
  Chapter 22, plain: the first names of an order are in order. No condition.
-/
namespace Go.Eng

theorem orderF_pre {l : List Ed} : ∀ (f : Nat) (rest out : List Nm), out <+: orderF l f rest out
  | 0, _, out => List.prefix_refl out
  | f + 1, rest, out => by
    cases q : rest.findIdx? (readyN l out) with
    | none => simp only [orderF, q]; exact List.prefix_refl out
    | some k =>
      have hk := (List.findIdx?_eq_some_iff_getElem.1 q).1
      rw [orderF_succ q hk]
      exact (List.prefix_append _ _).trans (orderF_pre f _ _)
theorem filter_first {α : Type} {p r : α → Bool} {l : List α} {k : Nat} (h : l.findIdx? r = some k) (hk : k < l.length) (hp : p l[k] = true) :
    ∃ j, (l.filter p).findIdx? r = some j ∧ ∃ hj : j < (l.filter p).length, (l.filter p)[j] = l[k] ∧ (l.filter p).eraseIdx j = (l.eraseIdx k).filter p := by
  have hs : l = l.take k ++ l[k] :: l.drop (k + 1) := by rw [List.getElem_cons_drop, List.take_append_drop]
  obtain ⟨_, hr, hb⟩ := List.findIdx?_eq_some_iff_getElem.1 h
  have e0 : l.eraseIdx k = l.take k ++ l.drop (k + 1) := List.eraseIdx_eq_take_drop_succ ..
  have hA : ∀ y ∈ l.take k, r y = false := fun y hy => by
    obtain ⟨j, hj, rfl⟩ := List.getElem_of_mem hy
    simp at hj
    simp only [List.getElem_take]
    simpa using hb j (by omega)
  obtain ⟨x, hx⟩ : ∃ x, x = l[k] := ⟨_, rfl⟩
  rw [e0]
  rw [← hx] at hs hp hr ⊢
  generalize l.take k = A at *
  generalize l.drop (k + 1) = B at *
  have e1 : l.filter p = A.filter p ++ x :: B.filter p := by rw [hs, List.filter_append, List.filter_cons_of_pos hp]
  have hn : (A.filter p).findIdx? r = none := by
    rw [List.findIdx?_eq_none_iff]
    intro y hy
    exact hA y (List.mem_filter.1 hy).1
  refine ⟨(A.filter p).length, ?_, ?_, ?_, ?_⟩
  · rw [e1, List.findIdx?_append, hn, List.findIdx?_cons, hr]; simp
  · rw [e1]; simp
  · simp [e1]
  · rw [e1, List.eraseIdx_append_of_length_le (Nat.le_refl _), List.filter_append]; simp
theorem orderF_first {l : List Ed} (ha : Acyc l) : ∀ (f : Nat) (rest out : List Nm) (f' : Nat), f' ≤ f → rest.length = f → (∀ n ∈ rest, ∀ m ∈ needsOf l n, m ∈ rest ∨ m ∈ out) →
    orderF l f' (rest.filter fun n => decide (n ∈ (orderF l f rest out).take (out.length + f'))) out = (orderF l f rest out).take (out.length + f')
  | f, rest, out, 0, _, _, _ => by
    have := List.prefix_iff_eq_take.1 (orderF_pre (l := l) f rest out)
    simp only [orderF, Nat.add_zero]
    exact this
  | 0, _, _, f' + 1, h, _, _ => absurd h (by omega)
  | f + 1, rest, out, f' + 1, h, hl, hc => by
    obtain ⟨k, hk, hkl⟩ := ready_at ha hc (by omega)
    have ih := orderF_first ha f (rest.eraseIdx k) (out ++ [rest[k]]) f' (by omega) (by rw [List.length_eraseIdx, if_pos hkl]; omega) (closed_step hc hkl)
    rw [orderF_succ hk hkl]
    have e : (out ++ [rest[k]]).length + f' = out.length + (f' + 1) := by simp; omega
    rw [e] at ih
    have hpre := orderF_pre (l := l) f (rest.eraseIdx k) (out ++ [rest[k]])
    generalize orderF l f (rest.eraseIdx k) (out ++ [rest[k]]) = X at *
    have hin : rest[k] ∈ X.take (out.length + (f' + 1)) := by
      obtain ⟨t, rfl⟩ := hpre
      rw [List.append_assoc, List.take_append, List.mem_append]
      refine .inr ?_
      simp only [List.cons_append, List.nil_append, show out.length + (f' + 1) - out.length = f' + 1 by omega, List.take_succ_cons]
      simp
    obtain ⟨j, hj, hjl, hje, hjr⟩ := filter_first (p := fun n => decide (n ∈ X.take (out.length + (f' + 1)))) hk hkl (by simpa using hin)
    rw [orderF_succ hj hjl, hje, hjr]
    exact ih
theorem order_take {l : List Ed} (h : (validV l).2 = 0) {set : List Nm} (hc : closedB l set = true) {n : Nat} (hn : n ≤ (orderN l set).length) : orderN l ((orderN l set).take n) = (orderN l set).take n := by
  have hp := orderN_perm h hc
  have e : sortN ((orderN l set).take n) = (sortN set).filter fun m => decide (m ∈ (orderN l set).take n) := by
    refine rising_eq Nm.sto (sortN_spec _).1 ((sortN_spec set).1.sublist List.filter_sublist) fun m => ?_
    rw [(sortN_spec _).2, List.mem_filter, decide_eq_true_eq]
    exact ⟨fun hm => ⟨hp.mem_iff.1 (List.mem_of_mem_take hm), hm⟩, fun hm => hm.2⟩
  have hlen : (sortN ((orderN l set).take n)).length = n := by
    have hnd : ((orderN l set).take n).Nodup := (hp.nodup_iff.2 (sortN_nodup set)).sublist (List.take_sublist _ _)
    have : (sortN ((orderN l set).take n)).Perm ((orderN l set).take n) := (List.perm_ext_iff_of_nodup (sortN_nodup _) hnd).2 (sortN_spec _).2
    rw [this.length_eq, List.length_take]; omega
  have := orderF_first (valid_acyc h) (sortN set).length (sortN set) [] n (by rw [← hp.length_eq]; exact hn) rfl (order_init hc).1
  simp only [List.length_nil, Nat.zero_add] at this
  rw [show orderF l (sortN set).length (sortN set) [] = orderN l set from rfl, ← e] at this
  show orderF l (sortN ((orderN l set).take n)).length (sortN ((orderN l set).take n)) [] = _
  rw [hlen]
  exact this
theorem take_closed {l : List Ed} (h : (validV l).2 = 0) {set : List Nm} (hc : closedB l set = true) (n : Nat) : closedB l ((orderN l set).take n) = true :=
  chain_closed (fun m hm => (closedB_iff.1 hc m ((mem_orderN h hc).1 (List.mem_of_mem_take hm))).1) ((orderN_chain l set).take n)
end Go.Eng

/-
  The engine, part AZ: from a contract to the statement's frame. No condition.
-/
namespace Go.Eng
open Go.RowKit

/-- What is known of a slice of integers that came in. -/
def IsRow (k : IntKind) (w : World) (a : Option Addr) (len cap : Nat) (zs : List Int) : Prop :=
  (a = none ∧ len = 0 ∧ cap = 0 ∧ zs = []) ∨
  ∃ x, a = some x ∧ len ≤ cap ∧ cap ≤ maxLen ∧ zs.length = cap ∧ (∀ i, i < zs.length → w.cell? (x.add i) = some (.int k (zs.getD i 0))) ∧ ∀ n ∈ zs, (Lit.int k n).wf = true
theorem int_rng {n : Int} (h : (Lit.int .i64 n).wf = true) : -9223372036854775808 ≤ n ∧ n ≤ 9223372036854775807 := by
  simp only [Lit.wf, Bool.and_eq_true, decide_eq_true_eq, IntKind.min, IntKind.max, IntKind.signed, IntKind.bits] at h
  exact ⟨h.1, h.2⟩
theorem row_rng {w : World} {a : Option Addr} {len cap : Nat} {zs : List Int} (h : IsRow .i64 w a len cap zs) : ∀ n ∈ zs.take len, -9223372036854775808 ≤ n ∧ n ≤ 9223372036854775807 := fun n hn => by
  have hn := List.mem_of_mem_take hn
  rcases h with ⟨_, _, _, rfl⟩ | ⟨x, _, _, _, _, _, h⟩
  · cases hn
  · exact int_rng (h n hn)
theorem row_rd {w : World} {k : IntKind} {a : Option Addr} {len cap : Nat} {zs : List Int} (h : IsRow k w a len cap zs) : RD w (fun _ => False) (.sl ((zs.take len).map (.int k))) (.slice a len cap) := by
  rcases h with ⟨rfl, rfl, rfl, rfl⟩ | ⟨x, rfl, h1, h2, h3, h4, h5⟩
  · exact .sl0 _ 0 (Nat.zero_le _)
  · by_cases h0 : len = 0
    · subst h0
      rw [List.take_zero]
      exact .sl0 _ cap h2
    · obtain ⟨b, o, rfl, hc⟩ := ints_at h4 (by omega)
      have hl : ((zs.take len).map (DV.int k)).length = len := by simp; omega
      have hfl : flatD ((zs.take len).map (DV.int k)) = (zs.take len).map (DV.int k) := by
        unfold flatD
        rw [List.flatMap_map]
        induction zs.take len with
        | nil => rfl
        | cons a l ih => rw [List.flatMap_cons, ih]; rfl
      have := RD.sl (w := w) (E := fun _ => False) ((zs.take len).map (.int k)) b o cap 1 ((zs.take len).map (.int k)) (fun e => by rw [e] at hl; simp at hl; omega) (fun h => h) (fun x hx => by obtain ⟨n, _, rfl⟩ := List.mem_map.1 hx; rfl)
        (by rw [hl]; exact h1) h2 (by simp) (fun u hu => by obtain ⟨n, _, rfl⟩ := List.mem_map.1 hu; rfl) (cell_lt (hc 0 (by omega))) (fun j u hj => by
          have hj' : j < len := by
            have := (List.getElem?_eq_some_iff.1 hj).1
            simp at this; omega
          have hz : j < zs.length := by omega
          have := hc j hz
          rw [this]
          simp [hj', hz] at hj
          simp [hz, hj]) (fun i d v hd hv => by
          rw [hfl] at hd
          simp only [List.getElem?_map] at hd hv
          cases q : (zs.take len)[i]? with
          | none => rw [q] at hd; cases hd
          | some n => rw [q] at hd hv; cases hd; cases hv; exact .int k n)
      rw [hl] at this
      exact this
theorem RDs.nil {w : World} {E : Nat → Prop} : RDs w E [] [] := ⟨rfl, fun i c v h => by simp at h⟩
theorem RDs.cons {w : World} {E : Nat → Prop} {d : DV} {v : Value} {ds : List DV} {vs : List Value} (h : RD w E d v) (hs : RDs w E ds vs) : RDs w E (d :: ds) (v :: vs) :=
  ⟨by simp [hs.1], fun i c u hc hu => by
    cases i with
    | zero => simp at hc hu; subst hc; subst hu; exact h
    | succ i => exact hs.2 i c u (by simpa using hc) (by simpa using hu)⟩
/-- A law whose contract is that true comes back. -/
theorem law_calls {P : Program} {f : FuncId} {args : List DV} {fr : Bool} (h : Ok P f args ⟨.d (.bool true), fr⟩) (w : World) (vs : List Value) (hr : RDs w (fun _ => False) args vs) :
    Calls P f vs.toArray w fun e w' => e = .returned (.bool true) ∧ Below w.heap.size w w' :=
  (h.2 w (fun _ => False) vs (fun _ h => h.elim) hr).mono fun _ _ ⟨v, h1, h2, h3⟩ => by
    obtain ⟨_, h4⟩ := h3
    cases h4
    exact ⟨h1, h2.below⟩
/-- A row of the call's own is data as well. -/
theorem RVok.own_d {w w' : World} {E E' : Nat → Prop} {B : Option Nat} {s : Nat} {xs : List DV} {v : Value} (h : RVok w w' E B (.own s xs) v) (hE : ∀ k, E' k → k < w.heap.size) (hEE : ∀ k, E' k → E k) : RD w' E' (.sl xs) v := by
  obtain ⟨hs, hxs, h⟩ := h
  rcases h with ⟨_, rfl, a, rfl⟩ | ⟨b, c, cur, e, _, rfl, hb, hblk, hl, hc, hcs, hcell⟩
  · exact .sl0 a 0 (Nat.zero_le _)
  · by_cases hx : xs = []
    · subst hx; exact .sl0 _ c hc
    · have hfl := flat_len hxs
      have hle : xs.length * s ≤ cur.size := by rw [← hcs]; exact Nat.mul_le_mul_right _ hl
      have hlt : b < w'.heap.size := (Array.getElem?_eq_some_iff.1 hblk).1
      refine .sl xs b 0 c s (cur.toList.take (xs.length * s)) hx (fun q => by have := hE b q; omega) hxs hl hc (by simp; omega) (fun u hu => ?_) hlt (fun j u hj => ?_) (fun i d v hd hv => ?_)
      · obtain ⟨j, hj, rfl⟩ := List.getElem_of_mem hu
        simp only [List.length_take, Array.length_toList] at hj
        have hjc : j < cur.size := by omega
        have hjf : j < (flatD xs).length := by rw [hfl]; omega
        simp only [List.getElem_take, Array.getElem_toList]
        exact (hcell j _ _ (List.getElem?_eq_getElem hjf) (Array.getElem?_eq_getElem hjc)).1
      · rw [cell_of_row w' b _ cur e (0, 0) hblk, Nat.zero_add]
        rw [List.getElem?_take] at hj
        split at hj
        · simpa using hj
        · cases hj
      · rw [List.getElem?_take] at hv
        split at hv
        · exact ((hcell i d v hd (by simpa using hv)).2).anti hEE
        · cases hv
theorem Ok.own_d {P : Program} {f : FuncId} {args : List DV} {s : Nat} {xs : List DV} {fr : Bool} (h : Ok P f args ⟨.own s xs, fr⟩) : Ok P f args ⟨.d (.sl xs), fr⟩ :=
  ⟨h.1, fun w X vs hX hr => (h.2 w X vs hX hr).mono fun _ _ ⟨v, h1, h2, B, h3⟩ =>
    ⟨v, h1, h2, none, h3.own_d (fun k q => by
      rcases q with (q | ⟨_, q⟩) | q
      · exact hX k q
      · exact q
      · cases q) (fun k q => by
      rcases q with q | q
      · exact .inl q
      · cases q)⟩⟩
theorem Ok.own2_d {P : Program} {f : FuncId} {args : List DV} {s : Nat} {xs : List DV} {y : DV} {fr : Bool} (h : Ok P f args ⟨.tup [.own s xs, .d y], fr⟩) : Ok P f args ⟨.tup [.d (.sl xs), .d y], fr⟩ :=
  ⟨h.1, fun w X vs hX hr => (h.2 w X vs hX hr).mono fun _ _ ⟨v, h1, h2, us, B, h3, h4, h5, h6⟩ =>
    ⟨v, h1, h2, us, fun _ => none, h3, h4, fun _ _ _ q => (by cases q), fun i r u hi hu => by
      match i, hi with
      | 0, hi =>
        cases hi
        exact (h6 0 _ u rfl hu).own_d (fun k q => by
          rcases q with (q | ⟨_, q⟩) | ⟨_, q⟩
          · exact hX k q
          · exact q
          · cases q) (fun k q => by
          rcases q with q | ⟨_, q⟩
          · exact .inl q
          · cases q)
      | 1, hi =>
        cases hi
        exact RD.anti (fun k q => by
          rcases q with q | ⟨_, q⟩
          · exact .inl q
          · cases q) (h6 1 _ u rfl hu)⟩⟩
end Go.Eng

/-
  Chapter 22: the reference model's Some, the statements' sets of names. No condition.
-/
namespace Go.Eng
open Go.Proofs
attribute [local simp] runL stepL evalG evalOp opLV constLV putEnv dstOk upd upds Res.plain Res.cond Res.fail evalBin evalUn seqQ blockQ argsEnv lookL lookH RetIs memless freshL evalPick evalMin bval bok evalLen evalIn strip whenC guardOps guardC slotsOf
  runM foldS stepI stepM maskE wrIn lk renO lookN evalCall evalCallee optAll resLV resObj retLV retObj retsLV retsObj evalLoad evalIndexAddr evalField solid cellsD_agg cellsD_int cellsD_bool cellsD_str cellsD_sl cellsD_ro cellsD_fn cellsL_agg cellsL_dagg cellsL_int cellsL_bool cellsL_str cellsL_sl cellsL_fn cellsL_ow cellsL_bx cellsL_lfn cellsL_nl takeL takeD mkAgg allD eqD eqDs kindsAre kindIs LObj.live TK.isNone TK.agg TK.isBool TK.isStr TK.isStruct Op.operands Call.operands
  evalBuildSlice evalAppend elemsOf evalStore evalBuild fillL lookupF putL evalSlice bound evalConv elemsS freezes frozen loadR
  mkEnv_at mkObs_at close_d close_agg close_ow close_bx close_fn close_nl touch_d touch_agg touch_ow touch_bx touch_fn touch_nl ren_d ren_agg ren_bx ren_rp ren_ow ren_fn ren_nl ren_junk retQ_ret retQ2_ret condQ_bool Nm.d Df.d Ed.d nmsD dfsD strsD edsD retC_ret nm_eq df_eq take_map_len take_map_app
  nm_t nm_d nm_td df_t df_d df_td str_t str_d str_td ed_t ed_d ed_td
  evalAppendIn evalCut evalClear evalCopy evalMake evalWrap evalCap evalNil isNilC lenL isInp gorc
  mapOf findD keyEq keyOk evalMakeMap evalRange zeroD zeroDV argsG shutG outN lenv retG0_ret retG0_normal retG1_ret renO close_mp touch_mp ren_mp optAll_d optAll_d' touch_ds cellsL_mp cellsD_mp cellsL_dmp

theorem someN_succ {l : List Ed} {b : Int} {i : Nat} (h : i < l.length) : someN (l.take (i + 1)) b = someN (l.take i) b ++ if bit16 b i then [l[i].name] else [] := by
  have e : l.take (i + 1) = l.take i ++ [l[i]] := by simp
  unfold someN
  rw [e, List.zipIdx_append, List.filter_append, List.map_append]
  congr 1
  simp [List.length_take, Nat.min_eq_left (Nat.le_of_lt h), List.filter_cons]
  split <;> rfl
theorem bit16_at {b : Int} {i k : Nat} (h : (k : Int) = (i : Int).tmod 16) : (bit16 b i = true) = (((around b 65536).fdiv (2 ^ k)).tmod 2 = 1) := by
  unfold bit16
  rw [← h]
  simp

/-- culprit/culpritref22.Some -/
theorem Some_ok (l : List Ed) (b : Int) (hl : l.length ≤ 1000000) (h1 : -9223372036854775808 ≤ b) (h2 : b ≤ 9223372036854775807) : Ok Tryz.prog 36 [edsD l, I64 b] ⟨.d (nmsD (someN l b)), true⟩ := by
  refine Ok.ret Tryz.func36 (by kernel_rfl) (c := _) rfl Tryz.ntmps36 (by simp) Tryz.results36 (by intro _ h; cases h) fun w0 X hp => ?_
  refine LWp.seq ?_
  refine LWp.reg hT hW (fun _ => none) (fun _ => ⟨rfl, fun _ h => h⟩) ?_
  simp
  refine LWp.seq ?_
  refine LWp.reg hT hW (fun _ => none) (fun _ => ⟨rfl, fun _ h => h⟩) ?_
  simp
  refine LWp.seq ?_
  refine LWp.seq ?_
  refine LWp.reg hT hW (fun _ => none) (fun _ => ⟨rfl, fun _ h => h⟩) ?_
  simp
  refine LWp.block ?_
  refine LWp.loopW (ι := Nat × List Nm) (fun ⟨i, acc⟩ => mkEnv [(0, .d (edsD l)), (1, .d (I64 b)), (5, .ow 5 0 acc.length), (6, .d (I64 i))]) (fun ⟨i, acc⟩ => mkObs [(5, .row false 2 (acc.map Nm.d))]) (fun ⟨i, acc⟩ => i ≤ l.length ∧ acc.length ≤ i ∧ acc = someN (l.take i) b) (fun ⟨i, acc⟩ => l.length - i) (0, []) (Weak.to [0, 1, 5, 6] [(5, 5)] (by decide) (by decide) (by simp [hp]) (by simp) (by simp)) (⟨Nat.zero_le _, Nat.le_refl _, rfl⟩) fun ⟨i, acc⟩ hi3 => ?_
  refine LWp.seq ?_
  refine LWp.seq ?_
  refine LWp.reg hT hW (fun _ => none) (fun _ => ⟨rfl, fun _ h => h⟩) ?_
  simp
  refine LWp.iff ?_
  simp
  refine ⟨fun h3 => ?_, fun h3 => ?_⟩
  · refine LWp.skip ?_
    simp
    refine LWp.seq ?_
    refine LWp.block ?_
    refine LWp.seq ?_
    have hm1 : 0 ≤ ((i : Int)).tmod 16 := Int.tmod_nonneg _ (by omega)
    have hm2 : ((i : Int)).tmod 16 < 16 := Int.tmod_lt_of_pos _ (by omega)
    obtain ⟨k0, hk0⟩ : ∃ k0 : Nat, (k0 : Int) = ((i : Int)).tmod 16 := ⟨(((i : Int)).tmod 16).toNat, by omega⟩
    have hkw := u64_nat (k := k0) (by omega)
    have hk64 : min k0 64 = k0 := by omega
    refine LWp.reg hT hW (fun | 14 => some <| .plain ⟨.d (I64 (around b 65536)), true⟩ | _ => none) (by intro d; first | exact ⟨rfl, fun _ h => h⟩ | (split <;> exact ⟨rfl, fun _ h => h⟩)) ?_
    simp [← hk0, hkw, IntKind.bits, hk64]
    refine ⟨Around_ok b 65536 h1 h2 (by decide), ?_⟩
    refine LWp.iff ?_
    simp
    refine ⟨fun h5 => ?_, fun h5 => ?_⟩
    · refine LWp.reg hT hW (fun _ => none) (fun _ => ⟨rfl, fun _ h => h⟩) ?_
      simp [h3]
      refine ⟨by have := hi3.2.1; omega, ?_⟩
      refine LWp.reg hT hW (fun _ => none) (fun _ => ⟨rfl, fun _ h => h⟩) ?_
      simp
      refine ⟨by omega, ?_⟩
      refine loopQ.mk (i + 1, acc ++ [l[i].name]) (Weak.to [0, 1, 5, 6] [(28, 5)] (by decide) (by decide) (by simp [hp]) (by simp) (by simp)) ?_ ?_
      · refine ⟨h3, by have := hi3.2.1; simp; omega, ?_⟩
        dsimp only
        rw [someN_succ h3, ← hi3.2.2, if_pos ((bit16_at hk0).mpr h5)]
      · omega
    · refine LWp.skip ?_
      simp
      refine LWp.reg hT hW (fun _ => none) (fun _ => ⟨rfl, fun _ h => h⟩) ?_
      simp
      refine ⟨by omega, ?_⟩
      refine loopQ.mk (i + 1, acc) (Weak.to [0, 1, 5, 6] [(5, 5)] (by decide) (by decide) (by simp [hp]) (by simp) (by simp)) ?_ ?_
      · refine ⟨h3, by have := hi3.2.1; dsimp only; omega, ?_⟩
        dsimp only
        rw [someN_succ h3, ← hi3.2.2, if_neg (fun q => h5 ((bit16_at hk0).mp q)), List.append_nil]
      · omega
  · refine LWp.exit ?_
    simp
    refine LWp.seq ?_
    refine LWp.reg hT hW (fun _ => none) (fun _ => ⟨rfl, fun _ h => h⟩) ?_
    simp
    refine LWp.ret ?_
    have q : i = l.length := by omega
    have := hi3.2.2
    rw [q, List.take_length] at this
    simp [this]

/-- The statements' sets of names. -/
def oddN (b : Int) : Nm := ⟨around b 5 - 1, around (b.tdiv 5) 50⟩
def namesV (l : List Ed) (bits b : Int) : List (List Nm) := [someN l bits, l.map Ed.name, someN l bits ++ [oddN b], someN l bits ++ someN l bits, [], [oddN b]]
theorem namesV_len {l : List Ed} {bits b : Int} {x : List Nm} (h : x ∈ namesV l bits b) : x.length ≤ 2 * l.length + 1 := by
  have := someN_len l bits
  simp only [namesV, List.mem_cons, List.not_mem_nil, or_false] at h
  rcases h with rfl | rfl | rfl | rfl | rfl | rfl <;> simp <;> omega

/-- culprit/culpritlaw22.names -/
theorem names_own (l : List Ed) (bits b : Int) (hl : l.length ≤ 1000000) (h1 : -9223372036854775808 ≤ b) (h2 : b ≤ 9223372036854775807) (h3 : -9223372036854775808 ≤ bits) (h4 : bits ≤ 9223372036854775807) : Ok Tryz.prog 16 [edsD l, I64 bits, I64 b] ⟨.own 1 ((namesV l bits b).map nmsD), false⟩ := by
  refine Ok.ret Tryz.func16 (by kernel_rfl) (c := _) rfl Tryz.ntmps16 (by simp) Tryz.results16 (by intro _ h; cases h) fun w0 X hp => ?_
  have hso := Some_ok l bits hl h3 h4
  have hsl := someN_len l bits
  obtain ⟨s, hs⟩ : ∃ s, s = someN l bits := ⟨_, rfl⟩
  have hnv : namesV l bits b = [s, l.map Ed.name, s ++ [oddN b], s ++ s, [], [oddN b]] := by rw [hs]; rfl
  rw [hnv]
  rw [← hs] at hso hsl
  refine LWp.seq ?_
  refine LWp.reg hT hW (fun _ => none) (fun _ => ⟨rfl, fun _ h => h⟩) ?_
  simp
  refine LWp.seq ?_
  refine LWp.reg hT hW (fun | 11 => some <| .plain ⟨.d (nmsD s), true⟩ | _ => none) (by intro d; first | exact ⟨rfl, fun _ h => h⟩ | (split <;> exact ⟨rfl, fun _ h => h⟩)) ?_
  simp
  refine ⟨hso, ?_⟩
  refine LWp.seq ?_
  obtain ⟨z1, z2⟩ := around_lt b 5 (by decide)
  obtain ⟨z3, z4⟩ := around_lt (b.tdiv 5) 50 (by decide)
  have z5 : -9223372036854775808 ≤ b.tdiv 5 ∧ b.tdiv 5 ≤ 9223372036854775807 := by rw [Int.tdiv_eq_ediv]; have h5 : Int.sign 5 = 1 := rfl; rw [h5]; split <;> omega
  refine LWp.reg hT hW (fun | 13 => some <| .plain ⟨.d (I64 (around b 5)), true⟩ | 17 => some <| .plain ⟨.d (I64 (around (b.tdiv 5) 50)), true⟩ | _ => none) (by intro d; first | exact ⟨rfl, fun _ h => h⟩ | (split <;> exact ⟨rfl, fun _ h => h⟩)) ?_
  simp
  refine ⟨⟨⟨⟨Around_ok b 5 h1 h2 (by decide), by omega⟩, z5⟩, Around_ok _ 50 z5.1 z5.2 (by decide)⟩, ?_⟩
  refine LWp.seq ?_
  refine LWp.regAny hT hW hMixed (lk [[], [], [1], [], [], [1, 2, 3, 4], [], [6], [1, 2, 3, 4, 5, 6, 7], [], [], [1, 2, 3, 4, 5, 6, 7, 8, 9, 10], [], [1, 2, 3, 4, 5, 6, 7, 8, 9, 10, 11, 12], [], [14], [0, 1, 2, 3, 4, 5, 6, 7, 8, 9, 10, 11, 12, 13, 14, 15], [0, 1, 2, 3, 4, 5, 6, 7, 8, 9, 10, 11, 12, 13, 14, 15, 16]]) (lk [[21, 22, 24, 26, 27, 28, 30, 32, 34], [22, 26, 28, 34], [22, 26, 28, 34], [21, 26, 28, 34], [21, 22, 26, 28, 34], [26, 28, 34], [21, 22, 24, 28, 34], [21, 22, 24, 28, 34], [28, 34], [21, 22, 24, 26, 27, 34], [21, 22, 24, 26, 27, 28, 34], [34], [21, 22, 24, 26, 27, 28, 30, 34], [34], [21, 22, 24, 26, 27, 28, 30, 32], [21, 22, 24, 26, 27, 28, 30, 32], [], []]) (lk [[], [], [21], [22], [], [22, 24], [], [26], [24, 27], [28], [], [28, 30], [], [30, 32], [], [34], [35, 27, 32, 34], [6]]) (by kernel_rfl) (fun | 21 => some <| .plain ⟨.d (nmsD (l.map Ed.name)), true⟩ | _ => none) (by intro d; first | exact ⟨rfl, fun _ h => h⟩ | (split <;> exact ⟨rfl, fun _ h => h⟩)) ?_
  simp [(show [0, 1, 2, 3, 4, 5] = List.range 6 from rfl)]
  refine ⟨⟨⟨⟨⟨by simpa [nmsD] using Names_ok l hl, by omega⟩, by omega⟩, by omega⟩, by omega⟩, ?_⟩
  refine LWp.ret ?_
  simp [oddN]
  exact ⟨List.take_of_length_le (by simp), List.take_of_length_le (by simp)⟩

theorem names_ok (l : List Ed) (bits b : Int) (hl : l.length ≤ 1000000) (h1 : -9223372036854775808 ≤ b) (h2 : b ≤ 9223372036854775807) (h3 : -9223372036854775808 ≤ bits) (h4 : bits ≤ 9223372036854775807) :
    Ok Tryz.prog 16 [edsD l, I64 bits, I64 b] ⟨.d (.sl ((namesV l bits b).map nmsD)), false⟩ := (names_own l bits b hl h1 h2 h3 h4).own_d
end Go.Eng

/-
  Chapter 22: the reference model's Order, Shared, Clash, Done. No condition.
-/
namespace Go.Eng
open Go.Proofs
attribute [local simp] runL stepL evalG evalOp opLV constLV putEnv dstOk upd upds Res.plain Res.cond Res.fail evalBin evalUn seqQ blockQ argsEnv lookL lookH RetIs memless freshL evalPick evalMin bval bok evalLen evalIn strip whenC guardOps guardC slotsOf
  runM foldS stepI stepM maskE wrIn lk renO lookN evalCall evalCallee optAll resLV resObj retLV retObj retsLV retsObj evalLoad evalIndexAddr evalField solid cellsD_agg cellsD_int cellsD_bool cellsD_str cellsD_sl cellsD_ro cellsD_fn cellsL_agg cellsL_dagg cellsL_int cellsL_bool cellsL_str cellsL_sl cellsL_fn cellsL_ow cellsL_bx cellsL_lfn cellsL_nl takeL takeD mkAgg allD eqD eqDs kindsAre kindIs LObj.live TK.isNone TK.agg TK.isBool TK.isStr TK.isStruct Op.operands Call.operands
  evalBuildSlice evalAppend elemsOf evalStore evalBuild fillL lookupF putL evalSlice bound evalConv elemsS freezes frozen loadR
  mkEnv_at mkObs_at close_d close_agg close_ow close_bx close_fn close_nl touch_d touch_agg touch_ow touch_bx touch_fn touch_nl ren_d ren_agg ren_bx ren_rp ren_ow ren_fn ren_nl ren_junk retQ_ret retQ2_ret condQ_bool Nm.d Df.d Ed.d nmsD dfsD strsD edsD retC_ret nm_eq df_eq take_map_len take_map_app
  nm_t nm_d nm_td df_t df_d df_td str_t str_d str_td ed_t ed_d ed_td
  evalAppendIn evalCut evalClear evalCopy evalMake evalWrap evalCap evalNil isNilC lenL isInp gorc
  mapOf findD keyEq keyOk evalMakeMap evalRange zeroD zeroDV argsG shutG outN lenv retG0_ret retG0_normal retG1_ret renO close_mp touch_mp ren_mp optAll_d optAll_d' touch_ds cellsL_mp cellsD_mp cellsL_dmp

/-- culprit/culpritref22.Order -/
theorem Order_ok (l : List Ed) (set : List Nm) (hs : small l) (hn : (allNeeds l).length ≤ 1000000) (hl : set.length ≤ 1000000) : Ok Tryz.prog 31 [edsD l, nmsD set] ⟨.tup [.d (nmsD (orderV l set).1), .d (I64 (orderV l set).2)], true⟩ := by
  refine Ok.two Tryz.func31 (by kernel_rfl) (c := _) rfl Tryz.ntmps31 (by simp) Tryz.results31 rfl fun w0 X hp => ?_
  refine LWp.seq ?_
  refine LWp.reg hT hW (fun _ => none) (fun _ => ⟨rfl, fun _ h => h⟩) ?_
  simp
  refine LWp.seq ?_
  refine LWp.reg hT hW (fun | 13 => some <| .plain ⟨.tup [.d (I64 (validV l).1), .d (I64 (validV l).2)], true⟩ | _ => none) (by intro d; first | exact ⟨rfl, fun _ h => h⟩ | (split <;> exact ⟨rfl, fun _ h => h⟩)) ?_
  simp [evalExtract]
  refine ⟨Valid_ok l hs hn, ?_⟩
  refine LWp.seq ?_
  refine LWp.seq ?_
  refine LWp.reg hT hW (fun _ => none) (fun _ => ⟨rfl, fun _ h => h⟩) ?_
  simp
  refine LWp.iff ?_
  simp
  refine ⟨fun h2 => ?_, fun h2 => ?_⟩
  · refine LWp.seq ?_
    refine LWp.reg hT hW (fun _ => none) (fun _ => ⟨rfl, fun _ h => h⟩) ?_
    simp
    refine LWp.ret ?_
    simp [orderV, h2]
  · refine LWp.skip ?_
    simp
    refine LWp.seq ?_
    refine LWp.seq ?_
    refine LWp.reg hT hW (fun | 21 => some <| .plain ⟨.d (.bool (closedB l set)), true⟩ | _ => none) (by intro d; first | exact ⟨rfl, fun _ h => h⟩ | (split <;> exact ⟨rfl, fun _ h => h⟩)) ?_
    simp
    refine ⟨Closed_ok l set hn (by omega), ?_⟩
    refine LWp.iff ?_
    simp
    refine ⟨fun h4 => ?_, fun h4 => ?_⟩
    · refine LWp.seq ?_
      refine LWp.reg hT hW (fun _ => none) (fun _ => ⟨rfl, fun _ h => h⟩) ?_
      simp
      refine LWp.ret ?_
      simp [orderV, h2, h4]
    · refine LWp.skip ?_
      simp
      refine LWp.seq ?_
      have hal := sortN_len set
      refine LWp.reg hT hW (fun | 24 => some <| .plain ⟨.d (nmsD (sortN set)), true⟩ | _ => none) (by intro d; first | exact ⟨rfl, fun _ h => h⟩ | (split <;> exact ⟨rfl, fun _ h => h⟩)) ?_
      simp
      refine ⟨Sort_ok set hl, ?_⟩
      refine LWp.seq ?_
      refine LWp.reg hT hW (fun _ => none) (fun _ => ⟨rfl, fun _ h => h⟩) ?_
      simp
      refine LWp.seq ?_
      refine LWp.block ?_
      refine LWp.loopW (ι := List Nm) (fun out => mkEnv [(0, .d (edsD l)), (8, .d (nmsD (sortN set))), (9, .ow 9 0 out.length)]) (fun out => mkObs [(9, .row false 2 (out.map Nm.d))]) (fun out => OrdI l set out) (fun out => (sortN set).length - out.length) [] (Weak.to [0, 8, 9] [(9, 9)] (by decide) (by decide) (by simp [hp]) (by simp) (by simp)) (OrdI.start (by simpa using h4)) fun out hi8 => ?_
      refine LWp.seq ?_
      refine LWp.seq ?_
      refine LWp.reg hT hW (fun _ => none) (fun _ => ⟨rfl, fun _ h => h⟩) ?_
      simp
      refine LWp.iff ?_
      simp
      refine ⟨fun h8 => ?_, fun h8 => ?_⟩
      · refine LWp.skip ?_
        simp
        refine LWp.block ?_
        refine LWp.seq ?_
        refine LWp.reg hT hW (fun _ => none) (fun _ => ⟨rfl, fun _ h => h⟩) ?_
        simp
        refine LWp.block ?_
        refine LWp.loopW (ι := Nat) (fun i => mkEnv [(0, .d (edsD l)), (8, .d (nmsD (sortN set))), (9, .ow 9 0 out.length), (10, .d (I64 i))]) (fun i => mkObs [(9, .row false 2 (out.map Nm.d))]) (fun i => i ≤ (sortN set).length ∧ ∀ (j : Nat) (h : j < (sortN set).length), j < i → (sortN set)[j] ∈ out ∨ readyN l out (sortN set)[j] = false) (fun i => (sortN set).length - i) 0 (Weak.to [0, 8, 9, 10] [(9, 9)] (by decide) (by decide) (by simp [hp]) (by simp) (by simp)) (⟨Nat.zero_le _, fun j _ h => absurd h (Nat.not_lt_zero _)⟩) fun i hi10 => ?_
        refine LWp.seq ?_
        refine LWp.seq ?_
        refine LWp.reg hT hW (fun _ => none) (fun _ => ⟨rfl, fun _ h => h⟩) ?_
        simp
        refine LWp.iff ?_
        simp
        refine ⟨fun h10 => ?_, fun h10 => ?_⟩
        · refine LWp.skip ?_
          simp
          refine LWp.seq ?_
          refine LWp.block ?_
          refine LWp.seq ?_
          refine LWp.reg hT hW (fun | 41 => some <| .plain ⟨.d (.bool (decide ((sortN set)[i] ∈ out))), true⟩ | 49 => some <| .plain ⟨.d (nmsD (needsOf l (sortN set)[i])), false⟩ | 51 => some <| .plain ⟨.d (.bool (readyN l out (sortN set)[i])), true⟩ | _ => none) (by intro d; first | exact ⟨rfl, fun _ h => h⟩ | (split <;> exact ⟨rfl, fun _ h => h⟩)) ?_
          simp [h10]
          refine ⟨⟨⟨Has_ok out _, by intros; exact Needs_ok l _⟩, by intros; exact ready_ok _ out⟩, ?_⟩
          refine LWp.iff ?_
          simp
          refine ⟨fun h12a h12b => ?_, fun h12 => ?_⟩
          · refine LWp.seq ?_
            refine LWp.reg hT hW (fun _ => none) (fun _ => ⟨rfl, fun _ h => h⟩) ?_
            simp [h10]
            refine ⟨by omega, ?_⟩
            refine LWp.exit ?_
            simp
            refine loopQ.mk (out ++ [(sortN set)[i]]) (Weak.to [0, 8, 9] [(59, 9)] (by decide) (by decide) (by simp [hp]) (by simp) (by simp)) ?_ ?_
            · exact hi8.step h10 h12a h12b hi10.2
            · simp; omega
          · refine LWp.skip ?_
            simp
            refine LWp.reg hT hW (fun _ => none) (fun _ => ⟨rfl, fun _ h => h⟩) ?_
            simp
            refine ⟨by omega, ?_⟩
            refine loopQ.mk (i + 1) (Weak.to [0, 8, 9, 10] [(9, 9)] (by decide) (by decide) (by simp [hp]) (by simp) (by simp)) ?_ ?_
            · refine ⟨h10, fun j hj hji => ?_⟩
              by_cases e : j = i
              · subst e
                by_cases q : (sortN set)[j] ∈ out
                · exact .inl q
                · exact .inr (h12 q)
              · exact hi10.2 j hj (by omega)
            · omega
        · have hF : False := hi8.found (valid_acyc (by simpa using h2)) h8 fun j hj => hi10.2 j hj (by omega)
          refine LWp.exit ?_
          simp
          refine loopQ.mk out (Weak.to [0, 8, 9] [(9, 9)] (by decide) (by decide) (by simp [hp]) (by simp) (by simp)) ?_ ?_
          · exact hF.elim
          · exact hF.elim
      · refine LWp.exit ?_
        simp
        refine LWp.seq ?_
        refine LWp.reg hT hW (fun _ => none) (fun _ => ⟨rfl, fun _ h => h⟩) ?_
        simp
        refine LWp.ret ?_
        simp [orderV, h2, h4, ← hi8.done (by omega)]

/-- culprit/culpritref22.Shared -/
theorem Shared_ok (l : List Ed) (a b : Nm) (hs : small l) (hn : (allNeeds l).length ≤ 1000000) : Ok Tryz.prog 143 [edsD l, a.d, b.d] ⟨.d (strsD (sharedL l a b)), true⟩ := by
  refine Ok.ret Tryz.func143 (by kernel_rfl) (c := _) rfl Tryz.ntmps143 (by simp) Tryz.results143 (by intro _ h; cases h) fun w0 X hp => ?_
  refine LWp.seq ?_
  refine LWp.reg hT hW (fun _ => none) (fun _ => ⟨rfl, fun _ h => h⟩) ?_
  simp
  refine LWp.seq ?_
  refine LWp.reg hT hW (fun | 15 => some <| .plain ⟨.d (I64 (findI l a)), true⟩ | _ => none) (by intro d; first | exact ⟨rfl, fun _ h => h⟩ | (split <;> exact ⟨rfl, fun _ h => h⟩)) ?_
  simp
  refine ⟨Find_ok l a, ?_⟩
  refine LWp.seq ?_
  refine LWp.reg hT hW (fun | 18 => some <| .plain ⟨.d (I64 (findI l b)), true⟩ | _ => none) (by intro d; first | exact ⟨rfl, fun _ h => h⟩ | (split <;> exact ⟨rfl, fun _ h => h⟩)) ?_
  simp
  refine ⟨Find_ok l b, ?_⟩
  refine LWp.seq ?_
  refine LWp.seq ?_
  refine LWp.reg hT hW (fun | 34 => some <| .plain ⟨.d (.bool (decide (a ∈ aboveL l b))), true⟩ | 40 => some <| .plain ⟨.d (.bool (decide (b ∈ aboveL l a))), true⟩ | _ => none) (by intro d; first | exact ⟨rfl, fun _ h => h⟩ | (split <;> exact ⟨rfl, fun _ h => h⟩)) ?_
  simp
  refine ⟨⟨by intros; exact Before_ok l a b hn, by intros; exact Before_ok l b a hn⟩, ?_⟩
  refine LWp.iff ?_
  simp
  refine ⟨fun h3 => ?_, fun g1 g2 g3 g4 g5 => ?_⟩
  · refine LWp.seq ?_
    refine LWp.reg hT hW (fun _ => none) (fun _ => ⟨rfl, fun _ h => h⟩) ?_
    simp
    refine LWp.ret ?_
    have e : sharedL l a b = [] := by unfold sharedL; rw [if_pos (by rcases h3 with (((h | h) | h) | h) | h <;> simp [h])]
    simp [e]
  · refine LWp.skip ?_
    simp
    refine LWp.seq ?_
    refine LWp.reg hT hW (fun _ => none) (fun _ => ⟨rfl, fun _ h => h⟩) ?_
    simp
    refine LWp.seq ?_
    obtain ⟨i, hi, fa, ea⟩ := edAt_of (show 0 ≤ findI l a by omega)
    obtain ⟨j, hj, fb, eb⟩ := edAt_of (show 0 ≤ findI l b by omega)
    refine LWp.reg hT hW (fun | 46 => some <| .plain ⟨.d (strsD (touches l[i])), true⟩ | _ => none) (by intro d; first | exact ⟨rfl, fun _ h => h⟩ | (split <;> exact ⟨rfl, fun _ h => h⟩)) ?_
    simp [fa, hi]
    refine ⟨Touches_ok _ (hs _ (List.getElem_mem hi)).1 (hs _ (List.getElem_mem hi)).2, ?_⟩
    refine LWp.seq ?_
    refine LWp.reg hT hW (fun | 51 => some <| .plain ⟨.d (strsD (touches l[j])), true⟩ | _ => none) (by intro d; first | exact ⟨rfl, fun _ h => h⟩ | (split <;> exact ⟨rfl, fun _ h => h⟩)) ?_
    simp [fb, hj]
    refine ⟨Touches_ok _ (hs _ (List.getElem_mem hj)).1 (hs _ (List.getElem_mem hj)).2, ?_⟩
    refine LWp.seq ?_
    refine LWp.seq ?_
    refine LWp.reg hT hW (fun _ => none) (fun _ => ⟨rfl, fun _ h => h⟩) ?_
    simp
    refine LWp.block ?_
    refine LWp.loopW (ι := Nat × List Str) (fun ⟨q, acc⟩ => mkEnv [(9, .ow 9 0 acc.length), (10, .d (strsD (touches l[i]))), (11, .d (strsD (touches l[j]))), (12, .d (I64 q))]) (fun ⟨q, acc⟩ => mkObs [(9, .row false 1 (acc.map .str))]) (fun ⟨q, acc⟩ => q ≤ (touches l[i]).length ∧ acc.length ≤ q ∧ acc = ((touches l[i]).take q).filter fun s => decide (s ∈ touches l[j])) (fun ⟨q, acc⟩ => (touches l[i]).length - q) (0, []) (Weak.to [9, 10, 11, 12] [(9, 9)] (by decide) (by decide) (by simp [hp]) (by simp) (by simp)) (by simp) fun ⟨q, acc⟩ hi9 => ?_
    refine LWp.seq ?_
    refine LWp.seq ?_
    have htl := touches_len (hs _ (List.getElem_mem hi)).1 (hs _ (List.getElem_mem hi)).2
    refine LWp.reg hT hW (fun _ => none) (fun _ => ⟨rfl, fun _ h => h⟩) ?_
    simp
    refine LWp.iff ?_
    simp
    refine ⟨fun h9 => ?_, fun h9 => ?_⟩
    · refine LWp.skip ?_
      simp
      refine LWp.seq ?_
      refine LWp.block ?_
      refine LWp.seq ?_
      refine LWp.reg hT hW (fun | 63 => some <| .plain ⟨.d (.bool (decide ((touches l[i])[q] ∈ touches l[j]))), true⟩ | _ => none) (by intro d; first | exact ⟨rfl, fun _ h => h⟩ | (split <;> exact ⟨rfl, fun _ h => h⟩)) ?_
      simp [h9]
      refine ⟨In_ok _ _, ?_⟩
      refine LWp.iff ?_
      simp
      refine ⟨fun h11 => ?_, fun h11 => ?_⟩
      · refine LWp.reg hT hW (fun _ => none) (fun _ => ⟨rfl, fun _ h => h⟩) ?_
        simp [h9]
        refine ⟨by have := hi9.2.1; omega, ?_⟩
        refine LWp.reg hT hW (fun _ => none) (fun _ => ⟨rfl, fun _ h => h⟩) ?_
        simp
        refine ⟨by omega, ?_⟩
        refine loopQ.mk (q + 1, acc ++ [(touches l[i])[q]]) (Weak.to [9, 10, 11, 12] [(70, 9)] (by decide) (by decide) (by simp [hp]) (by simp) (by simp)) ?_ ?_
        · refine ⟨h9, by have := hi9.2.1; simp; omega, ?_⟩
          dsimp only
          rw [filter_take_succ h9, ← hi9.2.2]; simp [h11]
        · omega
      · refine LWp.skip ?_
        simp
        refine LWp.reg hT hW (fun _ => none) (fun _ => ⟨rfl, fun _ h => h⟩) ?_
        simp
        refine ⟨by omega, ?_⟩
        refine loopQ.mk (q + 1, acc) (Weak.to [9, 10, 11, 12] [(9, 9)] (by decide) (by decide) (by simp [hp]) (by simp) (by simp)) ?_ ?_
        · refine ⟨h9, by have := hi9.2.1; dsimp only; omega, ?_⟩
          dsimp only
          rw [filter_take_succ h9, ← hi9.2.2]; simp [h11]
        · omega
    · refine LWp.exit ?_
      simp
      refine LWp.seq ?_
      refine LWp.reg hT hW (fun _ => none) (fun _ => ⟨rfl, fun _ h => h⟩) ?_
      simp
      refine LWp.ret ?_
      have e : sharedL l a b = (touches l[i]).filter fun s => decide (s ∈ touches l[j]) := by unfold sharedL; rw [if_neg (by simp only [not_or]; exact ⟨by omega, by omega, g3, g4, g5⟩), ea, eb]
      have e2 : acc = sharedL l a b := by rw [e, hi9.2.2, List.take_of_length_le (by omega)]
      simp [e2]

set_option maxRecDepth 10000

/-- culprit/culpritref22.Clash -/
theorem Clash_ok (l : List Ed) (set : List Nm) (a b : Nm) (hs : small l) (hn : (allNeeds l).length ≤ 1000000) (hset : ∀ c ∈ set, 0 ≤ findI l c) (hsl : set.length ≤ 1000000) : Ok Tryz.prog 93 [edsD l, nmsD set, a.d, b.d] ⟨.d (.bool (clashB l set a b)), true⟩ := by
  refine Ok.ret Tryz.func93 (by kernel_rfl) (c := _) rfl Tryz.ntmps93 (by simp) Tryz.results93 (by intro _ h; cases h) fun w0 X hp => ?_
  have hlen := sharedL_len hs a b
  refine LWp.seq ?_
  refine LWp.reg hT hW (fun _ => none) (fun _ => ⟨rfl, fun _ h => h⟩) ?_
  simp
  refine LWp.seq ?_
  refine LWp.reg hT hW (fun | 17 => some <| .plain ⟨.d (strsD (sharedL l a b)), true⟩ | _ => none) (by intro d; first | exact ⟨rfl, fun _ h => h⟩ | (split <;> exact ⟨rfl, fun _ h => h⟩)) ?_
  simp
  refine ⟨Shared_ok l a b hs hn, ?_⟩
  refine LWp.seq ?_
  refine LWp.seq ?_
  refine LWp.reg hT hW (fun _ => none) (fun _ => ⟨rfl, fun _ h => h⟩) ?_
  simp
  refine LWp.block ?_
  refine LWp.loopW (ι := Nat) (fun i => mkEnv [(0, .d (edsD l)), (1, .d (nmsD set)), (6, .bx 6 0), (7, .bx 7 0), (9, .d (strsD (sharedL l a b))), (10, .d (I64 i))]) (fun i => mkObs [(6, .box false [.d (I64 a.who), .d (I64 a.seq)]), (7, .box false [.d (I64 b.who), .d (I64 b.seq)])]) (fun i => i ≤ (sharedL l a b).length ∧ Pre (fun s => !set.any (resolvedB l s a b)) (sharedL l a b) i) (fun i => (sharedL l a b).length - i) 0 (Weak.to [0, 1, 6, 7, 9, 10] [(6, 6), (7, 7)] (by decide) (by decide) (by simp [hp]) (by simp) (by simp)) (⟨Nat.zero_le _, Pre.zero⟩) fun i hi3 => ?_
  refine LWp.seq ?_
  refine LWp.seq ?_
  refine LWp.reg hT hW (fun _ => none) (fun _ => ⟨rfl, fun _ h => h⟩) ?_
  simp
  refine LWp.iff ?_
  simp
  refine ⟨fun h3 => ?_, fun h3 => ?_⟩
  · refine LWp.skip ?_
    simp
    refine LWp.seq ?_
    refine LWp.block ?_
    refine LWp.seq ?_
    refine LWp.reg hT hW (fun _ => none) (fun _ => ⟨rfl, fun _ h => h⟩) ?_
    simp
    refine LWp.seq ?_
    refine LWp.seq ?_
    refine LWp.reg hT hW (fun _ => none) (fun _ => ⟨rfl, fun _ h => h⟩) ?_
    simp
    refine LWp.block ?_
    refine LWp.loopW (ι := Nat × Bool) (fun ⟨k, r⟩ => mkEnv [(0, .d (edsD l)), (1, .d (nmsD set)), (6, .bx 6 0), (7, .bx 7 0), (9, .d (strsD (sharedL l a b))), (10, .d (I64 i)), (11, .d (.bool r)), (12, .d (I64 k))]) (fun ⟨k, r⟩ => mkObs [(6, .box false [.d (I64 a.who), .d (I64 a.seq)]), (7, .box false [.d (I64 b.who), .d (I64 b.seq)])]) (fun ⟨k, r⟩ => k ≤ set.length ∧ r = (set.take k).any (resolvedB l (sharedL l a b)[i] a b)) (fun ⟨k, r⟩ => set.length - k) (0, false) (Weak.to [0, 1, 6, 7, 9, 10, 11, 12] [(6, 6), (7, 7)] (by decide) (by decide) (by simp [hp]) (by simp) (by simp)) (by simp) fun ⟨k, r⟩ hi7 => ?_
    refine LWp.seq ?_
    refine LWp.seq ?_
    refine LWp.reg hT hW (fun _ => none) (fun _ => ⟨rfl, fun _ h => h⟩) ?_
    simp
    refine LWp.iff ?_
    simp
    refine ⟨fun h7 => ?_, fun h7 => ?_⟩
    · refine LWp.skip ?_
      simp
      refine LWp.seq ?_
      refine LWp.block ?_
      refine LWp.seq ?_
      refine LWp.reg hT hW (fun | 35 => some <| .plain ⟨.d (I64 (findI l set[k])), true⟩ | _ => none) (by intro d; first | exact ⟨rfl, fun _ h => h⟩ | (split <;> exact ⟨rfl, fun _ h => h⟩)) ?_
      simp [h7]
      refine ⟨Find_ok l _, ?_⟩
      obtain ⟨i0, hi0, fc, ec⟩ := edAt_of (hset _ (List.getElem_mem h7))
      have hmx : (if (i0 : Int) < 0 then (0 : Int) else (i0 : Int)) = (i0 : Int) := if_neg (by omega)
      refine LWp.regAny hT hW hMixed (lk [[], [0], [0, 1], [0, 1, 2], [0, 1, 2, 3], [0, 1, 2, 3, 4], [0, 1, 2, 3, 4], [0, 1, 2, 3, 4, 6], [0, 1, 2, 3, 4, 5, 6, 7], [0, 1, 2, 3, 4, 5, 6, 7, 8], [0, 1, 2, 3, 4, 5, 6, 7, 8, 9], [0, 1, 2, 3, 4], [0, 1, 2, 3, 4], [0, 1, 2, 3, 4, 11, 12], [0, 1, 2, 3, 4, 11, 12, 13], [0, 1, 2, 3, 4, 5, 6, 7, 8, 9, 10, 11, 12, 13, 14], [0, 1, 2, 3, 4, 5, 6, 7, 8, 9, 10, 11, 12, 13, 14, 15], [0, 1, 2, 3, 4, 5, 6, 7, 8, 9, 10, 11, 12, 13, 14, 15, 16], [0, 1, 2, 3, 4, 5, 6, 7, 8, 9, 10, 11, 12, 13, 14, 15, 16, 17], [0, 1, 2, 3, 4, 5, 6, 7, 8, 9, 10, 11, 12, 13, 14, 15, 16, 17], [0, 1, 2, 3, 4, 5, 6, 7, 8, 9, 10, 11, 12, 13, 14, 15, 16, 17], [0, 1, 2, 3, 4, 5, 6, 7, 8, 9, 10, 11, 12, 13, 14, 15, 16, 17], [0, 1, 2, 3, 4, 5, 6, 7, 8, 9, 10, 11, 12, 13, 14, 15, 16, 17, 20, 21], [0, 1, 2, 3, 4, 5, 6, 7, 8, 9, 10, 11, 12, 13, 14, 15, 16, 17, 20, 21, 22], [0, 1, 2, 3, 4, 5, 6, 7, 8, 9, 10, 11, 12, 13, 14, 15, 16, 17, 18, 19, 20, 21, 22, 23], [0, 1, 2, 3, 4, 5, 6, 7, 8, 9, 10, 11, 12, 13, 14, 15, 16, 17, 18, 19, 20, 21, 22, 23, 24], [0, 1, 2, 3, 4, 5, 6, 7, 8, 9, 10, 11, 12, 13, 14, 15, 16, 17, 18, 19, 20, 21, 22, 23, 24, 25], [0, 1, 2, 3, 4, 5, 6, 7, 8, 9, 10, 11, 12, 13, 14, 15, 16, 17, 18, 19, 20, 21, 22, 23, 24, 25, 26], [0, 1, 2, 3, 4, 5, 6, 7, 8, 9, 10, 11, 12, 13, 14, 15, 16, 17, 18, 19, 20, 21, 22, 23, 24, 25, 26], [0, 1, 2, 3, 4, 5, 6, 7, 8, 9, 10, 11, 12, 13, 14, 15, 16, 17, 18, 19, 20, 21, 22, 23, 24, 25, 26], [0, 1, 2, 3, 4, 5, 6, 7, 8, 9, 10, 11, 12, 13, 14, 15, 16, 17, 18, 19, 20, 21, 22, 23, 24, 25, 26], [0, 1, 2, 3, 4, 5, 6, 7, 8, 9, 10, 11, 12, 13, 14, 15, 16, 17, 18, 19, 20, 21, 22, 23, 24, 25, 26, 29, 30], [0, 1, 2, 3, 4, 5, 6, 7, 8, 9, 10, 11, 12, 13, 14, 15, 16, 17, 18, 19, 20, 21, 22, 23, 24, 25, 26, 29, 30, 31], [0, 1, 2, 3, 4, 5, 6, 7, 8, 9, 10, 11, 12, 13, 14, 15, 16, 17, 18, 19, 20, 21, 22, 23, 24, 25, 26, 27, 28, 29, 30, 31, 32], [0, 1, 2, 3, 4, 5, 6, 7, 8, 9, 10, 11, 12, 13, 14, 15, 16, 17, 18, 19, 20, 21, 22, 23, 24, 25, 26, 27, 28, 29, 30, 31, 32, 33], [0, 1, 2, 3, 4, 5, 6, 7, 8, 9, 10, 11, 12, 13, 14, 15, 16, 17, 18, 19, 20, 21, 22, 23, 24, 25, 26, 27, 28, 29, 30, 31, 32, 33, 34], [0, 1, 2, 3, 4, 5, 6, 7, 8, 9, 10, 11, 12, 13, 14, 15, 16, 17, 18, 19, 20, 21, 22, 23, 24, 25, 26, 27, 28, 29, 30, 31, 32, 33, 34, 35]]) (lk [[], [], [], [], [], [], [], [], [], [], [], [46], [46], [46], [46], [], [], [], [], [], [], [], [], [], [], [], [], [], [], [], [], [], [], [], [], [], []]) (lk [[], [], [], [], [], [], [], [], [], [], [46], [], [], [], [], [51], [], [], [], [], [], [], [], [], [60], [], [], [], [], [], [], [], [], [69], [], [], []]) (by kernel_rfl) (fun | 46 => some <| .plain ⟨.d (strsD (touches l[i0])), true⟩ | 51 => some <| .plain ⟨.d (.bool (decide ((sharedL l a b)[i] ∈ touches l[i0]))), true⟩ | 60 => some <| .plain ⟨.d (.bool (decide (a ∈ aboveL l set[k]))), true⟩ | 69 => some <| .plain ⟨.d (.bool (decide (b ∈ aboveL l set[k]))), true⟩ | _ => none) (by intro d; first | exact ⟨rfl, fun _ h => h⟩ | (split <;> exact ⟨rfl, fun _ h => h⟩)) ?_
      simp [fc, hmx, hi0, h3, h7]
      refine ⟨⟨⟨⟨⟨⟨fun _ => Touches_ok _ (hs _ (List.getElem_mem hi0)).1 (hs _ (List.getElem_mem hi0)).2, fun _ => In_ok _ _⟩, fun _ _ => Before_ok l a _ hn⟩, fun z1 z2 => ⟨z1, z2⟩⟩, fun _ _ _ => Before_ok l b _ hn⟩, fun z1 z2 z3 => ⟨z1, z2, z3⟩⟩, ?_⟩
      refine LWp.reg hT hW (fun _ => none) (fun _ => ⟨rfl, fun _ h => h⟩) ?_
      simp
      refine ⟨by omega, ?_⟩
      refine loopQ.mk (k + 1, r || resolvedB l (sharedL l a b)[i] a b set[k]) (Weak.to [0, 1, 6, 7, 9, 10, 11, 12] [(6, 6), (7, 7)] (by decide) (by decide) (by simp [hp]) (by simp [resolvedB, ec]) (by simp)) ?_ ?_
      · refine ⟨h7, ?_⟩
        dsimp only
        rw [List.take_succ_eq_append_getElem h7, List.any_append, ← hi7.2]
        simp
      · omega
    · refine LWp.exit ?_
      simp
      refine LWp.seq ?_
      have hr : r = set.any (resolvedB l (sharedL l a b)[i] a b) := by rw [hi7.2, List.take_of_length_le (by omega)]
      refine LWp.reg hT hW (fun _ => none) (fun _ => ⟨rfl, fun _ h => h⟩) ?_
      simp
      refine LWp.iff ?_
      simp
      refine ⟨fun h11 => ?_, fun h11 => ?_⟩
      · refine LWp.seq ?_
        refine LWp.reg hT hW (fun _ => none) (fun _ => ⟨rfl, fun _ h => h⟩) ?_
        simp
        refine LWp.ret ?_
        simp
        exact List.any_eq_true.2 ⟨_, List.getElem_mem h3, by rw [hr] at h11; simpa using h11⟩
      · refine LWp.skip ?_
        simp
        refine LWp.reg hT hW (fun _ => none) (fun _ => ⟨rfl, fun _ h => h⟩) ?_
        simp
        refine ⟨by omega, ?_⟩
        refine loopQ.mk (i + 1) (Weak.to [0, 1, 6, 7, 9, 10] [(6, 6), (7, 7)] (by decide) (by decide) (by simp [hp]) (by simp) (by simp)) ?_ ?_
        · refine ⟨h3, hi3.2.succ h3 ?_⟩
          rw [hr] at h11
          simpa using h11
        · omega
  · refine LWp.exit ?_
    simp
    refine LWp.seq ?_
    refine LWp.reg hT hW (fun _ => none) (fun _ => ⟨rfl, fun _ h => h⟩) ?_
    simp
    refine LWp.ret ?_
    simp
    exact hi3.2.any h3

theorem dropD_len (L : List Df) (s : Str) : (dropD L s).length ≤ L.length := List.length_filter_le _ _
theorem putD_len (L : List Df) (d : Df) : (putD L d).length ≤ L.length + 1 := by
  have := dropD_len L d.name
  unfold putD
  rw [insAt_length]; omega

/-- culprit/culpritref22.Done -/
theorem Done_ok (L : List Df) (e : Ed) (hL : L.length ≤ 100000) (b1 : e.puts.length ≤ 100000) (b2 : e.drops.length ≤ 100000) : Ok Tryz.prog 42 [dfsD L, e.d] ⟨.d (dfsD (doneD L e)), false⟩ := by
  refine Ok.ret Tryz.func42 (by kernel_rfl) (c := _) rfl Tryz.ntmps42 (by simp) Tryz.results42 (by intro _ h; cases h) fun w0 X hp => ?_
  refine LWp.seq ?_
  refine LWp.reg hT hW (fun _ => none) (fun _ => ⟨rfl, fun _ h => h⟩) ?_
  simp
  refine LWp.seq ?_
  refine LWp.seq ?_
  refine LWp.reg hT hW (fun _ => none) (fun _ => ⟨rfl, fun _ h => h⟩) ?_
  simp
  refine LWp.block ?_
  refine LWp.loopW (ι := Nat × List Df) (fun ⟨i, M⟩ => mkEnv [(0, .d (dfsD M)), (3, .bx 3 0), (5, .d (I64 i))]) (fun ⟨i, M⟩ => mkObs [(3, .box false ((cellsD e.d).map .d))]) (fun ⟨i, M⟩ => i ≤ e.puts.length ∧ M.length ≤ L.length + i ∧ M = (e.puts.take i).foldl putD L) (fun ⟨i, M⟩ => e.puts.length - i) (0, L) (Weak.to [0, 3, 5] [(3, 3)] (by decide) (by decide) (by simp [hp]) (by simp) (by simp)) (by simp) fun ⟨i, M⟩ hi2 => ?_
  refine LWp.seq ?_
  refine LWp.seq ?_
  refine LWp.reg hT hW (fun _ => none) (fun _ => ⟨rfl, fun _ h => h⟩) ?_
  simp
  refine LWp.iff ?_
  simp
  refine ⟨fun h2 => ?_, fun h2 => ?_⟩
  · refine LWp.skip ?_
    simp
    refine LWp.seq ?_
    refine LWp.block ?_
    refine LWp.reg hT hW (fun | 20 => some <| .plain ⟨.d (dfsD (putD M e.puts[i])), true⟩ | _ => none) (by intro d; first | exact ⟨rfl, fun _ h => h⟩ | (split <;> exact ⟨rfl, fun _ h => h⟩)) ?_
    simp [h2]
    refine ⟨Put_ok M _ (by have := hi2.2.1; omega), ?_⟩
    refine LWp.reg hT hW (fun _ => none) (fun _ => ⟨rfl, fun _ h => h⟩) ?_
    simp
    refine ⟨by omega, ?_⟩
    refine loopQ.mk (i + 1, putD M e.puts[i]) (Weak.to [0, 3, 5] [(3, 3)] (by decide) (by decide) (by simp [hp]) (by simp) (by simp)) ?_ ?_
    · refine ⟨h2, by have := putD_len M e.puts[i]; have := hi2.2.1; dsimp only; omega, ?_⟩
      dsimp only
      rw [List.take_succ_eq_append_getElem h2, List.foldl_append, ← hi2.2.2]
      rfl
    · omega
  · refine LWp.exit ?_
    simp
    refine LWp.seq ?_
    refine LWp.seq ?_
    refine LWp.reg hT hW (fun _ => none) (fun _ => ⟨rfl, fun _ h => h⟩) ?_
    simp
    refine LWp.block ?_
    refine LWp.loopW (ι := Nat × List Df) (fun ⟨k, N⟩ => mkEnv [(0, .d (dfsD N)), (3, .bx 3 0), (6, .d (I64 k))]) (fun ⟨k, N⟩ => mkObs [(3, .box false ((cellsD e.d).map .d))]) (fun ⟨k, N⟩ => k ≤ e.drops.length ∧ N.length ≤ M.length ∧ N = (e.drops.take k).foldl dropD M) (fun ⟨k, N⟩ => e.drops.length - k) (0, M) (Weak.to [0, 3, 6] [(3, 3)] (by decide) (by decide) (by simp [hp]) (by simp) (by simp)) (by simp) fun ⟨k, N⟩ hi6 => ?_
    refine LWp.seq ?_
    refine LWp.seq ?_
    refine LWp.reg hT hW (fun _ => none) (fun _ => ⟨rfl, fun _ h => h⟩) ?_
    simp
    refine LWp.iff ?_
    simp
    refine ⟨fun h6 => ?_, fun h6 => ?_⟩
    · refine LWp.skip ?_
      simp
      refine LWp.seq ?_
      refine LWp.block ?_
      refine LWp.reg hT hW (fun | 34 => some <| .plain ⟨.d (dfsD (dropD N e.drops[k])), true⟩ | _ => none) (by intro d; first | exact ⟨rfl, fun _ h => h⟩ | (split <;> exact ⟨rfl, fun _ h => h⟩)) ?_
      simp [h6]
      refine ⟨Drop_ok N _ (by have := hi6.2.1; have := hi2.2.1; omega), ?_⟩
      refine LWp.reg hT hW (fun _ => none) (fun _ => ⟨rfl, fun _ h => h⟩) ?_
      simp
      refine ⟨by omega, ?_⟩
      refine loopQ.mk (k + 1, dropD N e.drops[k]) (Weak.to [0, 3, 6] [(3, 3)] (by decide) (by decide) (by simp [hp]) (by simp) (by simp)) ?_ ?_
      · refine ⟨h6, by have := dropD_len N e.drops[k]; have := hi6.2.1; dsimp only; omega, ?_⟩
        dsimp only
        rw [List.take_succ_eq_append_getElem h6, List.foldl_append, ← hi6.2.2]
        rfl
      · omega
    · refine LWp.exit ?_
      simp
      refine LWp.seq ?_
      refine LWp.reg hT hW (fun _ => none) (fun _ => ⟨rfl, fun _ h => h⟩) ?_
      simp
      refine LWp.ret ?_
      have e1 : N = doneD L e := by
        have h1 := hi2.2.2
        have h2 := hi6.2.2
        rw [List.take_of_length_le (by omega)] at h1 h2
        rw [h2, h1]; rfl
      simp [e1]

end Go.Eng

/-
  Chapter 22: the reference model's Base and Program. No condition.
-/
namespace Go.Eng
open Go.Proofs
attribute [local simp] runL stepL evalG evalOp opLV constLV putEnv dstOk upd upds Res.plain Res.cond Res.fail evalBin evalUn seqQ blockQ argsEnv lookL lookH RetIs memless freshL evalPick evalMin bval bok evalLen evalIn strip whenC guardOps guardC slotsOf
  runM foldS stepI stepM maskE wrIn lk renO lookN evalCall evalCallee optAll resLV resObj retLV retObj retsLV retsObj evalLoad evalIndexAddr evalField solid cellsD_agg cellsD_int cellsD_bool cellsD_str cellsD_sl cellsD_ro cellsD_fn cellsL_agg cellsL_dagg cellsL_int cellsL_bool cellsL_str cellsL_sl cellsL_fn cellsL_ow cellsL_bx cellsL_lfn cellsL_nl takeL takeD mkAgg allD eqD eqDs kindsAre kindIs LObj.live TK.isNone TK.agg TK.isBool TK.isStr TK.isStruct Op.operands Call.operands
  evalBuildSlice evalAppend elemsOf evalStore evalBuild fillL lookupF putL evalSlice bound evalConv elemsS freezes frozen loadR
  mkEnv_at mkObs_at close_d close_agg close_ow close_bx close_fn close_nl touch_d touch_agg touch_ow touch_bx touch_fn touch_nl ren_d ren_agg ren_bx ren_rp ren_ow ren_fn ren_nl ren_junk retQ_ret retQ2_ret condQ_bool Nm.d Df.d Ed.d nmsD dfsD strsD edsD retC_ret nm_eq df_eq take_map_len take_map_app
  nm_t nm_d nm_td df_t df_d df_td str_t str_d str_td ed_t ed_d ed_td
  evalAppendIn evalCut evalClear evalCopy evalMake evalWrap evalCap evalNil isNilC lenL isInp gorc
  mapOf findD keyEq keyOk evalMakeMap evalRange zeroD zeroDV argsG shutG outN lenv retG0_ret retG0_normal retG1_ret renO close_mp touch_mp ren_mp optAll_d optAll_d' touch_ds cellsL_mp cellsD_mp cellsL_dmp

theorem base_names : ∀ a, a < 7 → ((List.range 5).map fun j : Nat => nameS (((j + a) % 5 : Nat) : Int)).Nodup := by decide
theorem defD_name (k v : Int) : (defD k v).name = nameS k := rfl
theorem i64_range (x : Int) : -9223372036854775808 ≤ IntKind.i64.wrap x ∧ IntKind.i64.wrap x ≤ 9223372036854775807 := by
  unfold IntKind.wrap
  simp [IntKind.bits, IntKind.signed]
  split <;> omega

/-- The definitions that are made of a number. -/
def baseTo (n : Int) : Nat → List Df
  | 0 => []
  | i + 1 => baseTo n i ++ if ((around n 1024).fdiv (2 ^ ((i + (around n 7).toNat) % 5))).tmod 2 = 1 then [defD (((i + (around n 7).toNat) % 5 : Nat) : Int) (IntKind.i64.wrap (n + (((i + (around n 7).toNat) % 5 : Nat) : Int)))] else []
def baseL (n : Int) : List Df := baseTo n 5
theorem baseTo_len (n : Int) : ∀ i, (baseTo n i).length ≤ i
  | 0 => Nat.le_refl _
  | i + 1 => by
    have := baseTo_len n i
    simp only [baseTo, List.length_append]
    split <;> simp <;> omega
theorem baseL_len (n : Int) : (baseL n).length ≤ 5 := baseTo_len n 5
theorem baseTo_names (n : Int) : ∀ i, ((baseTo n i).map Df.name).Sublist ((List.range i).map fun j : Nat => nameS (((j + (around n 7).toNat) % 5 : Nat) : Int))
  | 0 => by simp [baseTo]
  | i + 1 => by
    rw [baseTo, List.range_succ, List.map_append, List.map_append]
    refine List.Sublist.append (baseTo_names n i) ?_
    split
    · simp [defD_name]
    · simp
theorem baseL_nodup (n : Int) : ((baseL n).map Df.name).Nodup := by
  have := (around_lt n 7 (by decide)).2
  exact (base_names (around n 7).toNat (by omega)).sublist (baseTo_names n 5)

/-- culprit/culpritref22.Base -/
theorem Base_own (n : Int) (h1 : -9223372036854775808 ≤ n) (h2 : n ≤ 9223372036854775807) : Ok Tryz.prog 29 [I64 n] ⟨.own 2 ((baseL n).map Df.d), true⟩ := by
  refine Ok.ret Tryz.func29 (by kernel_rfl) (c := _) rfl Tryz.ntmps29 (by simp) Tryz.results29 (by intro _ h; cases h) fun w0 X hp => ?_
  obtain ⟨z1, z2⟩ := around_lt n 7 (by decide)
  obtain ⟨a0, ha0⟩ : ∃ a0 : Nat, (a0 : Int) = around n 7 := ⟨(around n 7).toNat, by omega⟩
  have hat : (around n 7).toNat = a0 := by omega
  refine LWp.seq ?_
  refine LWp.reg hT hW (fun _ => none) (fun _ => ⟨rfl, fun _ h => h⟩) ?_
  simp
  refine LWp.seq ?_
  refine LWp.reg hT hW (fun _ => none) (fun _ => ⟨rfl, fun _ h => h⟩) ?_
  simp
  refine LWp.seq ?_
  refine LWp.seq ?_
  refine LWp.reg hT hW (fun _ => none) (fun _ => ⟨rfl, fun _ h => h⟩) ?_
  simp
  refine LWp.block ?_
  refine LWp.loopW (ι := Nat) (fun i => mkEnv [(0, .d (I64 n)), (3, .ow 3 0 (baseTo n i).length), (4, .d (I64 i))]) (fun i => mkObs [(3, .row false 2 ((baseTo n i).map Df.d))]) (fun i => i ≤ 5) (fun i => 5 - i) 0 (Weak.to [0, 3, 4] [(3, 3)] (by decide) (by decide) (by simp [hp]) (by simp [baseTo]) (by simp [baseTo])) (by simp) fun i hi3 => ?_
  refine LWp.seq ?_
  refine LWp.seq ?_
  refine LWp.reg hT hW (fun _ => none) (fun _ => ⟨rfl, fun _ h => h⟩) ?_
  simp
  refine LWp.iff ?_
  simp
  refine ⟨fun h3 => ?_, fun h3 => ?_⟩
  · refine LWp.skip ?_
    simp
    refine LWp.seq ?_
    refine LWp.block ?_
    refine LWp.seq ?_
    obtain ⟨k0, hk0⟩ : ∃ k0, k0 = (i + a0) % 5 := ⟨_, rfl⟩
    have hkm : ((i : Int) + (a0 : Int)).tmod 5 = (k0 : Int) := by rw [hk0]; rfl
    have hk5 : k0 < 5 := by rw [hk0]; exact Nat.mod_lt _ (by decide)
    have hkw := u64_nat (k := k0) (by omega)
    have hk64 : min k0 64 = k0 := by omega
    have hbl := baseTo_len n i
    have hbe : baseTo n (i + 1) = baseTo n i ++ if ((around n 1024).fdiv (2 ^ k0)).tmod 2 = 1 then [defD (k0 : Int) (IntKind.i64.wrap (n + k0))] else [] := by rw [baseTo, hat, ← hk0]
    refine LWp.reg hT hW (fun | 12 => some <| .plain ⟨.d (I64 a0), true⟩ | _ => none) (by intro d; first | exact ⟨rfl, fun _ h => h⟩ | (split <;> exact ⟨rfl, fun _ h => h⟩)) ?_
    simp [hkm]
    refine ⟨⟨by rw [ha0]; exact Around_ok n 7 h1 h2 (by decide), by omega⟩, ?_⟩
    refine LWp.seq ?_
    refine LWp.reg hT hW (fun | 16 => some <| .plain ⟨.d (I64 (around n 1024)), true⟩ | _ => none) (by intro d; first | exact ⟨rfl, fun _ h => h⟩ | (split <;> exact ⟨rfl, fun _ h => h⟩)) ?_
    simp [hkw, IntKind.bits, hk64]
    refine ⟨Around_ok n 1024 h1 h2 (by decide), ?_⟩
    refine LWp.iff ?_
    simp
    refine ⟨fun h6 => ?_, fun h6 => ?_⟩
    · have hbn : baseTo n (i + 1) = baseTo n i ++ [defD (k0 : Int) (IntKind.i64.wrap (n + k0))] := by rw [hbe, if_pos h6]
      obtain ⟨w1, w2⟩ := i64_range (n + k0)
      refine LWp.reg hT hW (fun | 26 => some .wrap | 27 => some <| .plain ⟨.d (defD (k0 : Int) (IntKind.i64.wrap (n + k0))).d, true⟩ | _ => none) (by intro d; first | exact ⟨rfl, fun _ h => h⟩ | (split <;> exact ⟨rfl, fun _ h => h⟩)) ?_
      simp
      refine ⟨⟨by simpa [Df.d] using def_ok (k0 : Int) (IntKind.i64.wrap (n + k0)) (by omega) (by omega) w1 w2, by omega⟩, ?_⟩
      refine LWp.reg hT hW (fun _ => none) (fun _ => ⟨rfl, fun _ h => h⟩) ?_
      simp
      refine ⟨by omega, ?_⟩
      refine loopQ.mk (i + 1) (Weak.to [0, 3, 4] [(29, 3)] (by decide) (by decide) (by simp [hp]) (by simp [hbn]) (by simp [hbn])) ?_ ?_
      · omega
      · omega
    · have hbn : baseTo n (i + 1) = baseTo n i := by rw [hbe, if_neg h6, List.append_nil]
      refine LWp.skip ?_
      simp
      refine LWp.reg hT hW (fun _ => none) (fun _ => ⟨rfl, fun _ h => h⟩) ?_
      simp
      refine ⟨by omega, ?_⟩
      refine loopQ.mk (i + 1) (Weak.to [0, 3, 4] [(3, 3)] (by decide) (by decide) (by simp [hp]) (by simp [hbn]) (by simp [hbn])) ?_ ?_
      · omega
      · omega
  · refine LWp.exit ?_
    simp
    refine LWp.seq ?_
    refine LWp.reg hT hW (fun _ => none) (fun _ => ⟨rfl, fun _ h => h⟩) ?_
    simp
    refine LWp.ret ?_
    have hi5 : i = 5 := by omega
    subst hi5
    simp [baseL]

theorem Base_ok (n : Int) (h1 : -9223372036854775808 ≤ n) (h2 : n ≤ 9223372036854775807) : Ok Tryz.prog 29 [I64 n] ⟨.d (dfsD (baseL n)), true⟩ := (Base_own n h1 h2).own_d
theorem baseD_next {base L : List Df} {i : Nat} (h : i < base.length) (e : (dropD L base[i].name).length = L.length) : baseD L (base.drop i) = baseD (putD L base[i]) (base.drop (i + 1)) := by
  rw [List.drop_eq_getElem_cons h]
  simp [baseD, dropD_same.1 e]
theorem baseD_twice {base L : List Df} {i : Nat} (h : i < base.length) (e : (dropD L base[i].name).length ≠ L.length) : baseD L (base.drop i) = none := by
  rw [List.drop_eq_getElem_cons h]
  have : (L.any fun x => decide (x.name = base[i].name)) = true := by
    cases q : L.any fun x => decide (x.name = base[i].name) with
    | true => rfl
    | false => exact absurd (dropD_same.2 q) e
  simp [baseD, this]
theorem puts_len : ∀ (ps : List Df) (L : List Df), (ps.foldl putD L).length ≤ L.length + ps.length
  | [], L => by simp
  | d :: ps, L => by
    have := puts_len ps (putD L d)
    have := putD_len L d
    simp only [List.foldl_cons, List.length_cons]; omega
theorem drops_len : ∀ (ds : List Str) (L : List Df), (ds.foldl dropD L).length ≤ L.length
  | [], L => Nat.le_refl _
  | d :: ds, L => Nat.le_trans (drops_len ds (dropD L d)) (dropD_len L d)
theorem doneD_len (L : List Df) (e : Ed) : (doneD L e).length ≤ L.length + e.puts.length := Nat.le_trans (drops_len _ _) (puts_len _ _)

/-- culprit/culpritref22.Program -/
theorem Program_ok (base : List Df) (l : List Ed) (set : List Nm) (hs : small l) (hn : (allNeeds l).length ≤ 1000000) (hb : base.length ≤ 1000) (hl : set.length ≤ 1000) : Ok Tryz.prog 33 [dfsD base, edsD l, nmsD set] ⟨.tup [.d (dfsD (programV base l set).1), .d (I64 (programV base l set).2)], false⟩ := by
  refine Ok.two Tryz.func33 (by kernel_rfl) (c := _) rfl Tryz.ntmps33 (by simp) Tryz.results33 rfl fun w0 X hp => ?_
  refine LWp.seq ?_
  refine LWp.reg hT hW (fun _ => none) (fun _ => ⟨rfl, fun _ h => h⟩) ?_
  simp
  refine LWp.seq ?_
  refine LWp.reg hT hW (fun | 19 => some <| .plain ⟨.tup [.d (I64 (validV l).1), .d (I64 (validV l).2)], true⟩ | _ => none) (by intro d; first | exact ⟨rfl, fun _ h => h⟩ | (split <;> exact ⟨rfl, fun _ h => h⟩)) ?_
  simp [evalExtract]
  refine ⟨Valid_ok l hs hn, ?_⟩
  refine LWp.seq ?_
  refine LWp.seq ?_
  refine LWp.reg hT hW (fun _ => none) (fun _ => ⟨rfl, fun _ h => h⟩) ?_
  simp
  refine LWp.iff ?_
  simp
  refine ⟨fun h2 => ?_, fun h2 => ?_⟩
  · refine LWp.seq ?_
    refine LWp.reg hT hW (fun _ => none) (fun _ => ⟨rfl, fun _ h => h⟩) ?_
    simp
    refine LWp.ret ?_
    have e : programV base l set = ([], (validV l).2) := by unfold programV; rw [if_pos h2]
    simp [e]
  · have hv0 : (validV l).2 = 0 := by simpa using h2
    refine LWp.skip ?_
    simp
    refine LWp.seq ?_
    refine LWp.reg hT hW (fun _ => none) (fun _ => ⟨rfl, fun _ h => h⟩) ?_
    simp
    refine LWp.weak (Weak.close 10 (x := dfsD []) (by simp)) ?_
    refine LWp.seq ?_
    refine LWp.seq ?_
    refine LWp.reg hT hW (fun _ => none) (fun _ => ⟨rfl, fun _ h => h⟩) ?_
    simp
    refine LWp.block ?_
    refine LWp.loopW (ι := Nat × List Df) (fun ⟨i, L⟩ => mkEnv [(0, .d (dfsD base)), (1, .d (edsD l)), (2, .d (nmsD set)), (10, .d (dfsD L)), (11, .d (I64 i))]) (fun ⟨i, L⟩ => mkObs []) (fun ⟨i, L⟩ => i ≤ base.length ∧ L.length ≤ i ∧ baseD [] base = baseD L (base.drop i)) (fun ⟨i, L⟩ => base.length - i) (0, []) (Weak.to [0, 1, 2, 10, 11] [] (by decide) (by decide) (by simp [hp]) (by simp) (by simp)) (by simp) fun ⟨i, L⟩ hi6 => ?_
    refine LWp.seq ?_
    refine LWp.seq ?_
    refine LWp.reg hT hW (fun _ => none) (fun _ => ⟨rfl, fun _ h => h⟩) ?_
    simp
    refine LWp.iff ?_
    simp
    refine ⟨fun h6 => ?_, fun h6 => ?_⟩
    · refine LWp.skip ?_
      simp
      refine LWp.seq ?_
      refine LWp.block ?_
      refine LWp.seq ?_
      refine LWp.seq ?_
      refine LWp.reg hT hW (fun | 37 => some <| .plain ⟨.d (dfsD (dropD L base[i].name)), true⟩ | _ => none) (by intro d; first | exact ⟨rfl, fun _ h => h⟩ | (split <;> exact ⟨rfl, fun _ h => h⟩)) ?_
      simp [h6]
      refine ⟨Drop_ok L _ (by have := hi6.2.1; omega), ?_⟩
      refine LWp.iff ?_
      simp
      refine ⟨fun h8 => ?_, fun h8 => ?_⟩
      · refine LWp.seq ?_
        refine LWp.reg hT hW (fun _ => none) (fun _ => ⟨rfl, fun _ h => h⟩) ?_
        simp
        refine LWp.ret ?_
        have e : programV base l set = ([], 7) := by unfold programV; rw [if_neg (by simpa using hv0), hi6.2.2, baseD_twice h6 (by omega)]
        simp [e]
      · refine LWp.skip ?_
        simp
        refine LWp.reg hT hW (fun | 47 => some <| .plain ⟨.d (dfsD (putD L base[i])), true⟩ | _ => none) (by intro d; first | exact ⟨rfl, fun _ h => h⟩ | (split <;> exact ⟨rfl, fun _ h => h⟩)) ?_
        simp [h6]
        refine ⟨Put_ok L _ (by have := hi6.2.1; omega), ?_⟩
        refine LWp.reg hT hW (fun _ => none) (fun _ => ⟨rfl, fun _ h => h⟩) ?_
        simp
        refine ⟨by omega, ?_⟩
        refine loopQ.mk (i + 1, putD L base[i]) (Weak.to [0, 1, 2, 10, 11] [] (by decide) (by decide) (by simp [hp]) (by simp) (by simp)) ?_ ?_
        · refine ⟨h6, by have := putD_len L base[i]; have := hi6.2.1; dsimp only; omega, ?_⟩
          dsimp only
          rw [hi6.2.2, baseD_next h6 (by omega)]
        · omega
    · refine LWp.exit ?_
      simp
      refine LWp.seq ?_
      have hbs : baseD [] base = some L := by rw [hi6.2.2, List.drop_eq_nil_of_le (by omega)]; rfl
      refine LWp.reg hT hW (fun | 51 => some <| .plain ⟨.tup [.d (nmsD (orderV l set).1), .d (I64 (orderV l set).2)], true⟩ | _ => none) (by intro d; first | exact ⟨rfl, fun _ h => h⟩ | (split <;> exact ⟨rfl, fun _ h => h⟩)) ?_
      simp [evalExtract]
      refine ⟨Order_ok l set hs hn (by omega), ?_⟩
      refine LWp.seq ?_
      refine LWp.seq ?_
      refine LWp.reg hT hW (fun _ => none) (fun _ => ⟨rfl, fun _ h => h⟩) ?_
      simp
      refine LWp.iff ?_
      simp
      refine ⟨fun h12 => ?_, fun h12 => ?_⟩
      · refine LWp.seq ?_
        refine LWp.reg hT hW (fun _ => none) (fun _ => ⟨rfl, fun _ h => h⟩) ?_
        simp
        refine LWp.ret ?_
        have e : programV base l set = ([], (orderV l set).2) := by
          have h0 : closedB l set = false := by
            cases q : closedB l set with
            | false => rfl
            | true => simp [orderV, hv0, q] at h12
          unfold programV
          rw [if_neg (by simpa using hv0), hbs]
          simp [h0, orderV, hv0]
        simp [e]
      · have hcl : closedB l set = true := by
          cases q : closedB l set with
          | true => rfl
          | false => simp [orderV, hv0, q] at h12
        have hov : orderV l set = (orderN l set, 0) := by simp [orderV, hv0, hcl]
        obtain ⟨names, hnames⟩ : ∃ names, names = orderN l set := ⟨_, rfl⟩
        have hnl : names.length ≤ 1000 := by rw [hnames]; exact Nat.le_trans (orderN_len l set) hl
        have hfound : ∀ n ∈ names, 0 ≤ findI l n := fun n hn => (closedB_iff.1 hcl n (orderN_sub hn (by rw [← hnames]))).1
        rw [hov, ← hnames]
        refine LWp.skip ?_
        simp
        refine LWp.seq ?_
        refine LWp.seq ?_
        refine LWp.reg hT hW (fun _ => none) (fun _ => ⟨rfl, fun _ h => h⟩) ?_
        simp
        refine LWp.block ?_
        refine LWp.loopW (ι := Nat) (fun j => mkEnv [(1, .d (edsD l)), (2, .d (nmsD set)), (10, .d (dfsD L)), (12, .d (nmsD names)), (14, .d (I64 j))]) (fun j => mkObs []) (fun j => j ≤ names.length ∧ NoClash l set names j) (fun j => names.length - j) 0 (Weak.to [1, 2, 10, 12, 14] [] (by decide) (by decide) (by simp [hp]) (by simp) (by simp)) (⟨Nat.zero_le _, fun _ h => absurd h (Nat.not_lt_zero _)⟩) fun j hi15 => ?_
        refine LWp.seq ?_
        refine LWp.seq ?_
        refine LWp.reg hT hW (fun _ => none) (fun _ => ⟨rfl, fun _ h => h⟩) ?_
        simp
        refine LWp.iff ?_
        simp
        refine ⟨fun h15 => ?_, fun h15 => ?_⟩
        · refine LWp.skip ?_
          simp
          refine LWp.seq ?_
          refine LWp.block ?_
          refine LWp.seq ?_
          refine LWp.reg hT hW (fun _ => none) (fun _ => ⟨rfl, fun _ h => h⟩) ?_
          simp
          refine LWp.block ?_
          refine LWp.loopW (ι := Nat) (fun k => mkEnv [(1, .d (edsD l)), (2, .d (nmsD set)), (10, .d (dfsD L)), (12, .d (nmsD names)), (14, .d (I64 j)), (15, .d (I64 k))]) (fun k => mkObs []) (fun k => k ≤ j ∧ Pre (fun a => clashB l set a names[j]) names k) (fun k => j - k) 0 (Weak.to [1, 2, 10, 12, 14, 15] [] (by decide) (by decide) (by simp [hp]) (by simp) (by simp)) (⟨Nat.zero_le _, Pre.zero⟩) fun k hi18 => ?_
          refine LWp.seq ?_
          refine LWp.seq ?_
          refine LWp.reg hT hW (fun _ => none) (fun _ => ⟨rfl, fun _ h => h⟩) ?_
          simp
          refine LWp.iff ?_
          simp
          refine ⟨fun h18 => ?_, fun h18 => ?_⟩
          · refine LWp.skip ?_
            simp
            refine LWp.seq ?_
            refine LWp.block ?_
            refine LWp.seq ?_
            have hkn : k < names.length := by omega
            refine LWp.regAny hT hW hMixed (lk [[], [], [], [], [2, 3], [2, 3, 4], [], [], [6, 7], [6, 7, 8], [0, 1, 2, 3, 4, 5, 6, 7, 8, 9]]) (lk [[], [], [], [], [], [], [], [], [], [], []]) (lk [[], [], [], [], [], [], [], [], [], [], [78]]) (by kernel_rfl) (fun | 78 => some <| .plain ⟨.d (.bool (clashB l set names[k] names[j])), true⟩ | _ => none) (by intro d; first | exact ⟨rfl, fun _ h => h⟩ | (split <;> exact ⟨rfl, fun _ h => h⟩)) ?_
            simp [h15, hkn]
            refine ⟨by rw [clashB_comm]; exact Clash_ok l set _ _ hs hn (fun c hc => (closedB_iff.1 hcl c hc).1) (by omega), ?_⟩
            refine LWp.iff ?_
            simp
            refine ⟨fun h20 => ?_, fun h20 => ?_⟩
            · refine LWp.seq ?_
              refine LWp.reg hT hW (fun _ => none) (fun _ => ⟨rfl, fun _ h => h⟩) ?_
              simp
              refine LWp.ret ?_
              have hc : clashAny l set (orderN l set) = true := by rw [← hnames]; exact clashAny_yes h15 (by omega) h20
              have e : programV base l set = ([], 14) := by unfold programV; rw [if_neg (by simpa using hv0), hbs]; simp [hcl, hc]
              simp [e]
            · refine LWp.skip ?_
              simp
              refine LWp.reg hT hW (fun _ => none) (fun _ => ⟨rfl, fun _ h => h⟩) ?_
              simp
              refine ⟨by omega, ?_⟩
              refine loopQ.mk (k + 1) (Weak.to [1, 2, 10, 12, 14, 15] [] (by decide) (by decide) (by simp [hp]) (by simp) (by simp)) ?_ ?_
              · exact ⟨h18, hi18.2.succ (by omega) (by simpa using h20)⟩
              · omega
          · refine LWp.exit ?_
            simp
            refine LWp.reg hT hW (fun _ => none) (fun _ => ⟨rfl, fun _ h => h⟩) ?_
            simp
            refine ⟨by omega, ?_⟩
            refine loopQ.mk (j + 1) (Weak.to [1, 2, 10, 12, 14] [] (by decide) (by decide) (by simp [hp]) (by simp) (by simp)) ?_ ?_
            · exact ⟨h15, hi15.2.step h15 (fun q hq hqj => hi18.2 q hq (by omega))⟩
            · omega
        · refine LWp.exit ?_
          simp
          refine LWp.seq ?_
          refine LWp.seq ?_
          refine LWp.reg hT hW (fun _ => none) (fun _ => ⟨rfl, fun _ h => h⟩) ?_
          simp
          refine LWp.block ?_
          refine LWp.loopW (ι := Nat × List Df) (fun ⟨q, M⟩ => mkEnv [(1, .d (edsD l)), (10, .d (dfsD M)), (12, .d (nmsD names)), (16, .d (I64 q))]) (fun ⟨q, M⟩ => mkObs []) (fun ⟨q, M⟩ => q ≤ names.length ∧ M.length ≤ base.length + q * 24 ∧ M = madeOf l (names.take q) L) (fun ⟨q, M⟩ => names.length - q) (0, L) (Weak.to [1, 10, 12, 16] [] (by decide) (by decide) (by simp [hp]) (by simp) (by simp)) (⟨Nat.zero_le _, by have := hi6.2.1; simp; omega, rfl⟩) fun ⟨q, M⟩ hi23 => ?_
          refine LWp.seq ?_
          refine LWp.seq ?_
          refine LWp.reg hT hW (fun _ => none) (fun _ => ⟨rfl, fun _ h => h⟩) ?_
          simp
          refine LWp.iff ?_
          simp
          refine ⟨fun h23 => ?_, fun h23 => ?_⟩
          · refine LWp.skip ?_
            simp
            refine LWp.seq ?_
            refine LWp.block ?_
            obtain ⟨i0, hi0, hfe, hee⟩ := edAt_of (hfound names[q] (List.getElem_mem h23))
            have hpl := proper_len (errE_zero ((valid_err hv0).2 i0 hi0)).1
            have hmx : (if (i0 : Int) < 0 then (0 : Int) else (i0 : Int)) = (i0 : Int) := if_neg (by omega)
            have hq24 : q * 24 ≤ 1000 * 24 := Nat.mul_le_mul_right _ (by omega)
            refine LWp.reg hT hW (fun | 92 => some <| .plain ⟨.d (I64 i0), true⟩ | 96 => some <| .plain ⟨.d (dfsD (doneD M l[i0])), false⟩ | _ => none) (by intro d; first | exact ⟨rfl, fun _ h => h⟩ | (split <;> exact ⟨rfl, fun _ h => h⟩)) ?_
            simp [h23, hmx, hi0]
            refine ⟨⟨by rw [← hfe]; exact Find_ok l names[q], Done_ok M l[i0] (by have := hi23.2.1; omega) (by omega) (by omega)⟩, ?_⟩
            refine LWp.reg hT hW (fun _ => none) (fun _ => ⟨rfl, fun _ h => h⟩) ?_
            simp
            refine ⟨by omega, ?_⟩
            refine loopQ.mk (q + 1, doneD M l[i0]) (Weak.to [1, 10, 12, 16] [] (by decide) (by decide) (by simp [hp]) (by simp) (by simp)) ?_ ?_
            · refine ⟨h23, by have := doneD_len M l[i0]; have := hi23.2.1; dsimp only; omega, ?_⟩
              dsimp only
              rw [List.take_succ_eq_append_getElem h23, madeOf_snoc, ← hi23.2.2, hee]
            · omega
          · refine LWp.exit ?_
            simp
            refine LWp.seq ?_
            refine LWp.reg hT hW (fun _ => none) (fun _ => ⟨rfl, fun _ h => h⟩) ?_
            simp
            refine LWp.ret ?_
            have hnc : clashAny l set (orderN l set) = false := by rw [← hnames]; exact clashAny_no (by have := hi15.1; rw [show names.length = j by omega]; exact hi15.2)
            have e : programV base l set = (M, 0) := by
              rw [programV_ok hv0 hbs hcl, hnc, hi23.2.2, List.take_of_length_le (by omega), hnames]
              rfl
            simp [e]

end Go.Eng
