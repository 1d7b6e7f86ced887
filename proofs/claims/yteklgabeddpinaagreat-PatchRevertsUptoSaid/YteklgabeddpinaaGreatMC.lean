/-
  Texts of the proofs of this seat, part 3. No condition.
-/
import Derived.Test.YteklgabeddpinaaGreatMB
set_option linter.unusedVariables false
set_option linter.unusedSimpArgs false
namespace Go.Eng
open Go.RowKit
def constEq : Value → Value → Bool
  | .bool a, .bool b => a == b
  | .int j a, .int k b => j == k && a == b
  | .string a, .string b => a.data.toList == b.data.toList
  | .slice none 0 0, .slice none 0 0 => true
  | .pointer none, .pointer none => true
  | .map none, .map none => true
  | .nilFunc, .nilFunc => true
  | .nilIface, .nilIface => true
  | _, _ => false
theorem constEq_eq {a b : Value} (h : constEq a b = true) : a = b := by
  unfold constEq at h
  split at h
  · simp only [beq_iff_eq] at h; rw [h]
  · simp only [Bool.and_eq_true, beq_iff_eq] at h; rw [h.1, h.2]
  · rename_i a b
    simp only [beq_iff_eq] at h
    have := congrArg (fun l : List UInt8 => (⟨l.toArray⟩ : ByteArray)) h
    simp only [str_bytes] at this
    rw [this]
  all_goals first | rfl | cases h
def constsEq : List Value → List Value → Bool
  | [], [] => true
  | a :: x, b :: y => constEq a b && constsEq x y
  | _, _ => false
theorem constsEq_eq : ∀ {x y : List Value}, constsEq x y = true → x = y
  | [], [], _ => rfl
  | a :: x, b :: y, h => by simp only [constsEq, Bool.and_eq_true] at h; rw [constEq_eq h.1, constsEq_eq h.2]
  | [], _ :: _, h => by cases h
  | _ :: _, [], h => by cases h
def fieldsEq : List Field → List (Nat × TypeId) → Bool
  | [], [] => true
  | f :: x, p :: y => f.offset == p.1 && f.type == p.2 && fieldsEq x y
  | _, _ => false
theorem fieldsEq_eq : ∀ {x : List Field} {y : List (Nat × TypeId)}, fieldsEq x y = true → x.map (fun f => (f.offset, f.type)) = y
  | [], [], _ => rfl
  | f :: x, p :: y, h => by
    simp only [fieldsEq, Bool.and_eq_true, beq_iff_eq] at h
    simp only [List.map_cons]
    rw [fieldsEq_eq h.2, h.1.1, h.1.2]
  | [], _ :: _, h => by cases h
  | _ :: _, [], h => by cases h
def tkB : TypeDesc → TK → Bool
  | .int k, .int k' => k == k'
  | .bool, .bool => true
  | .string, .str => true
  | .slice e, .slice e' => e == e'
  | .struct fs, .struct l => fieldsEq fs.toList l
  | .array n e, .arr n' e' => n == n' && e == e'
  | .pointer e, .ptr e' => e == e'
  | .map k e, .map k' e' => k == k' && e == e'
  | .map _ _, .other => true
  | .func _ _ _, .other => true
  | .interface _, .other => true
  | .tuple _, .other => true
  | _, _ => false
theorem tkB_ok {d : TypeDesc} {k : TK} (h : tkB d k = true) : TKOk d k := by
  unfold tkB at h
  split at h <;> simp only [TKOk]
  · simpa using h
  · simpa using h
  · exact fieldsEq_eq h
  · simpa using h
  · simpa using h
  · simpa using h
  · cases h
def simpleB (P : Program) (t : TypeId) : TK → Bool
  | .int k => match P.underlying t with | some (.int k') => k == k' | _ => false
  | .bool => match P.underlying t with | some .bool => true | _ => false
  | .str => match P.underlying t with | some .string => true | _ => false
  | _ => false
theorem simpleB_ok {P : Program} {t : TypeId} {k : TK} (h : simpleB P t k = true) : simpleTy P t k := by
  cases k <;> simp only [simpleB] at h <;> simp only [simpleTy] <;> first | (cases h; done) | skip
  all_goals (split at h <;> first | (cases h; done) | skip)
  · rename_i e; simp only [beq_iff_eq] at h; rw [e, h]
  · rename_i e; exact e
  · rename_i e; exact e
def eqFieldsB (P : Program) : Nat → List Field → List TK → Bool
  | _, [], [] => true
  | j, f :: x, k :: y => f.name != "_" && f.offset == j && simpleB P f.type k && eqFieldsB P (j + 1) x y
  | _, _, _ => false
theorem eqFieldsB_ok {P : Program} : ∀ {j : Nat} {x : List Field} {y : List TK}, eqFieldsB P j x y = true → x.length = y.length ∧ ∀ (i : Nat) (f : Field) (k : TK), x[i]? = some f → y[i]? = some k → f.name ≠ "_" ∧ f.offset = j + i ∧ simpleTy P f.type k
  | _, [], [], _ => ⟨rfl, by simp⟩
  | j, f :: x, k :: y, h => by
    simp only [eqFieldsB, Bool.and_eq_true, bne_iff_ne, beq_iff_eq] at h
    obtain ⟨h1, h2⟩ := eqFieldsB_ok h.2
    refine ⟨by simp [h1], fun i f' k' hf hk => ?_⟩
    cases i with
    | zero => simp at hf hk; subst hf; subst hk; exact ⟨h.1.1.1, by simpa using h.1.1.2, simpleB_ok h.1.2⟩
    | succ i =>
      have := h2 i f' k' (by simpa using hf) (by simpa using hk)
      exact ⟨this.1, by rw [this.2.1]; omega, this.2.2⟩
  | _, [], _ :: _, h => by cases h
  | _, _ :: _, [], h => by cases h
def eqB (P : Program) (t : TypeId) (d : TypeDesc) (ks : List TK) : Bool := match d with
  | .struct fs => !P.stoodInHeld t && eqFieldsB P 0 fs.toList ks
  | .array n e => match P.info? e, P.underlying e with
    | some inf, some (.struct fs) => !P.stoodInHeld e && eqFieldsB P 0 fs.toList (ks.take inf.size) && inf.size == (ks.take inf.size).length && ks == (List.replicate n (ks.take inf.size)).flatten
    | _, _ => false
  | _ => false
theorem eqB_ok {P : Program} {t : TypeId} {d : TypeDesc} {ks : List TK} (hd : P.underlying t = some d) (h : eqB P t d ks = true) : StructEq P t ks ∨ ArrEq P t ks := by
  unfold eqB at h
  split at h
  · rename_i fs
    simp only [Bool.and_eq_true, Bool.not_eq_true'] at h
    obtain ⟨c1, c2⟩ := eqFieldsB_ok h.2
    exact .inl ⟨h.1, fs, hd, c1, fun j f k hf hk => by simpa using c2 j f k hf hk⟩
  · rename_i n e
    split at h
    · rename_i inf fs h1 h2
      simp only [Bool.and_eq_true, Bool.not_eq_true', beq_iff_eq] at h
      obtain ⟨⟨⟨a1, a2⟩, a3⟩, a4⟩ := h
      obtain ⟨c1, c2⟩ := eqFieldsB_ok a2
      exact .inr ⟨n, e, inf, ks.take inf.size, hd, h1, a3, ⟨a1, fs, h2, c1, fun j f k hf hk => by simpa using c2 j f k hf hk⟩, a4⟩
    · cases h
  · cases h
def zvB (agg : Bool) (zero : List Value) : Value → Bool
  | .agg _ => agg
  | _ => !agg && zero.length == 1
theorem zvB_ok {agg : Bool} {zero : List Value} {z : Value} (h : zvB agg zero z = true) (e : z.cells.toList = zero) : z = (if agg then .agg zero.toArray else zero.getD 0 undef) ∧ (agg = false → zero.length = 1) := by
  unfold zvB at h
  split at h
  · subst h
    subst e
    simp [Value.cells]
  · rename_i hn
    simp only [Bool.and_eq_true, Bool.not_eq_true', beq_iff_eq] at h
    have hc : z.cells = #[z] := by cases z <;> first | rfl | exact absurd rfl (hn _)
    rw [hc] at e
    subst e
    simp [h.1]
def tyChk (P : Program) (t : TypeId) (i : TyI) : Bool :=
  match P.info? t, P.underlying t with
  | some inf, some d => tkB d i.k && inf.size == i.size && inf.bytes == i.bytes && (match inf.zero with | some z => constsEq z.cells.toList i.zero && zvB i.k.agg i.zero z | none => false) && i.zero.all (·.oneCell') && i.zero.length == i.size &&
      (i.eqk.isEmpty || (!P.eqGuardType P.depth t && eqB P t d i.eqk))
  | _, _ => false
theorem tyChk_ok {P : Program} {t : TypeId} {i : TyI} (h : tyChk P t i = true) : TyOk P t i := by
  unfold tyChk at h
  split at h
  · rename_i inf d h1 h2
    simp only [Bool.and_eq_true, beq_iff_eq] at h
    obtain ⟨⟨⟨⟨⟨⟨a1, a2⟩, a3⟩, a4⟩, a5⟩, a6⟩, a7⟩ := h
    split at a4
    · rename_i z hz
      simp only [Bool.and_eq_true] at a4
      obtain ⟨a4, a8⟩ := a4
      obtain ⟨z1, z2⟩ := zvB_ok a8 (constsEq_eq a4)
      refine ⟨⟨inf, d, z, h1, h2, tkB_ok a1, a2, a3, hz, constsEq_eq a4⟩, fun u hu => by simpa using List.all_eq_true.1 a5 u hu, ⟨inf, h1, by rw [hz, ← z1], z2⟩, a6, fun hne => ?_⟩
      have : i.eqk.isEmpty = false := by cases q : i.eqk <;> simp_all
      rw [this] at a7
      simp only [Bool.false_or, Bool.and_eq_true, Bool.not_eq_true'] at a7
      exact ⟨a7.1, eqB_ok h2 a7.2⟩
    · cases a4
  · cases h
def noTy : TyI := ⟨.none, 0, 0, [], []⟩
def lookT : List (Nat × TyI) → Nat → TyI
  | [], _ => noTy
  | p :: r, t => if t = p.1 then p.2 else lookT r t
def tabChk (P : Program) (tab : List (Nat × TyI)) : Bool := tab.all fun p => tyChk P p.1 p.2
theorem lookT_mem : ∀ {tab : List (Nat × TyI)} {t : Nat}, (lookT tab t).k.isNone = false → (t, lookT tab t) ∈ tab
  | [], t, h => by simp [lookT, noTy, TK.isNone] at h
  | p :: r, t, h => by
    simp only [lookT] at h ⊢
    split
    · rename_i e; subst e; exact List.mem_cons_self ..
    · rename_i e; rw [if_neg e] at h; exact List.mem_cons_of_mem _ (lookT_mem h)
theorem tabChk_ok {P : Program} {tab : List (Nat × TyI)} (h : tabChk P tab = true) : TOk P (lookT tab) := fun _ ht => tyChk_ok (List.all_eq_true.1 h _ (lookT_mem ht))
def wfOne (T : TypeId → TyI) : TK → Bool
  | .slice e => !(T e).k.isNone
  | .arr _ e => !(T e).k.isNone
  | .struct fs => fs.all fun p => !(T p.2).k.isNone
  | _ => true
def tabWf (tab : List (Nat × TyI)) : Bool := tab.all fun p => wfOne (lookT tab) p.2.k && (p.2.eqk.isEmpty || !p.2.k.isNone)
theorem tabWf_ok {tab : List (Nat × TyI)} (h : tabWf tab = true) : TWf (lookT tab) := by
  have one : ∀ t, (lookT tab t).k.isNone = false → wfOne (lookT tab) (lookT tab t).k = true := fun t ht => by
    have := List.all_eq_true.1 h _ (lookT_mem ht)
    simp only [Bool.and_eq_true] at this
    exact this.1
  refine ⟨fun t ht => ?_, fun t e he => ?_, fun t n e he => ?_, fun t fs hf p hp => ?_⟩
  · by_cases hn : (lookT tab t).k.isNone = false
    · exact hn
    · exfalso
      have : ∀ l : List (Nat × TyI), (∀ p ∈ l, (p.2.eqk.isEmpty || !p.2.k.isNone) = true) → (lookT l t).k.isNone = true → (lookT l t).eqk = [] := by
        intro l
        induction l with
        | nil => intro _ _; rfl
        | cons p r ih =>
          intro hl hk
          simp only [lookT] at hk ⊢
          split
          · rename_i e
            rw [if_pos e] at hk
            have := hl p (List.mem_cons_self ..)
            rw [hk] at this
            simpa using this
          · rename_i e
            rw [if_neg e] at hk
            exact ih (fun q hq => hl q (List.mem_cons_of_mem _ hq)) hk
      exact ht (this tab (fun p hp => by have := List.all_eq_true.1 h p hp; simp only [Bool.and_eq_true] at this; exact this.2) (by simpa using hn))
  · have := one t (by rw [he]; rfl)
    rw [he] at this
    simpa [wfOne] using this
  · have := one t (by rw [he]; rfl)
    rw [he] at this
    simpa [wfOne] using this
  · have := one t (by rw [hf]; rfl)
    rw [hf] at this
    simp only [wfOne, List.all_eq_true] at this
    simpa using this p hp
end Go.Eng
namespace Go.Eng
open Go.RowKit
def Part (h H : Obs) : Prop := ∀ id, h id = H id ∨ h id = .absent
def RLe (r r' : Res) : Prop := r.ok → r'.ok ∧ r'.v = r.v ∧ r'.up = r.up
section
variable {P : Program} {T : TypeId → TyI} {h H : Obs}
theorem RLe.refl (r : Res) : RLe r r := fun h => ⟨h, rfl, rfl⟩
theorem RLe.fail {r' : Res} : RLe .fail r' := fun h => h.elim
theorem close_part (hp : Part h H) : ∀ (n : Nat) (l : LV) (x : DV), close h n l = some x → close H n l = some x ∧ touch H n l = touch h n l := by
  intro n
  induction n with
  | zero => intro l x e; simp [close] at e
  | succ n ih =>
    intro l x e
    have list : ∀ (cs : List LV) (xs : List DV), optAll (cs.map (close h n)) = some xs → optAll (cs.map (close H n)) = some xs ∧ cs.flatMap (touch H n) = cs.flatMap (touch h n) := by
      intro cs
      induction cs with
      | nil => intro xs e; exact ⟨e, rfl⟩
      | cons c cs ihc =>
        intro xs e
        simp only [List.map_cons] at e
        cases q : close h n c with
        | none => rw [q] at e; cases e
        | some y =>
          rw [q] at e
          simp only [optAll, Option.map_eq_some_iff] at e
          obtain ⟨ys, e, rfl⟩ := e
          obtain ⟨i1, i2⟩ := ihc ys e
          obtain ⟨j1, j2⟩ := ih c y q
          simp only [List.map_cons, j1, optAll, i1, Option.map_some, List.flatMap_cons, i2, j2, and_self]
    cases l with
    | d y => exact ⟨e, rfl⟩
    | agg cs =>
      simp only [close, Option.map_eq_some_iff] at e
      obtain ⟨xs, e, rfl⟩ := e
      obtain ⟨i1, i2⟩ := list cs xs e
      simp [close, touch, i1, i2]
    | fn f cs =>
      simp only [close, Option.map_eq_some_iff] at e
      obtain ⟨xs, e, rfl⟩ := e
      obtain ⟨i1, i2⟩ := list cs xs e
      simp [close, touch, i1, i2]
    | bm f cs =>
      simp only [close, Option.map_eq_some_iff] at e
      obtain ⟨xs, e, rfl⟩ := e
      obtain ⟨i1, i2⟩ := list cs xs e
      simp [close, touch, i1, i2]
    | ow id k m =>
      simp only [close] at e
      rcases hp id with q | q
      · rw [q] at e; exact ⟨e, rfl⟩
      · rw [q] at e; cases e
    | bx id off =>
      simp only [close] at e
      rcases hp id with q | q
      · rw [q] at e
        cases q2 : H id with
        | box fz cs =>
          rw [q2] at e
          simp only [Option.map_eq_some_iff] at e
          obtain ⟨xs, e, rfl⟩ := e
          obtain ⟨i1, i2⟩ := list _ xs e
          refine ⟨by simp only [close, q2]; rw [i1]; rfl, by simp only [touch, q, q2]; rw [i2]⟩
        | _ => rw [q2] at e; cases e
      · rw [q] at e; cases e
    | nl => exact ⟨e, rfl⟩
    | mp id =>
      simp only [close] at e
      rcases hp id with q | q
      · rw [q] at e; exact ⟨e, rfl⟩
      · rw [q] at e; cases e
    | rp | it | tup | when | junk => simp [close] at e
theorem closes_part (hp : Part h H) (n : Nat) : ∀ {cs : List LV} {xs : List DV}, optAll (cs.map (close h n)) = some xs → optAll (cs.map (close H n)) = some xs ∧ cs.flatMap (touch H n) = cs.flatMap (touch h n) := by
  intro cs
  induction cs with
  | nil => intro xs e; exact ⟨e, rfl⟩
  | cons c cs ihc =>
    intro xs e
    simp only [List.map_cons] at e
    cases q : close h n c with
    | none => rw [q] at e; cases e
    | some y =>
      rw [q] at e
      simp only [optAll, Option.map_eq_some_iff] at e
      obtain ⟨ys, e, rfl⟩ := e
      obtain ⟨i1, i2⟩ := ihc e
      obtain ⟨j1, j2⟩ := close_part hp n c y q
      simp only [List.map_cons, j1, optAll, i1, Option.map_some, List.flatMap_cons, i2, j2, and_self]
theorem closes_live (n : Nat) {cs : List LV} {xs : List DV} (e : optAll (cs.map (close H n)) = some xs) : ∀ id ∈ cs.flatMap (touch H n), (H id).live = true := by
  intro id hid
  obtain ⟨h1, h2⟩ := optAll_map e
  obtain ⟨c, hc, hid⟩ := List.mem_flatMap.1 hid
  obtain ⟨i, hi, rfl⟩ := List.getElem_of_mem hc
  exact close_live n _ _ (h2 i _ (xs[i]'(by omega)) (List.getElem?_eq_getElem hi) (List.getElem?_eq_getElem (by omega))) id hid
theorem live_part (hp : Part h H) {id : Nat} (hl : (h id).live = true) : H id = h id := by
  rcases hp id with q | q
  · exact q.symm
  · rw [q] at hl; cases hl
theorem solid_part (hp : Part h H) {l : LV} (hs : solid h l = true) : solid H l = true := by
  cases l <;> simp only [solid] at * <;> first | exact hs | (rw [live_part hp hs]; exact hs)
theorem freezes_part (hp : Part h H) {ids : List Nat} (hl : ∀ id ∈ ids, (h id).live = true) : freezes H ids = freezes h ids := by
  unfold freezes
  exact List.map_congr_left fun id hid => by rw [live_part hp (hl id hid)]
theorem freezes_closed (hp : Part h H) {l : LV} {x : DV} (e : close h 8 l = some x) : freezes H (touch h 8 l) = freezes h (touch h 8 l) := freezes_part hp fun id hid => close_live 8 l x e id hid
theorem elemsOf_part (hp : Part h H) {l : LV} {ys : List DV} (e : elemsOf h l = some ys) : elemsOf H l = some ys := by
  unfold elemsOf at *
  split at e <;> try exact e
  rename_i id k n
  rcases hp id with q | q
  · rw [← q]; exact e
  · rw [q] at e; cases e
theorem elemsS_part (hp : Part h H) {l : LV} {ys : List DV} (e : elemsS h l = some ys) : elemsS H l = some ys := by
  unfold elemsS at *
  split at e
  · cases e
  · exact elemsOf_part hp e
theorem load_part (hp : Part h H) (t : TyI) (x : LV) : RLe (evalLoad h t x) (evalLoad H t x) := by
  unfold evalLoad
  split
  · rename_i id off; rcases hp id with q | q <;> rw [q] <;> first | exact .refl _ | exact .fail
  · exact .refl _
  · rename_i id k j; rcases hp id with q | q <;> rw [q] <;> first | exact .refl _ | exact .fail
  · exact .refl _
theorem store_part (hp : Part h H) (t : TyI) (x y : LV) : RLe (evalStore h t x y) (evalStore H t x y) := by
  cases x with
  | bx id off =>
    simp only [evalStore]
    rcases hp id with q | q
    · rw [q]
      cases q2 : H id with
      | box fz cs => cases fz with
        | false => exact fun hok => ⟨⟨hok.1, hok.2.1, solid_part hp hok.2.2⟩, rfl, rfl⟩
        | true => exact .fail
      | _ => exact .fail
    · rw [q]; exact .fail
  | rp id k j =>
    simp only [evalStore]
    rcases hp id with q | q
    · rw [q]
      cases q2 : H id with
      | row fz s xs => cases fz with
        | false =>
          simp only
          cases q3 : close h 8 y with
          | none => exact .fail
          | some z =>
            obtain ⟨c1, c2⟩ := close_part hp 8 y z q3
            rw [c1]
            simp only [c2, freezes_closed hp q3]
            exact .refl _
        | true => exact .fail
      | _ => exact .fail
    · rw [q]; exact .fail
  | _ => exact .refl _
theorem build_part (hp : Part h H) (t : TypeId) (ps : List (Nat × LV)) : RLe (evalBuild T h t ps) (evalBuild T H t ps) := by
  unfold evalBuild
  split
  · split
    · exact fun hok => ⟨fun p hpp => solid_part hp (hok p hpp), rfl, rfl⟩
    · exact .refl _
  · split
    · exact fun hok => ⟨fun p hpp => solid_part hp (hok p hpp), rfl, rfl⟩
    · exact .refl _
  · exact .refl _
theorem buildSlice_part (hp : Part h H) {dst : Nat} (hd : h dst = H dst) (t : TypeId) (n : Nat) (ps : List (Nat × LV)) : RLe (evalBuildSlice T h dst t n ps) (evalBuildSlice T H dst t n ps) := by
  unfold evalBuildSlice
  split
  · have e : ∀ H : Obs, (ps.map fun p => close H 8 p.2) = (ps.map (·.2)).map (close H 8) := fun H => by rw [List.map_map]; rfl
    have e2 : ∀ H : Obs, (ps.flatMap fun p => touch H 8 p.2) = (ps.map (·.2)).flatMap (touch H 8) := fun H => by rw [List.flatMap_map]
    cases q : optAll (ps.map fun p => close h 8 p.2) with
    | none => exact .fail
    | some xs =>
      rw [e] at q
      obtain ⟨c1, c2⟩ := closes_part hp 8 q
      rw [e, c1]
      have hl := closes_live 8 q
      simp only [e2, c2, freezes_part hp hl, hd]
      exact .refl _
  · exact .refl _
theorem field_part (hp : Part h H) (s : TypeId) (x : LV) (f : Nat) : RLe (evalField T h s x f) (evalField T H s x f) := by
  unfold evalField
  split
  · split
    · split
      · exact fun hok => ⟨⟨hok.1, by rw [live_part hp hok.2]; exact hok.2⟩, rfl, rfl⟩
      · exact fun hok => ⟨⟨hok.1, by rw [live_part hp hok.2]; exact hok.2⟩, rfl, rfl⟩
      · exact .refl _
      · exact .refl _
    · exact .refl _
  · exact .refl _
theorem indexAddr_part (hp : Part h H) (t : TypeId) (x i : LV) : RLe (evalIndexAddr T h t x i) (evalIndexAddr T H t x i) := by
  unfold evalIndexAddr
  split
  · exact .refl _
  · rename_i e id k n _ _ _
    rcases hp id with q | q <;> rw [q] <;> first | exact .refl _ | exact .fail
  · exact fun hok => ⟨⟨hok.1, hok.2.1, by rw [live_part hp hok.2.2]; exact hok.2.2⟩, rfl, rfl⟩
  · exact fun hok => ⟨⟨hok.1, hok.2.1, by rw [live_part hp hok.2.2]; exact hok.2.2⟩, rfl, rfl⟩
  · exact .refl _
  · exact .refl _
theorem slice_part (hp : Part h H) (t : TypeId) (x : LV) (lo hi mx : Option LV) : RLe (evalSlice T h t x lo hi mx) (evalSlice T H t x lo hi mx) := by
  unfold evalSlice
  split
  · exact .refl _
  · exact .refl _
  · rename_i e id k n _
    rcases hp id with q | q <;> rw [q] <;> first | exact .refl _ | exact .fail
  · exact .refl _
  · exact .refl _
  · exact .refl _
theorem append_part (hp : Part h H) {dst : Nat} (hd : h dst = H dst) (t : TypeId) (s x : LV) : RLe (evalAppend T h dst t s x) (evalAppend T H dst t s x) := by
  unfold evalAppend
  cases q0 : (T t).k with
  | slice e =>
    cases q1 : elemsOf h x with
    | none => exact .fail
    | some ys =>
      rw [elemsOf_part hp q1]
      simp only
      cases s with
      | ow id k n => simp only; rcases hp id with q | q <;> rw [q] <;> first | (rw [hd]; exact .refl _) | exact .fail
      | nl => simp only; rw [hd]; exact .refl _
      | _ => exact .fail
  | _ => exact .fail
theorem appendIn_part (hp : Part h H) (t : TypeId) (s x : LV) : RLe (evalAppendIn T h t s x) (evalAppendIn T H t s x) := by
  unfold evalAppendIn
  cases q0 : (T t).k with
  | slice e =>
    cases q1 : elemsOf h x with
    | none => exact .fail
    | some ys =>
      rw [elemsOf_part hp q1]
      cases s with
      | ow id k n => simp only; rcases hp id with q | q <;> rw [q] <;> first | exact .refl _ | exact .fail
      | _ => exact .fail
  | _ => exact .fail
theorem copy_part (hp : Part h H) (t : TypeId) (s x : LV) : RLe (evalCopy T h t s x) (evalCopy T H t s x) := by
  unfold evalCopy
  cases q0 : (T t).k with
  | slice e =>
    cases q1 : elemsOf h x with
    | none => exact .fail
    | some ys =>
      rw [elemsOf_part hp q1]
      cases s with
      | ow id k n => simp only; rcases hp id with q | q <;> rw [q] <;> first | exact .refl _ | exact .fail
      | _ => exact .fail
  | _ => exact .fail
theorem clear_part (hp : Part h H) (t : TypeId) (x : LV) : RLe (evalClear T h t x) (evalClear T H t x) := by
  unfold evalClear
  split
  · rename_i id k n _
    rcases hp id with q | q <;> rw [q] <;> first | exact .refl _ | exact .fail
  · exact .refl _
theorem cut_part (hp : Part h H) (t : TypeId) (x : LV) (lo hi mx : Option LV) : RLe (evalCut T h t x lo hi mx) (evalCut T H t x lo hi mx) := by
  unfold evalCut
  split
  · split
    · exact fun hok => ⟨by have hok' := hok; simp only [Res.cond] at hok' ⊢; rw [live_part hp hok'.2.2.2.2]; exact hok', rfl, rfl⟩
    · exact .refl _
  · exact .refl _
  · exact .refl _
theorem make_part {dst : Nat} (hd : h dst = H dst) (t : TypeId) (n c : LV) : RLe (evalMake T h dst t n c) (evalMake T H dst t n c) := by
  unfold evalMake
  rw [hd]; exact .refl _
theorem cap_part (hp : Part h H) (t : TypeId) (lo c : Nat) (x : LV) : RLe (evalCap T h t lo c x) (evalCap T H t lo c x) := by
  unfold evalCap
  split
  · exact .refl _
  · exact .refl _
  · rename_i id k n _
    rcases hp id with q | q <;> rw [q] <;> first | exact .refl _ | exact .fail
  · exact .refl _
theorem lenL_part (hp : Part h H) {x : LV} {n : Nat} (e : lenL h x = some n) : lenL H x = some n := by
  unfold lenL at *
  split at e <;> try exact e
  split at e
  · rename_i hl
    rw [live_part hp hl]; rw [if_pos hl]; exact e
  · cases e
theorem nil_part (hp : Part h H) (t : TypeId) (e b : Bool) (op : BinOp) (x : LV) : RLe (evalNil T h t e b op x) (evalNil T H t e b op x) := by
  unfold evalNil
  cases q : lenL h x with
  | none => split <;> simp_all <;> exact .fail
  | some n => rw [lenL_part hp q]; exact .refl _
theorem len_part (hp : Part h H) (t : TypeId) (x : LV) : RLe (evalLen T h t x) (evalLen T H t x) := by
  unfold evalLen
  split
  · exact .refl _
  · exact .refl _
  · exact fun hok => ⟨by have hok' := hok; simp only [Res.cond] at hok' ⊢; rw [live_part hp hok']; exact hok', rfl, rfl⟩
  · exact .refl _
  · exact .refl _
  · exact .refl _
  · rename_i id _
    rcases hp id with q | q <;> rw [q] <;> first | exact .refl _ | exact .fail
  · exact .refl _
theorem mapOf_part (hp : Part h H) {x : LV} {p : List DV × List DV} (e : mapOf h x = some p) : mapOf H x = some p := by
  unfold mapOf at *
  split at e <;> try exact e
  rename_i id
  rcases hp id with q | q
  · rw [← q]; exact e
  · rw [q] at e; cases e
theorem lookup_part (hp : Part h H) (t : TypeId) (x i : LV) (ok : Bool) : RLe (evalLookup T h t x i ok) (evalLookup T H t x i ok) := by
  unfold evalLookup
  cases q : mapOf h x with
  | none => split <;> simp_all <;> exact .fail
  | some p => rw [mapOf_part hp q]; exact .refl _
theorem mapUpdate_part (hp : Part h H) (t : TypeId) (m k x : LV) : RLe (evalMapUpdate T h t m k x) (evalMapUpdate T H t m k x) := by
  unfold evalMapUpdate
  split
  · rename_i id _ _ _
    rcases hp id with q | q <;> rw [q] <;> first | exact .refl _ | exact .fail
  · exact .refl _
theorem Part.frozen (hp : Part h H) {l : LV} {x : DV} (e : close h 8 l = some x) : Part (upds h (freezes h (touch h 8 l))) (upds H (freezes h (touch h 8 l))) := fun id => by
  simp only [upds_lookup]
  cases lookupO (freezes h (touch h 8 l)) id with
  | none => exact hp id
  | some o => exact .inl rfl
theorem mapSet_part (hp : Part h H) (t : TypeId) (m k x : LV) : RLe (evalMapSet T h t m k x) (evalMapSet T H t m k x) := by
  unfold evalMapSet
  split
  · exact mapUpdate_part hp _ _ _ _
  · cases q : close h 8 x with
    | none => exact .fail
    | some v =>
      obtain ⟨q2, q3⟩ := close_part hp 8 _ _ q
      simp only [q2, q3, freezes_closed hp q]
      have r := mapUpdate_part (T := T) (hp.frozen q) t m k (.d v)
      intro hok
      obtain ⟨r1, r2, r3⟩ := r hok
      exact ⟨r1, r2, by simp only []; rw [r3]⟩
theorem delete_part (hp : Part h H) (t : TypeId) (m k : LV) : RLe (evalDelete T h t m k) (evalDelete T H t m k) := by
  unfold evalDelete
  split
  · rename_i id _ _
    rcases hp id with q | q <;> rw [q] <;> first | exact .refl _ | exact .fail
  · exact .refl _
theorem argsG_part (hp : Part h H) {σ : List (Nat × Nat)} {shut : List Nat} : ∀ (ls : List LV) (i : Nat) (asl : List LV), argsG h σ shut i ls = some asl → argsG H σ shut i ls = some asl ∧ shutG H shut i ls = shutG h shut i ls ∧ ∀ id ∈ shutG h shut i ls, (h id).live = true
  | [], i, asl, e => ⟨e, rfl, by simp [shutG]⟩
  | l :: r, i, asl, e => by
    simp only [argsG] at e ⊢
    cases q : argsG h σ shut (i + 1) r with
    | none => rw [q] at e; cases e
    | some r' =>
      obtain ⟨h1, h2, h3⟩ := argsG_part hp r (i + 1) r' q
      rw [q] at e
      simp only at e
      rw [h1]
      simp only [shutG, h2]
      by_cases hs : shut.contains i = true
      · rw [if_pos hs, Option.map_eq_some_iff] at e
        obtain ⟨x, hx, rfl⟩ := e
        obtain ⟨c1, c2⟩ := close_part hp 8 l x hx
        simp only [if_pos hs, c1, c2]
        refine ⟨by first | rfl | trivial, by first | rfl | trivial, fun id hid => ?_⟩
        rcases List.mem_append.1 hid with hid | hid
        · exact close_live 8 l x hx id hid
        · exact h3 id hid
      · rw [if_neg hs] at e
        simp only [if_neg hs]
        exact ⟨e, by first | rfl | trivial, fun id hid => h3 id (by simpa using hid)⟩
theorem conv_part (hp : Part h H) (s t : TypeId) (x : LV) : RLe (evalConv T h s t x) (evalConv T H s t x) := by
  unfold evalConv
  split
  · exact .refl _
  · exact .refl _
  · rename_i lx _ _ _ e _ _
    cases q1 : elemsS h lx with
    | none => cases (T e).k <;> try exact .fail
              rename_i k; cases k <;> exact .fail
    | some ys => rw [elemsS_part hp q1]; exact .refl _
  · exact .refl _
theorem retObj_id : ∀ (rs : List RV) (d : Nat), ∀ p ∈ retsObj d rs, ∃ i, p.1 = d + 1000 * i
  | [], d, p, hp => by simp [retsObj] at hp
  | r :: rs, d, p, hp => by
    simp only [retsObj, List.mem_append] at hp
    rcases hp with hp | hp
    · cases r <;> simp [retObj] at hp; exact ⟨0, by rw [hp]; simp⟩
    · obtain ⟨i, hi⟩ := retObj_id rs (d + 1000) p hp
      exact ⟨i + 1, by omega⟩
theorem resObj_id (v : RV) (d : Nat) : ∀ p ∈ resObj d v, ∃ i, p.1 = d + 1000 * i := by
  intro p hp
  cases v with
  | tup rs => exact retObj_id rs d p hp
  | d x => simp [resObj, retObj] at hp
  | own s xs => simp [resObj, retObj] at hp; exact ⟨0, by rw [hp]; simp⟩
theorem call_part (hp : Part h H) (r : Option Orc) {dst : Nat} (hd : ∀ i, h (dst + 1000 * i) = H (dst + 1000 * i)) (f : LV) (args : List LV) : RLe (evalCall P h r dst f args) (evalCall P H r dst f args) := by
  unfold evalCall
  split
  · rename_i fid caps r _
    cases q : optAll ((args ++ caps).map (close h 8)) with
    | none => exact .fail
    | some asl =>
      obtain ⟨c1, c2⟩ := closes_part hp 8 q
      rw [c1]
      have hl := closes_live 8 q
      simp only [c2, freezes_part hp hl]
      exact fun hok => ⟨⟨hok.1, fun p hpp => by obtain ⟨i, hi⟩ := resObj_id r.v dst p hpp; rw [hi, ← hd i, ← hi]; exact hok.2 p hpp⟩, rfl, rfl⟩
  · rename_i fid caps g _
    cases q : argsG h g.σ g.shut 0 (args ++ caps) with
    | none => exact .fail
    | some asl =>
      obtain ⟨h1, h2, h3⟩ := argsG_part hp _ _ _ q
      rw [h1]
      intro hok
      simp only at hok
      obtain ⟨k1, k2, k3, k4, k5, k6⟩ := hok
      have e1 : (g.σ.map fun p => (p.2, renO g.σ (H p.1))) = g.σ.map fun p => (p.2, renO g.σ (h p.1)) := List.map_congr_left fun p hpp => by rw [live_part hp (k2 p hpp)]
      simp only [h2, freezes_part hp h3, e1]
      refine ⟨⟨k1, fun p hpp => by rw [live_part hp (k2 p hpp)]; exact k2 p hpp, k3, k4, fun p hpp => ⟨?_, (k5 p hpp).2⟩, k6⟩, trivial, trivial⟩
      obtain ⟨a1, a2, a3⟩ := k5 p hpp
      have : p.2 = dst + 1000 * ((p.2 - dst) / 1000) := by omega
      rw [this, ← hd, ← this]; exact a1
  · rename_i fid caps Rel fr r _
    cases q : optAll ((args ++ caps).map (close h 8)) with
    | none => exact .fail
    | some asl =>
      obtain ⟨c1, c2⟩ := closes_part hp 8 q
      rw [c1]
      have hl := closes_live 8 q
      simp only [c2, freezes_part hp hl]
      exact fun hok => ⟨⟨hok.1, hok.2.1, fun p hpp => by obtain ⟨i, hi⟩ := resObj_id r.v dst p hpp; rw [hi, ← hd i, ← hi]; exact hok.2.2 p hpp⟩, rfl, rfl⟩
  · rename_i fid caps g _ _
    cases q : argsG h g.σ g.shut 0 (args ++ caps) with
    | none => exact .fail
    | some asl =>
      obtain ⟨h1, h2, h3⟩ := argsG_part hp _ _ _ q
      rw [h1]
      intro hok
      simp only at hok
      obtain ⟨k1, k2, k3, k4, k5, k6⟩ := hok
      have e1 : (g.σ.map fun p => (p.2, renO g.σ (H p.1))) = g.σ.map fun p => (p.2, renO g.σ (h p.1)) := List.map_congr_left fun p hpp => by rw [live_part hp (k2 p hpp)]
      simp only [h2, freezes_part hp h3, e1]
      refine ⟨⟨k1, fun p hpp => by rw [live_part hp (k2 p hpp)]; exact k2 p hpp, k3, k4, fun p hpp => ⟨?_, (k5 p hpp).2⟩, k6⟩, trivial, trivial⟩
      obtain ⟨a1, a2, a3⟩ := k5 p hpp
      have : p.2 = dst + 1000 * ((p.2 - dst) / 1000) := by omega
      rw [this, ← hd, ← this]; exact a1
  · exact .refl _
theorem op_part_le (hp : Part h H) (g : Operand → LV) (r : Option Orc) (o : Oper) (hd : ∀ i, h (o.dst.getD 0 + 1000 * i) = H (o.dst.getD 0 + 1000 * i)) : RLe (evalOp P T h g r o) (evalOp P T H g r o) := by
  have hd0 : h (o.dst.getD 0) = H (o.dst.getD 0) := by simpa using hd 0
  obtain ⟨dst, op, type, pos, after, guard⟩ := o
  cases op <;> simp only [evalOp] <;> simp only at hd hd0 <;> first | exact .refl _ | skip
  case assign x => simp only [Option.getD] at hd0 ⊢; rw [hd0]; exact .refl _
  case alloc t => rw [hd0]; exact .refl _
  case box t x => exact fun hok => ⟨⟨by rw [← hd0]; exact hok.1, solid_part hp hok.2⟩, rfl, rfl⟩
  case build t ps => exact build_part hp _ _
  case buildSlice t n ps => exact buildSlice_part hp hd0 _ _ _
  case load t x => split; exact .refl _; exact load_part hp _ _
  case store t x y => split; exact .refl _; exact store_part hp _ _ _
  case nilCheck x =>
    split
    · exact fun hok => ⟨by have hok' := hok; simp only [Res.cond] at hok' ⊢; rw [live_part hp hok']; exact hok', rfl, rfl⟩
    · exact fun hok => ⟨by have hok' := hok; simp only [Res.cond] at hok' ⊢; rw [live_part hp hok']; exact hok', rfl, rfl⟩
    · exact .refl _
    · exact .refl _
    · exact .refl _
    · exact .refl _
  case convert s t x => exact conv_part hp _ _ _
  case makeFunc fn first cs => cases fn <;> exact .refl _
  case slice t x lo hi mx =>
    split
    · exact .refl _
    · split
      · exact cut_part hp _ _ _ _ _
      · exact slice_part hp _ _ _ _ _
  case binOp op t x y u =>
    split
    · exact .refl _
    · split
      · exact nil_part hp _ _ _ _ _
      · exact .refl _
    · exact .refl _
  case makeSlice t n c => exact make_part hd0 _ _ _
  case fieldAddr s x f => exact field_part hp _ _ _
  case makeMap t r => cases r <;> simp only [] <;> first | exact .refl _ | (unfold evalMakeMap; rw [hd0]; exact .refl _)
  case lookup t x i ok => exact lookup_part hp _ _ _ _
  case mapUpdate t m k x => exact mapSet_part hp _ _ _ _
  case range t x =>
    split
    · unfold evalRange
      split
      · rw [hd0]; exact .refl _
      · exact .refl _
    · exact .refl _
  case indexAddr t x i => exact indexAddr_part hp _ _ _
  case call c =>
    obtain ⟨callee, args, ts⟩ := c
    cases callee with
    | value f => exact call_part hp r hd _ _
    | invoke r m => exact .refl _
    | builtin b =>
      simp only
      split
      · exact len_part hp _ _
      · split
        · split
          · exact appendIn_part hp _ _ _
          · exact append_part hp hd0 _ _ _
        · exact .refl _
      · split
        · exact cap_part hp _ _ _ _
        · exact .refl _
      · exact clear_part hp _ _
      · exact copy_part hp _ _ _
      · exact .refl _
      · exact .refl _
      · exact delete_part hp _ _ _
      · exact .refl _
theorem in_part (hp : Part h H) (g : Operand → LV) (r : Option Orc) (o : Oper) (hd : ∀ i, h (o.dst.getD 0 + 1000 * i) = H (o.dst.getD 0 + 1000 * i)) : RLe (evalIn P T h g r o) (evalIn P T H g r o) := by
  unfold evalIn
  split
  · exact .refl _
  · exact op_part_le hp _ r o hd
end
end Go.Eng
namespace Go.Eng
open Go.RowKit
def maskE (hide : List Nat) (H : Obs) : Obs := fun id => if hide.contains (id % 1000) then .absent else H id
def wrIn (wr : List Nat) (p : Nat × LObj) : Bool := wr.contains (p.1 % 1000)
def stepM (P : Program) (T : TypeId → TyI) (N : Nat) (slots : Nat → Option Nat) (orc : Nat → Option Orc) (hide wr : List Nat) (st : LSt) (o : Oper) : LSt :=
  let r := evalG P T slots st.env (maskE hide st.H) (orc (o.dst.getD 0)) o
  { env := putEnv st.env o.dst r.v
    H := upds st.H (r.up.filter (wrIn wr))
    ok := st.ok ∧ r.ok ∧ dstOk N o.dst ∧ ∀ p ∈ r.up, wrIn wr p = true }
section
variable {P : Program} {T : TypeId → TyI} {N : Nat} {w0 : Base} {X : Nat → Prop} {β : Nat → Option Nat} {w : World} {a : Act} {o : Oper}
theorem mask_part (hide : List Nat) (H : Obs) : Part (maskE hide H) H := fun id => by
  unfold maskE
  split
  · exact .inr rfl
  · exact .inl rfl
theorem stepM_sound (hT : TOk P T) (hW : TWf T) {ops : Array Oper} {slots : Nat → Option Nat} (hsl : ∀ j d, slots j = some d → (ops[j]?).bind (·.dst) = some d ∧ d < N) {r : Option Orc} {hide wr : List Nat} (hd : hide.contains (o.dst.getD 0 % 1000) = false) {st : LSt}
    (s : Sim N w0 X st.env st.H β a w) (hself : Alt r r) (hok : ∀ r', Alt r r' → (stepM P T N slots (fun _ => r') hide wr st o).ok) {K : Act → World → Prop} {Q : Exit → Act → World → Prop}
    (hK : ∀ r', Alt r r' → ∀ a' w' β', Sim N w0 X (stepM P T N slots (fun _ => r') hide wr st o).env (stepM P T N slots (fun _ => r') hide wr st o).H β' a' w' → K a' w') :
    if Region.wanted o (yielded ops a.tmps) then o.wp P a w K Q ∨ (o.asks P a w ∧ LetsOut Q) else K (a.put o.dst undef) w := by
  have hp := mask_part hide st.H
  have hdd : ∀ i, maskE hide st.H (o.dst.getD 0 + 1000 * i) = st.H (o.dst.getD 0 + 1000 * i) := fun i => by
    unfold maskE
    rw [if_neg (by rw [Nat.add_mul_mod_self_left, hd]; simp)]
  have hok2 := fun r' h => (hok r' h).2.1
  have hok4 := fun r' h => (hok r' h).2.2.2
  have hok3 := (hok r hself).2.2.1
  clear hok
  simp only [stepM] at hK hok2 hok4
  have hfil : ∀ l : List (Nat × LObj), (∀ p ∈ l, wrIn wr p = true) → l.filter (wrIn wr) = l := fun l hl => List.filter_eq_self.2 hl
  have hK : ∀ r', Alt r r' → ∀ a' w' β', Sim N w0 X (putEnv st.env o.dst (evalG P T slots st.env (maskE hide st.H) r' o).v) (upds st.H (evalG P T slots st.env (maskE hide st.H) r' o).up) β' a' w' → K a' w' := fun r' h a' w' β' s' => hK r' h a' w' β' (by rw [hfil _ (hok4 r' h)]; exact s')
  cases hg : o.guard with
  | none =>
    have e : ∀ r, evalG P T slots st.env (maskE hide st.H) r o = evalOp P T (maskE hide st.H) (opLV st.env) r o := fun r => by unfold evalG; rw [hg]
    simp only [e] at hK hok2
    have hpl := fun r' h => op_part_le hp (opLV st.env) r' o hdd (hok2 r' h)
    rw [if_pos (by simp [Region.wanted, hg])]
    left
    refine op_sound hT hW s.mem s.get hself (fun r' h => (hpl r' h).1) K Q ?_
    rintro res ⟨r', h', rfl⟩ v w' β' m gg hv
    obtain ⟨_, c2, c3⟩ := hpl r' h'
    refine hK r' h' _ _ β' ?_
    rw [← c2, ← c3]
    exact s.put m gg hv hok3
  | some p =>
    obtain ⟨j, want⟩ := p
    unfold evalG at hK hok2
    simp only [hg] at hK hok2
    have hok20 := hok2 r hself
    split at hok20
    · rename_i ec hec
      simp only [hec] at hK hok2
      obtain ⟨q1, q2⟩ := hok20
      obtain ⟨d, hd1, hd2⟩ := Option.map_eq_some_iff.1 hec
      obtain ⟨hd3, hd4⟩ := hsl j d hd1
      rw [guard_real s hd3 hd4 hd2 hg]
      cases ec with
      | true =>
        simp only [if_true]
        left
        have hpl := fun r' h => in_part hp (opLV st.env) r' o hdd ((hok2 r' h).1 rfl)
        refine in_sound hT hW s.mem s.get hself (fun r' h => (hpl r' h).1) (q2 rfl) K Q ?_
        rintro res ⟨r', h', rfl⟩ v w' β' m gg hv
        obtain ⟨_, c2, c3⟩ := hpl r' h'
        refine hK r' h' _ _ β' ?_
        rw [c3] at m gg hv
        rw [c2] at hv
        exact s.put m gg (.when true _ v (fun _ => hv) (fun h => by cases h)) hok3
      | false =>
        simp only [Bool.false_eq_true, if_false]
        exact hK r hself _ _ β (s.put s.mem Goes.refl (.when false _ undef (fun h => by cases h) (fun _ => rfl)) hok3)
    · exact hok20.elim
theorem opLV_congr {env env' : Env} {ops : Array Oper} (h : ∀ d ∈ o.looksAt ops, env d = env' d) : ∀ x ∈ o.op.operands, opLV env x = opLV env' x := by
  intro x hx
  cases x with
  | tmp t => exact h t (by unfold Oper.looksAt; exact List.mem_append.2 (.inl (List.mem_filterMap.2 ⟨.tmp t, by simpa using hx, rfl⟩)))
  | _ => rfl
theorem guardOps_sub : ∀ x ∈ guardOps o.op, x ∈ o.op.operands := by
  intro x hx
  unfold guardOps at hx
  split at hx
  · rename_i e; simp at hx; rw [e, hx]; simp [Op.operands]
  · simpa using hx
theorem evalIn_congr {h : Obs} {g g' : Operand → LV} {r : Option Orc} (e : ∀ x ∈ o.op.operands, g x = g' x) : evalIn P T h g r o = evalIn P T h g' r o := by
  unfold evalIn
  split
  · rename_i c x y ho
    rw [e c (by rw [ho]; simp [Op.operands]), e x (by rw [ho]; simp [Op.operands]), e y (by rw [ho]; simp [Op.operands])]
  · exact evalOp_congr fun x hx => by rw [e x hx]
theorem evalG_congr {l : List Oper} {env env' : Env} {h : Obs} {r : Option Orc} (e : ∀ d ∈ o.looksAt l.toArray, env d = env' d) : evalG P T (slotsOf N l) env h r o = evalG P T (slotsOf N l) env' h r o := by
  have e1 := opLV_congr e
  unfold evalG
  cases hg : o.guard with
  | none => exact evalOp_congr e1
  | some p =>
    obtain ⟨j, want⟩ := p
    simp only
    have e2 : ((slotsOf N l j).map fun d => guardC want (env d)) = (slotsOf N l j).map fun d => guardC want (env' d) := by
      cases q : slotsOf N l j with
      | none => rfl
      | some d =>
        have hd := (slotsOf_ok N l j d q).1
        have : env d = env' d := e d (by unfold Oper.looksAt; rw [hg]; exact List.mem_append.2 (.inr (by simp only; rw [hd]; simp)))
        simp only [Option.map_some, this]
    rw [e2, evalIn_congr e1]
    have e3 : (∀ x ∈ guardOps o.op, whenC (opLV env x) = true) = ∀ x ∈ guardOps o.op, whenC (opLV env' x) = true := by
      apply propext
      exact ⟨fun h x hx => by rw [← e1 x (guardOps_sub x hx)]; exact h x hx, fun h x hx => by rw [e1 x (guardOps_sub x hx)]; exact h x hx⟩
    rw [e3]
def sepB (hide1 wr1 hide2 wr2 : List Nat) : Bool := wr1.all (fun x => hide2.contains x && !wr2.contains x) && wr2.all (fun x => hide1.contains x)
theorem upds_filter (H : Obs) (l : List (Nat × LObj)) (wr : List Nat) (id : Nat) (h : wr.contains (id % 1000) = false) : upds H (l.filter (wrIn wr)) id = H id := by
  rw [upds_lookup]
  have : lookupO (l.filter (wrIn wr)) id = none := by
    induction l with
    | nil => rfl
    | cons p r ih =>
      by_cases hp : wrIn wr p = true
      · rw [List.filter_cons_of_pos hp]
        simp only [lookupO]
        rw [if_neg (fun e => by unfold wrIn at hp; rw [← e, h] at hp; cases hp)]
        exact ih
      · rw [List.filter_cons_of_neg hp]; exact ih
  rw [this]; rfl
theorem mask_upds (H : Obs) (l : List (Nat × LObj)) {wr hide : List Nat} (h : ∀ x ∈ wr, hide.contains x = true) : maskE hide (upds H (l.filter (wrIn wr))) = maskE hide H := by
  funext id
  unfold maskE
  by_cases hh : hide.contains (id % 1000) = true
  · rw [if_pos hh, if_pos hh]
  · rw [if_neg hh, if_neg hh]
    refine upds_filter H l wr id ?_
    cases q : wr.contains (id % 1000) with
    | false => rfl
    | true => exact absurd (h _ (by simpa using q)) hh
theorem upds_comm (H : Obs) (l1 l2 : List (Nat × LObj)) {wr1 wr2 : List Nat} (h : ∀ x ∈ wr1, wr2.contains x = false) : upds (upds H (l1.filter (wrIn wr1))) (l2.filter (wrIn wr2)) = upds (upds H (l2.filter (wrIn wr2))) (l1.filter (wrIn wr1)) := by
  funext id
  cases q1 : wr1.contains (id % 1000) with
  | false =>
    rw [upds_filter _ l1 wr1 id q1, upds_lookup _ id, upds_filter H l1 wr1 id q1, upds_lookup _ id]
  | true =>
    have q2 : wr2.contains (id % 1000) = false := h _ (by simpa using q1)
    rw [upds_filter _ l2 wr2 id q2, upds_lookup (l1.filter _) id, upds_lookup (l1.filter _) id, upds_filter H l2 wr2 id q2]
theorem putEnv_comm (env : Env) {d1 d2 : Option Nat} (v1 v2 : LV) (h : ∀ d, d1 = some d → d2 ≠ some d) : putEnv (putEnv env d1 v1) d2 v2 = putEnv (putEnv env d2 v2) d1 v1 := by
  cases d1 with
  | none => rfl
  | some d1 =>
    cases d2 with
    | none => rfl
    | some d2 =>
      have : d1 ≠ d2 := fun e => h d1 rfl (by rw [e])
      funext j
      simp only [putEnv, upd]
      by_cases h1 : j = d1
      · subst h1; rw [if_neg this]; simp
      · rw [if_neg h1, if_neg h1]
theorem putEnv_ne (env : Env) {d1 : Option Nat} (v : LV) {d : Nat} (h : d1 ≠ some d) : putEnv env d1 v d = env d := by
  cases d1 with
  | none => rfl
  | some d1 => simp only [putEnv, upd]; rw [if_neg (fun e => h (by rw [e]))]
theorem stepM_comm {l : List Oper} {orc : Nat → Option Orc} {o1 o2 : Oper} {hide1 wr1 hide2 wr2 : List Nat} (hap : o1.apart l.toArray o2 = true) (hs : sepB hide1 wr1 hide2 wr2 = true) (st : LSt) :
    stepM P T N (slotsOf N l) orc hide2 wr2 (stepM P T N (slotsOf N l) orc hide1 wr1 st o1) o2 = stepM P T N (slotsOf N l) orc hide1 wr1 (stepM P T N (slotsOf N l) orc hide2 wr2 st o2) o1 := by
  obtain ⟨a1, a2, a3⟩ := Oper.apart_spec hap
  simp only [sepB, Bool.and_eq_true, List.all_eq_true] at hs
  obtain ⟨s1, s2⟩ := hs
  have s3 : ∀ x ∈ wr1, hide2.contains x = true := fun x hx => (s1 x hx).1
  have s4 : ∀ x ∈ wr1, wr2.contains x = false := fun x hx => by simpa using (s1 x hx).2
  have e2 : evalG P T (slotsOf N l) (stepM P T N (slotsOf N l) orc hide1 wr1 st o1).env (maskE hide2 (stepM P T N (slotsOf N l) orc hide1 wr1 st o1).H) (orc (o2.dst.getD 0)) o2 = evalG P T (slotsOf N l) st.env (maskE hide2 st.H) (orc (o2.dst.getD 0)) o2 := by
    simp only [stepM]
    rw [mask_upds _ _ s3]
    exact evalG_congr fun d hd => putEnv_ne _ _ (fun e => a1 d e hd)
  have e1 : evalG P T (slotsOf N l) (stepM P T N (slotsOf N l) orc hide2 wr2 st o2).env (maskE hide1 (stepM P T N (slotsOf N l) orc hide2 wr2 st o2).H) (orc (o1.dst.getD 0)) o1 = evalG P T (slotsOf N l) st.env (maskE hide1 st.H) (orc (o1.dst.getD 0)) o1 := by
    simp only [stepM]
    rw [mask_upds _ _ s2]
    exact evalG_congr fun d hd => putEnv_ne _ _ (fun e => a3 d e hd)
  have f : ∀ (hide wr : List Nat) (st : LSt) (o : Oper), stepM P T N (slotsOf N l) orc hide wr st o = { env := putEnv st.env o.dst (evalG P T (slotsOf N l) st.env (maskE hide st.H) (orc (o.dst.getD 0)) o).v, H := upds st.H ((evalG P T (slotsOf N l) st.env (maskE hide st.H) (orc (o.dst.getD 0)) o).up.filter (wrIn wr)), ok := st.ok ∧ (evalG P T (slotsOf N l) st.env (maskE hide st.H) (orc (o.dst.getD 0)) o).ok ∧ dstOk N o.dst ∧ ∀ p ∈ (evalG P T (slotsOf N l) st.env (maskE hide st.H) (orc (o.dst.getD 0)) o).up, wrIn wr p = true } := fun _ _ _ _ => rfl
  rw [f hide2 wr2, f hide1 wr1 (stepM P T N (slotsOf N l) orc hide2 wr2 st o2), e1, e2]
  clear e1 e2
  simp only [stepM]
  clear f
  generalize evalG P T (slotsOf N l) st.env (maskE hide1 st.H) (orc (o1.dst.getD 0)) o1 = r1
  generalize evalG P T (slotsOf N l) st.env (maskE hide2 st.H) (orc (o2.dst.getD 0)) o2 = r2
  congr 1
  · exact putEnv_comm _ _ _ a2
  · exact upds_comm _ _ _ s4
  · refine propext ⟨?_, ?_⟩
    · rintro ⟨⟨h1, h2⟩, h3⟩; exact ⟨⟨h1, h3⟩, h2⟩
    · rintro ⟨⟨h1, h2⟩, h3⟩; exact ⟨⟨h1, h3⟩, h2⟩
def ins (S : Nat → Bool) (i : Nat) : Nat → Bool := fun j => S j || j == i
def foldS (f : LSt → Nat → LSt) (S : Nat → Bool) (st : LSt) : Nat → LSt
  | 0 => st
  | n + 1 => if S n then f (foldS f S st n) n else foldS f S st n
def missS (S : Nat → Bool) : Nat → Nat
  | 0 => 0
  | n + 1 => missS S n + (if S n then 0 else 1)
theorem foldS_congr {f : LSt → Nat → LSt} {S S' : Nat → Bool} {st : LSt} : ∀ n, (∀ j, j < n → S j = S' j) → foldS f S st n = foldS f S' st n
  | 0, _ => rfl
  | n + 1, h => by
    simp only [foldS]
    rw [h n (Nat.lt_succ_self n), foldS_congr n fun j hj => h j (Nat.lt_succ_of_lt hj)]
theorem missS_congr {S S' : Nat → Bool} : ∀ n, (∀ j, j < n → S j = S' j) → missS S n = missS S' n
  | 0, _ => rfl
  | n + 1, h => by
    simp only [missS]
    rw [h n (Nat.lt_succ_self n), missS_congr n fun j hj => h j (Nat.lt_succ_of_lt hj)]
theorem ins_ne {S : Nat → Bool} {i j : Nat} (h : j ≠ i) : ins S i j = S j := by simp [ins, h]
theorem ins_eq {S : Nat → Bool} {i : Nat} : ins S i i = true := by simp [ins]
theorem foldS_ins {f : LSt → Nat → LSt} {S : Nat → Bool} {st : LSt} {i : Nat} (hs : S i = false) : ∀ n, i < n → (∀ j, i < j → j < n → S j = true → ∀ st, f (f st i) j = f (f st j) i) → foldS f (ins S i) st n = f (foldS f S st n) i
  | 0, h, _ => absurd h (Nat.not_lt_zero i)
  | n + 1, h, hc => by
    simp only [foldS]
    by_cases e : n = i
    · subst e
      rw [ins_eq, if_pos rfl, hs, if_neg (by simp), foldS_congr n fun j hj => ins_ne (Nat.ne_of_lt hj)]
    · rw [ins_ne e, foldS_ins hs n (by omega) fun j h1 h2 => hc j h1 (by omega)]
      cases q : S n with
      | true => rw [if_pos rfl, if_pos rfl, hc n (by omega) (by omega) q]
      | false => rfl
theorem missS_ins {S : Nat → Bool} {i : Nat} (hs : S i = false) : ∀ n, i < n → missS (ins S i) n + 1 = missS S n
  | 0, h => absurd h (Nat.not_lt_zero i)
  | n + 1, h => by
    simp only [missS]
    by_cases e : n = i
    · subst e
      rw [ins_eq, if_pos rfl, hs, if_neg (by simp), missS_congr n fun j hj => ins_ne (Nat.ne_of_lt hj)]
    · rw [ins_ne e]
      have := missS_ins hs n (by omega)
      omega
theorem missS_zero {S : Nat → Bool} : ∀ n, missS S n = 0 → ∀ j, j < n → S j = true
  | 0, _, j, h => absurd h (Nat.not_lt_zero j)
  | n + 1, h, j, hj => by
    simp only [missS] at h
    by_cases e : j = n
    · subst e; cases q : S j with | true => rfl | false => rw [q] at h; simp at h
    · exact missS_zero n (by omega) j (by omega)
theorem foldS_ok {f : LSt → Nat → LSt} (hf : ∀ st i, (f st i).ok → st.ok) {cl : Nat → List Nat} {n : Nat} (hcl : ∀ j, j < n → ∀ i ∈ cl j, i < j) (hc : ∀ i j, i < j → j < n → i ∉ cl j → ∀ st, f (f st i) j = f (f st j) i)
    {S : Nat → Bool} (hS : ∀ j, j < n → S j = true → ∀ i ∈ cl j, S i = true) {st : LSt} : ∀ m, m ≤ n → (foldS f (fun j => S j || decide (j < m)) st n).ok → (foldS f S st n).ok
  | 0, _, h => by
    rw [foldS_congr n (S' := S) fun j _ => by simp] at h
    exact h
  | m + 1, hm, h => by
    refine foldS_ok hf hcl hc hS m (by omega) ?_
    cases q : S m with
    | true =>
      rw [foldS_congr n (S' := fun j => S j || decide (j < m + 1)) fun j _ => ?_]
      · exact h
      · by_cases e : j = m
        · subst e; simp [q]
        · have : (j < m + 1) = (j < m) := by apply propext; omega
          simp only [this]
    | false =>
      have e : foldS f (fun j => S j || decide (j < m + 1)) st n = foldS f (ins (fun j => S j || decide (j < m)) m) st n := foldS_congr n fun j _ => by
        unfold ins
        by_cases e : j = m
        · subst e; simp
        · have : (j < m + 1) = (j < m) := by apply propext; omega
          simp only [this]
          simp [e]
      rw [e, foldS_ins (by simp [q]) n (by omega) fun j h1 h2 h3 => hc m j h1 h2 fun hin => ?_] at h
      · exact hf _ _ h
      · simp only [Bool.or_eq_true, decide_eq_true_eq] at h3
        rcases h3 with h3 | h3
        · rw [hS j h2 h3 m hin] at q; cases q
        · omega
def stepI (P : Program) (T : TypeId → TyI) (N : Nat) (l : List Oper) (orc : Nat → Option Orc) (hide wr : Nat → List Nat) (st : LSt) (i : Nat) : LSt :=
  match l[i]? with
  | some o => stepM P T N (slotsOf N l) orc (hide i) (wr i) st o
  | none => st
def anyChk (l : List Oper) (cl hide wr : Nat → List Nat) : Bool := (List.range l.length).all fun j => match l[j]? with
  | none => true
  | some o =>
    o.after.all (fun e => !Region.binds .any e || decide (e.on < j)) &&
    (cl j).all (fun i => decide (i < j) && o.after.any (fun e => Region.binds .any e && (e.on == i || (cl e.on).contains i))) &&
    !(hide j).contains (o.dst.getD 0 % 1000) &&
    (List.range j).all (fun i => (cl j).contains i || match l[i]? with
      | none => true
      | some o' => o'.apart l.toArray o && sepB (hide i) (wr i) (hide j) (wr j))
section
variable {l : List Oper} {cl hide wr : Nat → List Nat} {orc : Nat → Option Orc}
structure AnyOk (l : List Oper) (cl hide wr : Nat → List Nat) : Prop where
  edge : ∀ j o, l[j]? = some o → ∀ e ∈ o.after, Region.binds .any e = true → e.on < j
  low : ∀ j, j < l.length → ∀ i ∈ cl j, i < j
  clo : ∀ j o, l[j]? = some o → ∀ i ∈ cl j, ∃ e ∈ o.after, Region.binds .any e = true ∧ (e.on = i ∨ i ∈ cl e.on)
  dst : ∀ j o, l[j]? = some o → (hide j).contains (o.dst.getD 0 % 1000) = false
  sep : ∀ i j o' o, i < j → l[i]? = some o' → l[j]? = some o → i ∉ cl j → o'.apart l.toArray o = true ∧ sepB (hide i) (wr i) (hide j) (wr j) = true
theorem anyChk_ok (h : anyChk l cl hide wr = true) : AnyOk l cl hide wr := by
  have k : ∀ j o, l[j]? = some o → _ := fun j o hj => by
    have h' := List.all_eq_true.1 h j (List.mem_range.2 (List.getElem?_eq_some_iff.1 hj).1)
    rw [hj] at h'
    simp only [Bool.and_eq_true] at h'
    exact h'
  refine ⟨fun j o hj e he hb => ?_, fun j hj i hi => ?_, fun j o hj i hi => ?_, fun j o hj => ?_, fun i j o' o hij hi hj hn => ?_⟩
  · have := Array.all_eq_true_iff_forall_mem.1 (k j o hj).1.1.1 e he
    simpa [hb] using this
  · obtain ⟨o, ho⟩ : ∃ o, l[j]? = some o := ⟨_, List.getElem?_eq_getElem hj⟩
    have := List.all_eq_true.1 (k j o ho).1.1.2 i hi
    simp only [Bool.and_eq_true, decide_eq_true_eq] at this
    exact this.1
  · have := List.all_eq_true.1 (k j o hj).1.1.2 i hi
    simp only [Bool.and_eq_true, decide_eq_true_eq] at this
    obtain ⟨p, hp, he⟩ := Array.any_eq_true.1 this.2
    simp only [Bool.and_eq_true, Bool.or_eq_true, beq_iff_eq, List.contains_iff_mem] at he
    exact ⟨_, Array.getElem_mem hp, he.1, he.2⟩
  · simpa using (k j o hj).1.2
  · have := List.all_eq_true.1 (k j o hj).2 i (List.mem_range.2 hij)
    simp only [Bool.or_eq_true, List.contains_iff_mem, hi, Bool.and_eq_true] at this
    exact this.resolve_left hn
theorem stepI_mono (st : LSt) (i : Nat) (h : (stepI P T N l orc hide wr st i).ok) : st.ok := by
  unfold stepI at h
  split at h
  · exact h.1
  · exact h
theorem AnyOk.comm (A : AnyOk l cl hide wr) (i j : Nat) (hij : i < j) (hj : j < l.length) (hn : i ∉ cl j) (st : LSt) :
    stepI P T N l orc hide wr (stepI P T N l orc hide wr st i) j = stepI P T N l orc hide wr (stepI P T N l orc hide wr st j) i := by
  obtain ⟨o, ho⟩ : ∃ o, l[j]? = some o := ⟨_, List.getElem?_eq_getElem hj⟩
  obtain ⟨o', ho'⟩ : ∃ o, l[i]? = some o := ⟨_, List.getElem?_eq_getElem (by omega)⟩
  unfold stepI
  simp only [ho, ho']
  obtain ⟨h1, h2⟩ := A.sep i j o' o hij ho' ho hn
  exact stepM_comm h1 h2 st
def runM (P : Program) (T : TypeId → TyI) (N : Nat) (l : List Oper) (orc : Nat → Option Orc) (hide wr : Nat → List Nat) (st : LSt) : LSt := foldS (stepI P T N l orc hide wr) (fun _ => true) st l.length
theorem foldS_only {f f' : LSt → Nat → LSt} {S : Nat → Bool} {n0 : Nat} {st : LSt} (h : ∀ q, S q = true → q < n0 → ∀ st, f st q = f' st q) : ∀ n, n ≤ n0 → foldS f S st n = foldS f' S st n
  | 0, _ => rfl
  | n + 1, hn => by
    simp only [foldS]
    rw [foldS_only h n (by omega)]
    split
    · rename_i hs; exact h n hs (by omega) _
    · rfl
theorem any_sound (hT : TOk P T) (hW : TWf T) (A : AnyOk l cl hide wr) {st : LSt} {ι : Type} {orcs : ι → Nat → Option Orc} {Φ : ι → Prop} {d0 : Nat} (G : Guess orcs Φ d0) (hc1 : ∀ (i j : Nat) (o o' : Oper), l[i]? = some o → l[j]? = some o' → o.dst.getD 0 = d0 → o'.dst.getD 0 = d0 → i = j) (hok : ∀ i, Φ i → (runM P T N l (orcs i) hide wr st).ok) {Q : Exit → Act → World → Prop}
    (hQ : ∀ i, Φ i → ∀ β a w, Sim N w0 X (runM P T N l (orcs i) hide wr st).env (runM P T N l (orcs i) hide wr st).H β a w → Q .normal a w) :
    ∀ (ι0 : ι), Φ ι0 → ∀ (fuel : Nat) (listed : Array Bool) (β : Nat → Option Nat) (a : Act) (w : World), listed.size = l.length → missS (fun j => listed.getD j false) l.length ≤ fuel → (∀ j, j < l.length → listed.getD j false = true → ∀ i ∈ cl j, listed.getD i false = true) →
      Sim N w0 X (foldS (stepI P T N l (orcs ι0) hide wr) (fun j => listed.getD j false) st l.length).env (foldS (stepI P T N l (orcs ι0) hide wr) (fun j => listed.getD j false) st l.length).H β a w → wpAny P .any l.toArray Q fuel listed a w := by
  have all : ∀ (ι0 : ι), Φ ι0 → ∀ (listed : Array Bool) (β : Nat → Option Nat) (a : Act) (w : World), Region.ready .any l.toArray listed = [] → listed.size = l.length → Sim N w0 X (foldS (stepI P T N l (orcs ι0) hide wr) (fun j => listed.getD j false) st l.length).env (foldS (stepI P T N l (orcs ι0) hide wr) (fun j => listed.getD j false) st l.length).H β a w → Q .normal a w := by
    intro ι0 hΦ listed β a w hr hsz hs
    have : ∀ j, j < l.length → listed.getD j false = true := by
      intro j
      induction j using Nat.strongRecOn with
      | ind j ih =>
        intro hj
        cases q : listed.getD j false with
        | true => rfl
        | false =>
          exfalso
          obtain ⟨o, ho⟩ : ∃ o, l[j]? = some o := ⟨_, List.getElem?_eq_getElem hj⟩
          have : j ∈ Region.ready .any l.toArray listed := mem_ready.2 ⟨by
            simp only [Array.getD_eq_getD_getElem?] at q ⊢
            rw [Array.getElem?_eq_getElem (by omega)] at q ⊢
            exact q, o, by simpa using ho, fun e he hb => ih e.on (A.edge j o ho e he hb) (Nat.lt_trans (A.edge j o ho e he hb) hj)⟩
          rw [hr] at this
          cases this
    rw [foldS_congr (S' := fun _ => true) l.length this] at hs
    exact hQ ι0 hΦ β a w hs
  intro ι0 hΦ fuel
  induction fuel generalizing ι0 with
  | zero =>
    intro listed β a w hsz hm hc hs
    have hr : Region.ready .any l.toArray listed = [] := by
      cases hr : Region.ready .any l.toArray listed with
      | nil => rfl
      | cons i r =>
        exfalso
        have hi : i ∈ Region.ready .any l.toArray listed := by rw [hr]; exact List.mem_cons_self
        obtain ⟨h0, o, ho, _⟩ := mem_ready.1 hi
        have hlt : i < l.length := by have := (Array.getElem?_eq_some_iff.1 ho).1; simpa using this
        have := missS_zero l.length (Nat.le_zero.1 hm) i hlt
        simp only [Array.getD_eq_getD_getElem?] at h0 this
        rw [Array.getElem?_eq_getElem (by omega)] at h0 this
        simp only [Option.getD_some] at h0 this
        rw [h0] at this; cases this
    exact ⟨hr, all ι0 hΦ listed β a w hr hsz hs⟩
  | succ fuel ih =>
    intro listed β a w hsz hm hc hs
    refine ⟨fun hr => all ι0 hΦ listed β a w hr hsz hs, fun i hi => ?_⟩
    obtain ⟨h0, o, ho, hall⟩ := mem_ready.1 hi
    have hlt : i < l.length := by have := (Array.getElem?_eq_some_iff.1 ho).1; simpa using this
    have ho' : l[i]? = some o := by simpa using ho
    have hf : listed.getD i false = false := by
      simp only [Array.getD_eq_getD_getElem?] at h0 ⊢
      rw [Array.getElem?_eq_getElem (by omega)] at h0 ⊢
      exact h0
    have hi' : ∀ k, (listed.setIfInBounds i true).getD k false = ins (fun j => listed.getD j false) i k := by
      intro k
      by_cases e : k = i
      · subst e; rw [ins_eq]; simp [hsz, hlt]
      · rw [ins_ne e]; exact getD_set_ne false (Ne.symm e)
    have hcl : ∀ k ∈ cl i, listed.getD k false = true := by
      intro k hk
      obtain ⟨e, he, hb, hor⟩ := A.clo i o ho' k hk
      have := hall e he hb
      rcases hor with hor | hor
      · rw [← hor]; exact this
      · exact hc e.on (Nat.lt_trans (A.edge i o ho' e he hb) hlt) this k hor
    have hc' : ∀ j, j < l.length → (listed.setIfInBounds i true).getD j false = true → ∀ k ∈ cl j, (listed.setIfInBounds i true).getD k false = true := by
      intro j hj hjl k hk
      rw [hi'] at hjl ⊢
      have : listed.getD k false = true := by
        by_cases e : j = i
        · subst e; exact hcl k hk
        · rw [ins_ne e] at hjl; exact hc j hj hjl k hk
      simp [ins, this]
    have e1 : ∀ ι0 : ι, foldS (stepI P T N l (orcs ι0) hide wr) (fun j => (listed.setIfInBounds i true).getD j false) st l.length = stepI P T N l (orcs ι0) hide wr (foldS (stepI P T N l (orcs ι0) hide wr) (fun j => listed.getD j false) st l.length) i := fun ι0 => by
      rw [foldS_congr (S' := ins (fun j => listed.getD j false) i) l.length fun j _ => hi' j]
      exact foldS_ins hf l.length hlt fun j h1 h2 h3 => A.comm i j h1 h2 fun hin => by
        have := hc j h2 h3 i hin
        rw [hf] at this; cases this
    have okk : ∀ ι0, Φ ι0 → (foldS (stepI P T N l (orcs ι0) hide wr) (fun j => (listed.setIfInBounds i true).getD j false) st l.length).ok := fun ι0 hΦ => by
      refine foldS_ok stepI_mono A.low A.comm hc' l.length (Nat.le_refl _) ?_
      rw [foldS_congr (S' := fun _ => true) l.length fun j hj => by simp [hj]]
      exact hok ι0 hΦ
    have e2 : ∀ ι0 st, stepI P T N l (orcs ι0) hide wr st i = stepM P T N (slotsOf N l) (orcs ι0) (hide i) (wr i) st o := fun ι0 st => by unfold stepI; rw [ho']
    -- a choice for this operation: what was done before does not hang on it
    have key : ∀ r', Alt (orcs ι0 (o.dst.getD 0)) r' → ∃ j, Φ j ∧ (∀ st, stepM P T N (slotsOf N l) (fun _ => r') (hide i) (wr i) st o = stepM P T N (slotsOf N l) (orcs j) (hide i) (wr i) st o) ∧
        foldS (stepI P T N l (orcs ι0) hide wr) (fun j => listed.getD j false) st l.length = foldS (stepI P T N l (orcs j) hide wr) (fun j => listed.getD j false) st l.length := fun r' hr => by
      by_cases hd : o.dst.getD 0 = d0
      · rw [hd] at hr
        obtain ⟨j, hj, e⟩ := G.alt ι0 hΦ r' hr
        refine ⟨j, hj, fun st => by unfold stepM; rw [hd, e], foldS_only (fun q hq hql st => ?_) l.length (Nat.le_refl _)⟩
        have hqi : q ≠ i := fun h => by
          have hq' : listed.getD q false = true := hq
          rw [h, hf] at hq'; cases hq'
        unfold stepI
        cases hoq : l[q]? with
        | none => rfl
        | some oq =>
          have : oq.dst.getD 0 ≠ d0 := fun h => hqi (hc1 q i oq o hoq ho' h hd)
          simp only []
          unfold stepM
          rw [G.base ι0 j hΦ hj _ this]
      · have := (G.det ι0 hΦ _ hd).2 r' hr
        subst this
        exact ⟨ι0, hΦ, fun st => rfl, rfl⟩
    have hself : Alt (orcs ι0 (o.dst.getD 0)) (orcs ι0 (o.dst.getD 0)) := by
      by_cases hd : o.dst.getD 0 = d0
      · rw [hd]; exact G.self ι0 hΦ
      · exact (G.det ι0 hΦ _ hd).1
    have := stepM_sound (P := P) (T := T) hT hW (ops := l.toArray) (slotsOf_ok N l) (A.dst i o ho') hs hself (r := orcs ι0 (o.dst.getD 0)) (fun r' hr => by
        obtain ⟨j, hj, h1, h2⟩ := key r' hr
        have := okk j hj
        rw [e1, e2] at this
        rw [h1, h2]; exact this) (K := wpAny P .any l.toArray Q fuel (listed.setIfInBounds i true)) (Q := Q) fun r' hr a' w' β' s' => by
      obtain ⟨j, hj, h1, h2⟩ := key r' hr
      rw [h1, h2] at s'
      exact ih j hj (listed.setIfInBounds i true) β' a' w' (by simpa using hsz) (by
        rw [missS_congr (S' := ins (fun j => listed.getD j false) i) l.length fun j _ => hi' j]
        have := missS_ins (S := fun j => listed.getD j false) hf l.length hlt
        omega) hc' (by rw [e1, e2]; exact s')
    unfold wpOp
    simp only [ho]
    exact this
theorem Sim.drew {env : Env} {H : Obs} {β : Nat → Option Nat} (s : Sim N w0 X env H β a w) : Sim N w0 X env H β a { w with drawn := w.drawn + 1 } := by
  have hb : Bel w.heap.size w { w with drawn := w.drawn + 1 } := ⟨rfl, rfl, rfl, Nat.le_refl _, fun _ _ => rfl, Nat.le_succ _⟩
  obtain ⟨m, g⟩ := s.mem.grow hb
  exact s.put (dst := none) (v := .slice none 0 0) (l := .junk) m g (.junk _) (by trivial)
theorem slot_top : ∀ l : List Oper, ∃ d0, ∀ o ∈ l, o.dst.getD 0 < d0
  | [] => ⟨0, fun o ho => by cases ho⟩
  | o :: l => by
    obtain ⟨d, hd⟩ := slot_top l
    refine ⟨d + o.dst.getD 0 + 1, fun o' ho' => ?_⟩
    rcases List.mem_cons.1 ho' with h | h
    · rw [h]; exact Nat.lt_succ_of_le (Nat.le_add_left _ _)
    · exact Nat.lt_of_lt_of_le (hd o' h) (Nat.le_succ_of_le (Nat.le_add_right _ _))
theorem LWp.regAnyG (hT : TOk P T) (hW : TWf T) (hm : P.follows .mixedOrders = true) {id : Nat} {Q : LX → Env → Obs → Prop} {env : Env} {H : Obs} (cl hide wr : Nat → List Nat) (hA : anyChk l cl hide wr = true) {ι : Type} {orcs : ι → Nat → Option Orc} {Φ : ι → Prop} {d0 : Nat} (G : Guess orcs Φ d0) (i0 : ι) (h0 : Φ i0)
    (hc1 : ∀ (i j : Nat) (o o' : Oper), l[i]? = some o → l[j]? = some o' → o.dst.getD 0 = d0 → o'.dst.getD 0 = d0 → i = j)
    (h : ∀ i, Φ i → (runM P T N l (orcs i) hide wr ⟨env, H, True⟩).ok ∧ Q .normal (runM P T N l (orcs i) hide wr ⟨env, H, True⟩).env (runM P T N l (orcs i) hide wr ⟨env, H, True⟩).H) :
    LWp P N w0 X (.region id l.toArray true) Q env H := by
  intro β a w s
  refine wp_region_any hm ?_
  have e0 : ∀ n, foldS (stepI P T N l (orcs i0) hide wr) (fun j => (Array.replicate l.toArray.size false).getD j false) ⟨env, H, True⟩ n = ⟨env, H, True⟩ := fun n => by
    induction n with
    | zero => rfl
    | succ n ih => simp only [foldS]; rw [if_neg (by simp [Array.getElem?_replicate]; split <;> rfl)]; exact ih
  refine any_sound hT hW (anyChk_ok hA) G hc1 (fun i hi => (h i hi).1) (fun i hi β' a' w' s' => ⟨.normal, _, _, β', trivial, s', (h i hi).2⟩) i0 h0 _ _ β a _ (by simp) ?_ (fun j _ hj => ?_) ?_
  · have : ∀ S n, missS S n ≤ n := fun S n => by
      induction n with
      | zero => exact Nat.le_refl 0
      | succ n ih => simp only [missS]; split <;> omega
    simpa using this _ l.length
  · exfalso; simp [Array.getElem?_replicate] at hj; split at hj <;> cases hj
  · rw [e0]; exact s.drew
theorem LWp.regAny (hT : TOk P T) (hW : TWf T) (hm : P.follows .mixedOrders = true) {id : Nat} {Q : LX → Env → Obs → Prop} {env : Env} {H : Obs} (cl hide wr : Nat → List Nat) (hA : anyChk l cl hide wr = true) (orc : Nat → Option Orc) (hdet : ∀ d, DetS (orc d))
    (h : (runM P T N l orc hide wr ⟨env, H, True⟩).ok ∧ Q .normal (runM P T N l orc hide wr ⟨env, H, True⟩).env (runM P T N l orc hide wr ⟨env, H, True⟩).H) :
    LWp P N w0 X (.region id l.toArray true) Q env H := by
  -- a slot that no operation writes
  obtain ⟨d0, hd0⟩ := slot_top l
  exact LWp.regAnyG hT hW hm cl hide wr hA (ι := Unit) (orcs := fun _ => orc) (Φ := fun _ => True) (d0 := d0) ⟨fun _ _ _ _ _ _ => rfl, fun _ _ d _ => hdet d, fun _ _ => (hdet _).1, fun _ _ r' hr => ⟨(), trivial, ((hdet _).2 r' hr).symm⟩⟩ () trivial
    (fun i j o o' h1 h2 h3 _ => absurd h3 (Nat.ne_of_lt (hd0 o (List.mem_of_getElem? h1)))) fun _ _ => h
theorem LWp.regAny1 (hT : TOk P T) (hW : TWf T) (hm : P.follows .mixedOrders = true) {id : Nat} {Q : LX → Env → Obs → Prop} {env : Env} {H : Obs} (cl hide wr : Nat → List Nat) (hA : anyChk l cl hide wr = true) {ι : Type} (d0 : Nat) (base : Nat → Option Orc) (g : ι → Orc) (Φ : ι → Prop)
    (hdet : ∀ d, DetS (base d)) (hs : ∀ i, Φ i → Alt (some (g i)) (some (g i))) (ha : ∀ i, Φ i → ∀ r', Alt (some (g i)) r' → ∃ j, Φ j ∧ some (g j) = r') (i0 : ι) (h0 : Φ i0)
    (hc1 : ((List.range l.length).filter fun i => match l[i]? with | some o => o.dst.getD 0 == d0 | none => false).length ≤ 1)
    (h : ∀ i, Φ i → (runM P T N l (gorc d0 base g i) hide wr ⟨env, H, True⟩).ok ∧ Q .normal (runM P T N l (gorc d0 base g i) hide wr ⟨env, H, True⟩).env (runM P T N l (gorc d0 base g i) hide wr ⟨env, H, True⟩).H) :
    LWp P N w0 X (.region id l.toArray true) Q env H := by
  refine LWp.regAnyG hT hW hm cl hide wr hA (gorc_guess hdet hs ha) i0 h0 (fun i j o o' h1 h2 h3 h4 => ?_) h
  have hi : i ∈ (List.range l.length).filter fun i => match l[i]? with | some o => o.dst.getD 0 == d0 | none => false := List.mem_filter.2 ⟨List.mem_range.2 (List.getElem?_eq_some_iff.1 h1).1, by simp [h1, h3]⟩
  have hj : j ∈ (List.range l.length).filter fun i => match l[i]? with | some o => o.dst.getD 0 == d0 | none => false := List.mem_filter.2 ⟨List.mem_range.2 (List.getElem?_eq_some_iff.1 h2).1, by simp [h2, h4]⟩
  have : ∀ (L : List Nat), L.length ≤ 1 → i ∈ L → j ∈ L → i = j := fun L hL h1 h2 => by
    match L, hL, h1, h2 with
    | [x], _, h1, h2 => exact (List.mem_singleton.1 h1).trans (List.mem_singleton.1 h2).symm
  exact this _ hc1 hi hj
end
end
end Go.Eng
namespace Go.Eng
open Go.RowKit
def lk (l : List (List Nat)) (j : Nat) : List Nat := l.getD j []
section
variable {P : Program} {T : TypeId → TyI} {N : Nat} {w0 : Base} {X : Nat → Prop} {Q : LX → Env → Obs → Prop} {env env' env'' : Env} {H H' H'' : Obs}
def condQ (l : LV) (A B : Prop) : Prop := match l with
  | .d (.bool b) => (b = true → A) ∧ (b = false → B)
  | _ => False
theorem condQ_bool {b : Bool} {A B : Prop} : condQ (.d (.bool b)) A B ↔ (b = true → A) ∧ (b = false → B) := Iff.rfl
theorem LWp.iff {c : Operand} {x y : Code} (h : condQ (opLV env c) (LWp P N w0 X x Q env H) (LWp P N w0 X y Q env H)) : LWp P N w0 X (.cond c x y) Q env H := by
  unfold condQ at h
  split at h
  · rename_i b e
    exact .cond e h.1 h.2
  · exact h.elim
theorem Weak.to (keep : List Nat) (σ : List (Nat × Nat)) (hσ : (σ.map (·.2)).Nodup) (hσ1 : (σ.map (·.1)).Nodup) (hpin : ∀ id ∈ w0.pins, lookN σ id = some id) (hE : mkEnv (keep.map fun t => (t, ren σ 8 (env t))) = env') (hH : mkObs (σ.map fun p => (p.2, renO σ (H p.1))) = H') : Weak w0 env H env' H' := by
  subst hE; subst hH
  exact Weak.shrink keep σ hσ hσ1 hpin
def loopQ (w0 : Base) {ι : Type} (E : ι → Env) (O : ι → Obs) (I : ι → Prop) (μ : ι → Nat) (i : ι) (env' : Env) (H' : Obs) : Prop := ∃ j, Weak w0 env' H' (E j) (O j) ∧ I j ∧ μ j < μ i
theorem loopQ.mk {ι : Type} {E : ι → Env} {O : ι → Obs} {I : ι → Prop} {μ : ι → Nat} {i : ι} (j : ι) (hw : Weak w0 env H (E j) (O j)) (hI : I j) (hμ : μ j < μ i) : loopQ w0 E O I μ i env H := ⟨j, hw, hI, hμ⟩
def retQ (t : Nat) (fresh : Bool) (r : RV) (x : LX) (env : Env) (H : Obs) : Prop := (match x with | .exit _ => False | _ => True) ∧ RetIs H fresh (env t) r
def retQ2 (t u : Nat) (fresh : Bool) (r : RV) (y : DV) (x : LX) (env : Env) (H : Obs) : Prop := (match x with | .exit _ => False | _ => True) ∧ RetIs H fresh (env t) r ∧ RetIs H fresh (env u) (.d y)
theorem retQ_ret {t : Nat} {fresh : Bool} {r : RV} : retQ t fresh r .ret env H ↔ RetIs H fresh (env t) r := by simp [retQ]
theorem retQ2_ret {t u : Nat} {fresh : Bool} {r : RV} {y : DV} : retQ2 t u fresh r y .ret env H ↔ RetIs H fresh (env t) r ∧ RetIs H fresh (env u) (.d y) := by simp [retQ2]
theorem LWp.loopW {c : Code} {ι : Type} (E : ι → Env) (O : ι → Obs) (I : ι → Prop) (μ : ι → Nat) (i : ι) (he : Weak w0 env H (E i) (O i)) (h0 : I i)
    (round : ∀ i, I i → LWp P N w0 X c (seqQ (loopQ w0 E O I μ i) Q) (E i) (O i)) : LWp P N w0 X (.loop c) Q env H := by
  refine LWp.weak he ?_
  intro β a w s
  have key : ∀ n i, μ i = n → I i → ∀ β a w, Sim N w0 X (E i) (O i) β a w → (Code.loop c).wp P (fun e a' w' => ∃ x env' H' β', exitIs e x ∧ Sim N w0 X env' H' β' a' w' ∧ Q x env' H') a w := by
    intro n i hn hI β a w s
    refine wp_loop_rel (fun n a w => ∃ i β, μ i = n ∧ I i ∧ Sim N w0 X (E i) (O i) β a w) n ⟨i, β, hn, hI, s⟩ fun n' a' w' ⟨i', β', h1, h2, h3⟩ => ?_
    refine wp_mono (round i' h2 β' a' w' h3) ?_
    rintro e a2 w2 ⟨lx, env', H', β2, g1, g2, g3⟩
    cases e <;> cases lx <;> simp only [exitIs] at g1
    · obtain ⟨j, e1, e3, e4⟩ := g3
      obtain ⟨β3, s3⟩ := e1 _ _ _ _ _ g2
      exact ⟨μ j, by omega, j, β3, rfl, e3, s3⟩
    · subst g1; exact ⟨.exit _, env', H', β2, rfl, g2, g3⟩
    · exact ⟨.ret, env', H', β2, trivial, g2, g3⟩
  exact key _ i rfl h0 β a w s
theorem RVok.anti {w w' : World} {E E' : Nat → Prop} (hE : ∀ k, E' k → E k) {B : Option Nat} {r : RV} {v : Value} (h : RVok w w' E B r v) : RVok w w' E' B r v := by
  cases r with
  | d x => exact RD.anti hE h
  | own s xs =>
    obtain ⟨h1, h2, h3⟩ := h
    refine ⟨h1, h2, ?_⟩
    rcases h3 with h3 | ⟨b, c, cur, e, g1, g2, g3, g4, g5, g6, g7, g8⟩
    · exact .inl h3
    · exact .inr ⟨b, c, cur, e, g1, g2, g3, g4, g5, g6, g7, fun i d v hd hv => ⟨(g8 i d v hd hv).1, (g8 i d v hd hv).2.anti hE⟩⟩
  | tup _ => exact h
theorem Ok.two {f : FuncId} {fn : Func} {c : Code} {args : List DV} {r1 : RV} {y : DV} {fresh : Bool} {n t u : Nat} (hf : P.funcs[f]? = some fn) (hname : (fn.name == "runtime.NumGoroutine") = false) (hb : fn.body = some c) (hn : fn.ntmps = n) (hargs : args.length ≤ n) (hres : fn.results = #[.tmp t, .tmp u])
    (hy : memless y = true) (h : ∀ w0 X, w0.pins = [] → LWp P n w0 X c (retQ2 t u fresh r1 y) (argsEnv args) (mkObs [])) : Ok P f args ⟨.tup [r1, .d y], fresh⟩ := by
  refine Ok.of_body hf hname hb hn hargs fun w0 X hpn => (h w0 X hpn).mono fun x env H ⟨h1, h2, h3⟩ => ⟨h1, fun β a w s => ⟨_, results_tmp2 hres _ _ _, ?_⟩⟩
  obtain ⟨B, hB⟩ := ret_one hpn s (s.env t) h2
  obtain ⟨B', hB'⟩ := ret_one hpn s (s.env u) h3
  refine ⟨[a.tmps.getD t undef, a.tmps.getD u undef], fun i => if i = 0 then B else none, rfl, rfl, fun i j b hi hj => ?_, fun i r v hr hv => ?_⟩
  · simp only at hi hj
    by_cases h1 : i = 0
    · by_cases h2 : j = 0
      · omega
      · rw [if_neg h2] at hj; cases hj
    · rw [if_neg h1] at hi; cases hi
  · match i, hr, hv with
    | 0, hr, hv =>
      injection hr with hr; injection hv with hv
      subst hr; subst hv
      simp only [if_pos]
      refine RVok.anti (fun k hk => ?_) hB
      rcases hk with hk | ⟨j, hj⟩
      · exact .inl hk
      · by_cases h2 : j = 0
        · rw [if_pos h2] at hj; exact .inr hj
        · rw [if_neg h2] at hj; cases hj
    | 1, hr, hv =>
      injection hr with hr; injection hv with hv
      subst hr; subst hv
      simp only [RVok] at hB' ⊢
      exact hB'.memless hy
theorem Ok.ret {f : FuncId} {fn : Func} {c : Code} {args : List DV} {r : RV} {fresh : Bool} {n t : Nat} (hf : P.funcs[f]? = some fn) (hname : (fn.name == "runtime.NumGoroutine") = false) (hb : fn.body = some c) (hn : fn.ntmps = n) (hargs : args.length ≤ n) (hres : fn.results = #[.tmp t])
    (hrt : ∀ rs, r ≠ .tup rs) (h : ∀ w0 X, w0.pins = [] → LWp P n w0 X c (retQ t fresh r) (argsEnv args) (mkObs [])) : Ok P f args ⟨r, fresh⟩ := Ok.one hf hname hb hn hargs hres hrt h
def loadR (T : TypeId → TyI) (H : Obs) (ty : TypeId) (l : LV) : Res := match l with
  | .bx id 0 => match H id with
    | .box _ cs => .cond (takeL (T ty).k.agg (T ty).size 0 cs) ((T ty).k.isNone = false ∧ (T ty).size ≤ cs.length ∧ ((T ty).k.agg = false → (T ty).size = 1))
    | _ => .fail
  | _ => .fail
theorem loadR_sound (hT : TOk P T) {β : Nat → Option Nat} {a : Act} {w : World} (s : Sim N w0 X env H β a w) {t : Nat} {ty : TypeId} (hok : (loadR T H ty (env t)).ok) :
    ∃ v, (((asAddr (a.tmps.getD t undef)).run P w).andThen fun a w => (loadVar ty a).run P w) = .ok v w ∧ R w (Ex X β H) β H (loadR T H ty (env t)).v v := by
  have hx := s.env t
  generalize env t = l at *
  unfold loadR at *
  split at hok
  · rename_i id
    split at hok
    · rename_i fz cs hH
      simp only [Res.cond] at hok ⊢
      obtain ⟨ht, hle, hs⟩ := hok
      have hob := s.obj id
      simp only [ObjR, hH] at hob
      obtain ⟨b, e, us, hb, hblk, hlen, h1, hp⟩ := hob
      generalize hval : a.tmps.getD t undef = vx at hx
      cases hx with
      | bx _ _ b' _ _ _ hb' =>
        rw [hb] at hb'; injection hb' with hb'; subst hb'
        have := run_loadVar (P := P) (w := w) (b := b) (off := 0) (us := (us.drop 0).take (T ty).size) hT ht (by simp; omega) hs (fun j u hu => by
          rw [cell_of_row w b _ us.toArray e (0, 0) hblk]
          rw [List.getElem?_take] at hu
          split at hu
          · simpa using hu
          · cases hu)
        refine ⟨_, ?_, takeL_R hlen.symm h1 (by omega) hs hp⟩
        simp only [asAddr, Sem.run_pure, Result.andThen_ok, this]
      | bxdead _ _ _ hd => rw [hH] at hd; cases hd
    · exact hok.elim
  · exact hok.elim
def retC (T : TypeId → TyI) (t : Nat) (ty : TypeId) (fresh : Bool) (r : RV) (x : LX) (env : Env) (H : Obs) : Prop := (match x with | .exit _ => False | _ => True) ∧ (loadR T H ty (env t)).ok ∧ RetIs H fresh (loadR T H ty (env t)).v r
theorem retC_ret {T : TypeId → TyI} {t : Nat} {ty : TypeId} {fresh : Bool} {r : RV} : retC T t ty fresh r .ret env H ↔ (loadR T H ty (env t)).ok ∧ RetIs H fresh (loadR T H ty (env t)).v r := by simp [retC]
theorem Ok.cell (hT : TOk P T) {f : FuncId} {fn : Func} {c : Code} {args : List DV} {r : RV} {fresh : Bool} {n t : Nat} {ty : TypeId} (hf : P.funcs[f]? = some fn) (hname : (fn.name == "runtime.NumGoroutine") = false) (hb : fn.body = some c) (hn : fn.ntmps = n) (hargs : args.length ≤ n) (hres : fn.results = #[.cell t ty])
    (hrt : ∀ rs, r ≠ .tup rs) (h : ∀ w0 X, w0.pins = [] → LWp P n w0 X c (retC T t ty fresh r) (argsEnv args) (mkObs [])) : Ok P f args ⟨r, fresh⟩ := by
  refine Ok.of_body hf hname hb hn hargs fun w0 X hpn => (h w0 X hpn).mono fun x env H ⟨h1, h2, h3⟩ => ⟨h1, fun β a w s => ?_⟩
  obtain ⟨v, hv, hr⟩ := loadR_sound hT s h2
  refine ⟨v, ?_, ?_⟩
  · simp only [results, hres]
    simpa [Sem.run_bind, Result.andThen] using hv
  obtain ⟨B, hB⟩ := ret_one hpn s hr h3
  cases q : r with
  | tup rs => exact absurd q (hrt rs)
  | d x => rw [q] at hB; exact ⟨B, hB⟩
  | own sz xs => rw [q] at hB; exact ⟨B, hB⟩
section
variable {n k off id j m : Nat} {cs : List LV} {f : FuncId} {x : DV} {σ : List (Nat × Nat)} {l : List (Nat × LV)} {lo : List (Nat × LObj)}
theorem mkEnv_at : mkEnv l j = lookL l j := rfl
theorem mkObs_at : mkObs lo j = lookH lo j := rfl
theorem close_d : close H (n + 1) (.d x) = some x := rfl
theorem close_agg : close H (n + 1) (.agg cs) = (optAll (cs.map (close H n))).map .agg := rfl
theorem close_ow : close H (n + 1) (.ow id k m) = match H id with | .row _ _ xs => some (.sl ((xs.drop k).take m)) | _ => none := rfl
theorem close_bx : close H (n + 1) (.bx id off) = match H id with | .box _ cs => (optAll ((cs.drop off).map (close H n))).map .ro | _ => none := rfl
theorem close_fn : close H (n + 1) (.fn f cs) = (optAll (cs.map (close H n))).map (.fn f) := rfl
theorem close_bm : close H (n + 1) (.bm f cs) = (optAll (cs.map (close H n))).map (.bm f) := rfl
theorem close_mp : close H (n + 1) (.mp id) = match H id with | .map _ ks vs => some (.mp ks vs) | _ => none := rfl
theorem touch_mp : touch H (n + 1) (.mp id) = [id] := rfl
theorem ren_mp : ren σ (n + 1) (.mp id) = match lookN σ id with | some j => .mp j | none => .junk := rfl
theorem close_nl : close H (n + 1) .nl = some (.sl []) := rfl
theorem touch_d : touch H (n + 1) (.d x) = [] := rfl
theorem touch_agg : touch H (n + 1) (.agg cs) = cs.flatMap (touch H n) := rfl
theorem touch_ow : touch H (n + 1) (.ow id k m) = [id] := rfl
theorem touch_bx : touch H (n + 1) (.bx id off) = match H id with | .box _ cs => id :: (cs.drop off).flatMap (touch H n) | _ => [] := rfl
theorem touch_fn : touch H (n + 1) (.fn f cs) = cs.flatMap (touch H n) := rfl
theorem touch_bm : touch H (n + 1) (.bm f cs) = cs.flatMap (touch H n) := rfl
theorem touch_nl : touch H (n + 1) .nl = [] := rfl
theorem ren_d : ren σ (n + 1) (.d x) = .d x := rfl
theorem ren_agg : ren σ (n + 1) (.agg cs) = .agg (cs.map (ren σ n)) := rfl
theorem ren_bx : ren σ (n + 1) (.bx id off) = match lookN σ id with | some j => .bx j off | none => .junk := rfl
theorem ren_rp : ren σ (n + 1) (.rp id k j) = match lookN σ id with | some i => .rp i k j | none => .junk := rfl
theorem ren_ow : ren σ (n + 1) (.ow id k m) = match lookN σ id with | some i => .ow i k m | none => .junk := rfl
theorem ren_fn : ren σ (n + 1) (.fn f cs) = .fn f (cs.map (ren σ n)) := rfl
theorem ren_bm : ren σ (n + 1) (.bm f cs) = .bm f (cs.map (ren σ n)) := rfl
theorem ren_nl : ren σ (n + 1) .nl = .nl := rfl
theorem ren_junk : ren σ (n + 1) .junk = .junk := rfl
theorem cellsD_agg {cs : List DV} : cellsD (.agg cs) = cs := rfl
theorem cellsD_int {k : IntKind} {i : Int} : cellsD (.int k i) = [.int k i] := rfl
theorem cellsD_bool {b : Bool} : cellsD (.bool b) = [.bool b] := rfl
theorem cellsD_str {s : List UInt8} : cellsD (.str s) = [.str s] := rfl
theorem cellsD_sl {xs : List DV} : cellsD (.sl xs) = [.sl xs] := rfl
theorem cellsD_ro {xs : List DV} : cellsD (.ro xs) = [.ro xs] := rfl
theorem cellsD_fn {xs : List DV} : cellsD (.fn f xs) = [.fn f xs] := rfl
theorem cellsD_bm {xs : List DV} : cellsD (.bm f xs) = [.bm f xs] := rfl
theorem cellsL_agg : cellsL (.agg cs) = cs := rfl
theorem cellsL_dagg {cs : List DV} : cellsL (.d (.agg cs)) = cs.map .d := rfl
theorem cellsL_int {k : IntKind} {i : Int} : cellsL (.d (.int k i)) = [.d (.int k i)] := rfl
theorem cellsL_bool {b : Bool} : cellsL (.d (.bool b)) = [.d (.bool b)] := rfl
theorem cellsL_str {s : List UInt8} : cellsL (.d (.str s)) = [.d (.str s)] := rfl
theorem cellsL_sl {xs : List DV} : cellsL (.d (.sl xs)) = [.d (.sl xs)] := rfl
theorem cellsL_fn {xs : List DV} : cellsL (.d (.fn f xs)) = [.d (.fn f xs)] := rfl
theorem cellsL_bm {xs : List DV} : cellsL (.d (.bm f xs)) = [.d (.bm f xs)] := rfl
theorem cellsL_ow : cellsL (.ow id k m) = [.ow id k m] := rfl
theorem cellsL_bx : cellsL (.bx id off) = [.bx id off] := rfl
theorem cellsL_lfn : cellsL (.fn f cs) = [.fn f cs] := rfl
theorem cellsL_lbm : cellsL (.bm f cs) = [.bm f cs] := rfl
theorem cellsL_mp : cellsL (.mp id) = [.mp id] := rfl
theorem cellsD_mp {ks vs : List DV} : cellsD (.mp ks vs) = [.mp ks vs] := rfl
theorem cellsL_dmp {ks vs : List DV} : cellsL (.d (.mp ks vs)) = [.d (.mp ks vs)] := rfl
theorem cellsL_nl : cellsL .nl = [.nl] := rfl
end
end
end Go.Eng
namespace Go.Eng
open Go.RowKit
section
variable {P : Program} {T : TypeId → TyI} {N : Nat} {w0 : Base} {X : Nat → Prop} {Q : LX → Env → Obs → Prop} {env env' env'' : Env} {H H' H'' : Obs}
def lenv (args : List LV) : Env := mkEnv ((args.zipIdx).map fun p => (p.2, p.1))
theorem lenv_get (args : List LV) (t : Nat) : lenv args t = (args[t]?).getD .junk := by
  have key : ∀ (l : List LV) (k t : Nat), lookL ((l.zipIdx k).map fun p => (p.2, p.1)) (k + t) = (l[t]?).getD .junk := by
    intro l
    induction l with
    | nil => intro k t; simp [lookL]
    | cons x r ih =>
      intro k t
      simp only [List.zipIdx_cons, List.map_cons, lookL]
      cases t with
      | zero => simp
      | succ t =>
        rw [if_neg (by omega)]
        have := ih (k + 1) t
        rw [show k + 1 + t = k + (t + 1) by omega] at this
        rw [this]; simp
  have := key args 0 t
  rw [Nat.zero_add] at this
  exact this
theorem OkG.of_body {f : FuncId} {fn : Func} {c : Code} {args : List LV} {h fin : List (Nat × LObj)} {ret : LV} {n : Nat} (hf : P.funcs[f]? = some fn) (hname : (fn.name == "runtime.NumGoroutine") = false) (hb : fn.body = some c) (hn : fn.ntmps = n) (hargs : args.length ≤ n)
    (hw : ∀ w0 X, w0.pins = h.map (·.1) → LWp P n w0 X c (fun x env H => (match x with | .exit _ => False | _ => True) ∧ ∀ β a w, Sim n w0 X env H β a w → ∃ v β', (results fn a.tmps).run P w = .ok v w ∧ Mem w0 X (mkObs fin) β' w ∧ R w (Ex X β' (mkObs fin)) β' (mkObs fin) ret v) (lenv args) (mkObs h)) :
    OkG P f args h fin ret := by
  refine ⟨⟨fn, hf, hname, by rw [hb]; rfl⟩, fun w X β vs m hvl hr => ?_⟩
  refine calls_of_wp hf hb (wp_mono (hw ⟨w, β, mkObs h, h.map (·.1)⟩ X rfl β ⟨vs.toArray ++ Array.replicate (fn.ntmps - vs.toArray.size) undef, []⟩ w ?_) ?_)
  · refine ⟨rfl, ?_, m.ext, m.xold, m.fresh, m.inj, fun t => ?_, m.obj, m.pin⟩
    · simp; omega
    · rw [lenv_get]
      cases q : args[t]? with
      | none => exact .junk _
      | some x =>
        have ht : t < vs.length := by rw [hvl]; exact (List.getElem?_eq_some_iff.1 q).1
        have hv : (vs.toArray ++ Array.replicate (fn.ntmps - vs.toArray.size) undef).getD t undef = vs[t] := by
          simp [Array.getD_eq_getD_getElem?, Array.getElem?_append_left, ht]
        rw [hv]
        exact hr t x _ q (List.getElem?_eq_getElem ht)
  · rintro e a' w' ⟨x, env, H, β1, h1, s, h2, h3⟩
    obtain ⟨v, β', hv1, hv2, hv3⟩ := h3 β1 a' w' s
    cases e <;> cases x <;> simp only [exitIs] at h1
    · exact ⟨s.defers, v, hv1, v, β', rfl, hv2, hv3⟩
    · exact h2.elim
    · exact ⟨s.defers, v, hv1, v, β', rfl, hv2, hv3⟩
def retG0 (w0 : Base) (fin : List (Nat × LObj)) (x : LX) (env : Env) (H : Obs) : Prop := (match x with | .exit _ => False | _ => True) ∧ Weak w0 env H (mkEnv []) (mkObs fin)
def retG1 (w0 : Base) (t : Nat) (fin : List (Nat × LObj)) (ret : LV) (x : LX) (env : Env) (H : Obs) : Prop := (match x with | .exit _ => False | _ => True) ∧ Weak w0 env H (mkEnv [(t, ret)]) (mkObs fin)
theorem retG0_ret {fin : List (Nat × LObj)} : retG0 w0 fin .ret env H ↔ Weak w0 env H (mkEnv []) (mkObs fin) := by simp [retG0]
theorem retG0_normal {fin : List (Nat × LObj)} : retG0 w0 fin .normal env H ↔ Weak w0 env H (mkEnv []) (mkObs fin) := by simp [retG0]
theorem retG1_ret {t : Nat} {fin : List (Nat × LObj)} {ret : LV} : retG1 w0 t fin ret .ret env H ↔ Weak w0 env H (mkEnv [(t, ret)]) (mkObs fin) := by simp [retG1]
theorem OkG.unit {f : FuncId} {fn : Func} {c : Code} {args : List LV} {h fin : List (Nat × LObj)} {n : Nat} (hf : P.funcs[f]? = some fn) (hname : (fn.name == "runtime.NumGoroutine") = false) (hb : fn.body = some c) (hn : fn.ntmps = n) (hargs : args.length ≤ n) (hres : fn.results = #[])
    (hw : ∀ w0 X, w0.pins = h.map (·.1) → LWp P n w0 X c (retG0 w0 fin) (lenv args) (mkObs h)) : OkG P f args h fin (.tup []) :=
  OkG.of_body hf hname hb hn hargs fun w0 X hp => (hw w0 X hp).mono fun x env H ⟨h1, h2⟩ => ⟨h1, fun β a w s => by
    obtain ⟨β', s'⟩ := h2 _ _ _ _ _ s
    exact ⟨.tuple #[], β', results_none hres _ _ _, s'.mem, .tup [] [] rfl (by simp)⟩⟩
theorem OkG.one {f : FuncId} {fn : Func} {c : Code} {args : List LV} {h fin : List (Nat × LObj)} {ret : LV} {n t : Nat} (hf : P.funcs[f]? = some fn) (hname : (fn.name == "runtime.NumGoroutine") = false) (hb : fn.body = some c) (hn : fn.ntmps = n) (hargs : args.length ≤ n) (hres : fn.results = #[.tmp t])
    (hw : ∀ w0 X, w0.pins = h.map (·.1) → LWp P n w0 X c (retG1 w0 t fin ret) (lenv args) (mkObs h)) : OkG P f args h fin ret :=
  OkG.of_body hf hname hb hn hargs fun w0 X hp => (hw w0 X hp).mono fun x env H ⟨h1, h2⟩ => ⟨h1, fun β a w s => by
    obtain ⟨β', s'⟩ := h2 _ _ _ _ _ s
    have := s'.env t
    rw [show mkEnv [(t, ret)] t = ret by simp [mkEnv, lookL]] at this
    exact ⟨_, β', results_tmp hres _ _ _, s'.mem, this⟩⟩
theorem optAll_d {n : Nat} : ∀ {cs : List DV}, optAll (List.map (close H (n + 1) ∘ LV.d) cs) = some cs
  | [] => rfl
  | c :: cs => by
    have ih := optAll_d (n := n) (cs := cs)
    simp only [List.map_cons, Function.comp, close_d, optAll] at ih ⊢
    rw [ih]; rfl
theorem optAll_d' {n : Nat} {cs : List DV} : optAll (List.map (close H (n + 1)) (List.map LV.d cs)) = some cs := by rw [List.map_map]; exact optAll_d
theorem touch_ds {n : Nat} {cs : List DV} : (List.map LV.d cs).flatMap (touch H (n + 1)) = [] := by
  induction cs with
  | nil => rfl
  | cons c cs ih => simp only [List.map_cons, List.flatMap_cons, touch_d, List.nil_append]; exact ih
end
end Go.Eng
namespace Go.Eng
open Go.RowKit
section
variable {P : Program} {T : TypeId → TyI} {N : Nat} {w0 : Base} {X : Nat → Prop} {env : Env} {H : Obs}
def rvarL (T : TypeId → TyI) (env : Env) (H : Obs) : ResultVar → Res
  | .tmp t => .plain (env t)
  | .cell t ty => loadR T H ty (env t)
def retsQ (T : TypeId → TyI) (fresh : Bool) (env : Env) (H : Obs) : List ResultVar → List RV → Prop
  | [], [] => True
  | r :: rs, x :: xs => (rvarL T env H r).ok ∧ RetIs H fresh (rvarL T env H r).v x ∧ retsQ T fresh env H rs xs
  | _, _ => False
def retN (T : TypeId → TyI) (l : List ResultVar) (fresh : Bool) (rs : List RV) (x : LX) (env : Env) (H : Obs) : Prop := (match x with | .exit _ => False | _ => True) ∧ retsQ T fresh env H l rs
theorem retN_ret {l : List ResultVar} {fresh : Bool} {rs : List RV} : retN T l fresh rs .ret env H ↔ retsQ T fresh env H l rs := by simp [retN]
def rvRun (tmps : Array Value) : ResultVar → Sem Value
  | .tmp t => pure (tmps.getD t undef)
  | .cell b t => do loadVar t (← asAddr (tmps.getD b undef))
theorem retsQ_run (hT : TOk P T) {β : Nat → Option Nat} {a : Act} {w : World} {fresh : Bool} (s : Sim N w0 X env H β a w) : ∀ (l : List ResultVar) (rs : List RV), retsQ T fresh env H l rs →
    ∃ vs : List Value, vs.length = rs.length ∧ (l.mapM (rvRun a.tmps)).run P w = .ok vs w ∧
      ∀ (i : Nat) (r : RV) (v : Value), rs[i]? = some r → vs[i]? = some v → ∃ x, R w (Ex X β H) β H x v ∧ RetIs H fresh x r
  | [], [], _ => ⟨[], rfl, by simp, by simp⟩
  | [], _ :: _, h => h.elim
  | _ :: _, [], h => h.elim
  | r :: l, x :: rs, h => by
    obtain ⟨h1, h2, h3⟩ := h
    obtain ⟨vs, hl, hr, hp⟩ := retsQ_run hT s l rs h3
    have one : ∃ v, (rvRun a.tmps r).run P w = .ok v w ∧ R w (Ex X β H) β H (rvarL T env H r).v v := by
      cases r with
      | tmp t => exact ⟨_, by simp [rvRun], s.env t⟩
      | cell t ty =>
        obtain ⟨v, hv, hr⟩ := loadR_sound hT s h1
        exact ⟨v, by simpa [rvRun, Sem.run_bind, Result.andThen] using hv, hr⟩
    obtain ⟨v, hv, hv2⟩ := one
    refine ⟨v :: vs, by simp [hl], ?_, ?_⟩
    · rw [List.mapM_cons]
      simp only [Sem.run_bind, hv, Result.andThen_ok, hr, Sem.run_pure]
    · intro i r' u hr' hu
      cases i with
      | zero => simp at hr' hu; subst hr'; subst hu; exact ⟨_, hv2, h2⟩
      | succ i => simp at hr' hu; exact hp i r' u hr' hu
def RV.isD : RV → Bool
  | .d _ => true
  | _ => false
def RV.isM : RV → Bool
  | .d y => memless y
  | _ => false
def resOk (rs : List RV) : Bool := rs.all RV.isD || rs.tail.all RV.isM
theorem RV.isD_d {r : RV} (h : r.isD = true) : ∃ y, r = .d y := by cases r <;> first | exact ⟨_, rfl⟩ | cases h
theorem RV.isM_d {r : RV} (h : r.isM = true) : ∃ y, r = .d y ∧ memless y = true := by cases r <;> first | exact ⟨_, rfl, h⟩ | cases h
theorem Ok.many (hT : TOk P T) {f : FuncId} {fn : Func} {c : Code} {args : List DV} {rs : List RV} {l : List ResultVar} {fresh : Bool} {n : Nat} (hf : P.funcs[f]? = some fn) (hname : (fn.name == "runtime.NumGoroutine") = false) (hb : fn.body = some c) (hn : fn.ntmps = n) (hargs : args.length ≤ n) (hres : fn.results = l.toArray)
    (hl : 2 ≤ rs.length) (hb' : resOk rs = true)
    (h : ∀ w0 X, w0.pins = [] → LWp P n w0 X c (retN T l fresh rs) (argsEnv args) (mkObs [])) : Ok P f args ⟨.tup rs, fresh⟩ := by
  have hx : (∀ x ∈ rs, ∃ y, x = .d y) ∨ ∃ r1 rest, rs = r1 :: rest ∧ ∀ x ∈ rest, ∃ y, x = .d y ∧ memless y = true := by
    unfold resOk at hb'
    rcases Bool.or_eq_true_iff.1 hb' with h1 | h1
    · exact .inl fun x hx => RV.isD_d (List.all_eq_true.1 h1 x hx)
    · cases rs with
      | nil => simp at hl
      | cons r1 rest => exact .inr ⟨r1, rest, rfl, fun x hx => RV.isM_d (List.all_eq_true.1 h1 x hx)⟩
  refine Ok.of_body hf hname hb hn hargs fun w0 X hpn => (h w0 X hpn).mono fun x env H ⟨h1, h2⟩ => ⟨h1, fun β a w s => ?_⟩
  obtain ⟨vs, hvl, hrun, hp⟩ := retsQ_run hT s l rs h2
  refine ⟨.tuple vs.toArray, ?_, ?_⟩
  · simp only [results, hres, List.mapM_toArray, map_eq_pure_bind, Sem.run_bind, Sem.run_pure]
    change ((((l.mapM (rvRun a.tmps)).run P w).andThen _).andThen _) = _
    rw [hrun]
    simp only [Result.andThen_ok]
    rw [dif_neg (by simp; omega)]
  · have hret : ∀ (i : Nat) (r : RV) (v : Value), rs[i]? = some r → vs[i]? = some v → ∃ B : Option Nat, RVok w0.w w (fun k => (X k ∨ fresh = true ∧ k < w0.w.heap.size) ∨ B = some k) B r v := fun i r v hr hv => by
      obtain ⟨x, hx1, hx2⟩ := hp i r v hr hv
      exact ret_one hpn s hx1 hx2
    rcases hx with hx | ⟨r1, rest, rfl, hx⟩
    · refine ⟨vs, fun _ => none, rfl, hvl, (by intro i j b hi hj; simp at hi), fun i r v hr hv => ?_⟩
      obtain ⟨B, hB⟩ := hret i r v hr hv
      obtain ⟨y, rfl⟩ := hx r (List.mem_of_getElem? hr)
      simp only [RVok] at hB ⊢
      exact RD.anti (fun k hk => .inl (by rcases hk with hk | ⟨j, hj⟩; exact hk; cases hj)) hB
    · obtain ⟨v1, hv1⟩ : ∃ v, vs[0]? = some v := ⟨vs[0]'(by rw [hvl]; simp), List.getElem?_eq_getElem _⟩
      obtain ⟨B, hB⟩ := hret 0 r1 v1 rfl hv1
      refine ⟨vs, fun i => if i = 0 then B else none, rfl, hvl, fun i j b hi hj => ?_, fun i r v hr hv => ?_⟩
      · simp only at hi hj
        by_cases h1 : i = 0
        · by_cases h2 : j = 0
          · omega
          · rw [if_neg h2] at hj; cases hj
        · rw [if_neg h1] at hi; cases hi
      · cases i with
        | zero =>
          rw [hv1] at hv; injection hv with hv; subst hv
          simp at hr; subst hr
          simp only [if_pos]
          refine RVok.anti (fun k hk => ?_) hB
          rcases hk with hk | ⟨j, hj⟩
          · exact .inl hk
          · by_cases h2 : j = 0
            · rw [if_pos h2] at hj; exact .inr hj
            · rw [if_neg h2] at hj; cases hj
        | succ i =>
          obtain ⟨B', hB'⟩ := hret (i + 1) r v hr hv
          simp at hr
          obtain ⟨y, rfl, hy⟩ := hx r (List.mem_of_getElem? hr)
          simp only [RVok] at hB' ⊢
          exact hB'.memless hy
def cutQ (w0 : Base) {ι : Type} (E : ι → Env) (O : ι → Obs) (I : ι → Prop) (Q : LX → Env → Obs → Prop) : LX → Env → Obs → Prop
  | .normal, env, H => ∃ i, Weak w0 env H (E i) (O i) ∧ I i
  | e, env, H => Q e env H
theorem cutQ_normal {ι : Type} {E : ι → Env} {O : ι → Obs} {I : ι → Prop} {Q : LX → Env → Obs → Prop} : cutQ w0 E O I Q .normal env H ↔ ∃ i, Weak w0 env H (E i) (O i) ∧ I i := Iff.rfl
theorem cutQ_ret {ι : Type} {E : ι → Env} {O : ι → Obs} {I : ι → Prop} {Q : LX → Env → Obs → Prop} : cutQ w0 E O I Q .ret env H ↔ Q .ret env H := Iff.rfl
theorem cutQ_exit {ι : Type} {E : ι → Env} {O : ι → Obs} {I : ι → Prop} {Q : LX → Env → Obs → Prop} {j : Nat} : cutQ w0 E O I Q (.exit j) env H ↔ Q (.exit j) env H := Iff.rfl
theorem cutQ.mk {ι : Type} {E : ι → Env} {O : ι → Obs} {I : ι → Prop} (i : ι) (hw : Weak w0 env H (E i) (O i)) (hI : I i) : ∃ i, Weak w0 env H (E i) (O i) ∧ I i := ⟨i, hw, hI⟩
theorem LWp.seqCut {x y : Code} {Q : LX → Env → Obs → Prop} {ι : Type} (E : ι → Env) (O : ι → Obs) (I : ι → Prop) (h1 : LWp P N w0 X x (cutQ w0 E O I Q) env H) (h2 : ∀ i, I i → LWp P N w0 X y Q (E i) (O i)) : LWp P N w0 X (.seq x y) Q env H := by
  refine LWp.seq (h1.mono fun e env H h => ?_)
  cases e with
  | normal => obtain ⟨i, hw, hI⟩ := h; exact LWp.weak hw (h2 i hI)
  | exit j => exact h
  | ret => exact h
end
end Go.Eng
namespace Go.Eng
open Go.RowKit
section
variable {P : Program} {T : TypeId → TyI} {N : Nat} {w0 : Base} {X : Nat → Prop} {Q : LX → Env → Obs → Prop} {env : Env} {H : Obs} {l : List Oper} {id : Nat}
def oneAt (l : List Oper) (d0 : Nat) : Bool := decide ((l.filter fun o => o.dst.getD 0 == d0).length ≤ 1)
def oneAtI (l : List Oper) (d0 : Nat) : Bool := decide (((List.range l.length).filter fun i => match l[i]? with | some o => o.dst.getD 0 == d0 | none => false).length ≤ 1)
theorem LWp.regNil (hT : TOk P T) (hW : TWf T) (d0 : Nat) (e : Bool) (base : Nat → Option Orc) (hdet : ∀ d, DetS (base d)) (hc : oneAt l d0 = true)
    (h : ∀ b : Bool, (b = true → e = true) → (runL P T N l (gorc d0 base (fun b => .nil e b) b) env H).ok ∧ Q .normal (runL P T N l (gorc d0 base (fun b => .nil e b) b) env H).env (runL P T N l (gorc d0 base (fun b => .nil e b) b) env H).H) : LWp P N w0 X (.region id l.toArray false) Q env H :=
  LWp.regG hT hW d0 base (fun b => .nil e b) (fun b => b = true → e = true) hdet (fun b hb => ⟨b, hb, rfl⟩) (fun b _ r' ⟨j, h1, h2⟩ => ⟨j, h1, h2.symm⟩) false (by simp) (of_decide_eq_true hc) h
theorem LWp.regRel (hT : TOk P T) (hW : TWf T) (d0 : Nat) (Rel : Ret → Prop) (fr : Bool) (r0 : Ret) (h0 : Rel r0 ∧ r0.fresh = fr) (base : Nat → Option Orc) (hdet : ∀ d, DetS (base d)) (hc : oneAt l d0 = true)
    (h : ∀ r : Ret, Rel r → (runL P T N l (gorc d0 base (fun r => .rel Rel fr r) r) env H).ok ∧ Q .normal (runL P T N l (gorc d0 base (fun r => .rel Rel fr r) r) env H).env (runL P T N l (gorc d0 base (fun r => .rel Rel fr r) r) env H).H) : LWp P N w0 X (.region id l.toArray false) Q env H :=
  LWp.regG hT hW d0 base (fun r => .rel Rel fr r) (fun r => Rel r ∧ r.fresh = fr) hdet (fun c hc => ⟨c, hc.1, hc.2, rfl⟩) (fun c _ r' ⟨j, h1, h2, h3⟩ => ⟨j, ⟨h1, h2⟩, h3.symm⟩) r0 h0 (of_decide_eq_true hc) fun c hc => h c hc.1
theorem LWp.regGenR (hT : TOk P T) (hW : TWf T) (d0 : Nat) (σ new : List (Nat × Nat)) (shut : List Nat) (Rel : List (Nat × LObj) → LV → Prop) (f0 : List (Nat × LObj)) (r0 : LV) (h0 : Rel f0 r0) (base : Nat → Option Orc) (hdet : ∀ d, DetS (base d)) (hc : oneAt l d0 = true)
    (h : ∀ (i : List (Nat × LObj) × LV), Rel i.1 i.2 → (runL P T N l (gorc d0 base (fun (i : List (Nat × LObj) × LV) => .genR ⟨σ, new, shut, i.1, i.2⟩ Rel) i) env H).ok ∧ Q .normal (runL P T N l (gorc d0 base (fun (i : List (Nat × LObj) × LV) => .genR ⟨σ, new, shut, i.1, i.2⟩ Rel) i) env H).env (runL P T N l (gorc d0 base (fun (i : List (Nat × LObj) × LV) => .genR ⟨σ, new, shut, i.1, i.2⟩ Rel) i) env H).H) :
    LWp P N w0 X (.region id l.toArray false) Q env H :=
  LWp.regG hT hW d0 base (fun (i : List (Nat × LObj) × LV) => .genR ⟨σ, new, shut, i.1, i.2⟩ Rel) (fun i => Rel i.1 i.2) hdet (fun c hc => ⟨c.1, c.2, hc, rfl⟩) (fun c _ r' ⟨fin, ret, h1, h2⟩ => ⟨(fin, ret), h1, h2.symm⟩) (f0, r0) h0 (of_decide_eq_true hc) h
theorem LWp.anyRel (hT : TOk P T) (hW : TWf T) (hm : P.follows .mixedOrders = true) (cl hide wr : Nat → List Nat) (hA : anyChk l cl hide wr = true) (d0 : Nat) (Rel : Ret → Prop) (fr : Bool) (r0 : Ret) (h0 : Rel r0 ∧ r0.fresh = fr) (base : Nat → Option Orc) (hdet : ∀ d, DetS (base d)) (hc : oneAtI l d0 = true)
    (h : ∀ r : Ret, Rel r → (runM P T N l (gorc d0 base (fun r => .rel Rel fr r) r) hide wr ⟨env, H, True⟩).ok ∧ Q .normal (runM P T N l (gorc d0 base (fun r => .rel Rel fr r) r) hide wr ⟨env, H, True⟩).env (runM P T N l (gorc d0 base (fun r => .rel Rel fr r) r) hide wr ⟨env, H, True⟩).H) : LWp P N w0 X (.region id l.toArray true) Q env H :=
  LWp.regAny1 hT hW hm cl hide wr hA d0 base (fun r => .rel Rel fr r) (fun r => Rel r ∧ r.fresh = fr) hdet (fun c hc => ⟨c, hc.1, hc.2, rfl⟩) (fun c _ r' ⟨j, h1, h2, h3⟩ => ⟨j, ⟨h1, h2⟩, h3.symm⟩) r0 h0 (of_decide_eq_true hc) fun c hc => h c hc.1
theorem Mem.rebox {β : Nat → Option Nat} {w : World} (m : Mem w0 X H β w) {b : Nat} {fz : Bool} {cs cs' : List LV} (hH : H b = .box fz cs) (hl : cs'.length = cs.length) (h : ∀ (i : Nat) (c c' : LV) (v : Value), cs[i]? = some c → cs'[i]? = some c' → R w (Ex X β H) β H c v → R w (Ex X β H) β H c' v) :
    Mem w0 X (upd H b (.box fz cs')) β w ∧ Goes X H β w (upd H b (.box fz cs')) β w := by
  have hmut : ∀ i, (upd H b (.box fz cs') i).mut = (H i).mut := fun i => by
    by_cases hi : i = b
    · subst hi; rw [upd_same, hH]; rfl
    · rw [upd_ne _ _ hi]
  have hlive : ∀ i, (upd H b (.box fz cs') i).live = (H i).live := fun i => by
    by_cases hi : i = b
    · subst hi; rw [upd_same, hH]; rfl
    · rw [upd_ne _ _ hi]
  have hg : Goes X H β w (upd H b (.box fz cs')) β w := by
    refine ⟨Nat.le_refl _, fun _ _ _ => rfl, fun k _ he => ?_, fun i => ?_⟩
    · rcases he with he | ⟨i, h1, h2⟩
      · exact .inl he
      · rw [hmut] at h1; exact .inr ⟨i, h1, h2⟩
    · by_cases hi : i = b
      · subst hi; unfold Passes; rw [hH, upd_same]; exact .inr ⟨⟨fz, cs', rfl⟩, rfl⟩
      · have hp := Passes.refl (w := w) (β := β) (H := H) i
        unfold Passes at *
        rw [upd_ne _ _ hi]; exact hp
  refine ⟨⟨m.ext, m.xold, fun i b' h1 h2 => ?_, fun i j b' h1 h2 => ?_, fun i => ?_, fun i hi => (m.pin i hi).trans (hg.pass i)⟩, hg⟩
  · rw [hlive] at h1; rw [hmut]; exact m.fresh i b' h1 h2
  · rw [hlive] at h1 h2; exact m.inj i j b' h1 h2
  · by_cases hi : i = b
    · subst hi
      have ho := m.obj i
      unfold ObjR at *
      rw [hH] at ho
      rw [upd_same]
      obtain ⟨b', e, us, h1, h2, h3, h4, h5⟩ := ho
      refine ⟨b', e, us, h1, h2, by rw [hl]; exact h3, h4, fun j c v hc hv => ?_⟩
      have hj : j < cs.length := by have := (List.getElem?_eq_some_iff.1 hc).1; omega
      exact hg.R (h j _ c v (List.getElem?_eq_getElem hj) hc (h5 j _ v (List.getElem?_eq_getElem hj) hv))
    · exact (m.obj i).step hg.size hg.out (fun _ _ => hg.D) (fun _ _ => hg.R) (upd_ne _ _ hi) (fun _ => rfl) fun _ _ _ => rfl
theorem LWp.nlBox {c : Code} (b id s : Nat) {fz : Bool} (hs : 0 < s) (h : H b = .box fz [.nl] ∧ H id = .absent ∧ LWp P N w0 X c Q env (upd (upd H id (.row false s [])) b (.box fz [.ow id 0 0]))) : LWp P N w0 X c Q env H := by
  obtain ⟨hb, hid, h⟩ := h
  have hne : b ≠ id := fun e => by rw [e, hid] at hb; cases hb
  intro β a w sm
  obtain ⟨m1, g1⟩ := new_none sm.mem hid hs
  obtain ⟨m2, g2⟩ := m1.rebox (b := b) (fz := fz) (cs := [.nl]) (cs' := [.ow id 0 0]) (by rw [upd_ne _ _ hne]; exact hb) rfl fun i c c' v hc hc' hr => by
    cases i with
    | succ i => simp at hc
    | zero =>
      simp at hc hc'
      subst hc; subst hc'
      cases hr with | nl p => exact .ow0 id 0 p false s [] (by rw [upd_same]) (.inl ⟨by rw [upd_same], rfl⟩)
  exact h _ a w ⟨sm.defers, sm.size, m2.ext, m2.xold, m2.fresh, m2.inj, fun t => g2.R (g1.R (sm.env t)), m2.obj, m2.pin⟩
theorem OkR.of_body {f : FuncId} {fn : Func} {c : Code} {args : List DV} {Rel : Ret → Prop} {n : Nat} (hf : P.funcs[f]? = some fn) (hname : (fn.name == "runtime.NumGoroutine") = false) (hb : fn.body = some c) (hn : fn.ntmps = n) (hargs : args.length ≤ n)
    (h : ∀ w0 X, w0.pins = [] → LWp P n w0 X c (fun x env H => (match x with | .exit _ => False | _ => True) ∧ ∀ β a w, Sim n w0 X env H β a w → ∃ v r, Rel r ∧ (results fn a.tmps).run P w = .ok v w ∧ RetOk w0.w w (fun k => X k ∨ r.fresh = true ∧ k < w0.w.heap.size) r.v v) (argsEnv args) (mkObs [])) :
    OkR P f args Rel := by
  refine ⟨⟨fn, hf, hname, by rw [hb]; rfl⟩, fun w X vs hX hr => ?_⟩
  refine calls_of_wp hf hb (wp_mono (h ⟨w, fun _ => none, fun _ => .absent, []⟩ X rfl (fun _ => none) ⟨vs.toArray ++ Array.replicate (fn.ntmps - vs.toArray.size) undef, []⟩ w ?_) ?_)
  · refine ⟨rfl, ?_, ⟨rfl, rfl, rfl, Nat.le_refl _, fun _ _ _ => rfl, Nat.le_refl _⟩, fun k hk => ⟨hX k hk, by rintro ⟨id, hid, _⟩; cases hid⟩, fun id b hl _ => by simp [mkObs, lookH, LObj.live] at hl, fun i j b hi _ => by simp [mkObs, lookH, LObj.live] at hi, fun t => ?_, fun id => by unfold ObjR; trivial, fun id hid => by cases hid⟩
    · have := hr.1
      simp
      omega
    · rw [argsEnv_get]
      cases q : args[t]? with
      | none => exact .junk _
      | some x =>
        have ht : t < vs.length := by rw [hr.1]; exact (List.getElem?_eq_some_iff.1 q).1
        have hv : (vs.toArray ++ Array.replicate (fn.ntmps - vs.toArray.size) undef).getD t undef = vs[t] := by
          simp [Array.getD_eq_getD_getElem?, Array.getElem?_append_left, ht]
        rw [hv]
        refine .d _ _ ((hr.2 t x _ q (List.getElem?_eq_getElem ht)).anti fun k hk => ?_)
        rcases hk with hk | ⟨id, h1, _⟩
        · exact hk
        · cases h1
  · rintro e a' w' ⟨x, env, H, β, h1, s, h2, h3⟩
    obtain ⟨v, r, hrel, hv1, hv2⟩ := h3 β a' w' s
    have hbel : Bel w.heap.size w w' := ⟨s.ext.os, s.ext.tape, s.ext.output, s.ext.size, fun k hk => s.ext.block k hk (by rintro ⟨id, hid, _⟩; cases hid), s.ext.drawn⟩
    cases e <;> cases x <;> simp only [exitIs] at h1
    · exact ⟨s.defers, v, hv1, v, r, hrel, rfl, hbel, hv2⟩
    · exact h2.elim
    · exact ⟨s.defers, v, hv1, v, r, hrel, rfl, hbel, hv2⟩
def retR (t : Nat) (fresh : Bool) (Rel : RV → Prop) (x : LX) (env : Env) (H : Obs) : Prop := (match x with | .exit _ => False | _ => True) ∧ ∃ r, Rel r ∧ (∀ rs, r ≠ .tup rs) ∧ RetIs H fresh (env t) r
theorem retR_ret {t : Nat} {fresh : Bool} {Rel : RV → Prop} : retR t fresh Rel .ret env H ↔ ∃ r, Rel r ∧ (∀ rs, r ≠ .tup rs) ∧ RetIs H fresh (env t) r := by simp [retR]
theorem OkR.ret {f : FuncId} {fn : Func} {c : Code} {args : List DV} {Rel : RV → Prop} {fresh : Bool} {n t : Nat} (hf : P.funcs[f]? = some fn) (hname : (fn.name == "runtime.NumGoroutine") = false) (hb : fn.body = some c) (hn : fn.ntmps = n) (hargs : args.length ≤ n) (hres : fn.results = #[.tmp t])
    (h : ∀ w0 X, w0.pins = [] → LWp P n w0 X c (retR t fresh Rel) (argsEnv args) (mkObs [])) : OkR P f args (fun r => Rel r.v ∧ r.fresh = fresh) := by
  refine OkR.of_body hf hname hb hn hargs fun w0 X hpn => (h w0 X hpn).mono fun x env H ⟨h1, r, h2, h3, h4⟩ => ⟨h1, fun β a w s => ⟨a.tmps.getD t undef, ⟨r, fresh⟩, ⟨h2, rfl⟩, results_tmp hres _ _ _, ?_⟩⟩
  obtain ⟨B, hB⟩ := ret_one hpn s (s.env t) h4
  cases q : r with
  | tup rs => exact absurd q (h3 rs)
  | d x => rw [q] at hB; exact ⟨B, hB⟩
  | own sz xs => rw [q] at hB; exact ⟨B, hB⟩
end
end Go.Eng
namespace Go.Eng
abbrev Str := List UInt8
structure Nm where
  who : Int
  seq : Int
  deriving DecidableEq, Inhabited
structure Df where
  name : Str
  text : Str
  deriving DecidableEq, Inhabited
structure Ed where
  name : Nm
  needs : List Nm
  puts : List Df
  drops : List Str
  deriving DecidableEq, Inhabited
abbrev I64 (n : Int) : DV := .int .i64 n
def Nm.d (n : Nm) : DV := .agg [.int .i64 n.who, .int .i64 n.seq]
def Df.d (d : Df) : DV := .agg [.str d.name, .str d.text]
def Nm.enc (n : Nm) : List Value := [.int .i64 n.who, .int .i64 n.seq]
def nmsD (l : List Nm) : DV := .sl (l.map Nm.d)
def dfsD (l : List Df) : DV := .sl (l.map Df.d)
def strsD (l : List Str) : DV := .sl (l.map .str)
def Ed.d (e : Ed) : DV := .agg [.int .i64 e.name.who, .int .i64 e.name.seq, .sl (e.needs.map Nm.d), .sl (e.puts.map Df.d), .sl (e.drops.map .str)]
def edsD (l : List Ed) : DV := .sl (l.map Ed.d)
theorem mem_take_succ {α : Type} {l : List α} {i : Nat} (h : i < l.length) {x : α} : x ∈ l.take (i + 1) ↔ x ∈ l.take i ∨ x = l[i] := by
  have : l.take (i + 1) = l.take i ++ [l[i]] := by simp
  rw [this, List.mem_append, List.mem_singleton]
theorem take_map_len {α β : Type} {f : α → β} {acc : List α} : List.take acc.length (List.map f acc) = List.map f acc := List.take_of_length_le (by simp)
theorem take_map_app {α β : Type} {f : α → β} {l : List α} {t : List β} : List.take l.length (List.map f l ++ t) = List.map f l := by rw [List.take_append_of_le_length (by simp), List.take_of_length_le (by simp)]
theorem mem_part {α : Type} {k n : Nat} {l : List α} {x : α} (h : x ∈ (l.drop k).take n) : x ∈ l := List.mem_of_mem_drop (List.mem_of_mem_take h)
theorem nm_mem {l : List Nm} {y : DV} (h : y ∈ l.map Nm.d) : (cellsD y).length = 2 ∧ ∀ c ∈ cellsD y, memless c = true := by
  obtain ⟨a, _, rfl⟩ := List.mem_map.1 h
  exact ⟨rfl, by simp [Nm.d, cellsD, memless]⟩
theorem df_mem {l : List Df} {y : DV} (h : y ∈ l.map Df.d) : (cellsD y).length = 2 ∧ ∀ c ∈ cellsD y, memless c = true := by
  obtain ⟨a, _, rfl⟩ := List.mem_map.1 h
  exact ⟨rfl, by simp [Df.d, cellsD, memless]⟩
theorem str_mem {l : List Str} {y : DV} (h : y ∈ l.map DV.str) : (cellsD y).length = 1 ∧ ∀ c ∈ cellsD y, memless c = true := by
  obtain ⟨a, _, rfl⟩ := List.mem_map.1 h
  exact ⟨rfl, by simp [cellsD, memless]⟩
theorem ed_mem {l : List Ed} {y : DV} (h : y ∈ l.map Ed.d) : (cellsD y).length = 5 := by
  obtain ⟨a, _, rfl⟩ := List.mem_map.1 h
  rfl
section
variable {l : List Nm} {m : List Df} {r : List Str} {e : List Ed} {k n : Nat}
theorem nm_t : (∀ y ∈ List.take k (List.map Nm.d l), (cellsD y).length = 2) ↔ True := iff_true_intro fun _ h => (nm_mem (List.mem_of_mem_take h)).1
theorem nm_d : (∀ y ∈ List.drop k (List.map Nm.d l), (cellsD y).length = 2) ↔ True := iff_true_intro fun _ h => (nm_mem (List.mem_of_mem_drop h)).1
theorem nm_td : (∀ y ∈ List.take n (List.drop k (List.map Nm.d l)), (cellsD y).length = 2) ↔ True := iff_true_intro fun _ h => (nm_mem (mem_part h)).1
theorem df_t : (∀ y ∈ List.take k (List.map Df.d m), (cellsD y).length = 2) ↔ True := iff_true_intro fun _ h => (df_mem (List.mem_of_mem_take h)).1
theorem df_d : (∀ y ∈ List.drop k (List.map Df.d m), (cellsD y).length = 2) ↔ True := iff_true_intro fun _ h => (df_mem (List.mem_of_mem_drop h)).1
theorem df_td : (∀ y ∈ List.take n (List.drop k (List.map Df.d m)), (cellsD y).length = 2) ↔ True := iff_true_intro fun _ h => (df_mem (mem_part h)).1
theorem str_t : (∀ y ∈ List.take k (List.map DV.str r), (cellsD y).length = 1) ↔ True := iff_true_intro fun _ h => (str_mem (List.mem_of_mem_take h)).1
theorem str_d : (∀ y ∈ List.drop k (List.map DV.str r), (cellsD y).length = 1) ↔ True := iff_true_intro fun _ h => (str_mem (List.mem_of_mem_drop h)).1
theorem str_td : (∀ y ∈ List.take n (List.drop k (List.map DV.str r)), (cellsD y).length = 1) ↔ True := iff_true_intro fun _ h => (str_mem (mem_part h)).1
theorem ed_t : (∀ y ∈ List.take k (List.map Ed.d e), (cellsD y).length = 5) ↔ True := iff_true_intro fun _ h => ed_mem (List.mem_of_mem_take h)
theorem ed_d : (∀ y ∈ List.drop k (List.map Ed.d e), (cellsD y).length = 5) ↔ True := iff_true_intro fun _ h => ed_mem (List.mem_of_mem_drop h)
theorem ed_td : (∀ y ∈ List.take n (List.drop k (List.map Ed.d e)), (cellsD y).length = 5) ↔ True := iff_true_intro fun _ h => ed_mem (mem_part h)
end
def Pre {α : Type} (p : α → Bool) (l : List α) (i : Nat) : Prop := ∀ j (h : j < l.length), j < i → p l[j] = false
theorem Pre.zero {α : Type} {p : α → Bool} {l : List α} : Pre p l 0 := fun _ _ h => absurd h (Nat.not_lt_zero _)
theorem Pre.succ {α : Type} {p : α → Bool} {l : List α} {i : Nat} (h : Pre p l i) (hi : i < l.length) (hp : p l[i] = false) : Pre p l (i + 1) := fun j hj hji => by
  by_cases e : j = i
  · subst e; exact hp
  · exact h j hj (by omega)
theorem Pre.found {α : Type} {p : α → Bool} {l : List α} {i : Nat} (h : Pre p l i) (hi : i < l.length) (hp : p l[i] = true) : l.findIdx? p = some i := by
  rw [List.findIdx?_eq_some_iff_getElem]
  exact ⟨hi, hp, fun j hj => by rw [h j (by omega) hj]; simp⟩
theorem Pre.none {α : Type} {p : α → Bool} {l : List α} {i : Nat} (h : Pre p l i) (hi : l.length ≤ i) : l.findIdx? p = none := by
  rw [List.findIdx?_eq_none_iff]
  intro x hx
  obtain ⟨j, hj, rfl⟩ := List.getElem_of_mem hx
  exact h j hj (by omega)
theorem Pre.any {α : Type} {p : α → Bool} {l : List α} {i : Nat} (h : Pre p l i) (hi : l.length ≤ i) : l.any p = false := by
  rw [List.any_eq_false]
  intro x hx
  obtain ⟨j, hj, rfl⟩ := List.getElem_of_mem hx
  rw [h j hj (by omega)]; simp
theorem any_at {α : Type} {p : α → Bool} {l : List α} {i : Nat} (hi : i < l.length) (hp : p l[i] = true) : l.any p = true := List.any_eq_true.2 ⟨_, List.getElem_mem hi, hp⟩
theorem take_eq_succ {α : Type} {a b : List α} {i : Nat} (h : a.take i = b.take i) (ha : i < a.length) (hb : i < b.length) (e : a[i] = b[i]) : a.take (i + 1) = b.take (i + 1) := by
  have h1 : a.take (i + 1) = a.take i ++ [a[i]] := by simp
  have h2 : b.take (i + 1) = b.take i ++ [b[i]] := by simp
  rw [h1, h2, h, e]
theorem take_succ_map {α β : Type} {f : α → β} {a : List α} {i : Nat} (ha : i < a.length) : (a.take (i + 1)).map f = (a.take i).map f ++ [f a[i]] := by
  have h1 : a.take (i + 1) = a.take i ++ [a[i]] := by simp
  rw [h1, List.map_append]; rfl
theorem map_take_succ {α β : Type} {f : α → β} {a : List α} {i : Nat} (ha : i < a.length) : (a.map f).take (i + 1) = (a.map f).take i ++ [f a[i]] := by
  rw [← List.map_take, ← List.map_take, take_succ_map ha]
theorem filter_take_succ {α : Type} {p : α → Bool} {a : List α} {i : Nat} (ha : i < a.length) : (a.take (i + 1)).filter p = (a.take i).filter p ++ (if p a[i] then [a[i]] else []) := by
  have h1 : a.take (i + 1) = a.take i ++ [a[i]] := by simp
  rw [h1, List.filter_append]
  congr 1
  simp [List.filter_cons]
def around (n m : Int) : Int := (if n < 0 then -(n + 1) else n).tmod m
def atL (l : List Int) (i m : Int) : Int := if i < 0 ∨ l.length ≤ i then 0 else around (l.getD i.toNat 0) m
def Nm.less (a b : Nm) : Bool := decide (a.who < b.who) || decide (a.who = b.who) && decide (a.seq < b.seq)
def Nm.isName (n : Nm) : Bool := decide (0 ≤ n.who) && decide (n.who ≤ 3) && decide (0 ≤ n.seq) && decide (n.seq ≤ 63)
def find? (l : List Ed) (n : Nm) : Option Nat := l.findIdx? fun e => decide (e.name = n)
def findI (l : List Ed) (n : Nm) : Int := match find? l n with | some i => i | none => -1
def needsOf (l : List Ed) (n : Nm) : List Nm := match find? l n with | some i => (l.getD i default).needs | none => []
def touches (e : Ed) : List Str := e.puts.map Df.name ++ e.drops
def dropD (l : List Df) (s : Str) : List Df := l.filter fun d => decide (d.name ≠ s)
theorem dropD_skip {l : List Df} {s : Str} {i : Nat} (h : i < l.length) (e : l[i].name = s) : dropD (l.take (i + 1)) s = dropD (l.take i) s := by
  unfold dropD; rw [filter_take_succ h]; simp [e]
theorem dropD_keep {l : List Df} {s : Str} {i : Nat} (h : i < l.length) (e : l[i].name ≠ s) : dropD (l.take (i + 1)) s = dropD (l.take i) s ++ [l[i]] := by
  unfold dropD; rw [filter_take_succ h]; simp [e]
def rpos {α : Type} (p : α → Bool) (out : List α) : Nat → Nat
  | 0 => 0
  | k + 1 => match out[k]? with
    | some y => if p y then rpos p out k else k + 1
    | none => k + 1
def insAt {α : Type} (k : Nat) (x : α) (out : List α) : List α := out.take k ++ x :: out.drop k
def putD (l : List Df) (d : Df) : List Df := insAt (rpos (fun y => Op.bytesLess d.name y.name) (dropD l d.name) (dropD l d.name).length) d (dropD l d.name)
def sortStep (out : List Nm) (x : Nm) : List Nm := if x ∈ out then out else insAt (rpos (fun y => x.less y) out out.length) x out
theorem rpos_stop {α : Type} {p : α → Bool} {out : List α} {k : Nat} (h : ∀ i, k = i + 1 → ∀ (hi : i < out.length), p out[i] = false) : rpos p out k = k := by
  cases k with
  | zero => rfl
  | succ k =>
    simp only [rpos]
    cases q : out[k]? with
    | none => rfl
    | some y =>
      obtain ⟨hk, rfl⟩ := List.getElem?_eq_some_iff.1 q
      simp [h k rfl hk]
theorem rpos_go {α : Type} {p : α → Bool} {out : List α} {k : Nat} (hk : k < out.length) (h : p out[k] = true) : rpos p out (k + 1) = rpos p out k := by
  simp only [rpos, List.getElem?_eq_getElem hk, h, if_true]
theorem rpos_le {α : Type} {p : α → Bool} {out : List α} : ∀ k, rpos p out k ≤ k
  | 0 => Nat.le_refl _
  | k + 1 => by
    simp only [rpos]
    cases out[k]? with
    | none => exact Nat.le_refl _
    | some y => simp only; split; exact Nat.le_succ_of_le (rpos_le k); exact Nat.le_refl _
theorem row_ins {α β : Type} {f : α → β} {acc : List α} {k : Nat} {x : α} {y : β} (h : k ≤ acc.length) (hy : f x = y) : List.take (k + 1) (List.take k (List.take k (List.map f acc)) ++ [y]) ++ List.take (acc.length - k) (List.drop k (List.map f acc)) = List.map f (insAt k x acc) := by
  subst hy
  have h1 : List.take (k + 1) (List.take k (List.take k (List.map f acc)) ++ [f x]) = List.take k (List.map f acc) ++ [f x] := by
    rw [List.take_take, Nat.min_self]
    exact List.take_of_length_le (by simp; omega)
  have h2 : List.take (acc.length - k) (List.drop k (List.map f acc)) = List.drop k (List.map f acc) := List.take_of_length_le (by simp)
  rw [h1, h2]
  simp [insAt]
theorem row_ins_nm {acc : List Nm} {k : Nat} {x : Nm} (h : k ≤ acc.length) : List.take (k + 1) (List.take k (List.take k (List.map Nm.d acc)) ++ [.agg [.int .i64 x.who, .int .i64 x.seq]]) ++ List.take (acc.length - k) (List.drop k (List.map Nm.d acc)) = List.map Nm.d (insAt k x acc) := row_ins h rfl
theorem row_ins_df {acc : List Df} {k : Nat} {x : Df} (h : k ≤ acc.length) : List.take (k + 1) (List.take k (List.take k (List.map Df.d acc)) ++ [.agg [.str x.name, .str x.text]]) ++ List.take (acc.length - k) (List.drop k (List.map Df.d acc)) = List.map Df.d (insAt k x acc) := row_ins h rfl
theorem insAt_length {α : Type} {k : Nat} {x : α} {out : List α} : (insAt k x out).length = out.length + 1 := by
  unfold insAt; simp; omega
def sortN (l : List Nm) : List Nm := l.foldl sortStep []
theorem sortN_succ {l : List Nm} {i : Nat} (h : i < l.length) : sortN (l.take (i + 1)) = sortStep (sortN (l.take i)) l[i] := by
  have h1 : l.take (i + 1) = l.take i ++ [l[i]] := by simp
  unfold sortN
  rw [h1, List.foldl_append]; rfl
def bit16 (bits i : Int) : Bool := decide (((around bits 65536).fdiv (2 ^ (i.tmod 16).toNat)).tmod 2 = 1)
def someN (l : List Ed) (bits : Int) : List Nm := (l.zipIdx.filter fun p => bit16 bits p.2).map fun p => p.1.name
def textOf (l : List Df) (s : Str) : Str := match l.findIdx? (fun d => decide (d.name = s)) with | some i => (l.getD i default).text | none => []
def nameS (n : Int) : Str := ([[97], [98], [99], [100], [97, 97]] : List Str).getD (around n 5).toNat []
def digitS (n : Int) : Str := [UInt8.ofNat (48 + around n 10).toNat]
def defD (n v : Int) : Df := ⟨nameS n, [118, 97, 114, 32] ++ nameS n ++ [32, 61, 32] ++ digitS v ++ [59]⟩
theorem around_lt (n m : Int) (hm : 0 < m) : 0 ≤ around n m ∧ around n m < m := by
  unfold around
  split
  · exact ⟨Int.tmod_nonneg _ (by omega), Int.tmod_lt_of_pos _ hm⟩
  · exact ⟨Int.tmod_nonneg _ (by omega), Int.tmod_lt_of_pos _ hm⟩
end Go.Eng
