/-
  Texts of the proofs of this seat, part 3. No condition.
-/
import Derived.Test.YtmpfgfdjkjekcaaGreatDoorMB
import Derived.Laws.MakeOwn
import Derived.Lib.SliceRun
import Derived.Lib.AppendZerosOnto
import Derived.Lib.Overlaps
set_option linter.unusedVariables false
set_option linter.unusedSimpArgs false
namespace Go.Eng
open Go.RowKit
section
variable {P : Program} {T : TypeId → TyI} {w0 : Base} {X : Nat → Prop} {H : Nat → LObj} {β : Nat → Option Nat} {w : World} {a : Act} {o : Oper} {g : Operand → LV} {E : Nat → Prop}
theorem flat_putL {s : Nat} {xs ys : List DV} {k : Nat} (hall : ∀ x ∈ xs, (cellsD x).length = s) (hys : ∀ y ∈ ys, (cellsD y).length = s) (hk : k + ys.length ≤ xs.length) : flatD (putL k xs ys) = putL (k * s) (flatD xs) (flatD ys) := by
  unfold putL
  rw [flat_append, flat_append, flat_take hall, flat_drop hall, flat_len hys, Nat.add_mul]
theorem Mem.writeRow (m : Mem w0 X H β w) {id b s : Nat} {xs : List DV} {cur : Array Value} {e : TypeId} (hH : H id = .row false s xs) (hb : β id = some b) (hblk : w.heap[b]? = some (.cells cur e (0, 0))) {k : Nat} {ys : List DV} {news : List Value}
    (hys : ∀ y ∈ ys, (cellsD y).length = s) (hk : k + ys.length ≤ xs.length) (hnl : news.length = ys.length * s) (h1 : ∀ u ∈ news, u.oneCell' = true)
    (hp : ∀ (i : Nat) (d : DV) (u : Value), (flatD ys)[i]? = some d → news[i]? = some u → RD w (Ex X β H) d u) :
    Mem w0 X (upd H id (.row false s (putL k xs ys))) β (w.setRow b (putL (k * s) cur.toList news).toArray) ∧ Goes X H β w (upd H id (.row false s (putL k xs ys))) β (w.setRow b (putL (k * s) cur.toList news).toArray) ∧
      k * s + news.length ≤ cur.size ∧ (w.setRow b (putL (k * s) cur.toList news).toArray).heap[b]? = some (.cells (putL (k * s) cur.toList news).toArray e (0, 0)) ∧ (putL (k * s) cur.toList news).toArray.size = cur.size := by
  have hob := m.obj id
  simp only [ObjR, hH] at hob
  obtain ⟨hpos, hall, hob⟩ := hob
  rcases hob with ⟨hnone, _⟩ | ⟨b', e'', cur', hb', hblk', hlen', hpo⟩
  · rw [hnone] at hb; cases hb
  rw [hb] at hb'; injection hb' with hb'; subst hb'
  rw [hblk] at hblk'; injection hblk' with hblk'; injection hblk' with p1 p2; subst p1; subst p2
  have hfit : k * s + ys.length * s ≤ cur.size := by
    rw [← Nat.add_mul]
    exact Nat.le_trans (Nat.mul_le_mul_right _ hk) hlen'
  have hcs : cur.toList.length = cur.size := by simp
  have hpl : (putL (k * s) cur.toList news).toArray.size = cur.size := by rw [List.size_toArray, putL_len (by omega)]; exact hcs
  have hxl : (putL k xs ys).length = xs.length := putL_len hk
  have hfl := flat_len hall
  have hfy := flat_len hys
  have := m.rewrite (id := id) (b := b) (o' := .row false s (putL k xs ys)) (cur' := (putL (k * s) cur.toList news).toArray) (by rw [hH]; rfl) hb hblk hpl
    (.inr ⟨_, _, _, hH, rfl, by rw [hxl]; exact Nat.le_refl _⟩) (fun hD _ => by
      unfold ObjR
      rw [upd_same]
      refine ⟨hpos, putL_mem hall hys, .inr ⟨b, e, _, hb, setRow_heap w b _ _ e (0, 0) hblk, by rw [hpl, hxl]; exact hlen', fun i d v hd hv => ?_⟩⟩
      rw [flat_putL hall hys hk, putL_get (by rw [hfl, hfy, ← Nat.add_mul]; exact Nat.mul_le_mul_right _ hk), hfy] at hd
      simp only [List.getElem?_toArray] at hv
      rw [putL_get (by omega), hnl] at hv
      split at hd
      · rename_i h; rw [if_pos h] at hv
        have := hpo i d v hd (by simpa using hv)
        exact ⟨this.1, hD _ _ this.2⟩
      · rename_i h
        rw [if_neg h] at hv
        split at hd
        · rename_i h'; rw [if_pos h'] at hv; exact ⟨h1 v (List.mem_of_getElem? hv), hD _ _ (hp _ d v hd hv)⟩
        · rename_i h'; rw [if_neg h'] at hv
          have := hpo i d v hd (by simpa using hv)
          exact ⟨this.1, hD _ _ this.2⟩)
  exact ⟨this.1, this.2, by omega, setRow_heap w b _ _ e (0, 0) hblk, hpl⟩
theorem upd_id {id : Nat} {o' : LObj} (h : H id = o') : upd H id o' = H := by
  funext j
  unfold upd
  split
  · rename_i e; rw [e, h]
  · rfl
theorem putL_nil {α : Type} {k : Nat} {xs : List α} : putL k xs [] = xs := by simp [putL]
theorem ow_cases (m : Mem w0 X H β w) {id k n s : Nat} {fz : Bool} {xs : List DV} {v : Value} (hH : H id = .row fz s xs) (hr : R w (Ex X β H) β H (.ow id k n) v) :
    (∃ b c cur e, v = .slice (some ⟨b, k * s, none⟩) n c ∧ β id = some b ∧ k + n ≤ xs.length ∧ n ≤ c ∧ c ≤ maxLen ∧ w.heap[b]? = some (.cells cur e (0, 0)) ∧ (k + c) * s = cur.size ∧ xs.length ≤ k + c) ∨ (∃ p, v = .slice p 0 0 ∧ n = 0 ∧ xs.length ≤ k) := by
  have hob := m.obj id
  simp only [ObjR, hH] at hob
  obtain ⟨hpos, hall, hob⟩ := hob
  cases hr with
  | ow _ _ _ b c _ _ _ cur e' hH' hb hkn hn hc hblk hroom =>
    rw [hH] at hH'; injection hH' with _ q1 q2; subst q1; subst q2
    refine .inl ⟨b, c, cur, e', rfl, hb, hkn, hn, hc, hblk, hroom, ?_⟩
    rcases hob with ⟨hnone, _⟩ | ⟨b', e'', cur', hb', hblk', hlen', _⟩
    · rw [hnone] at hb; cases hb
    · rw [hb] at hb'; injection hb' with hb'; subst hb'
      rw [hblk] at hblk'; injection hblk' with hblk'; injection hblk' with p1 p2; subst p1
      rw [← hroom] at hlen'
      exact Nat.le_of_mul_le_mul_right hlen' hpos
  | ow0 _ _ b _ _ _ hH' hk' =>
    rw [hH] at hH'; injection hH' with _ q1 q2; subst q1; subst q2
    refine .inr ⟨b, rfl, rfl, ?_⟩
    rcases hob with ⟨hnone, he⟩ | ⟨b', e'', cur', hb', hblk', hlen', _⟩
    · rw [he]; exact Nat.zero_le _
    · rcases hk' with ⟨h1, _⟩ | ⟨b2, cur2, e2, h1, h2, h3, _⟩
      · rw [h1] at hb'; cases hb'
      · rw [h1] at hb'; injection hb' with hb'; subst hb'
        rw [h2] at hblk'; injection hblk' with hblk'; injection hblk' with p1 p2; subst p1
        rw [← h3] at hlen'
        exact Nat.le_of_mul_le_mul_right hlen' hpos
  | owdead _ _ _ _ hd => rw [hH] at hd; cases hd
theorem oc_cases (m : Mem w0 X H β w) {id k n c s : Nat} {fz : Bool} {xs : List DV} {v : Value} (hH : H id = .row fz s xs) (hr : R w (Ex X β H) β H (.oc id k n c) v) :
    ∃ p, v = .slice p n c ∧ n ≤ c ∧ k + c ≤ xs.length ∧ c ≤ maxLen ∧ (c = 0 ∨ ∃ b cur e, p = some ⟨b, k * s, none⟩ ∧ β id = some b ∧ w.heap[b]? = some (.cells cur e (0, 0)) ∧ xs.length * s ≤ cur.size) := by
  have hob := m.obj id
  simp only [ObjR, hH] at hob
  obtain ⟨hpos, hall, hob⟩ := hob
  cases hr with
  | oc _ _ _ _ p _ _ _ hH' hn hkc hc ha =>
    rw [hH] at hH'; injection hH' with _ q1 q2; subst q1; subst q2
    refine ⟨p, rfl, hn, hkc, hc, ?_⟩
    rcases ha with ha | ⟨b, hb, hp⟩
    · exact .inl ha
    · rcases hob with ⟨hnone, _⟩ | ⟨b', e'', cur', hb', hblk', hlen', _⟩
      · rw [hnone] at hb; cases hb
      · rw [hb] at hb'; injection hb' with hb'; subst hb'
        exact .inr ⟨b, cur', e'', hp, hb, hblk', hlen'⟩
  | ocdead _ _ _ _ _ hd => rw [hH] at hd; cases hd
theorem op_appendIn (hT : TOk P T) (m : Mem w0 X H β w) (hg : ∀ x, R w (Ex X β H) β H (g x) (a.eval x)) {t u : TypeId} {s x : Operand} (ho : o.op = .call { callee := .builtin .append, args := #[s, x], argTypes := #[t, u] })
    (hu : t = u ∨ (T u).k.isStr = true) (ht : ∀ e, (T t).k = .slice e → (T e).k.isNone = false) (hok : (evalAppendIn T H t (g s) (g x)).ok) : OpS P w0 X H β w a o (evalAppendIn T H t (g s) (g x)) := by
  have hs := hg s
  have hx := hg x
  generalize g s = ls at *
  generalize g x = lx at *
  unfold evalAppendIn at *
  split at hok
  · rename_i e ys id k n hk hy
    split at hok
    · rename_i sz xs hH
      simp only at hok ⊢
      obtain ⟨hsz, hys, hfit⟩ := hok
      subst hsz
      have hut := hT.slice hk
      obtain ⟨inf, d0, z, h1, h2, h3, h4, h5, h6, h7⟩ := hT.parts (ht e hk)
      have huu : ∃ d, P.underlying u = some d ∧ ∀ k, d ≠ .int k := by
        rcases hu with rfl | hu
        · exact ⟨_, hut, fun k => by simp⟩
        · have : (T u).k = .str := by cases q : (T u).k <;> simp_all [TK.isStr]
          exact ⟨_, hT.str this, fun k => by simp⟩
      obtain ⟨d, hud, hdk⟩ := huu
      obtain ⟨news, e1, e2, e3, e4, e5⟩ := elems_run (P := P) m hx hy hys
      rw [← h4] at e2
      generalize hvs : a.eval s = vs at hs
      rcases ow_cases m hH hs with ⟨b, c, cur, e', rfl, hb, hkn, hn, hc, hblk, hroom, hcap⟩ | ⟨p, rfl, rfl, hkx⟩
      · have hin : n + ys.length ≤ c := by omega
        obtain ⟨m2, g2, hf, hblk2, hsz2⟩ := m.writeRow hH hb hblk (k := k + n) hys (by omega) e3 e4 e5
        have hrun := run_append_in (P := P) (w := w) (ty := o.type) (base := some ⟨b, k * (T e).size, none⟩) (sLen := n) (sCap := c) hut hud hdk h1 e1 e2 hin
        have hst := run_storeCells_at P b (k * (T e).size + n * (T e).size) e' news 0 cur w hblk (by rw [← Nat.add_mul]; omega) e4
        refine OpS.of_run (v := .slice (some ⟨b, k * (T e).size, none⟩) (n + ys.length) c) (w' := w.setRow b (putL ((k + n) * (T e).size) cur.toList news).toArray) (β' := β) (exec_append ho ?_) (by simp only [upds_one]; exact m2) (by simp only [upds_one]; exact g2) ?_
        · rw [hvs, hrun]
          simp only [Addr.add_lit, h4]
          simp only [Nat.add_zero] at hst
          rw [hst, Nat.add_mul]
          rfl
        · simp only [upds_one]
          exact R.ow _ k (n + ys.length) b c false (T e).size (putL (k + n) xs ys) _ e' (by rw [upd_same]) hb (by rw [putL_len (by omega)]; omega) hin hc hblk2 (by rw [hsz2]; exact hroom)
      · have hy0 : ys = [] := List.eq_nil_of_length_eq_zero (by omega)
        subst hy0
        have hn0 : news = [] := List.eq_nil_of_length_eq_zero (by simpa using e3)
        subst hn0
        have hrun := run_append_in (P := P) (w := w) (ty := o.type) (base := p) (sLen := 0) (sCap := 0) hut hud hdk h1 e1 e2 (Nat.le_refl _)
        have hid : upds H [(id, LObj.row false (T e).size (putL (k + 0) xs []))] = H := by rw [upds_one, putL_nil]; exact upd_id hH
        refine OpS.of_run (v := .slice p 0 0) (w' := w) (β' := β) (exec_append ho ?_) (by simp only [hid]; exact m) (by simp only [hid]; exact Goes.refl) (by simp only [hid]; exact hs)
        rw [hvs, hrun]
        cases p <;> simp [storeCells]
    · exact hok.elim
  · exact hok.elim
theorem op_copy (hT : TOk P T) (m : Mem w0 X H β w) (hg : ∀ x, R w (Ex X β H) β H (g x) (a.eval x)) {t u : TypeId} {s x : Operand} (ho : o.op = .call { callee := .builtin .copy, args := #[s, x], argTypes := #[t, u] })
    (ht : ∀ e, (T t).k = .slice e → (T e).k.isNone = false) (hok : (evalCopy T H t (g s) (g x)).ok) : OpS P w0 X H β w a o (evalCopy T H t (g s) (g x)) := by
  have hs := hg s
  have hx := hg x
  generalize g s = ls at *
  generalize g x = lx at *
  unfold evalCopy at *
  split at hok
  · rename_i e ys id k n hk hy
    split at hok
    · rename_i sz xs hH
      simp only at hok ⊢
      obtain ⟨hsz, hys, hle, hfit⟩ := hok
      subst hsz
      have hut := hT.slice hk
      obtain ⟨news, e1, e2, e3, e4, e5⟩ := elems_run (P := P) m hx hy hys
      have e2 := e2 w rfl
      have hso := run_sizeOf (P := P) (w := w) hT (ht e hk)
      generalize hvs : a.eval s = vs at hs
      have hmin : Nat.min ys.length n = ys.length := Nat.min_eq_left hle
      rcases ow_cases m hH hs with ⟨b, c, cur, e', rfl, hb, hkn, hn, hc, hblk, hroom, hcap⟩ | ⟨p, rfl, rfl, hkx⟩
      · obtain ⟨m2, g2, hf, hblk2, hsz2⟩ := m.writeRow hH hb hblk (k := k) hys (by omega) e3 e4 e5
        have hst := run_storeCells_at P b (k * (T e).size) e' news 0 cur w hblk (by omega) e4
        simp only [Nat.add_zero] at hst
        refine OpS.of_run (v := .int .i64 ys.length) (w' := w.setRow b (putL (k * (T e).size) cur.toList news).toArray) (β' := β) ?_ (by simp only [upds_one]; exact m2) (by simp only [upds_one]; exact g2) (R.mkInt _ _)
        simp [execOp, ho, resolve, invoke, builtin, Builtin.copy_, run_underlying hut, hvs, e1, hmin, hso, e2, hst, goInt, putL]
      · have hy0 : ys = [] := List.eq_nil_of_length_eq_zero (by omega)
        subst hy0
        have hn0 : news = [] := List.eq_nil_of_length_eq_zero (by simpa using e3)
        subst hn0
        have hid : upds H [(id, LObj.row false (T e).size (putL k xs []))] = H := by rw [upds_one, putL_nil]; exact upd_id hH
        refine OpS.of_run (v := .int .i64 0) (w' := w) (β' := β) ?_ (by simp only [hid]; exact m) (by simp only [hid]; exact Goes.refl) (R.mkInt _ _)
        simp only [List.length_nil] at e1 e2 hmin
        cases p <;> simp [execOp, ho, resolve, invoke, builtin, Builtin.copy_, run_underlying hut, hvs, e1, hmin, hso, e2, storeCells, goInt]
    · exact hok.elim
  · exact hok.elim
theorem op_copyC (hT : TOk P T) (m : Mem w0 X H β w) (hg : ∀ x, R w (Ex X β H) β H (g x) (a.eval x)) {t u : TypeId} {s x : Operand} (ho : o.op = .call { callee := .builtin .copy, args := #[s, x], argTypes := #[t, u] })
    (ht : ∀ e, (T t).k = .slice e → (T e).k.isNone = false) (hok : (evalCopyC T H t (g s) (g x)).ok) : OpS P w0 X H β w a o (evalCopyC T H t (g s) (g x)) := by
  have hs := hg s
  have hx := hg x
  generalize g s = ls at *
  generalize g x = lx at *
  unfold evalCopyC at *
  split at hok
  · rename_i e id k n c hk
    split at hok
    · rename_i ys sz xs hy hH
      simp only [hy, hH] at hok ⊢
      obtain ⟨hsz, hys, hle, hfit⟩ := hok
      subst hsz
      have hut := hT.slice hk
      have hso := run_sizeOf (P := P) (w := w) hT (ht e hk)
      generalize hvs : a.eval s = vs at hs
      generalize hvx : a.eval x = vx at hx
      obtain ⟨news, N, e1, hmin, e2, e3, e4, e5⟩ : ∃ (news : List Value) (N : Nat), (Builtin.lenOf vx).run P w = .ok N w ∧ Nat.min N n = ys.length ∧ (Builtin.firstCells (T e).size ys.length vx).run P w = .ok news.toArray w ∧ news.length = ys.length * (T e).size ∧
          (∀ u ∈ news, u.oneCell' = true) ∧ ∀ (i : Nat) (d : DV) (u : Value), (flatD ys)[i]? = some d → news[i]? = some u → RD w (Ex X β H) d u := by
        have plain : shortL n lx = lx → ∃ (news : List Value) (N : Nat), (Builtin.lenOf vx).run P w = .ok N w ∧ Nat.min N n = ys.length ∧ (Builtin.firstCells (T e).size ys.length vx).run P w = .ok news.toArray w ∧ news.length = ys.length * (T e).size ∧
            (∀ u ∈ news, u.oneCell' = true) ∧ ∀ (i : Nat) (d : DV) (u : Value), (flatD ys)[i]? = some d → news[i]? = some u → RD w (Ex X β H) d u := fun q => by
          rw [q] at hy
          obtain ⟨news, e1, e2, e3, e4, e5⟩ := elems_run (P := P) m hx hy hys
          exact ⟨news, ys.length, e1, Nat.min_eq_left hle, e2 w rfl, e3, e4, e5⟩
        cases lx with
        | oc j k2 m2 c2 =>
          cases hx with
          | oc _ _ _ _ p fz' size' xs' hH' hn' hkc' hc' ha' =>
            have hx' := R.oc (w := w) (E := Ex X β H) (β := β) (H := H) j k2 (min m2 n) c2 p fz' size' xs' hH' (by omega) hkc' hc' ha'
            obtain ⟨news, e1, e2, e3, e4, e5⟩ := elems_run (P := P) m hx' hy hys
            have hl : ys.length = min m2 n := by
              simp only [shortL, elemsOf, hH', Option.some.injEq] at hy
              rw [← hy]; simp; omega
            refine ⟨news, m2, by simp [Builtin.lenOf], by rw [hl], ?_, e3, e4, e5⟩
            have := e2 w rfl
            cases p <;> simpa [Builtin.firstCells] using this
          | ocdead _ _ _ _ _ hd => simp [shortL, elemsOf, hd] at hy
        | _ => exact plain rfl
      obtain ⟨p, rfl, hn, hkc, hc, hb⟩ := oc_cases m hH hs
      rcases hb with hc0 | ⟨b, cur, e', rfl, hb, hblk, hcur⟩
      · have hy0 : ys = [] := List.eq_nil_of_length_eq_zero (by omega)
        subst hy0
        have hn0 : news = [] := List.eq_nil_of_length_eq_zero (by simpa using e3)
        subst hn0
        have hid : upds H [(id, LObj.row false (T e).size (putL k xs []))] = H := by rw [upds_one, putL_nil]; exact upd_id hH
        refine OpS.of_run (v := .int .i64 0) (w' := w) (β' := β) ?_ (by simp only [hid]; exact m) (by simp only [hid]; exact Goes.refl) (R.mkInt _ _)
        simp only [List.length_nil] at e1 e2 hmin
        cases p <;> simp [execOp, ho, resolve, invoke, builtin, Builtin.copy_, run_underlying hut, hvs, hvx, e1, hmin, hso, e2, storeCells, goInt]
      · obtain ⟨m2, g2, hf, hblk2, hsz2⟩ := m.writeRow hH hb hblk (k := k) hys (by omega) e3 e4 e5
        have hst := run_storeCells_at P b (k * (T e).size) e' news 0 cur w hblk (by omega) e4
        simp only [Nat.add_zero] at hst
        refine OpS.of_run (v := .int .i64 ys.length) (w' := w.setRow b (putL (k * (T e).size) cur.toList news).toArray) (β' := β) ?_ (by simp only [upds_one]; exact m2) (by simp only [upds_one]; exact g2) (R.mkInt _ _)
        simp [execOp, ho, resolve, invoke, builtin, Builtin.copy_, run_underlying hut, hvs, hvx, e1, hmin, hso, e2, hst, goInt, putL]
    · exact hok.elim
  · exact hok.elim
theorem cellsD_zero {t : TyI} (h : t.k.agg = false → t.zero.length = 1) : cellsD (zeroD t) = t.zero.map zeroDV := by
  unfold zeroD
  cases q : t.k.agg with
  | true => rfl
  | false =>
    match hz : t.zero, h q with
    | [u], _ =>
      simp only [Bool.false_eq_true, if_false, List.map_cons, List.map_nil, List.getD_cons_zero]
      unfold zeroDV
      split <;> rfl
theorem zeros_R (hT : TOk P T) {e : TypeId} (h : (T e).k.isNone = false) {z : Value} (hz : z.cells.toList = (T e).zero) (n : Nat) {cells : Array Value} (hc : ∀ i, i < n * (T e).size → cells[i]? = some (z.cells[i % z.cells.size]!)) :
    ∀ (i : Nat) (d : DV) (u : Value), (flatD (List.replicate n (zeroD (T e))))[i]? = some d → cells[i]? = some u → u.oneCell' = true ∧ RD w E d u := by
  intro i d u hd hu
  obtain ⟨inf, h1, h2, h3⟩ := (hT e h).zv
  have hl := (hT e h).len
  have one := (hT e h).one
  have hzl : z.cells.size = (T e).size := by rw [← hl, ← hz]; simp
  have hcd := cellsD_zero h3
  have hall : ∀ x ∈ List.replicate n (zeroD (T e)), (cellsD x).length = (T e).size := fun x hx => by rw [(List.mem_replicate.1 hx).2, hcd, List.length_map, hl]
  have hi : i < n * (T e).size := by have := (List.getElem?_eq_some_iff.1 hd).1; rw [flat_len hall, List.length_replicate] at this; exact this
  have hpos : 0 < (T e).size := by rcases Nat.eq_zero_or_pos (T e).size with h | h; rw [h] at hi; omega; exact h
  rw [hc i hi, hzl] at hu
  injection hu with hu
  have hj := Nat.mod_lt i hpos
  have hdm : i / (T e).size * (T e).size + i % (T e).size = i := by rw [Nat.mul_comm]; exact Nat.div_add_mod _ _
  rw [← hdm, flat_get hall _ _ hj] at hd
  have hq : i / (T e).size < n := (Nat.div_lt_iff_lt_mul hpos).2 hi
  rw [List.getElem?_replicate, if_pos hq] at hd
  simp only [Option.bind_some, hcd] at hd
  obtain ⟨u', hu', rfl⟩ := map_get hd
  have huu : u = u' := by
    rw [← hu]
    have : z.cells[i % (T e).size]? = some u' := by rw [← hz] at hu'; simpa using hu'
    simp [getElem!_def, this]
  subst huu
  have := one u (List.mem_of_getElem? hu')
  exact ⟨this, zeroDV_R u this⟩
theorem op_clear (hT : TOk P T) (m : Mem w0 X H β w) (hg : ∀ x, R w (Ex X β H) β H (g x) (a.eval x)) {t : TypeId} {x : Operand} (ho : o.op = .call { callee := .builtin .clear, args := #[x], argTypes := #[t] })
    (ht : ∀ e, (T t).k = .slice e → (T e).k.isNone = false) (hok : (evalClear T H t (g x)).ok) : OpS P w0 X H β w a o (evalClear T H t (g x)) := by
  have hs := hg x
  generalize g x = ls at *
  unfold evalClear at *
  split at hok
  · rename_i e id k n hk
    split at hok
    · rename_i sz xs hH
      simp only at hok ⊢
      obtain ⟨hsz, hfit⟩ := hok
      subst hsz
      have hut := hT.slice hk
      obtain ⟨inf, d0, z, h1, h2, h3, h4, h5, h6, h7⟩ := hT.parts (ht e hk)
      have h3 := (hT e (ht e hk)).zv.choose_spec.2.2
      have hl := (hT e (ht e hk)).len
      have hzl : z.cells.size = (T e).size := by rw [← hl, ← h7]; simp
      generalize hvs : a.eval x = vs at hs
      have hzv : (zeroValue e).run P w = .ok z w := by simp [zeroValue, typeInfo, h1, h6]
      rcases Nat.eq_zero_or_pos n with hn0 | hn0
      · subst hn0
        have hid : upds H [(id, LObj.row false (T e).size (putL k xs (List.replicate 0 (zeroD (T e)))))] = H := by rw [upds_one]; exact upd_id (by rw [hH, List.replicate_zero, putL_nil])
        refine OpS.of_run (v := .tuple #[]) (w' := w) (β' := β) ?_ (by simp only [hid]; exact m) (by simp only [hid]; exact Goes.refl) (.tup [] [] rfl (by simp))
        rcases ow_cases m hH hs with ⟨b, c, cur, e', rfl, hb, hkn, hn, hc, hblk, hroom, hcap⟩ | ⟨p, rfl, _, hkx⟩
        · simp [execOp, ho, resolve, invoke, builtin, Builtin.clear_, run_underlying hut, hvs]
        · cases p <;> simp [execOp, ho, resolve, invoke, builtin, Builtin.clear_, run_underlying hut, hvs]
      · rcases ow_cases m hH hs with ⟨b, c, cur, e', rfl, hb, hkn, hn, hc, hblk, hroom, hcap⟩ | ⟨p, rfl, rfl, hkx⟩
        · have hcl : ∀ i, i < n * (T e).size → (Builtin.zeroCells z.cells n)[i]? = some (z.cells[i % z.cells.size]!) := fun i hi => by
            simp [Builtin.zeroCells, hzl, hi]
          have hzr := zeros_R (P := P) (w := w) (E := Ex X β H) hT (ht e hk) h7 n hcl
          have hzc : (Builtin.zeroCells z.cells n).toList.length = (List.replicate n (zeroD (T e))).length * (T e).size := by simp [size_zeroCells, hzl]
          have hall : ∀ y ∈ List.replicate n (zeroD (T e)), (cellsD y).length = (T e).size := fun y hy => by rw [(List.mem_replicate.1 hy).2, cellsD_zero h3, List.length_map, hl]
          have hone : ∀ u ∈ (Builtin.zeroCells z.cells n).toList, u.oneCell' = true := fun u hu => by
            obtain ⟨i, hi, rfl⟩ := List.getElem_of_mem hu
            rw [hzc] at hi
            have hfl := flat_len hall
            exact (hzr i ((flatD (List.replicate n (zeroD (T e))))[i]'(by omega)) _ (List.getElem?_eq_getElem _) (by simp)).1
          obtain ⟨m2, g2, hf, hblk2, hsz2⟩ := m.writeRow hH hb hblk (k := k) hall (by simpa using hfit) hzc hone (fun i d u hd hu => (hzr i d u hd (by simpa using hu)).2)
          have hst := run_storeCells_at P b (k * (T e).size) e' (Builtin.zeroCells z.cells n).toList 0 cur w hblk (by omega) hone
          simp only [Nat.add_zero] at hst
          refine OpS.of_run (v := .tuple #[]) (w' := w.setRow b (putL (k * (T e).size) cur.toList (Builtin.zeroCells z.cells n).toList).toArray) (β' := β) ?_ (by simp only [upds_one]; exact m2) (by simp only [upds_one]; exact g2) (.tup [] [] rfl (by simp))
          obtain ⟨n', rfl⟩ : ∃ n', n = n' + 1 := ⟨n - 1, by omega⟩
          simp [execOp, ho, resolve, invoke, builtin, Builtin.clear_, run_underlying hut, hvs, hzv, hst, putL]
        · omega
    · exact hok.elim
  · rename_i e id k n c hk
    split at hok
    · rename_i sz xs hH
      simp only at hok ⊢
      obtain ⟨hsz, hfit⟩ := hok
      subst hsz
      have hut := hT.slice hk
      obtain ⟨inf, d0, z, h1, h2, h3, h4, h5, h6, h7⟩ := hT.parts (ht e hk)
      have h3 := (hT e (ht e hk)).zv.choose_spec.2.2
      have hl := (hT e (ht e hk)).len
      have hzl : z.cells.size = (T e).size := by rw [← hl, ← h7]; simp
      generalize hvs : a.eval x = vs at hs
      have hzv : (zeroValue e).run P w = .ok z w := by simp [zeroValue, typeInfo, h1, h6]
      rcases Nat.eq_zero_or_pos n with hn0 | hn0
      · subst hn0
        have hid : upds H [(id, LObj.row false (T e).size (putL k xs (List.replicate 0 (zeroD (T e)))))] = H := by rw [upds_one]; exact upd_id (by rw [hH, List.replicate_zero, putL_nil])
        refine OpS.of_run (v := .tuple #[]) (w' := w) (β' := β) ?_ (by simp only [hid]; exact m) (by simp only [hid]; exact Goes.refl) (.tup [] [] rfl (by simp))
        obtain ⟨p, rfl, hn, hkc, hc, hb⟩ := oc_cases m hH hs
        cases p <;> simp [execOp, ho, resolve, invoke, builtin, Builtin.clear_, run_underlying hut, hvs]
      · obtain ⟨p, rfl, hn, hkc, hc, hb⟩ := oc_cases m hH hs
        rcases hb with hc0 | ⟨b, cur, e', rfl, hb, hblk, hcur⟩
        · omega
        · have hcl : ∀ i, i < n * (T e).size → (Builtin.zeroCells z.cells n)[i]? = some (z.cells[i % z.cells.size]!) := fun i hi => by
            simp [Builtin.zeroCells, hzl, hi]
          have hzr := zeros_R (P := P) (w := w) (E := Ex X β H) hT (ht e hk) h7 n hcl
          have hzc : (Builtin.zeroCells z.cells n).toList.length = (List.replicate n (zeroD (T e))).length * (T e).size := by simp [size_zeroCells, hzl]
          have hall : ∀ y ∈ List.replicate n (zeroD (T e)), (cellsD y).length = (T e).size := fun y hy => by rw [(List.mem_replicate.1 hy).2, cellsD_zero h3, List.length_map, hl]
          have hone : ∀ u ∈ (Builtin.zeroCells z.cells n).toList, u.oneCell' = true := fun u hu => by
            obtain ⟨i, hi, rfl⟩ := List.getElem_of_mem hu
            rw [hzc] at hi
            have hfl := flat_len hall
            exact (hzr i ((flatD (List.replicate n (zeroD (T e))))[i]'(by omega)) _ (List.getElem?_eq_getElem _) (by simp)).1
          obtain ⟨m2, g2, hf, hblk2, hsz2⟩ := m.writeRow hH hb hblk (k := k) hall (by simpa using hfit) hzc hone (fun i d u hd hu => (hzr i d u hd (by simpa using hu)).2)
          have hst := run_storeCells_at P b (k * (T e).size) e' (Builtin.zeroCells z.cells n).toList 0 cur w hblk (by omega) hone
          simp only [Nat.add_zero] at hst
          refine OpS.of_run (v := .tuple #[]) (w' := w.setRow b (putL (k * (T e).size) cur.toList (Builtin.zeroCells z.cells n).toList).toArray) (β' := β) ?_ (by simp only [upds_one]; exact m2) (by simp only [upds_one]; exact g2) (.tup [] [] rfl (by simp))
          obtain ⟨n', rfl⟩ : ∃ n', n = n' + 1 := ⟨n - 1, by omega⟩
          simp [execOp, ho, resolve, invoke, builtin, Builtin.clear_, run_underlying hut, hvs, hzv, hst, putL]
    · exact hok.elim
  · exact hok.elim
theorem op_make (hT : TOk P T) (m : Mem w0 X H β w) (hg : ∀ x, R w (Ex X β H) β H (g x) (a.eval x)) {t : TypeId} {n c : Operand} {dst : Nat} (ho : o.op = .makeSlice t n c)
    (ht : ∀ e, (T t).k = .slice e → (T e).k.isNone = false) (hok : (evalMake T H dst t (g n) (g c)).ok) : OpS P w0 X H β w a o (evalMake T H dst t (g n) (g c)) := by
  have hn := hg n
  have hc := hg c
  generalize g n = ln at *
  generalize g c = lc at *
  unfold evalMake at *
  split at hok
  · rename_i e k n' k' c' hk
    simp only at hok ⊢
    obtain ⟨ha, h0, hnc, hmx, hpos, hby⟩ := hok
    subst hnc
    have hn := hn.int
    have hc := hc.int
    have hut := hT.slice hk
    obtain ⟨inf, d0, z, h1, h2, h3, h4, h5, h6, h7⟩ := hT.parts (ht e hk)
    have h3 := (hT e (ht e hk)).zv.choose_spec.2.2
    have hl := (hT e (ht e hk)).len
    have hzl : z.cells.size = (T e).size := by rw [← hl, ← h7]; simp
    obtain ⟨N, rfl⟩ := Int.eq_ofNat_of_zero_le h0
    have hbb : (inf.bytes : Int) * (N : Int) ≤ 281474976710656 := by rw [h5, Int.mul_comm]; omega
    have hrun := Go.run_make (P := P) w t e inf z hut h1 h6 k k' (N : Int) (N : Int) h0 (Int.le_refl _) hbb (by omega)
    simp only [Int.toNat_natCast] at hrun ⊢
    have hcl : ∀ i, i < N * (T e).size → (madeCells z.cells (N * inf.size))[i]? = some (z.cells[i % z.cells.size]!) := fun i hi => by
      rw [h4]; simp [madeCells, hi]
    have hzr := zeros_R (P := P) (w := w) (E := Ex X β H) hT (ht e hk) h7 N hcl
    have hall : ∀ y ∈ List.replicate N (zeroD (T e)), (cellsD y).length = (T e).size := fun y hy => by rw [(List.mem_replicate.1 hy).2, cellsD_zero h3, List.length_map, hl]
    have hcs : (madeCells z.cells (N * inf.size)).size = N * (T e).size := by rw [size_madeCells, h4]
    obtain ⟨m2, g2⟩ := new_row m ha hpos hall e (cur := madeCells z.cells (N * inf.size)) (by rw [hcs, List.length_replicate]; exact Nat.le_refl _) hzr ((Bel.refl _ _).alloc (Nat.le_refl _) _) (by simp) (heap_alloc_new w _)
    refine OpS.of_run (v := .slice (some ⟨w.heap.size, 0, none⟩) N N) (w' := w.alloc (.cells (madeCells z.cells (N * inf.size)) e)) (β' := upd β dst (some w.heap.size)) ?_ (by simp only [upds_one]; exact m2) (by simp only [upds_one]; exact g2) ?_
    · simp [execOp, ho, hn, hc, hrun]
    · simp only [upds_one]
      have hR := R.ow (w := w.alloc (.cells (madeCells z.cells (N * inf.size)) e)) (E := Ex X (upd β dst (some w.heap.size)) (upd H dst (.row false (T e).size (List.replicate N (zeroD (T e)))))) (β := upd β dst (some w.heap.size)) (H := upd H dst (.row false (T e).size (List.replicate N (zeroD (T e)))))
        dst 0 N w.heap.size N false (T e).size _ _ e (by rw [upd_same]) (by rw [upd_same]) (by simp) (Nat.le_refl _) (by unfold maxLen; omega) (heap_alloc_new w _) (by rw [hcs, Nat.zero_add])
      rw [Nat.zero_mul] at hR
      exact hR
  · exact hok.elim
theorem run_cut (hT : TOk P T) {t e : TypeId} (hk : (T t).k = .slice e) (he : (T e).k.isNone = false) {b : Option Addr} {n c : Nat} {lo hi : Option Operand} {mx : Operand} {l h m : Int} {km : IntKind}
    (hl : (lo = none ∧ l = 0) ∨ ∃ x k, lo = some x ∧ a.eval x = .int k l) (hh : ∃ x k, hi = some x ∧ a.eval x = .int k h) (hm : a.eval mx = .int km m) (h0 : 0 ≤ l) (h1 : l ≤ h) (h2 : h ≤ m) (h3 : m ≤ c) :
    (Instr.sliceAt t (.slice b n c) (lo.map a.eval) (hi.map a.eval) ((some mx).map a.eval)).run P w = .ok (.slice (if m.toNat = l.toNat then b else b.map (·.add (l.toNat * (T e).size))) (h.toNat - l.toNat) (m.toNat - l.toNat)) w := by
  have hu := hT.slice hk
  have hso := run_sizeOf (P := P) (w := w) hT he
  have b0 : ∀ k y, (Instr.sliceBound (.int k m) c y).run P w = .ok m.toNat w := fun k y => run_sliceBound w k m c y (by omega) h3
  have b1 : ∀ k y, (Instr.sliceBound (.int k h) m.toNat y).run P w = .ok h.toNat w := fun k y => run_sliceBound w k h m.toNat y (by omega) (by omega)
  have b2 : ∀ k y, (Instr.sliceBound (.int k l) h.toNat y).run P w = .ok l.toNat w := fun k y => run_sliceBound w k l h.toNat y h0 (by omega)
  obtain ⟨x, k, rfl, hx⟩ := hh
  rcases hl with ⟨rfl, rfl⟩ | ⟨y, k', rfl, hy⟩
  · simp [Instr.sliceAt, Instr.slice, Instr.sliceBounds, run_underlying hu, hx, hm, b0, b1, hso]
  · simp [Instr.sliceAt, Instr.slice, Instr.sliceBounds, run_underlying hu, hx, hm, hy, b0, b1, b2, hso]
theorem RD.sl_any {xs : List DV} {b b' : Option Addr} {n c c' : Nat} (h : RD w E (.sl xs) (.slice b n c)) (h1 : xs.length ≤ c') (h2 : c' ≤ maxLen) (hb : xs ≠ [] → b' = b) : RD w E (.sl xs) (.slice b' n c') := by
  cases h with
  | sl0 a c hc => exact .sl0 _ _ h2
  | sl _ b o c size us hx hb' hs hlen hc hul h1' hlt hcell h =>
    rw [hb hx]
    exact .sl xs b o c' size us hx hb' hs h1 h2 hul h1' hlt hcell h
theorem op_cut (hT : TOk P T) (m : Mem w0 X H β w) (hg : ∀ x, R w (Ex X β H) β H (g x) (a.eval x)) {t : TypeId} {x : Operand} {lo hi mx : Option Operand} (ho : o.op = .slice t x lo hi mx)
    (ht : ∀ e, (T t).k = .slice e → (T e).k.isNone = false) (hmx : mx.isSome = true) (hhi : mx.isSome = true → hi.isSome = true) (hok : (evalCut T H t (g x) (lo.map g) (hi.map g) (mx.map g)).ok) : OpS P w0 X H β w a o (evalCut T H t (g x) (lo.map g) (hi.map g) (mx.map g)) := by
  have hx := hg x
  generalize g x = lx at *
  generalize hval : a.eval x = vx at hx
  have hmm : ∀ {k : IntKind} {m : Int}, mx.map g = some (.d (.int k m)) → ∃ y, mx = some y ∧ a.eval y = .int k m := fun {k m} e => by
    obtain ⟨y, rfl, hy⟩ := Option.map_eq_some_iff.1 e
    have := hg y
    rw [hy] at this
    exact ⟨y, rfl, this.int⟩
  have hhh : ∀ {n : Nat} {h : Int}, bound n (hi.map g) = some h → ∃ x k, hi = some x ∧ a.eval x = .int k h := fun {n h} e => by
    rcases bound_run hg e with ⟨h1, _⟩ | h1
    · have := hhi hmx; rw [h1] at this; cases this
    · exact h1
  unfold evalCut at *
  split at hok
  · rename_i e id k n hk
    split at hok
    · rename_i l h kk m' e1 e2 e3
      simp only [Res.cond] at hok ⊢
      obtain ⟨h0, h1, h2, h3, hl⟩ := hok
      obtain ⟨y, rfl, hy⟩ := hmm e3
      have hform : ∃ b c, vx = .slice b n c ∧ n ≤ c := by
        cases hx with
        | ow _ _ _ b c _ _ _ _ _ _ _ _ hn => exact ⟨_, c, rfl, hn⟩
        | ow0 _ _ b => exact ⟨b, 0, rfl, Nat.le_refl _⟩
        | owdead _ _ _ _ hd => rw [hd] at hl; cases hl
      obtain ⟨b, c, rfl, hnc⟩ := hform
      have hr := run_cut (P := P) (w := w) (a := a) (b := b) (n := n) (c := c) hT hk (ht e hk) (bound_run hg e1) (hhh e2) hy h0 h1 h2 (by omega)
      refine OpS.plain m (v := .slice (if m'.toNat = l.toNat then b else b.map (·.add (l.toNat * (T e).size))) (h.toNat - l.toNat) (m'.toNat - l.toNat)) ?_ (.junk _)
      simp only [execOp, ho, hval, Sem.run_bind, hr, Result.andThen_ok, Sem.run_pure]
    · exact hok.elim
  · rename_i e xs hk
    split at hok
    · rename_i l h kk m' e1 e2 e3
      simp only [Res.cond] at hok ⊢
      obtain ⟨h0, h1, h2, h3, hall⟩ := hok
      obtain ⟨y, rfl, hy⟩ := hmm e3
      cases hx with
      | d _ _ hx =>
        have hform : ∃ b c, vx = .slice b xs.length c ∧ xs.length ≤ c ∧ c ≤ maxLen := by cases hx with
          | sl0 b c hc => exact ⟨b, c, rfl, Nat.zero_le _, hc⟩
          | sl _ b off c _ _ hx _ _ hlen hc => exact ⟨_, c, rfl, hlen, hc⟩
        obtain ⟨b, c, rfl, hlc, hcm⟩ := hform
        have hr := run_cut (P := P) (w := w) (a := a) (b := b) (n := xs.length) (c := c) hT hk (ht e hk) (bound_run hg e1) (hhh e2) hy h0 h1 h2 (by omega)
        have hcut := hx.sl_cut hall (l := l.toNat) (h := h.toNat) (by omega) (by omega)
        have hlen : ((xs.take h.toNat).drop l.toNat).length = h.toNat - l.toNat := by simp; omega
        refine OpS.plain m ?_ (.d _ _ (hcut.sl_any (c' := m'.toNat - l.toNat) (b' := if m'.toNat = l.toNat then b else b.map (·.add (l.toNat * (T e).size))) (by omega) (by omega) fun hne => ?_))
        · simp only [execOp, ho, hval, Sem.run_bind, hr, Result.andThen_ok, Sem.run_pure]
        · have : h.toNat - l.toNat ≠ 0 := fun hz => hne (List.eq_nil_of_length_eq_zero (by omega))
          rw [if_neg (by omega), if_neg (by omega)]
    · exact hok.elim
  · rename_i e id k n c hk
    split at hok
    · rename_i fz s xs hH
      split at hok
      · rename_i l h kk m' e1 e2 e3
        simp only [Res.cond] at hok ⊢
        obtain ⟨h0, h1, h2, h3, h4⟩ := hok
        obtain ⟨y, rfl, hy⟩ := hmm e3
        obtain ⟨p, rfl, hn, hkc, hc, hb⟩ := oc_cases m hH hx
        have hr := run_cut (P := P) (w := w) (a := a) (b := p) (n := n) (c := c) hT hk (ht e hk) (bound_run hg e1) (hhh e2) hy h0 h1 h2 (by omega)
        have hR : R w (Ex X β H) β H (.oc id (k + l.toNat) (h - l).toNat (m' - l).toNat) (.slice (if m'.toNat = l.toNat then p else p.map (·.add (l.toNat * (T e).size))) (h - l).toNat (m' - l).toNat) := by
          refine .oc id (k + l.toNat) (h - l).toNat (m' - l).toNat _ fz s xs hH (by omega) (by omega) (by omega) ?_
          by_cases hcl : m'.toNat = l.toNat
          · left; omega
          · right
            rcases hb with hb | ⟨b, cur, e', rfl, hb, hblk, hcur⟩
            · omega
            · exact ⟨b, hb, by rw [if_neg hcl]; simp only [Option.map_some, Addr.add_lit]; rw [← h4, ← Nat.add_mul]⟩
        refine OpS.plain m ?_ hR
        have e4 : (h - l).toNat = h.toNat - l.toNat := by omega
        have e5 : (m' - l).toNat = m'.toNat - l.toNat := by omega
        rw [e4, e5]
        simp only [execOp, ho, hval, Sem.run_bind, hr, Result.andThen_ok, Sem.run_pure]
      · exact hok.elim
    · exact hok.elim
  · exact hok.elim
theorem op_wrap (m : Mem w0 X H β w) (hg : ∀ x, R w (Ex X β H) β H (g x) (a.eval x)) {op : BinOp} {t u : TypeId} {x y : Operand} (ho : o.op = .binOp op t x y u) (hok : (evalWrap op (g x) (g y)).ok) : OpS P w0 X H β w a o (evalWrap op (g x) (g y)) := by
  have hx := hg x
  have hy := hg y
  generalize g x = lx at *
  generalize g y = ly at *
  unfold evalWrap at *
  split at hok
  · rename_i k n k' n'
    have hx := hx.int
    have hy := hy.int
    cases op <;> simp only [Res.cond] at hok ⊢ <;> first | (exact hok.elim) | skip
    all_goals
      subst hok
      exact OpS.plain m (by simp [execOp, ho, hx, hy, guard_int, binOp, Op.intArith]) (R.mkInt _ _)
  · exact hok.elim
theorem lenL_form (m : Mem w0 X H β w) {l : LV} {v : Value} (hr : R w (Ex X β H) β H l v) {n : Nat} (h : lenL H l = some n) : ∃ b c, v = .slice b n c ∧ n ≤ c ∧ c ≤ maxLen ∧ (b = none → n = 0) := by
  unfold lenL at h
  split at h
  · injection h with h; subst h
    cases hr with
    | d _ _ hr => cases hr with
      | sl0 b c hc => exact ⟨b, c, rfl, Nat.zero_le _, hc, fun _ => rfl⟩
      | sl _ b off c _ _ hx _ _ hlen hc => exact ⟨_, c, rfl, hlen, hc, fun h => by cases h⟩
  · injection h with h; subst h
    cases hr with | nl b => exact ⟨b, 0, rfl, Nat.le_refl _, Nat.zero_le _, fun _ => rfl⟩
  · rename_i id k n'
    split at h
    · rename_i hl
      injection h with h; subst h
      cases hr with
      | ow _ _ _ b c _ _ _ _ _ _ _ _ hn hc => exact ⟨_, c, rfl, hn, hc, fun h => by cases h⟩
      | ow0 _ _ b => exact ⟨b, 0, rfl, Nat.le_refl _, Nat.zero_le _, fun _ => rfl⟩
      | owdead _ _ _ _ hd => rw [hd] at hl; cases hl
    · cases h
  · cases h
theorem op_nil (hT : TOk P T) (m : Mem w0 X H β w) (hg : ∀ x, R w (Ex X β H) β H (g x) (a.eval x)) {op : BinOp} {t u : TypeId} {x y : Operand} (ho : o.op = .binOp op t x y u) (hy : isNilC y = true) {e b : Bool} (hok : (evalNil T H t e b op (g x)).ok) :
    ∃ b', (b' = true → e = true) ∧ OpS P w0 X H β w a o (evalNil T H t e b' op (g x)) := by
  have hx := hg x
  generalize g x = lx at *
  have hyc : y = .const (.slice none 0 0) := by
    unfold isNilC at hy
    split at hy
    · rfl
    · cases hy
  subst hyc
  have hev : a.eval (.const (.slice none 0 0)) = .slice none 0 0 := rfl
  unfold evalNil at hok
  split at hok
  · rename_i e' n hk hn
    obtain ⟨p, c, hv, h1, h2, h3⟩ := lenL_form m hx hn
    simp only [Res.cond] at hok
    refine ⟨p.isNone, fun h => hok (h3 (by cases p <;> simp_all)), ?_⟩
    unfold evalNil
    simp only [hk, hn, Res.cond]
    refine OpS.plain m (v := .bool p.isNone) ?_ (R.mkBool _)
    have := Lib.run_eql_slice_nil (P := P) w t e' p n c 0 0 (hT.slice hk)
    cases p <;> simp [execOp, ho, hv, hev, eqGuard, this]
  · rename_i e' n hk hn
    obtain ⟨p, c, hv, h1, h2, h3⟩ := lenL_form m hx hn
    simp only [Res.cond] at hok
    refine ⟨p.isNone, fun h => hok (h3 (by cases p <;> simp_all)), ?_⟩
    unfold evalNil
    simp only [hk, hn, Res.cond]
    refine OpS.plain m (v := .bool (!p.isNone)) ?_ (R.mkBool _)
    have := run_neq_slice_nil_any (P := P) w t e' p n c 0 0 (hT.slice hk)
    cases p <;> simp [execOp, ho, hv, hev, eqGuard, this]
  · exact hok.elim
theorem op_cap (hT : TOk P T) (m : Mem w0 X H β w) (hg : ∀ x, R w (Ex X β H) β H (g x) (a.eval x)) {t : TypeId} {x : Operand} (ho : o.op = .call { callee := .builtin .cap, args := #[x], argTypes := #[t] }) {lo c : Nat} (hok : (evalCap T H t lo c (g x)).ok) :
    ∃ c', lo ≤ c' ∧ c' ≤ maxLen ∧ OpS P w0 X H β w a o (evalCap T H t lo c' (g x)) := by
  have hx := hg x
  generalize g x = lx at *
  generalize hval : a.eval x = vx at hx
  have fin : ∀ {e : TypeId} {b : Option Addr} {n c : Nat}, (T t).k = .slice e → vx = .slice b n c → (execOp a.eval o).run P w = .ok (.value (.int .i64 c)) w := fun {e b n c} hk hv => by
    have hu := hT.slice hk
    subst hv
    simp [execOp, ho, resolve, invoke, builtin, Builtin.cap_, run_underlying hu, hval, goInt]
  unfold evalCap at hok
  split at hok
  · rename_i e xs hk
    simp only [Res.cond] at hok
    cases hx with
    | d _ _ hx =>
      have hform : ∃ b c, vx = .slice b xs.length c ∧ xs.length ≤ c ∧ c ≤ maxLen := by cases hx with
        | sl0 b c hc => exact ⟨b, c, rfl, Nat.zero_le _, hc⟩
        | sl _ b off c _ _ hx _ _ hlen hc => exact ⟨_, c, rfl, hlen, hc⟩
      obtain ⟨b, c', hv, h1, h2⟩ := hform
      refine ⟨c', by omega, h2, ?_⟩
      unfold evalCap
      simp only [hk, Res.cond]
      exact OpS.plain m (fin hk hv) (R.mkInt _ _)
  · rename_i e hk
    simp only [Res.cond] at hok
    cases hx with
    | nl b =>
      refine ⟨0, by omega, Nat.zero_le _, ?_⟩
      unfold evalCap
      simp only [hk, Res.cond]
      exact OpS.plain m (fin hk rfl) (R.mkInt _ _)
  · rename_i e id k n hk
    split at hok
    · rename_i fz sz xs hH
      simp only [Res.cond] at hok
      rcases ow_cases m hH hx with ⟨b, c', cur, e', rfl, hb, hkn, hn, hc, hblk, hroom, hcap⟩ | ⟨p, rfl, rfl, hkx⟩
      · refine ⟨c', by omega, hc, ?_⟩
        unfold evalCap
        simp only [hk, hH, Res.cond]
        exact OpS.plain m (fin hk rfl) (R.mkInt _ _)
      · refine ⟨0, by omega, Nat.zero_le _, ?_⟩
        unfold evalCap
        simp only [hk, hH, Res.cond]
        exact OpS.plain m (fin hk rfl) (R.mkInt _ _)
    · exact hok.elim
  · exact hok.elim
theorem op_capC (hT : TOk P T) (m : Mem w0 X H β w) (hg : ∀ x, R w (Ex X β H) β H (g x) (a.eval x)) {t : TypeId} {x : Operand} (ho : o.op = .call { callee := .builtin .cap, args := #[x], argTypes := #[t] }) (hok : (evalCapC T H t (g x)).ok) :
    OpS P w0 X H β w a o (evalCapC T H t (g x)) := by
  have hx := hg x
  generalize g x = lx at *
  generalize hval : a.eval x = vx at hx
  unfold evalCapC at *
  split at hok
  · rename_i e id k n c hk
    simp only [Res.cond] at hok ⊢
    have hu := hT.slice hk
    cases hx with
    | oc _ _ _ _ p =>
      refine OpS.plain m (v := .int .i64 c) ?_ (R.mkInt _ _)
      simp [execOp, ho, resolve, invoke, builtin, Builtin.cap_, run_underlying hu, hval, goInt]
    | ocdead _ _ _ _ _ hd => rw [hd] at hok; cases hok
  · rename_i e hk
    have hu := hT.slice hk
    cases hx with
    | nl p =>
      refine OpS.plain m (v := .int .i64 0) ?_ (R.mkInt _ _)
      simp [execOp, ho, resolve, invoke, builtin, Builtin.cap_, run_underlying hu, hval, goInt]
  · exact hok.elim
theorem op_appendC (hT : TOk P T) (m : Mem w0 X H β w) (hg : ∀ x, R w (Ex X β H) β H (g x) (a.eval x)) {t u : TypeId} {s x : Operand} {dst : Nat} (ho : o.op = .call { callee := .builtin .append, args := #[s, x], argTypes := #[t, u] })
    (hu : t = u ∨ (T u).k.isStr = true) (ht : ∀ e, (T t).k = .slice e → (T e).k.isNone = false) (hok : (evalAppendC T H dst t (g s) (g x)).ok) : OpS P w0 X H β w a o (evalAppendC T H dst t (g s) (g x)) := by
  have hs := hg s
  have hx := hg x
  generalize g s = ls at *
  generalize g x = lx at *
  unfold evalAppendC at *
  split at hok
  · rename_i e ys id k n c hk hy
    split at hok
    · rename_i sz xs hH
      have hut := hT.slice hk
      obtain ⟨inf, d0, z, h1, h2, h3, h4, h5, h6, h7⟩ := hT.parts (ht e hk)
      have huu : ∃ d, P.underlying u = some d ∧ ∀ k, d ≠ .int k := by
        rcases hu with rfl | hu
        · exact ⟨_, hut, fun k => by simp⟩
        · have : (T u).k = .str := by cases q : (T u).k <;> simp_all [TK.isStr]
          exact ⟨_, hT.str this, fun k => by simp⟩
      obtain ⟨d, hud, hdk⟩ := huu
      have hzs : z.cells.size = (T e).size := by
        have := (hT e (ht e hk)).len
        rw [← h7] at this
        simpa using this
      generalize hvs : a.eval s = vs at hs
      obtain ⟨p, rfl, hn, hkc, hc, hb⟩ := oc_cases m hH hs
      have hob := m.obj id
      simp only [ObjR, hH] at hob
      obtain ⟨hpos, hall, hob⟩ := hob
      by_cases hin : n + ys.length ≤ c
      · simp only [hin, if_true] at hok ⊢
        obtain ⟨hsz, hys⟩ := hok
        subst hsz
        obtain ⟨news, e1, e2, e3, e4, e5⟩ := elems_run (P := P) m hx hy hys
        rw [← h4] at e2
        rcases hb with hc0 | ⟨b, cur, e', rfl, hb, hblk, hcur⟩
        · have hy0 : ys = [] := List.eq_nil_of_length_eq_zero (by omega)
          subst hy0
          have hn0 : news = [] := List.eq_nil_of_length_eq_zero (by simpa using e3)
          subst hn0
          have hz : n = 0 := by omega
          subst hz; subst hc0
          have hrun := run_append_in (P := P) (w := w) (ty := o.type) (base := p) (sLen := 0) (sCap := 0) hut hud hdk h1 e1 e2 (Nat.le_refl _)
          have hid : upds H [(id, LObj.row false (T e).size (putL (k + 0) xs []))] = H := by rw [upds_one, putL_nil]; exact upd_id hH
          refine OpS.of_run (v := .slice p 0 0) (w' := w) (β' := β) (exec_append ho ?_) (by simp only [hid]; exact m) (by simp only [hid]; exact Goes.refl) (by simp only [hid]; exact hs)
          rw [hvs, hrun]
          cases p <;> simp [storeCells]
        · obtain ⟨m2, g2, hf, hblk2, hsz2⟩ := m.writeRow hH hb hblk (k := k + n) hys (by omega) e3 e4 e5
          have hrun := run_append_in (P := P) (w := w) (ty := o.type) (base := some ⟨b, k * (T e).size, none⟩) (sLen := n) (sCap := c) hut hud hdk h1 e1 e2 hin
          have hst := run_storeCells_at P b (k * (T e).size + n * (T e).size) e' news 0 cur w hblk (by rw [← Nat.add_mul]; omega) e4
          refine OpS.of_run (v := .slice (some ⟨b, k * (T e).size, none⟩) (n + ys.length) c) (w' := w.setRow b (putL ((k + n) * (T e).size) cur.toList news).toArray) (β' := β) (exec_append ho ?_) (by simp only [upds_one]; exact m2) (by simp only [upds_one]; exact g2) ?_
          · rw [hvs, hrun]
            simp only [Addr.add_lit, h4]
            simp only [Nat.add_zero] at hst
            rw [hst, Nat.add_mul]
            rfl
          · simp only [upds_one]
            exact R.oc _ k (n + ys.length) c _ false (T e).size (putL (k + n) xs ys) (by rw [upd_same]) hin (by rw [putL_len (by omega)]; omega) hc (.inr ⟨b, hb, rfl⟩)
      · simp only [hin, if_false] at hok ⊢
        obtain ⟨ha, hsz, hys, hby, hbl⟩ := hok
        subst hsz
        obtain ⟨news, e1, e2, e3, e4, e5⟩ := elems_run (P := P) m hx hy hys
        rw [← h4] at e2
        have hne : dst ≠ id := fun e => by rw [e, hH] at ha; cases ha
        have holds : ∃ olds : List Value, (∀ w2 : World, w2.heap = w.heap → (Builtin.firstCells inf.size n (.slice p n c)).run P w2 = .ok olds.toArray w2) ∧ olds.length = n * (T e).size ∧
            (∀ u ∈ olds, u.oneCell' = true) ∧ ∀ (i : Nat) (d : DV) (u : Value), (flatD ((xs.drop k).take n))[i]? = some d → olds[i]? = some u → RD w (Ex X β H) d u := by
          rcases hb with hc0 | ⟨b, cur, e', rfl, hb, hblk, hcur⟩
          · have hz : n = 0 := by omega
            subst hz
            refine ⟨[], fun w2 _ => ?_, by simp, by simp, by simp [flatD]⟩
            cases p <;> simp [Builtin.firstCells, loadCells, loadCellsFrom]
          · rw [h4]
            exact row_news (P := P) m hH hb (by omega) c
        obtain ⟨olds, o1, o2, o3, o4⟩ := holds
        have htk : ((xs.drop k).take n).length = n := by simp; omega
        have hallt : ∀ x ∈ (xs.drop k).take n ++ ys, (cellsD x).length = (T e).size := fun x hx => by
          rcases List.mem_append.1 hx with hx | hx
          · exact hall x (List.mem_of_mem_drop (List.mem_of_mem_take hx))
          · exact hys x hx
        have hflt : (flatD ((xs.drop k).take n)).length = n * (T e).size := by rw [flat_len (fun x hx => hall x (List.mem_of_mem_drop (List.mem_of_mem_take hx))), htk]
        have hxl : ((xs.drop k).take n ++ ys).length = n + ys.length := by rw [List.length_append, htk]
        have hrun := run_append_out (P := P) (w := w) (ty := o.type) (base := p) (sLen := n) (sCap := c) hut hud hdk h1 h6 e1 e2 o1 (by omega) (by omega) (by rw [h5]; exact hby)
        obtain ⟨m2, g2, hR⟩ := grown_row m ha hpos hallt hzs hxl (news := olds ++ news) (by rw [List.length_append, o2, e3, ← Nat.add_mul])
          (fun u hu => by
            rcases List.mem_append.1 hu with hu | hu
            · exact o3 u hu
            · exact e4 u hu)
          (fun i d u hd hu => by
            rw [flat_append] at hd
            by_cases hi2 : i < n * (T e).size
            · rw [List.getElem?_append_left (by omega)] at hu
              rw [List.getElem?_append_left (by omega)] at hd
              exact o4 i d u hd hu
            · rw [List.getElem?_append_right (by omega), o2] at hu
              rw [List.getElem?_append_right (by omega), hflt] at hd
              exact e5 _ d u hd hu)
          (by omega) hbl (old := c) (e := e) (cur := (olds ++ news).toArray ++ Builtin.zeroCells z.cells (grownCap w (n + ys.length) c e - (n + ys.length))) rfl
        refine OpS.of_run (exec_append ho ?_) (by simp only [upds_one]; exact m2) (by simp only [upds_one]; exact g2) (by simp only [upds_one]; exact hR)
        rw [hvs, hrun]
        simp
    · exact hok.elim
  · exact hok.elim
theorem op_appendZ (hT : TOk P T) (m : Mem w0 X H β w) (hg : ∀ x, R w (Ex X β H) β H (g x) (a.eval x)) {t u : TypeId} {s x : Operand} {dst : Nat} (ho : o.op = .call { callee := .builtin .append, args := #[s, x], argTypes := #[t, u] })
    (hu : (T u).k.isInt = true) (ht : ∀ e, (T t).k = .slice e → (T e).k.isNone = false) (hok : (evalAppendZ T H dst t (g s) (g x)).ok) : OpS P w0 X H β w a o (evalAppendZ T H dst t (g s) (g x)) := by
  have hs := hg s
  have hx := hg x
  generalize g s = ls at *
  generalize g x = lx at *
  obtain ⟨ku, hku⟩ : ∃ ku, (T u).k = .int ku := by cases q : (T u).k <;> simp_all [TK.isInt]
  have hut2 := hT.int hku
  unfold evalAppendZ at *
  generalize hvs : a.eval s = vs at hs
  have key : ∀ {e : TypeId} {k' : IntKind} {M n c : Nat} {p : Option Addr} {xs : List DV} {olds : List Value}, (T t).k = .slice e → H dst = .absent → 0 < M → c < n + M → 0 < (T e).size → (n + M) * (T e).bytes ≤ 140737488355328 → n + M ≤ 140737488355328 →
      vs = .slice p n c → a.eval x = .int k' (M : Int) → (∀ x ∈ xs, (cellsD x).length = (T e).size) → xs.length = n →
      (∀ w2 : World, w2.heap = w.heap → (Builtin.firstCells (T e).size n (.slice p n c)).run P w2 = .ok olds.toArray w2) → olds.length = n * (T e).size →
            (∀ u ∈ olds, u.oneCell' = true) → (∀ (i : Nat) (d : DV) (u : Value), (flatD xs)[i]? = some d → olds[i]? = some u → RD w (Ex X β H) d u) →
      OpS P w0 X H β w a o ⟨.ow dst 0 (n + M), True, [(dst, .row false (T e).size (xs ++ List.replicate M (zeroD (T e))))]⟩ := by
    intro e k' M n c p xs olds hk ha hM hcM hpos hby hbl hv hvx hall hxn o1 o2 o3 o4
    have hut := hT.slice hk
    obtain ⟨inf, d0, z, h1, h2, h3, h4, h5, h6, h7⟩ := hT.parts (ht e hk)
    have h3 := (hT e (ht e hk)).zv.choose_spec.2.2
    have hl := (hT e (ht e hk)).len
    have hzl : z.cells.size = (T e).size := by rw [← hl, ← h7]; simp
    have hcl : ∀ i, i < M * (T e).size → (Builtin.zeroCells z.cells M)[i]? = some (z.cells[i % z.cells.size]!) := fun i hi => by
      simp [Builtin.zeroCells, hzl, hi]
    have hzr := zeros_R (P := P) (w := w) (E := Ex X β H) hT (ht e hk) h7 M hcl
    have hzc : (Builtin.zeroCells z.cells M).toList.length = M * (T e).size := by simp [size_zeroCells, hzl]
    have hallz : ∀ y ∈ List.replicate M (zeroD (T e)), (cellsD y).length = (T e).size := fun y hy => by rw [(List.mem_replicate.1 hy).2, cellsD_zero h3, List.length_map, hl]
    have hone : ∀ u ∈ (Builtin.zeroCells z.cells M).toList, u.oneCell' = true := fun u hu => by
      obtain ⟨i, hi, rfl⟩ := List.getElem_of_mem hu
      rw [hzc] at hi
      have hfl := flat_len hallz
      rw [List.length_replicate] at hfl
      exact (hzr i ((flatD (List.replicate M (zeroD (T e))))[i]'(by omega)) _ (List.getElem?_eq_getElem _) (by simp)).1
    have hallt : ∀ x ∈ xs ++ List.replicate M (zeroD (T e)), (cellsD x).length = (T e).size := fun x hx => by
      rcases List.mem_append.1 hx with hx | hx
      · exact hall x hx
      · exact hallz x hx
    have hflt : (flatD xs).length = n * (T e).size := by rw [flat_len hall, hxn]
    have hxl : (xs ++ List.replicate M (zeroD (T e))).length = n + M := by rw [List.length_append, hxn, List.length_replicate]
    have hfit := growslice_fits hcM (show (n + M) * inf.bytes ≤ 140737488355328 by rw [h5]; exact hby)
    have hrun := Lib.run_append_grow_zeros (P := P) w t u o.type e inf z k' ku hut hut2 h1 h6 p n c olds (by rw [h4]; exact o1 w.drew rfl) M hM (by rw [h4]; exact hpos) hcM (by omega) (by
      have : M * inf.bytes ≤ (n + M) * inf.bytes := Nat.mul_le_mul_right _ (by omega)
      rw [h5] at this ⊢; omega) hfit
    obtain ⟨m2, g2, hR⟩ := grown_row m ha hpos hallt hzl hxl (news := olds ++ (Builtin.zeroCells z.cells M).toList) (by rw [List.length_append, o2, hzc, ← Nat.add_mul])
      (fun u hu => by
        rcases List.mem_append.1 hu with hu | hu
        · exact o3 u hu
        · exact hone u hu)
      (fun i d u hd hu => by
        rw [flat_append] at hd
        by_cases hi2 : i < n * (T e).size
        · rw [List.getElem?_append_left (by omega)] at hu
          rw [List.getElem?_append_left (by omega)] at hd
          exact o4 i d u hd hu
        · rw [List.getElem?_append_right (by omega), o2] at hu
          rw [List.getElem?_append_right (by omega), hflt] at hd
          exact (hzr _ d u hd (by simpa using hu)).2)
      (by omega) hbl (old := c) (e := e) (cur := olds.toArray ++ Builtin.zeroCells z.cells M ++ Builtin.zeroCells z.cells (grownCap w (n + M) c e - (n + M))) (by
        apply Array.ext'
        simp [List.append_assoc])
    refine OpS.of_run (exec_append ho ?_) (by simp only [upds_one]; exact m2) (by simp only [upds_one]; exact g2) (by simp only [upds_one]; exact hR)
    rw [hvs, hv, hvx, hrun]
  split at hok
  · rename_i e k' M hk
    simp only at hok ⊢
    obtain ⟨ha, hM, hpos, hby, hbl⟩ := hok
    obtain ⟨N, rfl⟩ := Int.eq_ofNat_of_zero_le (Int.le_of_lt hM)
    simp only [Int.toNat_natCast] at hby hbl ⊢
    cases hs with
    | nl b =>
      have := key (k' := k') (M := N) (n := 0) (c := 0) (p := b) (xs := []) (olds := []) hk ha (by omega) (by omega) hpos (by rw [Nat.zero_add]; exact hby) (by omega) rfl hx.int (by simp) rfl (fun w2 _ => by
        cases b <;> simp [Builtin.firstCells, loadCells, loadCellsFrom]) (by simp) (by simp) (by simp [flatD])
      simp only [Nat.zero_add, List.nil_append] at this
      exact fun K Q hK => this K Q hK
  · rename_i e id k n c k' M hk
    split at hok
    · rename_i sz xs hH
      simp only at hok ⊢
      obtain ⟨ha, hM, hcM, hsz, hby, hbl⟩ := hok
      subst hsz
      obtain ⟨N, rfl⟩ := Int.eq_ofNat_of_zero_le (Int.le_of_lt hM)
      simp only [Int.toNat_natCast] at hby hbl hcM ⊢
      have hob := m.obj id
      simp only [ObjR, hH] at hob
      obtain ⟨hpos, hall, hob⟩ := hob
      obtain ⟨p, rfl, hn, hkc, hc, hb⟩ := oc_cases m hH hs
      have htk : ((xs.drop k).take n).length = n := by simp; omega
      have holds : ∃ olds : List Value, (∀ w2 : World, w2.heap = w.heap → (Builtin.firstCells (T e).size n (.slice p n c)).run P w2 = .ok olds.toArray w2) ∧ olds.length = n * (T e).size ∧
          (∀ u ∈ olds, u.oneCell' = true) ∧ ∀ (i : Nat) (d : DV) (u : Value), (flatD ((xs.drop k).take n))[i]? = some d → olds[i]? = some u → RD w (Ex X β H) d u := by
        rcases hb with hc0 | ⟨b, cur, e', rfl, hb, hblk, hcur⟩
        · have hz : n = 0 := by omega
          subst hz
          refine ⟨[], fun w2 _ => ?_, by simp, by simp, by simp [flatD]⟩
          cases p <;> simp [Builtin.firstCells, loadCells, loadCellsFrom]
        · exact row_news (P := P) m hH hb (by omega) c
      obtain ⟨olds, o1, o2, o3, o4⟩ := holds
      have := key (k' := k') (M := N) (n := n) (c := c) (p := p) (xs := (xs.drop k).take n) (olds := olds) hk ha (by omega) hcM hpos hby hbl rfl hx.int (fun x hx => hall x (List.mem_of_mem_drop (List.mem_of_mem_take hx))) htk o1 o2 o3 o4
      exact fun K Q hK => this K Q hK
    · exact hok.elim
  · exact hok.elim
theorem appendG_core (hT : TOk P T) (m : Mem w0 X H β w) {t u : TypeId} {s x : Operand} {dst : Nat} (ho : o.op = .call { callee := .builtin .append, args := #[s, x], argTypes := #[t, u] })
    (hu : t = u ∨ (T u).k.isStr = true) (ht : ∀ e, (T t).k = .slice e → (T e).k.isNone = false) {lx : LV} (hx : R w (Ex X β H) β H lx (a.eval x)) {e : TypeId} {ys : List DV} (hk : (T t).k = .slice e) (hy : elemsOf H lx = some ys) {b : Option Addr} (hvs : a.eval s = .slice b 0 0)
    (ha : H dst = .absent) (hpos : 0 < (T e).size) (hys : ∀ y ∈ ys, (cellsD y).length = (T e).size) (hby : ys.length * (T e).bytes ≤ 140737488355328) (hbl : ys.length ≤ 140737488355328) :
    ∃ c', ys.length ≤ c' ∧ c' ≤ maxLen ∧ ∀ A : Prop, OpS P w0 X H β w a o ⟨.oc dst 0 ys.length c', A, [(dst, .row false (T e).size (ys ++ List.replicate (c' - ys.length) (zeroD (T e))))]⟩ := by
  have hut := hT.slice hk
  obtain ⟨inf, d0, z, h1, h2, h3, h4, h5, h6, h7⟩ := hT.parts (ht e hk)
  have huu : ∃ d, P.underlying u = some d ∧ ∀ k, d ≠ .int k := by
    rcases hu with rfl | hu
    · exact ⟨_, hut, fun k => by simp⟩
    · have : (T u).k = .str := by cases q : (T u).k <;> simp_all [TK.isStr]
      exact ⟨_, hT.str this, fun k => by simp⟩
  obtain ⟨d, hud, hdk⟩ := huu
  have hz3 := (hT e (ht e hk)).zv.choose_spec.2.2
  have hl := (hT e (ht e hk)).len
  have hzs : z.cells.size = (T e).size := by rw [← hl, ← h7]; simp
  obtain ⟨news, e1, e2, e3, e4, e5⟩ := elems_run (P := P) m hx hy hys
  rw [← h4] at e2
  rcases Nat.eq_zero_or_pos ys.length with hz | hz
  · have hy0 : ys = [] := List.eq_nil_of_length_eq_zero hz
    subst hy0
    have hn0 : news = [] := List.eq_nil_of_length_eq_zero (by simpa using e3)
    subst hn0
    have hrun := run_append_in (P := P) (w := w) (ty := o.type) (base := b) (sLen := 0) (sCap := 0) hut hud hdk h1 e1 e2 (Nat.le_refl _)
    obtain ⟨m2, g2⟩ := new_none m ha hpos
    refine ⟨0, Nat.le_refl _, Nat.zero_le _, fun A => OpS.of_run (v := .slice b 0 0) (w' := w) (β' := upd β dst none) (exec_append ho ?_) (by simpa [upds_one] using m2) (by simpa [upds_one] using g2) ?_⟩
    · rw [hvs, hrun]
      cases b <;> simp [storeCells]
    · simp only [upds_one]
      exact R.oc dst 0 0 0 b false (T e).size [] (by rw [upd_same]; rfl) (Nat.le_refl _) (by simp) (Nat.zero_le _) (.inl rfl)
  · have hold : ∀ w2 : World, w2.heap = w.heap → (Builtin.firstCells inf.size 0 (.slice b 0 0)).run P w2 = .ok (List.toArray []) w2 := by
      intro w2 _
      cases b <;> simp [Builtin.firstCells, loadCells, loadCellsFrom]
    have hrun := run_append_out (P := P) (w := w) (ty := o.type) (base := b) (sLen := 0) (sCap := 0) hut hud hdk h1 h6 e1 e2 hold (by omega) (by omega) (by rw [Nat.zero_add, h5]; exact hby)
    have hge := grownCap_ge w ys.length 0 e
    have hcm : grownCap w ys.length 0 e ≤ maxLen := grownCap_le_maxLen w ys.length 0 e (by unfold maxLen; omega)
    simp only [Nat.zero_add, Array.empty_append] at hrun
    generalize hG : grownCap w ys.length 0 e = G at *
    refine ⟨G, hge, hcm, fun A => ?_⟩
    have hcl : ∀ i, i < (G - ys.length) * (T e).size → (Builtin.zeroCells z.cells (G - ys.length))[i]? = some (z.cells[i % z.cells.size]!) := fun i hi => by
      simp [Builtin.zeroCells, hzs, hi]
    have hzr := zeros_R (P := P) (w := w) (E := Ex X β H) hT (ht e hk) h7 (G - ys.length) hcl
    have hallz : ∀ y ∈ List.replicate (G - ys.length) (zeroD (T e)), (cellsD y).length = (T e).size := fun y hy => by rw [(List.mem_replicate.1 hy).2, cellsD_zero hz3, List.length_map, hl]
    have hallt : ∀ x ∈ ys ++ List.replicate (G - ys.length) (zeroD (T e)), (cellsD x).length = (T e).size := fun x hx => by
      rcases List.mem_append.1 hx with hx | hx
      · exact hys x hx
      · exact hallz x hx
    have hfy := flat_len hys
    have hxl : (ys ++ List.replicate (G - ys.length) (zeroD (T e))).length = G := by rw [List.length_append, List.length_replicate]; omega
    obtain ⟨cur, hcur⟩ : ∃ cur, cur = news.toArray ++ Builtin.zeroCells z.cells (G - ys.length) := ⟨_, rfl⟩
    have hcs : cur.size = G * (T e).size := by
      rw [hcur]
      simp only [Array.size_append, List.size_toArray, size_zeroCells, hzs, e3, ← Nat.add_mul]
      congr 1; omega
    have hblk : (w.drew.alloc (.cells cur e)).heap[w.heap.size]? = some (.cells cur e (0, 0)) := heap_alloc_new w.drew _
    obtain ⟨m2, g2⟩ := new_row m ha hpos hallt e (cur := cur) (by rw [hxl, hcs]; exact Nat.le_refl _) (fun i dd v hdd hv => by
      rw [flat_append] at hdd
      rw [hcur] at hv
      by_cases hi : i < ys.length * (T e).size
      · rw [Array.getElem?_append_left (by simpa [e3] using hi)] at hv
        rw [List.getElem?_append_left (by omega)] at hdd
        have hv : news[i]? = some v := by simpa using hv
        exact ⟨e4 v (List.mem_of_getElem? hv), e5 i dd v hdd hv⟩
      · rw [Array.getElem?_append_right (by simpa [e3] using hi)] at hv
        rw [List.getElem?_append_right (by omega)] at hdd
        simp only [List.size_toArray, e3] at hv
        rw [hfy] at hdd
        exact hzr _ dd v hdd hv) (w' := w.drew.alloc (.cells cur e)) ((Bel.refl _ _).drew.alloc (Nat.le_refl _) _) (by simp) hblk
    rw [← hcur] at hrun
    refine OpS.of_run (exec_append ho (by rw [hvs, hrun])) (by simp only [upds_one]; exact m2) (by simp only [upds_one]; exact g2) ?_
    simp only [upds_one]
    have hR := R.oc (w := w.drew.alloc (.cells cur e)) (E := Ex X (upd β dst (some w.heap.size)) (upd H dst (.row false (T e).size (ys ++ List.replicate (G - ys.length) (zeroD (T e)))))) (β := upd β dst (some w.heap.size)) (H := upd H dst (.row false (T e).size (ys ++ List.replicate (G - ys.length) (zeroD (T e)))))
      dst 0 ys.length G (some ⟨w.heap.size, 0, none⟩) false (T e).size _ (by rw [upd_same]) hge (by rw [hxl, Nat.zero_add]; exact Nat.le_refl _) hcm (.inr ⟨w.heap.size, by rw [upd_same], by rw [Nat.zero_mul]⟩)
    exact hR
theorem op_appendG (hT : TOk P T) (m : Mem w0 X H β w) (hg : ∀ x, R w (Ex X β H) β H (g x) (a.eval x)) {t u : TypeId} {s x : Operand} {dst lo c : Nat} (ho : o.op = .call { callee := .builtin .append, args := #[s, x], argTypes := #[t, u] })
    (hu : t = u ∨ (T u).k.isStr = true) (ht : ∀ e, (T t).k = .slice e → (T e).k.isNone = false) (hok : (evalAppendG T H dst t lo c (g s) (g x)).ok) : ∃ c', lo ≤ c' ∧ c' ≤ maxLen ∧ OpS P w0 X H β w a o (evalAppendG T H dst t lo c' (g s) (g x)) := by
  have hs := hg s
  have hx := hg x
  generalize g s = ls at *
  generalize g x = lx at *
  unfold evalAppendG at *
  split at hok
  · rename_i e ys hk hy
    simp only at hok
    obtain ⟨ha, hpos, hys, hby, hbl, rfl⟩ := hok
    generalize hvs : a.eval s = vs at hs
    cases hs with
    | nl b =>
      obtain ⟨c', h1, h2, h3⟩ := appendG_core hT m ho hu ht hx hk hy hvs ha hpos hys hby hbl
      refine ⟨c', h1, h2, ?_⟩
      simp only [hk, hy]
      exact h3 _
  · rename_i e ys id k n cs hk hy
    simp only at hok
    obtain ⟨hlv, rfl, rfl, ha, hpos, hys, hby, hbl, rfl⟩ := hok
    generalize hvs : a.eval s = vs at hs
    cases hs with
    | oc _ _ _ _ b =>
      obtain ⟨c', h1, h2, h3⟩ := appendG_core hT m ho hu ht hx hk hy hvs ha hpos hys hby hbl
      refine ⟨c', h1, h2, ?_⟩
      simp only [hk, hy]
      exact h3 _
    | ocdead _ _ _ _ _ hd => rw [hd] at hlv; cases hlv
  · exact hok.elim
theorem Mem.learn (m : Mem w0 X H β w) {d : Nat} (hd : H d = .absent) {x : LV} {v : Value} (hx : R w (Ex X β H) β H x v) :
    Mem w0 X (upd H d (.know x v)) (upd β d none) w ∧ Goes X H β w (upd H d (.know x v)) (upd β d none) w :=
  m.newObj (Bel.refl _ _) hd none (fun b hb => by cases hb) fun _ hR => by
    unfold ObjR
    rw [upd_same]
    exact hR _ _ hx
theorem op_appendV (hT : TOk P T) (m : Mem w0 X H β w) (hg : ∀ x, R w (Ex X β H) β H (g x) (a.eval x)) {t u : TypeId} {s x : Operand} {dst lo c : Nat} {v : Value} (ho : o.op = .call { callee := .builtin .append, args := #[s, x], argTypes := #[t, u] })
    (hu : t = u ∨ (T u).k.isStr = true) (ht : ∀ e, (T t).k = .slice e → (T e).k.isNone = false) (hok : (evalAppendV T H dst t lo c v (g s) (g x)).ok) {rs : Res → Prop} (hrs : ∀ c v, lo ≤ c → c ≤ maxLen → rs (evalAppendV T H dst t lo c v (g s) (g x))) : OpE P w0 X H β w a o rs := by
  obtain ⟨hok, hk⟩ := hok
  obtain ⟨c', h1, h2, h3⟩ := op_appendG hT m hg ho hu ht hok
  intro K Q hK
  refine h3 K Q fun v w' β' m' g' hv => ?_
  have hform : upds H (evalAppendG T H dst t lo c' (g s) (g x)).up (dst + 1000) = .absent ∧ v.oneCell' = true := by
    unfold evalAppendG at hok m' hv ⊢
    split at hok
    · rename_i e ys hk1 hk2 hk3
      simp only [hk1, hk2, hk3, upds_one] at hv ⊢
      refine ⟨by rw [upd_ne _ _ (by omega)]; exact hk, ?_⟩
      cases hv with
      | oc => rfl
      | ocdead _ _ _ _ _ hd => rw [upd_same] at hd; cases hd
    · rename_i e ys id n cs hk1 hk2 hk3
      simp only [hk1, hk2, hk3, upds_one] at hv ⊢
      refine ⟨by rw [upd_ne _ _ (by omega)]; exact hk, ?_⟩
      cases hv with
      | oc => rfl
      | ocdead _ _ _ _ _ hd => rw [upd_same] at hd; cases hd
    · exact hok.elim
  obtain ⟨m2, g2⟩ := m'.learn hform.1 hv
  refine hK _ (hrs c' v h1 h2) v w' (upd β' (dst + 1000) none) ?_ ?_ ?_
  · simpa only [evalAppendV, upds_cons] using m2
  · simpa only [evalAppendV, upds_cons] using g'.trans g2
  · exact .d _ _ (.val v hform.2)
theorem op_appendT (hT : TOk P T) (m : Mem w0 X H β w) (hg : ∀ x, R w (Ex X β H) β H (g x) (a.eval x)) {t u : TypeId} {s x : Operand} {dst kid : Nat} (ho : o.op = .call { callee := .builtin .append, args := #[s, x], argTypes := #[t, u] })
    (hu : t = u ∨ (T u).k.isStr = true) (ht : ∀ e, (T t).k = .slice e → (T e).k.isNone = false) (hok : (evalAppendT T H dst t kid (g s) (g x)).ok) : OpS P w0 X H β w a o (evalAppendT T H dst t kid (g s) (g x)) := by
  unfold evalAppendT at hok ⊢
  split at hok
  · rename_i id k n c v v' hk hs
    try simp only [hk, hs]
    obtain ⟨rfl, hok⟩ := hok
    have hkn := m.obj kid
    simp only [ObjR, hk] at hkn
    have hsv := hg s
    rw [hs] at hsv
    have hva : a.eval s = v' := by
      cases hsv with
      | d _ _ h => cases h; rfl
    have hxs : x ≠ s := fun e => by
      subst e
      rw [hs] at hok
      unfold evalAppendC at hok
      split at hok
      · rename_i hy _; simp [elemsOf] at hy
      · exact hok
    classical
    have hg' : ∀ y, R w (Ex X β H) β H ((fun y => if y = s then LV.oc id k n c else g y) y) (a.eval y) := fun y => by
      by_cases hy : y = s
      · subst hy; simp only [if_true]; rw [hva]; exact hkn
      · simp only [if_neg hy]; exact hg y
    have := op_appendC (g := fun y => if y = s then LV.oc id k n c else g y) (dst := dst) hT m hg' ho hu ht (by simpa only [if_true, if_neg hxs] using hok)
    simp only [if_true, if_neg hxs] at this
    exact this
  · exact hok.elim
theorem op_apart (hT : TOk P T) (m : Mem w0 X H β w) (hg : ∀ x, R w (Ex X β H) β H (g x) (a.eval x)) {f : Operand} {args : Array Operand} {ts : Array TypeId} (ho : o.op = .call { callee := .value f, args := args, argTypes := ts })
    (hok : (evalApart P T H (g f) (args.toList.map g)).ok) : OpS P w0 X H β w a o (evalApart P T H (g f) (args.toList.map g)) := by
  have hf := hg f
  generalize g f = lf at *
  unfold evalApart at *
  split at hok
  · rename_i fid i k n c j k' n' c' hl
    split at hok
    · rename_i fz s xs fz' s' xs' hi hj
      simp only [hi, hj, Res.cond] at hok ⊢
      obtain ⟨hne, hn, hn', fn, t, tr, e, hfn, hname, hbody, hnext, hfind, hk, he⟩ := hok
      obtain ⟨l⟩ := args
      have hform : ∃ p q, l = [p, q] := by
        have := congrArg List.length hl
        simp only [List.length_map, List.length_cons, List.length_nil] at this
        match l, this with
        | [p, q], _ => exact ⟨p, q, rfl⟩
      obtain ⟨p, q, rfl⟩ := hform
      simp only [List.map_cons, List.map_nil, List.cons.injEq, and_true] at hl
      have hp := hg p
      have hq := hg q
      rw [hl.1] at hp
      rw [hl.2] at hq
      generalize hvp : a.eval p = vp at hp
      generalize hvq : a.eval q = vq at hq
      obtain ⟨a1, rfl, h1, h2, h3, h4⟩ := oc_cases m hi hp
      obtain ⟨a2, rfl, g1, g2, g3, g4⟩ := oc_cases m hj hq
      rcases h4 with h4 | ⟨b1, cur1, e1, rfl, hb1, hblk1, hcur1⟩
      · omega
      rcases g4 with g4 | ⟨b2, cur2, e2, rfl, hb2, hblk2, hcur2⟩
      · omega
      have hbb : b1 ≠ b2 := fun hb => hne (m.inj i j b1 (by rw [hi]; rfl) (by rw [hj]; rfl) hb1 (by rw [hb]; exact hb2))
      have hfe : a.eval f = .func (.func fid) #[] #[] := by
        generalize a.eval f = vf at hf
        cases hf with
        | d _ _ h => cases h with
          | fn _ _ vs hl _ =>
            have : vs = [] := List.eq_nil_of_length_eq_zero hl
            rw [this]
      have hs' : 0 < s' := by have := m.obj j; simp only [ObjR, hj] at this; exact this.1
      have hpos2 : cur2.size ≠ 0 := by
        have : 1 * 1 ≤ xs'.length * s' := Nat.mul_le_mul (by omega) hs'
        omega
      have hrun : (callFunc fid #[.slice (some ⟨b1, k * s, none⟩) n c, .slice (some ⟨b2, k' * s', none⟩) n' c']).run P w = .ok (.value (.bool false)) w := by
        rw [run_callFunc_extern hfn hname hbody hnext hfind,
          Lib.run_overlaps_apart w t tr e (hT.slice hk) (T e).size (fun w => run_sizeOf hT he) ⟨b1, k * s, none⟩ ⟨b2, k' * s', none⟩ n c n' c' hbb e1 e2 cur1.size cur2.size (by simp [World.shape?, hblk1]) (by simp [World.shape?, hblk2]) hpos2 (by simp [World.frozen?, hblk1]) (by simp [World.frozen?, hblk1])]
        rfl
      refine OpS.plain m (v := .bool false) ?_ (R.mkBool _)
      simp only [execOp, ho, resolve, hfe, Deferred.ofValue, Sem.run_bind, Sem.run_pure, Result.andThen_ok, invoke, List.map_toArray, List.map_cons, List.map_nil, hvp, hvq, Array.empty_append, Array.append_empty, hrun]
    · exact hok.elim
  · exact hok.elim
end
end Go.Eng
namespace Go.Eng
open Go.RowKit
structure TWf (T : TypeId → TyI) : Prop where
  eqk : ∀ t, (T t).eqk ≠ [] → (T t).k.isNone = false
  slice : ∀ t e, (T t).k = .slice e → (T e).k.isNone = false
  arr : ∀ t n e, (T t).k = .arr n e → (T e).k.isNone = false
  struct : ∀ t fs, (T t).k = .struct fs → ∀ p ∈ fs, (T p.2).k.isNone = false
section
variable {P : Program} {T : TypeId → TyI} {w0 : Base} {X : Nat → Prop} {H : Nat → LObj} {β : Nat → Option Nat} {w : World} {a : Act} {o : Oper} {g : Operand → LV} {E : Nat → Prop}
theorem op_nilCheck (m : Mem w0 X H β w) (hg : ∀ x, R w (Ex X β H) β H (g x) (a.eval x)) {x : Operand} (ho : o.op = .nilCheck x) {r : Option Orc} (hok : (evalOp P T H g r o).ok) : OpS P w0 X H β w a o (evalOp P T H g r o) := by
  have hx := hg x
  simp only [evalOp, ho] at hok ⊢
  generalize g x = lx at *
  generalize hval : a.eval x = vx at hx
  have fin : ∀ p, vx = .pointer (some p) → (execOp a.eval o).run P w = .ok (.value vx) w := by
    intro p hp
    subst hp
    simp [execOp, ho, hval]
  have finf : ∀ f cs, vx = .func (.func f) #[] cs → (execOp a.eval o).run P w = .ok (.value vx) w := by
    intro f cs hp
    subst hp
    simp [execOp, ho, hval]
  split at hok
  · rename_i id off
    simp only [Res.cond] at hok ⊢
    have h0 := hx
    cases hx with
    | bx _ _ b => exact OpS.plain m (fin _ rfl) h0
    | bxdead _ _ _ hd => rw [hd] at hok; cases hok
  · rename_i id k j
    simp only [Res.cond] at hok ⊢
    have h0 := hx
    cases hx with
    | rp _ _ _ b => exact OpS.plain m (fin _ rfl) h0
    | rpdead _ _ _ _ hd => rw [hd] at hok; cases hok
  · have h0 := hx
    cases hx with
    | d _ _ hx =>
      obtain ⟨b, off, hv⟩ := hx.ro_form
      exact OpS.plain m (fin _ hv) h0
  · have h0 := hx
    cases hx with
    | d _ _ hx =>
      have : ∃ f cs, vx = .func (.func f) #[] cs := by cases hx; exact ⟨_, _, rfl⟩
      obtain ⟨f, cs, hv⟩ := this
      exact OpS.plain m (finf _ _ hv) h0
  · have h0 := hx
    have : ∃ f cs, vx = .func (.func f) #[] cs := by cases hx; exact ⟨_, _, rfl⟩
    obtain ⟨f, cs, hv⟩ := this
    exact OpS.plain m (finf _ _ hv) h0
  · exact hok.elim
theorem op_toArr (hT : TOk P T) (m : Mem w0 X H β w) (hg : ∀ x, R w (Ex X β H) β H (g x) (a.eval x)) {t : TypeId} {x : Operand} (ho : o.op = .sliceToArrayPointer t x) (hok : (evalToArr T t (g x)).ok) : OpS P w0 X H β w a o (evalToArr T t (g x)) := by
  have hx := hg x
  unfold evalToArr at *
  split at hok
  · rename_i n e xs hk hgx
    rw [hgx] at hx
    simp only [Res.cond] at hok ⊢
    obtain ⟨h0, h1, h2⟩ := hok
    generalize hval : a.eval x = vx at hx
    cases hx with
    | d _ _ hx =>
      cases hx with
      | sl0 => simp at h1; omega
      | sl _ b off c size us hne hb hs hlen hc hul h1c hlt hcell hp =>
        obtain ⟨x0, r0, rfl⟩ := List.exists_cons_of_ne_nil hne
        have hsz : size = (T e).size := by rw [← hs x0 (by simp)]; exact h2 x0 (by simp)
        have hfl := flat_take hs n
        refine OpS.plain m (v := .pointer (some ⟨b, off, none⟩)) ?_ (.d _ _ (.ro _ b off (us.take (n * size)) hb ?_ (fun u hu => h1c u (List.mem_of_mem_take hu)) hlt (fun j u hj => ?_) fun i d v hd hv => ?_))
        · have hu := hT.arr hk
          have hlen' : ¬ (r0.length + 1 < n) := by simpa using h1
          simp [execOp, ho, hval, Instr.arrayAt, run_underlying hu, hlen']
        · rw [hfl, List.length_take, List.length_take, flat_len hs, hul]
        · rw [List.getElem?_take] at hj
          split at hj
          · exact hcell j u hj
          · cases hj
        · rw [hfl, List.getElem?_take] at hd
          rw [List.getElem?_take] at hv
          split at hd
          · rename_i hi
            rw [if_pos hi] at hv
            exact hp i d v hd hv
          · cases hd
  · exact hok.elim
theorem op_assign (m : Mem w0 X H β w) (hg : ∀ x, R w (Ex X β H) β H (g x) (a.eval x)) {x : Operand} (ho : o.op = .assign x) {r : Option Orc} (hok : (evalOp P T H g r o).ok) : OpS P w0 X H β w a o (evalOp P T H g r o) := by
  simp only [evalOp, ho] at hok ⊢
  split at hok
  · rename_i e hgx hk ha
    simp only at hok ⊢
    have hpos := hok
    have hx := hg x
    rw [hgx] at hx
    obtain ⟨m2, g2⟩ := new_none m ha hpos
    have hform : ∃ b, a.eval x = .slice b 0 0 := by
      generalize a.eval x = v at hx
      cases hx; exact ⟨_, rfl⟩
    obtain ⟨b, hb⟩ := hform
    refine OpS.of_run (v := .slice b 0 0) (w' := w) (β' := upd β (o.dst.getD 0) none) (by simp [execOp, ho, hb]) (by simp only [upds_one]; exact m2) (by simp only [upds_one]; exact g2) ?_
    simp only [upds_one]
    exact .ow0 _ 0 b false _ [] (by rw [upd_same]) (.inl ⟨by rw [upd_same], rfl⟩)
  · exact op_move m hg x (.inr ho)
theorem op_sound (hT : TOk P T) (hW : TWf T) (m : Mem w0 X H β w) (hg : ∀ x, R w (Ex X β H) β H (g x) (a.eval x)) {r : Option Orc} (hself : Alt r r) (hall : ∀ r', Alt r r' → (evalOp P T H g r' o).ok) : OpE P w0 X H β w a o (fun res => ∃ r', Alt r r' ∧ res = evalOp P T H g r' o) := by
  have hok := hall r hself
  have det : OpS P w0 X H β w a o (evalOp P T H g r o) → OpE P w0 X H β w a o (fun res => ∃ r', Alt r r' ∧ res = evalOp P T H g r' o) := fun h => h.toE ⟨r, hself, rfl⟩
  cases ho : o.op with
  | move x => refine det ?_; simp only [evalOp, ho] at hok ⊢; exact op_move m hg x (.inl ho)
  | assign x => exact det (op_assign m hg ho hok)
  | pick c x y => refine det ?_; simp only [evalOp, ho] at hok ⊢; exact op_pick m hg ho hok
  | alloc t => refine det ?_; simp only [evalOp, ho] at hok ⊢; exact op_alloc hT m ho hok
  | box t x => refine det ?_; simp only [evalOp, ho] at hok ⊢; exact op_box m hg ho hok
  | build t ps => refine det ?_; simp only [evalOp, ho] at hok ⊢; exact op_build hT m hg ho (hW.struct t) (hW.arr t) hok
  | buildSlice t n ps =>
    refine det ?_
    simp only [evalOp, ho] at hok ⊢
    by_cases h : isInp r = true
    · rw [if_pos h] at hok ⊢; exact op_buildSliceC hT m hg ho (hW.slice t) hok
    · rw [if_neg h] at hok ⊢; exact op_buildSlice hT m hg ho (hW.slice t) hok
  | load t x =>
    refine det ?_
    simp only [evalOp, ho] at hok ⊢
    by_cases h : (T t).k.isNone = true
    · rw [if_pos h] at hok; exact hok.elim
    · rw [if_neg h] at hok ⊢; exact op_load hT m hg ho (by simpa using h) hok
  | store t x y =>
    refine det ?_
    simp only [evalOp, ho] at hok ⊢
    by_cases h : (T t).k.isNone = true
    · rw [if_pos h] at hok; exact hok.elim
    · rw [if_neg h] at hok ⊢; exact op_store hT m hg ho (by simpa using h) hok
  | nilCheck x => exact det (op_nilCheck m hg ho hok)
  | binOp op t x y u =>
    have std : (if (T t).k.isPtr then evalPtr op (g x) (g y) else evalBin (T t).eqk (T t).k.isBool op (g x) (g y)).ok → OpS P w0 X H β w a o (if (T t).k.isPtr then evalPtr op (g x) (g y) else evalBin (T t).eqk (T t).k.isBool op (g x) (g y)) := fun hok => by
      by_cases hp : (T t).k.isPtr = true
      · rw [if_pos hp] at hok ⊢; exact op_ptr hT m hg ho hp hok
      · rw [if_neg hp] at hok ⊢; exact op_bin hT m hg ho hok (hW.eqk t)
    cases r with
    | none => refine det ?_; simp only [evalOp, ho] at hok ⊢; exact std hok
    | some q => cases q with
      | wrap => refine det ?_; simp only [evalOp, ho] at hok ⊢; exact op_wrap m hg ho hok
      | nil e b =>
        simp only [evalOp, ho] at hok
        by_cases hy : isNilC y = true
        · rw [if_pos hy] at hok
          obtain ⟨b', h1, h2⟩ := op_nil hT m hg ho hy hok
          refine h2.toE ⟨_, ⟨b', h1, rfl⟩, ?_⟩
          simp only [evalOp, ho, if_pos hy]
        · rw [if_neg hy] at hok; exact hok.elim
      | _ => refine det ?_; simp only [evalOp, ho] at hok ⊢; exact std hok
  | unOp op t x => refine det ?_; simp only [evalOp, ho] at hok ⊢; exact op_un m hg ho hok
  | convert s t x => refine det ?_; simp only [evalOp, ho] at hok ⊢; exact op_conv hT m hg ho hok
  | makeFunc fn first cs =>
    cases fn with
    | func f => refine det ?_; simp only [evalOp, ho] at hok ⊢; exact op_makeFunc m hg ho hok
    | _ => simp only [evalOp, ho] at hok; exact hok.elim
  | sliceToArrayPointer t x => refine det ?_; simp only [evalOp, ho] at hok ⊢; exact op_toArr hT m hg ho hok
  | slice t x lo hi mx =>
    refine det ?_
    simp only [evalOp, ho] at hok ⊢
    by_cases h : (mx.isSome && !hi.isSome) = true
    · rw [if_pos h] at hok; exact hok.elim
    · rw [if_neg h] at hok ⊢
      by_cases hi' : (isInp r && mx.isSome) = true
      · rw [if_pos hi'] at hok ⊢; exact op_cut hT m hg ho (hW.slice t) (by simp at hi'; exact hi'.2) (fun hm => by cases hi <;> simp_all) hok
      rw [if_neg hi'] at hok ⊢; exact op_slice hT m hg ho (hW.slice t) (fun hm => by cases hi <;> simp_all) hok
  | fieldAddr s x f => refine det ?_; simp only [evalOp, ho] at hok ⊢; exact op_field hT m hg ho (hW.struct s) hok
  | field s x f => refine det ?_; simp only [evalOp, ho] at hok ⊢; exact op_part hT m hg ho (hW.struct s) hok
  | indexAddr t x i => refine det ?_; simp only [evalOp, ho] at hok ⊢; exact op_indexAddr hT m hg ho (fun e he => he.elim (hW.slice t e) fun ⟨n, hn⟩ => hW.arr t n e hn) hok
  | index t x i => refine det ?_; simp only [evalOp, ho] at hok ⊢; exact op_index hT m hg ho (fun e n => hW.arr t n e) hok
  | extract x i => refine det ?_; simp only [evalOp, ho] at hok ⊢; exact op_extract m hg ho hok
  | makeMap t r =>
    cases r with
    | none => refine det ?_; simp only [evalOp, ho] at hok ⊢; exact op_makeMap m ho hok
    | some _ => simp only [evalOp, ho] at hok; exact hok.elim
  | lookup t x i ck => refine det ?_; simp only [evalOp, ho] at hok ⊢; exact op_lookup hT hW.eqk m hg ho hok
  | mapUpdate t x i y => refine det ?_; simp only [evalOp, ho] at hok ⊢; exact op_mapSet hT hW.eqk m hg (.inl ho) hok
  | insert t x i y => refine det ?_; simp only [evalOp, ho] at hok ⊢; exact op_mapSet hT hW.eqk m hg (.inr ho) hok
  | makeSlice t n c => refine det ?_; simp only [evalOp, ho] at hok ⊢; exact op_make hT m hg ho (hW.slice t) hok
  | range t x =>
    refine det ?_
    simp only [evalOp, ho] at hok ⊢
    split at hok
    · rename_i kt et hk; exact op_range hT m hg ho hk hok
    · exact hok.elim
  | call c =>
    obtain ⟨callee, args, ts⟩ := c
    cases callee with
    | value f =>
      by_cases h : isInp r = true
      · refine det ?_
        simp only [evalOp, ho] at hok ⊢
        rw [if_pos h] at hok ⊢
        exact op_apart hT m hg ho hok
      · have hni : ∀ r', Alt r r' → isInp r' = false := fun r' hr => by
          cases r with
          | none => rw [show r' = none from hr]; rfl
          | some q => cases q <;> first | (exact absurd rfl h) | (rw [show r' = _ from hr]; rfl) | (obtain ⟨_, _, _, rfl⟩ := hr; rfl) | (obtain ⟨_, _, rfl⟩ := hr; rfl) | (obtain ⟨_, _, _, _, rfl⟩ := hr; rfl)
        have e : ∀ r', Alt r r' → evalOp P T H g r' o = evalCall P H r' (o.dst.getD 0) (g f) (firstL (g f) ++ args.toList.map g) := fun r' hr => by
          simp only [evalOp, ho, hni r' hr, Bool.false_eq_true, if_false]
        refine (op_call m hg ho hself fun r' hr => by rw [← e r' hr]; exact hall r' hr).mono ?_
        rintro res ⟨r', hr, rfl⟩
        exact ⟨_, ⟨r', hr, rfl⟩, by rw [e r' hr], by rw [e r' hr]⟩
    | invoke r mth => simp only [evalOp, ho] at hok; exact hok.elim
    | builtin b =>
      have one : ∀ {x : LV} {t : TypeId}, args.toList.map g = [x] → ts.toList = [t] → ∃ p, args = #[p] ∧ ts = #[t] ∧ g p = x := fun {x t} h1 h2 => by
        obtain ⟨l⟩ := args
        obtain ⟨tl⟩ := ts
        simp only at h1 h2
        subst h2
        match l, h1 with
        | [p], h1 => simp at h1; exact ⟨p, rfl, rfl, h1⟩
      have two : ∀ {s x : LV} {t u : TypeId}, args.toList.map g = [s, x] → ts.toList = [t, u] → ∃ p q, args = #[p, q] ∧ ts = #[t, u] ∧ g p = s ∧ g q = x := fun {s x t u} h1 h2 => by
        obtain ⟨l⟩ := args
        obtain ⟨tl⟩ := ts
        simp only at h1 h2
        subst h2
        match l, h1 with
        | [p, q], h1 => simp at h1; exact ⟨p, q, rfl, rfl, h1.1, h1.2⟩
      simp only [evalOp, ho] at hok hall det ⊢
      split at hok
      · rename_i x t h1 h2
        obtain ⟨p, rfl, rfl, rfl⟩ := one h1 h2
        refine det ?_
        simp only [List.map_cons, List.map_nil]
        exact op_len hT m hg ho hok
      · rename_i s x t u h1 h2
        obtain ⟨p, q, rfl, rfl, rfl, rfl⟩ := two h1 h2
        by_cases h : t = u ∨ (T u).k.isStr = true
        · rw [if_pos h] at hok
          split at hok
          · refine det ?_
            simp only [List.map_cons, List.map_nil]
            rw [if_pos h]
            exact op_appendIn hT m hg ho h (hW.slice t) hok
          · obtain ⟨c', k1, k2, k3⟩ := op_appendG hT m hg ho h (hW.slice t) hok
            refine k3.toE ⟨_, ⟨c', k1, k2, rfl⟩, ?_⟩
            simp only [List.map_cons, List.map_nil]
            rw [if_pos h]
          · refine op_appendV hT m hg ho h (hW.slice t) hok fun c' v' k1 k2 => ⟨_, ⟨c', v', k1, k2, rfl⟩, ?_⟩
            simp only [List.map_cons, List.map_nil]
            rw [if_pos h]
          · refine det ?_
            simp only [List.map_cons, List.map_nil]
            rw [if_pos h]
            exact op_appendT hT m hg ho h (hW.slice t) hok
          · rename_i n1 n2 n3 n4
            refine det ?_
            simp only [List.map_cons, List.map_nil]
            rw [if_pos h]
            by_cases hi : isOc (g p) = true
            · simp only [if_pos hi] at hok ⊢
              exact op_appendC hT m hg ho h (hW.slice t) hok
            · simp only [if_neg hi] at hok ⊢
              exact op_append hT m hg ho h (hW.slice t) hok
        · rw [if_neg h] at hok
          refine det ?_
          simp only [List.map_cons, List.map_nil]
          rw [if_neg h]
          by_cases hi : (T u).k.isInt = true
          · rw [if_pos hi] at hok ⊢; exact op_appendZ hT m hg ho hi (hW.slice t) hok
          · rw [if_neg hi] at hok; exact hok.elim
      · rename_i x t h1 h2
        obtain ⟨p, rfl, rfl, rfl⟩ := one h1 h2
        split at hok
        · rename_i lo c hr
          obtain ⟨c', k1, k2, k3⟩ := op_cap hT m hg ho hok
          refine k3.toE ⟨_, ⟨c', k1, k2, rfl⟩, ?_⟩
          simp only [List.map_cons, List.map_nil]
        · refine det ?_
          simp only [List.map_cons, List.map_nil]
          exact op_capC hT m hg ho hok
      · rename_i x t h1 h2
        obtain ⟨p, rfl, rfl, rfl⟩ := one h1 h2
        refine det ?_
        simp only [List.map_cons, List.map_nil]
        exact op_clear hT m hg ho (hW.slice t) hok
      · rename_i s x t u h1 h2
        obtain ⟨p, q, rfl, rfl, rfl, rfl⟩ := two h1 h2
        refine det ?_
        simp only [List.map_cons, List.map_nil]
        by_cases hi : isOc (g p) = true
        · rw [if_pos hi] at hok ⊢; exact op_copyC hT m hg ho (hW.slice t) hok
        · rw [if_neg hi] at hok ⊢; exact op_copy hT m hg ho (hW.slice t) hok
      · refine det ?_
        exact op_min (mx := false) m hg ho hok
      · refine det ?_
        exact op_min (mx := true) m hg ho hok
      · rename_i x k t u h1 h2
        obtain ⟨p, q, rfl, rfl, rfl, rfl⟩ := two h1 h2
        refine det ?_
        simp only [List.map_cons, List.map_nil]
        exact op_delete hT hW.eqk m hg ho hok
      · exact hok.elim
  | _ => simp only [evalOp, ho] at hok; exact hok.elim
theorem evalOp_congr {g g' : Operand → LV} {r : Option Orc} (h : ∀ x ∈ o.op.operands, g x = g' x) : evalOp P T H g r o = evalOp P T H g' r o := by
  have pairs : ∀ ps : Array (Nat × Operand), (∀ p ∈ ps.toList, g p.2 = g' p.2) → (ps.toList.map fun p => (p.1, g p.2)) = ps.toList.map fun p => (p.1, g' p.2) := fun ps hp =>
    List.map_congr_left fun p hm => by rw [hp p hm]
  obtain ⟨dst, op, type, pos, after, guard⟩ := o
  cases op <;> simp only [Op.operands, Call.operands] at h <;> simp only [evalOp]
  case move x => rw [h x (by simp)]
  case assign x => rw [h x (by simp)]
  case pick c x y => rw [h c (by simp), h x (by simp), h y (by simp)]
  case box t x => rw [h x (by simp)]
  case build t ps => rw [pairs ps fun p hp => h p.2 (by simp; exact ⟨p.1, by simpa using hp⟩)]
  case buildSlice t n ps => rw [pairs ps fun p hp => h p.2 (by simp; exact ⟨p.1, by simpa using hp⟩)]
  case load t x => rw [h x (by simp)]
  case store t x y => rw [h x (by simp), h y (by simp)]
  case nilCheck x => rw [h x (by simp)]
  case binOp op t x y u => rw [h x (by simp), h y (by simp)]
  case unOp op t x => rw [h x (by simp)]
  case convert s t x => rw [h x (by simp)]
  case makeFunc fn first cs =>
    cases fn <;> simp only []
    rw [List.map_congr_left fun x hx => h x (by simp; exact .inr (by simpa using hx)), show first.toList.map g = first.toList.map g' from List.map_congr_left fun x hx => h x (by simp; exact .inl (by simpa using hx))]
  case sliceToArrayPointer t x => rw [h x (by simp)]
  case slice t x lo hi mx =>
    have e : ∀ y : Option Operand, (∀ z ∈ y, g z = g' z) → y.map g = y.map g' := fun y hy => by cases y with
      | none => rfl
      | some z => simp [hy z (by simp)]
    rw [h x (by simp), e lo (fun z hz => h z (by simp at hz; simp [hz])), e hi (fun z hz => h z (by simp at hz; simp [hz])), e mx (fun z hz => h z (by simp at hz; simp [hz]))]
  case fieldAddr s x f => rw [h x (by simp)]
  case field s x f => rw [h x (by simp)]
  case makeSlice t n c => rw [h n (by simp), h c (by simp)]
  case indexAddr t x i => rw [h x (by simp), h i (by simp)]
  case index t x i => rw [h x (by simp), h i (by simp)]
  case extract x i => rw [h x (by simp)]
  case makeMap t r => cases r <;> rfl
  case lookup t x i ck => rw [h x (by simp), h i (by simp)]
  case mapUpdate t x i y => rw [h x (by simp), h i (by simp), h y (by simp)]
  case insert t x i y => rw [h x (by simp), h i (by simp), h y (by simp)]
  case range t x => split <;> first | rw [h x (by simp)] | rfl
  case call c =>
    obtain ⟨callee, args, ts⟩ := c
    have ea : args.toList.map g = args.toList.map g' := List.map_congr_left fun x hx => h x (by simp; exact .inr (by simpa using hx))
    cases callee with
    | value f => simp only [ea]; rw [h f (by simp)]
    | invoke r m => rfl
    | builtin b => simp only [ea]
def strip : LV → LV
  | .when _ x => x
  | x => x
def whenC : LV → Bool
  | .when c _ => c
  | _ => true
def guardC (want : Bool) : LV → Option Bool
  | .d (.bool b) => some (b == want)
  | .when c (.d (.bool b)) => some (c && (b == want))
  | _ => none
def guardOps : Op → List Operand
  | .pick c _ _ => [c]
  | op => op.operands.toList
def evalIn (P : Program) (T : TypeId → TyI) (H : Nat → LObj) (g : Operand → LV) (r : Option Orc) (o : Oper) : Res :=
  match o.op with
  | .pick c x y => evalPick (strip (g c)) (g x) (g y)
  | _ => evalOp P T H (fun x => strip (g x)) r o
def evalG (P : Program) (T : TypeId → TyI) (slots : Nat → Option Nat) (env : Nat → LV) (H : Nat → LObj) (r : Option Orc) (o : Oper) : Res :=
  match o.guard with
  | none => evalOp P T H (opLV env) r o
  | some (j, want) => match (slots j).map fun d => guardC want (env d) with
    | some (some ec) => ⟨.when ec (evalIn P T H (opLV env) r o).v, (ec = true → (evalIn P T H (opLV env) r o).ok) ∧ (ec = true → ∀ x ∈ guardOps o.op, whenC (opLV env x) = true), if ec = true then (evalIn P T H (opLV env) r o).up else []⟩
    | _ => .fail
theorem R.strip {x : LV} {v : Value} (h : R w E β H x v) (hc : whenC x = true) : R w E β H (Eng.strip x) v := by
  cases x <;> try exact h
  cases h with | when _ _ _ h _ => exact h hc
def DetS (r : Option Orc) : Prop := Alt r r ∧ ∀ r', Alt r r' → r' = r
theorem in_sound (hT : TOk P T) (hW : TWf T) (m : Mem w0 X H β w) (hg : ∀ x, R w (Ex X β H) β H (g x) (a.eval x)) {r : Option Orc} (hself : Alt r r) (hall : ∀ r', Alt r r' → (evalIn P T H g r' o).ok) (hc : ∀ x ∈ guardOps o.op, whenC (g x) = true) :
    OpE P w0 X H β w a o (fun res => ∃ r', Alt r r' ∧ res = evalIn P T H g r' o) := by
  classical
  have hother : (∀ c x y, o.op ≠ .pick c x y) → OpE P w0 X H β w a o (fun res => ∃ r', Alt r r' ∧ res = evalIn P T H g r' o) := by
    intro hnp
    have e1 : ∀ r, evalIn P T H g r o = evalOp P T H (fun x => strip (g x)) r o := fun r => by
      unfold evalIn
      split
      · rename_i h; exact absurd h (hnp _ _ _)
      · rfl
    have e0 : guardOps o.op = o.op.operands.toList := by
      unfold guardOps
      split
      · rename_i h; exact absurd h (hnp _ _ _)
      · rfl
    rw [e0] at hc
    let g2 : Operand → LV := fun x => if x ∈ o.op.operands then strip (g x) else .junk
    have e2 : ∀ r, evalOp P T H (fun x => strip (g x)) r o = evalOp P T H g2 r o := fun r => evalOp_congr fun x hx => by simp [g2, hx]
    have e3 : ∀ r, evalIn P T H g r o = evalOp P T H g2 r o := fun r => (e1 r).trans (e2 r)
    simp only [e3] at hall ⊢
    refine op_sound hT hW m (fun x => ?_) hself hall
    by_cases hx : x ∈ o.op.operands
    · simp only [g2, hx, if_true]; exact (hg x).strip (hc x (by simpa using hx))
    · simp only [g2, hx, if_false]; exact .junk _
  cases ho : o.op with
  | pick c x y =>
    have hok := hall r hself
    refine OpS.toE (r := evalIn P T H g r o) ?_ ⟨r, hself, rfl⟩
    simp only [evalIn, ho] at hok ⊢
    exact pick_sound m ((hg c).strip (hc c (by simp [ho, guardOps]))) (hg x) (hg y) ho hok
  | _ => exact hother (by intro _ _ _; rw [ho]; simp)
def putEnv (env : Nat → LV) (dst : Option Nat) (l : LV) : Nat → LV := match dst with | some d => upd env d l | none => env
def dstOk (N : Nat) (dst : Option Nat) : Prop := match dst with | some d => d < N | none => True
def stepL (P : Program) (T : TypeId → TyI) (N : Nat) (slots : Nat → Option Nat) (orc : Nat → Option Orc) (st : LSt) (o : Oper) : LSt :=
  let r := evalG P T slots st.env st.H (orc (o.dst.getD 0)) o
  { env := putEnv st.env o.dst r.v
    H := upds st.H r.up
    ok := st.ok ∧ r.ok ∧ dstOk N o.dst }
theorem put_getD {a : Act} {d : Nat} (hd : d < a.tmps.size) (v : Value) (t : Nat) : (a.put (some d) v).tmps.getD t undef = if t = d then v else a.tmps.getD t undef := by
  simp only [Act.put, Array.getD_eq_getD_getElem?, Array.getElem?_setIfInBounds]
  by_cases h : t = d
  · subst h; simp [hd]
  · rw [if_neg (fun e => h e.symm), if_neg h]
theorem Sim.get {N : Nat} {env : Nat → LV} (s : Sim N w0 X env H β a w) (x : Operand) : R w (Ex X β H) β H (opLV env x) (a.eval x) := by
  cases x with
  | tmp t => exact s.env t
  | const v => exact .const v
  | global g =>
    cases e : globD g with
    | none => simp only [opLV, e]; exact .junk _
    | some cs => simp only [opLV, e]; exact .d _ _ (s.mem.glob g cs e).1
  | func f => exact .fn0 f
theorem Sim.put {N : Nat} {env : Nat → LV} (s : Sim N w0 X env H β a w) {H' : Nat → LObj} {β' : Nat → Option Nat} {w' : World} (m : Mem w0 X H' β' w') (gg : Goes X H β w H' β' w') {dst : Option Nat} {l : LV} {v : Value}
    (hv : R w' (Ex X β' H') β' H' l v) (hd : dstOk N dst) : Sim N w0 X (putEnv env dst l) H' β' (a.put dst v) w' := by
  refine ⟨?_, ?_, m.ext, m.xold, m.fresh, m.inj, fun t => ?_, m.obj, m.pin⟩
  · cases dst <;> exact s.defers
  · cases dst with
    | none => exact s.size
    | some d => simp only [Act.put, Array.size_setIfInBounds]; exact s.size
  · cases dst with
    | none => exact gg.R (s.env t)
    | some d =>
      simp only [dstOk, putEnv] at hd ⊢
      rw [put_getD (by rw [s.size]; exact hd)]
      unfold upd
      split
      · exact hv
      · exact gg.R (s.env t)
theorem guard_real {N : Nat} {env : Nat → LV} (s : Sim N w0 X env H β a w) {ops : Array Oper} {j d : Nat} {want ec : Bool} (hs : (ops[j]?).bind (·.dst) = some d) (hd : d < N) (hc : guardC want (env d) = some ec)
    (hg : o.guard = some (j, want)) : Region.wanted o (yielded ops a.tmps) = ec := by
  have hv := s.env d
  have hdv : a.tmps[d]? = some (a.tmps.getD d undef) := by
    have : d < a.tmps.size := by rw [s.size]; exact hd
    simp [Array.getD_eq_getD_getElem?, this]
  have hy : ∀ b, a.tmps.getD d undef = .bool b → yielded ops a.tmps j = some b := fun b hb => by
    unfold yielded
    rw [hs]
    simp [hdv, hb]
  unfold Region.wanted
  rw [hg]
  simp only
  unfold guardC at hc
  split at hc
  · rename_i b he
    injection hc with hc
    subst hc
    rw [he] at hv
    rw [hy b hv.bool]
    cases b <;> cases want <;> rfl
  · rename_i c b he
    injection hc with hc
    subst hc
    rw [he] at hv
    cases hv with
    | when _ _ _ hv h0 =>
      cases c with
      | true => rw [hy b (hv rfl).bool]; cases b <;> cases want <;> rfl
      | false =>
        have hn : yielded ops a.tmps j = none := by
          unfold yielded
          rw [hs]
          simp only [Option.bind_some, hdv, h0 rfl]
          rfl
        rw [hn]
        cases want <;> rfl
  · cases hc
theorem step_sound (hT : TOk P T) (hW : TWf T) {N : Nat} {ops : Array Oper} {slots : Nat → Option Nat} (hsl : ∀ j d, slots j = some d → (ops[j]?).bind (·.dst) = some d ∧ d < N) {r : Option Orc} {st : LSt}
    (s : Sim N w0 X st.env st.H β a w) (hself : Alt r r) (hok : ∀ r', Alt r r' → (stepL P T N slots (fun _ => r') st o).ok) {K : Act → World → Prop} {Q : Exit → Act → World → Prop}
    (hK : ∀ r', Alt r r' → ∀ a' w' β', Sim N w0 X (stepL P T N slots (fun _ => r') st o).env (stepL P T N slots (fun _ => r') st o).H β' a' w' → K a' w') :
    if Region.wanted o (yielded ops a.tmps) then o.wp P a w K Q ∨ (o.asks P a w ∧ LetsOut Q) else K (a.put o.dst undef) w := by
  have hok1 := fun r' h => (hok r' h).1
  have hok2 := fun r' h => (hok r' h).2.1
  have hok3 := (hok r hself).2.2
  clear hok
  simp only [stepL] at hK hok2
  cases hg : o.guard with
  | none =>
    have e : ∀ r, evalG P T slots st.env st.H r o = evalOp P T st.H (opLV st.env) r o := fun r => by unfold evalG; rw [hg]
    simp only [e] at hK hok2
    rw [if_pos (by simp [Region.wanted, hg])]
    left
    refine op_sound hT hW s.mem s.get hself hok2 K Q ?_
    rintro res ⟨r', h', rfl⟩ v w' β' m gg hv
    exact hK r' h' _ _ β' (s.put m gg hv hok3)
  | some p =>
    obtain ⟨j, want⟩ := p
    unfold evalG at hK hok2
    simp only [hg] at hK hok2
    have hok20 := hok2 r hself
    split at hok20
    · rename_i ec hec
      simp only [hec] at hK hok2
      obtain ⟨q1, q2⟩ := hok20
      obtain ⟨d, hd1, hd2⟩ := Option.map_eq_some_iff.1 hec
      obtain ⟨hd3, hd4⟩ := hsl j d hd1
      rw [guard_real s hd3 hd4 hd2 hg]
      cases ec with
      | true =>
        simp only [if_true]
        left
        refine in_sound hT hW s.mem s.get hself (fun r' h' => (hok2 r' h').1 rfl) (q2 rfl) K Q ?_
        rintro res ⟨r', h', rfl⟩ v w' β' m gg hv
        refine hK r' h' _ _ β' ?_
        exact s.put m gg (.when true _ v (fun _ => hv) (fun h => by cases h)) hok3
      | false =>
        simp only [Bool.false_eq_true, if_false]
        exact hK r hself _ _ β (s.put s.mem Goes.refl (.when false _ undef (fun h => by cases h) (fun _ => rfl)) hok3)
    · exact hok20.elim
theorem fold_ok {N : Nat} {slots : Nat → Option Nat} {orc : Nat → Option Orc} : ∀ (l : List Oper) (st : LSt), (l.foldl (stepL P T N slots orc) st).ok → st.ok
  | [], _, h => h
  | o :: l, st, h => (fold_ok l _ h).1
theorem list_sound (hT : TOk P T) (hW : TWf T) {N : Nat} {ops : Array Oper} {slots : Nat → Option Nat} (hsl : ∀ j d, slots j = some d → (ops[j]?).bind (·.dst) = some d ∧ d < N) {orc : Nat → Option Orc} {Q : Exit → Act → World → Prop} :
    ∀ (l : List Oper) (st : LSt) (β : Nat → Option Nat) (a : Act) (w : World), (∀ o ∈ l, DetS (orc (o.dst.getD 0))) → Sim N w0 X st.env st.H β a w → (l.foldl (stepL P T N slots orc) st).ok →
      (∀ a' w' β', Sim N w0 X (l.foldl (stepL P T N slots orc) st).env (l.foldl (stepL P T N slots orc) st).H β' a' w' → Q .normal a' w') → wpList P ops Q l a w
  | [], st, β, a, w, _, s, _, hQ => hQ a w β s
  | o :: l, st, β, a, w, hd, s, hok, hQ => by
    obtain ⟨d1, d2⟩ := hd o (by simp)
    have e : ∀ r', Alt (orc (o.dst.getD 0)) r' → stepL P T N slots (fun _ => r') st o = stepL P T N slots orc st o := fun r' h => by rw [d2 r' h]; rfl
    have := step_sound (P := P) (T := T) hT hW (o := o) hsl (r := orc (o.dst.getD 0)) s d1 (fun r' h => by rw [e r' h]; exact fold_ok l _ hok) (K := wpList P ops Q l) (Q := Q) fun r' h a' w' β' s' => by
      rw [e r' h] at s'
      exact list_sound hT hW hsl l _ β' a' w' (fun o ho => hd o (by simp [ho])) s' hok hQ
    unfold wpList
    exact this
structure Guess {ι : Type} (orcs : ι → Nat → Option Orc) (Φ : ι → Prop) (d0 : Nat) : Prop where
  base : ∀ i j, Φ i → Φ j → ∀ d, d ≠ d0 → orcs i d = orcs j d
  det : ∀ i, Φ i → ∀ d, d ≠ d0 → DetS (orcs i d)
  self : ∀ i, Φ i → Alt (orcs i d0) (orcs i d0)
  alt : ∀ i, Φ i → ∀ r', Alt (orcs i d0) r' → ∃ j, Φ j ∧ orcs j d0 = r'
end
end Go.Eng
namespace Go.Eng
open Go.RowKit
inductive LX where
  | normal
  | exit (id : Nat)
  | ret
def exitIs : Exit → LX → Prop
  | .normal, .normal => True
  | .exit i, .exit j => i = j
  | .ret, .ret => True
  | _, _ => False
abbrev Env := Nat → LV
abbrev Obs := Nat → LObj
def LWp (P : Program) (N : Nat) (w0 : Base) (X : Nat → Prop) (c : Code) (Q : LX → Env → Obs → Prop) (env : Env) (H : Obs) : Prop :=
  ∀ β a w, Sim N w0 X env H β a w → c.wp P (fun e a' w' => ∃ x env' H' β', exitIs e x ∧ Sim N w0 X env' H' β' a' w' ∧ Q x env' H') a w
def seqQ (K : Env → Obs → Prop) (Q : LX → Env → Obs → Prop) : LX → Env → Obs → Prop
  | .normal, env, H => K env H
  | e, env, H => Q e env H
def blockQ (id : Nat) (Q : LX → Env → Obs → Prop) : LX → Env → Obs → Prop
  | .exit i, env, H => if i = id then Q .normal env H else Q (.exit i) env H
  | e, env, H => Q e env H
section
variable {P : Program} {T : TypeId → TyI} {N : Nat} {w0 : Base} {X : Nat → Prop} {Q : LX → Env → Obs → Prop} {env : Env} {H : Obs}
theorem LWp.mono {c : Code} {Q' : LX → Env → Obs → Prop} (h : LWp P N w0 X c Q env H) (hq : ∀ x env H, Q x env H → Q' x env H) : LWp P N w0 X c Q' env H :=
  fun β a w s => wp_mono (h β a w s) fun _ _ _ ⟨x, e, H, β', h1, h2, h3⟩ => ⟨x, e, H, β', h1, h2, hq _ _ _ h3⟩
theorem LWp.seq {x y : Code} (h : LWp P N w0 X x (seqQ (LWp P N w0 X y Q) Q) env H) : LWp P N w0 X (.seq x y) Q env H := by
  intro β a w s
  refine wp_seq (wp_mono (h β a w s) ?_)
  rintro e a' w' ⟨lx, env', H', β', h1, h2, h3⟩
  cases e <;> cases lx <;> simp only [exitIs] at h1
  · exact h3 β' a' w' h2
  · subst h1; exact ⟨.exit _, env', H', β', rfl, h2, h3⟩
  · exact ⟨.ret, env', H', β', trivial, h2, h3⟩
theorem LWp.skip (h : Q .normal env H) : LWp P N w0 X .skip Q env H := fun β _ _ s => wp_skip ⟨.normal, env, H, β, trivial, s, h⟩
theorem LWp.ret (h : Q .ret env H) : LWp P N w0 X .ret Q env H := fun β _ _ s => wp_ret ⟨.ret, env, H, β, trivial, s, h⟩
theorem LWp.exit {id : Nat} (h : Q (.exit id) env H) : LWp P N w0 X (.exit id) Q env H := fun β _ _ s => wp_exit ⟨.exit id, env, H, β, rfl, s, h⟩
theorem LWp.block {id : Nat} {c : Code} (h : LWp P N w0 X c (blockQ id Q) env H) : LWp P N w0 X (.block id c) Q env H := by
  intro β a w s
  refine wp_block (wp_mono (h β a w s) ?_)
  rintro e a' w' ⟨lx, env', H', β', h1, h2, h3⟩
  cases e <;> cases lx <;> simp only [exitIs] at h1
  · exact ⟨.normal, env', H', β', trivial, h2, h3⟩
  · subst h1
    simp only [Exit.inBlock, blockQ] at h3 ⊢
    split at h3
    · rename_i he; rw [if_pos he]; exact ⟨.normal, env', H', β', trivial, h2, h3⟩
    · rename_i he; rw [if_neg he]; exact ⟨.exit _, env', H', β', rfl, h2, h3⟩
  · exact ⟨.ret, env', H', β', trivial, h2, h3⟩
theorem LWp.cond {c : Operand} {x y : Code} {b : Bool} (hc : opLV env c = .d (.bool b)) (h1 : b = true → LWp P N w0 X x Q env H) (h2 : b = false → LWp P N w0 X y Q env H) : LWp P N w0 X (.cond c x y) Q env H := by
  intro β a w s
  have hv := s.get c
  rw [hc] at hv
  refine wp_cond hv.bool ?_
  cases b
  · exact h2 rfl β a w s
  · exact h1 rfl β a w s
theorem wp_loop_rel {c : Code} {Q : Exit → Act → World → Prop} {a : Act} {w : World} (J : Nat → Act → World → Prop) (n : Nat) (h0 : J n a w)
    (round : ∀ n a w, J n a w → c.wp P (Exit.then (fun a' w' => ∃ m, m < n ∧ J m a' w') Q) a w) : (Code.loop c).wp P Q a w := by
  intro b k cs
  have key : ∀ n a w, J n a w → ∃ e a' w', Q e a' w' ∧ Arrives P (lone (b.at a (.code c :: .inLoop c :: k)) cs w) b k cs e a' w' := by
    intro n
    induction n using Nat.strongRecOn with
    | _ n ih =>
      intro a w hJ
      obtain ⟨e, a1, w1, hq, harr⟩ := round n a w hJ b (.inLoop c :: k) cs
      cases e with
      | normal =>
        obtain ⟨m, hlt, hm⟩ := hq
        obtain ⟨e2, a2, w2, hq2, harr2⟩ := ih m hlt a1 w1 hm
        exact ⟨e2, a2, w2, hq2, .of_steps (Steps.trans harr (.one step_inLoop)) harr2⟩
      | exit id => exact ⟨_, a1, w1, hq, .pass (x := .inLoop c) rfl (fun _ _ => .inl (by simp)) harr⟩
      | goto l => exact ⟨_, a1, w1, hq, .pass (x := .inLoop c) rfl (fun _ _ => .inl (by simp)) harr⟩
      | ret => exact ⟨_, a1, w1, hq, .pass (x := .inLoop c) rfl (fun _ _ => .inl (by simp)) harr⟩
      | panic ch => exact ⟨_, a1, w1, hq, .pass (x := .inLoop c) rfl (fun _ _ => .inl (by simp)) harr⟩
      | outgrown => exact ⟨_, a1, w1, hq, .pass (x := .inLoop c) rfl (fun _ _ => .inl (by simp)) harr⟩
  obtain ⟨e, a', w', hq, harr⟩ := key n a w h0
  exact ⟨e, a', w', hq, .of_steps (.one step_loop) harr⟩
theorem LWp.loop {c : Code} {ι : Type} (E : ι → Env) (O : ι → Obs) (I : ι → Prop) (μ : ι → Nat) (i : ι) (he : E i = env) (hH : O i = H) (h0 : I i)
    (round : ∀ i, I i → LWp P N w0 X c (seqQ (fun env' H' => ∃ j, E j = env' ∧ O j = H' ∧ I j ∧ μ j < μ i) Q) (E i) (O i)) : LWp P N w0 X (.loop c) Q env H := by
  intro β a w s
  have key : ∀ n i, μ i = n → I i → ∀ β a w, Sim N w0 X (E i) (O i) β a w → (Code.loop c).wp P (fun e a' w' => ∃ x env' H' β', exitIs e x ∧ Sim N w0 X env' H' β' a' w' ∧ Q x env' H') a w := by
    intro n i hn hI β a w s
    refine wp_loop_rel (fun n a w => ∃ i β, μ i = n ∧ I i ∧ Sim N w0 X (E i) (O i) β a w) n ⟨i, β, hn, hI, s⟩ fun n' a' w' ⟨i', β', h1, h2, h3⟩ => ?_
    refine wp_mono (round i' h2 β' a' w' h3) ?_
    rintro e a2 w2 ⟨lx, env', H', β2, g1, g2, g3⟩
    cases e <;> cases lx <;> simp only [exitIs] at g1
    · obtain ⟨j, e1, e2, e3, e4⟩ := g3
      subst e1; subst e2
      exact ⟨μ j, by omega, j, β2, rfl, e3, g2⟩
    · subst g1; exact ⟨.exit _, env', H', β2, rfl, g2, g3⟩
    · exact ⟨.ret, env', H', β2, trivial, g2, g3⟩
  subst he; subst hH
  exact key _ i rfl h0 β a w s
theorem LWp.region (hT : TOk P T) (hW : TWf T) {id : Nat} {ops : Array Oper} {slots : Nat → Option Nat} (hsl : ∀ j d, slots j = some d → (ops[j]?).bind (·.dst) = some d ∧ d < N) (orc : Nat → Option Orc) (hdet : ∀ d, DetS (orc d))
    (hok : (ops.toList.foldl (stepL P T N slots orc) ⟨env, H, True⟩).ok) (h : Q .normal (ops.toList.foldl (stepL P T N slots orc) ⟨env, H, True⟩).env (ops.toList.foldl (stepL P T N slots orc) ⟨env, H, True⟩).H) :
    LWp P N w0 X (.region id ops false) Q env H := by
  intro β a w s
  exact wp_region_list (list_sound hT hW hsl ops.toList ⟨env, H, True⟩ β a w (fun o _ => hdet _) s hok fun a' w' β' s' => ⟨.normal, _, _, β', trivial, s', h⟩)
end
end Go.Eng
namespace Go.Eng
open Go.RowKit
def Weak (w0 : Base) (env : Env) (H : Obs) (env' : Env) (H' : Obs) : Prop :=
  ∀ N X β a w, Sim N w0 X env H β a w → ∃ β', Sim N w0 X env' H' β' a w
section
variable {P : Program} {T : TypeId → TyI} {N : Nat} {w0 : Base} {X : Nat → Prop} {Q : LX → Env → Obs → Prop} {env env' env'' : Env} {H H' H'' : Obs}
theorem Weak.refl : Weak w0 env H env H := fun _ _ β _ _ s => ⟨β, s⟩
theorem Weak.trans (h : Weak w0 env H env' H') (k : Weak w0 env' H' env'' H'') : Weak w0 env H env'' H'' := fun N X β a w s => let ⟨β', s'⟩ := h N X β a w s; k N X β' a w s'
theorem LWp.weak {c : Code} (h : Weak w0 env H env' H') (k : LWp P N w0 X c Q env' H') : LWp P N w0 X c Q env H := fun β a w s => let ⟨β', s'⟩ := h N X β a w s; k β' a w s'
theorem Weak.shrink (keep : List Nat) (σ : List (Nat × Nat)) (hσ : (σ.map (·.2)).Nodup) (hσ1 : (σ.map (·.1)).Nodup) (hpin : ∀ id ∈ w0.pins, lookN σ id = some id) :
    Weak w0 env H (mkEnv (keep.map fun t => (t, ren σ 8 (env t)))) (mkObs (σ.map fun p => (p.2, renO σ (H p.1)))) := by
  intro N X β a w s
  let Hn : Obs := mkObs (σ.map fun p => (p.2, renO σ (H p.1)))
  let β' : Nat → Option Nat := fun j => ((σ.find? fun p => p.2 = j).map fun p => p.1).bind β
  have look : ∀ j, (∃ p ∈ σ, p.2 = j ∧ Hn j = renO σ (H p.1) ∧ β' j = β p.1) ∨ (Hn j = .absent ∧ β' j = none ∧ ∀ p ∈ σ, p.2 ≠ j) := by
    intro j
    have key : ∀ l : List (Nat × Nat), (∃ p ∈ l, p.2 = j ∧ lookH (l.map fun p => (p.2, renO σ (H p.1))) j = renO σ (H p.1) ∧ ((l.find? fun p => p.2 = j).map fun p => p.1).bind β = β p.1) ∨
        (lookH (l.map fun p => (p.2, renO σ (H p.1))) j = .absent ∧ ((l.find? fun p => p.2 = j).map fun p => p.1).bind β = none ∧ ∀ p ∈ l, p.2 ≠ j) := by
      intro l
      induction l with
      | nil => right; exact ⟨rfl, rfl, by simp⟩
      | cons q r ih =>
        by_cases hq : q.2 = j
        · left
          exact ⟨q, List.mem_cons_self .., hq, by simp [lookH, hq], by simp [hq]⟩
        · simp only [List.map_cons, lookH, if_neg (fun e : j = q.2 => hq e.symm), List.find?_cons]
          have : (decide (q.2 = j)) = false := by simpa using hq
          simp only [this]
          rcases ih with ⟨p, hp, h1, h2, h3⟩ | ⟨h1, h2, h3⟩
          · exact .inl ⟨p, List.mem_cons_of_mem _ hp, h1, h2, h3⟩
          · refine .inr ⟨h1, h2, fun p hp => ?_⟩
            rcases List.mem_cons.1 hp with rfl | hp
            · exact hq
            · exact h3 p hp
    exact key σ
  have hH : ∀ i j, lookN σ i = some j → Hn j = renO σ (H i) ∧ β' j = β i := by
    intro i j h
    have hm := lookN_some h
    rcases look j with ⟨p, hp, h1, h2, h3⟩ | ⟨_, _, h3⟩
    · have := nodup_inj hσ p (i, j) hp hm h1
      subst this
      exact ⟨h2, h3⟩
    · exact absurd rfl (h3 _ hm)
  have hE : ∀ k, Ex X β' Hn k → Ex X β H k := by
    intro k hk
    rcases hk with hk | ⟨j, h1, h2⟩
    · exact .inl hk
    · rcases look j with ⟨p, hp, _, e1, e2⟩ | ⟨e1, _, _⟩
      · rw [e1, mut_renO] at h1
        exact .inr ⟨p.1, h1, by rw [← e2]; exact h2⟩
      · rw [e1] at h1; cases h1
  have hD : ∀ x v, RD w (Ex X β H) x v → RD w (Ex X β' Hn) x v := fun x v h => h.anti hE
  have hR := R.ren hD hH
  refine ⟨β', s.defers, s.size, s.ext, s.xold, fun j b hl hb => ?_, fun i j b hi hj h1 h2 => ?_, fun t => ?_, fun j => ?_, fun id hid => (s.pin id hid).of_ren (hH id id (hpin id hid)).1 (hH id id (hpin id hid)).2⟩
  · rcases look j with ⟨p, hp, _, e1, e2⟩ | ⟨e1, _, _⟩
    · have hl' : (Hn j).live = true := hl
      rw [e1, live_renO] at hl'
      refine (s.fresh p.1 b hl' (by rw [← e2]; exact hb)).imp (Or.imp (fun h => h) fun h => ⟨h.1, fun hm => h.2 ?_⟩) (fun h => h)
      have hm' : (Hn j).mut = true := hm
      rw [e1, mut_renO] at hm'; exact hm'
    · have hl' : (Hn j).live = true := hl
      rw [e1] at hl'; cases hl'
  · have hi' : (Hn i).live = true := hi
    have hj' : (Hn j).live = true := hj
    rcases look i with ⟨p, hp, p1, e1, e2⟩ | ⟨e1, _, _⟩
    · rcases look j with ⟨q, hq, q1, f1, f2⟩ | ⟨f1, _, _⟩
      · rw [e1, live_renO] at hi'
        rw [f1, live_renO] at hj'
        have := s.inj p.1 q.1 b hi' hj' (by rw [← e2]; exact h1) (by rw [← f2]; exact h2)
        have := nodup_inj hσ1 p q hp hq this
        rw [← p1, ← q1, this]
      · rw [f1] at hj'; cases hj'
    · rw [e1] at hi'; cases hi'
  · have key : ∀ l : List Nat, R w (Ex X β' Hn) β' Hn (lookL (l.map fun t => (t, Eng.ren σ 8 (env t))) t) (a.tmps.getD t undef) := by
      intro l
      induction l with
      | nil => exact .junk _
      | cons u r ih =>
        simp only [List.map_cons, lookL]
        split
        · rename_i e; subst e; exact hR 8 _ _ (s.env t)
        · exact ih
    exact key keep
  · have goal : ObjR w (Ex X β' Hn) β' Hn j := by
      unfold ObjR
      rcases look j with ⟨p, hp, p1, e1, e2⟩ | ⟨e1, _, _⟩
      · rw [e1]
        have ho := s.obj p.1
        unfold ObjR at ho
        cases q : H p.1 with
        | absent => trivial
        | dead => trivial
        | box fz cs =>
          rw [q] at ho
          simp only [renO] at ho ⊢
          obtain ⟨b, e, us, h1, h2, h3, h4, h5⟩ := ho
          refine ⟨b, e, us, by rw [e2]; exact h1, h2, by simpa using h3, h4, fun i c v hc hv => ?_⟩
          obtain ⟨c0, hc0, rfl⟩ := map_get hc
          exact hR 8 _ _ (h5 i c0 v hc0 hv)
        | row fz size xs =>
          rw [q] at ho
          simp only [renO] at ho ⊢
          obtain ⟨h1, h2, h3⟩ := ho
          refine ⟨h1, h2, ?_⟩
          rcases h3 with ⟨h3, h4⟩ | ⟨b, e, cur, h3, h4, h5, h6⟩
          · exact .inl ⟨by rw [e2]; exact h3, h4⟩
          · exact .inr ⟨b, e, cur, by rw [e2]; exact h3, h4, h5, fun i d v hd hv => ⟨(h6 i d v hd hv).1, hD _ _ (h6 i d v hd hv).2⟩⟩
        | map fz ks vs =>
          rw [q] at ho
          simp only [renO] at ho ⊢
          obtain ⟨b, arr, clock, h1, h2, h3, h4, h5, h6, h7⟩ := ho
          exact ⟨b, arr, clock, by rw [e2]; exact h1, h2, h3, h4, h5, fun i d e hd he => hD _ _ (h6 i d e hd he), fun i d e hd he => hD _ _ (h7 i d e hd he)⟩
        | iter fz ks vs =>
          rw [q] at ho
          simp only [renO] at ho ⊢
          obtain ⟨b, bm, arr, clock, seen, last, h1, h2, h3, h4, h5, h6, h7, h8, h9, h10, h11⟩ := ho
          exact ⟨b, bm, arr, clock, seen, last, by rw [e2]; exact h1, h2, fun h => h3 (hE _ h), h4, h5, h6, h7, h8, h9, fun i d e hd he => hD _ _ (h10 i d e hd he), fun i d e hd he => hD _ _ (h11 i d e hd he)⟩
        | know x v =>
          rw [q] at ho
          simp only [renO] at ho ⊢
          exact hR 8 _ _ ho
      · rw [e1]; trivial
    exact goal
theorem Weak.close (t : Nat) {x : DV} (h : Eng.close H 8 (env t) = some x) : Weak w0 env H (upd env t (.d x)) (upds H (freezes H (touch H 8 (env t)))) := by
  intro N X β a w s
  obtain ⟨m, g⟩ := s.mem.freeze (touch H 8 (env t))
  refine ⟨β, s.defers, s.size, m.ext, m.xold, m.fresh, m.inj, fun u => ?_, m.obj, m.pin⟩
  unfold upd
  split
  · rename_i e; subst e; exact .d _ _ (close_frozen s.mem h (fun _ h => h) (s.env u))
  · exact g.R (s.env u)
theorem LWp.len {c : Code} {t : Nat} {xs : List DV} (he : env t = .d (.sl xs)) (h : xs.length ≤ 9223372036854775807 → LWp P N w0 X c Q env H) : LWp P N w0 X c Q env H := by
  intro β a w s
  have hv := s.env t
  rw [he] at hv
  cases hv with
  | d _ _ hv =>
    obtain ⟨b, c', _, h1, h2⟩ := hv.sl_len
    exact h (by unfold maxLen at h2; omega) β a w s
@[congr] theorem LWp.congr {c : Code} (h1 : env = env') (h2 : H = H') : LWp P N w0 X c Q env H = LWp P N w0 X c Q env' H' := by rw [h1, h2]
def slotsOf (N : Nat) (l : List Oper) (j : Nat) : Option Nat := match (l[j]?).bind (·.dst) with
  | some d => if d < N then some d else none
  | none => none
theorem slotsOf_ok (N : Nat) (l : List Oper) : ∀ j d, slotsOf N l j = some d → (l.toArray[j]?).bind (·.dst) = some d ∧ d < N := by
  intro j d h
  unfold slotsOf at h
  split at h
  · rename_i d' hd
    split at h
    · injection h with h; subst h; exact ⟨by simpa using hd, by assumption⟩
    · cases h
  · cases h
def runL (P : Program) (T : TypeId → TyI) (N : Nat) (l : List Oper) (orc : Nat → Option Orc) (env : Env) (H : Obs) : LSt := l.foldl (stepL P T N (slotsOf N l) orc) ⟨env, H, True⟩
theorem LWp.reg (hT : TOk P T) (hW : TWf T) {id : Nat} {l : List Oper} (orc : Nat → Option Orc) (hdet : ∀ d, DetS (orc d)) (h : (runL P T N l orc env H).ok ∧ Q .normal (runL P T N l orc env H).env (runL P T N l orc env H).H) :
    LWp P N w0 X (.region id l.toArray false) Q env H :=
  LWp.region hT hW (slotsOf_ok N l) orc hdet h.1 h.2
def gorc {ι : Type} (d0 : Nat) (base : Nat → Option Orc) (g : ι → Orc) (i : ι) (d : Nat) : Option Orc := if d = d0 then some (g i) else base d
def memless : DV → Bool
  | .int _ _ => true
  | .bool _ => true
  | .str _ => true
  | .val _ => true
  | _ => false
def freshL (H : Obs) : LV → Prop
  | .d (.agg cs) => ∀ c ∈ cs, memless c = true
  | .d x => memless x = true
  | .ow id k n => match H id with
    | .row _ _ xs => ∀ x ∈ (xs.drop k).take n, ∀ c ∈ cellsD x, memless c = true
    | _ => False
  | .nl => True
  | _ => False
theorem RD.memless {w : World} {E E' : Nat → Prop} {x : DV} {v : Value} (hm : Eng.memless x = true) (h : RD w E x v) : RD w E' x v := by
  cases h <;> first | exact .int _ _ | exact .bool _ | exact .str _ | (exact .val _ (by assumption)) | cases hm
theorem Base.size_of (hp : w0.pins = []) {b n : Nat} {A : Prop} (h : (w0.w.heap.size ≤ b ∨ w0.mine b ∧ A) ∧ b < n) : w0.w.heap.size ≤ b := by
  rcases h.1 with h | ⟨⟨id, h, _⟩, _⟩
  · exact h
  · rw [hp] at h; cases h
theorem fresh_close (hpn : w0.pins = []) {β : Nat → Option Nat} {a : Act} {w : World} {l : LV} {x : DV} {v : Value} (s : Sim N w0 X env H β a w) (hr : R w (Ex X β H) β H l v) (hc : Eng.close H 8 l = some x) (hf : freshL H l) : RD w (fun k => X k ∨ k < w0.w.heap.size) x v := by
  cases l with
  | d y =>
    simp only [Eng.close, Option.some.injEq] at hc
    subst hc
    cases hr with
    | d _ _ hr =>
      cases y with
      | agg cs =>
        cases hr with
        | agg _ vs hl h1 hp => exact .agg cs vs hl h1 fun i c v hc hv => (hp i c v hc hv).memless (hf c (List.mem_of_getElem? hc))
      | _ => exact hr.memless hf
  | nl =>
    simp only [Eng.close, Option.some.injEq] at hc
    subst hc
    cases hr with | nl b => exact .sl0 b 0 (by unfold maxLen; omega)
  | ow id k n =>
    simp only [freshL] at hf
    have hcl := close_sound (E' := fun _ => False) s.obj (fun _ _ h => h.anti fun _ h => h.elim) 8 _ x v hc (fun _ _ _ _ h => h) hr
    cases q : H id with
    | row fz size xs =>
      rw [q] at hf
      simp only [Eng.close, q, Option.some.injEq] at hc
      subst hc
      have hl : (H id).live = true := by rw [q]; rfl
      have hform : n = 0 ∨ ∃ b o c, β id = some b ∧ v = .slice (some ⟨b, o, none⟩) n c := by
        cases hr with
        | ow _ _ _ b c _ _ _ _ _ _ hb' => exact .inr ⟨b, _, c, hb', rfl⟩
        | owdead _ _ _ _ hd => rw [q] at hd; cases hd
        | ow0 => exact .inl rfl
      clear hr
      generalize hys : (xs.drop k).take n = ys at *
      cases hcl with
      | sl0 b c hc => exact .sl0 b c hc
      | sl _ b off c s' us hne hb hall hlen hc hul h1 hlt hcell hp =>
        refine .sl ys b off c s' us hne ?_ hall hlen hc hul h1 hlt hcell fun i d v hd hv => (hp i d v hd hv).memless ?_
        · have hbid : β id = some b := by
            rcases hform with hz | ⟨b', o', c', hb', hv'⟩
            · subst hz; exact absurd hys.symm hne
            · injection hv' with hv' _ _
              injection hv' with hv'
              injection hv' with hv' _ _
              rw [hv']; exact hb'
          have := Base.size_of hpn (s.fresh id b hl hbid)
          rintro (h | h)
          · have := (s.xold.1 b h).1; omega
          · omega
        · obtain ⟨y, hy, hdy⟩ := List.mem_flatMap.1 (List.mem_of_getElem? hd)
          exact hf y (by rw [hys]; exact hy) d hdy
    | _ => rw [q] at hf; exact hf.elim
  | _ => exact hf.elim
def RetIs (H : Obs) (fresh : Bool) (l : LV) : RV → Prop
  | .d x => Eng.close H 8 l = some x ∧ (fresh = true → freshL H l)
  | .own s xs => (match l with
    | .ow id k n => match H id with
      | .row false s' ys => k = 0 ∧ n = xs.length ∧ s' = s ∧ xs.length ≤ ys.length ∧ ys.take xs.length = xs
      | _ => False
    | .nl => xs = [] ∧ 0 < s
    | _ => False) ∧ (fresh = true → ∀ x ∈ xs, ∀ c ∈ cellsD x, memless c = true)
  | .tup _ => False
theorem ret_one (hpn : w0.pins = []) {β : Nat → Option Nat} {a : Act} {w : World} {l : LV} {v : Value} {r : RV} {fresh : Bool} (s : Sim N w0 X env H β a w) (hr : R w (Ex X β H) β H l v) (h : RetIs H fresh l r) :
    ∃ B : Option Nat, RVok w0.w w (fun k => (X k ∨ fresh = true ∧ k < w0.w.heap.size) ∨ B = some k) B r v := by
  cases r with
  | d x =>
    refine ⟨none, ?_⟩
    obtain ⟨h1, h2⟩ := h
    show RD w _ x v
    cases fresh with
    | true =>
      refine (fresh_close hpn s hr h1 (h2 rfl)).anti fun k hk => ?_
      rcases hk with (hk | hk) | hk
      · exact .inl hk
      · exact .inr hk.2
      · cases hk
    | false =>
      refine (close_frozen s.mem h1 (fun _ h => h) hr).anti fun k hk => ?_
      rcases hk with (hk | hk) | hk
      · exact .inl hk
      · cases hk.1
      · cases hk
  | own sz xs =>
    obtain ⟨h, hf⟩ := h
    have hform : (l = .nl ∧ xs = [] ∧ 0 < sz) ∨ ∃ id ys, l = .ow id 0 xs.length ∧ H id = .row false sz ys ∧ xs.length ≤ ys.length ∧ ys.take xs.length = xs := by
      cases l with
      | nl => exact .inl ⟨rfl, h⟩
      | ow id k n =>
        simp only at h
        split at h
        · rename_i s' ys hH
          obtain ⟨h1, h2, h0, h3, h4⟩ := h
          subst h1; subst h2; subst h0
          exact .inr ⟨id, ys, rfl, hH, h3, h4⟩
        · exact h.elim
      | _ => exact h.elim
    rcases hform with ⟨rfl, rfl, hpos⟩ | ⟨id, ys, rfl, hH, hle, htk⟩
    · cases hr with | nl b => exact ⟨none, hpos, by simp, .inl ⟨rfl, rfl, b, rfl⟩⟩
    have ho := s.obj id
    simp only [ObjR, hH] at ho
    obtain ⟨hpos, hall, ho⟩ := ho
    have hl : (H id).live = true := by rw [hH]; rfl
    generalize hn : xs.length = n at hr
    cases hr with
    | owdead _ _ _ _ hd => rw [hH] at hd; cases hd
    | ow0 _ _ b => exact ⟨none, hpos, fun x hx => hall x (by rw [← htk] at hx; exact List.mem_of_mem_take hx), .inl ⟨rfl, List.eq_nil_of_length_eq_zero hn, b, rfl⟩⟩
    | ow _ _ _ b c _ _ _ cur e hH' hb hkn hnc hc hblk hroom =>
      rw [hH] at hH'; injection hH' with _ e1 e2; subst e1; subst e2
      have hallx : ∀ x ∈ xs, (cellsD x).length = sz := fun x hx => hall x (by rw [← htk] at hx; exact List.mem_of_mem_take hx)
      rcases ho with ⟨hnone, hx⟩ | ⟨b', e', cur', hb', hblk', hlen', hp0⟩
      · rw [hnone] at hb; cases hb
      · rw [hb] at hb'; injection hb' with hb'; subst hb'
        rw [hblk] at hblk'; injection hblk' with hblk'; injection hblk' with p1 p2; subst p1; subst p2
        have hp : ∀ (i : Nat) (d : DV) (v : Value), (flatD xs)[i]? = some d → cur[i]? = some v → v.oneCell' = true ∧ RD w (Ex X β H) d v := fun i d v hd hv => by
          rw [← htk, flat_take hall, List.getElem?_take] at hd
          split at hd
          · exact hp0 i d v hd hv
          · cases hd
        refine ⟨some b, hpos, hallx, .inr ⟨b, c, cur, e, rfl, by rw [Nat.zero_mul, hn], Base.size_of hpn (s.fresh id b hl hb), hblk, by omega, hc, by rw [Nat.zero_add] at hroom; exact hroom, fun i d v hd hv => ⟨(hp i d v hd hv).1, ?_⟩⟩⟩
        cases fresh with
        | true =>
          obtain ⟨y, hy, hdy⟩ := List.mem_flatMap.1 (List.mem_of_getElem? hd)
          exact (hp i d v hd hv).2.memless (hf rfl y hy d hdy)
        | false =>
          refine (hp i d v hd hv).2.anti fun k hk => ?_
          rcases hk with (hk | hk) | hk
          · exact .inl hk
          · cases hk.1
          · injection hk with hk; subst hk; exact .inr ⟨id, by rw [hH]; rfl, hb⟩
  | tup _ => exact h.elim
def argsEnv (args : List DV) : Env := mkEnv ((args.zipIdx).map fun p => (p.2, .d p.1))
theorem argsEnv_get (args : List DV) (t : Nat) : argsEnv args t = match args[t]? with | some x => .d x | none => .junk := by
  have key : ∀ (l : List DV) (k t : Nat), lookL ((l.zipIdx k).map fun p => (p.2, LV.d p.1)) (k + t) = match l[t]? with | some x => .d x | none => .junk := by
    intro l
    induction l with
    | nil => intro k t; simp [lookL]
    | cons x r ih =>
      intro k t
      simp only [List.zipIdx_cons, List.map_cons, lookL]
      cases t with
      | zero => simp
      | succ t =>
        rw [if_neg (by omega)]
        have := ih (k + 1) t
        rw [show k + 1 + t = k + (t + 1) by omega] at this
        rw [this]; simp
  have := key args 0 t
  rw [Nat.zero_add] at this
  exact this
theorem Ok.of_body {f : FuncId} {fn : Func} {c : Code} {args : List DV} {r : Ret} {n : Nat} (hf : P.funcs[f]? = some fn) (hname : (fn.name == "runtime.NumGoroutine") = false) (hb : fn.body = some c) (hn : fn.ntmps = n) (hargs : args.length ≤ n)
    (h : ∀ w0 X, w0.pins = [] → LWp P n w0 X c (fun x env H => (match x with | .exit _ => False | _ => True) ∧ ∀ β a w, Sim n w0 X env H β a w → ∃ v, (results fn a.tmps).run P w = .ok v w ∧ RetOk w0.w w (fun k => X k ∨ r.fresh = true ∧ k < w0.w.heap.size) r.v v) (argsEnv args) (mkObs [])) :
    Ok P f args r := by
  refine ⟨⟨fn, hf, hname, by rw [hb]; rfl⟩, fun w X vs hX hr => ?_⟩
  refine calls_of_wp hf hb (wp_mono (h ⟨w, fun _ => none, fun _ => .absent, []⟩ X rfl (fun _ => none) ⟨vs.toArray ++ Array.replicate (fn.ntmps - vs.toArray.size) undef, []⟩ w ?_) ?_)
  · refine ⟨rfl, ?_, ⟨rfl, rfl, rfl, Nat.le_refl _, fun _ _ _ => rfl, Nat.le_refl _⟩, ⟨fun k hk => ⟨hX.1 k hk, by rintro ⟨id, hid, _⟩; cases hid⟩, hX.2.anti fun k hk => by rcases hk with hk | ⟨id, hid, _⟩; exact hk; cases hid⟩, fun id b hl _ => by simp [mkObs, lookH, LObj.live] at hl, fun i j b hi _ => by simp [mkObs, lookH, LObj.live] at hi, fun t => ?_, fun id => by unfold ObjR; trivial, fun id hid => by cases hid⟩
    · have := hr.1
      simp
      omega
    · rw [argsEnv_get]
      cases q : args[t]? with
      | none => exact .junk _
      | some x =>
        have ht : t < vs.length := by rw [hr.1]; exact (List.getElem?_eq_some_iff.1 q).1
        have hv : (vs.toArray ++ Array.replicate (fn.ntmps - vs.toArray.size) undef).getD t undef = vs[t] := by
          simp [Array.getD_eq_getD_getElem?, Array.getElem?_append_left, ht]
        rw [hv]
        refine .d _ _ ((hr.2 t x _ q (List.getElem?_eq_getElem ht)).anti fun k hk => ?_)
        rcases hk with hk | ⟨id, h1, _⟩
        · exact hk
        · cases h1
  · rintro e a' w' ⟨x, env, H, β, h1, s, h2, h3⟩
    obtain ⟨v, hv1, hv2⟩ := h3 β a' w' s
    have hbel : Bel w.heap.size w w' := ⟨s.ext.os, s.ext.tape, s.ext.output, s.ext.size, fun k hk => s.ext.block k hk (by rintro ⟨id, hid, _⟩; cases hid), s.ext.drawn⟩
    cases e <;> cases x <;> simp only [exitIs] at h1
    · exact ⟨s.defers, v, hv1, v, rfl, hbel, hv2⟩
    · exact h2.elim
    · exact ⟨s.defers, v, hv1, v, rfl, hbel, hv2⟩
theorem Ok.one {f : FuncId} {fn : Func} {c : Code} {args : List DV} {r : Ret} {n t : Nat} (hf : P.funcs[f]? = some fn) (hname : (fn.name == "runtime.NumGoroutine") = false) (hb : fn.body = some c) (hn : fn.ntmps = n) (hargs : args.length ≤ n) (hres : fn.results = #[.tmp t])
    (hrt : ∀ rs, r.v ≠ .tup rs) (h : ∀ w0 X, w0.pins = [] → LWp P n w0 X c (fun x env H => (match x with | .exit _ => False | _ => True) ∧ RetIs H r.fresh (env t) r.v) (argsEnv args) (mkObs [])) : Ok P f args r := by
  refine Ok.of_body hf hname hb hn hargs fun w0 X hpn => (h w0 X hpn).mono fun x env H ⟨h1, h2⟩ => ⟨h1, fun β a w s => ⟨a.tmps.getD t undef, results_tmp hres _ _ _, ?_⟩⟩
  obtain ⟨B, hB⟩ := ret_one hpn s (s.env t) h2
  cases q : r.v with
  | tup rs => exact absurd q (hrt rs)
  | d x => rw [q] at hB; exact ⟨B, hB⟩
  | own sz xs => rw [q] at hB; exact ⟨B, hB⟩
end
end Go.Eng
namespace Go.Eng
open Go.RowKit
def constEq : Value → Value → Bool
  | .bool a, .bool b => a == b
  | .int j a, .int k b => j == k && a == b
  | .string a, .string b => a.data.toList == b.data.toList
  | .slice none 0 0, .slice none 0 0 => true
  | .pointer none, .pointer none => true
  | .map none, .map none => true
  | .nilFunc, .nilFunc => true
  | .nilIface, .nilIface => true
  | _, _ => false
theorem constEq_eq {a b : Value} (h : constEq a b = true) : a = b := by
  unfold constEq at h
  split at h
  · simp only [beq_iff_eq] at h; rw [h]
  · simp only [Bool.and_eq_true, beq_iff_eq] at h; rw [h.1, h.2]
  · rename_i a b
    simp only [beq_iff_eq] at h
    have := congrArg (fun l : List UInt8 => (⟨l.toArray⟩ : ByteArray)) h
    simp only [str_bytes] at this
    rw [this]
  all_goals first | rfl | cases h
def constsEq : List Value → List Value → Bool
  | [], [] => true
  | a :: x, b :: y => constEq a b && constsEq x y
  | _, _ => false
theorem constsEq_eq : ∀ {x y : List Value}, constsEq x y = true → x = y
  | [], [], _ => rfl
  | a :: x, b :: y, h => by simp only [constsEq, Bool.and_eq_true] at h; rw [constEq_eq h.1, constsEq_eq h.2]
  | [], _ :: _, h => by cases h
  | _ :: _, [], h => by cases h
def fieldsEq : List Field → List (Nat × TypeId) → Bool
  | [], [] => true
  | f :: x, p :: y => f.offset == p.1 && f.type == p.2 && fieldsEq x y
  | _, _ => false
theorem fieldsEq_eq : ∀ {x : List Field} {y : List (Nat × TypeId)}, fieldsEq x y = true → x.map (fun f => (f.offset, f.type)) = y
  | [], [], _ => rfl
  | f :: x, p :: y, h => by
    simp only [fieldsEq, Bool.and_eq_true, beq_iff_eq] at h
    simp only [List.map_cons]
    rw [fieldsEq_eq h.2, h.1.1, h.1.2]
  | [], _ :: _, h => by cases h
  | _ :: _, [], h => by cases h
def tkB : TypeDesc → TK → Bool
  | .int k, .int k' => k == k'
  | .bool, .bool => true
  | .string, .str => true
  | .slice e, .slice e' => e == e'
  | .struct fs, .struct l => fieldsEq fs.toList l
  | .array n e, .arr n' e' => n == n' && e == e'
  | .pointer e, .ptr e' => e == e'
  | .map k e, .map k' e' => k == k' && e == e'
  | .map _ _, .other => true
  | .func _ _ _, .other => true
  | .interface _, .other => true
  | .tuple _, .other => true
  | _, _ => false
theorem tkB_ok {d : TypeDesc} {k : TK} (h : tkB d k = true) : TKOk d k := by
  unfold tkB at h
  split at h <;> simp only [TKOk]
  · simpa using h
  · simpa using h
  · exact fieldsEq_eq h
  · simpa using h
  · simpa using h
  · simpa using h
  · cases h
def simpleB (P : Program) (t : TypeId) : TK → Bool
  | .int k => match P.underlying t with | some (.int k') => k == k' | _ => false
  | .bool => match P.underlying t with | some .bool => true | _ => false
  | .str => match P.underlying t with | some .string => true | _ => false
  | _ => false
theorem simpleB_ok {P : Program} {t : TypeId} {k : TK} (h : simpleB P t k = true) : simpleTy P t k := by
  cases k <;> simp only [simpleB] at h <;> simp only [simpleTy] <;> first | (cases h; done) | skip
  all_goals (split at h <;> first | (cases h; done) | skip)
  · rename_i e; simp only [beq_iff_eq] at h; rw [e, h]
  · rename_i e; exact e
  · rename_i e; exact e
def eqFieldsB (P : Program) : Nat → List Field → List TK → Bool
  | _, [], [] => true
  | j, f :: x, k :: y => f.name != "_" && f.offset == j && simpleB P f.type k && eqFieldsB P (j + 1) x y
  | _, _, _ => false
theorem eqFieldsB_ok {P : Program} : ∀ {j : Nat} {x : List Field} {y : List TK}, eqFieldsB P j x y = true → x.length = y.length ∧ ∀ (i : Nat) (f : Field) (k : TK), x[i]? = some f → y[i]? = some k → f.name ≠ "_" ∧ f.offset = j + i ∧ simpleTy P f.type k
  | _, [], [], _ => ⟨rfl, by simp⟩
  | j, f :: x, k :: y, h => by
    simp only [eqFieldsB, Bool.and_eq_true, bne_iff_ne, beq_iff_eq] at h
    obtain ⟨h1, h2⟩ := eqFieldsB_ok h.2
    refine ⟨by simp [h1], fun i f' k' hf hk => ?_⟩
    cases i with
    | zero => simp at hf hk; subst hf; subst hk; exact ⟨h.1.1.1, by simpa using h.1.1.2, simpleB_ok h.1.2⟩
    | succ i =>
      have := h2 i f' k' (by simpa using hf) (by simpa using hk)
      exact ⟨this.1, by rw [this.2.1]; omega, this.2.2⟩
  | _, [], _ :: _, h => by cases h
  | _, _ :: _, [], h => by cases h
def eqB (P : Program) (t : TypeId) (d : TypeDesc) (ks : List TK) : Bool := match d with
  | .struct fs => !P.stoodInHeld t && eqFieldsB P 0 fs.toList ks
  | .array n e => match P.info? e, P.underlying e with
    | some inf, some (.struct fs) => !P.stoodInHeld e && eqFieldsB P 0 fs.toList (ks.take inf.size) && inf.size == (ks.take inf.size).length && ks == (List.replicate n (ks.take inf.size)).flatten
    | _, _ => false
  | _ => false
theorem eqB_ok {P : Program} {t : TypeId} {d : TypeDesc} {ks : List TK} (hd : P.underlying t = some d) (h : eqB P t d ks = true) : StructEq P t ks ∨ ArrEq P t ks := by
  unfold eqB at h
  split at h
  · rename_i fs
    simp only [Bool.and_eq_true, Bool.not_eq_true'] at h
    obtain ⟨c1, c2⟩ := eqFieldsB_ok h.2
    exact .inl ⟨h.1, fs, hd, c1, fun j f k hf hk => by simpa using c2 j f k hf hk⟩
  · rename_i n e
    split at h
    · rename_i inf fs h1 h2
      simp only [Bool.and_eq_true, Bool.not_eq_true', beq_iff_eq] at h
      obtain ⟨⟨⟨a1, a2⟩, a3⟩, a4⟩ := h
      obtain ⟨c1, c2⟩ := eqFieldsB_ok a2
      exact .inr ⟨n, e, inf, ks.take inf.size, hd, h1, a3, ⟨a1, fs, h2, c1, fun j f k hf hk => by simpa using c2 j f k hf hk⟩, a4⟩
    · cases h
  · cases h
def zvB (agg : Bool) (zero : List Value) : Value → Bool
  | .agg _ => agg
  | _ => !agg && zero.length == 1
theorem zvB_ok {agg : Bool} {zero : List Value} {z : Value} (h : zvB agg zero z = true) (e : z.cells.toList = zero) : z = (if agg then .agg zero.toArray else zero.getD 0 undef) ∧ (agg = false → zero.length = 1) := by
  unfold zvB at h
  split at h
  · subst h
    subst e
    simp [Value.cells]
  · rename_i hn
    simp only [Bool.and_eq_true, Bool.not_eq_true', beq_iff_eq] at h
    have hc : z.cells = #[z] := by cases z <;> first | rfl | exact absurd rfl (hn _)
    rw [hc] at e
    subst e
    simp [h.1]
def tyChk (P : Program) (t : TypeId) (i : TyI) : Bool :=
  match P.info? t, P.underlying t with
  | some inf, some d => tkB d i.k && inf.size == i.size && inf.bytes == i.bytes && (match inf.zero with | some z => constsEq z.cells.toList i.zero && zvB i.k.agg i.zero z | none => false) && i.zero.all (·.oneCell') && i.zero.length == i.size &&
      (i.eqk.isEmpty || (!P.eqGuardType P.depth t && eqB P t d i.eqk))
  | _, _ => false
theorem tyChk_ok {P : Program} {t : TypeId} {i : TyI} (h : tyChk P t i = true) : TyOk P t i := by
  unfold tyChk at h
  split at h
  · rename_i inf d h1 h2
    simp only [Bool.and_eq_true, beq_iff_eq] at h
    obtain ⟨⟨⟨⟨⟨⟨a1, a2⟩, a3⟩, a4⟩, a5⟩, a6⟩, a7⟩ := h
    split at a4
    · rename_i z hz
      simp only [Bool.and_eq_true] at a4
      obtain ⟨a4, a8⟩ := a4
      obtain ⟨z1, z2⟩ := zvB_ok a8 (constsEq_eq a4)
      refine ⟨⟨inf, d, z, h1, h2, tkB_ok a1, a2, a3, hz, constsEq_eq a4⟩, fun u hu => by simpa using List.all_eq_true.1 a5 u hu, ⟨inf, h1, by rw [hz, ← z1], z2⟩, a6, fun hne => ?_⟩
      have : i.eqk.isEmpty = false := by cases q : i.eqk <;> simp_all
      rw [this] at a7
      simp only [Bool.false_or, Bool.and_eq_true, Bool.not_eq_true'] at a7
      exact ⟨a7.1, eqB_ok h2 a7.2⟩
    · cases a4
  · cases h
def noTy : TyI := ⟨.none, 0, 0, [], []⟩
def lookT : List (Nat × TyI) → Nat → TyI
  | [], _ => noTy
  | p :: r, t => if t = p.1 then p.2 else lookT r t
def tabChk (P : Program) (tab : List (Nat × TyI)) : Bool := tab.all fun p => tyChk P p.1 p.2
theorem lookT_mem : ∀ {tab : List (Nat × TyI)} {t : Nat}, (lookT tab t).k.isNone = false → (t, lookT tab t) ∈ tab
  | [], t, h => by simp [lookT, noTy, TK.isNone] at h
  | p :: r, t, h => by
    simp only [lookT] at h ⊢
    split
    · rename_i e; subst e; exact List.mem_cons_self ..
    · rename_i e; rw [if_neg e] at h; exact List.mem_cons_of_mem _ (lookT_mem h)
theorem tabChk_ok {P : Program} {tab : List (Nat × TyI)} (h : tabChk P tab = true) : TOk P (lookT tab) := fun _ ht => tyChk_ok (List.all_eq_true.1 h _ (lookT_mem ht))
def wfOne (T : TypeId → TyI) : TK → Bool
  | .slice e => !(T e).k.isNone
  | .arr _ e => !(T e).k.isNone
  | .struct fs => fs.all fun p => !(T p.2).k.isNone
  | _ => true
def tabWf (tab : List (Nat × TyI)) : Bool := tab.all fun p => wfOne (lookT tab) p.2.k && (p.2.eqk.isEmpty || !p.2.k.isNone)
theorem tabWf_ok {tab : List (Nat × TyI)} (h : tabWf tab = true) : TWf (lookT tab) := by
  have one : ∀ t, (lookT tab t).k.isNone = false → wfOne (lookT tab) (lookT tab t).k = true := fun t ht => by
    have := List.all_eq_true.1 h _ (lookT_mem ht)
    simp only [Bool.and_eq_true] at this
    exact this.1
  refine ⟨fun t ht => ?_, fun t e he => ?_, fun t n e he => ?_, fun t fs hf p hp => ?_⟩
  · by_cases hn : (lookT tab t).k.isNone = false
    · exact hn
    · exfalso
      have : ∀ l : List (Nat × TyI), (∀ p ∈ l, (p.2.eqk.isEmpty || !p.2.k.isNone) = true) → (lookT l t).k.isNone = true → (lookT l t).eqk = [] := by
        intro l
        induction l with
        | nil => intro _ _; rfl
        | cons p r ih =>
          intro hl hk
          simp only [lookT] at hk ⊢
          split
          · rename_i e
            rw [if_pos e] at hk
            have := hl p (List.mem_cons_self ..)
            rw [hk] at this
            simpa using this
          · rename_i e
            rw [if_neg e] at hk
            exact ih (fun q hq => hl q (List.mem_cons_of_mem _ hq)) hk
      exact ht (this tab (fun p hp => by have := List.all_eq_true.1 h p hp; simp only [Bool.and_eq_true] at this; exact this.2) (by simpa using hn))
  · have := one t (by rw [he]; rfl)
    rw [he] at this
    simpa [wfOne] using this
  · have := one t (by rw [he]; rfl)
    rw [he] at this
    simpa [wfOne] using this
  · have := one t (by rw [hf]; rfl)
    rw [hf] at this
    simp only [wfOne, List.all_eq_true] at this
    simpa using this p hp
end Go.Eng
namespace Go.Eng
open Go.RowKit
def Part (h H : Obs) : Prop := ∀ id, h id = H id ∨ h id = .absent
def RLe (r r' : Res) : Prop := r.ok → r'.ok ∧ r'.v = r.v ∧ r'.up = r.up
section
variable {P : Program} {T : TypeId → TyI} {h H : Obs}
theorem RLe.refl (r : Res) : RLe r r := fun h => ⟨h, rfl, rfl⟩
theorem RLe.fail {r' : Res} : RLe .fail r' := fun h => h.elim
theorem close_part (hp : Part h H) : ∀ (n : Nat) (l : LV) (x : DV), close h n l = some x → close H n l = some x ∧ touch H n l = touch h n l := by
  intro n
  induction n with
  | zero => intro l x e; simp [close] at e
  | succ n ih =>
    intro l x e
    have list : ∀ (cs : List LV) (xs : List DV), optAll (cs.map (close h n)) = some xs → optAll (cs.map (close H n)) = some xs ∧ cs.flatMap (touch H n) = cs.flatMap (touch h n) := by
      intro cs
      induction cs with
      | nil => intro xs e; exact ⟨e, rfl⟩
      | cons c cs ihc =>
        intro xs e
        simp only [List.map_cons] at e
        cases q : close h n c with
        | none => rw [q] at e; cases e
        | some y =>
          rw [q] at e
          simp only [optAll, Option.map_eq_some_iff] at e
          obtain ⟨ys, e, rfl⟩ := e
          obtain ⟨i1, i2⟩ := ihc ys e
          obtain ⟨j1, j2⟩ := ih c y q
          simp only [List.map_cons, j1, optAll, i1, Option.map_some, List.flatMap_cons, i2, j2, and_self]
    cases l with
    | d y => exact ⟨e, rfl⟩
    | agg cs =>
      simp only [close, Option.map_eq_some_iff] at e
      obtain ⟨xs, e, rfl⟩ := e
      obtain ⟨i1, i2⟩ := list cs xs e
      simp [close, touch, i1, i2]
    | fn f cs =>
      simp only [close, Option.map_eq_some_iff] at e
      obtain ⟨xs, e, rfl⟩ := e
      obtain ⟨i1, i2⟩ := list cs xs e
      simp [close, touch, i1, i2]
    | bm f cs =>
      simp only [close, Option.map_eq_some_iff] at e
      obtain ⟨xs, e, rfl⟩ := e
      obtain ⟨i1, i2⟩ := list cs xs e
      simp [close, touch, i1, i2]
    | ow id k m =>
      simp only [close] at e
      rcases hp id with q | q
      · rw [q] at e; exact ⟨e, rfl⟩
      · rw [q] at e; cases e
    | oc id k m c =>
      simp only [close] at e
      rcases hp id with q | q
      · rw [q] at e; exact ⟨e, rfl⟩
      · rw [q] at e; cases e
    | bx id off =>
      simp only [close] at e
      rcases hp id with q | q
      · rw [q] at e
        cases q2 : H id with
        | box fz cs =>
          rw [q2] at e
          simp only [Option.map_eq_some_iff] at e
          obtain ⟨xs, e, rfl⟩ := e
          obtain ⟨i1, i2⟩ := list _ xs e
          refine ⟨by simp only [close, q2]; rw [i1]; rfl, by simp only [touch, q, q2]; rw [i2]⟩
        | _ => rw [q2] at e; cases e
      · rw [q] at e; cases e
    | nl => exact ⟨e, rfl⟩
    | mp id =>
      simp only [close] at e
      rcases hp id with q | q
      · rw [q] at e; exact ⟨e, rfl⟩
      · rw [q] at e; cases e
    | rp | it | tup | when | junk => simp [close] at e
theorem closes_part (hp : Part h H) (n : Nat) : ∀ {cs : List LV} {xs : List DV}, optAll (cs.map (close h n)) = some xs → optAll (cs.map (close H n)) = some xs ∧ cs.flatMap (touch H n) = cs.flatMap (touch h n) := by
  intro cs
  induction cs with
  | nil => intro xs e; exact ⟨e, rfl⟩
  | cons c cs ihc =>
    intro xs e
    simp only [List.map_cons] at e
    cases q : close h n c with
    | none => rw [q] at e; cases e
    | some y =>
      rw [q] at e
      simp only [optAll, Option.map_eq_some_iff] at e
      obtain ⟨ys, e, rfl⟩ := e
      obtain ⟨i1, i2⟩ := ihc e
      obtain ⟨j1, j2⟩ := close_part hp n c y q
      simp only [List.map_cons, j1, optAll, i1, Option.map_some, List.flatMap_cons, i2, j2, and_self]
theorem closes_live (n : Nat) {cs : List LV} {xs : List DV} (e : optAll (cs.map (close H n)) = some xs) : ∀ id ∈ cs.flatMap (touch H n), (H id).live = true := by
  intro id hid
  obtain ⟨h1, h2⟩ := optAll_map e
  obtain ⟨c, hc, hid⟩ := List.mem_flatMap.1 hid
  obtain ⟨i, hi, rfl⟩ := List.getElem_of_mem hc
  exact close_live n _ _ (h2 i _ (xs[i]'(by omega)) (List.getElem?_eq_getElem hi) (List.getElem?_eq_getElem (by omega))) id hid
theorem live_part (hp : Part h H) {id : Nat} (hl : (h id).live = true) : H id = h id := by
  rcases hp id with q | q
  · exact q.symm
  · rw [q] at hl; cases hl
theorem solid_part (hp : Part h H) {l : LV} (hs : solid h l = true) : solid H l = true := by
  cases l <;> simp only [solid] at * <;> exact hs
theorem freezes_part (hp : Part h H) {ids : List Nat} (hl : ∀ id ∈ ids, (h id).live = true) : freezes H ids = freezes h ids := by
  unfold freezes
  exact List.map_congr_left fun id hid => by rw [live_part hp (hl id hid)]
theorem freezes_closed (hp : Part h H) {l : LV} {x : DV} (e : close h 8 l = some x) : freezes H (touch h 8 l) = freezes h (touch h 8 l) := freezes_part hp fun id hid => close_live 8 l x e id hid
theorem elemsOf_part (hp : Part h H) {l : LV} {ys : List DV} (e : elemsOf h l = some ys) : elemsOf H l = some ys := by
  unfold elemsOf at *
  split at e <;> try exact e
  · rename_i id k n
    rcases hp id with q | q
    · rw [← q]; exact e
    · rw [q] at e; cases e
  · rename_i id k n c
    rcases hp id with q | q
    · rw [← q]; exact e
    · rw [q] at e; cases e
theorem elemsS_part (hp : Part h H) {l : LV} {ys : List DV} (e : elemsS h l = some ys) : elemsS H l = some ys := by
  unfold elemsS at *
  split at e
  · cases e
  · exact elemsOf_part hp e
theorem load_part (hp : Part h H) (t : TyI) (x : LV) : RLe (evalLoad h t x) (evalLoad H t x) := by
  unfold evalLoad
  split
  · rename_i id off; rcases hp id with q | q <;> rw [q] <;> first | exact .refl _ | exact .fail
  · exact .refl _
  · rename_i id k j; rcases hp id with q | q <;> rw [q] <;> first | exact .refl _ | exact .fail
  · exact .refl _
theorem store_part (hp : Part h H) (t : TyI) (x y : LV) : RLe (evalStore h t x y) (evalStore H t x y) := by
  cases x with
  | bx id off =>
    simp only [evalStore]
    rcases hp id with q | q
    · rw [q]
      cases q2 : H id with
      | box fz cs => cases fz with
        | false => exact fun hok => ⟨⟨hok.1, hok.2.1, solid_part hp hok.2.2⟩, rfl, rfl⟩
        | true => exact .fail
      | _ => exact .fail
    · rw [q]; exact .fail
  | rp id k j =>
    simp only [evalStore]
    rcases hp id with q | q
    · rw [q]
      cases q2 : H id with
      | row fz s xs => cases fz with
        | false =>
          simp only
          cases q3 : close h 8 y with
          | none => exact .fail
          | some z =>
            obtain ⟨c1, c2⟩ := close_part hp 8 y z q3
            rw [c1]
            simp only [c2, freezes_closed hp q3]
            exact .refl _
        | true => exact .fail
      | _ => exact .fail
    · rw [q]; exact .fail
  | _ => exact .refl _
theorem buildSlice_part (hp : Part h H) {dst : Nat} (hd : h dst = H dst) (t : TypeId) (n : Nat) (ps : List (Nat × LV)) : RLe (evalBuildSlice T h dst t n ps) (evalBuildSlice T H dst t n ps) := by
  unfold evalBuildSlice
  split
  · have e : ∀ H : Obs, (ps.map fun p => close H 8 p.2) = (ps.map (·.2)).map (close H 8) := fun H => by rw [List.map_map]; rfl
    have e2 : ∀ H : Obs, (ps.flatMap fun p => touch H 8 p.2) = (ps.map (·.2)).flatMap (touch H 8) := fun H => by rw [List.flatMap_map]
    cases q : optAll (ps.map fun p => close h 8 p.2) with
    | none => exact .fail
    | some xs =>
      rw [e] at q
      obtain ⟨c1, c2⟩ := closes_part hp 8 q
      rw [e, c1]
      have hl := closes_live 8 q
      simp only [e2, c2, freezes_part hp hl, hd]
      exact .refl _
  · exact .refl _
theorem buildSliceC_part (hp : Part h H) {dst : Nat} (hd : h dst = H dst) (t : TypeId) (n : Nat) (ps : List (Nat × LV)) : RLe (evalBuildSliceC T h dst t n ps) (evalBuildSliceC T H dst t n ps) := by
  unfold evalBuildSliceC
  split
  · have e : ∀ H : Obs, (ps.map fun p => close H 8 p.2) = (ps.map (·.2)).map (close H 8) := fun H => by rw [List.map_map]; rfl
    have e2 : ∀ H : Obs, (ps.flatMap fun p => touch H 8 p.2) = (ps.map (·.2)).flatMap (touch H 8) := fun H => by rw [List.flatMap_map]
    cases q : optAll (ps.map fun p => close h 8 p.2) with
    | none => exact .fail
    | some xs =>
      rw [e] at q
      obtain ⟨c1, c2⟩ := closes_part hp 8 q
      rw [e, c1]
      have hl := closes_live 8 q
      simp only [e2, c2, freezes_part hp hl, hd]
      exact .refl _
  · exact .refl _
theorem field_part (hp : Part h H) (s : TypeId) (x : LV) (f : Nat) : RLe (evalField T h s x f) (evalField T H s x f) := by
  unfold evalField
  split
  · split
    · split
      · exact fun hok => ⟨⟨hok.1, by rw [live_part hp hok.2]; exact hok.2⟩, rfl, rfl⟩
      · exact fun hok => ⟨⟨hok.1, by rw [live_part hp hok.2]; exact hok.2⟩, rfl, rfl⟩
      · exact .refl _
      · exact .refl _
    · exact .refl _
  · exact .refl _
theorem indexAddr_part (hp : Part h H) (t : TypeId) (x i : LV) : RLe (evalIndexAddr T h t x i) (evalIndexAddr T H t x i) := by
  unfold evalIndexAddr
  split
  · exact .refl _
  · rename_i e id k n _ _ _
    rcases hp id with q | q <;> rw [q] <;> first | exact .refl _ | exact .fail
  · rename_i e id k n c _ _ _
    rcases hp id with q | q <;> rw [q] <;> first | exact .refl _ | exact .fail
  · exact fun hok => ⟨⟨hok.1, hok.2.1, by rw [live_part hp hok.2.2]; exact hok.2.2⟩, rfl, rfl⟩
  · exact fun hok => ⟨⟨hok.1, hok.2.1, by rw [live_part hp hok.2.2]; exact hok.2.2⟩, rfl, rfl⟩
  · exact .refl _
  · exact .refl _
theorem slice_part (hp : Part h H) (t : TypeId) (x : LV) (lo hi mx : Option LV) : RLe (evalSlice T h t x lo hi mx) (evalSlice T H t x lo hi mx) := by
  unfold evalSlice
  split
  · exact .refl _
  · exact .refl _
  · rename_i e id k n _
    rcases hp id with q | q <;> rw [q] <;> first | exact .refl _ | exact .fail
  · exact .refl _
  · rename_i e id k n c _
    rcases hp id with q | q <;> rw [q] <;> first | exact .refl _ | exact .fail
  · exact .refl _
  · exact .refl _
theorem append_part (hp : Part h H) {dst : Nat} (hd : h dst = H dst) (t : TypeId) (s x : LV) : RLe (evalAppend T h dst t s x) (evalAppend T H dst t s x) := by
  unfold evalAppend
  cases q0 : (T t).k with
  | slice e =>
    cases q1 : elemsOf h x with
    | none => exact .fail
    | some ys =>
      rw [elemsOf_part hp q1]
      simp only
      cases s with
      | ow id k n => simp only; rcases hp id with q | q <;> rw [q] <;> first | (rw [hd]; exact .refl _) | exact .fail
      | nl => simp only; rw [hd]; exact .refl _
      | _ => exact .fail
  | _ => exact .fail
theorem appendIn_part (hp : Part h H) (t : TypeId) (s x : LV) : RLe (evalAppendIn T h t s x) (evalAppendIn T H t s x) := by
  unfold evalAppendIn
  cases q0 : (T t).k with
  | slice e =>
    cases q1 : elemsOf h x with
    | none => exact .fail
    | some ys =>
      rw [elemsOf_part hp q1]
      cases s with
      | ow id k n => simp only; rcases hp id with q | q <;> rw [q] <;> first | exact .refl _ | exact .fail
      | _ => exact .fail
  | _ => exact .fail
theorem appendC_part (hp : Part h H) {dst : Nat} (hd : h dst = H dst) (t : TypeId) (s x : LV) : RLe (evalAppendC T h dst t s x) (evalAppendC T H dst t s x) := by
  unfold evalAppendC
  cases q0 : (T t).k with
  | slice e =>
    cases q1 : elemsOf h x with
    | none => exact .fail
    | some ys =>
      rw [elemsOf_part hp q1]
      cases s with
      | oc id k n c => simp only; rcases hp id with q | q <;> rw [q] <;> first | (rw [hd]; exact .refl _) | exact .fail
      | _ => exact .fail
  | _ => exact .fail
theorem appendG_part (hp : Part h H) {dst : Nat} (hd : h dst = H dst) (t : TypeId) (lo c : Nat) (s x : LV) : RLe (evalAppendG T h dst t lo c s x) (evalAppendG T H dst t lo c s x) := by
  unfold evalAppendG
  cases q0 : (T t).k with
  | slice e =>
    cases q1 : elemsOf h x with
    | none => exact .fail
    | some ys =>
      rw [elemsOf_part hp q1]
      cases s with
      | nl => simp only; rw [hd]; exact .refl _
      | oc id k n cs => exact fun hok => ⟨by have hok' := hok; simp only at hok' ⊢; rw [live_part hp hok'.1, ← hd]; exact hok', rfl, rfl⟩
      | _ => exact .fail
  | _ => exact .fail
theorem appendV_part (hp : Part h H) {dst : Nat} (hd : h dst = H dst) (hd' : h (dst + 1000) = H (dst + 1000)) (t : TypeId) (lo c : Nat) (v : Value) (s x : LV) : RLe (evalAppendV T h dst t lo c v s x) (evalAppendV T H dst t lo c v s x) := by
  intro hok
  obtain ⟨h1, h2⟩ := hok
  obtain ⟨g1, g2, g3⟩ := appendG_part (T := T) hp hd t lo c s x h1
  refine ⟨⟨g1, by rw [← hd']; exact h2⟩, rfl, ?_⟩
  simp only [evalAppendV, g2, g3]
theorem appendT_part (hp : Part h H) {dst : Nat} (hd : h dst = H dst) (t : TypeId) (kid : Nat) (s x : LV) : RLe (evalAppendT T h dst t kid s x) (evalAppendT T H dst t kid s x) := by
  unfold evalAppendT
  split
  · rename_i id k n c v v' hk
    have hk' : H kid = .know (.oc id k n c) v := by
      rcases hp kid with e | e
      · rw [← e]; exact hk
      · rw [e] at hk; cases hk
    simp only [hk']
    intro hok
    obtain ⟨h1, h2⟩ := hok
    obtain ⟨g1, g2, g3⟩ := appendC_part (T := T) hp hd t (.oc id k n c) x h2
    exact ⟨⟨h1, g1⟩, g2, g3⟩
  · exact .fail
theorem appendZ_part (hp : Part h H) {dst : Nat} (hd : h dst = H dst) (t : TypeId) (s x : LV) : RLe (evalAppendZ T h dst t s x) (evalAppendZ T H dst t s x) := by
  unfold evalAppendZ
  split
  · rw [hd]; exact .refl _
  · rename_i e id k n c _ _ _
    rcases hp id with q | q <;> rw [q] <;> first | (rw [hd]; exact .refl _) | exact .fail
  · exact .refl _
theorem capC_part (hp : Part h H) (t : TypeId) (x : LV) : RLe (evalCapC T h t x) (evalCapC T H t x) := by
  unfold evalCapC
  split
  · exact fun hok => ⟨by have hok' := hok; simp only [Res.cond] at hok' ⊢; rw [live_part hp hok']; exact hok', rfl, rfl⟩
  · exact .refl _
  · exact .refl _
theorem copy_part (hp : Part h H) (t : TypeId) (s x : LV) : RLe (evalCopy T h t s x) (evalCopy T H t s x) := by
  unfold evalCopy
  cases q0 : (T t).k with
  | slice e =>
    cases q1 : elemsOf h x with
    | none => exact .fail
    | some ys =>
      rw [elemsOf_part hp q1]
      cases s with
      | ow id k n => simp only; rcases hp id with q | q <;> rw [q] <;> first | exact .refl _ | exact .fail
      | _ => exact .fail
  | _ => exact .fail
theorem copyC_part (hp : Part h H) (t : TypeId) (s x : LV) : RLe (evalCopyC T h t s x) (evalCopyC T H t s x) := by
  unfold evalCopyC
  split
  · rename_i e id k n c _
    cases q1 : elemsOf h (shortL n x) with
    | none => exact .fail
    | some ys =>
      rw [elemsOf_part hp q1]
      rcases hp id with q | q <;> rw [q] <;> first | exact .refl _ | exact .fail
  · exact .refl _
theorem clear_part (hp : Part h H) (t : TypeId) (x : LV) : RLe (evalClear T h t x) (evalClear T H t x) := by
  unfold evalClear
  split
  · rename_i id k n _
    rcases hp id with q | q <;> rw [q] <;> first | exact .refl _ | exact .fail
  · rename_i id k n c _
    rcases hp id with q | q <;> rw [q] <;> first | exact .refl _ | exact .fail
  · exact .refl _
theorem cut_part (hp : Part h H) (t : TypeId) (x : LV) (lo hi mx : Option LV) : RLe (evalCut T h t x lo hi mx) (evalCut T H t x lo hi mx) := by
  unfold evalCut
  split
  · split
    · exact fun hok => ⟨by have hok' := hok; simp only [Res.cond] at hok' ⊢; rw [live_part hp hok'.2.2.2.2]; exact hok', rfl, rfl⟩
    · exact .refl _
  · exact .refl _
  · rename_i e id k n c _
    rcases hp id with q | q <;> rw [q] <;> first | exact .refl _ | exact .fail
  · exact .refl _
theorem make_part {dst : Nat} (hd : h dst = H dst) (t : TypeId) (n c : LV) : RLe (evalMake T h dst t n c) (evalMake T H dst t n c) := by
  unfold evalMake
  rw [hd]; exact .refl _
theorem cap_part (hp : Part h H) (t : TypeId) (lo c : Nat) (x : LV) : RLe (evalCap T h t lo c x) (evalCap T H t lo c x) := by
  unfold evalCap
  split
  · exact .refl _
  · exact .refl _
  · rename_i id k n _
    rcases hp id with q | q <;> rw [q] <;> first | exact .refl _ | exact .fail
  · exact .refl _
theorem lenL_part (hp : Part h H) {x : LV} {n : Nat} (e : lenL h x = some n) : lenL H x = some n := by
  unfold lenL at *
  split at e <;> try exact e
  split at e
  · rename_i hl
    rw [live_part hp hl]; rw [if_pos hl]; exact e
  · cases e
theorem nil_part (hp : Part h H) (t : TypeId) (e b : Bool) (op : BinOp) (x : LV) : RLe (evalNil T h t e b op x) (evalNil T H t e b op x) := by
  unfold evalNil
  cases q : lenL h x with
  | none => split <;> simp_all <;> exact .fail
  | some n => rw [lenL_part hp q]; exact .refl _
theorem len_part (hp : Part h H) (t : TypeId) (x : LV) : RLe (evalLen T h t x) (evalLen T H t x) := by
  unfold evalLen
  split
  · exact .refl _
  · exact .refl _
  · exact fun hok => ⟨by have hok' := hok; simp only [Res.cond] at hok' ⊢; rw [live_part hp hok']; exact hok', rfl, rfl⟩
  · exact fun hok => ⟨by have hok' := hok; simp only [Res.cond] at hok' ⊢; rw [live_part hp hok']; exact hok', rfl, rfl⟩
  · exact .refl _
  · exact .refl _
  · exact .refl _
  · rename_i id _
    rcases hp id with q | q <;> rw [q] <;> first | exact .refl _ | exact .fail
  · exact .refl _
theorem mapOf_part (hp : Part h H) {x : LV} {p : List DV × List DV} (e : mapOf h x = some p) : mapOf H x = some p := by
  unfold mapOf at *
  split at e <;> try exact e
  rename_i id
  rcases hp id with q | q
  · rw [← q]; exact e
  · rw [q] at e; cases e
theorem lookup_part (hp : Part h H) (t : TypeId) (x i : LV) (ok : Bool) : RLe (evalLookup T h t x i ok) (evalLookup T H t x i ok) := by
  unfold evalLookup
  cases q : mapOf h x with
  | none => split <;> simp_all <;> exact .fail
  | some p => rw [mapOf_part hp q]; exact .refl _
theorem mapUpdate_part (hp : Part h H) (t : TypeId) (m k x : LV) : RLe (evalMapUpdate T h t m k x) (evalMapUpdate T H t m k x) := by
  unfold evalMapUpdate
  split
  · rename_i id _ _ _
    rcases hp id with q | q <;> rw [q] <;> first | exact .refl _ | exact .fail
  · exact .refl _
theorem Part.frozen (hp : Part h H) {l : LV} {x : DV} (e : close h 8 l = some x) : Part (upds h (freezes h (touch h 8 l))) (upds H (freezes h (touch h 8 l))) := fun id => by
  simp only [upds_lookup]
  cases lookupO (freezes h (touch h 8 l)) id with
  | none => exact hp id
  | some o => exact .inl rfl
theorem mapSet_part (hp : Part h H) (t : TypeId) (m k x : LV) : RLe (evalMapSet T h t m k x) (evalMapSet T H t m k x) := by
  unfold evalMapSet
  split
  · exact mapUpdate_part hp _ _ _ _
  · cases q : close h 8 x with
    | none => exact .fail
    | some v =>
      obtain ⟨q2, q3⟩ := close_part hp 8 _ _ q
      simp only [q2, q3, freezes_closed hp q]
      have r := mapUpdate_part (T := T) (hp.frozen q) t m k (.d v)
      intro hok
      obtain ⟨r1, r2, r3⟩ := r hok
      exact ⟨r1, r2, by simp only []; rw [r3]⟩
theorem delete_part (hp : Part h H) (t : TypeId) (m k : LV) : RLe (evalDelete T h t m k) (evalDelete T H t m k) := by
  unfold evalDelete
  split
  · rename_i id _ _
    rcases hp id with q | q <;> rw [q] <;> first | exact .refl _ | exact .fail
  · exact .refl _
theorem argsG_part (hp : Part h H) {σ : List (Nat × Nat)} {shut : List Nat} : ∀ (ls : List LV) (i : Nat) (asl : List LV), argsG h σ shut i ls = some asl → argsG H σ shut i ls = some asl ∧ shutG H shut i ls = shutG h shut i ls ∧ ∀ id ∈ shutG h shut i ls, (h id).live = true
  | [], i, asl, e => ⟨e, rfl, by simp [shutG]⟩
  | l :: r, i, asl, e => by
    simp only [argsG] at e ⊢
    cases q : argsG h σ shut (i + 1) r with
    | none => rw [q] at e; cases e
    | some r' =>
      obtain ⟨h1, h2, h3⟩ := argsG_part hp r (i + 1) r' q
      rw [q] at e
      simp only at e
      rw [h1]
      simp only [shutG, h2]
      by_cases hs : shut.contains i = true
      · rw [if_pos hs, Option.map_eq_some_iff] at e
        obtain ⟨x, hx, rfl⟩ := e
        obtain ⟨c1, c2⟩ := close_part hp 8 l x hx
        simp only [if_pos hs, c1, c2]
        refine ⟨by first | rfl | trivial, by first | rfl | trivial, fun id hid => ?_⟩
        rcases List.mem_append.1 hid with hid | hid
        · exact close_live 8 l x hx id hid
        · exact h3 id hid
      · rw [if_neg hs] at e
        simp only [if_neg hs]
        exact ⟨e, by first | rfl | trivial, fun id hid => h3 id (by simpa using hid)⟩
theorem conv_part (hp : Part h H) (s t : TypeId) (x : LV) : RLe (evalConv T h s t x) (evalConv T H s t x) := by
  unfold evalConv
  split
  · exact .refl _
  · exact .refl _
  · rename_i lx _ _ _ e _ _
    cases q1 : elemsS h lx with
    | none => cases (T e).k <;> try exact .fail
              rename_i k; cases k <;> exact .fail
    | some ys => rw [elemsS_part hp q1]; exact .refl _
  · exact .refl _
theorem retObj_id : ∀ (rs : List RV) (d : Nat), ∀ p ∈ retsObj d rs, ∃ i, p.1 = d + 1000 * i
  | [], d, p, hp => by simp [retsObj] at hp
  | r :: rs, d, p, hp => by
    simp only [retsObj, List.mem_append] at hp
    rcases hp with hp | hp
    · cases r <;> simp [retObj] at hp; exact ⟨0, by rw [hp]; simp⟩
    · obtain ⟨i, hi⟩ := retObj_id rs (d + 1000) p hp
      exact ⟨i + 1, by omega⟩
theorem resObj_id (v : RV) (d : Nat) : ∀ p ∈ resObj d v, ∃ i, p.1 = d + 1000 * i := by
  intro p hp
  cases v with
  | tup rs => exact retObj_id rs d p hp
  | d x => simp [resObj, retObj] at hp
  | own s xs => simp [resObj, retObj] at hp; exact ⟨0, by rw [hp]; simp⟩
theorem call_part (hp : Part h H) (r : Option Orc) {dst : Nat} (hd : ∀ i, h (dst + 1000 * i) = H (dst + 1000 * i)) (f : LV) (args : List LV) : RLe (evalCall P h r dst f args) (evalCall P H r dst f args) := by
  unfold evalCall
  split
  · rename_i fid caps r _
    cases q : optAll ((args ++ caps).map (close h 8)) with
    | none => exact .fail
    | some asl =>
      obtain ⟨c1, c2⟩ := closes_part hp 8 q
      rw [c1]
      have hl := closes_live 8 q
      simp only [c2, freezes_part hp hl]
      exact fun hok => ⟨⟨hok.1, fun p hpp => by obtain ⟨i, hi⟩ := resObj_id r.v dst p hpp; rw [hi, ← hd i, ← hi]; exact hok.2 p hpp⟩, rfl, rfl⟩
  · rename_i fid caps g _
    cases q : argsG h g.σ g.shut 0 (args ++ caps) with
    | none => exact .fail
    | some asl =>
      obtain ⟨h1, h2, h3⟩ := argsG_part hp _ _ _ q
      rw [h1]
      intro hok
      simp only at hok
      obtain ⟨k1, k2, k3, k4, k5, k6⟩ := hok
      have e1 : (g.σ.map fun p => (p.2, renO g.σ (H p.1))) = g.σ.map fun p => (p.2, renO g.σ (h p.1)) := List.map_congr_left fun p hpp => by rw [live_part hp (k2 p hpp)]
      simp only [h2, freezes_part hp h3, e1]
      refine ⟨⟨k1, fun p hpp => by rw [live_part hp (k2 p hpp)]; exact k2 p hpp, k3, k4, fun p hpp => ⟨?_, (k5 p hpp).2⟩, k6⟩, trivial, trivial⟩
      obtain ⟨a1, a2, a3⟩ := k5 p hpp
      have : p.2 = dst + 1000 * ((p.2 - dst) / 1000) := by omega
      rw [this, ← hd, ← this]; exact a1
  · rename_i fid caps Rel fr r _
    cases q : optAll ((args ++ caps).map (close h 8)) with
    | none => exact .fail
    | some asl =>
      obtain ⟨c1, c2⟩ := closes_part hp 8 q
      rw [c1]
      have hl := closes_live 8 q
      simp only [c2, freezes_part hp hl]
      exact fun hok => ⟨⟨hok.1, hok.2.1, fun p hpp => by obtain ⟨i, hi⟩ := resObj_id r.v dst p hpp; rw [hi, ← hd i, ← hi]; exact hok.2.2 p hpp⟩, rfl, rfl⟩
  · rename_i fid caps g _ _
    cases q : argsG h g.σ g.shut 0 (args ++ caps) with
    | none => exact .fail
    | some asl =>
      obtain ⟨h1, h2, h3⟩ := argsG_part hp _ _ _ q
      rw [h1]
      intro hok
      simp only at hok
      obtain ⟨k1, k2, k3, k4, k5, k6⟩ := hok
      have e1 : (g.σ.map fun p => (p.2, renO g.σ (H p.1))) = g.σ.map fun p => (p.2, renO g.σ (h p.1)) := List.map_congr_left fun p hpp => by rw [live_part hp (k2 p hpp)]
      simp only [h2, freezes_part hp h3, e1]
      refine ⟨⟨k1, fun p hpp => by rw [live_part hp (k2 p hpp)]; exact k2 p hpp, k3, k4, fun p hpp => ⟨?_, (k5 p hpp).2⟩, k6⟩, trivial, trivial⟩
      obtain ⟨a1, a2, a3⟩ := k5 p hpp
      have : p.2 = dst + 1000 * ((p.2 - dst) / 1000) := by omega
      rw [this, ← hd, ← this]; exact a1
  · exact .refl _
theorem apart_part (hp : Part h H) (f : LV) (args : List LV) : RLe (evalApart P T h f args) (evalApart P T H f args) := by
  unfold evalApart
  split
  · rename_i fid i k n c j k' n' c'
    rcases hp i with q | q
    · rw [q]
      rcases hp j with q2 | q2
      · rw [q2]; exact .refl _
      · rw [q2]; cases H i <;> exact .fail
    · rw [q]; exact .fail
  · exact .refl _
theorem op_part_le (hp : Part h H) (g : Operand → LV) (r : Option Orc) (o : Oper) (hd : ∀ i, h (o.dst.getD 0 + 1000 * i) = H (o.dst.getD 0 + 1000 * i)) : RLe (evalOp P T h g r o) (evalOp P T H g r o) := by
  have hd0 : h (o.dst.getD 0) = H (o.dst.getD 0) := by simpa using hd 0
  obtain ⟨dst, op, type, pos, after, guard⟩ := o
  cases op <;> simp only [evalOp] <;> simp only at hd hd0 <;> first | exact .refl _ | skip
  case assign x => simp only [Option.getD] at hd0 ⊢; rw [hd0]; exact .refl _
  case alloc t => rw [hd0]; exact .refl _
  case box t x => exact fun hok => ⟨⟨by rw [← hd0]; exact hok.1, solid_part hp hok.2⟩, rfl, rfl⟩
  case buildSlice t n ps =>
    split
    · exact buildSliceC_part hp hd0 _ _ _
    · exact buildSlice_part hp hd0 _ _ _
  case load t x => split; exact .refl _; exact load_part hp _ _
  case store t x y => split; exact .refl _; exact store_part hp _ _ _
  case nilCheck x =>
    split
    · exact fun hok => ⟨by have hok' := hok; simp only [Res.cond] at hok' ⊢; rw [live_part hp hok']; exact hok', rfl, rfl⟩
    · exact fun hok => ⟨by have hok' := hok; simp only [Res.cond] at hok' ⊢; rw [live_part hp hok']; exact hok', rfl, rfl⟩
    · exact .refl _
    · exact .refl _
    · exact .refl _
    · exact .refl _
  case convert s t x => exact conv_part hp _ _ _
  case makeFunc fn first cs => cases fn <;> exact .refl _
  case slice t x lo hi mx =>
    split
    · exact .refl _
    · split
      · exact cut_part hp _ _ _ _ _
      · exact slice_part hp _ _ _ _ _
  case binOp op t x y u =>
    split
    · exact .refl _
    · split
      · exact nil_part hp _ _ _ _ _
      · exact .refl _
    · exact .refl _
  case makeSlice t n c => exact make_part hd0 _ _ _
  case fieldAddr s x f => exact field_part hp _ _ _
  case makeMap t r => cases r <;> simp only [] <;> first | exact .refl _ | (unfold evalMakeMap; rw [hd0]; exact .refl _)
  case lookup t x i ok => exact lookup_part hp _ _ _ _
  case mapUpdate t m k x => exact mapSet_part hp _ _ _ _
  case insert t m k x => exact mapSet_part hp _ _ _ _
  case range t x =>
    split
    · unfold evalRange
      split
      · rw [hd0]; exact .refl _
      · exact .refl _
    · exact .refl _
  case indexAddr t x i => exact indexAddr_part hp _ _ _
  case call c =>
    obtain ⟨callee, args, ts⟩ := c
    cases callee with
    | value f =>
      simp only
      split
      · exact apart_part hp _ _
      · exact call_part hp r hd _ _
    | invoke r m => exact .refl _
    | builtin b =>
      simp only
      split
      · exact len_part hp _ _
      · split
        · split
          · exact appendIn_part hp _ _ _
          · exact appendG_part hp hd0 _ _ _ _ _
          · exact appendV_part hp hd0 (by simpa using hd 1) _ _ _ _ _ _
          · exact appendT_part hp hd0 _ _ _ _
          · split
            · exact appendC_part hp hd0 _ _ _
            · exact append_part hp hd0 _ _ _
        · split
          · exact appendZ_part hp hd0 _ _ _
          · exact .refl _
      · split
        · exact cap_part hp _ _ _ _
        · exact capC_part hp _ _
      · exact clear_part hp _ _
      · split
        · exact copyC_part hp _ _ _
        · exact copy_part hp _ _ _
      · exact .refl _
      · exact .refl _
      · exact delete_part hp _ _ _
      · exact .refl _
theorem in_part (hp : Part h H) (g : Operand → LV) (r : Option Orc) (o : Oper) (hd : ∀ i, h (o.dst.getD 0 + 1000 * i) = H (o.dst.getD 0 + 1000 * i)) : RLe (evalIn P T h g r o) (evalIn P T H g r o) := by
  unfold evalIn
  split
  · exact .refl _
  · exact op_part_le hp _ r o hd
end
end Go.Eng
namespace Go.Eng
open Go.RowKit
def maskE (hide : List Nat) (H : Obs) : Obs := fun id => if hide.contains (id % 1000) then .absent else H id
def wrIn (wr : List Nat) (p : Nat × LObj) : Bool := wr.contains (p.1 % 1000)
def stepM (P : Program) (T : TypeId → TyI) (N : Nat) (slots : Nat → Option Nat) (orc : Nat → Option Orc) (hide wr : List Nat) (st : LSt) (o : Oper) : LSt :=
  let r := evalG P T slots st.env (maskE hide st.H) (orc (o.dst.getD 0)) o
  { env := putEnv st.env o.dst r.v
    H := upds st.H (r.up.filter (wrIn wr))
    ok := st.ok ∧ r.ok ∧ dstOk N o.dst ∧ ∀ p ∈ r.up, wrIn wr p = true }
section
variable {P : Program} {T : TypeId → TyI} {N : Nat} {w0 : Base} {X : Nat → Prop} {β : Nat → Option Nat} {w : World} {a : Act} {o : Oper}
theorem mask_part (hide : List Nat) (H : Obs) : Part (maskE hide H) H := fun id => by
  unfold maskE
  split
  · exact .inr rfl
  · exact .inl rfl
theorem stepM_sound (hT : TOk P T) (hW : TWf T) {ops : Array Oper} {slots : Nat → Option Nat} (hsl : ∀ j d, slots j = some d → (ops[j]?).bind (·.dst) = some d ∧ d < N) {r : Option Orc} {hide wr : List Nat} (hd : hide.contains (o.dst.getD 0 % 1000) = false) {st : LSt}
    (s : Sim N w0 X st.env st.H β a w) (hself : Alt r r) (hok : ∀ r', Alt r r' → (stepM P T N slots (fun _ => r') hide wr st o).ok) {K : Act → World → Prop} {Q : Exit → Act → World → Prop}
    (hK : ∀ r', Alt r r' → ∀ a' w' β', Sim N w0 X (stepM P T N slots (fun _ => r') hide wr st o).env (stepM P T N slots (fun _ => r') hide wr st o).H β' a' w' → K a' w') :
    if Region.wanted o (yielded ops a.tmps) then o.wp P a w K Q ∨ (o.asks P a w ∧ LetsOut Q) else K (a.put o.dst undef) w := by
  have hp := mask_part hide st.H
  have hdd : ∀ i, maskE hide st.H (o.dst.getD 0 + 1000 * i) = st.H (o.dst.getD 0 + 1000 * i) := fun i => by
    unfold maskE
    rw [if_neg (by rw [Nat.add_mul_mod_self_left, hd]; simp)]
  have hok2 := fun r' h => (hok r' h).2.1
  have hok4 := fun r' h => (hok r' h).2.2.2
  have hok3 := (hok r hself).2.2.1
  clear hok
  simp only [stepM] at hK hok2 hok4
  have hfil : ∀ l : List (Nat × LObj), (∀ p ∈ l, wrIn wr p = true) → l.filter (wrIn wr) = l := fun l hl => List.filter_eq_self.2 hl
  have hK : ∀ r', Alt r r' → ∀ a' w' β', Sim N w0 X (putEnv st.env o.dst (evalG P T slots st.env (maskE hide st.H) r' o).v) (upds st.H (evalG P T slots st.env (maskE hide st.H) r' o).up) β' a' w' → K a' w' := fun r' h a' w' β' s' => hK r' h a' w' β' (by rw [hfil _ (hok4 r' h)]; exact s')
  cases hg : o.guard with
  | none =>
    have e : ∀ r, evalG P T slots st.env (maskE hide st.H) r o = evalOp P T (maskE hide st.H) (opLV st.env) r o := fun r => by unfold evalG; rw [hg]
    simp only [e] at hK hok2
    have hpl := fun r' h => op_part_le hp (opLV st.env) r' o hdd (hok2 r' h)
    rw [if_pos (by simp [Region.wanted, hg])]
    left
    refine op_sound hT hW s.mem s.get hself (fun r' h => (hpl r' h).1) K Q ?_
    rintro res ⟨r', h', rfl⟩ v w' β' m gg hv
    obtain ⟨_, c2, c3⟩ := hpl r' h'
    refine hK r' h' _ _ β' ?_
    rw [← c2, ← c3]
    exact s.put m gg hv hok3
  | some p =>
    obtain ⟨j, want⟩ := p
    unfold evalG at hK hok2
    simp only [hg] at hK hok2
    have hok20 := hok2 r hself
    split at hok20
    · rename_i ec hec
      simp only [hec] at hK hok2
      obtain ⟨q1, q2⟩ := hok20
      obtain ⟨d, hd1, hd2⟩ := Option.map_eq_some_iff.1 hec
      obtain ⟨hd3, hd4⟩ := hsl j d hd1
      rw [guard_real s hd3 hd4 hd2 hg]
      cases ec with
      | true =>
        simp only [if_true]
        left
        have hpl := fun r' h => in_part hp (opLV st.env) r' o hdd ((hok2 r' h).1 rfl)
        refine in_sound hT hW s.mem s.get hself (fun r' h => (hpl r' h).1) (q2 rfl) K Q ?_
        rintro res ⟨r', h', rfl⟩ v w' β' m gg hv
        obtain ⟨_, c2, c3⟩ := hpl r' h'
        refine hK r' h' _ _ β' ?_
        rw [c3] at m gg hv
        rw [c2] at hv
        exact s.put m gg (.when true _ v (fun _ => hv) (fun h => by cases h)) hok3
      | false =>
        simp only [Bool.false_eq_true, if_false]
        exact hK r hself _ _ β (s.put s.mem Goes.refl (.when false _ undef (fun h => by cases h) (fun _ => rfl)) hok3)
    · exact hok20.elim
theorem opLV_congr {env env' : Env} {ops : Array Oper} (h : ∀ d ∈ o.looksAt ops, env d = env' d) : ∀ x ∈ o.op.operands, opLV env x = opLV env' x := by
  intro x hx
  cases x with
  | tmp t => exact h t (by unfold Oper.looksAt; exact List.mem_append.2 (.inl (List.mem_filterMap.2 ⟨.tmp t, by simpa using hx, rfl⟩)))
  | _ => rfl
theorem guardOps_sub : ∀ x ∈ guardOps o.op, x ∈ o.op.operands := by
  intro x hx
  unfold guardOps at hx
  split at hx
  · rename_i e; simp at hx; rw [e, hx]; simp [Op.operands]
  · simpa using hx
theorem evalIn_congr {h : Obs} {g g' : Operand → LV} {r : Option Orc} (e : ∀ x ∈ o.op.operands, g x = g' x) : evalIn P T h g r o = evalIn P T h g' r o := by
  unfold evalIn
  split
  · rename_i c x y ho
    rw [e c (by rw [ho]; simp [Op.operands]), e x (by rw [ho]; simp [Op.operands]), e y (by rw [ho]; simp [Op.operands])]
  · exact evalOp_congr fun x hx => by rw [e x hx]
theorem evalG_congr {l : List Oper} {env env' : Env} {h : Obs} {r : Option Orc} (e : ∀ d ∈ o.looksAt l.toArray, env d = env' d) : evalG P T (slotsOf N l) env h r o = evalG P T (slotsOf N l) env' h r o := by
  have e1 := opLV_congr e
  unfold evalG
  cases hg : o.guard with
  | none => exact evalOp_congr e1
  | some p =>
    obtain ⟨j, want⟩ := p
    simp only
    have e2 : ((slotsOf N l j).map fun d => guardC want (env d)) = (slotsOf N l j).map fun d => guardC want (env' d) := by
      cases q : slotsOf N l j with
      | none => rfl
      | some d =>
        have hd := (slotsOf_ok N l j d q).1
        have : env d = env' d := e d (by unfold Oper.looksAt; rw [hg]; exact List.mem_append.2 (.inr (by simp only; rw [hd]; simp)))
        simp only [Option.map_some, this]
    rw [e2, evalIn_congr e1]
    have e3 : (∀ x ∈ guardOps o.op, whenC (opLV env x) = true) = ∀ x ∈ guardOps o.op, whenC (opLV env' x) = true := by
      apply propext
      exact ⟨fun h x hx => by rw [← e1 x (guardOps_sub x hx)]; exact h x hx, fun h x hx => by rw [e1 x (guardOps_sub x hx)]; exact h x hx⟩
    rw [e3]
def sepB (hide1 wr1 hide2 wr2 : List Nat) : Bool := wr1.all (fun x => hide2.contains x && !wr2.contains x) && wr2.all (fun x => hide1.contains x)
theorem upds_filter (H : Obs) (l : List (Nat × LObj)) (wr : List Nat) (id : Nat) (h : wr.contains (id % 1000) = false) : upds H (l.filter (wrIn wr)) id = H id := by
  rw [upds_lookup]
  have : lookupO (l.filter (wrIn wr)) id = none := by
    induction l with
    | nil => rfl
    | cons p r ih =>
      by_cases hp : wrIn wr p = true
      · rw [List.filter_cons_of_pos hp]
        simp only [lookupO]
        rw [if_neg (fun e => by unfold wrIn at hp; rw [← e, h] at hp; cases hp)]
        exact ih
      · rw [List.filter_cons_of_neg hp]; exact ih
  rw [this]; rfl
theorem mask_upds (H : Obs) (l : List (Nat × LObj)) {wr hide : List Nat} (h : ∀ x ∈ wr, hide.contains x = true) : maskE hide (upds H (l.filter (wrIn wr))) = maskE hide H := by
  funext id
  unfold maskE
  by_cases hh : hide.contains (id % 1000) = true
  · rw [if_pos hh, if_pos hh]
  · rw [if_neg hh, if_neg hh]
    refine upds_filter H l wr id ?_
    cases q : wr.contains (id % 1000) with
    | false => rfl
    | true => exact absurd (h _ (by simpa using q)) hh
theorem upds_comm (H : Obs) (l1 l2 : List (Nat × LObj)) {wr1 wr2 : List Nat} (h : ∀ x ∈ wr1, wr2.contains x = false) : upds (upds H (l1.filter (wrIn wr1))) (l2.filter (wrIn wr2)) = upds (upds H (l2.filter (wrIn wr2))) (l1.filter (wrIn wr1)) := by
  funext id
  cases q1 : wr1.contains (id % 1000) with
  | false =>
    rw [upds_filter _ l1 wr1 id q1, upds_lookup _ id, upds_filter H l1 wr1 id q1, upds_lookup _ id]
  | true =>
    have q2 : wr2.contains (id % 1000) = false := h _ (by simpa using q1)
    rw [upds_filter _ l2 wr2 id q2, upds_lookup (l1.filter _) id, upds_lookup (l1.filter _) id, upds_filter H l2 wr2 id q2]
theorem putEnv_comm (env : Env) {d1 d2 : Option Nat} (v1 v2 : LV) (h : ∀ d, d1 = some d → d2 ≠ some d) : putEnv (putEnv env d1 v1) d2 v2 = putEnv (putEnv env d2 v2) d1 v1 := by
  cases d1 with
  | none => rfl
  | some d1 =>
    cases d2 with
    | none => rfl
    | some d2 =>
      have : d1 ≠ d2 := fun e => h d1 rfl (by rw [e])
      funext j
      simp only [putEnv, upd]
      by_cases h1 : j = d1
      · subst h1; rw [if_neg this]; simp
      · rw [if_neg h1, if_neg h1]
theorem putEnv_ne (env : Env) {d1 : Option Nat} (v : LV) {d : Nat} (h : d1 ≠ some d) : putEnv env d1 v d = env d := by
  cases d1 with
  | none => rfl
  | some d1 => simp only [putEnv, upd]; rw [if_neg (fun e => h (by rw [e]))]
theorem stepM_comm {l : List Oper} {orc : Nat → Option Orc} {o1 o2 : Oper} {hide1 wr1 hide2 wr2 : List Nat} (hap : o1.apart l.toArray o2 = true) (hs : sepB hide1 wr1 hide2 wr2 = true) (st : LSt) :
    stepM P T N (slotsOf N l) orc hide2 wr2 (stepM P T N (slotsOf N l) orc hide1 wr1 st o1) o2 = stepM P T N (slotsOf N l) orc hide1 wr1 (stepM P T N (slotsOf N l) orc hide2 wr2 st o2) o1 := by
  obtain ⟨a1, a2, a3⟩ := Oper.apart_spec hap
  simp only [sepB, Bool.and_eq_true, List.all_eq_true] at hs
  obtain ⟨s1, s2⟩ := hs
  have s3 : ∀ x ∈ wr1, hide2.contains x = true := fun x hx => (s1 x hx).1
  have s4 : ∀ x ∈ wr1, wr2.contains x = false := fun x hx => by simpa using (s1 x hx).2
  have e2 : evalG P T (slotsOf N l) (stepM P T N (slotsOf N l) orc hide1 wr1 st o1).env (maskE hide2 (stepM P T N (slotsOf N l) orc hide1 wr1 st o1).H) (orc (o2.dst.getD 0)) o2 = evalG P T (slotsOf N l) st.env (maskE hide2 st.H) (orc (o2.dst.getD 0)) o2 := by
    simp only [stepM]
    rw [mask_upds _ _ s3]
    exact evalG_congr fun d hd => putEnv_ne _ _ (fun e => a1 d e hd)
  have e1 : evalG P T (slotsOf N l) (stepM P T N (slotsOf N l) orc hide2 wr2 st o2).env (maskE hide1 (stepM P T N (slotsOf N l) orc hide2 wr2 st o2).H) (orc (o1.dst.getD 0)) o1 = evalG P T (slotsOf N l) st.env (maskE hide1 st.H) (orc (o1.dst.getD 0)) o1 := by
    simp only [stepM]
    rw [mask_upds _ _ s2]
    exact evalG_congr fun d hd => putEnv_ne _ _ (fun e => a3 d e hd)
  have f : ∀ (hide wr : List Nat) (st : LSt) (o : Oper), stepM P T N (slotsOf N l) orc hide wr st o = { env := putEnv st.env o.dst (evalG P T (slotsOf N l) st.env (maskE hide st.H) (orc (o.dst.getD 0)) o).v, H := upds st.H ((evalG P T (slotsOf N l) st.env (maskE hide st.H) (orc (o.dst.getD 0)) o).up.filter (wrIn wr)), ok := st.ok ∧ (evalG P T (slotsOf N l) st.env (maskE hide st.H) (orc (o.dst.getD 0)) o).ok ∧ dstOk N o.dst ∧ ∀ p ∈ (evalG P T (slotsOf N l) st.env (maskE hide st.H) (orc (o.dst.getD 0)) o).up, wrIn wr p = true } := fun _ _ _ _ => rfl
  rw [f hide2 wr2, f hide1 wr1 (stepM P T N (slotsOf N l) orc hide2 wr2 st o2), e1, e2]
  clear e1 e2
  simp only [stepM]
  clear f
  generalize evalG P T (slotsOf N l) st.env (maskE hide1 st.H) (orc (o1.dst.getD 0)) o1 = r1
  generalize evalG P T (slotsOf N l) st.env (maskE hide2 st.H) (orc (o2.dst.getD 0)) o2 = r2
  congr 1
  · exact putEnv_comm _ _ _ a2
  · exact upds_comm _ _ _ s4
  · refine propext ⟨?_, ?_⟩
    · rintro ⟨⟨h1, h2⟩, h3⟩; exact ⟨⟨h1, h3⟩, h2⟩
    · rintro ⟨⟨h1, h2⟩, h3⟩; exact ⟨⟨h1, h3⟩, h2⟩
def ins (S : Nat → Bool) (i : Nat) : Nat → Bool := fun j => S j || j == i
def foldS (f : LSt → Nat → LSt) (S : Nat → Bool) (st : LSt) : Nat → LSt
  | 0 => st
  | n + 1 => if S n then f (foldS f S st n) n else foldS f S st n
def missS (S : Nat → Bool) : Nat → Nat
  | 0 => 0
  | n + 1 => missS S n + (if S n then 0 else 1)
theorem foldS_congr {f : LSt → Nat → LSt} {S S' : Nat → Bool} {st : LSt} : ∀ n, (∀ j, j < n → S j = S' j) → foldS f S st n = foldS f S' st n
  | 0, _ => rfl
  | n + 1, h => by
    simp only [foldS]
    rw [h n (Nat.lt_succ_self n), foldS_congr n fun j hj => h j (Nat.lt_succ_of_lt hj)]
theorem missS_congr {S S' : Nat → Bool} : ∀ n, (∀ j, j < n → S j = S' j) → missS S n = missS S' n
  | 0, _ => rfl
  | n + 1, h => by
    simp only [missS]
    rw [h n (Nat.lt_succ_self n), missS_congr n fun j hj => h j (Nat.lt_succ_of_lt hj)]
theorem ins_ne {S : Nat → Bool} {i j : Nat} (h : j ≠ i) : ins S i j = S j := by simp [ins, h]
theorem ins_eq {S : Nat → Bool} {i : Nat} : ins S i i = true := by simp [ins]
theorem foldS_ins {f : LSt → Nat → LSt} {S : Nat → Bool} {st : LSt} {i : Nat} (hs : S i = false) : ∀ n, i < n → (∀ j, i < j → j < n → S j = true → ∀ st, f (f st i) j = f (f st j) i) → foldS f (ins S i) st n = f (foldS f S st n) i
  | 0, h, _ => absurd h (Nat.not_lt_zero i)
  | n + 1, h, hc => by
    simp only [foldS]
    by_cases e : n = i
    · subst e
      rw [ins_eq, if_pos rfl, hs, if_neg (by simp), foldS_congr n fun j hj => ins_ne (Nat.ne_of_lt hj)]
    · rw [ins_ne e, foldS_ins hs n (by omega) fun j h1 h2 => hc j h1 (by omega)]
      cases q : S n with
      | true => rw [if_pos rfl, if_pos rfl, hc n (by omega) (by omega) q]
      | false => rfl
theorem missS_ins {S : Nat → Bool} {i : Nat} (hs : S i = false) : ∀ n, i < n → missS (ins S i) n + 1 = missS S n
  | 0, h => absurd h (Nat.not_lt_zero i)
  | n + 1, h => by
    simp only [missS]
    by_cases e : n = i
    · subst e
      rw [ins_eq, if_pos rfl, hs, if_neg (by simp), missS_congr n fun j hj => ins_ne (Nat.ne_of_lt hj)]
    · rw [ins_ne e]
      have := missS_ins hs n (by omega)
      omega
theorem missS_zero {S : Nat → Bool} : ∀ n, missS S n = 0 → ∀ j, j < n → S j = true
  | 0, _, j, h => absurd h (Nat.not_lt_zero j)
  | n + 1, h, j, hj => by
    simp only [missS] at h
    by_cases e : j = n
    · subst e; cases q : S j with | true => rfl | false => rw [q] at h; simp at h
    · exact missS_zero n (by omega) j (by omega)
theorem foldS_ok {f : LSt → Nat → LSt} (hf : ∀ st i, (f st i).ok → st.ok) {cl : Nat → List Nat} {n : Nat} (hcl : ∀ j, j < n → ∀ i ∈ cl j, i < j) (hc : ∀ i j, i < j → j < n → i ∉ cl j → ∀ st, f (f st i) j = f (f st j) i)
    {S : Nat → Bool} (hS : ∀ j, j < n → S j = true → ∀ i ∈ cl j, S i = true) {st : LSt} : ∀ m, m ≤ n → (foldS f (fun j => S j || decide (j < m)) st n).ok → (foldS f S st n).ok
  | 0, _, h => by
    rw [foldS_congr n (S' := S) fun j _ => by simp] at h
    exact h
  | m + 1, hm, h => by
    refine foldS_ok hf hcl hc hS m (by omega) ?_
    cases q : S m with
    | true =>
      rw [foldS_congr n (S' := fun j => S j || decide (j < m + 1)) fun j _ => ?_]
      · exact h
      · by_cases e : j = m
        · subst e; simp [q]
        · have : (j < m + 1) = (j < m) := by apply propext; omega
          simp only [this]
    | false =>
      have e : foldS f (fun j => S j || decide (j < m + 1)) st n = foldS f (ins (fun j => S j || decide (j < m)) m) st n := foldS_congr n fun j _ => by
        unfold ins
        by_cases e : j = m
        · subst e; simp
        · have : (j < m + 1) = (j < m) := by apply propext; omega
          simp only [this]
          simp [e]
      rw [e, foldS_ins (by simp [q]) n (by omega) fun j h1 h2 h3 => hc m j h1 h2 fun hin => ?_] at h
      · exact hf _ _ h
      · simp only [Bool.or_eq_true, decide_eq_true_eq] at h3
        rcases h3 with h3 | h3
        · rw [hS j h2 h3 m hin] at q; cases q
        · omega
def stepI (P : Program) (T : TypeId → TyI) (N : Nat) (l : List Oper) (orc : Nat → Option Orc) (hide wr : Nat → List Nat) (st : LSt) (i : Nat) : LSt :=
  match l[i]? with
  | some o => stepM P T N (slotsOf N l) orc (hide i) (wr i) st o
  | none => st
def anyChk (l : List Oper) (cl hide wr : Nat → List Nat) : Bool := (List.range l.length).all fun j => match l[j]? with
  | none => true
  | some o =>
    o.after.all (fun e => !Region.binds .any e || decide (e.on < j)) &&
    (cl j).all (fun i => decide (i < j) && o.after.any (fun e => Region.binds .any e && (e.on == i || (cl e.on).contains i))) &&
    !(hide j).contains (o.dst.getD 0 % 1000) &&
    (List.range j).all (fun i => (cl j).contains i || match l[i]? with
      | none => true
      | some o' => o'.apart l.toArray o && sepB (hide i) (wr i) (hide j) (wr j))
section
variable {l : List Oper} {cl hide wr : Nat → List Nat} {orc : Nat → Option Orc}
structure AnyOk (l : List Oper) (cl hide wr : Nat → List Nat) : Prop where
  edge : ∀ j o, l[j]? = some o → ∀ e ∈ o.after, Region.binds .any e = true → e.on < j
  low : ∀ j, j < l.length → ∀ i ∈ cl j, i < j
  clo : ∀ j o, l[j]? = some o → ∀ i ∈ cl j, ∃ e ∈ o.after, Region.binds .any e = true ∧ (e.on = i ∨ i ∈ cl e.on)
  dst : ∀ j o, l[j]? = some o → (hide j).contains (o.dst.getD 0 % 1000) = false
  sep : ∀ i j o' o, i < j → l[i]? = some o' → l[j]? = some o → i ∉ cl j → o'.apart l.toArray o = true ∧ sepB (hide i) (wr i) (hide j) (wr j) = true
theorem anyChk_ok (h : anyChk l cl hide wr = true) : AnyOk l cl hide wr := by
  have k : ∀ j o, l[j]? = some o → _ := fun j o hj => by
    have h' := List.all_eq_true.1 h j (List.mem_range.2 (List.getElem?_eq_some_iff.1 hj).1)
    rw [hj] at h'
    simp only [Bool.and_eq_true] at h'
    exact h'
  refine ⟨fun j o hj e he hb => ?_, fun j hj i hi => ?_, fun j o hj i hi => ?_, fun j o hj => ?_, fun i j o' o hij hi hj hn => ?_⟩
  · have := Array.all_eq_true_iff_forall_mem.1 (k j o hj).1.1.1 e he
    simpa [hb] using this
  · obtain ⟨o, ho⟩ : ∃ o, l[j]? = some o := ⟨_, List.getElem?_eq_getElem hj⟩
    have := List.all_eq_true.1 (k j o ho).1.1.2 i hi
    simp only [Bool.and_eq_true, decide_eq_true_eq] at this
    exact this.1
  · have := List.all_eq_true.1 (k j o hj).1.1.2 i hi
    simp only [Bool.and_eq_true, decide_eq_true_eq] at this
    obtain ⟨p, hp, he⟩ := Array.any_eq_true.1 this.2
    simp only [Bool.and_eq_true, Bool.or_eq_true, beq_iff_eq, List.contains_iff_mem] at he
    exact ⟨_, Array.getElem_mem hp, he.1, he.2⟩
  · simpa using (k j o hj).1.2
  · have := List.all_eq_true.1 (k j o hj).2 i (List.mem_range.2 hij)
    simp only [Bool.or_eq_true, List.contains_iff_mem, hi, Bool.and_eq_true] at this
    exact this.resolve_left hn
theorem stepI_mono (st : LSt) (i : Nat) (h : (stepI P T N l orc hide wr st i).ok) : st.ok := by
  unfold stepI at h
  split at h
  · exact h.1
  · exact h
theorem AnyOk.comm (A : AnyOk l cl hide wr) (i j : Nat) (hij : i < j) (hj : j < l.length) (hn : i ∉ cl j) (st : LSt) :
    stepI P T N l orc hide wr (stepI P T N l orc hide wr st i) j = stepI P T N l orc hide wr (stepI P T N l orc hide wr st j) i := by
  obtain ⟨o, ho⟩ : ∃ o, l[j]? = some o := ⟨_, List.getElem?_eq_getElem hj⟩
  obtain ⟨o', ho'⟩ : ∃ o, l[i]? = some o := ⟨_, List.getElem?_eq_getElem (by omega)⟩
  unfold stepI
  simp only [ho, ho']
  obtain ⟨h1, h2⟩ := A.sep i j o' o hij ho' ho hn
  exact stepM_comm h1 h2 st
def runM (P : Program) (T : TypeId → TyI) (N : Nat) (l : List Oper) (orc : Nat → Option Orc) (hide wr : Nat → List Nat) (st : LSt) : LSt := foldS (stepI P T N l orc hide wr) (fun _ => true) st l.length
theorem foldS_only {f f' : LSt → Nat → LSt} {S : Nat → Bool} {n0 : Nat} {st : LSt} (h : ∀ q, S q = true → q < n0 → ∀ st, f st q = f' st q) : ∀ n, n ≤ n0 → foldS f S st n = foldS f' S st n
  | 0, _ => rfl
  | n + 1, hn => by
    simp only [foldS]
    rw [foldS_only h n (by omega)]
    split
    · rename_i hs; exact h n hs (by omega) _
    · rfl
structure GuessA {ι : Type} (orcs : ι → Nat → Option Orc) (Φ : ι → Prop) (l : List Oper) : Prop where
  self : ∀ i, Φ i → ∀ d, Alt (orcs i d) (orcs i d)
  alt : ∀ i, Φ i → ∀ (k : Nat) (o : Oper), l[k]? = some o → ∀ r', Alt (orcs i (o.dst.getD 0)) r' → ∃ j, Φ j ∧ orcs j (o.dst.getD 0) = r' ∧ ∀ (q : Nat) (oq : Oper), l[q]? = some oq → q ≠ k → orcs j (oq.dst.getD 0) = orcs i (oq.dst.getD 0)
theorem Guess.all {l : List Oper} {ι : Type} {orcs : ι → Nat → Option Orc} {Φ : ι → Prop} {d0 : Nat} (G : Guess orcs Φ d0) (hc1 : ∀ (i j : Nat) (o o' : Oper), l[i]? = some o → l[j]? = some o' → o.dst.getD 0 = d0 → o'.dst.getD 0 = d0 → i = j) : GuessA orcs Φ l := by
  refine ⟨fun i hi d => ?_, fun i hi k o ho r' hr => ?_⟩
  · by_cases hd : d = d0
    · subst hd; exact G.self i hi
    · exact (G.det i hi d hd).1
  · by_cases hd : o.dst.getD 0 = d0
    · rw [hd] at hr
      obtain ⟨j, hj, e⟩ := G.alt i hi r' hr
      refine ⟨j, hj, by rw [hd]; exact e, fun q oq hq hqk => ?_⟩
      exact G.base j i hj hi _ fun h => hqk (hc1 q k oq o hq ho h hd)
    · exact ⟨i, hi, ((G.det i hi _ hd).2 r' hr).symm, fun _ _ _ _ => rfl⟩
def gorc2 {ι κ : Type} (d0 d1 : Nat) (base : Nat → Option Orc) (g : ι → Orc) (h : κ → Orc) (i : ι × κ) (d : Nat) : Option Orc := if d = d0 then some (g i.1) else if d = d1 then some (h i.2) else base d
theorem any_sound (hT : TOk P T) (hW : TWf T) (A : AnyOk l cl hide wr) {st : LSt} {ι : Type} {orcs : ι → Nat → Option Orc} {Φ : ι → Prop} (G : GuessA orcs Φ l) (hok : ∀ i, Φ i → (runM P T N l (orcs i) hide wr st).ok) {Q : Exit → Act → World → Prop}
    (hQ : ∀ i, Φ i → ∀ β a w, Sim N w0 X (runM P T N l (orcs i) hide wr st).env (runM P T N l (orcs i) hide wr st).H β a w → Q .normal a w) :
    ∀ (ι0 : ι), Φ ι0 → ∀ (fuel : Nat) (listed : Array Bool) (β : Nat → Option Nat) (a : Act) (w : World), listed.size = l.length → missS (fun j => listed.getD j false) l.length ≤ fuel → (∀ j, j < l.length → listed.getD j false = true → ∀ i ∈ cl j, listed.getD i false = true) →
      Sim N w0 X (foldS (stepI P T N l (orcs ι0) hide wr) (fun j => listed.getD j false) st l.length).env (foldS (stepI P T N l (orcs ι0) hide wr) (fun j => listed.getD j false) st l.length).H β a w → wpAny P .any l.toArray Q fuel listed a w := by
  have all : ∀ (ι0 : ι), Φ ι0 → ∀ (listed : Array Bool) (β : Nat → Option Nat) (a : Act) (w : World), Region.ready .any l.toArray listed = [] → listed.size = l.length → Sim N w0 X (foldS (stepI P T N l (orcs ι0) hide wr) (fun j => listed.getD j false) st l.length).env (foldS (stepI P T N l (orcs ι0) hide wr) (fun j => listed.getD j false) st l.length).H β a w → Q .normal a w := by
    intro ι0 hΦ listed β a w hr hsz hs
    have : ∀ j, j < l.length → listed.getD j false = true := by
      intro j
      induction j using Nat.strongRecOn with
      | ind j ih =>
        intro hj
        cases q : listed.getD j false with
        | true => rfl
        | false =>
          exfalso
          obtain ⟨o, ho⟩ : ∃ o, l[j]? = some o := ⟨_, List.getElem?_eq_getElem hj⟩
          have : j ∈ Region.ready .any l.toArray listed := mem_ready.2 ⟨by
            simp only [Array.getD_eq_getD_getElem?] at q ⊢
            rw [Array.getElem?_eq_getElem (by omega)] at q ⊢
            exact q, o, by simpa using ho, fun e he hb => ih e.on (A.edge j o ho e he hb) (Nat.lt_trans (A.edge j o ho e he hb) hj)⟩
          rw [hr] at this
          cases this
    rw [foldS_congr (S' := fun _ => true) l.length this] at hs
    exact hQ ι0 hΦ β a w hs
  intro ι0 hΦ fuel
  induction fuel generalizing ι0 with
  | zero =>
    intro listed β a w hsz hm hc hs
    have hr : Region.ready .any l.toArray listed = [] := by
      cases hr : Region.ready .any l.toArray listed with
      | nil => rfl
      | cons i r =>
        exfalso
        have hi : i ∈ Region.ready .any l.toArray listed := by rw [hr]; exact List.mem_cons_self
        obtain ⟨h0, o, ho, _⟩ := mem_ready.1 hi
        have hlt : i < l.length := by have := (Array.getElem?_eq_some_iff.1 ho).1; simpa using this
        have := missS_zero l.length (Nat.le_zero.1 hm) i hlt
        simp only [Array.getD_eq_getD_getElem?] at h0 this
        rw [Array.getElem?_eq_getElem (by omega)] at h0 this
        simp only [Option.getD_some] at h0 this
        rw [h0] at this; cases this
    exact ⟨hr, all ι0 hΦ listed β a w hr hsz hs⟩
  | succ fuel ih =>
    intro listed β a w hsz hm hc hs
    refine ⟨fun hr => all ι0 hΦ listed β a w hr hsz hs, fun i hi => ?_⟩
    obtain ⟨h0, o, ho, hall⟩ := mem_ready.1 hi
    have hlt : i < l.length := by have := (Array.getElem?_eq_some_iff.1 ho).1; simpa using this
    have ho' : l[i]? = some o := by simpa using ho
    have hf : listed.getD i false = false := by
      simp only [Array.getD_eq_getD_getElem?] at h0 ⊢
      rw [Array.getElem?_eq_getElem (by omega)] at h0 ⊢
      exact h0
    have hi' : ∀ k, (listed.setIfInBounds i true).getD k false = ins (fun j => listed.getD j false) i k := by
      intro k
      by_cases e : k = i
      · subst e; rw [ins_eq]; simp [hsz, hlt]
      · rw [ins_ne e]; exact getD_set_ne false (Ne.symm e)
    have hcl : ∀ k ∈ cl i, listed.getD k false = true := by
      intro k hk
      obtain ⟨e, he, hb, hor⟩ := A.clo i o ho' k hk
      have := hall e he hb
      rcases hor with hor | hor
      · rw [← hor]; exact this
      · exact hc e.on (Nat.lt_trans (A.edge i o ho' e he hb) hlt) this k hor
    have hc' : ∀ j, j < l.length → (listed.setIfInBounds i true).getD j false = true → ∀ k ∈ cl j, (listed.setIfInBounds i true).getD k false = true := by
      intro j hj hjl k hk
      rw [hi'] at hjl ⊢
      have : listed.getD k false = true := by
        by_cases e : j = i
        · subst e; exact hcl k hk
        · rw [ins_ne e] at hjl; exact hc j hj hjl k hk
      simp [ins, this]
    have e1 : ∀ ι0 : ι, foldS (stepI P T N l (orcs ι0) hide wr) (fun j => (listed.setIfInBounds i true).getD j false) st l.length = stepI P T N l (orcs ι0) hide wr (foldS (stepI P T N l (orcs ι0) hide wr) (fun j => listed.getD j false) st l.length) i := fun ι0 => by
      rw [foldS_congr (S' := ins (fun j => listed.getD j false) i) l.length fun j _ => hi' j]
      exact foldS_ins hf l.length hlt fun j h1 h2 h3 => A.comm i j h1 h2 fun hin => by
        have := hc j h2 h3 i hin
        rw [hf] at this; cases this
    have okk : ∀ ι0, Φ ι0 → (foldS (stepI P T N l (orcs ι0) hide wr) (fun j => (listed.setIfInBounds i true).getD j false) st l.length).ok := fun ι0 hΦ => by
      refine foldS_ok stepI_mono A.low A.comm hc' l.length (Nat.le_refl _) ?_
      rw [foldS_congr (S' := fun _ => true) l.length fun j hj => by simp [hj]]
      exact hok ι0 hΦ
    have e2 : ∀ ι0 st, stepI P T N l (orcs ι0) hide wr st i = stepM P T N (slotsOf N l) (orcs ι0) (hide i) (wr i) st o := fun ι0 st => by unfold stepI; rw [ho']
    -- a choice for this operation: what was done before does not hang on it
    have key : ∀ r', Alt (orcs ι0 (o.dst.getD 0)) r' → ∃ j, Φ j ∧ (∀ st, stepM P T N (slotsOf N l) (fun _ => r') (hide i) (wr i) st o = stepM P T N (slotsOf N l) (orcs j) (hide i) (wr i) st o) ∧
        foldS (stepI P T N l (orcs ι0) hide wr) (fun j => listed.getD j false) st l.length = foldS (stepI P T N l (orcs j) hide wr) (fun j => listed.getD j false) st l.length := fun r' hr => by
      obtain ⟨j, hj, e, hq⟩ := G.alt ι0 hΦ i o ho' r' hr
      refine ⟨j, hj, fun st => by unfold stepM; rw [e], foldS_only (fun q hq' hql st => ?_) l.length (Nat.le_refl _)⟩
      have hqi : q ≠ i := fun h => by
        have hq' : listed.getD q false = true := hq'
        rw [h, hf] at hq'; cases hq'
      unfold stepI
      cases hoq : l[q]? with
      | none => rfl
      | some oq =>
        simp only []
        unfold stepM
        rw [hq q oq hoq hqi]
    have hself : Alt (orcs ι0 (o.dst.getD 0)) (orcs ι0 (o.dst.getD 0)) := G.self ι0 hΦ _
    have := stepM_sound (P := P) (T := T) hT hW (ops := l.toArray) (slotsOf_ok N l) (A.dst i o ho') hs hself (r := orcs ι0 (o.dst.getD 0)) (fun r' hr => by
        obtain ⟨j, hj, h1, h2⟩ := key r' hr
        have := okk j hj
        rw [e1, e2] at this
        rw [h1, h2]; exact this) (K := wpAny P .any l.toArray Q fuel (listed.setIfInBounds i true)) (Q := Q) fun r' hr a' w' β' s' => by
      obtain ⟨j, hj, h1, h2⟩ := key r' hr
      rw [h1, h2] at s'
      exact ih j hj (listed.setIfInBounds i true) β' a' w' (by simpa using hsz) (by
        rw [missS_congr (S' := ins (fun j => listed.getD j false) i) l.length fun j _ => hi' j]
        have := missS_ins (S := fun j => listed.getD j false) hf l.length hlt
        omega) hc' (by rw [e1, e2]; exact s')
    unfold wpOp
    simp only [ho]
    exact this
theorem Sim.drew {env : Env} {H : Obs} {β : Nat → Option Nat} (s : Sim N w0 X env H β a w) : Sim N w0 X env H β a { w with drawn := w.drawn + 1 } := by
  have hb : Bel w.heap.size w { w with drawn := w.drawn + 1 } := ⟨rfl, rfl, rfl, Nat.le_refl _, fun _ _ => rfl, Nat.le_succ _⟩
  obtain ⟨m, g⟩ := s.mem.grow hb
  exact s.put (dst := none) (v := .slice none 0 0) (l := .junk) m g (.junk _) (by trivial)
theorem slot_top : ∀ l : List Oper, ∃ d0, ∀ o ∈ l, o.dst.getD 0 < d0
  | [] => ⟨0, fun o ho => by cases ho⟩
  | o :: l => by
    obtain ⟨d, hd⟩ := slot_top l
    refine ⟨d + o.dst.getD 0 + 1, fun o' ho' => ?_⟩
    rcases List.mem_cons.1 ho' with h | h
    · rw [h]; exact Nat.lt_succ_of_le (Nat.le_add_left _ _)
    · exact Nat.lt_of_lt_of_le (hd o' h) (Nat.le_succ_of_le (Nat.le_add_right _ _))
theorem LWp.regAnyA (hT : TOk P T) (hW : TWf T) (hm : P.follows .mixedOrders = true) {id : Nat} {Q : LX → Env → Obs → Prop} {env : Env} {H : Obs} (cl hide wr : Nat → List Nat) (hA : anyChk l cl hide wr = true) {ι : Type} {orcs : ι → Nat → Option Orc} {Φ : ι → Prop} (G : GuessA orcs Φ l) (i0 : ι) (h0 : Φ i0)
    (h : ∀ i, Φ i → (runM P T N l (orcs i) hide wr ⟨env, H, True⟩).ok ∧ Q .normal (runM P T N l (orcs i) hide wr ⟨env, H, True⟩).env (runM P T N l (orcs i) hide wr ⟨env, H, True⟩).H) :
    LWp P N w0 X (.region id l.toArray true) Q env H := by
  intro β a w s
  refine wp_region_any hm ?_
  have e0 : ∀ n, foldS (stepI P T N l (orcs i0) hide wr) (fun j => (Array.replicate l.toArray.size false).getD j false) ⟨env, H, True⟩ n = ⟨env, H, True⟩ := fun n => by
    induction n with
    | zero => rfl
    | succ n ih => simp only [foldS]; rw [if_neg (by simp [Array.getElem?_replicate]; split <;> rfl)]; exact ih
  refine any_sound hT hW (anyChk_ok hA) G (fun i hi => (h i hi).1) (fun i hi β' a' w' s' => ⟨.normal, _, _, β', trivial, s', (h i hi).2⟩) i0 h0 _ _ β a _ (by simp) ?_ (fun j _ hj => ?_) ?_
  · have : ∀ S n, missS S n ≤ n := fun S n => by
      induction n with
      | zero => exact Nat.le_refl 0
      | succ n ih => simp only [missS]; split <;> omega
    simpa using this _ l.length
  · exfalso; simp [Array.getElem?_replicate] at hj; split at hj <;> cases hj
  · rw [e0]; exact s.drew
theorem LWp.regAnyG (hT : TOk P T) (hW : TWf T) (hm : P.follows .mixedOrders = true) {id : Nat} {Q : LX → Env → Obs → Prop} {env : Env} {H : Obs} (cl hide wr : Nat → List Nat) (hA : anyChk l cl hide wr = true) {ι : Type} {orcs : ι → Nat → Option Orc} {Φ : ι → Prop} {d0 : Nat} (G : Guess orcs Φ d0) (i0 : ι) (h0 : Φ i0)
    (hc1 : ∀ (i j : Nat) (o o' : Oper), l[i]? = some o → l[j]? = some o' → o.dst.getD 0 = d0 → o'.dst.getD 0 = d0 → i = j)
    (h : ∀ i, Φ i → (runM P T N l (orcs i) hide wr ⟨env, H, True⟩).ok ∧ Q .normal (runM P T N l (orcs i) hide wr ⟨env, H, True⟩).env (runM P T N l (orcs i) hide wr ⟨env, H, True⟩).H) :
    LWp P N w0 X (.region id l.toArray true) Q env H := LWp.regAnyA hT hW hm cl hide wr hA (G.all hc1) i0 h0 h
theorem LWp.regAny (hT : TOk P T) (hW : TWf T) (hm : P.follows .mixedOrders = true) {id : Nat} {Q : LX → Env → Obs → Prop} {env : Env} {H : Obs} (cl hide wr : Nat → List Nat) (hA : anyChk l cl hide wr = true) (orc : Nat → Option Orc) (hdet : ∀ d, DetS (orc d))
    (h : (runM P T N l orc hide wr ⟨env, H, True⟩).ok ∧ Q .normal (runM P T N l orc hide wr ⟨env, H, True⟩).env (runM P T N l orc hide wr ⟨env, H, True⟩).H) :
    LWp P N w0 X (.region id l.toArray true) Q env H := by
  -- a slot that no operation writes
  obtain ⟨d0, hd0⟩ := slot_top l
  exact LWp.regAnyG hT hW hm cl hide wr hA (ι := Unit) (orcs := fun _ => orc) (Φ := fun _ => True) (d0 := d0) ⟨fun _ _ _ _ _ _ => rfl, fun _ _ d _ => hdet d, fun _ _ => (hdet _).1, fun _ _ r' hr => ⟨(), trivial, ((hdet _).2 r' hr).symm⟩⟩ () trivial
    (fun i j o o' h1 h2 h3 _ => absurd h3 (Nat.ne_of_lt (hd0 o (List.mem_of_getElem? h1)))) fun _ _ => h
end
end
end Go.Eng
namespace Go.Eng
open Go.RowKit
def lk (l : List (List Nat)) (j : Nat) : List Nat := l.getD j []
section
variable {P : Program} {T : TypeId → TyI} {N : Nat} {w0 : Base} {X : Nat → Prop} {Q : LX → Env → Obs → Prop} {env env' env'' : Env} {H H' H'' : Obs}
def condQ (l : LV) (A B : Prop) : Prop := match l with
  | .d (.bool b) => (b = true → A) ∧ (b = false → B)
  | _ => False
theorem condQ_bool {b : Bool} {A B : Prop} : condQ (.d (.bool b)) A B ↔ (b = true → A) ∧ (b = false → B) := Iff.rfl
theorem LWp.iff {c : Operand} {x y : Code} (h : condQ (opLV env c) (LWp P N w0 X x Q env H) (LWp P N w0 X y Q env H)) : LWp P N w0 X (.cond c x y) Q env H := by
  unfold condQ at h
  split at h
  · rename_i b e
    exact .cond e h.1 h.2
  · exact h.elim
theorem Weak.to (keep : List Nat) (σ : List (Nat × Nat)) (hσ : (σ.map (·.2)).Nodup) (hσ1 : (σ.map (·.1)).Nodup) (hpin : ∀ id ∈ w0.pins, lookN σ id = some id) (hE : mkEnv (keep.map fun t => (t, ren σ 8 (env t))) = env') (hH : mkObs (σ.map fun p => (p.2, renO σ (H p.1))) = H') : Weak w0 env H env' H' := by
  subst hE; subst hH
  exact Weak.shrink keep σ hσ hσ1 hpin
def loopQ (w0 : Base) {ι : Type} (E : ι → Env) (O : ι → Obs) (I : ι → Prop) (μ : ι → Nat) (i : ι) (env' : Env) (H' : Obs) : Prop := ∃ j, Weak w0 env' H' (E j) (O j) ∧ I j ∧ μ j < μ i
theorem loopQ.mk {ι : Type} {E : ι → Env} {O : ι → Obs} {I : ι → Prop} {μ : ι → Nat} {i : ι} (j : ι) (hw : Weak w0 env H (E j) (O j)) (hI : I j) (hμ : μ j < μ i) : loopQ w0 E O I μ i env H := ⟨j, hw, hI, hμ⟩
def retQ (t : Nat) (fresh : Bool) (r : RV) (x : LX) (env : Env) (H : Obs) : Prop := (match x with | .exit _ => False | _ => True) ∧ RetIs H fresh (env t) r
def retQ2 (t u : Nat) (fresh : Bool) (r : RV) (y : DV) (x : LX) (env : Env) (H : Obs) : Prop := (match x with | .exit _ => False | _ => True) ∧ RetIs H fresh (env t) r ∧ RetIs H fresh (env u) (.d y)
theorem retQ_ret {t : Nat} {fresh : Bool} {r : RV} : retQ t fresh r .ret env H ↔ RetIs H fresh (env t) r := by simp [retQ]
theorem retQ2_ret {t u : Nat} {fresh : Bool} {r : RV} {y : DV} : retQ2 t u fresh r y .ret env H ↔ RetIs H fresh (env t) r ∧ RetIs H fresh (env u) (.d y) := by simp [retQ2]
theorem LWp.loopW {c : Code} {ι : Type} (E : ι → Env) (O : ι → Obs) (I : ι → Prop) (μ : ι → Nat) (i : ι) (he : Weak w0 env H (E i) (O i)) (h0 : I i)
    (round : ∀ i, I i → LWp P N w0 X c (seqQ (loopQ w0 E O I μ i) Q) (E i) (O i)) : LWp P N w0 X (.loop c) Q env H := by
  refine LWp.weak he ?_
  intro β a w s
  have key : ∀ n i, μ i = n → I i → ∀ β a w, Sim N w0 X (E i) (O i) β a w → (Code.loop c).wp P (fun e a' w' => ∃ x env' H' β', exitIs e x ∧ Sim N w0 X env' H' β' a' w' ∧ Q x env' H') a w := by
    intro n i hn hI β a w s
    refine wp_loop_rel (fun n a w => ∃ i β, μ i = n ∧ I i ∧ Sim N w0 X (E i) (O i) β a w) n ⟨i, β, hn, hI, s⟩ fun n' a' w' ⟨i', β', h1, h2, h3⟩ => ?_
    refine wp_mono (round i' h2 β' a' w' h3) ?_
    rintro e a2 w2 ⟨lx, env', H', β2, g1, g2, g3⟩
    cases e <;> cases lx <;> simp only [exitIs] at g1
    · obtain ⟨j, e1, e3, e4⟩ := g3
      obtain ⟨β3, s3⟩ := e1 _ _ _ _ _ g2
      exact ⟨μ j, by omega, j, β3, rfl, e3, s3⟩
    · subst g1; exact ⟨.exit _, env', H', β2, rfl, g2, g3⟩
    · exact ⟨.ret, env', H', β2, trivial, g2, g3⟩
  exact key _ i rfl h0 β a w s
theorem RVok.anti {w w' : World} {E E' : Nat → Prop} (hE : ∀ k, E' k → E k) {B : Option Nat} {r : RV} {v : Value} (h : RVok w w' E B r v) : RVok w w' E' B r v := by
  cases r with
  | d x => exact RD.anti hE h
  | own s xs =>
    obtain ⟨h1, h2, h3⟩ := h
    refine ⟨h1, h2, ?_⟩
    rcases h3 with h3 | ⟨b, c, cur, e, g1, g2, g3, g4, g5, g6, g7, g8⟩
    · exact .inl h3
    · exact .inr ⟨b, c, cur, e, g1, g2, g3, g4, g5, g6, g7, fun i d v hd hv => ⟨(g8 i d v hd hv).1, (g8 i d v hd hv).2.anti hE⟩⟩
  | tup _ => exact h
theorem Ok.two {f : FuncId} {fn : Func} {c : Code} {args : List DV} {r1 : RV} {y : DV} {fresh : Bool} {n t u : Nat} (hf : P.funcs[f]? = some fn) (hname : (fn.name == "runtime.NumGoroutine") = false) (hb : fn.body = some c) (hn : fn.ntmps = n) (hargs : args.length ≤ n) (hres : fn.results = #[.tmp t, .tmp u])
    (hy : memless y = true) (h : ∀ w0 X, w0.pins = [] → LWp P n w0 X c (retQ2 t u fresh r1 y) (argsEnv args) (mkObs [])) : Ok P f args ⟨.tup [r1, .d y], fresh⟩ := by
  refine Ok.of_body hf hname hb hn hargs fun w0 X hpn => (h w0 X hpn).mono fun x env H ⟨h1, h2, h3⟩ => ⟨h1, fun β a w s => ⟨_, results_tmp2 hres _ _ _, ?_⟩⟩
  obtain ⟨B, hB⟩ := ret_one hpn s (s.env t) h2
  obtain ⟨B', hB'⟩ := ret_one hpn s (s.env u) h3
  refine ⟨[a.tmps.getD t undef, a.tmps.getD u undef], fun i => if i = 0 then B else none, rfl, rfl, fun i j b hi hj => ?_, fun i r v hr hv => ?_⟩
  · simp only at hi hj
    by_cases h1 : i = 0
    · by_cases h2 : j = 0
      · omega
      · rw [if_neg h2] at hj; cases hj
    · rw [if_neg h1] at hi; cases hi
  · match i, hr, hv with
    | 0, hr, hv =>
      injection hr with hr; injection hv with hv
      subst hr; subst hv
      simp only [if_pos]
      refine RVok.anti (fun k hk => ?_) hB
      rcases hk with hk | ⟨j, hj⟩
      · exact .inl hk
      · by_cases h2 : j = 0
        · rw [if_pos h2] at hj; exact .inr hj
        · rw [if_neg h2] at hj; cases hj
    | 1, hr, hv =>
      injection hr with hr; injection hv with hv
      subst hr; subst hv
      simp only [RVok] at hB' ⊢
      exact hB'.memless hy
theorem Ok.ret {f : FuncId} {fn : Func} {c : Code} {args : List DV} {r : RV} {fresh : Bool} {n t : Nat} (hf : P.funcs[f]? = some fn) (hname : (fn.name == "runtime.NumGoroutine") = false) (hb : fn.body = some c) (hn : fn.ntmps = n) (hargs : args.length ≤ n) (hres : fn.results = #[.tmp t])
    (hrt : ∀ rs, r ≠ .tup rs) (h : ∀ w0 X, w0.pins = [] → LWp P n w0 X c (retQ t fresh r) (argsEnv args) (mkObs [])) : Ok P f args ⟨r, fresh⟩ := Ok.one hf hname hb hn hargs hres hrt h
def loadR (T : TypeId → TyI) (H : Obs) (ty : TypeId) (l : LV) : Res := match l with
  | .bx id 0 => match H id with
    | .box _ cs => .cond (takeL (T ty).k.agg (T ty).size 0 cs) ((T ty).k.isNone = false ∧ (T ty).size ≤ cs.length ∧ ((T ty).k.agg = false → (T ty).size = 1))
    | _ => .fail
  | _ => .fail
theorem loadR_sound (hT : TOk P T) {β : Nat → Option Nat} {a : Act} {w : World} (s : Sim N w0 X env H β a w) {t : Nat} {ty : TypeId} (hok : (loadR T H ty (env t)).ok) :
    ∃ v, (((asAddr (a.tmps.getD t undef)).run P w).andThen fun a w => (loadVar ty a).run P w) = .ok v w ∧ R w (Ex X β H) β H (loadR T H ty (env t)).v v := by
  have hx := s.env t
  generalize env t = l at *
  unfold loadR at *
  split at hok
  · rename_i id
    split at hok
    · rename_i fz cs hH
      simp only [Res.cond] at hok ⊢
      obtain ⟨ht, hle, hs⟩ := hok
      have hob := s.obj id
      simp only [ObjR, hH] at hob
      obtain ⟨b, e, us, hb, hblk, hlen, h1, hp⟩ := hob
      generalize hval : a.tmps.getD t undef = vx at hx
      cases hx with
      | bx _ _ b' _ _ _ hb' =>
        rw [hb] at hb'; injection hb' with hb'; subst hb'
        have := run_loadVar (P := P) (w := w) (b := b) (off := 0) (us := (us.drop 0).take (T ty).size) hT ht (by simp; omega) hs (fun j u hu => by
          rw [cell_of_row w b _ us.toArray e (0, 0) hblk]
          rw [List.getElem?_take] at hu
          split at hu
          · simpa using hu
          · cases hu)
        refine ⟨_, ?_, takeL_R hlen.symm h1 (by omega) hs hp⟩
        simp only [asAddr, Sem.run_pure, Result.andThen_ok, this]
      | bxdead _ _ _ hd => rw [hH] at hd; cases hd
    · exact hok.elim
  · exact hok.elim
def retC (T : TypeId → TyI) (t : Nat) (ty : TypeId) (fresh : Bool) (r : RV) (x : LX) (env : Env) (H : Obs) : Prop := (match x with | .exit _ => False | _ => True) ∧ (loadR T H ty (env t)).ok ∧ RetIs H fresh (loadR T H ty (env t)).v r
theorem retC_ret {T : TypeId → TyI} {t : Nat} {ty : TypeId} {fresh : Bool} {r : RV} : retC T t ty fresh r .ret env H ↔ (loadR T H ty (env t)).ok ∧ RetIs H fresh (loadR T H ty (env t)).v r := by simp [retC]
theorem Ok.cell (hT : TOk P T) {f : FuncId} {fn : Func} {c : Code} {args : List DV} {r : RV} {fresh : Bool} {n t : Nat} {ty : TypeId} (hf : P.funcs[f]? = some fn) (hname : (fn.name == "runtime.NumGoroutine") = false) (hb : fn.body = some c) (hn : fn.ntmps = n) (hargs : args.length ≤ n) (hres : fn.results = #[.cell t ty])
    (hrt : ∀ rs, r ≠ .tup rs) (h : ∀ w0 X, w0.pins = [] → LWp P n w0 X c (retC T t ty fresh r) (argsEnv args) (mkObs [])) : Ok P f args ⟨r, fresh⟩ := by
  refine Ok.of_body hf hname hb hn hargs fun w0 X hpn => (h w0 X hpn).mono fun x env H ⟨h1, h2, h3⟩ => ⟨h1, fun β a w s => ?_⟩
  obtain ⟨v, hv, hr⟩ := loadR_sound hT s h2
  refine ⟨v, ?_, ?_⟩
  · simp only [results, hres]
    simpa [Sem.run_bind, Result.andThen] using hv
  obtain ⟨B, hB⟩ := ret_one hpn s hr h3
  cases q : r with
  | tup rs => exact absurd q (hrt rs)
  | d x => rw [q] at hB; exact ⟨B, hB⟩
  | own sz xs => rw [q] at hB; exact ⟨B, hB⟩
section
variable {n k off id j m c : Nat} {cs : List LV} {f : FuncId} {x : DV} {σ : List (Nat × Nat)} {l : List (Nat × LV)} {lo : List (Nat × LObj)}
theorem mkEnv_at : mkEnv l j = lookL l j := rfl
theorem mkObs_at : mkObs lo j = lookH lo j := rfl
theorem close_d : close H (n + 1) (.d x) = some x := rfl
theorem close_agg : close H (n + 1) (.agg cs) = (optAll (cs.map (close H n))).map .agg := rfl
theorem close_oc : close H (n + 1) (.oc id k m c) = match H id with | .row _ _ xs => some (.sl ((xs.drop k).take m)) | _ => none := rfl
theorem close_ow : close H (n + 1) (.ow id k m) = match H id with | .row _ _ xs => some (.sl ((xs.drop k).take m)) | _ => none := rfl
theorem close_bx : close H (n + 1) (.bx id off) = match H id with | .box _ cs => (optAll ((cs.drop off).map (close H n))).map .ro | _ => none := rfl
theorem close_fn : close H (n + 1) (.fn f cs) = (optAll (cs.map (close H n))).map (.fn f) := rfl
theorem close_bm : close H (n + 1) (.bm f cs) = (optAll (cs.map (close H n))).map (.bm f) := rfl
theorem close_mp : close H (n + 1) (.mp id) = match H id with | .map _ ks vs => some (.mp ks vs) | _ => none := rfl
theorem touch_mp : touch H (n + 1) (.mp id) = [id] := rfl
theorem ren_mp : ren σ (n + 1) (.mp id) = match lookN σ id with | some j => .mp j | none => .junk := rfl
theorem close_nl : close H (n + 1) .nl = some (.sl []) := rfl
theorem touch_d : touch H (n + 1) (.d x) = [] := rfl
theorem touch_agg : touch H (n + 1) (.agg cs) = cs.flatMap (touch H n) := rfl
theorem touch_oc : touch H (n + 1) (.oc id k m c) = [id] := rfl
theorem touch_ow : touch H (n + 1) (.ow id k m) = [id] := rfl
theorem touch_bx : touch H (n + 1) (.bx id off) = match H id with | .box _ cs => id :: (cs.drop off).flatMap (touch H n) | _ => [] := rfl
theorem touch_fn : touch H (n + 1) (.fn f cs) = cs.flatMap (touch H n) := rfl
theorem touch_bm : touch H (n + 1) (.bm f cs) = cs.flatMap (touch H n) := rfl
theorem touch_nl : touch H (n + 1) .nl = [] := rfl
theorem ren_d : ren σ (n + 1) (.d x) = .d x := rfl
theorem ren_agg : ren σ (n + 1) (.agg cs) = .agg (cs.map (ren σ n)) := rfl
theorem ren_bx : ren σ (n + 1) (.bx id off) = match lookN σ id with | some j => .bx j off | none => .junk := rfl
theorem ren_rp : ren σ (n + 1) (.rp id k j) = match lookN σ id with | some i => .rp i k j | none => .junk := rfl
theorem ren_oc : ren σ (n + 1) (.oc id k m c) = match lookN σ id with | some i => .oc i k m c | none => .junk := rfl
theorem ren_ow : ren σ (n + 1) (.ow id k m) = match lookN σ id with | some i => .ow i k m | none => .junk := rfl
theorem ren_fn : ren σ (n + 1) (.fn f cs) = .fn f (cs.map (ren σ n)) := rfl
theorem ren_bm : ren σ (n + 1) (.bm f cs) = .bm f (cs.map (ren σ n)) := rfl
theorem ren_nl : ren σ (n + 1) .nl = .nl := rfl
theorem ren_junk : ren σ (n + 1) .junk = .junk := rfl
theorem cellsD_agg {cs : List DV} : cellsD (.agg cs) = cs := rfl
theorem cellsD_int {k : IntKind} {i : Int} : cellsD (.int k i) = [.int k i] := rfl
theorem cellsD_bool {b : Bool} : cellsD (.bool b) = [.bool b] := rfl
theorem cellsD_str {s : List UInt8} : cellsD (.str s) = [.str s] := rfl
theorem cellsD_sl {xs : List DV} : cellsD (.sl xs) = [.sl xs] := rfl
theorem cellsD_ro {xs : List DV} : cellsD (.ro xs) = [.ro xs] := rfl
theorem cellsD_fn {xs : List DV} : cellsD (.fn f xs) = [.fn f xs] := rfl
theorem cellsD_bm {xs : List DV} : cellsD (.bm f xs) = [.bm f xs] := rfl
theorem cellsL_agg : cellsL (.agg cs) = cs := rfl
theorem cellsL_dagg {cs : List DV} : cellsL (.d (.agg cs)) = cs.map .d := rfl
theorem cellsL_int {k : IntKind} {i : Int} : cellsL (.d (.int k i)) = [.d (.int k i)] := rfl
theorem cellsL_bool {b : Bool} : cellsL (.d (.bool b)) = [.d (.bool b)] := rfl
theorem cellsL_str {s : List UInt8} : cellsL (.d (.str s)) = [.d (.str s)] := rfl
theorem cellsL_sl {xs : List DV} : cellsL (.d (.sl xs)) = [.d (.sl xs)] := rfl
theorem cellsL_fn {xs : List DV} : cellsL (.d (.fn f xs)) = [.d (.fn f xs)] := rfl
theorem cellsL_bm {xs : List DV} : cellsL (.d (.bm f xs)) = [.d (.bm f xs)] := rfl
theorem cellsL_oc : cellsL (.oc id k m c) = [.oc id k m c] := rfl
theorem cellsL_ow : cellsL (.ow id k m) = [.ow id k m] := rfl
theorem cellsL_bx : cellsL (.bx id off) = [.bx id off] := rfl
theorem cellsL_lfn : cellsL (.fn f cs) = [.fn f cs] := rfl
theorem cellsL_lbm : cellsL (.bm f cs) = [.bm f cs] := rfl
theorem cellsL_mp : cellsL (.mp id) = [.mp id] := rfl
theorem cellsD_mp {ks vs : List DV} : cellsD (.mp ks vs) = [.mp ks vs] := rfl
theorem cellsL_dmp {ks vs : List DV} : cellsL (.d (.mp ks vs)) = [.d (.mp ks vs)] := rfl
theorem cellsL_nl : cellsL .nl = [.nl] := rfl
end
end
end Go.Eng
namespace Go.Eng
open Go.RowKit
section
variable {P : Program} {T : TypeId → TyI} {N : Nat} {w0 : Base} {X : Nat → Prop} {Q : LX → Env → Obs → Prop} {env env' env'' : Env} {H H' H'' : Obs}
def lenv (args : List LV) : Env := mkEnv ((args.zipIdx).map fun p => (p.2, p.1))
theorem lenv_get (args : List LV) (t : Nat) : lenv args t = (args[t]?).getD .junk := by
  have key : ∀ (l : List LV) (k t : Nat), lookL ((l.zipIdx k).map fun p => (p.2, p.1)) (k + t) = (l[t]?).getD .junk := by
    intro l
    induction l with
    | nil => intro k t; simp [lookL]
    | cons x r ih =>
      intro k t
      simp only [List.zipIdx_cons, List.map_cons, lookL]
      cases t with
      | zero => simp
      | succ t =>
        rw [if_neg (by omega)]
        have := ih (k + 1) t
        rw [show k + 1 + t = k + (t + 1) by omega] at this
        rw [this]; simp
  have := key args 0 t
  rw [Nat.zero_add] at this
  exact this
theorem OkG.of_body {f : FuncId} {fn : Func} {c : Code} {args : List LV} {h fin : List (Nat × LObj)} {ret : LV} {n : Nat} (hf : P.funcs[f]? = some fn) (hname : (fn.name == "runtime.NumGoroutine") = false) (hb : fn.body = some c) (hn : fn.ntmps = n) (hargs : args.length ≤ n)
    (hw : ∀ w0 X, w0.pins = h.map (·.1) → LWp P n w0 X c (fun x env H => (match x with | .exit _ => False | _ => True) ∧ ∀ β a w, Sim n w0 X env H β a w → ∃ v β', (results fn a.tmps).run P w = .ok v w ∧ Mem w0 X (mkObs fin) β' w ∧ R w (Ex X β' (mkObs fin)) β' (mkObs fin) ret v) (lenv args) (mkObs h)) :
    OkG P f args h fin ret := by
  refine ⟨⟨fn, hf, hname, by rw [hb]; rfl⟩, fun w X β vs m hvl hr => ?_⟩
  refine calls_of_wp hf hb (wp_mono (hw ⟨w, β, mkObs h, h.map (·.1)⟩ X rfl β ⟨vs.toArray ++ Array.replicate (fn.ntmps - vs.toArray.size) undef, []⟩ w ?_) ?_)
  · refine ⟨rfl, ?_, m.ext, m.xold, m.fresh, m.inj, fun t => ?_, m.obj, m.pin⟩
    · simp; omega
    · rw [lenv_get]
      cases q : args[t]? with
      | none => exact .junk _
      | some x =>
        have ht : t < vs.length := by rw [hvl]; exact (List.getElem?_eq_some_iff.1 q).1
        have hv : (vs.toArray ++ Array.replicate (fn.ntmps - vs.toArray.size) undef).getD t undef = vs[t] := by
          simp [Array.getD_eq_getD_getElem?, Array.getElem?_append_left, ht]
        rw [hv]
        exact hr t x _ q (List.getElem?_eq_getElem ht)
  · rintro e a' w' ⟨x, env, H, β1, h1, s, h2, h3⟩
    obtain ⟨v, β', hv1, hv2, hv3⟩ := h3 β1 a' w' s
    cases e <;> cases x <;> simp only [exitIs] at h1
    · exact ⟨s.defers, v, hv1, v, β', rfl, hv2, hv3⟩
    · exact h2.elim
    · exact ⟨s.defers, v, hv1, v, β', rfl, hv2, hv3⟩
theorem OkGR.of_body {f : FuncId} {fn : Func} {c : Code} {args : List LV} {h : List (Nat × LObj)} {Rel : List (Nat × LObj) → LV → Prop} {n : Nat} (hf : P.funcs[f]? = some fn) (hname : (fn.name == "runtime.NumGoroutine") = false) (hb : fn.body = some c) (hn : fn.ntmps = n) (hargs : args.length ≤ n)
    (hw : ∀ w0 X, w0.pins = h.map (·.1) → LWp P n w0 X c (fun x env H => (match x with | .exit _ => False | _ => True) ∧ ∀ β a w, Sim n w0 X env H β a w → ∃ v β' fin ret, Rel fin ret ∧ (results fn a.tmps).run P w = .ok v w ∧ Mem w0 X (mkObs fin) β' w ∧ R w (Ex X β' (mkObs fin)) β' (mkObs fin) ret v) (lenv args) (mkObs h)) :
    OkGR P f args h Rel := by
  refine ⟨⟨fn, hf, hname, by rw [hb]; rfl⟩, fun w X β vs m hvl hr => ?_⟩
  refine calls_of_wp hf hb (wp_mono (hw ⟨w, β, mkObs h, h.map (·.1)⟩ X rfl β ⟨vs.toArray ++ Array.replicate (fn.ntmps - vs.toArray.size) undef, []⟩ w ?_) ?_)
  · refine ⟨rfl, ?_, m.ext, m.xold, m.fresh, m.inj, fun t => ?_, m.obj, m.pin⟩
    · simp; omega
    · rw [lenv_get]
      cases q : args[t]? with
      | none => exact .junk _
      | some x =>
        have ht : t < vs.length := by rw [hvl]; exact (List.getElem?_eq_some_iff.1 q).1
        have hv : (vs.toArray ++ Array.replicate (fn.ntmps - vs.toArray.size) undef).getD t undef = vs[t] := by
          simp [Array.getD_eq_getD_getElem?, Array.getElem?_append_left, ht]
        rw [hv]
        exact hr t x _ q (List.getElem?_eq_getElem ht)
  · rintro e a' w' ⟨x, env, H, β1, h1, s, h2, h3⟩
    obtain ⟨v, β', fin, ret, hrel, hv1, hv2, hv3⟩ := h3 β1 a' w' s
    cases e <;> cases x <;> simp only [exitIs] at h1
    · exact ⟨s.defers, v, hv1, v, β', fin, ret, hrel, rfl, hv2, hv3⟩
    · exact h2.elim
    · exact ⟨s.defers, v, hv1, v, β', fin, ret, hrel, rfl, hv2, hv3⟩
def retG0 (w0 : Base) (fin : List (Nat × LObj)) (x : LX) (env : Env) (H : Obs) : Prop := (match x with | .exit _ => False | _ => True) ∧ Weak w0 env H (mkEnv []) (mkObs fin)
def retG1 (w0 : Base) (t : Nat) (fin : List (Nat × LObj)) (ret : LV) (x : LX) (env : Env) (H : Obs) : Prop := (match x with | .exit _ => False | _ => True) ∧ Weak w0 env H (mkEnv [(t, ret)]) (mkObs fin)
theorem retG0_ret {fin : List (Nat × LObj)} : retG0 w0 fin .ret env H ↔ Weak w0 env H (mkEnv []) (mkObs fin) := by simp [retG0]
theorem retG0_normal {fin : List (Nat × LObj)} : retG0 w0 fin .normal env H ↔ Weak w0 env H (mkEnv []) (mkObs fin) := by simp [retG0]
theorem retG1_ret {t : Nat} {fin : List (Nat × LObj)} {ret : LV} : retG1 w0 t fin ret .ret env H ↔ Weak w0 env H (mkEnv [(t, ret)]) (mkObs fin) := by simp [retG1]
theorem OkG.unit {f : FuncId} {fn : Func} {c : Code} {args : List LV} {h fin : List (Nat × LObj)} {n : Nat} (hf : P.funcs[f]? = some fn) (hname : (fn.name == "runtime.NumGoroutine") = false) (hb : fn.body = some c) (hn : fn.ntmps = n) (hargs : args.length ≤ n) (hres : fn.results = #[])
    (hw : ∀ w0 X, w0.pins = h.map (·.1) → LWp P n w0 X c (retG0 w0 fin) (lenv args) (mkObs h)) : OkG P f args h fin (.tup []) :=
  OkG.of_body hf hname hb hn hargs fun w0 X hp => (hw w0 X hp).mono fun x env H ⟨h1, h2⟩ => ⟨h1, fun β a w s => by
    obtain ⟨β', s'⟩ := h2 _ _ _ _ _ s
    exact ⟨.tuple #[], β', results_none hres _ _ _, s'.mem, .tup [] [] rfl (by simp)⟩⟩
theorem OkG.one {f : FuncId} {fn : Func} {c : Code} {args : List LV} {h fin : List (Nat × LObj)} {ret : LV} {n t : Nat} (hf : P.funcs[f]? = some fn) (hname : (fn.name == "runtime.NumGoroutine") = false) (hb : fn.body = some c) (hn : fn.ntmps = n) (hargs : args.length ≤ n) (hres : fn.results = #[.tmp t])
    (hw : ∀ w0 X, w0.pins = h.map (·.1) → LWp P n w0 X c (retG1 w0 t fin ret) (lenv args) (mkObs h)) : OkG P f args h fin ret :=
  OkG.of_body hf hname hb hn hargs fun w0 X hp => (hw w0 X hp).mono fun x env H ⟨h1, h2⟩ => ⟨h1, fun β a w s => by
    obtain ⟨β', s'⟩ := h2 _ _ _ _ _ s
    have := s'.env t
    rw [show mkEnv [(t, ret)] t = ret by simp [mkEnv, lookL]] at this
    exact ⟨_, β', results_tmp hres _ _ _, s'.mem, this⟩⟩
def retGR (w0 : Base) (t : Nat) (Rel : List (Nat × LObj) → LV → Prop) (x : LX) (env : Env) (H : Obs) : Prop := (match x with | .exit _ => False | _ => True) ∧ ∃ fin ret, Rel fin ret ∧ Weak w0 env H (mkEnv [(t, ret)]) (mkObs fin)
theorem retGR_ret {t : Nat} {Rel : List (Nat × LObj) → LV → Prop} : retGR w0 t Rel .ret env H ↔ ∃ fin ret, Rel fin ret ∧ Weak w0 env H (mkEnv [(t, ret)]) (mkObs fin) := by simp [retGR]
theorem OkGR.one {f : FuncId} {fn : Func} {c : Code} {args : List LV} {h : List (Nat × LObj)} {Rel : List (Nat × LObj) → LV → Prop} {n t : Nat} (hf : P.funcs[f]? = some fn) (hname : (fn.name == "runtime.NumGoroutine") = false) (hb : fn.body = some c) (hn : fn.ntmps = n) (hargs : args.length ≤ n) (hres : fn.results = #[.tmp t])
    (hw : ∀ w0 X, w0.pins = h.map (·.1) → LWp P n w0 X c (retGR w0 t Rel) (lenv args) (mkObs h)) : OkGR P f args h Rel :=
  OkGR.of_body hf hname hb hn hargs fun w0 X hp => (hw w0 X hp).mono fun x env H ⟨h1, fin, ret, hr, h2⟩ => ⟨h1, fun β a w s => by
    obtain ⟨β', s'⟩ := h2 _ _ _ _ _ s
    have := s'.env t
    rw [show mkEnv [(t, ret)] t = ret by simp [mkEnv, lookL]] at this
    exact ⟨_, β', fin, ret, hr, results_tmp hres _ _ _, s'.mem, this⟩⟩
theorem optAll_d {n : Nat} : ∀ {cs : List DV}, optAll (List.map (close H (n + 1) ∘ LV.d) cs) = some cs
  | [] => rfl
  | c :: cs => by
    have ih := optAll_d (n := n) (cs := cs)
    simp only [List.map_cons, Function.comp, close_d, optAll] at ih ⊢
    rw [ih]; rfl
theorem optAll_d' {n : Nat} {cs : List DV} : optAll (List.map (close H (n + 1)) (List.map LV.d cs)) = some cs := by rw [List.map_map]; exact optAll_d
theorem touch_ds {n : Nat} {cs : List DV} : (List.map LV.d cs).flatMap (touch H (n + 1)) = [] := by
  induction cs with
  | nil => rfl
  | cons c cs ih => simp only [List.map_cons, List.flatMap_cons, touch_d, List.nil_append]; exact ih
end
end Go.Eng
namespace Go.Eng
open Go.RowKit
section
variable {P : Program} {T : TypeId → TyI} {N : Nat} {w0 : Base} {X : Nat → Prop} {env : Env} {H : Obs}
def rvarL (T : TypeId → TyI) (env : Env) (H : Obs) : ResultVar → Res
  | .tmp t => .plain (env t)
  | .cell t ty => loadR T H ty (env t)
def retsQ (T : TypeId → TyI) (fresh : Bool) (env : Env) (H : Obs) : List ResultVar → List RV → Prop
  | [], [] => True
  | r :: rs, x :: xs => (rvarL T env H r).ok ∧ RetIs H fresh (rvarL T env H r).v x ∧ retsQ T fresh env H rs xs
  | _, _ => False
def retN (T : TypeId → TyI) (l : List ResultVar) (fresh : Bool) (rs : List RV) (x : LX) (env : Env) (H : Obs) : Prop := (match x with | .exit _ => False | _ => True) ∧ retsQ T fresh env H l rs
theorem retN_ret {l : List ResultVar} {fresh : Bool} {rs : List RV} : retN T l fresh rs .ret env H ↔ retsQ T fresh env H l rs := by simp [retN]
def rvRun (tmps : Array Value) : ResultVar → Sem Value
  | .tmp t => pure (tmps.getD t undef)
  | .cell b t => do loadVar t (← asAddr (tmps.getD b undef))
theorem retsQ_run (hT : TOk P T) {β : Nat → Option Nat} {a : Act} {w : World} {fresh : Bool} (s : Sim N w0 X env H β a w) : ∀ (l : List ResultVar) (rs : List RV), retsQ T fresh env H l rs →
    ∃ vs : List Value, vs.length = rs.length ∧ (l.mapM (rvRun a.tmps)).run P w = .ok vs w ∧
      ∀ (i : Nat) (r : RV) (v : Value), rs[i]? = some r → vs[i]? = some v → ∃ x, R w (Ex X β H) β H x v ∧ RetIs H fresh x r
  | [], [], _ => ⟨[], rfl, by simp, by simp⟩
  | [], _ :: _, h => h.elim
  | _ :: _, [], h => h.elim
  | r :: l, x :: rs, h => by
    obtain ⟨h1, h2, h3⟩ := h
    obtain ⟨vs, hl, hr, hp⟩ := retsQ_run hT s l rs h3
    have one : ∃ v, (rvRun a.tmps r).run P w = .ok v w ∧ R w (Ex X β H) β H (rvarL T env H r).v v := by
      cases r with
      | tmp t => exact ⟨_, by simp [rvRun], s.env t⟩
      | cell t ty =>
        obtain ⟨v, hv, hr⟩ := loadR_sound hT s h1
        exact ⟨v, by simpa [rvRun, Sem.run_bind, Result.andThen] using hv, hr⟩
    obtain ⟨v, hv, hv2⟩ := one
    refine ⟨v :: vs, by simp [hl], ?_, ?_⟩
    · rw [List.mapM_cons]
      simp only [Sem.run_bind, hv, Result.andThen_ok, hr, Sem.run_pure]
    · intro i r' u hr' hu
      cases i with
      | zero => simp at hr' hu; subst hr'; subst hu; exact ⟨_, hv2, h2⟩
      | succ i => simp at hr' hu; exact hp i r' u hr' hu
def RV.isD : RV → Bool
  | .d _ => true
  | _ => false
def RV.isM : RV → Bool
  | .d y => memless y
  | _ => false
def resOk (rs : List RV) : Bool := rs.all RV.isD || rs.tail.all RV.isM
theorem RV.isD_d {r : RV} (h : r.isD = true) : ∃ y, r = .d y := by cases r <;> first | exact ⟨_, rfl⟩ | cases h
theorem RV.isM_d {r : RV} (h : r.isM = true) : ∃ y, r = .d y ∧ memless y = true := by cases r <;> first | exact ⟨_, rfl, h⟩ | cases h
theorem Ok.many (hT : TOk P T) {f : FuncId} {fn : Func} {c : Code} {args : List DV} {rs : List RV} {l : List ResultVar} {fresh : Bool} {n : Nat} (hf : P.funcs[f]? = some fn) (hname : (fn.name == "runtime.NumGoroutine") = false) (hb : fn.body = some c) (hn : fn.ntmps = n) (hargs : args.length ≤ n) (hres : fn.results = l.toArray)
    (hl : 2 ≤ rs.length) (hb' : resOk rs = true)
    (h : ∀ w0 X, w0.pins = [] → LWp P n w0 X c (retN T l fresh rs) (argsEnv args) (mkObs [])) : Ok P f args ⟨.tup rs, fresh⟩ := by
  have hx : (∀ x ∈ rs, ∃ y, x = .d y) ∨ ∃ r1 rest, rs = r1 :: rest ∧ ∀ x ∈ rest, ∃ y, x = .d y ∧ memless y = true := by
    unfold resOk at hb'
    rcases Bool.or_eq_true_iff.1 hb' with h1 | h1
    · exact .inl fun x hx => RV.isD_d (List.all_eq_true.1 h1 x hx)
    · cases rs with
      | nil => simp at hl
      | cons r1 rest => exact .inr ⟨r1, rest, rfl, fun x hx => RV.isM_d (List.all_eq_true.1 h1 x hx)⟩
  refine Ok.of_body hf hname hb hn hargs fun w0 X hpn => (h w0 X hpn).mono fun x env H ⟨h1, h2⟩ => ⟨h1, fun β a w s => ?_⟩
  obtain ⟨vs, hvl, hrun, hp⟩ := retsQ_run hT s l rs h2
  refine ⟨.tuple vs.toArray, ?_, ?_⟩
  · simp only [results, hres, List.mapM_toArray, map_eq_pure_bind, Sem.run_bind, Sem.run_pure]
    change ((((l.mapM (rvRun a.tmps)).run P w).andThen _).andThen _) = _
    rw [hrun]
    simp only [Result.andThen_ok]
    rw [dif_neg (by simp; omega)]
  · have hret : ∀ (i : Nat) (r : RV) (v : Value), rs[i]? = some r → vs[i]? = some v → ∃ B : Option Nat, RVok w0.w w (fun k => (X k ∨ fresh = true ∧ k < w0.w.heap.size) ∨ B = some k) B r v := fun i r v hr hv => by
      obtain ⟨x, hx1, hx2⟩ := hp i r v hr hv
      exact ret_one hpn s hx1 hx2
    rcases hx with hx | ⟨r1, rest, rfl, hx⟩
    · refine ⟨vs, fun _ => none, rfl, hvl, (by intro i j b hi hj; simp at hi), fun i r v hr hv => ?_⟩
      obtain ⟨B, hB⟩ := hret i r v hr hv
      obtain ⟨y, rfl⟩ := hx r (List.mem_of_getElem? hr)
      simp only [RVok] at hB ⊢
      exact RD.anti (fun k hk => .inl (by rcases hk with hk | ⟨j, hj⟩; exact hk; cases hj)) hB
    · obtain ⟨v1, hv1⟩ : ∃ v, vs[0]? = some v := ⟨vs[0]'(by rw [hvl]; simp), List.getElem?_eq_getElem _⟩
      obtain ⟨B, hB⟩ := hret 0 r1 v1 rfl hv1
      refine ⟨vs, fun i => if i = 0 then B else none, rfl, hvl, fun i j b hi hj => ?_, fun i r v hr hv => ?_⟩
      · simp only at hi hj
        by_cases h1 : i = 0
        · by_cases h2 : j = 0
          · omega
          · rw [if_neg h2] at hj; cases hj
        · rw [if_neg h1] at hi; cases hi
      · cases i with
        | zero =>
          rw [hv1] at hv; injection hv with hv; subst hv
          simp at hr; subst hr
          simp only [if_pos]
          refine RVok.anti (fun k hk => ?_) hB
          rcases hk with hk | ⟨j, hj⟩
          · exact .inl hk
          · by_cases h2 : j = 0
            · rw [if_pos h2] at hj; exact .inr hj
            · rw [if_neg h2] at hj; cases hj
        | succ i =>
          obtain ⟨B', hB'⟩ := hret (i + 1) r v hr hv
          simp at hr
          obtain ⟨y, rfl, hy⟩ := hx r (List.mem_of_getElem? hr)
          simp only [RVok] at hB' ⊢
          exact hB'.memless hy
def cutQ (w0 : Base) {ι : Type} (E : ι → Env) (O : ι → Obs) (I : ι → Prop) (Q : LX → Env → Obs → Prop) : LX → Env → Obs → Prop
  | .normal, env, H => ∃ i, Weak w0 env H (E i) (O i) ∧ I i
  | e, env, H => Q e env H
theorem cutQ_normal {ι : Type} {E : ι → Env} {O : ι → Obs} {I : ι → Prop} {Q : LX → Env → Obs → Prop} : cutQ w0 E O I Q .normal env H ↔ ∃ i, Weak w0 env H (E i) (O i) ∧ I i := Iff.rfl
theorem cutQ_ret {ι : Type} {E : ι → Env} {O : ι → Obs} {I : ι → Prop} {Q : LX → Env → Obs → Prop} : cutQ w0 E O I Q .ret env H ↔ Q .ret env H := Iff.rfl
theorem cutQ_exit {ι : Type} {E : ι → Env} {O : ι → Obs} {I : ι → Prop} {Q : LX → Env → Obs → Prop} {j : Nat} : cutQ w0 E O I Q (.exit j) env H ↔ Q (.exit j) env H := Iff.rfl
theorem cutQ.mk {ι : Type} {E : ι → Env} {O : ι → Obs} {I : ι → Prop} (i : ι) (hw : Weak w0 env H (E i) (O i)) (hI : I i) : ∃ i, Weak w0 env H (E i) (O i) ∧ I i := ⟨i, hw, hI⟩
theorem LWp.seqCut {x y : Code} {Q : LX → Env → Obs → Prop} {ι : Type} (E : ι → Env) (O : ι → Obs) (I : ι → Prop) (h1 : LWp P N w0 X x (cutQ w0 E O I Q) env H) (h2 : ∀ i, I i → LWp P N w0 X y Q (E i) (O i)) : LWp P N w0 X (.seq x y) Q env H := by
  refine LWp.seq (h1.mono fun e env H h => ?_)
  cases e with
  | normal => obtain ⟨i, hw, hI⟩ := h; exact LWp.weak hw (h2 i hI)
  | exit j => exact h
  | ret => exact h
end
end Go.Eng
