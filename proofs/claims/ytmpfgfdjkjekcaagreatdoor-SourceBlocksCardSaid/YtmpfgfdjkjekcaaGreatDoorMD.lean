/-
  Texts of the proofs of this seat, part 4. No condition.
-/
import Derived.Test.YtmpfgfdjkjekcaaGreatDoorMC
import Derived.Scope
set_option linter.unusedVariables false
set_option linter.unusedSimpArgs false
namespace Go.Eng
open Go.RowKit
section
variable {P : Program} {T : TypeId → TyI} {N : Nat} {w0 : Base} {X : Nat → Prop} {Q : LX → Env → Obs → Prop} {env : Env} {H : Obs} {l : List Oper} {id : Nat}
theorem Mem.rebox {β : Nat → Option Nat} {w : World} (m : Mem w0 X H β w) {b : Nat} {fz : Bool} {cs cs' : List LV} (hH : H b = .box fz cs) (hl : cs'.length = cs.length) (h : ∀ (i : Nat) (c c' : LV) (v : Value), cs[i]? = some c → cs'[i]? = some c' → R w (Ex X β H) β H c v → R w (Ex X β H) β H c' v) :
    Mem w0 X (upd H b (.box fz cs')) β w ∧ Goes X H β w (upd H b (.box fz cs')) β w := by
  have hmut : ∀ i, (upd H b (.box fz cs') i).mut = (H i).mut := fun i => by
    by_cases hi : i = b
    · subst hi; rw [upd_same, hH]; rfl
    · rw [upd_ne _ _ hi]
  have hlive : ∀ i, (upd H b (.box fz cs') i).live = (H i).live := fun i => by
    by_cases hi : i = b
    · subst hi; rw [upd_same, hH]; rfl
    · rw [upd_ne _ _ hi]
  have hg : Goes X H β w (upd H b (.box fz cs')) β w := by
    refine ⟨Nat.le_refl _, fun _ _ _ => rfl, fun k _ he => ?_, fun i => ?_⟩
    · rcases he with he | ⟨i, h1, h2⟩
      · exact .inl he
      · rw [hmut] at h1; exact .inr ⟨i, h1, h2⟩
    · by_cases hi : i = b
      · subst hi; unfold Passes; rw [hH, upd_same]; exact .inr ⟨⟨fz, cs', rfl⟩, rfl⟩
      · have hp := Passes.refl (w := w) (β := β) (H := H) i
        unfold Passes at *
        rw [upd_ne _ _ hi]; exact hp
  refine ⟨⟨m.ext, m.xold, fun i b' h1 h2 => ?_, fun i j b' h1 h2 => ?_, fun i => ?_, fun i hi => (m.pin i hi).trans (hg.pass i)⟩, hg⟩
  · rw [hlive] at h1; rw [hmut]; exact m.fresh i b' h1 h2
  · rw [hlive] at h1 h2; exact m.inj i j b' h1 h2
  · by_cases hi : i = b
    · subst hi
      have ho := m.obj i
      unfold ObjR at *
      rw [hH] at ho
      rw [upd_same]
      obtain ⟨b', e, us, h1, h2, h3, h4, h5⟩ := ho
      refine ⟨b', e, us, h1, h2, by rw [hl]; exact h3, h4, fun j c v hc hv => ?_⟩
      have hj : j < cs.length := by have := (List.getElem?_eq_some_iff.1 hc).1; omega
      exact hg.R (h j _ c v (List.getElem?_eq_getElem hj) hc (h5 j _ v (List.getElem?_eq_getElem hj) hv))
    · exact (m.obj i).step hg.size hg.out (fun _ _ => hg.D) (fun _ _ => hg.R) (upd_ne _ _ hi) (fun _ => rfl) fun _ _ _ => rfl
theorem OkR.of_body {f : FuncId} {fn : Func} {c : Code} {args : List DV} {Rel : Ret → Prop} {n : Nat} (hf : P.funcs[f]? = some fn) (hname : (fn.name == "runtime.NumGoroutine") = false) (hb : fn.body = some c) (hn : fn.ntmps = n) (hargs : args.length ≤ n)
    (h : ∀ w0 X, w0.pins = [] → LWp P n w0 X c (fun x env H => (match x with | .exit _ => False | _ => True) ∧ ∀ β a w, Sim n w0 X env H β a w → ∃ v r, Rel r ∧ (results fn a.tmps).run P w = .ok v w ∧ RetOk w0.w w (fun k => X k ∨ r.fresh = true ∧ k < w0.w.heap.size) r.v v) (argsEnv args) (mkObs [])) :
    OkR P f args Rel := by
  refine ⟨⟨fn, hf, hname, by rw [hb]; rfl⟩, fun w X vs hX hr => ?_⟩
  refine calls_of_wp hf hb (wp_mono (h ⟨w, fun _ => none, fun _ => .absent, []⟩ X rfl (fun _ => none) ⟨vs.toArray ++ Array.replicate (fn.ntmps - vs.toArray.size) undef, []⟩ w ?_) ?_)
  · refine ⟨rfl, ?_, ⟨rfl, rfl, rfl, Nat.le_refl _, fun _ _ _ => rfl, Nat.le_refl _⟩, ⟨fun k hk => ⟨hX.1 k hk, by rintro ⟨id, hid, _⟩; cases hid⟩, hX.2.anti fun k hk => by rcases hk with hk | ⟨id, hid, _⟩; exact hk; cases hid⟩, fun id b hl _ => by simp [mkObs, lookH, LObj.live] at hl, fun i j b hi _ => by simp [mkObs, lookH, LObj.live] at hi, fun t => ?_, fun id => by unfold ObjR; trivial, fun id hid => by cases hid⟩
    · have := hr.1
      simp
      omega
    · rw [argsEnv_get]
      cases q : args[t]? with
      | none => exact .junk _
      | some x =>
        have ht : t < vs.length := by rw [hr.1]; exact (List.getElem?_eq_some_iff.1 q).1
        have hv : (vs.toArray ++ Array.replicate (fn.ntmps - vs.toArray.size) undef).getD t undef = vs[t] := by
          simp [Array.getD_eq_getD_getElem?, Array.getElem?_append_left, ht]
        rw [hv]
        refine .d _ _ ((hr.2 t x _ q (List.getElem?_eq_getElem ht)).anti fun k hk => ?_)
        rcases hk with hk | ⟨id, h1, _⟩
        · exact hk
        · cases h1
  · rintro e a' w' ⟨x, env, H, β, h1, s, h2, h3⟩
    obtain ⟨v, r, hrel, hv1, hv2⟩ := h3 β a' w' s
    have hbel : Bel w.heap.size w w' := ⟨s.ext.os, s.ext.tape, s.ext.output, s.ext.size, fun k hk => s.ext.block k hk (by rintro ⟨id, hid, _⟩; cases hid), s.ext.drawn⟩
    cases e <;> cases x <;> simp only [exitIs] at h1
    · exact ⟨s.defers, v, hv1, v, r, hrel, rfl, hbel, hv2⟩
    · exact h2.elim
    · exact ⟨s.defers, v, hv1, v, r, hrel, rfl, hbel, hv2⟩
def retR (t : Nat) (fresh : Bool) (Rel : RV → Prop) (x : LX) (env : Env) (H : Obs) : Prop := (match x with | .exit _ => False | _ => True) ∧ ∃ r, Rel r ∧ (∀ rs, r ≠ .tup rs) ∧ RetIs H fresh (env t) r
theorem OkR.ret {f : FuncId} {fn : Func} {c : Code} {args : List DV} {Rel : RV → Prop} {fresh : Bool} {n t : Nat} (hf : P.funcs[f]? = some fn) (hname : (fn.name == "runtime.NumGoroutine") = false) (hb : fn.body = some c) (hn : fn.ntmps = n) (hargs : args.length ≤ n) (hres : fn.results = #[.tmp t])
    (h : ∀ w0 X, w0.pins = [] → LWp P n w0 X c (retR t fresh Rel) (argsEnv args) (mkObs [])) : OkR P f args (fun r => Rel r.v ∧ r.fresh = fresh) := by
  refine OkR.of_body hf hname hb hn hargs fun w0 X hpn => (h w0 X hpn).mono fun x env H ⟨h1, r, h2, h3, h4⟩ => ⟨h1, fun β a w s => ⟨a.tmps.getD t undef, ⟨r, fresh⟩, ⟨h2, rfl⟩, results_tmp hres _ _ _, ?_⟩⟩
  obtain ⟨B, hB⟩ := ret_one hpn s (s.env t) h4
  cases q : r with
  | tup rs => exact absurd q (h3 rs)
  | d x => rw [q] at hB; exact ⟨B, hB⟩
  | own sz xs => rw [q] at hB; exact ⟨B, hB⟩
end
end Go.Eng
namespace Go.Eng
abbrev Str := List UInt8
structure Nm where
 who : Int
 seq : Int
 deriving DecidableEq, Inhabited
structure Df where
 name : Str
 text : Str
 deriving DecidableEq, Inhabited
structure Ed where
 name : Nm
 needs : List Nm
 puts : List Df
 drops : List Str
 deriving DecidableEq, Inhabited
abbrev I64 (n : Int) : DV := .int .i64 n
def Nm.d (n : Nm) : DV := .agg [.int .i64 n.who, .int .i64 n.seq]
def Df.d (d : Df) : DV := .agg [.str d.name, .str d.text]
def Nm.enc (n : Nm) : List Value := [.int .i64 n.who, .int .i64 n.seq]
def nmsD (l : List Nm) : DV := .sl (l.map Nm.d)
def dfsD (l : List Df) : DV := .sl (l.map Df.d)
def strsD (l : List Str) : DV := .sl (l.map .str)
def Ed.d (e : Ed) : DV := .agg [.int .i64 e.name.who, .int .i64 e.name.seq, .sl (e.needs.map Nm.d), .sl (e.puts.map Df.d), .sl (e.drops.map .str)]
def edsD (l : List Ed) : DV := .sl (l.map Ed.d)
theorem take_map_len {α β : Type} {f : α → β} {acc : List α} : List.take acc.length (List.map f acc) = List.map f acc := List.take_of_length_le (by simp)
theorem take_map_app {α β : Type} {f : α → β} {l : List α} {t : List β} : List.take l.length (List.map f l ++ t) = List.map f l := by rw [List.take_append_of_le_length (by simp), List.take_of_length_le (by simp)]
theorem mem_part {α : Type} {k n : Nat} {l : List α} {x : α} (h : x ∈ (l.drop k).take n) : x ∈ l := List.mem_of_mem_drop (List.mem_of_mem_take h)
theorem nm_mem {l : List Nm} {y : DV} (h : y ∈ l.map Nm.d) : (cellsD y).length = 2 ∧ ∀ c ∈ cellsD y, memless c = true := by
 obtain ⟨a, _, rfl⟩ := List.mem_map.1 h
 exact ⟨rfl, by simp [Nm.d, cellsD, memless]⟩
theorem df_mem {l : List Df} {y : DV} (h : y ∈ l.map Df.d) : (cellsD y).length = 2 ∧ ∀ c ∈ cellsD y, memless c = true := by
 obtain ⟨a, _, rfl⟩ := List.mem_map.1 h
 exact ⟨rfl, by simp [Df.d, cellsD, memless]⟩
theorem str_mem {l : List Str} {y : DV} (h : y ∈ l.map DV.str) : (cellsD y).length = 1 ∧ ∀ c ∈ cellsD y, memless c = true := by
 obtain ⟨a, _, rfl⟩ := List.mem_map.1 h
 exact ⟨rfl, by simp [cellsD, memless]⟩
theorem ed_mem {l : List Ed} {y : DV} (h : y ∈ l.map Ed.d) : (cellsD y).length = 5 := by
 obtain ⟨a, _, rfl⟩ := List.mem_map.1 h
 rfl
section
variable {l : List Nm} {m : List Df} {r : List Str} {e : List Ed} {k n : Nat}
theorem nm_t : (∀ y ∈ List.take k (List.map Nm.d l), (cellsD y).length = 2) ↔ True := iff_true_intro fun _ h => (nm_mem (List.mem_of_mem_take h)).1
theorem nm_d : (∀ y ∈ List.drop k (List.map Nm.d l), (cellsD y).length = 2) ↔ True := iff_true_intro fun _ h => (nm_mem (List.mem_of_mem_drop h)).1
theorem nm_td : (∀ y ∈ List.take n (List.drop k (List.map Nm.d l)), (cellsD y).length = 2) ↔ True := iff_true_intro fun _ h => (nm_mem (mem_part h)).1
theorem df_t : (∀ y ∈ List.take k (List.map Df.d m), (cellsD y).length = 2) ↔ True := iff_true_intro fun _ h => (df_mem (List.mem_of_mem_take h)).1
theorem df_d : (∀ y ∈ List.drop k (List.map Df.d m), (cellsD y).length = 2) ↔ True := iff_true_intro fun _ h => (df_mem (List.mem_of_mem_drop h)).1
theorem df_td : (∀ y ∈ List.take n (List.drop k (List.map Df.d m)), (cellsD y).length = 2) ↔ True := iff_true_intro fun _ h => (df_mem (mem_part h)).1
theorem str_t : (∀ y ∈ List.take k (List.map DV.str r), (cellsD y).length = 1) ↔ True := iff_true_intro fun _ h => (str_mem (List.mem_of_mem_take h)).1
theorem str_d : (∀ y ∈ List.drop k (List.map DV.str r), (cellsD y).length = 1) ↔ True := iff_true_intro fun _ h => (str_mem (List.mem_of_mem_drop h)).1
theorem str_td : (∀ y ∈ List.take n (List.drop k (List.map DV.str r)), (cellsD y).length = 1) ↔ True := iff_true_intro fun _ h => (str_mem (mem_part h)).1
theorem ed_t : (∀ y ∈ List.take k (List.map Ed.d e), (cellsD y).length = 5) ↔ True := iff_true_intro fun _ h => ed_mem (List.mem_of_mem_take h)
theorem ed_d : (∀ y ∈ List.drop k (List.map Ed.d e), (cellsD y).length = 5) ↔ True := iff_true_intro fun _ h => ed_mem (List.mem_of_mem_drop h)
theorem ed_td : (∀ y ∈ List.take n (List.drop k (List.map Ed.d e)), (cellsD y).length = 5) ↔ True := iff_true_intro fun _ h => ed_mem (mem_part h)
end
def Pre {α : Type} (p : α → Bool) (l : List α) (i : Nat) : Prop := ∀ j (h : j < l.length), j < i → p l[j] = false
theorem Pre.zero {α : Type} {p : α → Bool} {l : List α} : Pre p l 0 := fun _ _ h => absurd h (Nat.not_lt_zero _)
theorem Pre.succ {α : Type} {p : α → Bool} {l : List α} {i : Nat} (h : Pre p l i) (hi : i < l.length) (hp : p l[i] = false) : Pre p l (i + 1) := fun j hj hji => by
 by_cases e : j = i
 ·subst e; exact hp
 ·exact h j hj (by omega)
theorem Pre.found {α : Type} {p : α → Bool} {l : List α} {i : Nat} (h : Pre p l i) (hi : i < l.length) (hp : p l[i] = true) : l.findIdx? p = some i := by
 rw [List.findIdx?_eq_some_iff_getElem]
 exact ⟨hi, hp, fun j hj => by rw [h j (by omega) hj]; simp⟩
theorem Pre.none {α : Type} {p : α → Bool} {l : List α} {i : Nat} (h : Pre p l i) (hi : l.length ≤ i) : l.findIdx? p = none := by
 rw [List.findIdx?_eq_none_iff]
 intro x hx
 obtain ⟨j, hj, rfl⟩ := List.getElem_of_mem hx
 exact h j hj (by omega)
theorem Pre.any {α : Type} {p : α → Bool} {l : List α} {i : Nat} (h : Pre p l i) (hi : l.length ≤ i) : l.any p = false := by
 rw [List.any_eq_false]
 intro x hx
 obtain ⟨j, hj, rfl⟩ := List.getElem_of_mem hx
 rw [h j hj (by omega)]; simp
theorem any_at {α : Type} {p : α → Bool} {l : List α} {i : Nat} (hi : i < l.length) (hp : p l[i] = true) : l.any p = true := List.any_eq_true.2 ⟨_, List.getElem_mem hi, hp⟩
def around (n m : Int) : Int := (if n < 0 then -(n + 1) else n).tmod m
def atL (l : List Int) (i m : Int) : Int := if i < 0 ∨ l.length ≤ i then 0 else around (l.getD i.toNat 0) m
def find? (l : List Ed) (n : Nm) : Option Nat := l.findIdx? fun e => decide (e.name = n)
theorem around_lt (n m : Int) (hm : 0 < m) : 0 ≤ around n m ∧ around n m < m := by
 unfold around
 split
 ·exact ⟨Int.tmod_nonneg _ (by omega), Int.tmod_lt_of_pos _ hm⟩
 ·exact ⟨Int.tmod_nonneg _ (by omega), Int.tmod_lt_of_pos _ hm⟩
end Go.Eng
namespace Go.Eng
inductive Nd where
 | mk (kind : Int) (text : Str) (n : Int) (kids : List Nd)
instance : Inhabited Nd := ⟨.mk 0 [] 0 []⟩
def Nd.kind : Nd → Int | .mk k _ _ _ => k
def Nd.text : Nd → Str | .mk _ t _ _ => t
def Nd.n : Nd → Int | .mk _ _ n _ => n
def Nd.kids : Nd → List Nd | .mk _ _ _ ks => ks
@[simp] theorem Nd.kind_mk {k : Int} {t : Str} {n : Int} {ks : List Nd} : (Nd.mk k t n ks).kind = k := rfl
@[simp] theorem Nd.text_mk {k : Int} {t : Str} {n : Int} {ks : List Nd} : (Nd.mk k t n ks).text = t := rfl
@[simp] theorem Nd.n_mk {k : Int} {t : Str} {n : Int} {ks : List Nd} : (Nd.mk k t n ks).n = n := rfl
@[simp] theorem Nd.kids_mk {k : Int} {t : Str} {n : Int} {ks : List Nd} : (Nd.mk k t n ks).kids = ks := rfl
mutual
theorem Nd.ind {p : Nd → Prop} (h : ∀ k t n ks, (∀ x ∈ ks, p x) → p (.mk k t n ks)) : ∀ x, p x
 | .mk k t n ks => h k t n ks (Nd.indL h ks)
theorem Nd.indL {p : Nd → Prop} (h : ∀ k t n ks, (∀ x ∈ ks, p x) → p (.mk k t n ks)) : ∀ (ks : List Nd), ∀ x ∈ ks, p x
 | [], _, hx => by cases hx
 | a :: r, x, hx => by
  rcases List.mem_cons.1 hx with e | e
  ·rw [e]; exact Nd.ind h a
  ·exact Nd.indL h r x e
end
mutual
def Nd.d : Nd → DV
 | .mk k t n ks => .agg [I64 k, .str t, I64 n, .sl (ndsL ks)]
def ndsL : List Nd → List DV
 | [] => []
 | x :: r => x.d :: ndsL r
end
theorem ndsL_map : ∀ ks : List Nd, ndsL ks = ks.map Nd.d
 | [] => by simp [ndsL]
 | x :: r => by rw [ndsL, ndsL_map r]; rfl
theorem Nd.d_eq (x : Nd) : x.d = .agg [I64 x.kind, .str x.text, I64 x.n, .sl (x.kids.map Nd.d)] := by
 cases x with | mk k t n ks => rw [Nd.d, ndsL_map]; rfl
def ndsD (l : List Nd) : DV := .sl (l.map Nd.d)
theorem nd_len (x : Nd) : (cellsD x.d).length = 4 := by rw [Nd.d_eq]; rfl
theorem nd_mem {l : List Nd} {y : DV} (h : y ∈ l.map Nd.d) : (cellsD y).length = 4 := by
 obtain ⟨a, _, rfl⟩ := List.mem_map.1 h
 exact nd_len a
section
variable {l : List Nd} {k n : Nat}
theorem nd_t : (∀ y ∈ List.take k (List.map Nd.d l), (cellsD y).length = 4) ↔ True := iff_true_intro fun _ h => nd_mem (List.mem_of_mem_take h)
theorem nd_dr : (∀ y ∈ List.drop k (List.map Nd.d l), (cellsD y).length = 4) ↔ True := iff_true_intro fun _ h => nd_mem (List.mem_of_mem_drop h)
theorem nd_td : (∀ y ∈ List.take n (List.drop k (List.map Nd.d l)), (cellsD y).length = 4) ↔ True := iff_true_intro fun _ h => nd_mem (mem_part h)
end
mutual
def sizeN : Nd → Nat
 | .mk _ _ _ ks => sizeL ks + 1
def sizeL : List Nd → Nat
 | [] => 0
 | x :: r => sizeN x + sizeL r
end
mutual
def depthN : Nd → Nat
 | .mk _ _ _ ks => depthL ks + 1
def depthL : List Nd → Nat
 | [] => 0
 | x :: r => max (depthN x) (depthL r)
end
mutual
def weighN : Nd → Nat
 | .mk _ t _ ks => weighL ks + t.length + 1
def weighL : List Nd → Nat
 | [] => 0
 | x :: r => weighN x + weighL r
end
theorem sizeN_eq (x : Nd) : sizeN x = sizeL x.kids + 1 := by cases x; rw [sizeN]; rfl
theorem depthN_eq (x : Nd) : depthN x = depthL x.kids + 1 := by cases x; rw [depthN]; rfl
theorem weighN_eq (x : Nd) : weighN x = weighL x.kids + x.text.length + 1 := by cases x; rw [weighN]; rfl
theorem sizeL_append : ∀ (a b : List Nd), sizeL (a ++ b) = sizeL a + sizeL b
 | [], b => by simp [sizeL]
 | x :: a, b => by rw [List.cons_append, sizeL, sizeL, sizeL_append a b, Nat.add_assoc]
theorem weighL_append : ∀ (a b : List Nd), weighL (a ++ b) = weighL a + weighL b
 | [], b => by simp [weighL]
 | x :: a, b => by rw [List.cons_append, weighL, weighL, weighL_append a b, Nat.add_assoc]
theorem depthL_append : ∀ (a b : List Nd), depthL (a ++ b) = max (depthL a) (depthL b)
 | [], b => by simp [depthL]
 | x :: a, b => by rw [List.cons_append, depthL, depthL, depthL_append a b, Nat.max_assoc]
theorem sizeL_succ {l : List Nd} {i : Nat} (hi : i < l.length) : sizeL (l.take (i + 1)) = sizeL (l.take i) + sizeN l[i] := by
 rw [← List.take_append_getElem hi, sizeL_append]; simp [sizeL]
theorem depthL_succ {l : List Nd} {i : Nat} (hi : i < l.length) : depthL (l.take (i + 1)) = max (depthL (l.take i)) (depthN l[i]) := by
 rw [← List.take_append_getElem hi, depthL_append]; simp [depthL]
theorem sizeL_take_le {l : List Nd} (i : Nat) : sizeL (l.take i) ≤ sizeL l := by
 have := sizeL_append (l.take i) (l.drop i)
 rw [List.take_append_drop] at this; omega
theorem weigh_mem : ∀ {l : List Nd} {x : Nd}, x ∈ l → weighN x ≤ weighL l
 | [], _, h => by cases h
 | a :: l, x, h => by
  rw [weighL]
  rcases List.mem_cons.1 h with e | e
  ·rw [e]; omega
  ·have := weigh_mem e; omega
theorem weigh_len : ∀ {l : List Nd}, l.length ≤ weighL l
 | [] => Nat.zero_le _
 | a :: l => by
  have := weigh_len (l := l)
  have h : 1 ≤ weighN a := by rw [weighN_eq]; omega
  rw [weighL, List.length_cons]; omega
theorem size_weigh (x : Nd) : sizeN x ≤ weighN x := by
 refine Nd.ind (p := fun x => sizeN x ≤ weighN x) (fun k t n ks ih => ?_) x
 rw [sizeN, weighN]
 have : ∀ l : List Nd, (∀ x ∈ l, sizeN x ≤ weighN x) → sizeL l ≤ weighL l := fun l => by
  induction l with
  | nil => intro _; simp [sizeL, weighL]
  | cons a l ih => intro h; have := ih fun x hx => h x (List.mem_cons_of_mem _ hx); have := h a (List.mem_cons_self ..); rw [sizeL, weighL]; omega
 have := this ks ih
 omega
theorem depth_size (x : Nd) : depthN x ≤ sizeN x := by
 refine Nd.ind (p := fun x => depthN x ≤ sizeN x) (fun k t n ks ih => ?_) x
 rw [depthN, sizeN]
 have : ∀ l : List Nd, (∀ x ∈ l, depthN x ≤ sizeN x) → depthL l ≤ sizeL l := fun l => by
  induction l with
  | nil => intro _; simp [sizeL, depthL]
  | cons a l ih => intro h; have := ih fun x hx => h x (List.mem_cons_of_mem _ hx); have := h a (List.mem_cons_self ..); rw [sizeL, depthL]; omega
 have := this ks ih
 omega
mutual
def sameN : Nd → Nd → Bool
 | .mk k t n ks, .mk k' t' n' ks' => decide (k = k') && decide (t = t') && decide (n = n') && sameL ks ks'
def sameL : List Nd → List Nd → Bool
 | [], [] => true
 | a :: r, b :: s => sameN a b && sameL r s
 | _, _ => false
end
mutual
theorem sameN_iff : ∀ a b : Nd, sameN a b = true ↔ a = b
 | .mk k t n ks, .mk k' t' n' ks' => by
  rw [sameN]
  simp only [Bool.and_eq_true, decide_eq_true_eq, sameL_iff ks ks', Nd.mk.injEq]
  exact ⟨fun ⟨⟨⟨a, b⟩, c⟩, d⟩ => ⟨a, b, c, d⟩, fun ⟨a, b, c, d⟩ => ⟨⟨⟨a, b⟩, c⟩, d⟩⟩
theorem sameL_iff : ∀ a b : List Nd, sameL a b = true ↔ a = b
 | [], [] => by simp [sameL]
 | [], b :: s => by simp [sameL]
 | a :: r, [] => by simp [sameL]
 | a :: r, b :: s => by
  rw [sameL]
  simp only [Bool.and_eq_true, sameN_iff a b, sameL_iff r s, List.cons.injEq]
end
instance : DecidableEq Nd := fun a b => decidable_of_iff _ (sameN_iff a b)
end Go.Eng
namespace Go.Eng
def wordsL : List Str := [[118, 97, 114], [114, 101, 99], [99, 104, 97, 110], [108, 111, 99, 107], [102, 105, 108, 101], [112, 114, 111, 99], [116, 101, 115, 116], [], [], [], [], [105, 102], [119, 104, 105, 108, 101], [103, 111], [99, 97, 108, 108], [115, 101, 110, 100], [114, 101, 99, 118], [97, 99, 113, 117, 105, 114, 101], [114, 101, 108, 101, 97, 115, 101], [100, 114, 97, 119], [110, 111, 119], [115, 108, 101, 101, 112], [119, 114, 105, 116, 101], [114, 101, 97, 100], [99, 104, 101, 99, 107], [97, 108, 108, 111, 99]]
def boundsL : List (Int × Int) := [(-999, 999), (0, 0), (0, 3), (0, 0), (0, 0), (0, 0), (0, 0), (-999, 999), (0, 0), (0, 0), (0, 0), (0, 0), (0, 0), (0, 0), (0, 0), (0, 0), (0, 0), (0, 0), (0, 0), (2, 6), (0, 0), (1, 9), (0, 0), (0, 0), (0, 0), (1, 99), (0, 0), (0, 0), (0, 0), (0, 0), (0, 0), (0, 0), (0, 999), (0, 0), (0, 0), (0, 0), (0, 0)]
def opsL : List (Str × Int) := [([60], 1), ([60, 61], 1), ([61, 61], 1), ([43], 2), ([45], 2), ([42], 3)]
def sElse : Str := [101, 108, 115, 101]
def sKind : Str := [107, 105, 110, 100]
theorem words_len : wordsL.length = 26 := rfl
theorem bounds_len : boundsL.length = 37 := rfl
def letterB (c : UInt8) : Bool := decide (97 ≤ c) && decide (c ≤ 122)
def digitB (c : UInt8) : Bool := decide (48 ≤ c) && decide (c ≤ 57)
def runP (p : UInt8 → Bool) : Str → Nat
 | [] => 0
 | c :: r => if p c then runP p r + 1 else 0
theorem runP_le (p : UInt8 → Bool) : ∀ s : Str, runP p s ≤ s.length
 | [] => Nat.le_refl _
 | c :: r => by
  have := runP_le p r
  unfold runP; split <;> simp only [List.length_cons] <;> omega
theorem runP_all {p : UInt8 → Bool} : ∀ {s : Str} {i : Nat} (h : i < s.length), i < runP p s → p s[i] = true
 | c :: r, 0, _, h => by
  unfold runP at h
  split at h
  ·assumption
  ·omega
 | c :: r, i + 1, hi, h => by
  unfold runP at h
  split at h
  ·simpa using runP_all (s := r) (by simpa using hi) (by omega)
  ·omega
theorem runP_stop {p : UInt8 → Bool} : ∀ {s : Str} (h : runP p s < s.length), p s[runP p s] = false
 | [], h => by simp at h
 | c :: r, h => by
  by_cases q : p c = true
  ·have e : runP p (c :: r) = runP p r + 1 := by rw [runP, if_pos q]
   have h' : runP p r < r.length := by rw [e] at h; simpa using h
   have := runP_stop h'
   simp only [e]
   simpa using this
  ·have e : runP p (c :: r) = 0 := by rw [runP, if_neg q]
   simp only [e]
   simpa using q
theorem runP_eq {p : UInt8 → Bool} {s : Str} {n : Nat} (hn : n ≤ s.length) (h : ∀ i (hi : i < n), p (s[i]'(by omega)) = true) (hs : ∀ hl : n < s.length, p s[n] = false) : runP p s = n := by
 rcases Nat.lt_trichotomy (runP p s) n with q | q | q
 ·have := runP_stop (p := p) (s := s) (by omega)
  rw [h _ q] at this; cases this
 ·exact q
 ·have hl := runP_le p s
  have := runP_all (p := p) (show n < s.length by omega) q
  rw [hs (by omega)] at this; cases this
def wordN (s : Str) : Nat := match s with
 | [] => 0
 | c :: _ => if letterB c then (if runP (fun c => letterB c || digitB c) s ≤ 16 then runP (fun c => letterB c || digitB c) s else 0) else 0
def signs : Str := [40, 41, 123, 125, 61, 43, 45, 42, 60, 59, 46]
def nextN (s : Str) : Nat := match s with
 | [] => 0
 | c :: r => if letterB c then wordN s else if c = 36 then (if 0 < wordN r then wordN r + 1 else 0)
  else if digitB c then (if runP digitB s ≤ 3 then runP digitB s else 0)
  else if s.take 2 = [60, 61] ∨ s.take 2 = [61, 61] then 2 else if c ∈ signs then 1 else 0
def reservedB (s : Str) : Bool := decide (s = sElse) || decide (s = sKind) || decide (s ∈ wordsL)
def isNameB (s : Str) : Bool := match s with
 | [] => false
 | c :: _ => letterB c && !reservedB s
def wholeB (s : Str) (named : Bool) : Bool := decide (s ≠ []) && decide (wordN s = s.length) && (!named || isNameB s)
end Go.Eng
namespace Go.Eng
def decS (n : Nat) : Str := if n < 10 then [UInt8.ofNat (48 + n)] else if n < 100 then [UInt8.ofNat (48 + n / 10), UInt8.ofNat (48 + n % 10)] else [UInt8.ofNat (48 + n / 100), UInt8.ofNat (48 + n / 10 % 10), UInt8.ofNat (48 + n % 10)]
def itoaS (n : Int) : Str := if n < 0 then 45 :: decS n.natAbs else decS n.toNat
def wordAt (k : Int) : Str := wordsL.getD k.toNat []
def loAt (k : Int) : Int := (boundsL.getD k.toNat (0, 0)).1
def hiAt (k : Int) : Int := (boundsL.getD k.toNat (0, 0)).2
def signAt (k : Int) : Str := (opsL.getD (k - 26).toNat ([], 0)).1
def levelAt (k : Int) : Int := (opsL.getD (k - 26).toNat ([], 0)).2
def isStmtK (k : Int) : Bool := decide (9 ≤ k) && decide (k ≤ 25)
def isItemK (k : Int) : Bool := decide (k = 7)
def isBlockK (k : Int) : Bool := decide (k = 8)
def isExprK (k : Int) : Bool := decide (26 ≤ k) && decide (k ≤ 36)
theorem isExprK_iff {k : Int} : isExprK k = true ↔ 26 ≤ k ∧ k ≤ 36 := by simp [isExprK]
theorem isStmtK_iff {k : Int} : isStmtK k = true ↔ 9 ≤ k ∧ k ≤ 25 := by simp [isStmtK]
def isPlaceK (k : Int) : Bool := decide (k = 34) || decide (k = 35)
def isLocalK (k : Int) : Bool := decide (k = 33)
def kidsB : List Nd → List (Int → Bool) → Bool
 | [], [] => true
 | x :: r, f :: l => f x.kind && kidsB r l
 | _, _ => false
def shapedK (k : Int) (ks : List Nd) : Bool :=
 if k = 1 then ks.all fun y => isItemK y.kind
 else if k = 8 then ks.all fun y => isStmtK y.kind
 else if k = 5 ∨ k = 6 then kidsB ks [isBlockK]
 else if k = 9 ∨ k = 15 ∨ k = 22 ∨ k = 24 then kidsB ks [isExprK]
 else if k = 10 then kidsB ks [isPlaceK, isExprK]
 else if k = 11 then kidsB ks [isExprK, isBlockK] || kidsB ks [isExprK, isBlockK, isBlockK]
 else if k = 12 then kidsB ks [isExprK, isBlockK]
 else if k = 16 ∨ k = 23 then kidsB ks [isLocalK]
 else if 26 ≤ k ∧ k ≤ 31 then kidsB ks [isExprK, isExprK]
 else kidsB ks []
def shapedB (x : Nd) : Bool := shapedK x.kind x.kids
def cutAt (c : UInt8) : Str → Option (Str × Str)
 | [] => none
 | d :: r => if d = c then some ([], r) else (cutAt c r).map fun q => (d :: q.1, q.2)
def fieldB (t : Str) : Bool := match cutAt 46 t with
 | some (a, b) => wholeB a true && wholeB b true
 | none => false
def textB (k : Int) (t : Str) : Bool :=
 if k = 9 ∨ k = 19 ∨ k = 20 ∨ k = 33 then wholeB t false
 else if k = 35 then fieldB t
 else if k = 8 ∨ k = 10 ∨ k = 11 ∨ k = 12 ∨ k = 21 ∨ k = 24 ∨ k = 25 ∨ (26 ≤ k ∧ k ≤ 32) ∨ k = 36 then decide (t = [])
 else wholeB t true
def wordedK (k : Int) (t : Str) (n : Int) : Bool := decide (loAt k ≤ n) && decide (n ≤ hiAt k) && textB k t
def wordedB (x : Nd) : Bool := wordedK x.kind x.text x.n
mutual
def rightN : Nd → Bool
 | .mk k t n ks => decide (0 ≤ k) && decide (k < 37) && shapedB (.mk k t n ks) && wordedB (.mk k t n ks) && rightL ks
def rightL : List Nd → Bool
 | [] => true
 | x :: r => rightN x && rightL r
end
theorem rightL_all : ∀ l : List Nd, rightL l = l.all rightN
 | [] => rfl
 | x :: r => by rw [rightL, rightL_all r]; rfl
theorem right_mk {k : Int} {t : Str} {n : Int} {ks : List Nd} : rightN (.mk k t n ks) = true ↔ 0 ≤ k ∧ k < 37 ∧ shapedK k ks = true ∧ loAt k ≤ n ∧ n ≤ hiAt k ∧ textB k t = true ∧ ∀ x ∈ ks, rightN x = true := by
 rw [rightN, rightL_all]
 have e1 : shapedB (.mk k t n ks) = shapedK k ks := rfl
 have e2 : wordedB (.mk k t n ks) = wordedK k t n := rfl
 rw [e1, e2]
 simp only [Bool.and_eq_true, decide_eq_true_eq, wordedK, List.all_eq_true]
 exact ⟨fun ⟨⟨⟨⟨a, b⟩, c⟩, ⟨d, e⟩, f⟩, g⟩ => ⟨a, b, c, d, e, f, g⟩, fun ⟨a, b, c, d, e, f, g⟩ => ⟨⟨⟨⟨a, b⟩, c⟩, ⟨d, e⟩, f⟩, g⟩⟩
theorem rightN_eq (x : Nd) : rightN x = (decide (0 ≤ x.kind) && decide (x.kind < 37) && shapedB x && wordedB x && x.kids.all rightN) := by
 cases x; rw [rightN, rightL_all]; rfl
def paren (c : Bool) (t : Str) : Str := if c then 40 :: t ++ [41] else t
def lvlN (k : Int) : Int := if 26 ≤ k ∧ k ≤ 31 then levelAt k else 4
def exprT : Nd → Str
 | .mk k t n ks => if k = 32 then itoaS n else if k = 33 then 36 :: t else if k = 36 then sKind else if k = 34 ∨ k = 35 then t else match ks with
  | [a, b] => paren (decide (lvlN a.kind < (if levelAt k = 1 then 2 else levelAt k))) (exprT a) ++ 32 :: (signAt k ++ 32 :: paren (decide (lvlN b.kind < levelAt k + 1)) (exprT b))
  | _ => []
def withN (n : Int) : Str := if 0 < n then 32 :: itoaS n else []
def withE (ks : List Nd) : Str := ks.flatMap fun x => 32 :: exprT x
def midT (k : Int) (t : Str) : Str := if k = 19 ∨ k = 20 then 32 :: 36 :: t else if k = 21 ∨ k = 25 ∨ k = 24 then [] else 32 :: t
mutual
def stmtT : Nd → Str
 | .mk k t n ks => if k = 9 then (match ks with | [e] => 36 :: t ++ 32 :: 61 :: 32 :: (exprT e ++ [59]) | _ => [])
  else if k = 10 then (match ks with | [p, e] => exprT p ++ 32 :: 61 :: 32 :: (exprT e ++ [59]) | _ => [])
  else if k = 11 ∨ k = 12 then (match ks with
   | [e, b] => wordAt k ++ 32 :: (exprT e ++ 32 :: blockT b)
   | [e, b, c] => wordAt k ++ 32 :: (exprT e ++ 32 :: blockT b) ++ 32 :: (sElse ++ 32 :: blockT c)
   | _ => [])
  else wordAt k ++ midT k t ++ withN n ++ withE ks ++ [59]
def blockT : Nd → Str
 | .mk _ _ _ ks => 123 :: 32 :: (stmtsT ks ++ [125])
def stmtsT : List Nd → Str
 | [] => []
 | x :: r => stmtT x ++ 32 :: stmtsT r
end
def itemT (x : Nd) : Str := x.text ++ 32 :: 61 :: 32 :: (itoaS x.n ++ [59, 32])
def textT (x : Nd) : Str :=
 let o := wordAt x.kind ++ 32 :: x.text
 if x.kind = 5 ∨ x.kind = 6 then (match x.kids with | [b] => o ++ 32 :: blockT b | _ => [])
 else if x.kind = 1 then o ++ 32 :: 123 :: 32 :: (x.kids.flatMap itemT ++ [125])
 else if x.kind = 0 then o ++ 32 :: 61 :: 32 :: (itoaS x.n ++ [59])
 else if x.kind = 2 then o ++ 32 :: (itoaS x.n ++ [59])
 else o ++ [59]
def validB (x : Nd) : Bool := decide (0 ≤ x.kind) && decide (x.kind ≤ 6) && decide (depthN x ≤ 24) && rightN x && decide ((textT x).length ≤ 1024)
def printS (x : Nd) : Str := if validB x then textT x else []
def headK (x : Nd) : Int := if validB x then x.kind else -1
def headT (x : Nd) : Str := if validB x then x.text else []
end Go.Eng
namespace Go.Eng
structure Tk where
 text : Str
 at_ : Int
 deriving DecidableEq, Inhabited
def Tk.d (t : Tk) : DV := .agg [.str t.text, I64 t.at_]
def scanF : Nat → Str → Int → List Tk × Int
 | 0, _, i => ([], i)
 | f + 1, s, i => match s with
  | [] => ([], i)
  | c :: r => if c = 32 ∨ c = 10 then scanF f r (i + 1) else if nextN s = 0 then ([], i) else
   (⟨s.take (nextN s), i⟩ :: (scanF f (s.drop (nextN s)) (i + nextN s)).1, (scanF f (s.drop (nextN s)) (i + nextN s)).2)
def scanS (s : Str) : List Tk × Int := scanF s.length s 0
structure PS where
 l : List Tk
 e : Int
 deriving DecidableEq, Inhabited
def PS.peek (p : PS) : Str := if p.e ≠ 0 then [] else match p.l with | [] => [] | t :: _ => t.text
def PS.fail (p : PS) (e : Int) : PS := if p.e = 0 then ⟨p.l, e⟩ else p
def PS.skip (p : PS) : PS := ⟨p.l.tail, p.e⟩
def PS.is (p : PS) (s : Str) : Bool := decide (s ≠ []) && decide (p.peek = s)
def PS.took (p : PS) (s : Str) : PS := if p.is s then p.skip else p
def PS.need (p : PS) (s : Str) : PS := if p.is s then p.skip else p.fail 2
def nameP (p : PS) : Str × PS := if isNameB p.peek then (p.peek, p.skip) else ([], p.fail 2)
def localP (p : PS) : Str × PS := match p.peek with
 | 36 :: r => (r, p.skip)
 | _ => ([], p.fail 2)
def valS (s : Str) : Int := s.foldl (fun n c => 10 * n + ((c.toNat : Int) - 48)) 0
def numeralP (k : Int) (p : PS) : Int × PS := match p.peek with
 | [] => (0, p.fail 2)
 | c :: r => if digitB c then (if valS (c :: r) < loAt k ∨ hiAt k < valS (c :: r) then (0, p.fail 5) else (valS (c :: r), p.skip)) else (0, p.fail 2)
def numberP (p : PS) : Int × PS := if p.is [45] then (-(numeralP 0 p.skip).1, (numeralP 0 p.skip).2) else numeralP 0 p
def placeP (p : PS) : Nd × PS :=
 if (nameP p).2.is [46] then (.mk 35 ((nameP p).1 ++ 46 :: (nameP (nameP p).2.skip).1) 0 [], (nameP (nameP p).2.skip).2)
 else (.mk 34 (nameP p).1 0 [], (nameP p).2)
def opI (lv : Int) (s : Str) : Int := match (List.range 6).find? (fun i => decide ((opsL.getD i ([], 0)).2 = lv) && decide ((opsL.getD i ([], 0)).1 = s)) with
 | some i => i
 | none => -1
def opP (lv : Int) (p : PS) : Int × PS := (opI lv p.peek, if 0 ≤ opI lv p.peek then p.skip else p)
def chainF (lv : Int) (x : PS → Nd × PS) : Nat → Nd → PS → Nd × PS
 | 0, n, p => (n, p)
 | f + 1, n, p => if p.e ≠ 0 then (n, p) else if (opP lv p).1 < 0 then (n, (opP lv p).2) else
  chainF lv x f (.mk (26 + (opP lv p).1) [] 0 [n, (x (opP lv p).2).1]) (x (opP lv p).2).2
def chainP (lv : Int) (x : PS → Nd × PS) (p : PS) : Nd × PS := chainF lv x ((x p).2.l.length + 1) (x p).1 (x p).2
def factP (ex : PS → Nd × PS) (p : PS) : Nd × PS :=
 if p.is [40] then ((ex p.skip).1, (ex p.skip).2.need [41])
 else if p.is sKind then (.mk 36 [] 0 [], p.skip)
 else match p.peek with
  | c :: _ => if digitB c then (.mk 32 [] (numeralP 32 p).1 [], (numeralP 32 p).2) else if c = 36 then (.mk 33 (localP p).1 0 [], (localP p).2) else placeP p
  | [] => placeP p
def prodP (ex : PS → Nd × PS) (p : PS) : Nd × PS := chainP 3 (factP ex) p
def sumP (ex : PS → Nd × PS) (p : PS) : Nd × PS := chainP 2 (prodP ex) p
def exprB (ex : PS → Nd × PS) (p : PS) : Nd × PS :=
 let a := sumP ex p
 if 0 ≤ (opP 1 a.2).1 then (.mk (26 + (opP 1 a.2).1) [] 0 [a.1, (sumP ex (opP 1 a.2).2).1], (sumP ex (opP 1 a.2).2).2) else (a.1, (opP 1 a.2).2)
def zeroNd : Nd := .mk 0 [] 0 []
def exprP (r : Bool) : Nat → PS → Nd × PS
 | 0, p => (default, p)
 | f + 1, p => if r = true ∧ p.e ≠ 0 then (zeroNd, p) else exprB (exprP r f) p
def stmtsF (st : PS → Nd × PS) : Nat → List Nd → PS → List Nd × PS
 | 0, ks, p => (ks, p)
 | f + 1, ks, p => if p.e ≠ 0 ∨ p.peek = [125] then (ks, p) else stmtsF st f (ks ++ [(st p).1]) (st p).2
def blockB (st : PS → Nd × PS) (p : PS) : Nd × PS :=
 let q := p.need [123]
 let r := stmtsF st (q.l.length + 1) [] q
 (.mk 8 [] 0 r.1, r.2.need [125])
def wordI (s : Str) : Int := match (List.range 26).find? (fun i => decide (wordsL.getD i [] = s)) with
 | some i => i
 | none => -1
def kindP (s : Str) : Int := if s = [] then -1 else wordI s
def cmdP (ex : PS → Nd × PS) (k : Int) (p : PS) : Nd × PS :=
 let a : Str × PS := if k = 19 ∨ k = 20 then localP p else if k = 21 ∨ k = 25 ∨ k = 24 then ([], p) else nameP p
 if k = 15 ∨ k = 22 ∨ k = 24 then (.mk k a.1 0 [(ex a.2).1], (ex a.2).2)
 else if k = 16 ∨ k = 23 then (.mk k a.1 0 [.mk 33 (localP a.2).1 0 []], (localP a.2).2)
 else if k = 19 ∨ k = 21 ∨ k = 25 then (.mk k a.1 (numeralP k a.2).1 [], (numeralP k a.2).2)
 else (.mk k a.1 0 [], a.2)
def stmtB (ex bl : PS → Nd × PS) (p : PS) : Nd × PS :=
 let k := kindP p.peek
 if k = 11 ∨ k = 12 then
  let e := ex p.skip
  let b := bl e.2
  if k = 11 ∧ b.2.is sElse = true then (.mk k [] 0 [e.1, b.1, (bl b.2.skip).1], (bl b.2.skip).2) else (.mk k [] 0 [e.1, b.1], b.2)
 else if 12 < k then ((cmdP ex k p.skip).1, (cmdP ex k p.skip).2.need [59])
 else match p.peek with
  | 36 :: _ => (.mk 9 (localP p).1 0 [(ex ((localP p).2.need [61])).1], (ex ((localP p).2.need [61])).2.need [59])
  | _ => (.mk 10 [] 0 [(placeP p).1, (ex ((placeP p).2.need [61])).1], (ex ((placeP p).2.need [61])).2.need [59])
def stmtP (r : Bool) : Nat → PS → Nd × PS
 | 0, p => (default, p)
 | f + 1, p => stmtB (fun q => exprP r (q.l.length + 1) q) (blockB (stmtP r f)) p
def blockP (r : Bool) (f : Nat) (p : PS) : Nd × PS := blockB (stmtP r f) p
def itemsF : Nat → List Nd → PS → List Nd × PS
 | 0, ks, p => (ks, p)
 | f + 1, ks, p => if p.e ≠ 0 ∨ p.peek = [125] then (ks, p) else
  let a := nameP p
  let v := numberP (a.2.need [61])
  itemsF f (ks ++ [.mk 7 a.1 v.1 []]) (v.2.need [59])
def defKind (s : Str) : Int := if s = [] then -1 else (match (List.range 7).find? (fun i => decide (wordsL.getD i [] = s)) with | some i => (i : Int) | none => -1)
def defP (r : Bool) (p : PS) : Nd × PS :=
 let k := defKind p.peek
 if k < 0 then (.mk 0 [] 0 [], p.fail 2) else
 let a := nameP p.skip
 if k = 5 ∨ k = 6 then (.mk k a.1 0 [(blockP r (a.2.l.length + 1) a.2).1], (blockP r (a.2.l.length + 1) a.2).2)
 else if k = 1 then
  let q := a.2.need [123]
  let t := itemsF (q.l.length + 1) [] q
  (.mk k a.1 0 t.1, t.2.need [125])
 else if k = 0 then (.mk k a.1 (numberP (a.2.need [61])).1 [], (numberP (a.2.need [61])).2.need [59])
 else if k = 2 then (.mk k a.1 (numeralP 2 a.2).1 [], (numeralP 2 a.2).2.need [59])
 else (.mk k a.1 0 [], a.2.need [59])
def parseS (s : Str) : Nd × Int × Int :=
 if 1024 < s.length then (zeroNd, 1024, 4) else
 let t := scanS s
 let r := defP false ⟨t.1, 0⟩
 match r.2.l with
 | x :: _ => (zeroNd, x.at_, if r.2.e ≠ 0 then r.2.e else 2)
 | [] => if r.2.e ≠ 0 ∨ t.2 < s.length then (zeroNd, t.2, 2) else if validB r.1 then (r.1, 0, 0) else (zeroNd, 0, 4)
example : (parseS [118, 97, 114, 32, 110, 61, 45, 55, 59]).1 = .mk 0 [110] (-7) [] := by decide
example : parseS [99, 104, 97, 110, 32, 99, 32, 52, 59] = (zeroNd, 7, 5) := by decide
example : parseS [116, 101, 115, 116, 32, 116, 32, 123, 32, 120, 32, 61, 32, 59, 32, 125] = (zeroNd, 13, 2) := by decide
example : parseS [108, 111, 99, 107, 32, 108] = (zeroNd, 6, 2) := by decide
example : parseS [118, 97, 114, 32, 114, 101, 97, 100, 32, 61, 32, 49, 59] = (zeroNd, 4, 2) := by decide
example : sizeN (parseS [112, 114, 111, 99, 32, 112, 123, 36, 97, 61, 40, 120, 46, 121, 43, 49, 41, 42, 50, 59, 105, 102, 32, 36, 97, 60, 51, 123, 103, 111, 32, 113, 59, 125, 101, 108, 115, 101, 123, 125, 125]).1 = 15 := by decide
example : printS (parseS [112, 114, 111, 99, 32, 112, 123, 36, 97, 61, 40, 120, 46, 121, 43, 49, 41, 42, 50, 59, 105, 102, 32, 36, 97, 60, 51, 123, 103, 111, 32, 113, 59, 125, 101, 108, 115, 101, 123, 125, 125]).1 = [112, 114, 111, 99, 32, 112, 32, 123, 32, 36, 97, 32, 61, 32, 40, 120, 46, 121, 32, 43, 32, 49, 41, 32, 42, 32, 50, 59, 32, 105, 102, 32, 36, 97, 32, 60, 32, 51, 32, 123, 32, 103, 111, 32, 113, 59, 32, 125, 32, 101, 108, 115, 101, 32, 123, 32, 125, 32, 125] := by decide
end Go.Eng
namespace Go.Eng
def callL : List Str := [[97], [98], [120], [98, 111, 120], [113], [119, 50], [99, 104, 101, 99, 107, 115], [108, 111, 110, 103, 101, 115, 116, 110, 97, 109, 101, 49, 50, 51, 52, 53]]
def ownL : List Str := [[97], [105], [114, 101, 97, 100], [108, 111, 110, 103, 101, 115, 116, 108, 111, 99, 97, 108, 49, 50, 51, 52]]
def callM (L : List Int) (i : Nat) : Str := callL.getD (atL L i 8).toNat []
def ownM (L : List Int) (i : Nat) : Str := ownL.getD (atL L i 4).toNat []
def placeM (L : List Int) (i : Nat) : Nd × Nat := if 0 < atL L i 3 then (.mk 34 (callM L (i + 1)) 0 [], i + 2) else (.mk 35 (callM L (i + 1) ++ 46 :: callM L (i + 2)) 0 [], i + 3)
def numsM : List Int := [0, 1, 2, 7, 10, 999]
def valueM (L : List Int) : Nat → Nat → Nd × Nat
 | d, i =>
  let k := if d = 0 ∨ L.length < i + 1 then (atL L i 12).tmod 6 else atL L i 12
  if k = 0 ∨ k = 1 then (.mk 32 [] (numsM.getD (atL L (i + 1) 6).toNat 0) [], i + 2)
  else if k = 2 then (.mk 33 (ownM L (i + 1)) 0 [], i + 2)
  else if k = 3 ∨ k = 4 then placeM L (i + 1)
  else if k = 5 then (.mk 36 [] 0 [], i + 1)
  else match d with
   | 0 => default
   | e + 1 => (.mk (26 + k - 6) [] 0 [(valueM L e (i + 1)).1, (valueM L e (valueM L e (i + 1)).2).1], (valueM L e (valueM L e (i + 1)).2).2)
def somesM (L : List Int) (st : Nat → Nd × Nat) : Nat → List Nd → Nat → List Nd × Nat
 | 0, ks, i => (ks, i)
 | m + 1, ks, i => if L.length ≤ i then (ks, i) else somesM L st m (ks ++ [(st i).1]) (st i).2
def someM (L : List Int) (st : Nat → Nd × Nat) (i : Nat) : Nd × Nat :=
 let r := somesM L st (atL L i 4).toNat [] (i + 1)
 (.mk 8 [] 0 r.1, r.2)
def oneB (L : List Int) (d : Nat) (bl : Nat → Nd × Nat) (i0 : Nat) : Nd × Nat :=
 let k0 := 9 + atL L i0 17
 let k := if d = 0 ∧ (k0 = 11 ∨ k0 = 12) then 24 else k0
 let i := i0 + 1
 if k = 9 then (.mk k (ownM L i) 0 [(valueM L 2 (i + 1)).1], (valueM L 2 (i + 1)).2)
 else if k = 10 then (.mk k [] 0 [(placeM L i).1, (valueM L 2 (placeM L i).2).1], (valueM L 2 (placeM L i).2).2)
 else if k = 11 ∨ k = 12 then
  let e := valueM L 1 i
  let b := bl e.2
  if k = 11 then (if atL L b.2 2 = 0 then (.mk k [] 0 [e.1, b.1, (bl (b.2 + 1)).1], (bl (b.2 + 1)).2) else (.mk k [] 0 [e.1, b.1], b.2 + 1))
  else (.mk k [] 0 [e.1, b.1], b.2)
 else if k = 13 ∨ k = 14 ∨ k = 17 ∨ k = 18 then (.mk k (callM L i) 0 [], i + 1)
 else if k = 15 ∨ k = 22 then (.mk k (callM L i) 0 [(valueM L 1 (i + 1)).1], (valueM L 1 (i + 1)).2)
 else if k = 16 ∨ k = 23 then (.mk k (callM L i) 0 [.mk 33 (ownM L (i + 1)) 0 []], i + 2)
 else if k = 19 then (.mk k (ownM L i) (2 + atL L (i + 1) 5) [], i + 2)
 else if k = 20 then (.mk k (ownM L i) 0 [], i + 1)
 else if k = 21 then (.mk k [] (1 + atL L i 9) [], i + 1)
 else if k = 25 then (.mk k [] (1 + atL L i 99) [], i + 1)
 else (.mk k [] 0 [(valueM L 2 i).1], (valueM L 2 i).2)
def oneM (L : List Int) : Nat → Nat → Nd × Nat
 | 0, i => oneB L 0 (fun _ => default) i
 | d + 1, i => oneB L (d + 1) (someM L (oneM L d)) i
def treeKinds : List Int := [5, 6, 5, 6, 5, 0, 1, 2, 3, 4]
def bodyM (L : List Int) : Nat → List Nd → Nat → List Nd
 | 0, ks, _ => ks
 | m + 1, ks, i => if L.length ≤ i then ks else bodyM L m (ks ++ [(oneM L 2 i).1]) (oneM L 2 i).2
def itemsM (L : List Int) : Nat → List Nd
 | 0 => []
 | j + 1 => itemsM L j ++ [.mk 7 (callM L (3 + 2 * j)) (atL L (4 + 2 * j) 1999 - 999) []]
def treeB (L : List Int) : Nd :=
 let k := treeKinds.getD (atL L 0 10).toNat 0
 let t := callM L 1
 if k = 0 then .mk k t (atL L 2 1999 - 999) []
 else if k = 2 then .mk k t (atL L 2 4) []
 else if k = 1 then .mk k t 0 (itemsM L (atL L 2 4).toNat)
 else if k = 5 ∨ k = 6 then .mk k t 0 [.mk 8 [] 0 (bodyM L L.length [] 2)]
 else .mk k t 0 []
def treeS (l : List Int) : Nd := treeB (l.take 48)
end Go.Eng
namespace Go.Eng
def Stk {α : Type} (x : PS → α × PS) : Prop := ∀ p, (x p).2.e = 0 → p.e = 0
theorem fail_e {p : PS} {e : Int} (he : e ≠ 0) : (p.fail e).e ≠ 0 := by
 unfold PS.fail; split
 ·exact he
 ·assumption
theorem need_e {p : PS} {s : Str} (h : (p.need s).e = 0) : p.is s = true ∧ p.e = 0 := by
 unfold PS.need at h
 split at h
 ·rename_i q; exact ⟨q, h⟩
 ·exact absurd h (fail_e (by decide))
theorem nameP_stk : Stk nameP := fun p h => by
 unfold nameP at h
 split at h
 ·exact h
 ·exact absurd h (fail_e (by decide))
theorem localP_stk : Stk localP := fun p h => by
 unfold localP at h
 split at h
 ·exact h
 ·exact absurd h (fail_e (by decide))
theorem numeralP_stk (k : Int) : Stk (numeralP k) := fun p h => by
 unfold numeralP at h
 split at h
 ·exact absurd h (fail_e (by decide))
 ·split at h
  ·split at h
   ·exact absurd h (fail_e (by decide))
   ·exact h
  ·exact absurd h (fail_e (by decide))
theorem numberP_stk : Stk numberP := fun p h => by
 unfold numberP at h
 split at h
 ·exact numeralP_stk 0 p.skip h
 ·exact numeralP_stk 0 _ h
theorem placeP_stk : Stk placeP := fun p h => by
 unfold placeP at h
 split at h
 ·exact nameP_stk p (nameP_stk (nameP p).2.skip h)
 ·exact nameP_stk p h
theorem opP_stk (lv : Int) : Stk (opP lv) := fun p h => by
 unfold opP at h
 simp only at h
 split at h <;> exact h
theorem chainF_stk {lv : Int} {x : PS → Nd × PS} (hx : Stk x) : ∀ (f : Nat) (n : Nd) (p : PS), (chainF lv x f n p).2.e = 0 → p.e = 0
 | 0, _, _, h => h
 | f + 1, n, p, h => by
  unfold chainF at h
  split at h
  ·exact h
  ·rename_i q; simpa using q
theorem chainP_stk {lv : Int} {x : PS → Nd × PS} (hx : Stk x) : Stk (chainP lv x) := fun p h => hx p (chainF_stk hx _ _ _ h)
theorem factP_stk {ex : PS → Nd × PS} (hx : Stk ex) : Stk (factP ex) := fun p h => by
 unfold factP at h
 split at h
 ·exact hx p.skip (need_e h).2
 ·split at h
  ·exact h
  ·split at h
   ·split at h
    ·exact numeralP_stk 32 p h
    ·split at h
     ·exact localP_stk p h
     ·exact placeP_stk p h
   ·exact placeP_stk p h
theorem sumP_stk {ex : PS → Nd × PS} (hx : Stk ex) : Stk (sumP ex) := chainP_stk (chainP_stk (factP_stk hx))
theorem exprB_stk {ex : PS → Nd × PS} (hx : Stk ex) : Stk (exprB ex) := fun p h => by
 unfold exprB at h
 simp only at h
 split at h
 ·exact sumP_stk hx p (opP_stk 1 _ (sumP_stk hx _ h))
 ·exact sumP_stk hx p (opP_stk 1 _ h)
theorem exprP_stk (r : Bool) : ∀ f, Stk (exprP r f)
 | 0 => fun p h => h
 | f + 1 => fun p h => by
  unfold exprP at h
  split at h
  ·exact h
  ·exact exprB_stk (exprP_stk r f) p h
theorem stmtsF_stk {st : PS → Nd × PS} (hs : Stk st) : ∀ (f : Nat) (ks : List Nd) (p : PS), (stmtsF st f ks p).2.e = 0 → p.e = 0
 | 0, _, _, h => h
 | f + 1, ks, p, h => by
  unfold stmtsF at h
  split at h
  ·exact h
  ·exact hs p (stmtsF_stk hs f _ _ h)
theorem blockB_stk {st : PS → Nd × PS} (hs : Stk st) : Stk (blockB st) := fun p h => by
 unfold blockB at h
 exact (need_e (stmtsF_stk hs _ _ _ (need_e h).2)).2
theorem cmdP_stk {ex : PS → Nd × PS} (hx : Stk ex) (k : Int) : Stk (cmdP ex k) := fun p h => by
 have ha : (if k = 19 ∨ k = 20 then localP p else if k = 21 ∨ k = 25 ∨ k = 24 then ([], p) else nameP p).2.e = 0 → p.e = 0 := fun h => by
  split at h
  ·exact localP_stk p h
  ·split at h
   ·exact h
   ·exact nameP_stk p h
 unfold cmdP at h
 generalize (if k = 19 ∨ k = 20 then localP p else if k = 21 ∨ k = 25 ∨ k = 24 then ([], p) else nameP p) = a at h ha
 simp only at h
 split at h
 ·exact ha (hx _ h)
 ·split at h
  ·exact ha (localP_stk _ h)
  ·split at h
   ·exact ha (numeralP_stk _ _ h)
   ·exact ha h
theorem stmtB_stk {ex bl : PS → Nd × PS} (hx : Stk ex) (hb : Stk bl) : Stk (stmtB ex bl) := fun p h => by
 unfold stmtB at h
 simp only at h
 split at h
 ·split at h
  ·exact hx p.skip (hb _ (hb (bl (ex p.skip).2).2.skip h))
  ·exact hx p.skip (hb _ h)
 ·split at h
  ·exact cmdP_stk hx _ p.skip (need_e h).2
  ·split at h
   ·exact localP_stk p (need_e (hx _ (need_e h).2)).2
   ·exact placeP_stk p (need_e (hx _ (need_e h).2)).2
theorem exprO_stk (r : Bool) : Stk fun q => exprP r (q.l.length + 1) q := fun p h => exprP_stk r _ p h
theorem stmtP_stk (r : Bool) : ∀ f, Stk (stmtP r f)
 | 0 => fun p h => h
 | f + 1 => fun p h => stmtB_stk (exprO_stk r) (blockB_stk (stmtP_stk r f)) p h
def Rl (x y : Nd × PS) : Prop := x.2 = y.2 ∧ (x.2.e = 0 → x.1 = y.1)
theorem Rl.refl (x : Nd × PS) : Rl x x := ⟨rfl, fun _ => rfl⟩
end Go.Eng
namespace Go.Eng
theorem runP_take (p : UInt8 → Bool) : ∀ (s : Str) (n : Nat), runP p (s.take n) = min n (runP p s)
 | [], n => by simp [runP]
 | c :: r, 0 => by simp [runP]
 | c :: r, n + 1 => by
  rw [List.take_succ_cons]
  unfold runP
  split
  ·rw [runP_take p r n]; omega
  ·simp
def tokB (s : Str) : Prop := s ≠ [] ∧ nextN s = s.length
theorem wordN_pos {s : Str} (h : 0 < wordN s) : ∃ c r, s = c :: r ∧ letterB c = true ∧ wordN s = runP (fun c => letterB c || digitB c) s ∧ wordN s ≤ 16 := by
 cases s with
 | nil => simp [wordN] at h
 | cons c r =>
  refine ⟨c, r, rfl, ?_⟩
  unfold wordN at h ⊢
  by_cases q : letterB c = true
  ·simp only [q, if_true] at h ⊢
   by_cases q2 : runP (fun c => letterB c || digitB c) (c :: r) ≤ 16
   ·simp only [q2, if_true, true_and] at h ⊢
   ·simp [q2] at h
  ·simp [q] at h
theorem wordN_le (s : Str) : wordN s ≤ s.length := by
 rcases Nat.eq_zero_or_pos (wordN s) with h | h
 ·omega
 ·obtain ⟨c, r, _, _, h2, _⟩ := wordN_pos h
  rw [h2]; exact runP_le _ _
theorem wordN_take {s : Str} (h : 0 < wordN s) : wordN (s.take (wordN s)) = wordN s := by
 obtain ⟨c, r, rfl, h1, h2, h3⟩ := wordN_pos h
 obtain ⟨m, hm⟩ : ∃ m, wordN (c :: r) = m + 1 := ⟨wordN (c :: r) - 1, by omega⟩
 have e := runP_take (fun c => letterB c || digitB c) (c :: r) (wordN (c :: r))
 rw [hm] at e ⊢
 rw [List.take_succ_cons] at e ⊢
 unfold wordN
 simp only [h1, if_true]
 rw [e, ← h2, hm, Nat.min_self, if_pos (by omega)]
theorem nextN_le (s : Str) : nextN s ≤ s.length := by
 unfold nextN
 cases s with
 | nil => simp
 | cons c r =>
  simp only
  split
  ·exact wordN_le _
  ·split
   ·split
    ·have := wordN_le r; simp only [List.length_cons]; omega
    ·simp
   ·split
    ·split
     ·exact runP_le _ _
     ·simp
    ·split
     ·rename_i h
      have : (List.take 2 (c :: r)).length = 2 := by rcases h with h | h <;> rw [h] <;> rfl
      rw [List.length_take] at this
      omega
     ·split <;> simp
theorem nextN_tok {s : Str} (h : 0 < nextN s) : tokB (s.take (nextN s)) := by
 have hl := nextN_le s
 have hlen : (s.take (nextN s)).length = nextN s := by rw [List.length_take]; omega
 refine ⟨fun e => by rw [e] at hlen; simp at hlen; omega, ?_⟩
 rw [hlen]
 cases s with
 | nil => simp [nextN] at h
 | cons c r =>
  obtain ⟨m, hm⟩ : ∃ m, nextN (c :: r) = m + 1 := ⟨nextN (c :: r) - 1, by omega⟩
  rw [hm, List.take_succ_cons]
  have hm' := hm
  unfold nextN at hm' ⊢
  simp only at hm' ⊢
  by_cases q1 : letterB c = true
  ·rw [if_pos q1] at hm' ⊢
   have := wordN_take (s := c :: r) (by omega)
   rw [hm', List.take_succ_cons] at this
   exact this
  ·rw [if_neg q1] at hm' ⊢
   by_cases q2 : c = 36
   ·rw [if_pos q2] at hm' ⊢
    by_cases q3 : 0 < wordN r
    ·rw [if_pos q3] at hm'
     have := wordN_take q3
     have e : m = wordN r := by omega
     rw [e, this, if_pos q3]
    ·rw [if_neg q3] at hm'; omega
   ·rw [if_neg q2] at hm' ⊢
    by_cases q3 : digitB c = true
    ·rw [if_pos q3] at hm' ⊢
     have e := runP_take digitB (c :: r) (m + 1)
     rw [List.take_succ_cons] at e
     by_cases q4 : runP digitB (c :: r) ≤ 3
     ·rw [if_pos q4] at hm'
      rw [e, hm', Nat.min_self, if_pos (by omega)]
     ·rw [if_neg q4] at hm'; omega
    ·rw [if_neg q3] at hm' ⊢
     by_cases q4 : List.take 2 (c :: r) = [60, 61] ∨ List.take 2 (c :: r) = [61, 61]
     ·rw [if_pos q4] at hm'
      have e : m = 1 := by omega
      have e2 : List.take 2 (c :: List.take m r) = List.take 2 (c :: r) := by rw [e]; cases r <;> simp
      rw [e2, if_pos q4, e]
     ·rw [if_neg q4] at hm'
      by_cases q5 : c ∈ signs
      ·rw [if_pos q5] at hm'
       have e : m = 0 := by omega
       subst e
       rw [if_neg (by simp), if_pos q5]
      ·rw [if_neg q5] at hm'; omega
def GoodT (l : List Tk) : Prop := ∀ t ∈ l, tokB t.text
theorem scanF_good : ∀ (f : Nat) (s : Str) (i : Int), GoodT (scanF f s i).1
 | 0, _, _ => fun t h => by cases h
 | f + 1, s, i => by
  unfold scanF
  split
  ·exact fun t h => by cases h
  ·split
   ·exact scanF_good f _ _
   ·split
    ·exact fun t h => by cases h
    ·rename_i q
     intro t h
     rcases List.mem_cons.1 h with h | h
     ·rw [h]; exact nextN_tok (by omega)
     ·exact scanF_good f _ _ t h
theorem tok_name {s : Str} (h : tokB s) (hn : isNameB s = true) : wholeB s true = true := by
 obtain ⟨h1, h2⟩ := h
 cases s with
 | nil => exact absurd rfl h1
 | cons c r =>
  have hl : letterB c = true := by simp only [isNameB, Bool.and_eq_true] at hn; exact hn.1
  unfold nextN at h2
  simp only [hl, if_true] at h2
  unfold wholeB
  rw [h2, hn]
  simp
theorem tok_local {r : Str} (h : tokB (36 :: r)) : wholeB r false = true := by
 obtain ⟨_, h2⟩ := h
 unfold nextN at h2
 simp only [show letterB 36 = false by decide, Bool.false_eq_true, if_false, if_true] at h2
 split at h2
 ·rename_i q
  have e : wordN r = r.length := by simpa using h2
  unfold wholeB
  rw [e]
  have : r ≠ [] := fun e => by rw [e] at q; simp [wordN] at q
  simp [this]
 ·simp at h2
theorem whole_bytes {s : Str} {b : Bool} (h : wholeB s b = true) : ∀ c ∈ s, letterB c = true ∨ digitB c = true := by
 unfold wholeB at h
 simp only [Bool.and_eq_true, decide_eq_true_eq] at h
 obtain ⟨⟨h1, h2⟩, _⟩ := h
 have hp : 0 < wordN s := by rw [h2]; exact List.length_pos_iff.2 h1
 obtain ⟨c, r, _, _, h3, _⟩ := wordN_pos hp
 intro d hd
 obtain ⟨i, hi, rfl⟩ := List.mem_iff_getElem.1 hd
 have := runP_all (p := fun c => letterB c || digitB c) hi (by rw [← h3, h2]; exact hi)
 simpa using this
theorem cutAt_app {c : UInt8} : ∀ {a : Str} (b : Str), c ∉ a → cutAt c (a ++ c :: b) = some (a, b)
 | [], b, _ => by simp [cutAt]
 | d :: a, b, h => by
  have h1 : d ≠ c := fun e => h (by rw [e]; exact List.mem_cons_self ..)
  rw [List.cons_append, cutAt, if_neg h1, cutAt_app b fun q => h (List.mem_cons_of_mem _ q)]
  rfl
theorem field_ok {a b : Str} (ha : wholeB a true = true) (hb : wholeB b true = true) : fieldB (a ++ 46 :: b) = true := by
 unfold fieldB
 rw [cutAt_app b fun h => by rcases whole_bytes ha _ h with q | q <;> exact absurd q (by decide)]
 simp [ha, hb]
def Rt (n : Nat) (cls : Int → Bool) (x : PS → Nd × PS) : Prop := ∀ p, p.l.length < n → GoodT p.l → (x p).2.l.length ≤ p.l.length ∧ GoodT (x p).2.l ∧ ((x p).2.e = 0 → rightN (x p).1 = true ∧ cls (x p).1.kind = true)
theorem fail_l {p : PS} {e : Int} : (p.fail e).l = p.l := by unfold PS.fail; split <;> rfl
theorem good_fail {p : PS} {e : Int} (h : GoodT p.l) : GoodT (p.fail e).l := by rw [fail_l]; exact h
theorem good_skip {p : PS} (h : GoodT p.l) : GoodT p.skip.l := fun t ht => h t (List.mem_of_mem_tail ht)
theorem skip_len {p : PS} : p.skip.l.length ≤ p.l.length := by simp [PS.skip]
theorem peek_len {p : PS} (h : p.peek ≠ []) : p.skip.l.length + 1 = p.l.length := by
 unfold PS.peek at h
 split at h
 ·exact absurd rfl h
 ·unfold PS.skip
  cases e : p.l with
  | nil => rw [e] at h; exact absurd rfl h
  | cons t r => rfl
theorem is_len {p : PS} {s : Str} (h : p.is s = true) : p.skip.l.length + 1 = p.l.length := by
 unfold PS.is at h
 simp only [Bool.and_eq_true, decide_eq_true_eq] at h
 exact peek_len (by rw [h.2]; exact h.1)
theorem good_need {p : PS} {s : Str} (h : GoodT p.l) : (p.need s).l.length ≤ p.l.length ∧ GoodT (p.need s).l := by
 unfold PS.need
 split
 ·exact ⟨skip_len, good_skip h⟩
 ·exact ⟨by rw [fail_l]; exact Nat.le_refl _, good_fail h⟩
theorem peek_tok {p : PS} (h : GoodT p.l) (hp : p.peek ≠ []) : tokB p.peek := by
 unfold PS.peek at hp ⊢
 split
 ·rename_i q; rw [if_pos q] at hp; exact absurd rfl hp
 ·rename_i q
  rw [if_neg q] at hp
  cases e : p.l with
  | nil => rw [e] at hp; exact absurd rfl hp
  | cons t r => exact h t (by rw [e]; exact List.mem_cons_self ..)
theorem nameP_good {p : PS} (h : GoodT p.l) : (nameP p).2.l.length ≤ p.l.length ∧ GoodT (nameP p).2.l ∧ ((nameP p).2.e = 0 → wholeB (nameP p).1 true = true) := by
 unfold nameP
 split
 ·rename_i q
  refine ⟨skip_len, good_skip h, fun _ => tok_name (peek_tok h fun e => ?_) q⟩
  rw [e] at q; cases q
 ·exact ⟨by rw [fail_l]; exact Nat.le_refl _, good_fail h, fun he => absurd he (fail_e (by decide))⟩
theorem localP_good {p : PS} (h : GoodT p.l) : (localP p).2.l.length ≤ p.l.length ∧ GoodT (localP p).2.l ∧ ((localP p).2.e = 0 → wholeB (localP p).1 false = true) := by
 unfold localP
 split
 ·rename_i r q
  refine ⟨skip_len, good_skip h, fun _ => tok_local ?_⟩
  rw [← q]
  exact peek_tok h (by rw [q]; simp)
 ·exact ⟨by rw [fail_l]; exact Nat.le_refl _, good_fail h, fun he => absurd he (fail_e (by decide))⟩
theorem numeralP_good {k : Int} {p : PS} (h : GoodT p.l) : (numeralP k p).2.l.length ≤ p.l.length ∧ GoodT (numeralP k p).2.l ∧ ((numeralP k p).2.e = 0 → loAt k ≤ (numeralP k p).1 ∧ (numeralP k p).1 ≤ hiAt k) := by
 have bad : ∀ e : Int, e ≠ 0 → (p.fail e).l.length ≤ p.l.length ∧ GoodT (p.fail e).l ∧ ((p.fail e).e = 0 → loAt k ≤ 0 ∧ 0 ≤ hiAt k) := fun e q => ⟨by rw [fail_l]; exact Nat.le_refl _, good_fail h, fun he => absurd he (fail_e q)⟩
 unfold numeralP
 split
 ·exact bad 2 (by decide)
 ·split
  ·split
   ·exact bad 5 (by decide)
   ·rename_i q
    exact ⟨skip_len, good_skip h, fun _ => ⟨by simp only; omega, by simp only; omega⟩⟩
  ·exact bad 2 (by decide)
theorem numberP_good {p : PS} (h : GoodT p.l) : (numberP p).2.l.length ≤ p.l.length ∧ GoodT (numberP p).2.l ∧ ((numberP p).2.e = 0 → -999 ≤ (numberP p).1 ∧ (numberP p).1 ≤ 999) := by
 have hlo : loAt 0 = -999 := rfl
 have hhi : hiAt 0 = 999 := rfl
 unfold numberP
 split
 ·obtain ⟨h0, h1, h2⟩ := numeralP_good (k := 0) (good_skip h)
  exact ⟨Nat.le_trans h0 skip_len, h1, fun he => by have := h2 he; simp only; omega⟩
 ·obtain ⟨h0, h1, h2⟩ := numeralP_good (k := 0) h
  exact ⟨h0, h1, fun he => by have := h2 he; omega⟩
theorem placeP_rt (n : Nat) : Rt n isPlaceK placeP := fun p _ h => by
 obtain ⟨h0, h1, h2⟩ := nameP_good h
 unfold placeP
 split
 ·obtain ⟨g0, h3, h4⟩ := nameP_good (good_skip h1)
  refine ⟨Nat.le_trans g0 (Nat.le_trans skip_len h0), h3, fun he => ⟨?_, rfl⟩⟩
  have ha := h2 (nameP_stk (nameP p).2.skip he)
  simp [rightN, rightL, shapedB, shapedK, kidsB, wordedB, wordedK, loAt, hiAt, boundsL, textB, field_ok ha (h4 he)]
 ·refine ⟨h0, h1, fun he => ⟨?_, rfl⟩⟩
  simp [rightN, rightL, shapedB, shapedK, kidsB, wordedB, wordedK, loAt, hiAt, boundsL, textB, h2 he]
theorem opI_range (lv : Int) (s : Str) : -1 ≤ opI lv s ∧ opI lv s ≤ 5 := by
 unfold opI
 split
 ·rename_i i q
  have := List.mem_range.1 (List.mem_of_find?_eq_some q)
  omega
 ·omega
theorem good_op {lv : Int} {p : PS} (h : GoodT p.l) : (opP lv p).2.l.length ≤ p.l.length ∧ GoodT (opP lv p).2.l := by
 unfold opP
 simp only
 split
 ·exact ⟨skip_len, good_skip h⟩
 ·exact ⟨Nat.le_refl _, h⟩
theorem bin_right {k : Int} {n m : Nd} (h0 : 26 ≤ k) (h1 : k ≤ 31) (hn : rightN n = true ∧ isExprK n.kind = true) (hm : rightN m = true ∧ isExprK m.kind = true) : rightN (.mk k [] 0 [n, m]) = true ∧ isExprK (Nd.mk k [] 0 [n, m]).kind = true := by
 have hk : k = 26 ∨ k = 27 ∨ k = 28 ∨ k = 29 ∨ k = 30 ∨ k = 31 := by omega
 rcases hk with rfl | rfl | rfl | rfl | rfl | rfl <;> exact ⟨by simp [rightN, rightL, shapedB, shapedK, kidsB, wordedB, wordedK, loAt, hiAt, boundsL, textB, hn.1, hm.1, hn.2, hm.2], rfl⟩
theorem chainF_rt {m : Nat} {lv : Int} {x : PS → Nd × PS} (hx : Rt m isExprK x) : ∀ (f : Nat) (n : Nd) (p : PS), p.l.length < m → GoodT p.l → (p.e = 0 → rightN n = true ∧ isExprK n.kind = true) →
  (chainF lv x f n p).2.l.length ≤ p.l.length ∧ GoodT (chainF lv x f n p).2.l ∧ ((chainF lv x f n p).2.e = 0 → rightN (chainF lv x f n p).1 = true ∧ isExprK (chainF lv x f n p).1.kind = true)
 | 0, _, _, _, h, hn => ⟨Nat.le_refl _, h, hn⟩
 | f + 1, n, p, hl, h, hn => by
  unfold chainF
  split
  ·exact ⟨Nat.le_refl _, h, hn⟩
  ·rename_i q
   have hp : p.e = 0 := by simpa using q
   obtain ⟨g0, g1⟩ := good_op (lv := lv) h
   split
   ·exact ⟨g0, g1, fun _ => hn hp⟩
   ·rename_i q2
    have hr := opI_range lv p.peek
    have hr2 : 0 ≤ (opP lv p).1 ∧ (opP lv p).1 ≤ 5 := ⟨by omega, hr.2⟩
    obtain ⟨h0, h1, h2⟩ := hx _ (by omega) g1
    obtain ⟨k0, k1, k2⟩ := chainF_rt hx f (.mk (26 + (opP lv p).1) [] 0 [n, (x (opP lv p).2).1]) _ (by omega) h1 fun he => bin_right (by omega) (by omega) (hn hp) (h2 he)
    exact ⟨by omega, k1, k2⟩
theorem chainP_rt {m : Nat} {lv : Int} {x : PS → Nd × PS} (hx : Rt m isExprK x) : Rt m isExprK (chainP lv x) := fun p hl h => by
 obtain ⟨h0, h1, h2⟩ := hx p hl h
 obtain ⟨k0, k1, k2⟩ := chainF_rt (lv := lv) hx ((x p).2.l.length + 1) _ _ (by omega) h1 h2
 exact ⟨by unfold chainP; omega, k1, k2⟩
theorem place_expr {k : Int} (h : isPlaceK k = true) : isExprK k = true := by
 unfold isPlaceK at h
 simp only [Bool.or_eq_true, decide_eq_true_eq] at h
 rcases h with rfl | rfl <;> rfl
theorem factP_rt {m : Nat} {ex : PS → Nd × PS} (hx : Rt m isExprK ex) : Rt (m + 1) isExprK (factP ex) := fun p hl h => by
 have hpl := placeP_rt (m + 1) p hl h
 have hpl2 : (placeP p).2.l.length ≤ p.l.length ∧ GoodT (placeP p).2.l ∧ ((placeP p).2.e = 0 → rightN (placeP p).1 = true ∧ isExprK (placeP p).1.kind = true) := ⟨hpl.1, hpl.2.1, fun he => ⟨(hpl.2.2 he).1, place_expr (hpl.2.2 he).2⟩⟩
 unfold factP
 split
 ·rename_i q
  have hk := is_len q
  obtain ⟨h0, h1, h2⟩ := hx p.skip (by omega) (good_skip h)
  obtain ⟨g0, g1⟩ := good_need (s := [41]) h1
  exact ⟨by simp only; omega, g1, fun he => h2 (need_e he).2⟩
 ·split
  ·exact ⟨skip_len, good_skip h, fun _ => ⟨by show rightN (Nd.mk 36 [] 0 []) = true; decide, rfl⟩⟩
  ·split
   ·split
    ·obtain ⟨h0, h1, h2⟩ := numeralP_good (k := 32) h
     refine ⟨h0, h1, fun he => ⟨?_, rfl⟩⟩
     have := h2 he
     have hlo : loAt 32 = 0 := rfl
     have hhi : hiAt 32 = 999 := rfl
     rw [hlo, hhi] at this
     simp [rightN, rightL, shapedB, shapedK, kidsB, wordedB, wordedK, hlo, hhi, textB, this]
    ·split
     ·obtain ⟨h0, h1, h2⟩ := localP_good h
      refine ⟨h0, h1, fun he => ⟨?_, rfl⟩⟩
      simp [rightN, rightL, shapedB, shapedK, kidsB, wordedB, wordedK, loAt, hiAt, boundsL, textB, h2 he]
     ·exact hpl2
   ·exact hpl2
theorem sumP_rt {m : Nat} {ex : PS → Nd × PS} (hx : Rt m isExprK ex) : Rt (m + 1) isExprK (sumP ex) := chainP_rt (chainP_rt (factP_rt hx))
theorem exprB_rt {m : Nat} {ex : PS → Nd × PS} (hs : Stk ex) (hx : Rt m isExprK ex) : Rt (m + 1) isExprK (exprB ex) := fun p hl h => by
 obtain ⟨h0, h1, h2⟩ := sumP_rt hx p hl h
 obtain ⟨g0, g1⟩ := good_op (lv := 1) h1
 unfold exprB
 simp only
 split
 ·rename_i q
  have hr := opI_range 1 (sumP ex p).2.peek
  have hr2 : (opP 1 (sumP ex p).2).1 ≤ 5 := hr.2
  obtain ⟨k0, h3, h4⟩ := sumP_rt hx _ (by omega) g1
  exact ⟨by simp only; omega, h3, fun he => bin_right (by omega) (by omega) (h2 (opP_stk 1 _ (sumP_stk hs _ he))) (h4 he)⟩
 ·exact ⟨by simp only; omega, g1, fun he => h2 (opP_stk 1 _ he)⟩
theorem exprP_rt : ∀ f, Rt f isExprK (exprP false f)
 | 0 => fun p h => by omega
 | f + 1 => fun p hl h => by
  unfold exprP
  rw [if_neg (by simp)]
  exact exprB_rt (exprP_stk false f) (exprP_rt f) p hl h
theorem exprO_rt (n : Nat) : Rt n isExprK fun q => exprP false (q.l.length + 1) q := fun p _ h => exprP_rt (p.l.length + 1) p (by omega) h
theorem stmtsF_rt {m : Nat} {st : PS → Nd × PS} (hs : Stk st) (hx : Rt m isStmtK st) : ∀ (f : Nat) (ks : List Nd) (p : PS), p.l.length < m → GoodT p.l → (p.e = 0 → ∀ x ∈ ks, rightN x = true ∧ isStmtK x.kind = true) →
  (stmtsF st f ks p).2.l.length ≤ p.l.length ∧ GoodT (stmtsF st f ks p).2.l ∧ ((stmtsF st f ks p).2.e = 0 → ∀ x ∈ (stmtsF st f ks p).1, rightN x = true ∧ isStmtK x.kind = true)
 | 0, _, _, _, h, hn => ⟨Nat.le_refl _, h, hn⟩
 | f + 1, ks, p, hl, h, hn => by
  unfold stmtsF
  split
  ·exact ⟨Nat.le_refl _, h, hn⟩
  ·obtain ⟨h0, h1, h2⟩ := hx p hl h
   obtain ⟨k0, k1, k2⟩ := stmtsF_rt hs hx f (ks ++ [(st p).1]) _ (by omega) h1 fun he x hx => by
    rcases List.mem_append.1 hx with hx | hx
    ·exact hn (hs p he) x hx
    ·rw [List.mem_singleton.1 hx]; exact h2 he
   exact ⟨by omega, k1, k2⟩
theorem block_right {ks : List Nd} (h : ∀ x ∈ ks, rightN x = true ∧ isStmtK x.kind = true) : rightN (.mk 8 [] 0 ks) = true :=
 right_mk.2 ⟨by decide, by decide, List.all_eq_true.2 fun x hx => (h x hx).2, by decide, by decide, rfl, fun x hx => (h x hx).1⟩
theorem blockB_rt {m : Nat} {st : PS → Nd × PS} (hs : Stk st) (hx : Rt m isStmtK st) : Rt m isBlockK (blockB st) := fun p hl h => by
 obtain ⟨g0, g1⟩ := good_need (s := [123]) h
 obtain ⟨k0, k1, k2⟩ := stmtsF_rt hs hx ((p.need [123]).l.length + 1) [] (p.need [123]) (by omega) g1 (fun _ x h => by cases h)
 obtain ⟨q0, q1⟩ := good_need (s := [125]) k1
 unfold blockB
 exact ⟨by simp only; omega, q1, fun he => ⟨block_right (k2 (need_e he).2), rfl⟩⟩
theorem kind_range {s : Str} (h : 12 < kindP s) : 13 ≤ kindP s ∧ kindP s ≤ 25 := by
 unfold kindP wordI at h ⊢
 split
 ·rename_i q; rw [if_pos q] at h; omega
 ·rename_i q
  rw [if_neg q] at h
  split
  ·rename_i i e
   rw [e] at h
   have := List.mem_range.1 (List.mem_of_find?_eq_some e)
   simp only at h
   omega
  ·rename_i e; rw [e] at h; simp only at h; omega
theorem cmdP_rt {m : Nat} {ex : PS → Nd × PS} (hs : Stk ex) (hx : Rt m isExprK ex) {k : Int} (hk : 13 ≤ k ∧ k ≤ 25) : Rt m isStmtK (cmdP ex k) := fun p hl h => by
 have ha : (if k = 19 ∨ k = 20 then localP p else if k = 21 ∨ k = 25 ∨ k = 24 then ([], p) else nameP p).2.l.length ≤ p.l.length ∧ GoodT (if k = 19 ∨ k = 20 then localP p else if k = 21 ∨ k = 25 ∨ k = 24 then ([], p) else nameP p).2.l ∧
   ((if k = 19 ∨ k = 20 then localP p else if k = 21 ∨ k = 25 ∨ k = 24 then ([], p) else nameP p).2.e = 0 → textB k (if k = 19 ∨ k = 20 then localP p else if k = 21 ∨ k = 25 ∨ k = 24 then ([], p) else nameP p).1 = true) := by
  split
  ·rename_i q
   obtain ⟨h0, h1, h2⟩ := localP_good h
   exact ⟨h0, h1, fun he => by rcases q with rfl | rfl <;> simp [textB, h2 he]⟩
  ·split
   ·rename_i q
    exact ⟨Nat.le_refl _, h, fun _ => by rcases q with rfl | rfl | rfl <;> rfl⟩
   ·rename_i q1 q2
    obtain ⟨h0, h1, h2⟩ := nameP_good h
    exact ⟨h0, h1, fun he => by unfold textB; rw [if_neg (by omega), if_neg (by omega), if_neg (by omega)]; exact h2 he⟩
 unfold cmdP
 generalize (if k = 19 ∨ k = 20 then localP p else if k = 21 ∨ k = 25 ∨ k = 24 then ([], p) else nameP p) = a at ha
 obtain ⟨a0, a1, a2⟩ := ha
 simp only
 have lo : ∀ {n : Int}, (k = 19 ∨ k = 21 ∨ k = 25 → loAt k ≤ n ∧ n ≤ hiAt k) → (¬ (k = 19 ∨ k = 21 ∨ k = 25) → n = 0) → loAt k ≤ n ∧ n ≤ hiAt k := fun {n} h1 h2 => by
  by_cases q : k = 19 ∨ k = 21 ∨ k = 25
  ·exact h1 q
  ·rw [h2 q]
   have : k = 13 ∨ k = 14 ∨ k = 15 ∨ k = 16 ∨ k = 17 ∨ k = 18 ∨ k = 20 ∨ k = 22 ∨ k = 23 ∨ k = 24 := by omega
   rcases this with rfl | rfl | rfl | rfl | rfl | rfl | rfl | rfl | rfl | rfl <;> decide
 have mk : ∀ {t : Str} {n : Int} {ks : List Nd}, textB k t = true → loAt k ≤ n ∧ n ≤ hiAt k → shapedK k ks = true → (∀ x ∈ ks, rightN x = true) → rightN (.mk k t n ks) = true ∧ isStmtK (Nd.mk k t n ks).kind = true := fun {t n ks} h1 h2 h3 h4 => by
  exact ⟨right_mk.2 ⟨by omega, by omega, h3, h2.1, h2.2, h1, h4⟩, show isStmtK k = true from isStmtK_iff.2 (by omega)⟩
 split
 ·rename_i q
  obtain ⟨h0, h1, h2⟩ := hx a.2 (by omega) a1
  refine ⟨by simp only; omega, h1, fun he => mk (a2 (hs _ he)) (lo (by omega) fun _ => rfl) ?_ fun x hx => by rw [List.mem_singleton.1 hx]; exact (h2 he).1⟩
  rcases q with rfl | rfl | rfl <;> simp [shapedK, kidsB, (h2 he).2]
 ·split
  ·rename_i q
   obtain ⟨h0, h1, h2⟩ := localP_good a1
   refine ⟨by simp only; omega, h1, fun he => mk (a2 (localP_stk _ he)) (lo (by omega) fun _ => rfl) ?_ fun x hx => ?_⟩
   ·rcases q with rfl | rfl <;> simp [shapedK, kidsB, isLocalK]
   ·rw [List.mem_singleton.1 hx]
    simp [rightN, rightL, shapedB, shapedK, kidsB, wordedB, wordedK, loAt, hiAt, boundsL, textB, h2 he]
  ·split
   ·rename_i q
    obtain ⟨h0, h1, h2⟩ := numeralP_good (k := k) a1
    refine ⟨by simp only; omega, h1, fun he => mk (a2 (numeralP_stk _ _ he)) (h2 he) ?_ fun x hx => by cases hx⟩
    rcases q with rfl | rfl | rfl <;> rfl
   ·rename_i q1 q2 q3
    refine ⟨a0, a1, fun he => mk (a2 he) (lo (fun q => absurd q q3) fun _ => rfl) ?_ fun x hx => by cases hx⟩
    have : k = 13 ∨ k = 14 ∨ k = 17 ∨ k = 18 ∨ k = 20 := by omega
    rcases this with rfl | rfl | rfl | rfl | rfl <;> rfl
theorem stmtB_rt {m : Nat} {ex bl : PS → Nd × PS} (hs : Stk ex) (ht : Stk bl) (hx : Rt (m + 1) isExprK ex) (hb : Rt m isBlockK bl) : Rt (m + 1) isStmtK (stmtB ex bl) := fun p hl h => by
 unfold stmtB
 simp only
 split
 ·rename_i q
  have hk : p.skip.l.length + 1 = p.l.length := peek_len fun e => by rw [e] at q; simp [kindP] at q
  obtain ⟨a0, a1, a2⟩ := hx p.skip (by omega) (good_skip h)
  obtain ⟨b0, b1, b2⟩ := hb (ex p.skip).2 (by omega) a1
  split
  ·rename_i q2
   have hk2 := is_len q2.2
   obtain ⟨c0, c1, c2⟩ := hb (bl (ex p.skip).2).2.skip (by omega) (good_skip b1)
   refine ⟨by simp only; omega, c1, fun he => ?_⟩
   have e2 := ht _ he
   have e1 := ht (ex p.skip).2 e2
   rw [q2.1]
   exact ⟨by simp [rightN, rightL, shapedB, shapedK, kidsB, wordedB, wordedK, loAt, hiAt, boundsL, textB, (a2 e1).1, (a2 e1).2, (b2 e2).1, (b2 e2).2, (c2 he).1, (c2 he).2], rfl⟩
  ·refine ⟨by simp only; omega, b1, fun he => ?_⟩
   have e1 := ht _ he
   rcases q with q | q <;> rw [q] <;> exact ⟨by simp [rightN, rightL, shapedB, shapedK, kidsB, wordedB, wordedK, loAt, hiAt, boundsL, textB, (a2 e1).1, (a2 e1).2, (b2 he).1, (b2 he).2], rfl⟩
 ·split
  ·rename_i q
   obtain ⟨a0, a1, a2⟩ := cmdP_rt hs hx (kind_range q) p.skip (by have := skip_len (p := p); omega) (good_skip h)
   obtain ⟨b0, b1⟩ := good_need (s := [59]) a1
   have := skip_len (p := p)
   exact ⟨by simp only; omega, b1, fun he => a2 (need_e he).2⟩
  ·split
   ·obtain ⟨a0, a1, a2⟩ := localP_good h
    obtain ⟨b0, b1⟩ := good_need (s := [61]) a1
    obtain ⟨c0, c1, c2⟩ := hx ((localP p).2.need [61]) (by omega) b1
    obtain ⟨d0, d1⟩ := good_need (s := [59]) c1
    refine ⟨by simp only; omega, d1, fun he => ?_⟩
    have e2 := (need_e he).2
    have e1 := (need_e (hs _ e2)).2
    exact ⟨by simp [rightN, rightL, shapedB, shapedK, kidsB, wordedB, wordedK, loAt, hiAt, boundsL, textB, a2 e1, (c2 e2).1, (c2 e2).2], rfl⟩
   ·obtain ⟨a0, a1, a2⟩ := placeP_rt (m + 1) p hl h
    obtain ⟨b0, b1⟩ := good_need (s := [61]) a1
    obtain ⟨c0, c1, c2⟩ := hx ((placeP p).2.need [61]) (by omega) b1
    obtain ⟨d0, d1⟩ := good_need (s := [59]) c1
    refine ⟨by simp only; omega, d1, fun he => ?_⟩
    have e2 := (need_e he).2
    have e1 := (need_e (hs _ e2)).2
    exact ⟨by simp [rightN, rightL, shapedB, shapedK, kidsB, wordedB, wordedK, loAt, hiAt, boundsL, textB, (a2 e1).1, (a2 e1).2, (c2 e2).1, (c2 e2).2], rfl⟩
theorem stmtP_rt : ∀ f, Rt f isStmtK (stmtP false f)
 | 0 => fun p h => by omega
 | f + 1 => fun p hl h => stmtB_rt (exprO_stk false) (blockB_stk (stmtP_stk false f)) (exprO_rt (f + 1)) (blockB_rt (stmtP_stk false f) (stmtP_rt f)) p hl h
end Go.Eng
namespace Go.Eng
def brkB (s : Str) : Bool := match s with | [] => true | c :: _ => !letterB c && !digitB c && decide (c ≠ 61)
theorem runP_app {p : UInt8 → Bool} : ∀ {t : Str} (s : Str), (∀ c ∈ t, p c = true) → runP p (t ++ s) = t.length + runP p s
 | [], s, _ => by simp
 | c :: t, s, h => by
  rw [List.cons_append, runP, if_pos (h c (List.mem_cons_self ..)), runP_app s fun d hd => h d (List.mem_cons_of_mem _ hd), List.length_cons]
  omega
theorem runP_full {p : UInt8 → Bool} {t : Str} (h : runP p t = t.length) : ∀ c ∈ t, p c = true := fun c hc => by
 obtain ⟨i, hi, rfl⟩ := List.mem_iff_getElem.1 hc
 exact runP_all hi (by omega)
theorem runP_brk {p : UInt8 → Bool} (hp : ∀ c, p c = true → letterB c = true ∨ digitB c = true) {s : Str} (hs : brkB s = true) : runP p s = 0 := by
 cases s with
 | nil => rfl
 | cons c r =>
  simp only [brkB, Bool.and_eq_true, Bool.not_eq_true'] at hs
  rw [runP, if_neg]
  intro h
  rcases hp c h with q | q
  ·rw [q] at hs; simp at hs
  ·rw [q] at hs; simp at hs
theorem wordN_app {t s : Str} (h : wordN t = t.length) (h0 : 0 < wordN t) (hs : brkB s = true) : wordN (t ++ s) = t.length := by
 obtain ⟨c, r, rfl, h1, h2, h3⟩ := wordN_pos h0
 have hall := runP_full (p := fun c => letterB c || digitB c) (by rw [← h2]; exact h)
 have hr : runP (fun c => letterB c || digitB c) (c :: r ++ s) = (c :: r).length := by
  rw [runP_app s hall, runP_brk (fun c hc => by simpa using hc) hs, Nat.add_zero]
 rw [List.cons_append] at hr ⊢
 unfold wordN
 simp only [h1, if_true]
 rw [hr, if_pos (by omega)]
theorem tok_stops {t s : Str} (ht : tokB t) (hs : brkB s = true) : nextN (t ++ s) = t.length := by
 obtain ⟨h0, h1⟩ := ht
 cases t with
 | nil => exact absurd rfl h0
 | cons c r =>
  have h1' := h1
  rw [List.cons_append]
  unfold nextN at h1 ⊢
  simp only at h1 ⊢
  by_cases q1 : letterB c = true
  ·rw [if_pos q1] at h1 ⊢
   exact wordN_app (t := c :: r) h1 (by rw [h1]; simp) hs
  ·rw [if_neg q1] at h1 ⊢
   by_cases q2 : c = 36
   ·rw [if_pos q2] at h1 ⊢
    by_cases q3 : 0 < wordN r
    ·rw [if_pos q3] at h1
     have e : wordN r = r.length := by simpa using h1
     rw [wordN_app e q3 hs, if_pos (by omega)]
     simp
    ·rw [if_neg q3] at h1; simp at h1
   ·rw [if_neg q2] at h1 ⊢
    by_cases q3 : digitB c = true
    ·rw [if_pos q3] at h1 ⊢
     by_cases q4 : runP digitB (c :: r) ≤ 3
     ·rw [if_pos q4] at h1
      have e : runP digitB (c :: (r ++ s)) = (c :: r).length := by
       rw [← List.cons_append, runP_app s (runP_full h1), runP_brk (fun c hc => .inr hc) hs, Nat.add_zero]
      rw [e, if_pos (by omega)]
     ·rw [if_neg q4] at h1; simp at h1
    ·rw [if_neg q3] at h1 ⊢
     by_cases q4 : List.take 2 (c :: r) = [60, 61] ∨ List.take 2 (c :: r) = [61, 61]
     ·rw [if_pos q4] at h1
      have hl : r.length = 1 := by simpa using h1.symm
      have e : List.take 2 (c :: (r ++ s)) = List.take 2 (c :: r) := by
       cases r with
       | nil => simp at hl
       | cons d u => simp
      rw [e, if_pos q4]
      exact h1
     ·rw [if_neg q4] at h1
      by_cases q5 : c ∈ signs
      ·rw [if_pos q5] at h1
       have hr : r = [] := by simpa using h1.symm
       subst hr
       rw [if_neg, if_pos q5]
       ·rfl
       ·cases s with
        | nil => simp
        | cons d u =>
         simp only [brkB, Bool.and_eq_true, decide_eq_true_eq] at hs
         simp [hs.2]
      ·rw [if_neg q5] at h1; simp at h1
theorem sign_stops {c : UInt8} (h : c = 40 ∨ c = 41 ∨ c = 123 ∨ c = 125 ∨ c = 59 ∨ c = 46 ∨ c = 45) (s : Str) : nextN (c :: s) = 1 := by
 unfold nextN
 rcases h with rfl | rfl | rfl | rfl | rfl | rfl | rfl <;> cases s <;> simp [letterB, digitB, signs]
inductive Lex : Str → List Str → Prop
 | nil : Lex [] []
 | blank {c : UInt8} {s : Str} {ts : List Str} (hc : c = 32 ∨ c = 10) (h : Lex s ts) : Lex (c :: s) ts
 | tok {t s : Str} {ts : List Str} (h0 : t ≠ []) (h1 : nextN (t ++ s) = t.length) (h : Lex s ts) : Lex (t ++ s) (t :: ts)
theorem Lex.sp {s : Str} {ts : List Str} (h : Lex s ts) : Lex (32 :: s) ts := .blank (.inl rfl) h
theorem Lex.word {t s : Str} {ts : List Str} (ht : tokB t) (hs : brkB s = true) (h : Lex s ts) : Lex (t ++ s) (t :: ts) := .tok ht.1 (tok_stops ht hs) h
theorem Lex.sign {c : UInt8} {s : Str} {ts : List Str} (hc : c = 40 ∨ c = 41 ∨ c = 123 ∨ c = 125 ∨ c = 59 ∨ c = 46 ∨ c = 45) (h : Lex s ts) : Lex (c :: s) ([c] :: ts) := .tok (t := [c]) (by simp) (sign_stops hc s) h
def fieldK (t : Str) : List Str := match cutAt 46 t with
 | some (a, b) => [a, [46], b]
 | none => [t]
def parK (c : Bool) (ks : List Str) : List Str := if c then [40] :: (ks ++ [[41]]) else ks
def exprK : Nd → List Str
 | .mk k t n ks => if k = 32 then [itoaS n] else if k = 33 then [36 :: t] else if k = 36 then [sKind] else if k = 34 then [t] else if k = 35 then fieldK t else match ks with
  | [a, b] => parK (decide (lvlN a.kind < (if levelAt k = 1 then 2 else levelAt k))) (exprK a) ++ signAt k :: parK (decide (lvlN b.kind < levelAt k + 1)) (exprK b)
  | _ => []
set_option maxRecDepth 100000 in
theorem dec_tok : ∀ n : Nat, n < 1000 → decS n ≠ [] ∧ nextN (decS n) = (decS n).length := by decide
theorem itoa_tok {n : Int} (h0 : 0 ≤ n) (h1 : n ≤ 999) : tokB (itoaS n) := by
 unfold itoaS
 rw [if_neg (by omega)]
 exact dec_tok _ (by omega)
theorem whole_name {t : Str} (h : wholeB t true = true) : tokB t ∧ isNameB t = true := by
 unfold wholeB at h
 simp only [Bool.and_eq_true, decide_eq_true_eq, Bool.not_true, Bool.false_or] at h
 obtain ⟨⟨h1, h2⟩, h3⟩ := h
 refine ⟨⟨h1, ?_⟩, h3⟩
 cases t with
 | nil => exact absurd rfl h1
 | cons c r =>
  simp only [isNameB, Bool.and_eq_true] at h3
  unfold nextN
  simp only [h3.1, if_true]
  exact h2
theorem whole_local {t : Str} (h : wholeB t false = true) : tokB (36 :: t) := by
 unfold wholeB at h
 simp only [Bool.and_eq_true, decide_eq_true_eq, Bool.not_false, Bool.true_or, and_true] at h
 obtain ⟨h1, h2⟩ := h
 refine ⟨by simp, ?_⟩
 have : 0 < wordN t := by rw [h2]; exact List.length_pos_iff.2 h1
 unfold nextN
 simp only [show letterB 36 = false by decide, Bool.false_eq_true, if_false, if_true, this, h2, List.length_cons]
 rw [h2] at this
 simp [this]
theorem cutAt_eq {c : UInt8} : ∀ {t a b : Str}, cutAt c t = some (a, b) → t = a ++ c :: b
 | [], _, _, h => by simp [cutAt] at h
 | d :: r, a, b, h => by
  unfold cutAt at h
  split at h
  ·rename_i e
   simp only [Option.some.injEq, Prod.mk.injEq] at h
   rw [← h.1, ← h.2, e]; rfl
  ·cases q : cutAt c r with
   | none => rw [q] at h; cases h
   | some p =>
    obtain ⟨a', b'⟩ := p
    rw [q] at h
    simp only [Option.map_some, Option.some.injEq, Prod.mk.injEq] at h
    rw [← h.1, ← h.2, cutAt_eq q]; rfl
theorem field_parts {t : Str} (h : fieldB t = true) : ∃ a b, cutAt 46 t = some (a, b) ∧ t = a ++ 46 :: b ∧ wholeB a true = true ∧ wholeB b true = true := by
 unfold fieldB at h
 split at h
 ·rename_i a b e
  simp only [Bool.and_eq_true] at h
  exact ⟨a, b, e, cutAt_eq e, h.1, h.2⟩
 ·cases h
theorem right_expr {x : Nd} (hr : rightN x = true) (he : isExprK x.kind = true) :
  (x.kind = 32 ∧ 0 ≤ x.n ∧ x.n ≤ 999 ∧ x = .mk 32 [] x.n []) ∨ (x = .mk 33 x.text 0 [] ∧ wholeB x.text false = true) ∨ x = .mk 36 [] 0 [] ∨ (x = .mk 34 x.text 0 [] ∧ wholeB x.text true = true) ∨ (x = .mk 35 x.text 0 [] ∧ fieldB x.text = true) ∨
   ∃ k a b, 26 ≤ k ∧ k ≤ 31 ∧ x = .mk k [] 0 [a, b] ∧ rightN a = true ∧ isExprK a.kind = true ∧ rightN b = true ∧ isExprK b.kind = true := by
 obtain ⟨k, t, n, ks⟩ := x
 have he : 26 ≤ k ∧ k ≤ 36 := isExprK_iff.1 he
 obtain ⟨_, _, hs, w1, w2, w3, hk⟩ := right_mk.1 hr
 have none : shapedK k ks = kidsB ks [] → ks = [] := fun e => by
  rw [e] at hs
  cases ks with
  | nil => rfl
  | cons _ _ => cases hs
 by_cases hb : k ≤ 31
 ·right; right; right; right; right
  have hks : kidsB ks [isExprK, isExprK] = true := by
   unfold shapedK at hs
   rw [if_neg (by omega), if_neg (by omega), if_neg (by omega), if_neg (by omega), if_neg (by omega), if_neg (by omega), if_neg (by omega), if_neg (by omega), if_pos (by omega)] at hs
   exact hs
  have hz : loAt k = 0 ∧ hiAt k = 0 := by
   have : k = 26 ∨ k = 27 ∨ k = 28 ∨ k = 29 ∨ k = 30 ∨ k = 31 := by omega
   rcases this with rfl | rfl | rfl | rfl | rfl | rfl <;> exact ⟨rfl, rfl⟩
  have ht : t = [] := by
   unfold textB at w3
   rw [if_neg (by omega), if_neg (by omega), if_pos (by omega)] at w3
   simpa using w3
  match ks, hks, hk with
  | [a, b], hks, hk =>
   simp only [kidsB, Bool.and_true, Bool.and_eq_true] at hks
   exact ⟨k, a, b, by omega, by omega, by rw [ht, show n = 0 by omega], hk a (by simp), hks.1, hk b (by simp), hks.2⟩
  | [], hks, _ => cases hks
  | [_], hks, _ => simp [kidsB] at hks
  | _ :: _ :: _ :: _, hks, _ => simp [kidsB] at hks
 ·have : k = 32 ∨ k = 33 ∨ k = 34 ∨ k = 35 ∨ k = 36 := by omega
  rcases this with rfl | rfl | rfl | rfl | rfl
  ·left
   have e := none rfl
   have hz : loAt 32 = 0 ∧ hiAt 32 = 999 := ⟨rfl, rfl⟩
   have ht : t = [] := by simpa [textB] using w3
   subst e; subst ht
   exact ⟨rfl, by simp only [Nd.n_mk]; omega, by simp only [Nd.n_mk]; omega, rfl⟩
  ·right; left
   have e := none rfl
   have hz : loAt 33 = 0 ∧ hiAt 33 = 0 := ⟨rfl, rfl⟩
   subst e
   exact ⟨by rw [show n = 0 by omega]; rfl, by simpa [textB] using w3⟩
  ·right; right; right; left
   have e := none rfl
   have hz : loAt 34 = 0 ∧ hiAt 34 = 0 := ⟨rfl, rfl⟩
   subst e
   exact ⟨by rw [show n = 0 by omega]; rfl, by simpa [textB] using w3⟩
  ·right; right; right; right; left
   have e := none rfl
   have hz : loAt 35 = 0 ∧ hiAt 35 = 0 := ⟨rfl, rfl⟩
   subst e
   exact ⟨by rw [show n = 0 by omega]; rfl, by simpa [textB] using w3⟩
  ·right; right; left
   have e := none rfl
   have hz : loAt 36 = 0 ∧ hiAt 36 = 0 := ⟨rfl, rfl⟩
   have ht : t = [] := by simpa [textB] using w3
   subst e; subst ht
   rw [show n = 0 by omega]
theorem sign_tok {k : Int} (h0 : 26 ≤ k) (h1 : k ≤ 31) : tokB (signAt k) := by
 have : k = 26 ∨ k = 27 ∨ k = 28 ∨ k = 29 ∨ k = 30 ∨ k = 31 := by omega
 rcases this with rfl | rfl | rfl | rfl | rfl | rfl <;> exact ⟨by decide, by decide⟩
theorem exprT_bin {k : Int} {a b : Nd} (h0 : 26 ≤ k) (h1 : k ≤ 31) : exprT (.mk k [] 0 [a, b]) = paren (decide (lvlN a.kind < (if levelAt k = 1 then 2 else levelAt k))) (exprT a) ++ 32 :: (signAt k ++ 32 :: paren (decide (lvlN b.kind < levelAt k + 1)) (exprT b)) := by
 rw [exprT, if_neg (by omega), if_neg (by omega), if_neg (by omega), if_neg (by omega)]
theorem exprK_bin {k : Int} {a b : Nd} (h0 : 26 ≤ k) (h1 : k ≤ 31) : exprK (.mk k [] 0 [a, b]) = parK (decide (lvlN a.kind < (if levelAt k = 1 then 2 else levelAt k))) (exprK a) ++ signAt k :: parK (decide (lvlN b.kind < levelAt k + 1)) (exprK b) := by
 rw [exprK, if_neg (by omega), if_neg (by omega), if_neg (by omega), if_neg (by omega), if_neg (by omega)]
theorem lex_paren {t : Str} {ks : List Str} (h : ∀ s ts, Lex s ts → brkB s = true → Lex (t ++ s) (ks ++ ts)) (c : Bool) {s : Str} {ts : List Str} (hl : Lex s ts) (hs : brkB s = true) : Lex (paren c t ++ s) (parK c ks ++ ts) := by
 cases c
 ·exact h s ts hl hs
 ·have h1 := Lex.sign (c := 41) (by decide) hl
  have h2 := h _ _ h1 rfl
  have h3 := Lex.sign (c := 40) (by decide) h2
  simpa [paren, parK] using h3
theorem lex_expr (x : Nd) : rightN x = true → isExprK x.kind = true → ∀ s ts, Lex s ts → brkB s = true → Lex (exprT x ++ s) (exprK x ++ ts) := by
 refine Nd.ind (p := fun x => rightN x = true → isExprK x.kind = true → ∀ s ts, Lex s ts → brkB s = true → Lex (exprT x ++ s) (exprK x ++ ts)) (fun k t n ks ih => ?_) x
 intro hr he s ts hl hs
 rcases right_expr hr he with ⟨h1, h2, h3, h4⟩ | ⟨h1, h2⟩ | h1 | ⟨h1, h2⟩ | ⟨h1, h2⟩ | ⟨k', a, b, h1, h2, h3, h4, h5, h6, h7⟩
 ·rw [h4]
  simp only [exprT, exprK, if_true]
  exact Lex.word (itoa_tok h2 h3) hs hl
 ·rw [h1]
  simp only [exprT, exprK, Nd.text_mk] at h2 ⊢
  simp only [show ¬ (33 : Int) = 32 by decide, if_false, if_true]
  exact Lex.word (whole_local h2) hs hl
 ·rw [h1]
  simp only [exprT, exprK, show ¬ (36 : Int) = 32 by decide, show ¬ (36 : Int) = 33 by decide, if_false, if_true]
  exact Lex.word (t := sKind) ⟨by decide, by decide⟩ hs hl
 ·rw [h1]
  simp only [exprT, exprK, Nd.text_mk] at h2 ⊢
  simp only [show ¬ (34 : Int) = 32 by decide, show ¬ (34 : Int) = 33 by decide, show ¬ (34 : Int) = 36 by decide, if_false, if_true, true_or]
  exact Lex.word (whole_name h2).1 hs hl
 ·rw [h1]
  simp only [exprT, exprK, Nd.text_mk] at h2 ⊢
  simp only [show ¬ (35 : Int) = 32 by decide, show ¬ (35 : Int) = 33 by decide, show ¬ (35 : Int) = 36 by decide, show ¬ (35 : Int) = 34 by decide, if_false, if_true, or_true]
  obtain ⟨a, b, e1, e2, e3, e4⟩ := field_parts h2
  unfold fieldK
  rw [e1]
  simp only
  rw [e2]
  have q1 := Lex.word (whole_name e4).1 hs hl
  have q2 := Lex.sign (c := 46) (by decide) q1
  have q3 := Lex.word (whole_name e3).1 rfl q2
  simpa using q3
 ·injection h3 with i1 i2 i3 i4
  subst i1; subst i2; subst i3; subst i4
  rw [exprT_bin h1 h2, exprK_bin h1 h2]
  have q1 := lex_paren (ih b (by simp) h6 h7) (decide (lvlN b.kind < levelAt k + 1)) hl hs
  have q2 := Lex.word (sign_tok h1 h2) rfl q1.sp
  have q3 := lex_paren (ih a (by simp) h4 h5) (decide (lvlN a.kind < (if levelAt k = 1 then 2 else levelAt k))) q2.sp rfl
  simpa using q3
end Go.Eng
namespace Go.Eng
def Has (p : PS) (ts : List Str) : Prop := p.e = 0 ∧ p.l.map Tk.text = ts
theorem Has.peek {p : PS} {t : Str} {ts : List Str} (h : Has p (t :: ts)) : p.peek = t := by
 obtain ⟨h1, h2⟩ := h
 unfold PS.peek
 rw [if_neg (by simp [h1])]
 cases e : p.l with
 | nil => rw [e] at h2; simp at h2
 | cons x r => rw [e] at h2; simp at h2; exact h2.1
theorem Has.peek0 {p : PS} (h : Has p []) : p.peek = [] := by
 obtain ⟨h1, h2⟩ := h
 unfold PS.peek
 rw [if_neg (by simp [h1])]
 cases e : p.l with
 | nil => rfl
 | cons x r => rw [e] at h2; simp at h2
theorem Has.skip {p : PS} {t : Str} {ts : List Str} (h : Has p (t :: ts)) : Has p.skip ts := by
 obtain ⟨h1, h2⟩ := h
 refine ⟨h1, ?_⟩
 unfold PS.skip
 cases e : p.l with
 | nil => rw [e] at h2; simp at h2
 | cons x r => rw [e] at h2; simp at h2; exact h2.2
theorem Has.is {p : PS} {t : Str} {ts : List Str} (h : Has p (t :: ts)) (s : Str) (hs : s ≠ []) : p.is s = decide (t = s) := by
 unfold PS.is
 rw [h.peek]
 simp [hs]
theorem Has.need {p : PS} {t : Str} {ts : List Str} (h : Has p (t :: ts)) (ht : t ≠ []) : p.need t = p.skip := by
 unfold PS.need
 rw [h.is t ht, if_pos (by simp)]
theorem Has.len {p : PS} {ts : List Str} (h : Has p ts) : p.l.length = ts.length := by rw [← h.2]; simp
def Parses (f : PS → Nd × PS) (ks : List Str) (x : Nd) (rest : List Str) : Prop := ∀ p, Has p (ks ++ rest) → ∃ q, f p = (x, q) ∧ Has q rest
def noOp (lv : Int) (rest : List Str) : Prop := opI lv (rest.head?.getD []) < 0
def noDot (rest : List Str) : Prop := rest.head? ≠ some [46]
theorem Has.opP {p : PS} {ts : List Str} {lv : Int} (h : Has p ts) (hn : noOp lv ts) : (opP lv p).1 < 0 ∧ (Eng.opP lv p).2 = p := by
 have hp : p.peek = ts.head?.getD [] := by
  cases ts with
  | nil => rw [h.peek0]; rfl
  | cons t r => rw [h.peek]; rfl
 unfold Eng.opP
 rw [hp]
 exact ⟨hn, by rw [if_neg]; unfold noOp at hn; omega⟩
theorem Has.opY {p : PS} {t : Str} {ts : List Str} {lv : Int} (h : Has p (t :: ts)) (hn : 0 ≤ opI lv t) : Eng.opP lv p = (opI lv t, p.skip) := by
 unfold Eng.opP
 rw [h.peek, if_pos hn]
def ChP (lv : Int) (X : PS → Nd × PS) (ks : List Str) (x : Nd) (rest : List Str) : Prop :=
 ∀ p, Has p (ks ++ rest) → ∃ f q, rest.length < f ∧ chainP lv X p = chainF lv X f x q ∧ Has q rest
theorem ChP.done {lv : Int} {X : PS → Nd × PS} {ks : List Str} {x : Nd} {rest : List Str} (h : ChP lv X ks x rest) (hn : noOp lv rest) : Parses (chainP lv X) ks x rest := fun p hp => by
 obtain ⟨f, q, h1, h2, h3⟩ := h p hp
 refine ⟨q, ?_, h3⟩
 rw [h2]
 cases f with
 | zero => omega
 | succ f =>
  unfold chainF
  obtain ⟨o1, o2⟩ := h3.opP hn
  rw [if_neg (by simp [h3.1]), if_pos o1, o2]
theorem ChP.one {lv : Int} {X : PS → Nd × PS} {ks : List Str} {x : Nd} {rest : List Str} (h : Parses X ks x rest) : ChP lv X ks x rest := fun p hp => by
 obtain ⟨q, h1, h2⟩ := h p hp
 refine ⟨q.l.length + 1, q, by rw [h2.len]; omega, ?_, h2⟩
 unfold chainP
 rw [h1]
theorem ChP.step {lv : Int} {X : PS → Nd × PS} {ka kb : List Str} {a b : Nd} {s : Str} {rest : List Str} (ha : ChP lv X ka a (s :: (kb ++ rest))) (hs : 0 ≤ opI lv s) (hb : Parses X kb b rest) :
  ChP lv X (ka ++ s :: kb) (.mk (26 + opI lv s) [] 0 [a, b]) rest := fun p hp => by
 obtain ⟨f, q, h1, h2, h3⟩ := ha p (by simpa using hp)
 cases f with
 | zero => omega
 | succ f =>
  obtain ⟨q2, k1, k2⟩ := hb q.skip h3.skip
  refine ⟨f, q2, by simp only [List.length_cons, List.length_append] at h1; omega, ?_, k2⟩
  rw [h2]
  conv => lhs; unfold chainF
  rw [if_neg (by simp [h3.1]), h3.opY hs, if_neg (by simp only; omega)]
  simp only
  rw [k1]
theorem op_levels {k : Int} (h0 : 26 ≤ k) (h1 : k ≤ 31) : opI (levelAt k) (signAt k) = k - 26 ∧ (levelAt k = 1 ∨ levelAt k = 2 ∨ levelAt k = 3) ∧ (∀ lv : Int, (lv = 1 ∨ lv = 2 ∨ lv = 3) → lv ≠ levelAt k → opI lv (signAt k) < 0) ∧ signAt k ≠ [46] ∧ lvlN k = levelAt k := by
 have : k = 26 ∨ k = 27 ∨ k = 28 ∨ k = 29 ∨ k = 30 ∨ k = 31 := by omega
 rcases this with rfl | rfl | rfl | rfl | rfl | rfl <;> exact ⟨by decide, by decide, fun lv h hn => by rcases h with rfl | rfl | rfl <;> first | exact absurd rfl hn | decide, by decide, by decide⟩
structure EP (x : Nd) : Prop where
 a1 : ∀ f rest, depthN x < f → noDot rest → noOp 1 rest → noOp 2 rest → noOp 3 rest → Parses (exprP false f) (exprK x) x rest
 c2 : ∀ f rest, depthN x < f → noDot rest → noOp 3 rest → ChP 2 (prodP (exprP false f)) (parK (decide (lvlN x.kind < 2)) (exprK x)) x rest
 c3 : ∀ f rest, depthN x < f → noDot rest → ChP 3 (factP (exprP false f)) (parK (decide (lvlN x.kind < 3)) (exprK x)) x rest
 a4 : ∀ f rest, depthN x < f → noDot rest → Parses (factP (exprP false f)) (parK (decide (lvlN x.kind < 4)) (exprK x)) x rest
theorem parK_no {x : Nd} {lv : Int} (h : lv ≤ lvlN x.kind) {ks : List Str} : parK (decide (lvlN x.kind < lv)) ks = ks := by rw [decide_eq_false (by omega)]; rfl
theorem sum_whole {x : Nd} {ks : List Str} {rest : List Str} {f : Nat} (h : Parses (sumP (exprP false f)) ks x rest) (n1 : noOp 1 rest) : Parses (exprP false (f + 1)) ks x rest := fun p hp => by
 obtain ⟨q, h1, h2⟩ := h p hp
 refine ⟨q, ?_, h2⟩
 unfold exprP
 rw [if_neg (by simp)]
 unfold exprB
 simp only
 obtain ⟨o1, o2⟩ := h2.opP n1
 rw [h1]
 simp only
 rw [if_neg (by omega), o2]
theorem EP.leaf {x : Nd} (h4 : 3 < lvlN x.kind) (a4 : ∀ f rest, noDot rest → Parses (factP (exprP false f)) (exprK x) x rest) : EP x := by
 have c3 : ∀ f rest, noDot rest → ChP 3 (factP (exprP false f)) (exprK x) x rest := fun f rest hd => ChP.one (a4 f rest hd)
 have c2 : ∀ f rest, noDot rest → noOp 3 rest → ChP 2 (prodP (exprP false f)) (exprK x) x rest := fun f rest hd h3 => ChP.one ((c3 f rest hd).done h3)
 refine ⟨fun f rest hf hd n1 n2 n3 => ?_, fun f rest _ hd n3 => ?_, fun f rest _ hd => ?_, fun f rest _ hd => ?_⟩
 ·cases f with
  | zero => omega
  | succ f => exact sum_whole ((c2 f rest hd n3).done n2) n1
 ·rw [parK_no (by omega)]; exact c2 f rest hd n3
 ·rw [parK_no (by omega)]; exact c3 f rest hd
 ·rw [parK_no (by omega)]; exact a4 f rest hd
theorem Has.name {p : PS} {t : Str} {ts : List Str} (h : Has p (t :: ts)) (ht : wholeB t true = true) : nameP p = (t, p.skip) := by
 unfold nameP
 rw [h.peek, (whole_name ht).2]
 rfl
theorem Has.local {p : PS} {t : Str} {ts : List Str} (h : Has p ((36 :: t) :: ts)) : localP p = (t, p.skip) := by
 unfold localP
 rw [h.peek]
 rfl
end Go.Eng
namespace Go.Eng
theorem stmtT_cmd {k : Int} (t : Str) (n : Int) (ks : List Nd) (h : 13 ≤ k) : stmtT (.mk k t n ks) = wordAt k ++ midT k t ++ withN n ++ withE ks ++ [59] := by
 unfold stmtT
 rw [if_neg (by omega), if_neg (by omega), if_neg (by omega)]
def BlockR (x : Nd) : Prop := ∃ ks, x = .mk 8 [] 0 ks ∧ ∀ y ∈ ks, rightN y = true ∧ isStmtK y.kind = true
theorem right_block {x : Nd} (hr : rightN x = true) (hk : isBlockK x.kind = true) : BlockR x := by
 obtain ⟨k, t, n, ks⟩ := x
 have hk : k = 8 := of_decide_eq_true (show decide (k = 8) = true from hk)
 subst hk
 obtain ⟨_, _, hs, w1, w2, w3, hk⟩ := right_mk.1 hr
 have hz : loAt 8 = 0 ∧ hiAt 8 = 0 := ⟨rfl, rfl⟩
 have ht : t = [] := by simpa [textB] using w3
 refine ⟨ks, by rw [ht, show n = 0 by omega], fun y hy => ⟨hk y hy, ?_⟩⟩
 exact List.all_eq_true.1 (show (ks.all fun y => isStmtK y.kind) = true from hs) y hy
def CmdR (k : Int) (t : Str) (n : Int) (ks : List Nd) : Prop :=
 ((k = 13 ∨ k = 14 ∨ k = 17 ∨ k = 18) ∧ wholeB t true = true ∧ n = 0 ∧ ks = []) ∨
 ((k = 15 ∨ k = 22) ∧ wholeB t true = true ∧ n = 0 ∧ ∃ e, ks = [e] ∧ rightN e = true ∧ isExprK e.kind = true) ∨
 ((k = 16 ∨ k = 23) ∧ wholeB t true = true ∧ n = 0 ∧ ∃ u, ks = [.mk 33 u 0 []] ∧ wholeB u false = true) ∨
 (k = 19 ∧ wholeB t false = true ∧ 2 ≤ n ∧ n ≤ 6 ∧ ks = []) ∨ (k = 20 ∧ wholeB t false = true ∧ n = 0 ∧ ks = []) ∨
 ((k = 21 ∧ n ≤ 9 ∨ k = 25 ∧ n ≤ 99) ∧ t = [] ∧ 1 ≤ n ∧ ks = []) ∨ (k = 24 ∧ t = [] ∧ n = 0 ∧ ∃ e, ks = [e] ∧ rightN e = true ∧ isExprK e.kind = true)
theorem kids_one {f : Int → Bool} : ∀ {ks : List Nd}, kidsB ks [f] = true → ∃ a, ks = [a] ∧ f a.kind = true
 | [a], h => ⟨a, rfl, by simpa [kidsB] using h⟩
 | [], h => by cases h
 | _ :: _ :: _, h => by simp [kidsB] at h
theorem kids_two {f g : Int → Bool} : ∀ {ks : List Nd}, kidsB ks [f, g] = true → ∃ a b, ks = [a, b] ∧ f a.kind = true ∧ g b.kind = true
 | [a, b], h => ⟨a, b, rfl, by simpa [kidsB] using h⟩
 | [], h => by cases h
 | [_], h => by simp [kidsB] at h
 | _ :: _ :: _ :: _, h => by simp [kidsB] at h
theorem kids_three {f g e : Int → Bool} : ∀ {ks : List Nd}, kidsB ks [f, g, e] = true → ∃ a b c, ks = [a, b, c] ∧ f a.kind = true ∧ g b.kind = true ∧ e c.kind = true
 | [a, b, c], h => ⟨a, b, c, rfl, by simpa [kidsB] using h⟩
 | [], h => by cases h
 | [_], h => by simp [kidsB] at h
 | [_, _], h => by simp [kidsB] at h
 | _ :: _ :: _ :: _ :: _, h => by simp [kidsB] at h
theorem kids_none : ∀ {ks : List Nd}, kidsB ks [] = true → ks = []
 | [], _ => rfl
 | _ :: _, h => by cases h
theorem right_stmt {x : Nd} (hr : rightN x = true) (hk : isStmtK x.kind = true) :
  (∃ t e, x = .mk 9 t 0 [e] ∧ wholeB t false = true ∧ rightN e = true ∧ isExprK e.kind = true) ∨
  (∃ p e, x = .mk 10 [] 0 [p, e] ∧ rightN p = true ∧ isPlaceK p.kind = true ∧ rightN e = true ∧ isExprK e.kind = true) ∨
  (∃ k e b, (k = 11 ∨ k = 12) ∧ x = .mk k [] 0 [e, b] ∧ rightN e = true ∧ isExprK e.kind = true ∧ rightN b = true ∧ isBlockK b.kind = true) ∨
  (∃ e b c, x = .mk 11 [] 0 [e, b, c] ∧ rightN e = true ∧ isExprK e.kind = true ∧ rightN b = true ∧ isBlockK b.kind = true ∧ rightN c = true ∧ isBlockK c.kind = true) ∨
  (∃ k t n ks, 13 ≤ k ∧ k ≤ 25 ∧ x = .mk k t n ks ∧ CmdR k t n ks) := by
 obtain ⟨k, t, n, ks⟩ := x
 have hk : 9 ≤ k ∧ k ≤ 25 := isStmtK_iff.1 hk
 obtain ⟨_, _, hs, w1, w2, w3, hk'⟩ := right_mk.1 hr
 have hcase : k = 9 ∨ k = 10 ∨ k = 11 ∨ k = 12 ∨ k = 13 ∨ k = 14 ∨ k = 15 ∨ k = 16 ∨ k = 17 ∨ k = 18 ∨ k = 19 ∨ k = 20 ∨ k = 21 ∨ k = 22 ∨ k = 23 ∨ k = 24 ∨ k = 25 := by omega
 rcases hcase with rfl | rfl | rfl | rfl | rfl | rfl | rfl | rfl | rfl | rfl | rfl | rfl | rfl | rfl | rfl | rfl | rfl
 ·obtain ⟨e, rfl, he⟩ := kids_one (f := isExprK) hs
  have hz : loAt 9 = 0 ∧ hiAt 9 = 0 := ⟨rfl, rfl⟩
  exact .inl ⟨t, e, by rw [show n = 0 by omega], w3, hk' e (by simp), he⟩
 ·obtain ⟨p, e, rfl, hp, he⟩ := kids_two (f := isPlaceK) (g := isExprK) hs
  have hz : loAt 10 = 0 ∧ hiAt 10 = 0 := ⟨rfl, rfl⟩
  have ht : t = [] := by simpa [textB] using w3
  exact .inr (.inl ⟨p, e, by rw [ht, show n = 0 by omega], hk' p (by simp), hp, hk' e (by simp), he⟩)
 ·have hz : loAt 11 = 0 ∧ hiAt 11 = 0 := ⟨rfl, rfl⟩
  have ht : t = [] := by simpa [textB] using w3
  have hs : (kidsB ks [isExprK, isBlockK] || kidsB ks [isExprK, isBlockK, isBlockK]) = true := hs
  rw [Bool.or_eq_true] at hs
  rcases hs with hs | hs
  ·obtain ⟨e, b, rfl, he, hb⟩ := kids_two hs
   exact .inr (.inr (.inl ⟨11, e, b, .inl rfl, by rw [ht, show n = 0 by omega], hk' e (by simp), he, hk' b (by simp), hb⟩))
  ·obtain ⟨e, b, c, rfl, he, hb, hc⟩ := kids_three hs
   exact .inr (.inr (.inr (.inl ⟨e, b, c, by rw [ht, show n = 0 by omega], hk' e (by simp), he, hk' b (by simp), hb, hk' c (by simp), hc⟩)))
 ·have hz : loAt 12 = 0 ∧ hiAt 12 = 0 := ⟨rfl, rfl⟩
  have ht : t = [] := by simpa [textB] using w3
  obtain ⟨e, b, rfl, he, hb⟩ := kids_two (f := isExprK) (g := isBlockK) hs
  exact .inr (.inr (.inl ⟨12, e, b, .inr rfl, by rw [ht, show n = 0 by omega], hk' e (by simp), he, hk' b (by simp), hb⟩))
 all_goals refine .inr (.inr (.inr (.inr ⟨_, t, n, ks, by decide, by decide, rfl, ?_⟩)))
 ·have hz : loAt 13 = 0 ∧ hiAt 13 = 0 := ⟨rfl, rfl⟩
  exact .inl ⟨by omega, w3, by omega, kids_none hs⟩
 ·have hz : loAt 14 = 0 ∧ hiAt 14 = 0 := ⟨rfl, rfl⟩
  exact .inl ⟨by omega, w3, by omega, kids_none hs⟩
 ·have hz : loAt 15 = 0 ∧ hiAt 15 = 0 := ⟨rfl, rfl⟩
  obtain ⟨e, rfl, he⟩ := kids_one (f := isExprK) hs
  exact .inr (.inl ⟨by omega, w3, by omega, e, rfl, hk' e (by simp), he⟩)
 ·have hz : loAt 16 = 0 ∧ hiAt 16 = 0 := ⟨rfl, rfl⟩
  obtain ⟨e, rfl, he⟩ := kids_one (f := isLocalK) hs
  refine .inr (.inr (.inl ⟨by omega, w3, by omega, ?_⟩))
  have he' : e.kind = 33 := by simpa [isLocalK] using he
  rcases right_expr (hk' e (by simp)) (by rw [he']; rfl) with ⟨g1, _⟩ | ⟨g1, g2⟩ | g1 | ⟨g1, _⟩ | ⟨g1, _⟩ | ⟨k', a, b, g1, g2, g3, _⟩
  ·omega
  ·exact ⟨e.text, by rw [← g1], g2⟩
  ·rw [g1] at he'; cases he'
  ·rw [g1] at he'; cases he'
  ·rw [g1] at he'; cases he'
  ·rw [g3] at he'; simp only [Nd.kind_mk] at he'; omega
 ·have hz : loAt 17 = 0 ∧ hiAt 17 = 0 := ⟨rfl, rfl⟩
  exact .inl ⟨by omega, w3, by omega, kids_none hs⟩
 ·have hz : loAt 18 = 0 ∧ hiAt 18 = 0 := ⟨rfl, rfl⟩
  exact .inl ⟨by omega, w3, by omega, kids_none hs⟩
 ·have hz : loAt 19 = 2 ∧ hiAt 19 = 6 := ⟨rfl, rfl⟩
  exact .inr (.inr (.inr (.inl ⟨rfl, w3, by omega, by omega, kids_none hs⟩)))
 ·have hz : loAt 20 = 0 ∧ hiAt 20 = 0 := ⟨rfl, rfl⟩
  exact .inr (.inr (.inr (.inr (.inl ⟨rfl, w3, by omega, kids_none hs⟩))))
 ·have hz : loAt 21 = 1 ∧ hiAt 21 = 9 := ⟨rfl, rfl⟩
  exact .inr (.inr (.inr (.inr (.inr (.inl ⟨.inl ⟨rfl, by omega⟩, by simpa [textB] using w3, by omega, kids_none hs⟩)))))
 ·have hz : loAt 22 = 0 ∧ hiAt 22 = 0 := ⟨rfl, rfl⟩
  obtain ⟨e, rfl, he⟩ := kids_one (f := isExprK) hs
  exact .inr (.inl ⟨by omega, w3, by omega, e, rfl, hk' e (by simp), he⟩)
 ·have hz : loAt 23 = 0 ∧ hiAt 23 = 0 := ⟨rfl, rfl⟩
  obtain ⟨e, rfl, he⟩ := kids_one (f := isLocalK) hs
  refine .inr (.inr (.inl ⟨by omega, w3, by omega, ?_⟩))
  have he' : e.kind = 33 := by simpa [isLocalK] using he
  rcases right_expr (hk' e (by simp)) (by rw [he']; rfl) with ⟨g1, _⟩ | ⟨g1, g2⟩ | g1 | ⟨g1, _⟩ | ⟨g1, _⟩ | ⟨k', a, b, g1, g2, g3, _⟩
  ·omega
  ·exact ⟨e.text, by rw [← g1], g2⟩
  ·rw [g1] at he'; cases he'
  ·rw [g1] at he'; cases he'
  ·rw [g1] at he'; cases he'
  ·rw [g3] at he'; simp only [Nd.kind_mk] at he'; omega
 ·have hz : loAt 24 = 0 ∧ hiAt 24 = 0 := ⟨rfl, rfl⟩
  obtain ⟨e, rfl, he⟩ := kids_one (f := isExprK) hs
  exact .inr (.inr (.inr (.inr (.inr (.inr ⟨rfl, by simpa [textB] using w3, by omega, e, rfl, hk' e (by simp), he⟩)))))
 ·have hz : loAt 25 = 1 ∧ hiAt 25 = 99 := ⟨rfl, rfl⟩
  exact .inr (.inr (.inr (.inr (.inr (.inl ⟨.inr ⟨rfl, by omega⟩, by simpa [textB] using w3, by omega, kids_none hs⟩)))))
end Go.Eng
namespace Go.Eng
def LexB (s : Str) (ts : List Str) : Prop := Lex s ts ∧ brkB s = true
theorem LexB.kids {s : Str} {ts : List Str} (h : LexB s ts) : ∀ {ks : List Nd}, (∀ e ∈ ks, rightN e = true ∧ isExprK e.kind = true) → LexB (withE ks ++ s) (ks.flatMap exprK ++ ts)
 | [], _ => h
 | e :: r, he => by
  have ih := LexB.kids h (ks := r) fun y hy => he y (List.mem_cons_of_mem _ hy)
  obtain ⟨h1, h2⟩ := he e (List.mem_cons_self ..)
  have := (lex_expr e h1 h2 _ _ ih.1 ih.2).sp
  exact ⟨by simpa [withE, List.flatMap_cons] using this, rfl⟩
theorem cmd_facts {k : Int} {t : Str} {n : Int} {ks : List Nd} (h : CmdR k t n ks) : (if k = 19 ∨ k = 20 then wholeB t false = true else k = 21 ∨ k = 25 ∨ k = 24 ∨ wholeB t true = true) ∧ 0 ≤ n ∧ n ≤ 999 ∧ ∀ e ∈ ks, rightN e = true ∧ isExprK e.kind = true := by
 have loc : ∀ {u : Str}, wholeB u false = true → rightN (.mk 33 u 0 []) = true ∧ isExprK (Nd.mk 33 u 0 []).kind = true := fun hu => ⟨right_mk.2 ⟨by decide, by decide, rfl, by decide, by decide, hu, fun _ h => by cases h⟩, rfl⟩
 rcases h with ⟨h1, h2, h3, h4⟩ | ⟨h1, h2, h3, e, h4, h5, h6⟩ | ⟨h1, h2, h3, u, h4, h5⟩ | ⟨h1, h2, h3, h4, h5⟩ | ⟨h1, h2, h3, h4⟩ | ⟨h1, h2, h3, h4⟩ | ⟨h1, h2, h3, e, h4, h5, h6⟩
 ·refine ⟨?_, by omega, by omega, fun e he => by rw [h4] at he; cases he⟩
  rw [if_neg (by omega)]; exact .inr (.inr (.inr h2))
 ·refine ⟨?_, by omega, by omega, fun y hy => by rw [h4, List.mem_singleton] at hy; rw [hy]; exact ⟨h5, h6⟩⟩
  rw [if_neg (by omega)]; exact .inr (.inr (.inr h2))
 ·refine ⟨?_, by omega, by omega, fun y hy => by rw [h4, List.mem_singleton] at hy; rw [hy]; exact loc h5⟩
  rw [if_neg (by omega)]; exact .inr (.inr (.inr h2))
 ·refine ⟨?_, by omega, by omega, fun e he => by rw [h5] at he; cases he⟩
  rw [if_pos (by omega)]; exact h2
 ·refine ⟨?_, by omega, by omega, fun e he => by rw [h4] at he; cases he⟩
  rw [if_pos (by omega)]; exact h2
 ·refine ⟨?_, by omega, by omega, fun e he => by rw [h4] at he; cases he⟩
  rw [if_neg (by omega)]; omega
 ·refine ⟨?_, by omega, by omega, fun y hy => by rw [h4, List.mem_singleton] at hy; rw [hy]; exact ⟨h5, h6⟩⟩
  rw [if_neg (by omega)]; omega
def ItemR (x : Nd) : Prop := ∃ t n, x = .mk 7 t n [] ∧ wholeB t true = true ∧ -999 ≤ n ∧ n ≤ 999
theorem right_item {x : Nd} (hr : rightN x = true) (hk : isItemK x.kind = true) : ItemR x := by
 obtain ⟨k, t, n, ks⟩ := x
 have hk : k = 7 := of_decide_eq_true (show decide (k = 7) = true from hk)
 subst hk
 obtain ⟨_, _, hs, w1, w2, w3, _⟩ := right_mk.1 hr
 have hz : loAt 7 = -999 ∧ hiAt 7 = 999 := ⟨rfl, rfl⟩
 exact ⟨t, n, by rw [kids_none hs], w3, by omega, by omega⟩
def DefR (x : Nd) : Prop := wholeB x.text true = true ∧ (((x.kind = 5 ∨ x.kind = 6) ∧ ∃ b, x = .mk x.kind x.text 0 [b] ∧ BlockR b) ∨ (x.kind = 1 ∧ x = .mk 1 x.text 0 x.kids ∧ ∀ y ∈ x.kids, ItemR y) ∨
 (x.kind = 0 ∧ x = .mk 0 x.text x.n [] ∧ -999 ≤ x.n ∧ x.n ≤ 999) ∨ (x.kind = 2 ∧ x = .mk 2 x.text x.n [] ∧ 0 ≤ x.n ∧ x.n ≤ 3) ∨ ((x.kind = 3 ∨ x.kind = 4) ∧ x = .mk x.kind x.text 0 []))
theorem right_def {x : Nd} (hr : rightN x = true) (h0 : 0 ≤ x.kind) (h1 : x.kind ≤ 6) : DefR x := by
 obtain ⟨k, t, n, ks⟩ := x
 have h0 : 0 ≤ k := h0
 have h1 : k ≤ 6 := h1
 obtain ⟨_, _, hs, w1, w2, w3, hk⟩ := right_mk.1 hr
 have hcase : k = 0 ∨ k = 1 ∨ k = 2 ∨ k = 3 ∨ k = 4 ∨ k = 5 ∨ k = 6 := by omega
 refine ⟨by rcases hcase with rfl | rfl | rfl | rfl | rfl | rfl | rfl <;> exact w3, ?_⟩
 rcases hcase with rfl | rfl | rfl | rfl | rfl | rfl | rfl
 ·have hz : loAt 0 = -999 ∧ hiAt 0 = 999 := ⟨rfl, rfl⟩
  exact .inr (.inr (.inl ⟨rfl, by rw [kids_none hs]; rfl, by simp only [Nd.n_mk]; omega, by simp only [Nd.n_mk]; omega⟩))
 ·have hz : loAt 1 = 0 ∧ hiAt 1 = 0 := ⟨rfl, rfl⟩
  exact .inr (.inl ⟨rfl, by rw [show n = 0 by omega]; rfl, fun y hy => right_item (hk y hy) (List.all_eq_true.1 (show (ks.all fun y => isItemK y.kind) = true from hs) y hy)⟩)
 ·have hz : loAt 2 = 0 ∧ hiAt 2 = 3 := ⟨rfl, rfl⟩
  exact .inr (.inr (.inr (.inl ⟨rfl, by rw [kids_none hs]; rfl, by simp only [Nd.n_mk]; omega, by simp only [Nd.n_mk]; omega⟩)))
 ·have hz : loAt 3 = 0 ∧ hiAt 3 = 0 := ⟨rfl, rfl⟩
  exact .inr (.inr (.inr (.inr ⟨.inl rfl, by rw [kids_none hs, show n = 0 by omega]; rfl⟩)))
 ·have hz : loAt 4 = 0 ∧ hiAt 4 = 0 := ⟨rfl, rfl⟩
  exact .inr (.inr (.inr (.inr ⟨.inr rfl, by rw [kids_none hs, show n = 0 by omega]; rfl⟩)))
 ·have hz : loAt 5 = 0 ∧ hiAt 5 = 0 := ⟨rfl, rfl⟩
  obtain ⟨b, rfl, hb⟩ := kids_one (f := isBlockK) hs
  exact .inl ⟨.inl rfl, b, by rw [show n = 0 by omega]; rfl, right_block (hk b (by simp)) hb⟩
 ·have hz : loAt 6 = 0 ∧ hiAt 6 = 0 := ⟨rfl, rfl⟩
  obtain ⟨b, rfl, hb⟩ := kids_one (f := isBlockK) hs
  exact .inl ⟨.inr rfl, b, by rw [show n = 0 by omega]; rfl, right_block (hk b (by simp)) hb⟩
end Go.Eng
namespace Go.Eng
section
variable {P : Program} {N : Nat} {w0 : Base} {X : Nat → Prop} {Q : LX → Env → Obs → Prop} {env : Env} {H : Obs} {c : Code}
theorem LWp.label {l : Nat} (h : Q .normal env H) : LWp P N w0 X (.label l) Q env H := fun β _ _ s => wp_label ⟨.normal, env, H, β, trivial, s, h⟩
theorem LWp.scope (h : LWp P N w0 X c Q env H) : LWp P N w0 X (.scope c) Q env H := fun β a w s => wp_scope_straight (wp_mono (h β a w s) fun e a' w' k => by
  obtain ⟨lx, env', H', β', h1, h2, h3⟩ := k
  cases e with
  | goto l => cases lx <;> exact h1.elim
  | _ => exact ⟨lx, env', H', β', h1, h2, h3⟩)
end
end Go.Eng
