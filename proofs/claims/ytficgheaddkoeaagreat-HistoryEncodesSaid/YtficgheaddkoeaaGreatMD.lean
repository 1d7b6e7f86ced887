/-
  Texts of the proofs of this seat, part 4. No condition.
-/
import Derived.Test.YtficgheaddkoeaaGreatMC
set_option linter.unusedVariables false
set_option linter.unusedSimpArgs false
namespace Go.Eng
open Go.RowKit
section
variable {P : Program} {T : TypeId → TyI} {N : Nat} {w0 : Base} {X : Nat → Prop} {Q : LX → Env → Obs → Prop} {env env' env'' : Env} {H H' H'' : Obs}
def lenv (args : List LV) : Env := mkEnv ((args.zipIdx).map fun p => (p.2, p.1))
theorem lenv_get (args : List LV) (t : Nat) : lenv args t = (args[t]?).getD .junk := by
  have key : ∀ (l : List LV) (k t : Nat), lookL ((l.zipIdx k).map fun p => (p.2, p.1)) (k + t) = (l[t]?).getD .junk := by
    intro l
    induction l with
    | nil => intro k t; simp [lookL]
    | cons x r ih =>
      intro k t
      simp only [List.zipIdx_cons, List.map_cons, lookL]
      cases t with
      | zero => simp
      | succ t =>
        rw [if_neg (by omega)]
        have := ih (k + 1) t
        rw [show k + 1 + t = k + (t + 1) by omega] at this
        rw [this]; simp
  have := key args 0 t
  rw [Nat.zero_add] at this
  exact this
theorem OkG.of_body {f : FuncId} {fn : Func} {c : Code} {args : List LV} {h fin : List (Nat × LObj)} {ret : LV} {n : Nat} (hf : P.funcs[f]? = some fn) (hname : (fn.name == "runtime.NumGoroutine") = false) (hb : fn.body = some c) (hn : fn.ntmps = n) (hargs : args.length ≤ n)
    (hw : ∀ w0 X, w0.pins = h.map (·.1) → LWp P n w0 X c (fun x env H => (match x with | .exit _ => False | _ => True) ∧ ∀ β a w, Sim n w0 X env H β a w → ∃ v β', (results fn a.tmps).run P w = .ok v w ∧ Mem w0 X (mkObs fin) β' w ∧ R w (Ex X β' (mkObs fin)) β' (mkObs fin) ret v) (lenv args) (mkObs h)) :
    OkG P f args h fin ret := by
  refine ⟨⟨fn, hf, hname, by rw [hb]; rfl⟩, fun w X β vs m hvl hr => ?_⟩
  refine calls_of_wp hf hb (wp_mono (hw ⟨w, β, mkObs h, h.map (·.1)⟩ X rfl β ⟨vs.toArray ++ Array.replicate (fn.ntmps - vs.toArray.size) undef, []⟩ w ?_) ?_)
  · refine ⟨rfl, ?_, m.ext, m.xold, m.fresh, m.inj, fun t => ?_, m.obj, m.pin⟩
    · simp; omega
    · rw [lenv_get]
      cases q : args[t]? with
      | none => exact .junk _
      | some x =>
        have ht : t < vs.length := by rw [hvl]; exact (List.getElem?_eq_some_iff.1 q).1
        have hv : (vs.toArray ++ Array.replicate (fn.ntmps - vs.toArray.size) undef).getD t undef = vs[t] := by
          simp [Array.getD_eq_getD_getElem?, Array.getElem?_append_left, ht]
        rw [hv]
        exact hr t x _ q (List.getElem?_eq_getElem ht)
  · rintro e a' w' ⟨x, env, H, β1, h1, s, h2, h3⟩
    obtain ⟨v, β', hv1, hv2, hv3⟩ := h3 β1 a' w' s
    cases e <;> cases x <;> simp only [exitIs] at h1
    · exact ⟨s.defers, v, hv1, v, β', rfl, hv2, hv3⟩
    · exact h2.elim
    · exact ⟨s.defers, v, hv1, v, β', rfl, hv2, hv3⟩
theorem OkGR.of_body {f : FuncId} {fn : Func} {c : Code} {args : List LV} {h : List (Nat × LObj)} {Rel : List (Nat × LObj) → LV → Prop} {n : Nat} (hf : P.funcs[f]? = some fn) (hname : (fn.name == "runtime.NumGoroutine") = false) (hb : fn.body = some c) (hn : fn.ntmps = n) (hargs : args.length ≤ n)
    (hw : ∀ w0 X, w0.pins = h.map (·.1) → LWp P n w0 X c (fun x env H => (match x with | .exit _ => False | _ => True) ∧ ∀ β a w, Sim n w0 X env H β a w → ∃ v β' fin ret, Rel fin ret ∧ (results fn a.tmps).run P w = .ok v w ∧ Mem w0 X (mkObs fin) β' w ∧ R w (Ex X β' (mkObs fin)) β' (mkObs fin) ret v) (lenv args) (mkObs h)) :
    OkGR P f args h Rel := by
  refine ⟨⟨fn, hf, hname, by rw [hb]; rfl⟩, fun w X β vs m hvl hr => ?_⟩
  refine calls_of_wp hf hb (wp_mono (hw ⟨w, β, mkObs h, h.map (·.1)⟩ X rfl β ⟨vs.toArray ++ Array.replicate (fn.ntmps - vs.toArray.size) undef, []⟩ w ?_) ?_)
  · refine ⟨rfl, ?_, m.ext, m.xold, m.fresh, m.inj, fun t => ?_, m.obj, m.pin⟩
    · simp; omega
    · rw [lenv_get]
      cases q : args[t]? with
      | none => exact .junk _
      | some x =>
        have ht : t < vs.length := by rw [hvl]; exact (List.getElem?_eq_some_iff.1 q).1
        have hv : (vs.toArray ++ Array.replicate (fn.ntmps - vs.toArray.size) undef).getD t undef = vs[t] := by
          simp [Array.getD_eq_getD_getElem?, Array.getElem?_append_left, ht]
        rw [hv]
        exact hr t x _ q (List.getElem?_eq_getElem ht)
  · rintro e a' w' ⟨x, env, H, β1, h1, s, h2, h3⟩
    obtain ⟨v, β', fin, ret, hrel, hv1, hv2, hv3⟩ := h3 β1 a' w' s
    cases e <;> cases x <;> simp only [exitIs] at h1
    · exact ⟨s.defers, v, hv1, v, β', fin, ret, hrel, rfl, hv2, hv3⟩
    · exact h2.elim
    · exact ⟨s.defers, v, hv1, v, β', fin, ret, hrel, rfl, hv2, hv3⟩
def retG0 (w0 : Base) (fin : List (Nat × LObj)) (x : LX) (env : Env) (H : Obs) : Prop := (match x with | .exit _ => False | _ => True) ∧ Weak w0 env H (mkEnv []) (mkObs fin)
def retG1 (w0 : Base) (t : Nat) (fin : List (Nat × LObj)) (ret : LV) (x : LX) (env : Env) (H : Obs) : Prop := (match x with | .exit _ => False | _ => True) ∧ Weak w0 env H (mkEnv [(t, ret)]) (mkObs fin)
theorem retG0_ret {fin : List (Nat × LObj)} : retG0 w0 fin .ret env H ↔ Weak w0 env H (mkEnv []) (mkObs fin) := by simp [retG0]
theorem retG0_normal {fin : List (Nat × LObj)} : retG0 w0 fin .normal env H ↔ Weak w0 env H (mkEnv []) (mkObs fin) := by simp [retG0]
theorem retG1_ret {t : Nat} {fin : List (Nat × LObj)} {ret : LV} : retG1 w0 t fin ret .ret env H ↔ Weak w0 env H (mkEnv [(t, ret)]) (mkObs fin) := by simp [retG1]
theorem OkG.unit {f : FuncId} {fn : Func} {c : Code} {args : List LV} {h fin : List (Nat × LObj)} {n : Nat} (hf : P.funcs[f]? = some fn) (hname : (fn.name == "runtime.NumGoroutine") = false) (hb : fn.body = some c) (hn : fn.ntmps = n) (hargs : args.length ≤ n) (hres : fn.results = #[])
    (hw : ∀ w0 X, w0.pins = h.map (·.1) → LWp P n w0 X c (retG0 w0 fin) (lenv args) (mkObs h)) : OkG P f args h fin (.tup []) :=
  OkG.of_body hf hname hb hn hargs fun w0 X hp => (hw w0 X hp).mono fun x env H ⟨h1, h2⟩ => ⟨h1, fun β a w s => by
    obtain ⟨β', s'⟩ := h2 _ _ _ _ _ s
    exact ⟨.tuple #[], β', results_none hres _ _ _, s'.mem, .tup [] [] rfl (by simp)⟩⟩
theorem OkG.one {f : FuncId} {fn : Func} {c : Code} {args : List LV} {h fin : List (Nat × LObj)} {ret : LV} {n t : Nat} (hf : P.funcs[f]? = some fn) (hname : (fn.name == "runtime.NumGoroutine") = false) (hb : fn.body = some c) (hn : fn.ntmps = n) (hargs : args.length ≤ n) (hres : fn.results = #[.tmp t])
    (hw : ∀ w0 X, w0.pins = h.map (·.1) → LWp P n w0 X c (retG1 w0 t fin ret) (lenv args) (mkObs h)) : OkG P f args h fin ret :=
  OkG.of_body hf hname hb hn hargs fun w0 X hp => (hw w0 X hp).mono fun x env H ⟨h1, h2⟩ => ⟨h1, fun β a w s => by
    obtain ⟨β', s'⟩ := h2 _ _ _ _ _ s
    have := s'.env t
    rw [show mkEnv [(t, ret)] t = ret by simp [mkEnv, lookL]] at this
    exact ⟨_, β', results_tmp hres _ _ _, s'.mem, this⟩⟩
def retGR (w0 : Base) (t : Nat) (Rel : List (Nat × LObj) → LV → Prop) (x : LX) (env : Env) (H : Obs) : Prop := (match x with | .exit _ => False | _ => True) ∧ ∃ fin ret, Rel fin ret ∧ Weak w0 env H (mkEnv [(t, ret)]) (mkObs fin)
theorem retGR_ret {t : Nat} {Rel : List (Nat × LObj) → LV → Prop} : retGR w0 t Rel .ret env H ↔ ∃ fin ret, Rel fin ret ∧ Weak w0 env H (mkEnv [(t, ret)]) (mkObs fin) := by simp [retGR]
theorem OkGR.one {f : FuncId} {fn : Func} {c : Code} {args : List LV} {h : List (Nat × LObj)} {Rel : List (Nat × LObj) → LV → Prop} {n t : Nat} (hf : P.funcs[f]? = some fn) (hname : (fn.name == "runtime.NumGoroutine") = false) (hb : fn.body = some c) (hn : fn.ntmps = n) (hargs : args.length ≤ n) (hres : fn.results = #[.tmp t])
    (hw : ∀ w0 X, w0.pins = h.map (·.1) → LWp P n w0 X c (retGR w0 t Rel) (lenv args) (mkObs h)) : OkGR P f args h Rel :=
  OkGR.of_body hf hname hb hn hargs fun w0 X hp => (hw w0 X hp).mono fun x env H ⟨h1, fin, ret, hr, h2⟩ => ⟨h1, fun β a w s => by
    obtain ⟨β', s'⟩ := h2 _ _ _ _ _ s
    have := s'.env t
    rw [show mkEnv [(t, ret)] t = ret by simp [mkEnv, lookL]] at this
    exact ⟨_, β', fin, ret, hr, results_tmp hres _ _ _, s'.mem, this⟩⟩
theorem optAll_d {n : Nat} : ∀ {cs : List DV}, optAll (List.map (close H (n + 1) ∘ LV.d) cs) = some cs
  | [] => rfl
  | c :: cs => by
    have ih := optAll_d (n := n) (cs := cs)
    simp only [List.map_cons, Function.comp, close_d, optAll] at ih ⊢
    rw [ih]; rfl
theorem optAll_d' {n : Nat} {cs : List DV} : optAll (List.map (close H (n + 1)) (List.map LV.d cs)) = some cs := by rw [List.map_map]; exact optAll_d
theorem touch_ds {n : Nat} {cs : List DV} : (List.map LV.d cs).flatMap (touch H (n + 1)) = [] := by
  induction cs with
  | nil => rfl
  | cons c cs ih => simp only [List.map_cons, List.flatMap_cons, touch_d, List.nil_append]; exact ih
end
end Go.Eng
namespace Go.Eng
open Go.RowKit
section
variable {P : Program} {T : TypeId → TyI} {N : Nat} {w0 : Base} {X : Nat → Prop} {env : Env} {H : Obs}
def rvarL (T : TypeId → TyI) (env : Env) (H : Obs) : ResultVar → Res
  | .tmp t => .plain (env t)
  | .cell t ty => loadR T H ty (env t)
def retsQ (T : TypeId → TyI) (fresh : Bool) (env : Env) (H : Obs) : List ResultVar → List RV → Prop
  | [], [] => True
  | r :: rs, x :: xs => (rvarL T env H r).ok ∧ RetIs H fresh (rvarL T env H r).v x ∧ retsQ T fresh env H rs xs
  | _, _ => False
def retN (T : TypeId → TyI) (l : List ResultVar) (fresh : Bool) (rs : List RV) (x : LX) (env : Env) (H : Obs) : Prop := (match x with | .exit _ => False | _ => True) ∧ retsQ T fresh env H l rs
theorem retN_ret {l : List ResultVar} {fresh : Bool} {rs : List RV} : retN T l fresh rs .ret env H ↔ retsQ T fresh env H l rs := by simp [retN]
def rvRun (tmps : Array Value) : ResultVar → Sem Value
  | .tmp t => pure (tmps.getD t undef)
  | .cell b t => do loadVar t (← asAddr (tmps.getD b undef))
theorem retsQ_run (hT : TOk P T) {β : Nat → Option Nat} {a : Act} {w : World} {fresh : Bool} (s : Sim N w0 X env H β a w) : ∀ (l : List ResultVar) (rs : List RV), retsQ T fresh env H l rs →
    ∃ vs : List Value, vs.length = rs.length ∧ (l.mapM (rvRun a.tmps)).run P w = .ok vs w ∧
      ∀ (i : Nat) (r : RV) (v : Value), rs[i]? = some r → vs[i]? = some v → ∃ x, R w (Ex X β H) β H x v ∧ RetIs H fresh x r
  | [], [], _ => ⟨[], rfl, by simp, by simp⟩
  | [], _ :: _, h => h.elim
  | _ :: _, [], h => h.elim
  | r :: l, x :: rs, h => by
    obtain ⟨h1, h2, h3⟩ := h
    obtain ⟨vs, hl, hr, hp⟩ := retsQ_run hT s l rs h3
    have one : ∃ v, (rvRun a.tmps r).run P w = .ok v w ∧ R w (Ex X β H) β H (rvarL T env H r).v v := by
      cases r with
      | tmp t => exact ⟨_, by simp [rvRun], s.env t⟩
      | cell t ty =>
        obtain ⟨v, hv, hr⟩ := loadR_sound hT s h1
        exact ⟨v, by simpa [rvRun, Sem.run_bind, Result.andThen] using hv, hr⟩
    obtain ⟨v, hv, hv2⟩ := one
    refine ⟨v :: vs, by simp [hl], ?_, ?_⟩
    · rw [List.mapM_cons]
      simp only [Sem.run_bind, hv, Result.andThen_ok, hr, Sem.run_pure]
    · intro i r' u hr' hu
      cases i with
      | zero => simp at hr' hu; subst hr'; subst hu; exact ⟨_, hv2, h2⟩
      | succ i => simp at hr' hu; exact hp i r' u hr' hu
def RV.isD : RV → Bool
  | .d _ => true
  | _ => false
def RV.isM : RV → Bool
  | .d y => memless y
  | _ => false
def resOk (rs : List RV) : Bool := rs.all RV.isD || rs.tail.all RV.isM
theorem RV.isD_d {r : RV} (h : r.isD = true) : ∃ y, r = .d y := by cases r <;> first | exact ⟨_, rfl⟩ | cases h
theorem RV.isM_d {r : RV} (h : r.isM = true) : ∃ y, r = .d y ∧ memless y = true := by cases r <;> first | exact ⟨_, rfl, h⟩ | cases h
theorem Ok.many (hT : TOk P T) {f : FuncId} {fn : Func} {c : Code} {args : List DV} {rs : List RV} {l : List ResultVar} {fresh : Bool} {n : Nat} (hf : P.funcs[f]? = some fn) (hname : (fn.name == "runtime.NumGoroutine") = false) (hb : fn.body = some c) (hn : fn.ntmps = n) (hargs : args.length ≤ n) (hres : fn.results = l.toArray)
    (hl : 2 ≤ rs.length) (hb' : resOk rs = true)
    (h : ∀ w0 X, w0.pins = [] → LWp P n w0 X c (retN T l fresh rs) (argsEnv args) (mkObs [])) : Ok P f args ⟨.tup rs, fresh⟩ := by
  have hx : (∀ x ∈ rs, ∃ y, x = .d y) ∨ ∃ r1 rest, rs = r1 :: rest ∧ ∀ x ∈ rest, ∃ y, x = .d y ∧ memless y = true := by
    unfold resOk at hb'
    rcases Bool.or_eq_true_iff.1 hb' with h1 | h1
    · exact .inl fun x hx => RV.isD_d (List.all_eq_true.1 h1 x hx)
    · cases rs with
      | nil => simp at hl
      | cons r1 rest => exact .inr ⟨r1, rest, rfl, fun x hx => RV.isM_d (List.all_eq_true.1 h1 x hx)⟩
  refine Ok.of_body hf hname hb hn hargs fun w0 X hpn => (h w0 X hpn).mono fun x env H ⟨h1, h2⟩ => ⟨h1, fun β a w s => ?_⟩
  obtain ⟨vs, hvl, hrun, hp⟩ := retsQ_run hT s l rs h2
  refine ⟨.tuple vs.toArray, ?_, ?_⟩
  · simp only [results, hres, List.mapM_toArray, map_eq_pure_bind, Sem.run_bind, Sem.run_pure]
    change ((((l.mapM (rvRun a.tmps)).run P w).andThen _).andThen _) = _
    rw [hrun]
    simp only [Result.andThen_ok]
    rw [dif_neg (by simp; omega)]
  · have hret : ∀ (i : Nat) (r : RV) (v : Value), rs[i]? = some r → vs[i]? = some v → ∃ B : Option Nat, RVok w0.w w (fun k => (X k ∨ fresh = true ∧ k < w0.w.heap.size) ∨ B = some k) B r v := fun i r v hr hv => by
      obtain ⟨x, hx1, hx2⟩ := hp i r v hr hv
      exact ret_one hpn s hx1 hx2
    rcases hx with hx | ⟨r1, rest, rfl, hx⟩
    · refine ⟨vs, fun _ => none, rfl, hvl, (by intro i j b hi hj; simp at hi), fun i r v hr hv => ?_⟩
      obtain ⟨B, hB⟩ := hret i r v hr hv
      obtain ⟨y, rfl⟩ := hx r (List.mem_of_getElem? hr)
      simp only [RVok] at hB ⊢
      exact RD.anti (fun k hk => .inl (by rcases hk with hk | ⟨j, hj⟩; exact hk; cases hj)) hB
    · obtain ⟨v1, hv1⟩ : ∃ v, vs[0]? = some v := ⟨vs[0]'(by rw [hvl]; simp), List.getElem?_eq_getElem _⟩
      obtain ⟨B, hB⟩ := hret 0 r1 v1 rfl hv1
      refine ⟨vs, fun i => if i = 0 then B else none, rfl, hvl, fun i j b hi hj => ?_, fun i r v hr hv => ?_⟩
      · simp only at hi hj
        by_cases h1 : i = 0
        · by_cases h2 : j = 0
          · omega
          · rw [if_neg h2] at hj; cases hj
        · rw [if_neg h1] at hi; cases hi
      · cases i with
        | zero =>
          rw [hv1] at hv; injection hv with hv; subst hv
          simp at hr; subst hr
          simp only [if_pos]
          refine RVok.anti (fun k hk => ?_) hB
          rcases hk with hk | ⟨j, hj⟩
          · exact .inl hk
          · by_cases h2 : j = 0
            · rw [if_pos h2] at hj; exact .inr hj
            · rw [if_neg h2] at hj; cases hj
        | succ i =>
          obtain ⟨B', hB'⟩ := hret (i + 1) r v hr hv
          simp at hr
          obtain ⟨y, rfl, hy⟩ := hx r (List.mem_of_getElem? hr)
          simp only [RVok] at hB' ⊢
          exact hB'.memless hy
def cutQ (w0 : Base) {ι : Type} (E : ι → Env) (O : ι → Obs) (I : ι → Prop) (Q : LX → Env → Obs → Prop) : LX → Env → Obs → Prop
  | .normal, env, H => ∃ i, Weak w0 env H (E i) (O i) ∧ I i
  | e, env, H => Q e env H
theorem cutQ.mk {ι : Type} {E : ι → Env} {O : ι → Obs} {I : ι → Prop} (i : ι) (hw : Weak w0 env H (E i) (O i)) (hI : I i) : ∃ i, Weak w0 env H (E i) (O i) ∧ I i := ⟨i, hw, hI⟩
theorem LWp.seqCut {x y : Code} {Q : LX → Env → Obs → Prop} {ι : Type} (E : ι → Env) (O : ι → Obs) (I : ι → Prop) (h1 : LWp P N w0 X x (cutQ w0 E O I Q) env H) (h2 : ∀ i, I i → LWp P N w0 X y Q (E i) (O i)) : LWp P N w0 X (.seq x y) Q env H := by
  refine LWp.seq (h1.mono fun e env H h => ?_)
  cases e with
  | normal => obtain ⟨i, hw, hI⟩ := h; exact LWp.weak hw (h2 i hI)
  | exit j => exact h
  | ret => exact h
end
end Go.Eng
namespace Go.Eng
open Go.RowKit
section
variable {P : Program} {T : TypeId → TyI} {N : Nat} {w0 : Base} {X : Nat → Prop} {Q : LX → Env → Obs → Prop} {env : Env} {H : Obs} {l : List Oper} {id : Nat}
def oneAt (l : List Oper) (d0 : Nat) : Bool := decide ((l.filter fun o => o.dst.getD 0 == d0).length ≤ 1)
def oneAtI (l : List Oper) (d0 : Nat) : Bool := decide (((List.range l.length).filter fun i => match l[i]? with | some o => o.dst.getD 0 == d0 | none => false).length ≤ 1)
theorem LWp.regNil (hT : TOk P T) (hW : TWf T) (d0 : Nat) (e : Bool) (base : Nat → Option Orc) (hdet : ∀ d, DetS (base d)) (hc : oneAt l d0 = true)
    (h : ∀ b : Bool, (b = true → e = true) → (runL P T N l (gorc d0 base (fun b => .nil e b) b) env H).ok ∧ Q .normal (runL P T N l (gorc d0 base (fun b => .nil e b) b) env H).env (runL P T N l (gorc d0 base (fun b => .nil e b) b) env H).H) : LWp P N w0 X (.region id l.toArray false) Q env H :=
  LWp.regG hT hW d0 base (fun b => .nil e b) (fun b => b = true → e = true) hdet (fun b hb => ⟨b, hb, rfl⟩) (fun b _ r' ⟨j, h1, h2⟩ => ⟨j, h1, h2.symm⟩) false (by simp) (of_decide_eq_true hc) h
theorem LWp.regApp (hT : TOk P T) (hW : TWf T) (d0 lo : Nat) (hlo : lo ≤ maxLen) (base : Nat → Option Orc) (hdet : ∀ d, DetS (base d)) (hc : oneAt l d0 = true)
    (h : ∀ c : Nat, lo ≤ c → c ≤ maxLen → (runL P T N l (gorc d0 base (fun c => .app lo c) c) env H).ok ∧ Q .normal (runL P T N l (gorc d0 base (fun c => .app lo c) c) env H).env (runL P T N l (gorc d0 base (fun c => .app lo c) c) env H).H) : LWp P N w0 X (.region id l.toArray false) Q env H :=
  LWp.regG hT hW d0 base (fun c => .app lo c) (fun c => lo ≤ c ∧ c ≤ maxLen) hdet (fun c hc => ⟨c, hc.1, hc.2, rfl⟩) (fun c _ r' ⟨j, h1, h2, h3⟩ => ⟨j, ⟨h1, h2⟩, h3.symm⟩) lo ⟨Nat.le_refl _, hlo⟩ (of_decide_eq_true hc) fun c hc => h c hc.1 hc.2
theorem LWp.regRel (hT : TOk P T) (hW : TWf T) (d0 : Nat) (Rel : Ret → Prop) (fr : Bool) (r0 : Ret) (h0 : Rel r0 ∧ r0.fresh = fr) (base : Nat → Option Orc) (hdet : ∀ d, DetS (base d)) (hc : oneAt l d0 = true)
    (h : ∀ r : Ret, Rel r → (runL P T N l (gorc d0 base (fun r => .rel Rel fr r) r) env H).ok ∧ Q .normal (runL P T N l (gorc d0 base (fun r => .rel Rel fr r) r) env H).env (runL P T N l (gorc d0 base (fun r => .rel Rel fr r) r) env H).H) : LWp P N w0 X (.region id l.toArray false) Q env H :=
  LWp.regG hT hW d0 base (fun r => .rel Rel fr r) (fun r => Rel r ∧ r.fresh = fr) hdet (fun c hc => ⟨c, hc.1, hc.2, rfl⟩) (fun c _ r' ⟨j, h1, h2, h3⟩ => ⟨j, ⟨h1, h2⟩, h3.symm⟩) r0 h0 (of_decide_eq_true hc) fun c hc => h c hc.1
theorem LWp.regGenR (hT : TOk P T) (hW : TWf T) (d0 : Nat) (σ new : List (Nat × Nat)) (shut : List Nat) (Rel : List (Nat × LObj) → LV → Prop) (f0 : List (Nat × LObj)) (r0 : LV) (h0 : Rel f0 r0) (base : Nat → Option Orc) (hdet : ∀ d, DetS (base d)) (hc : oneAt l d0 = true)
    (h : ∀ (i : List (Nat × LObj) × LV), Rel i.1 i.2 → (runL P T N l (gorc d0 base (fun (i : List (Nat × LObj) × LV) => .genR ⟨σ, new, shut, i.1, i.2⟩ Rel) i) env H).ok ∧ Q .normal (runL P T N l (gorc d0 base (fun (i : List (Nat × LObj) × LV) => .genR ⟨σ, new, shut, i.1, i.2⟩ Rel) i) env H).env (runL P T N l (gorc d0 base (fun (i : List (Nat × LObj) × LV) => .genR ⟨σ, new, shut, i.1, i.2⟩ Rel) i) env H).H) :
    LWp P N w0 X (.region id l.toArray false) Q env H :=
  LWp.regG hT hW d0 base (fun (i : List (Nat × LObj) × LV) => .genR ⟨σ, new, shut, i.1, i.2⟩ Rel) (fun i => Rel i.1 i.2) hdet (fun c hc => ⟨c.1, c.2, hc, rfl⟩) (fun c _ r' ⟨fin, ret, h1, h2⟩ => ⟨(fin, ret), h1, h2.symm⟩) (f0, r0) h0 (of_decide_eq_true hc) h
theorem LWp.anyAppV (hT : TOk P T) (hW : TWf T) (hm : P.follows .mixedOrders = true) (cl hide wr : Nat → List Nat) (hA : anyChk l cl hide wr = true) (d0 lo : Nat) (hlo : lo ≤ maxLen) (base : Nat → Option Orc) (hdet : ∀ d, DetS (base d)) (hc : oneAtI l d0 = true)
    (h : ∀ i : Nat × Value, lo ≤ i.1 → i.1 ≤ maxLen → (runM P T N l (gorc d0 base (fun (i : Nat × Value) => .appv lo i.1 i.2) i) hide wr ⟨env, H, True⟩).ok ∧ Q .normal (runM P T N l (gorc d0 base (fun (i : Nat × Value) => .appv lo i.1 i.2) i) hide wr ⟨env, H, True⟩).env (runM P T N l (gorc d0 base (fun (i : Nat × Value) => .appv lo i.1 i.2) i) hide wr ⟨env, H, True⟩).H) : LWp P N w0 X (.region id l.toArray true) Q env H :=
  LWp.regAny1 hT hW hm cl hide wr hA d0 base (fun (i : Nat × Value) => .appv lo i.1 i.2) (fun i => lo ≤ i.1 ∧ i.1 ≤ maxLen) hdet (fun c hc => ⟨c.1, c.2, hc.1, hc.2, rfl⟩) (fun c _ r' ⟨j, v, h1, h2, h3⟩ => ⟨(j, v), ⟨h1, h2⟩, h3.symm⟩) (lo, undef) ⟨Nat.le_refl _, hlo⟩ (of_decide_eq_true hc) fun c hc => h c hc.1 hc.2
theorem LWp.anyGen2 (hT : TOk P T) (hW : TWf T) (hm : P.follows .mixedOrders = true) (cl hide wr : Nat → List Nat) (hA : anyChk l cl hide wr = true) (d0 d1 : Nat) (hne : d0 ≠ d1) (σ new : List (Nat × Nat)) (shut : List Nat) (Rel : List (Nat × LObj) → LV → Prop) (f0 : List (Nat × LObj)) (r0 : LV) (h0 : Rel f0 r0)
    (σ2 new2 : List (Nat × Nat)) (shut2 : List Nat) (Rel2 : List (Nat × LObj) → LV → Prop) (f1 : List (Nat × LObj)) (r1 : LV) (h1 : Rel2 f1 r1) (base : Nat → Option Orc) (hdet : ∀ d, DetS (base d)) (hc : oneAtI l d0 = true) (hc1 : oneAtI l d1 = true)
    (h : ∀ (i j : List (Nat × LObj) × LV), Rel i.1 i.2 → Rel2 j.1 j.2 → (runM P T N l (gorc2 d0 d1 base (fun (i : List (Nat × LObj) × LV) => .genR ⟨σ, new, shut, i.1, i.2⟩ Rel) (fun (i : List (Nat × LObj) × LV) => .genR ⟨σ2, new2, shut2, i.1, i.2⟩ Rel2) (i, j)) hide wr ⟨env, H, True⟩).ok ∧ Q .normal (runM P T N l (gorc2 d0 d1 base (fun (i : List (Nat × LObj) × LV) => .genR ⟨σ, new, shut, i.1, i.2⟩ Rel) (fun (i : List (Nat × LObj) × LV) => .genR ⟨σ2, new2, shut2, i.1, i.2⟩ Rel2) (i, j)) hide wr ⟨env, H, True⟩).env (runM P T N l (gorc2 d0 d1 base (fun (i : List (Nat × LObj) × LV) => .genR ⟨σ, new, shut, i.1, i.2⟩ Rel) (fun (i : List (Nat × LObj) × LV) => .genR ⟨σ2, new2, shut2, i.1, i.2⟩ Rel2) (i, j)) hide wr ⟨env, H, True⟩).H) :
    LWp P N w0 X (.region id l.toArray true) Q env H :=
  LWp.regAny2 hT hW hm cl hide wr hA d0 d1 hne base (fun (i : List (Nat × LObj) × LV) => .genR ⟨σ, new, shut, i.1, i.2⟩ Rel) (fun (i : List (Nat × LObj) × LV) => .genR ⟨σ2, new2, shut2, i.1, i.2⟩ Rel2) (fun i => Rel i.1 i.2) (fun i => Rel2 i.1 i.2) hdet (fun c hc => ⟨c.1, c.2, hc, rfl⟩) (fun c _ r' ⟨fin, ret, h1, h2⟩ => ⟨(fin, ret), h1, h2.symm⟩)
    (fun c hc => ⟨c.1, c.2, hc, rfl⟩) (fun c _ r' ⟨fin, ret, h1, h2⟩ => ⟨(fin, ret), h1, h2.symm⟩) (f0, r0) h0 (f1, r1) h1 (of_decide_eq_true hc) (of_decide_eq_true hc1) fun i j hi hj => h i j hi hj
theorem LWp.anyRel (hT : TOk P T) (hW : TWf T) (hm : P.follows .mixedOrders = true) (cl hide wr : Nat → List Nat) (hA : anyChk l cl hide wr = true) (d0 : Nat) (Rel : Ret → Prop) (fr : Bool) (r0 : Ret) (h0 : Rel r0 ∧ r0.fresh = fr) (base : Nat → Option Orc) (hdet : ∀ d, DetS (base d)) (hc : oneAtI l d0 = true)
    (h : ∀ r : Ret, Rel r → (runM P T N l (gorc d0 base (fun r => .rel Rel fr r) r) hide wr ⟨env, H, True⟩).ok ∧ Q .normal (runM P T N l (gorc d0 base (fun r => .rel Rel fr r) r) hide wr ⟨env, H, True⟩).env (runM P T N l (gorc d0 base (fun r => .rel Rel fr r) r) hide wr ⟨env, H, True⟩).H) : LWp P N w0 X (.region id l.toArray true) Q env H :=
  LWp.regAny1 hT hW hm cl hide wr hA d0 base (fun r => .rel Rel fr r) (fun r => Rel r ∧ r.fresh = fr) hdet (fun c hc => ⟨c, hc.1, hc.2, rfl⟩) (fun c _ r' ⟨j, h1, h2, h3⟩ => ⟨j, ⟨h1, h2⟩, h3.symm⟩) r0 h0 (of_decide_eq_true hc) fun c hc => h c hc.1
theorem Mem.rebox {β : Nat → Option Nat} {w : World} (m : Mem w0 X H β w) {b : Nat} {fz : Bool} {cs cs' : List LV} (hH : H b = .box fz cs) (hl : cs'.length = cs.length) (h : ∀ (i : Nat) (c c' : LV) (v : Value), cs[i]? = some c → cs'[i]? = some c' → R w (Ex X β H) β H c v → R w (Ex X β H) β H c' v) :
    Mem w0 X (upd H b (.box fz cs')) β w ∧ Goes X H β w (upd H b (.box fz cs')) β w := by
  have hmut : ∀ i, (upd H b (.box fz cs') i).mut = (H i).mut := fun i => by
    by_cases hi : i = b
    · subst hi; rw [upd_same, hH]; rfl
    · rw [upd_ne _ _ hi]
  have hlive : ∀ i, (upd H b (.box fz cs') i).live = (H i).live := fun i => by
    by_cases hi : i = b
    · subst hi; rw [upd_same, hH]; rfl
    · rw [upd_ne _ _ hi]
  have hg : Goes X H β w (upd H b (.box fz cs')) β w := by
    refine ⟨Nat.le_refl _, fun _ _ _ => rfl, fun k _ he => ?_, fun i => ?_⟩
    · rcases he with he | ⟨i, h1, h2⟩
      · exact .inl he
      · rw [hmut] at h1; exact .inr ⟨i, h1, h2⟩
    · by_cases hi : i = b
      · subst hi; unfold Passes; rw [hH, upd_same]; exact .inr ⟨⟨fz, cs', rfl⟩, rfl⟩
      · have hp := Passes.refl (w := w) (β := β) (H := H) i
        unfold Passes at *
        rw [upd_ne _ _ hi]; exact hp
  refine ⟨⟨m.ext, m.xold, fun i b' h1 h2 => ?_, fun i j b' h1 h2 => ?_, fun i => ?_, fun i hi => (m.pin i hi).trans (hg.pass i)⟩, hg⟩
  · rw [hlive] at h1; rw [hmut]; exact m.fresh i b' h1 h2
  · rw [hlive] at h1 h2; exact m.inj i j b' h1 h2
  · by_cases hi : i = b
    · subst hi
      have ho := m.obj i
      unfold ObjR at *
      rw [hH] at ho
      rw [upd_same]
      obtain ⟨b', e, us, h1, h2, h3, h4, h5⟩ := ho
      refine ⟨b', e, us, h1, h2, by rw [hl]; exact h3, h4, fun j c v hc hv => ?_⟩
      have hj : j < cs.length := by have := (List.getElem?_eq_some_iff.1 hc).1; omega
      exact hg.R (h j _ c v (List.getElem?_eq_getElem hj) hc (h5 j _ v (List.getElem?_eq_getElem hj) hv))
    · exact (m.obj i).step hg.size hg.out (fun _ _ => hg.D) (fun _ _ => hg.R) (upd_ne _ _ hi) (fun _ => rfl) fun _ _ _ => rfl
theorem LWp.nlBox {c : Code} (b id s : Nat) {fz : Bool} (hs : 0 < s) (h : H b = .box fz [.nl] ∧ H id = .absent ∧ LWp P N w0 X c Q env (upd (upd H id (.row false s [])) b (.box fz [.ow id 0 0]))) : LWp P N w0 X c Q env H := by
  obtain ⟨hb, hid, h⟩ := h
  have hne : b ≠ id := fun e => by rw [e, hid] at hb; cases hb
  intro β a w sm
  obtain ⟨m1, g1⟩ := new_none sm.mem hid hs
  obtain ⟨m2, g2⟩ := m1.rebox (b := b) (fz := fz) (cs := [.nl]) (cs' := [.ow id 0 0]) (by rw [upd_ne _ _ hne]; exact hb) rfl fun i c c' v hc hc' hr => by
    cases i with
    | succ i => simp at hc
    | zero =>
      simp at hc hc'
      subst hc; subst hc'
      cases hr with | nl p => exact .ow0 id 0 p false s [] (by rw [upd_same]) (.inl ⟨by rw [upd_same], rfl⟩)
  exact h _ a w ⟨sm.defers, sm.size, m2.ext, m2.xold, m2.fresh, m2.inj, fun t => g2.R (g1.R (sm.env t)), m2.obj, m2.pin⟩
theorem OkR.of_body {f : FuncId} {fn : Func} {c : Code} {args : List DV} {Rel : Ret → Prop} {n : Nat} (hf : P.funcs[f]? = some fn) (hname : (fn.name == "runtime.NumGoroutine") = false) (hb : fn.body = some c) (hn : fn.ntmps = n) (hargs : args.length ≤ n)
    (h : ∀ w0 X, w0.pins = [] → LWp P n w0 X c (fun x env H => (match x with | .exit _ => False | _ => True) ∧ ∀ β a w, Sim n w0 X env H β a w → ∃ v r, Rel r ∧ (results fn a.tmps).run P w = .ok v w ∧ RetOk w0.w w (fun k => X k ∨ r.fresh = true ∧ k < w0.w.heap.size) r.v v) (argsEnv args) (mkObs [])) :
    OkR P f args Rel := by
  refine ⟨⟨fn, hf, hname, by rw [hb]; rfl⟩, fun w X vs hX hr => ?_⟩
  refine calls_of_wp hf hb (wp_mono (h ⟨w, fun _ => none, fun _ => .absent, []⟩ X rfl (fun _ => none) ⟨vs.toArray ++ Array.replicate (fn.ntmps - vs.toArray.size) undef, []⟩ w ?_) ?_)
  · refine ⟨rfl, ?_, ⟨rfl, rfl, rfl, Nat.le_refl _, fun _ _ _ => rfl, Nat.le_refl _⟩, fun k hk => ⟨hX k hk, by rintro ⟨id, hid, _⟩; cases hid⟩, fun id b hl _ => by simp [mkObs, lookH, LObj.live] at hl, fun i j b hi _ => by simp [mkObs, lookH, LObj.live] at hi, fun t => ?_, fun id => by unfold ObjR; trivial, fun id hid => by cases hid⟩
    · have := hr.1
      simp
      omega
    · rw [argsEnv_get]
      cases q : args[t]? with
      | none => exact .junk _
      | some x =>
        have ht : t < vs.length := by rw [hr.1]; exact (List.getElem?_eq_some_iff.1 q).1
        have hv : (vs.toArray ++ Array.replicate (fn.ntmps - vs.toArray.size) undef).getD t undef = vs[t] := by
          simp [Array.getD_eq_getD_getElem?, Array.getElem?_append_left, ht]
        rw [hv]
        refine .d _ _ ((hr.2 t x _ q (List.getElem?_eq_getElem ht)).anti fun k hk => ?_)
        rcases hk with hk | ⟨id, h1, _⟩
        · exact hk
        · cases h1
  · rintro e a' w' ⟨x, env, H, β, h1, s, h2, h3⟩
    obtain ⟨v, r, hrel, hv1, hv2⟩ := h3 β a' w' s
    have hbel : Bel w.heap.size w w' := ⟨s.ext.os, s.ext.tape, s.ext.output, s.ext.size, fun k hk => s.ext.block k hk (by rintro ⟨id, hid, _⟩; cases hid), s.ext.drawn⟩
    cases e <;> cases x <;> simp only [exitIs] at h1
    · exact ⟨s.defers, v, hv1, v, r, hrel, rfl, hbel, hv2⟩
    · exact h2.elim
    · exact ⟨s.defers, v, hv1, v, r, hrel, rfl, hbel, hv2⟩
def retR (t : Nat) (fresh : Bool) (Rel : RV → Prop) (x : LX) (env : Env) (H : Obs) : Prop := (match x with | .exit _ => False | _ => True) ∧ ∃ r, Rel r ∧ (∀ rs, r ≠ .tup rs) ∧ RetIs H fresh (env t) r
theorem retR_ret {t : Nat} {fresh : Bool} {Rel : RV → Prop} : retR t fresh Rel .ret env H ↔ ∃ r, Rel r ∧ (∀ rs, r ≠ .tup rs) ∧ RetIs H fresh (env t) r := by simp [retR]
theorem OkR.ret {f : FuncId} {fn : Func} {c : Code} {args : List DV} {Rel : RV → Prop} {fresh : Bool} {n t : Nat} (hf : P.funcs[f]? = some fn) (hname : (fn.name == "runtime.NumGoroutine") = false) (hb : fn.body = some c) (hn : fn.ntmps = n) (hargs : args.length ≤ n) (hres : fn.results = #[.tmp t])
    (h : ∀ w0 X, w0.pins = [] → LWp P n w0 X c (retR t fresh Rel) (argsEnv args) (mkObs [])) : OkR P f args (fun r => Rel r.v ∧ r.fresh = fresh) := by
  refine OkR.of_body hf hname hb hn hargs fun w0 X hpn => (h w0 X hpn).mono fun x env H ⟨h1, r, h2, h3, h4⟩ => ⟨h1, fun β a w s => ⟨a.tmps.getD t undef, ⟨r, fresh⟩, ⟨h2, rfl⟩, results_tmp hres _ _ _, ?_⟩⟩
  obtain ⟨B, hB⟩ := ret_one hpn s (s.env t) h4
  cases q : r with
  | tup rs => exact absurd q (h3 rs)
  | d x => rw [q] at hB; exact ⟨B, hB⟩
  | own sz xs => rw [q] at hB; exact ⟨B, hB⟩
end
end Go.Eng
namespace Go.Eng
abbrev Str := List UInt8
structure Nm where
  who : Int
  seq : Int
  deriving DecidableEq, Inhabited
structure Df where
  name : Str
  text : Str
  deriving DecidableEq, Inhabited
structure Ed where
  name : Nm
  needs : List Nm
  puts : List Df
  drops : List Str
  deriving DecidableEq, Inhabited
abbrev I64 (n : Int) : DV := .int .i64 n
def Nm.d (n : Nm) : DV := .agg [.int .i64 n.who, .int .i64 n.seq]
def Df.d (d : Df) : DV := .agg [.str d.name, .str d.text]
def Nm.enc (n : Nm) : List Value := [.int .i64 n.who, .int .i64 n.seq]
def nmsD (l : List Nm) : DV := .sl (l.map Nm.d)
def dfsD (l : List Df) : DV := .sl (l.map Df.d)
def strsD (l : List Str) : DV := .sl (l.map .str)
def Ed.d (e : Ed) : DV := .agg [.int .i64 e.name.who, .int .i64 e.name.seq, .sl (e.needs.map Nm.d), .sl (e.puts.map Df.d), .sl (e.drops.map .str)]
def edsD (l : List Ed) : DV := .sl (l.map Ed.d)
theorem mem_take_succ {α : Type} {l : List α} {i : Nat} (h : i < l.length) {x : α} : x ∈ l.take (i + 1) ↔ x ∈ l.take i ∨ x = l[i] := by
  have : l.take (i + 1) = l.take i ++ [l[i]] := by simp
  rw [this, List.mem_append, List.mem_singleton]
theorem take_map_len {α β : Type} {f : α → β} {acc : List α} : List.take acc.length (List.map f acc) = List.map f acc := List.take_of_length_le (by simp)
theorem take_map_app {α β : Type} {f : α → β} {l : List α} {t : List β} : List.take l.length (List.map f l ++ t) = List.map f l := by rw [List.take_append_of_le_length (by simp), List.take_of_length_le (by simp)]
theorem mem_part {α : Type} {k n : Nat} {l : List α} {x : α} (h : x ∈ (l.drop k).take n) : x ∈ l := List.mem_of_mem_drop (List.mem_of_mem_take h)
theorem nm_mem {l : List Nm} {y : DV} (h : y ∈ l.map Nm.d) : (cellsD y).length = 2 ∧ ∀ c ∈ cellsD y, memless c = true := by
  obtain ⟨a, _, rfl⟩ := List.mem_map.1 h
  exact ⟨rfl, by simp [Nm.d, cellsD, memless]⟩
theorem df_mem {l : List Df} {y : DV} (h : y ∈ l.map Df.d) : (cellsD y).length = 2 ∧ ∀ c ∈ cellsD y, memless c = true := by
  obtain ⟨a, _, rfl⟩ := List.mem_map.1 h
  exact ⟨rfl, by simp [Df.d, cellsD, memless]⟩
theorem str_mem {l : List Str} {y : DV} (h : y ∈ l.map DV.str) : (cellsD y).length = 1 ∧ ∀ c ∈ cellsD y, memless c = true := by
  obtain ⟨a, _, rfl⟩ := List.mem_map.1 h
  exact ⟨rfl, by simp [cellsD, memless]⟩
theorem ed_mem {l : List Ed} {y : DV} (h : y ∈ l.map Ed.d) : (cellsD y).length = 5 := by
  obtain ⟨a, _, rfl⟩ := List.mem_map.1 h
  rfl
section
variable {l : List Nm} {m : List Df} {r : List Str} {e : List Ed} {k n : Nat}
theorem nm_t : (∀ y ∈ List.take k (List.map Nm.d l), (cellsD y).length = 2) ↔ True := iff_true_intro fun _ h => (nm_mem (List.mem_of_mem_take h)).1
theorem nm_d : (∀ y ∈ List.drop k (List.map Nm.d l), (cellsD y).length = 2) ↔ True := iff_true_intro fun _ h => (nm_mem (List.mem_of_mem_drop h)).1
theorem nm_td : (∀ y ∈ List.take n (List.drop k (List.map Nm.d l)), (cellsD y).length = 2) ↔ True := iff_true_intro fun _ h => (nm_mem (mem_part h)).1
theorem df_t : (∀ y ∈ List.take k (List.map Df.d m), (cellsD y).length = 2) ↔ True := iff_true_intro fun _ h => (df_mem (List.mem_of_mem_take h)).1
theorem df_d : (∀ y ∈ List.drop k (List.map Df.d m), (cellsD y).length = 2) ↔ True := iff_true_intro fun _ h => (df_mem (List.mem_of_mem_drop h)).1
theorem df_td : (∀ y ∈ List.take n (List.drop k (List.map Df.d m)), (cellsD y).length = 2) ↔ True := iff_true_intro fun _ h => (df_mem (mem_part h)).1
theorem str_t : (∀ y ∈ List.take k (List.map DV.str r), (cellsD y).length = 1) ↔ True := iff_true_intro fun _ h => (str_mem (List.mem_of_mem_take h)).1
theorem str_d : (∀ y ∈ List.drop k (List.map DV.str r), (cellsD y).length = 1) ↔ True := iff_true_intro fun _ h => (str_mem (List.mem_of_mem_drop h)).1
theorem str_td : (∀ y ∈ List.take n (List.drop k (List.map DV.str r)), (cellsD y).length = 1) ↔ True := iff_true_intro fun _ h => (str_mem (mem_part h)).1
theorem ed_t : (∀ y ∈ List.take k (List.map Ed.d e), (cellsD y).length = 5) ↔ True := iff_true_intro fun _ h => ed_mem (List.mem_of_mem_take h)
theorem ed_d : (∀ y ∈ List.drop k (List.map Ed.d e), (cellsD y).length = 5) ↔ True := iff_true_intro fun _ h => ed_mem (List.mem_of_mem_drop h)
theorem ed_td : (∀ y ∈ List.take n (List.drop k (List.map Ed.d e)), (cellsD y).length = 5) ↔ True := iff_true_intro fun _ h => ed_mem (mem_part h)
end
def Pre {α : Type} (p : α → Bool) (l : List α) (i : Nat) : Prop := ∀ j (h : j < l.length), j < i → p l[j] = false
theorem Pre.zero {α : Type} {p : α → Bool} {l : List α} : Pre p l 0 := fun _ _ h => absurd h (Nat.not_lt_zero _)
theorem Pre.succ {α : Type} {p : α → Bool} {l : List α} {i : Nat} (h : Pre p l i) (hi : i < l.length) (hp : p l[i] = false) : Pre p l (i + 1) := fun j hj hji => by
  by_cases e : j = i
  · subst e; exact hp
  · exact h j hj (by omega)
theorem Pre.found {α : Type} {p : α → Bool} {l : List α} {i : Nat} (h : Pre p l i) (hi : i < l.length) (hp : p l[i] = true) : l.findIdx? p = some i := by
  rw [List.findIdx?_eq_some_iff_getElem]
  exact ⟨hi, hp, fun j hj => by rw [h j (by omega) hj]; simp⟩
theorem Pre.none {α : Type} {p : α → Bool} {l : List α} {i : Nat} (h : Pre p l i) (hi : l.length ≤ i) : l.findIdx? p = none := by
  rw [List.findIdx?_eq_none_iff]
  intro x hx
  obtain ⟨j, hj, rfl⟩ := List.getElem_of_mem hx
  exact h j hj (by omega)
theorem Pre.any {α : Type} {p : α → Bool} {l : List α} {i : Nat} (h : Pre p l i) (hi : l.length ≤ i) : l.any p = false := by
  rw [List.any_eq_false]
  intro x hx
  obtain ⟨j, hj, rfl⟩ := List.getElem_of_mem hx
  rw [h j hj (by omega)]; simp
theorem any_at {α : Type} {p : α → Bool} {l : List α} {i : Nat} (hi : i < l.length) (hp : p l[i] = true) : l.any p = true := List.any_eq_true.2 ⟨_, List.getElem_mem hi, hp⟩
theorem take_eq_succ {α : Type} {a b : List α} {i : Nat} (h : a.take i = b.take i) (ha : i < a.length) (hb : i < b.length) (e : a[i] = b[i]) : a.take (i + 1) = b.take (i + 1) := by
  have h1 : a.take (i + 1) = a.take i ++ [a[i]] := by simp
  have h2 : b.take (i + 1) = b.take i ++ [b[i]] := by simp
  rw [h1, h2, h, e]
theorem take_succ_map {α β : Type} {f : α → β} {a : List α} {i : Nat} (ha : i < a.length) : (a.take (i + 1)).map f = (a.take i).map f ++ [f a[i]] := by
  have h1 : a.take (i + 1) = a.take i ++ [a[i]] := by simp
  rw [h1, List.map_append]; rfl
theorem map_take_succ {α β : Type} {f : α → β} {a : List α} {i : Nat} (ha : i < a.length) : (a.map f).take (i + 1) = (a.map f).take i ++ [f a[i]] := by
  rw [← List.map_take, ← List.map_take, take_succ_map ha]
theorem filter_take_succ {α : Type} {p : α → Bool} {a : List α} {i : Nat} (ha : i < a.length) : (a.take (i + 1)).filter p = (a.take i).filter p ++ (if p a[i] then [a[i]] else []) := by
  have h1 : a.take (i + 1) = a.take i ++ [a[i]] := by simp
  rw [h1, List.filter_append]
  congr 1
  simp [List.filter_cons]
def around (n m : Int) : Int := (if n < 0 then -(n + 1) else n).tmod m
def atL (l : List Int) (i m : Int) : Int := if i < 0 ∨ l.length ≤ i then 0 else around (l.getD i.toNat 0) m
def Nm.less (a b : Nm) : Bool := decide (a.who < b.who) || decide (a.who = b.who) && decide (a.seq < b.seq)
def Nm.isName (n : Nm) : Bool := decide (0 ≤ n.who) && decide (n.who ≤ 3) && decide (0 ≤ n.seq) && decide (n.seq ≤ 63)
def find? (l : List Ed) (n : Nm) : Option Nat := l.findIdx? fun e => decide (e.name = n)
def findI (l : List Ed) (n : Nm) : Int := match find? l n with | some i => i | none => -1
def needsOf (l : List Ed) (n : Nm) : List Nm := match find? l n with | some i => (l.getD i default).needs | none => []
def touches (e : Ed) : List Str := e.puts.map Df.name ++ e.drops
def dropD (l : List Df) (s : Str) : List Df := l.filter fun d => decide (d.name ≠ s)
def rpos {α : Type} (p : α → Bool) (out : List α) : Nat → Nat
  | 0 => 0
  | k + 1 => match out[k]? with
    | some y => if p y then rpos p out k else k + 1
    | none => k + 1
def insAt {α : Type} (k : Nat) (x : α) (out : List α) : List α := out.take k ++ x :: out.drop k
def putD (l : List Df) (d : Df) : List Df := insAt (rpos (fun y => Op.bytesLess d.name y.name) (dropD l d.name) (dropD l d.name).length) d (dropD l d.name)
def sortStep (out : List Nm) (x : Nm) : List Nm := if x ∈ out then out else insAt (rpos (fun y => x.less y) out out.length) x out
theorem rpos_stop {α : Type} {p : α → Bool} {out : List α} {k : Nat} (h : ∀ i, k = i + 1 → ∀ (hi : i < out.length), p out[i] = false) : rpos p out k = k := by
  cases k with
  | zero => rfl
  | succ k =>
    simp only [rpos]
    cases q : out[k]? with
    | none => rfl
    | some y =>
      obtain ⟨hk, rfl⟩ := List.getElem?_eq_some_iff.1 q
      simp [h k rfl hk]
theorem rpos_go {α : Type} {p : α → Bool} {out : List α} {k : Nat} (hk : k < out.length) (h : p out[k] = true) : rpos p out (k + 1) = rpos p out k := by
  simp only [rpos, List.getElem?_eq_getElem hk, h, if_true]
theorem rpos_le {α : Type} {p : α → Bool} {out : List α} : ∀ k, rpos p out k ≤ k
  | 0 => Nat.le_refl _
  | k + 1 => by
    simp only [rpos]
    cases out[k]? with
    | none => exact Nat.le_refl _
    | some y => simp only; split; exact Nat.le_succ_of_le (rpos_le k); exact Nat.le_refl _
theorem row_ins {α β : Type} {f : α → β} {acc : List α} {k : Nat} {x : α} {y : β} (h : k ≤ acc.length) (hy : f x = y) : List.take (k + 1) (List.take k (List.take k (List.map f acc)) ++ [y]) ++ List.take (acc.length - k) (List.drop k (List.map f acc)) = List.map f (insAt k x acc) := by
  subst hy
  have h1 : List.take (k + 1) (List.take k (List.take k (List.map f acc)) ++ [f x]) = List.take k (List.map f acc) ++ [f x] := by
    rw [List.take_take, Nat.min_self]
    exact List.take_of_length_le (by simp; omega)
  have h2 : List.take (acc.length - k) (List.drop k (List.map f acc)) = List.drop k (List.map f acc) := List.take_of_length_le (by simp)
  rw [h1, h2]
  simp [insAt]
theorem row_ins_nm {acc : List Nm} {k : Nat} {x : Nm} (h : k ≤ acc.length) : List.take (k + 1) (List.take k (List.take k (List.map Nm.d acc)) ++ [.agg [.int .i64 x.who, .int .i64 x.seq]]) ++ List.take (acc.length - k) (List.drop k (List.map Nm.d acc)) = List.map Nm.d (insAt k x acc) := row_ins h rfl
theorem insAt_length {α : Type} {k : Nat} {x : α} {out : List α} : (insAt k x out).length = out.length + 1 := by
  unfold insAt; simp; omega
def sortN (l : List Nm) : List Nm := l.foldl sortStep []
theorem sortN_succ {l : List Nm} {i : Nat} (h : i < l.length) : sortN (l.take (i + 1)) = sortStep (sortN (l.take i)) l[i] := by
  have h1 : l.take (i + 1) = l.take i ++ [l[i]] := by simp
  unfold sortN
  rw [h1, List.foldl_append]; rfl
def bit16 (bits i : Int) : Bool := decide (((around bits 65536).fdiv (2 ^ (i.tmod 16).toNat)).tmod 2 = 1)
def someN (l : List Ed) (bits : Int) : List Nm := (l.zipIdx.filter fun p => bit16 bits p.2).map fun p => p.1.name
def nameS (n : Int) : Str := ([[97], [98], [99], [100], [97, 97]] : List Str).getD (around n 5).toNat []
def digitS (n : Int) : Str := [UInt8.ofNat (48 + around n 10).toNat]
def defD (n v : Int) : Df := ⟨nameS n, [118, 97, 114, 32] ++ nameS n ++ [32, 61, 32] ++ digitS v ++ [59]⟩
theorem around_lt (n m : Int) (hm : 0 < m) : 0 ≤ around n m ∧ around n m < m := by
  unfold around
  split
  · exact ⟨Int.tmod_nonneg _ (by omega), Int.tmod_lt_of_pos _ hm⟩
  · exact ⟨Int.tmod_nonneg _ (by omega), Int.tmod_lt_of_pos _ hm⟩
end Go.Eng
