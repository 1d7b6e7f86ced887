/-
  Texts of the proofs of this seat, part 4. No condition.
-/
import Derived.Test.YtmndmahpoljhmaaGreatDoorMC
import Derived.Scope
set_option linter.unusedVariables false
set_option linter.unusedSimpArgs false
namespace Go.Eng
open Go.RowKit
section
variable{P:Program} {T:TypeId→lA} {N:Nat} {w0:iU} {X:Nat→Prop} {Q:LX→mI→kV→Prop} {env env' env'':mI} {H H' H'':kV}
def sD(args:List LV):mI:=aY ((args.zipIdx).map fun p=>(p.2,p.1))
theorem GP(args:List LV)(t:Nat):sD args t=(args[t]?).getD .junk:=by
 have key:∀(l:List LV) (k t:Nat),kN ((l.zipIdx k).map fun p=>(p.2,p.1)) (k+t)=(l[t]?).getD .junk:=by
  intro l
  induction l with
  |nil=>intro k t;simp[kN]
  |cons x r ih=>
   intro k t
   simp only[List.zipIdx_cons,List.map_cons,kN]
   cases t with
   |zero=>simp
   |succ t=>
    rw[if_neg (by omega)]
    have:=ih (k+1) t
    rw[show k+1+t=k+(t+1)by omega]at this
    rw[this];simp
 have:=key args 0 t
 rw[Nat.zero_add]at this
 exact this
theorem xC{f:FuncId}{fn:Func}{c:Code}{args:List LV}{h fin:List (Nat×aX)}{ret:LV}{n:Nat}(hf:P.funcs[f]? =some fn)(hname:(fn.name== "runtime.NumGoroutine")=false)(hb:fn.body=some c)(hn:fn.ntmps=n)(hargs:args.length≤n)
 (hw:∀w0 X,w0.pins=h.map (·.1)→oS P n w0 X c (fun x env H=>(match x with| .exit _=>False|_=>True)∧∀β a w,tR n w0 X env H β a w→∃v β',(results fn a.tmps).run P w=.ok v w∧fX w0 X (aK fin) β' w∧R w (Ex X β' (aK fin)) β' (aK fin) ret v) (sD args) (aK h)):
 qR P f args h fin ret:=by
 refine⟨⟨fn,hf,hname,by rw[hb];rfl⟩,fun w X β vs m hvl hr=>?_⟩
 refine sC (β:=β) hf hb rfl (hw ⟨w,β,aK h,h.map (·.1),false⟩ X rfl) ?_ ?_
 ·refine⟨Eo.nil,?_,m.ext,m.xold,m.fresh,m.inj,fun t=>?_,m.obj,m.pin⟩
  ·simp;omega
  ·rw[GP]
   cases q:args[t]? with
   |none=>exact .junk _
   |some x=>
    have ht:t<vs.length:=by rw[hvl];exact(List.getElem?_eq_some_iff.1 q).1
    have hv:(vs.toArray++Array.replicate (fn.ntmps-vs.toArray.size) undef).getD t undef=vs[t]:=by
     simp[Array.getD_eq_getD_getElem?,Array.getElem?_append_left,ht]
    rw[hv]
    exact hr t x _ q (List.getElem?_eq_getElem ht)
 ·rintro x env H β1 a' w' ⟨h2,h3⟩ s
  obtain⟨v,β',hv1,hv2,hv3⟩:=h3 β1 a' w' s
  exact⟨h2,v,hv1,v,β',rfl,hv2,hv3⟩
theorem FO{f:FuncId}{fn:Func}{c:Code}{args:List LV}{h:List (Nat×aX)}{Rel:List (Nat×aX)→LV→Prop}{n:Nat}(hf:P.funcs[f]? =some fn)(hname:(fn.name== "runtime.NumGoroutine")=false)(hb:fn.body=some c)(hn:fn.ntmps=n)(hargs:args.length≤n)
 (hw:∀w0 X,w0.pins=h.map (·.1)→oS P n w0 X c (fun x env H=>(match x with| .exit _=>False|_=>True)∧∀β a w,tR n w0 X env H β a w→∃v β' fin ret,Rel fin ret∧(results fn a.tmps).run P w=.ok v w∧fX w0 X (aK fin) β' w∧R w (Ex X β' (aK fin)) β' (aK fin) ret v) (sD args) (aK h)):
 Mo P f args h Rel:=by
 refine⟨⟨fn,hf,hname,by rw[hb];rfl⟩,fun w X β vs m hvl hr=>?_⟩
 refine sC (β:=β) hf hb rfl (hw ⟨w,β,aK h,h.map (·.1),false⟩ X rfl) ?_ ?_
 ·refine⟨Eo.nil,?_,m.ext,m.xold,m.fresh,m.inj,fun t=>?_,m.obj,m.pin⟩
  ·simp;omega
  ·rw[GP]
   cases q:args[t]? with
   |none=>exact .junk _
   |some x=>
    have ht:t<vs.length:=by rw[hvl];exact(List.getElem?_eq_some_iff.1 q).1
    have hv:(vs.toArray++Array.replicate (fn.ntmps-vs.toArray.size) undef).getD t undef=vs[t]:=by
     simp[Array.getD_eq_getD_getElem?,Array.getElem?_append_left,ht]
    rw[hv]
    exact hr t x _ q (List.getElem?_eq_getElem ht)
 ·rintro x env H β1 a' w' ⟨h2,h3⟩ s
  obtain⟨v,β',fin,ret,hrel,hv1,hv2,hv3⟩:=h3 β1 a' w' s
  exact⟨h2,v,hv1,v,β',fin,ret,hrel,rfl,hv2,hv3⟩
def GQ(w0:iU)(fin:List (Nat×aX))(x:LX)(env:mI)(H:kV):Prop:=(match x with| .exit _=>False|_=>True)∧oM w0 env H (aY []) (aK fin)
def MS(w0:iU)(t:Nat)(fin:List (Nat×aX))(ret:LV)(x:LX)(env:mI)(H:kV):Prop:=(match x with| .exit _=>False|_=>True)∧oM w0 env H (aY [(t,ret)]) (aK fin)
theorem gS{fin:List (Nat×aX)}:GQ w0 fin .ret env H↔oM w0 env H (aY []) (aK fin):=by simp[GQ]
theorem cZ{fin:List (Nat×aX)}:GQ w0 fin .normal env H↔oM w0 env H (aY []) (aK fin):=by simp[GQ]
theorem gT{t:Nat}{fin:List (Nat×aX)}{ret:LV}:MS w0 t fin ret .ret env H↔oM w0 env H (aY [(t,ret)]) (aK fin):=by simp[MS]
theorem Au{f:FuncId}{fn:Func}{c:Code}{args:List LV}{h fin:List (Nat×aX)}{n:Nat}(hf:P.funcs[f]? =some fn)(hname:(fn.name== "runtime.NumGoroutine")=false)(hb:fn.body=some c)(hn:fn.ntmps=n)(hargs:args.length≤n)(hres:fn.results= #[])
 (hw:∀w0 X,w0.pins=h.map (·.1)→oS P n w0 X c (GQ w0 fin) (sD args) (aK h)):qR P f args h fin (.tup []):=
 xC hf hname hb hn hargs fun w0 X hp=>(hw w0 X hp).mono fun x env H ⟨h1,h2⟩=>⟨h1,fun β a w s=>by
  obtain⟨β',s'⟩:=h2 _ _ _ _ _ s
  exact⟨.tuple #[],β',results_none hres _ _ _,s'.mem,.tup [] [] rfl (by simp)⟩⟩
theorem qR.one{f:FuncId}{fn:Func}{c:Code}{args:List LV}{h fin:List (Nat×aX)}{ret:LV}{n t:Nat}(hf:P.funcs[f]? =some fn)(hname:(fn.name== "runtime.NumGoroutine")=false)(hb:fn.body=some c)(hn:fn.ntmps=n)(hargs:args.length≤n)(hres:fn.results= #[.tmp t])
 (hw:∀w0 X,w0.pins=h.map (·.1)→oS P n w0 X c (MS w0 t fin ret) (sD args) (aK h)):qR P f args h fin ret:=
 xC hf hname hb hn hargs fun w0 X hp=>(hw w0 X hp).mono fun x env H ⟨h1,h2⟩=>⟨h1,fun β a w s=>by
  obtain⟨β',s'⟩:=h2 _ _ _ _ _ s
  have:=s'.env t
  rw[show aY [(t,ret)] t=ret by simp[aY,kN]]at this
  exact⟨_,β',results_tmp hres _ _ _,s'.mem,this⟩⟩
def MT(w0:iU)(t:Nat)(Rel:List (Nat×aX)→LV→Prop)(x:LX)(env:mI)(H:kV):Prop:=(match x with| .exit _=>False|_=>True)∧∃fin ret,Rel fin ret∧oM w0 env H (aY [(t,ret)]) (aK fin)
theorem gU{t:Nat}{Rel:List (Nat×aX)→LV→Prop}:MT w0 t Rel .ret env H↔∃fin ret,Rel fin ret∧oM w0 env H (aY [(t,ret)]) (aK fin):=by simp[MT]
theorem Mo.one{f:FuncId}{fn:Func}{c:Code}{args:List LV}{h:List (Nat×aX)}{Rel:List (Nat×aX)→LV→Prop}{n t:Nat}(hf:P.funcs[f]? =some fn)(hname:(fn.name== "runtime.NumGoroutine")=false)(hb:fn.body=some c)(hn:fn.ntmps=n)(hargs:args.length≤n)(hres:fn.results= #[.tmp t])
 (hw:∀w0 X,w0.pins=h.map (·.1)→oS P n w0 X c (MT w0 t Rel) (sD args) (aK h)):Mo P f args h Rel:=
 FO hf hname hb hn hargs fun w0 X hp=>(hw w0 X hp).mono fun x env H ⟨h1,fin,ret,hr,h2⟩=>⟨h1,fun β a w s=>by
  obtain⟨β',s'⟩:=h2 _ _ _ _ _ s
  have:=s'.env t
  rw[show aY [(t,ret)] t=ret by simp[aY,kN]]at this
  exact⟨_,β',fin,ret,hr,results_tmp hres _ _ _,s'.mem,this⟩⟩
theorem iI{n:Nat}:∀{cs:List DV},bX (List.map (close H (n+1)∘LV.d) cs)=some cs
 |[]=>rfl
 |c::cs=>by
  have ih:=iI (n:=n) (cs:=cs)
  simp only[List.map_cons,Function.comp,lC,bX]at ih⊢
  rw[ih];rfl
theorem gV{n:Nat}{cs:List DV}:bX (List.map (close H (n+1)) (List.map LV.d cs))=some cs:=by rw[List.map_map];exact iI
theorem kE{n:Nat}{cs:List DV}:(List.map LV.d cs).flatMap (bL H (n+1))=[]:=by
 induction cs with
 |nil=>rfl
 |cons c cs ih=>simp only[List.map_cons,List.flatMap_cons,lD,List.nil_append];exact ih
end
end Go.Eng
namespace Go.Eng
open Go.RowKit
section
variable{P:Program} {T:TypeId→lA} {N:Nat} {w0:iU} {X:Nat→Prop} {env:mI} {H:kV}
def pR(T:TypeId→lA)(env:mI)(H:kV):ResultVar→oZ
 | .tmp t=>.plain (env t)
 | .cell t ty=>lI T H ty (env t)
def oU(T:TypeId→lA)(fresh:Bool)(env:mI)(H:kV):List ResultVar→List RV→Prop
 |[],[]=>True
 |r::rs,x::xs=>(pR T env H r).ok∧lH H fresh (pR T env H r).v x∧oU T fresh env H rs xs
 |_,_=>False
def QB(T:TypeId→lA)(l:List ResultVar)(fresh:Bool)(rs:List RV)(x:LX)(env:mI)(H:kV):Prop:=(match x with| .exit _=>False|_=>True)∧oU T fresh env H l rs
theorem kF{l:List ResultVar}{fresh:Bool}{rs:List RV}:QB T l fresh rs .ret env H↔oU T fresh env H l rs:=by simp[QB]
def GR(tmps:Array Value):ResultVar→Sem Value
 | .tmp t=>pure (tmps.getD t undef)
 | .cell b t=>do loadVar t (←asAddr (tmps.getD b undef))
theorem EE(hT:mA P T){β:Nat→Option Nat}{a:Act}{w:World}{fresh:Bool}(s:tR N w0 X env H β a w):∀(l:List ResultVar) (rs:List RV),oU T fresh env H l rs→
 ∃vs:List Value,vs.length=rs.length∧(l.mapM (GR a.tmps)).run P w=.ok vs w∧
  ∀(i:Nat) (r:RV) (v:Value),rs[i]? =some r→vs[i]? =some v→∃x,R w (Ex X β H) β H x v∧lH H fresh x r
 |[],[],_=>⟨[],rfl,by simp,by simp⟩
 |[],_::_,h=>h.elim
 |_::_,[],h=>h.elim
 |r::l,x::rs,h=>by
  obtain⟨h1,h2,h3⟩:=h
  obtain⟨vs,hl,hr,hp⟩:=EE hT s l rs h3
  have one:∃v,(GR a.tmps r).run P w=.ok v w∧R w (Ex X β H) β H (pR T env H r).v v:=by
   cases r with
   |tmp t=>exact⟨_,by simp[GR],s.env t⟩
   |cell t ty=>
    obtain⟨v,hv,hr⟩:=xB hT s h1
    exact⟨v,by simpa [GR,Sem.run_bind,Result.andThen]using hv,hr⟩
  obtain⟨v,hv,hv2⟩:=one
  refine⟨v::vs,by simp[hl],?_,?_⟩
  ·rw[List.mapM_cons]
   simp only[Sem.run_bind,hv,Result.andThen_ok,hr,Sem.run_pure]
  ·intro i r' u hr' hu
   cases i with
   |zero=>simp at hr' hu;subst hr';subst hu;exact⟨_,hv2,h2⟩
   |succ i=>simp at hr' hu;exact hp i r' u hr' hu
def RV.isD:RV→Bool
 | .d _=>true
 |_=>false
def RV.isM:RV→Bool
 | .d y=>memless y
 |_=>false
def Qi(rs:List RV):Bool:=rs.all RV.isD||rs.tail.all RV.isM
theorem MU{r:RV}(h:r.isD=true):∃y,r=.d y:=by cases r<;>first|exact⟨_,rfl⟩|cases h
theorem MV{r:RV}(h:r.isM=true):∃y,r=.d y∧memless y=true:=by cases r<;>first|exact⟨_,rfl,h⟩|cases h
theorem FP(hT:mA P T){f:FuncId}{fn:Func}{c:Code}{args:List DV}{rs:List RV}{l:List ResultVar}{fresh:Bool}{n:Nat}(hf:P.funcs[f]? =some fn)(hname:(fn.name== "runtime.NumGoroutine")=false)(hb:fn.body=some c)(hn:fn.ntmps=n)(hargs:args.length≤n)(hres:fn.results=l.toArray)
 (hl:2≤rs.length)(hb':Qi rs=true)
 (h:∀w0 X,w0.pins=[]→oS P n w0 X c (QB T l fresh rs) (fP args) (aK [])):Ok P f args ⟨.tup rs,fresh⟩:=by
 have hx:(∀x∈rs,∃y,x=.d y)∨∃r1 rest,rs=r1::rest∧∀x∈rest,∃y,x=.d y∧memless y=true:=by
  unfold Qi at hb'
  rcases Bool.or_eq_true_iff.1 hb' with h1|h1
  ·exact .inl fun x hx=>MU (List.all_eq_true.1 h1 x hx)
  ·cases rs with
   |nil=>simp at hl
   |cons r1 rest=>exact .inr ⟨r1,rest,rfl,fun x hx=>MV (List.all_eq_true.1 h1 x hx)⟩
 refine vS hf hname hb hn hargs fun w0 X hpn=>(h w0 X hpn).mono fun x env H ⟨h1,h2⟩=>⟨h1,fun β a w s=>?_⟩
 obtain⟨vs,hvl,hrun,hp⟩:=EE hT s l rs h2
 refine⟨.tuple vs.toArray,?_,?_⟩
 ·simp only[results,hres,List.mapM_toArray,map_eq_pure_bind,Sem.run_bind,Sem.run_pure]
  change ((((l.mapM (GR a.tmps)).run P w).andThen _).andThen _)=_
  rw[hrun]
  simp only[Result.andThen_ok]
  rw[dif_neg (by simp;omega)]
 ·have hret:∀(i:Nat) (r:RV) (v:Value),rs[i]? =some r→vs[i]? =some v→∃B:Option Nat,AU w0.w w (fun k=>(X k∨fresh=true∧k<w0.w.heap.size)∨B=some k) B r v:=fun i r v hr hv=>by
   obtain⟨x,hx1,hx2⟩:=hp i r v hr hv
   exact yL hpn s hx1 hx2
  rcases hx with hx|⟨r1,rest,rfl,hx⟩
  ·refine⟨vs,fun _=>none,rfl,hvl,(by intro i j b hi hj;simp at hi),fun i r v hr hv=>?_⟩
   obtain⟨B,hB⟩:=hret i r v hr hv
   obtain⟨y,rfl⟩:=hx r (List.mem_of_getElem? hr)
   simp only[AU]at hB⊢
   exact RD.anti (fun k hk=>.inl (by rcases hk with hk|⟨j,hj⟩;exact hk;cases hj)) hB
  ·obtain⟨v1,hv1⟩:∃v,vs[0]? =some v:=⟨vs[0]'(by rw[hvl];simp),List.getElem?_eq_getElem _⟩
   obtain⟨B,hB⟩:=hret 0 r1 v1 rfl hv1
   refine⟨vs,fun i=>if i=0 then B else none,rfl,hvl,fun i j b hi hj=>?_,fun i r v hr hv=>?_⟩
   ·simp only at hi hj
    by_cases h1:i=0
    ·by_cases h2:j=0
     ·omega
     ·rw[if_neg h2]at hj;cases hj
    ·rw[if_neg h1]at hi;cases hi
   ·cases i with
    |zero=>
     rw[hv1]at hv;injection hv with hv;subst hv
     simp at hr;subst hr
     simp only[if_pos]
     refine AU.anti (fun k hk=>?_) hB
     rcases hk with hk|⟨j,hj⟩
     ·exact .inl hk
     ·by_cases h2:j=0
      ·rw[if_pos h2]at hj;exact .inr hj
      ·rw[if_neg h2]at hj;cases hj
    |succ i=>
     obtain⟨B',hB'⟩:=hret (i+1) r v hr hv
     simp at hr
     obtain⟨y,rfl,hy⟩:=hx r (List.mem_of_getElem? hr)
     simp only[AU]at hB'⊢
     exact hB'.memless hy
def Pg(w0:iU){ι:Type}(E:ι→mI)(O:ι→kV)(I:ι→Prop)(Q:LX→mI→kV→Prop):LX→mI→kV→Prop
 | .normal,env,H=>∃i,oM w0 env H (E i) (O i)∧I i
 |e,env,H=>Q e env H
theorem dZ{ι:Type}{E:ι→mI}{O:ι→kV}{I:ι→Prop}{Q:LX→mI→kV→Prop}:Pg w0 E O I Q .normal env H↔∃i,oM w0 env H (E i) (O i)∧I i:=Iff.rfl
theorem kG{ι:Type}{E:ι→mI}{O:ι→kV}{I:ι→Prop}{Q:LX→mI→kV→Prop}:Pg w0 E O I Q .ret env H↔Q .ret env H:=Iff.rfl
theorem gW{ι:Type}{E:ι→mI}{O:ι→kV}{I:ι→Prop}{Q:LX→mI→kV→Prop}{j:Nat}:Pg w0 E O I Q (.exit j) env H↔Q (.exit j) env H:=Iff.rfl
theorem Pg.mk{ι:Type}{E:ι→mI}{O:ι→kV}{I:ι→Prop}(i:ι)(hw:oM w0 env H (E i) (O i))(hI:I i):∃i,oM w0 env H (E i) (O i)∧I i:=⟨i,hw,hI⟩
theorem aO{x y:Code}{Q:LX→mI→kV→Prop}{ι:Type}(E:ι→mI)(O:ι→kV)(I:ι→Prop)(h1:oS P N w0 X x (Pg w0 E O I Q) env H)(h2:∀i,I i→oS P N w0 X y Q (E i) (O i)):oS P N w0 X (.seq x y) Q env H:=by
 refine oS.seq (h1.mono fun e env H h=>?_)
 cases e with
 |normal=>obtain⟨i,hw,hI⟩:=h;exact mE hw (h2 i hI)
 |exit j=>exact h
 |ret=>exact h
end
end Go.Eng
namespace Go.Eng
open Go.RowKit
section
variable{P:Program} {T:TypeId→lA} {N:Nat} {w0:iU} {X:Nat→Prop} {Q:LX→mI→kV→Prop} {env:mI} {H:kV} {l:List Oper} {id:Nat}
theorem fX.rebox{β:Nat→Option Nat}{w:World}(m:fX w0 X H β w){b:Nat}{fz:Bool}{cs cs':List LV}(hH:H b=.box fz cs)(hl:cs'.length=cs.length)(h:∀(i:Nat) (c c':LV) (v:Value),cs[i]? =some c→cs'[i]? =some c'→R w (Ex X β H) β H c v→R w (Ex X β H) β H c' v):
 fX w0 X (cN H b (.box fz cs')) β w∧lF X H β w (cN H b (.box fz cs')) β w:=by
 have hmut:∀i,(cN H b (.box fz cs') i).mut=(H i).mut:=fun i=>by
  by_cases hi:i=b
  ·subst hi;rw[aJ,hH];rfl
  ·rw[cP _ _ hi]
 have hlive:∀i,(cN H b (.box fz cs') i).live=(H i).live:=fun i=>by
  by_cases hi:i=b
  ·subst hi;rw[aJ,hH];rfl
  ·rw[cP _ _ hi]
 have hg:lF X H β w (cN H b (.box fz cs')) β w:=by
  refine⟨Nat.le_refl _,fun _ _ _=>rfl,fun k _ he=>?_,fun i=>?_⟩
  ·rcases he with he|⟨i,h1,h2⟩
   ·exact .inl he
   ·rw[hmut]at h1;exact .inr ⟨i,h1,h2⟩
  ·by_cases hi:i=b
   ·subst hi;unfold cC;rw[hH,aJ];exact .inr ⟨⟨fz,cs',rfl⟩,rfl⟩
   ·have hp:=cC.refl (w:=w) (β:=β) (H:=H) i
    unfold cC at*
    rw[cP _ _ hi];exact hp
 refine⟨⟨m.ext,m.xold,fun i b' h1 h2=>?_,fun i j b' h1 h2=>?_,fun i=>?_,fun i hi=>(m.pin i hi).trans (hg.pass i)⟩,hg⟩
 ·rw[hlive]at h1;rw[hmut];exact m.fresh i b' h1 h2
 ·rw[hlive]at h1 h2;exact m.inj i j b' h1 h2
 ·by_cases hi:i=b
  ·subst hi
   have ho:=m.obj i
   unfold fU at*
   rw[hH]at ho
   rw[aJ]
   obtain⟨b',e,us,h1,h2,h3,h4,h5⟩:=ho
   refine⟨b',e,us,h1,h2,by rw[hl];exact h3,h4,fun j c v hc hv=>?_⟩
   have hj:j<cs.length:=by have:=(List.getElem?_eq_some_iff.1 hc).1;omega
   exact hg.R (h j _ c v (List.getElem?_eq_getElem hj) hc (h5 j _ v (List.getElem?_eq_getElem hj) hv))
  ·exact(m.obj i).step hg.size hg.out (fun _ _=>hg.D) (fun _ _=>hg.R) (cP _ _ hi) (fun _=>rfl) fun _ _ _=>rfl
theorem GS{f:FuncId}{fn:Func}{c:Code}{args:List DV}{Rel:Mn→Prop}{n:Nat}(hf:P.funcs[f]? =some fn)(hname:(fn.name== "runtime.NumGoroutine")=false)(hb:fn.body=some c)(hn:fn.ntmps=n)(hargs:args.length≤n)
 (h:∀w0 X,w0.pins=[]→oS P n w0 X c (fun x env H=>(match x with| .exit _=>False|_=>True)∧∀β a w,tR n w0 X env H β a w→∃v r,Rel r∧(results fn a.tmps).run P w=.ok v w∧Gn w0.w w (fun k=>X k∨r.fresh=true∧k<w0.w.heap.size) r.v v) (fP args) (aK [])):
 Qg P f args Rel:=by
 refine⟨⟨fn,hf,hname,by rw[hb];rfl⟩,fun w X vs hX hr=>?_⟩
 refine sC (β:=fun _=>none) hf hb rfl (h ⟨w,fun _=>none,fun _=>.absent,[],false⟩ X rfl) ?_ ?_
 ·refine⟨Eo.nil,?_,⟨rfl,rfl,rfl,Nat.le_refl _,fun _ _ _=>rfl,Nat.le_refl _⟩,⟨fun k hk=>⟨hX.1 k hk,by rintro⟨id,hid,_⟩;cases hid⟩,hX.2.anti fun k hk=>by rcases hk with hk|⟨id,hid,_⟩;exact hk;cases hid⟩,fun id b hl _=>by simp[aK,lG,aX.live]at hl,fun i j b hi _=>by simp[aK,lG,aX.live]at hi,fun t=>?_,fun id=>by unfold fU;trivial,fun id hid=>by cases hid⟩
  ·have:=hr.1
   simp
   omega
  ·rw[BO]
   cases q:args[t]? with
   |none=>exact .junk _
   |some x=>
    have ht:t<vs.length:=by rw[hr.1];exact(List.getElem?_eq_some_iff.1 q).1
    have hv:(vs.toArray++Array.replicate (fn.ntmps-vs.toArray.size) undef).getD t undef=vs[t]:=by
     simp[Array.getD_eq_getD_getElem?,Array.getElem?_append_left,ht]
    rw[hv]
    refine .d _ _ ((hr.2 t x _ q (List.getElem?_eq_getElem ht)).anti fun k hk=>?_)
    rcases hk with hk|⟨id,h1,_⟩
    ·exact hk
    ·cases h1
 ·rintro x env H β a' w' ⟨h2,h3⟩ s
  obtain⟨v,r,hrel,hv1,hv2⟩:=h3 β a' w' s
  have hbel:En w.heap.size w w':=⟨s.ext.os,s.ext.tape,s.ext.output,s.ext.size,fun k hk=>s.ext.block k hk (by rintro⟨id,hid,_⟩;cases hid),s.ext.drawn⟩
  exact⟨h2,v,hv1,v,r,hrel,rfl,hbel,hv2⟩
def RY(t:Nat)(fresh:Bool)(Rel:RV→Prop)(x:LX)(env:mI)(H:kV):Prop:=(match x with| .exit _=>False|_=>True)∧∃r,Rel r∧(∀rs,r≠ .tup rs)∧lH H fresh (env t) r
theorem Qg.ret{f:FuncId}{fn:Func}{c:Code}{args:List DV}{Rel:RV→Prop}{fresh:Bool}{n t:Nat}(hf:P.funcs[f]? =some fn)(hname:(fn.name== "runtime.NumGoroutine")=false)(hb:fn.body=some c)(hn:fn.ntmps=n)(hargs:args.length≤n)(hres:fn.results= #[.tmp t])
 (h:∀w0 X,w0.pins=[]→oS P n w0 X c (RY t fresh Rel) (fP args) (aK [])):Qg P f args (fun r=>Rel r.v∧r.fresh=fresh):=by
 refine GS hf hname hb hn hargs fun w0 X hpn=>(h w0 X hpn).mono fun x env H ⟨h1,r,h2,h3,h4⟩=>⟨h1,fun β a w s=>⟨a.tmps.getD t undef,⟨r,fresh⟩,⟨h2,rfl⟩,results_tmp hres _ _ _,?_⟩⟩
 obtain⟨B,hB⟩:=yL hpn s (s.env t) h4
 cases q:r with
 |tup rs=>exact absurd q (h3 rs)
 |d x=>rw[q]at hB;exact⟨B,hB⟩
 |own sz xs=>rw[q]at hB;exact⟨B,hB⟩
end
end Go.Eng
namespace Go.Eng
abbrev aR:=List UInt8
structure Nm where
 who:Int
 seq:Int
 deriving DecidableEq,Inhabited
structure Df where
 name:aR
 text:aR
 deriving DecidableEq,Inhabited
structure Ed where
 name:Nm
 needs:List Nm
 puts:List Df
 drops:List aR
 deriving DecidableEq,Inhabited
abbrev aC(n:Int):DV:=.int .i64 n
def Nm.d(n:Nm):DV:=.agg [.int .i64 n.who,.int .i64 n.seq]
def Df.d(d:Df):DV:=.agg [.str d.name,.str d.text]
def RZ(n:Nm):List Value:=[.int .i64 n.who,.int .i64 n.seq]
def xD(l:List Nm):DV:=.sl (l.map Nm.d)
def xE(l:List Df):DV:=.sl (l.map Df.d)
def nE(l:List aR):DV:=.sl (l.map .str)
def Ed.d(e:Ed):DV:=.agg [.int .i64 e.name.who,.int .i64 e.name.seq,.sl (e.needs.map Nm.d),.sl (e.puts.map Df.d),.sl (e.drops.map .str)]
def xF(l:List Ed):DV:=.sl (l.map Ed.d)
theorem dA{α β:Type}{f:α→β}{acc:List α}:List.take acc.length (List.map f acc)=List.map f acc:=List.take_of_length_le (by simp)
theorem dB{α β:Type}{f:α→β}{l:List α}{t:List β}:List.take l.length (List.map f l++t)=List.map f l:=by rw[List.take_append_of_le_length (by simp),List.take_of_length_le (by simp)]
theorem xG{α:Type}{k n:Nat}{l:List α}{x:α}(h:x∈(l.drop k).take n):x∈l:=List.mem_of_mem_drop (List.mem_of_mem_take h)
theorem IJ{l:List Nm}{y:DV}(h:y∈l.map Nm.d):(aE y).length=2∧∀c∈aE y,memless c=true:=by
 obtain⟨a,_,rfl⟩:=List.mem_map.1 h
 exact⟨rfl,by simp[Nm.d,aE,memless]⟩
theorem IK{l:List Df}{y:DV}(h:y∈l.map Df.d):(aE y).length=2∧∀c∈aE y,memless c=true:=by
 obtain⟨a,_,rfl⟩:=List.mem_map.1 h
 exact⟨rfl,by simp[Df.d,aE,memless]⟩
theorem FQ{l:List aR}{y:DV}(h:y∈l.map DV.str):(aE y).length=1∧∀c∈aE y,memless c=true:=by
 obtain⟨a,_,rfl⟩:=List.mem_map.1 h
 exact⟨rfl,by simp[aE,memless]⟩
theorem IL{l:List Ed}{y:DV}(h:y∈l.map Ed.d):(aE y).length=5:=by
 obtain⟨a,_,rfl⟩:=List.mem_map.1 h
 rfl
section
variable{l:List Nm} {m:List Df} {r:List aR} {e:List Ed} {k n:Nat}
theorem xH:(∀y∈List.take k (List.map Nm.d l),(aE y).length=2)↔True:=iff_true_intro fun _ h=>(IJ (List.mem_of_mem_take h)).1
theorem xI:(∀y∈List.drop k (List.map Nm.d l),(aE y).length=2)↔True:=iff_true_intro fun _ h=>(IJ (List.mem_of_mem_drop h)).1
theorem rK:(∀y∈List.take n (List.drop k (List.map Nm.d l)),(aE y).length=2)↔True:=iff_true_intro fun _ h=>(IJ (xG h)).1
theorem xJ:(∀y∈List.take k (List.map Df.d m),(aE y).length=2)↔True:=iff_true_intro fun _ h=>(IK (List.mem_of_mem_take h)).1
theorem xK:(∀y∈List.drop k (List.map Df.d m),(aE y).length=2)↔True:=iff_true_intro fun _ h=>(IK (List.mem_of_mem_drop h)).1
theorem rL:(∀y∈List.take n (List.drop k (List.map Df.d m)),(aE y).length=2)↔True:=iff_true_intro fun _ h=>(IK (xG h)).1
theorem rM:(∀y∈List.take k (List.map DV.str r),(aE y).length=1)↔True:=iff_true_intro fun _ h=>(FQ (List.mem_of_mem_take h)).1
theorem rN:(∀y∈List.drop k (List.map DV.str r),(aE y).length=1)↔True:=iff_true_intro fun _ h=>(FQ (List.mem_of_mem_drop h)).1
theorem nV:(∀y∈List.take n (List.drop k (List.map DV.str r)),(aE y).length=1)↔True:=iff_true_intro fun _ h=>(FQ (xG h)).1
theorem xL:(∀y∈List.take k (List.map Ed.d e),(aE y).length=5)↔True:=iff_true_intro fun _ h=>IL (List.mem_of_mem_take h)
theorem xM:(∀y∈List.drop k (List.map Ed.d e),(aE y).length=5)↔True:=iff_true_intro fun _ h=>IL (List.mem_of_mem_drop h)
theorem rO:(∀y∈List.take n (List.drop k (List.map Ed.d e)),(aE y).length=5)↔True:=iff_true_intro fun _ h=>IL (xG h)
end
def Ph{α:Type}(p:α→Bool)(l:List α)(i:Nat):Prop:=∀j (h:j<l.length),j<i→p l[j]=false
theorem Ph.zero{α:Type}{p:α→Bool}{l:List α}:Ph p l 0:=fun _ _ h=>absurd h (Nat.not_lt_zero _)
theorem Ph.succ{α:Type}{p:α→Bool}{l:List α}{i:Nat}(h:Ph p l i)(hi:i<l.length)(hp:p l[i]=false):Ph p l (i+1):=fun j hj hji=>by
 by_cases e:j=i
 ·subst e;exact hp
 ·exact h j hj (by omega)
theorem Ph.found{α:Type}{p:α→Bool}{l:List α}{i:Nat}(h:Ph p l i)(hi:i<l.length)(hp:p l[i]=true):l.findIdx? p=some i:=by
 rw[List.findIdx?_eq_some_iff_getElem]
 exact⟨hi,hp,fun j hj=>by rw[h j (by omega) hj];simp⟩
theorem Ph.none{α:Type}{p:α→Bool}{l:List α}{i:Nat}(h:Ph p l i)(hi:l.length≤i):l.findIdx? p=none:=by
 rw[List.findIdx?_eq_none_iff]
 intro x hx
 obtain⟨j,hj,rfl⟩:=List.getElem_of_mem hx
 exact h j hj (by omega)
theorem Ph.any{α:Type}{p:α→Bool}{l:List α}{i:Nat}(h:Ph p l i)(hi:l.length≤i):l.any p=false:=by
 rw[List.any_eq_false]
 intro x hx
 obtain⟨j,hj,rfl⟩:=List.getElem_of_mem hx
 rw[h j hj (by omega)];simp
theorem QC{α:Type}{p:α→Bool}{l:List α}{i:Nat}(hi:i<l.length)(hp:p l[i]=true):l.any p=true:=List.any_eq_true.2 ⟨_,List.getElem_mem hi,hp⟩
def fJ(n m:Int):Int:=(if n<0 then -(n+1)else n).tmod m
def jH(l:List Int)(i m:Int):Int:=if i<0∨l.length≤i then 0 else fJ (l.getD i.toNat 0) m
def find?(l:List Ed)(n:Nm):Option Nat:=l.findIdx? fun e=>decide (e.name=n)
theorem sI(n m:Int)(hm:0<m):0≤fJ n m∧fJ n m<m:=by
 unfold fJ
 split
 ·exact⟨Int.tmod_nonneg _ (by omega),Int.tmod_lt_of_pos _ hm⟩
 ·exact⟨Int.tmod_nonneg _ (by omega),Int.tmod_lt_of_pos _ hm⟩
end Go.Eng
namespace Go.Eng
inductive Nd where
 |mk (kind:Int) (text:aR) (n:Int) (kids:List Nd)
instance:Inhabited Nd:=⟨.mk 0 [] 0 []⟩
def Nd.kind:Nd→Int| .mk k _ _ _=>k
def Nd.text:Nd→aR| .mk _ t _ _=>t
def Nd.n:Nd→Int| .mk _ _ n _=>n
def Nd.kids:Nd→List Nd| .mk _ _ _ ks=>ks
@[simp] theorem kK{k:Int}{t:aR}{n:Int}{ks:List Nd}:(Nd.mk k t n ks).kind=k:=rfl
@[simp] theorem vV{k:Int}{t:aR}{n:Int}{ks:List Nd}:(Nd.mk k t n ks).text=t:=rfl
@[simp] theorem yO{k:Int}{t:aR}{n:Int}{ks:List Nd}:(Nd.mk k t n ks).n=n:=rfl
@[simp] theorem sU{k:Int}{t:aR}{n:Int}{ks:List Nd}:(Nd.mk k t n ks).kids=ks:=rfl
mutual
theorem qX{p:Nd→Prop}(h:∀k t n ks,(∀x∈ks,p x)→p (.mk k t n ks)):∀x,p x
 | .mk k t n ks=>h k t n ks (JL h ks)
theorem JL{p:Nd→Prop}(h:∀k t n ks,(∀x∈ks,p x)→p (.mk k t n ks)):∀(ks:List Nd),∀x∈ks,p x
 |[],_,hx=>by cases hx
 |a::r,x,hx=>by
  rcases List.mem_cons.1 hx with e|e
  ·rw[e];exact qX h a
  ·exact JL h r x e
end
mutual
def Nd.d:Nd→DV
 | .mk k t n ks=>.agg [aC k,.str t,aC n,.sl (ndsL ks)]
def ndsL:List Nd→List DV
 |[]=>[]
 |x::r=>x.d::ndsL r
end
theorem ndsL_map:∀ks:List Nd,ndsL ks=ks.map Nd.d
 |[]=>by simp[ndsL]
 |x::r=>by rw[ndsL,ndsL_map r];rfl
theorem Nd.d_eq(x:Nd):x.d=.agg [aC x.kind,.str x.text,aC x.n,.sl (x.kids.map Nd.d)]:=by
 cases x with|mk k t n ks=>rw[Nd.d,ndsL_map];rfl
def ndsD(l:List Nd):DV:=.sl (l.map Nd.d)
theorem nd_len(x:Nd):(aE x.d).length=4:=by rw[Nd.d_eq];rfl
theorem nd_mem{l:List Nd}{y:DV}(h:y∈l.map Nd.d):(aE y).length=4:=by
 obtain⟨a,_,rfl⟩:=List.mem_map.1 h
 exact nd_len a
section
variable{l:List Nd} {k n:Nat}
theorem nd_t:(∀y∈List.take k (List.map Nd.d l),(aE y).length=4)↔True:=iff_true_intro fun _ h=>nd_mem (List.mem_of_mem_take h)
theorem nd_dr:(∀y∈List.drop k (List.map Nd.d l),(aE y).length=4)↔True:=iff_true_intro fun _ h=>nd_mem (List.mem_of_mem_drop h)
theorem nd_td:(∀y∈List.take n (List.drop k (List.map Nd.d l)),(aE y).length=4)↔True:=iff_true_intro fun _ h=>nd_mem (xG h)
end
mutual
def sizeN:Nd→Nat
 | .mk _ _ _ ks=>sizeL ks+1
def sizeL:List Nd→Nat
 |[]=>0
 |x::r=>sizeN x+sizeL r
end
mutual
def depthN:Nd→Nat
 | .mk _ _ _ ks=>depthL ks+1
def depthL:List Nd→Nat
 |[]=>0
 |x::r=>max (depthN x) (depthL r)
end
mutual
def weighN:Nd→Nat
 | .mk _ t _ ks=>weighL ks+t.length+1
def weighL:List Nd→Nat
 |[]=>0
 |x::r=>weighN x+weighL r
end
theorem sizeN_eq(x:Nd):sizeN x=sizeL x.kids+1:=by cases x;rw[sizeN];rfl
theorem depthN_eq(x:Nd):depthN x=depthL x.kids+1:=by cases x;rw[depthN];rfl
theorem weighN_eq(x:Nd):weighN x=weighL x.kids+x.text.length+1:=by cases x;rw[weighN];rfl
theorem sizeL_append:∀(a b:List Nd),sizeL (a++b)=sizeL a+sizeL b
 |[],b=>by simp[sizeL]
 |x::a,b=>by rw[List.cons_append,sizeL,sizeL,sizeL_append a b,Nat.add_assoc]
theorem weighL_append:∀(a b:List Nd),weighL (a++b)=weighL a+weighL b
 |[],b=>by simp[weighL]
 |x::a,b=>by rw[List.cons_append,weighL,weighL,weighL_append a b,Nat.add_assoc]
theorem depthL_append:∀(a b:List Nd),depthL (a++b)=max (depthL a) (depthL b)
 |[],b=>by simp[depthL]
 |x::a,b=>by rw[List.cons_append,depthL,depthL,depthL_append a b,Nat.max_assoc]
theorem sizeL_succ{l:List Nd}{i:Nat}(hi:i<l.length):sizeL (l.take (i+1))=sizeL (l.take i)+sizeN l[i]:=by
 rw[←List.take_append_getElem hi,sizeL_append];simp[sizeL]
theorem depthL_succ{l:List Nd}{i:Nat}(hi:i<l.length):depthL (l.take (i+1))=max (depthL (l.take i)) (depthN l[i]):=by
 rw[←List.take_append_getElem hi,depthL_append];simp[depthL]
theorem sizeL_take_le{l:List Nd}(i:Nat):sizeL (l.take i)≤sizeL l:=by
 have:=sizeL_append (l.take i) (l.drop i)
 rw[List.take_append_drop]at this;omega
theorem weigh_mem:∀{l:List Nd} {x:Nd},x∈l→weighN x≤weighL l
 |[],_,h=>by cases h
 |a::l,x,h=>by
  rw[weighL]
  rcases List.mem_cons.1 h with e|e
  ·rw[e];omega
  ·have:=weigh_mem e;omega
theorem weigh_len:∀{l:List Nd},l.length≤weighL l
 |[]=>Nat.zero_le _
 |a::l=>by
  have:=weigh_len (l:=l)
  have h:1≤weighN a:=by rw[weighN_eq];omega
  rw[weighL,List.length_cons];omega
theorem size_weigh(x:Nd):sizeN x≤weighN x:=by
 refine qX (p:=fun x=>sizeN x≤weighN x) (fun k t n ks ih=>?_) x
 rw[sizeN,weighN]
 have:∀l:List Nd,(∀x∈l,sizeN x≤weighN x)→sizeL l≤weighL l:=fun l=>by
  induction l with
  |nil=>intro _;simp[sizeL,weighL]
  |cons a l ih=>intro h;have:=ih fun x hx=>h x (List.mem_cons_of_mem _ hx);have:=h a (List.mem_cons_self ..);rw[sizeL,weighL];omega
 have:=this ks ih
 omega
theorem depth_size(x:Nd):depthN x≤sizeN x:=by
 refine qX (p:=fun x=>depthN x≤sizeN x) (fun k t n ks ih=>?_) x
 rw[depthN,sizeN]
 have:∀l:List Nd,(∀x∈l,depthN x≤sizeN x)→depthL l≤sizeL l:=fun l=>by
  induction l with
  |nil=>intro _;simp[sizeL,depthL]
  |cons a l ih=>intro h;have:=ih fun x hx=>h x (List.mem_cons_of_mem _ hx);have:=h a (List.mem_cons_self ..);rw[sizeL,depthL];omega
 have:=this ks ih
 omega
mutual
def sameN:Nd→Nd→Bool
 | .mk k t n ks,.mk k' t' n' ks'=>decide (k=k')&&decide (t=t')&&decide (n=n')&&sameL ks ks'
def sameL:List Nd→List Nd→Bool
 |[],[]=>true
 |a::r,b::s=>sameN a b&&sameL r s
 |_,_=>false
end
mutual
theorem sameN_iff:∀a b:Nd,sameN a b=true↔a=b
 | .mk k t n ks,.mk k' t' n' ks'=>by
  rw[sameN]
  simp only[Bool.and_eq_true,decide_eq_true_eq,sameL_iff ks ks',Nd.mk.injEq]
  exact⟨fun⟨⟨⟨a,b⟩,c⟩,d⟩=>⟨a,b,c,d⟩,fun⟨a,b,c,d⟩=>⟨⟨⟨a,b⟩,c⟩,d⟩⟩
theorem sameL_iff:∀a b:List Nd,sameL a b=true↔a=b
 |[],[]=>by simp[sameL]
 |[],b::s=>by simp[sameL]
 |a::r,[]=>by simp[sameL]
 |a::r,b::s=>by
  rw[sameL]
  simp only[Bool.and_eq_true,sameN_iff a b,sameL_iff r s,List.cons.injEq]
end
instance:DecidableEq Nd:=fun a b=>decidable_of_iff _ (sameN_iff a b)
end Go.Eng
namespace Go.Eng
def jA:List aR:=[[118,97,114],[114,101,99],[99,104,97,110],[108,111,99,107],[102,105,108,101],[112,114,111,99],[116,101,115,116],[],[],[],[],[105,102],[119,104,105,108,101],[103,111],[99,97,108,108],[115,101,110,100],[114,101,99,118],[97,99,113,117,105,114,101],[114,101,108,101,97,115,101],[100,114,97,119],[110,111,119],[115,108,101,101,112],[119,114,105,116,101],[114,101,97,100],[99,104,101,99,107],[97,108,108,111,99]]
def mP:List (Int×Int):=[(-999,999),(0,0),(0,3),(0,0),(0,0),(0,0),(0,0),(-999,999),(0,0),(0,0),(0,0),(0,0),(0,0),(0,0),(0,0),(0,0),(0,0),(0,0),(0,0),(2,6),(0,0),(1,9),(0,0),(0,0),(0,0),(1,99),(0,0),(0,0),(0,0),(0,0),(0,0),(0,0),(0,999),(0,0),(0,0),(0,0),(0,0)]
def zH:List (aR×Int):=[([60],1),([60,61],1),([61,61],1),([43],2),([45],2),([42],3)]
def eD:aR:=[101,108,115,101]
def qD:aR:=[107,105,110,100]
theorem KT:jA.length=26:=rfl
theorem Dm:mP.length=37:=rfl
def bF(c:UInt8):Bool:=decide (97≤c)&&decide (c≤122)
def aW(c:UInt8):Bool:=decide (48≤c)&&decide (c≤57)
def iX(p:UInt8→Bool):aR→Nat
 |[]=>0
 |c::r=>if p c then iX p r+1 else 0
theorem Cz(p:UInt8→Bool):∀s:aR,iX p s≤s.length
 |[]=>Nat.le_refl _
 |c::r=>by
  have:=Cz p r
  unfold iX;split<;>simp only[List.length_cons]<;>omega
theorem xN{p:UInt8→Bool}:∀{s:aR} {i:Nat} (h:i<s.length),i<iX p s→p s[i]=true
 |c::r,0,_,h=>by
  unfold iX at h
  split at h
  ·assumption
  ·omega
 |c::r,i+1,hi,h=>by
  unfold iX at h
  split at h
  ·simpa using xN (s:=r) (by simpa using hi) (by omega)
  ·omega
theorem EF{p:UInt8→Bool}:∀{s:aR} (h:iX p s<s.length),p s[iX p s]=false
 |[],h=>by simp at h
 |c::r,h=>by
  by_cases q:p c=true
  ·have e:iX p (c::r)=iX p r+1:=by rw[iX,if_pos q]
   have h':iX p r<r.length:=by rw[e]at h;simpa using h
   have:=EF h'
   simp only[e]
   simpa using this
  ·have e:iX p (c::r)=0:=by rw[iX,if_neg q]
   simp only[e]
   simpa using q
theorem Pi{p:UInt8→Bool}{s:aR}{n:Nat}(hn:n≤s.length)(h:∀i (hi:i<n),p (s[i]'(by omega))=true)(hs:∀hl:n<s.length,p s[n]=false):iX p s=n:=by
 rcases Nat.lt_trichotomy (iX p s) n with q|q|q
 ·have:=EF (p:=p) (s:=s) (by omega)
  rw[h _ q]at this;cases this
 ·exact q
 ·have hl:=Cz p s
  have:=xN (p:=p) (show n<s.length by omega) q
  rw[hs (by omega)]at this;cases this
def dN(s:aR):Nat:=match s with
 |[]=>0
 |c::_=>if bF c then(if iX (fun c=>bF c||aW c) s≤16 then iX (fun c=>bF c||aW c) s else 0)else 0
def rP:aR:=[40,41,123,125,61,43,45,42,60,59,46]
def bB(s:aR):Nat:=match s with
 |[]=>0
 |c::r=>if bF c then dN s else if c=36 then(if 0<dN r then dN r+1 else 0)
  else if aW c then(if iX aW s≤3 then iX aW s else 0)
  else if s.take 2=[60,61]∨s.take 2=[61,61]then 2 else if c∈rP then 1 else 0
def qY(s:aR):Bool:=decide (s=eD)||decide (s=qD)||decide (s∈jA)
def kQ(s:aR):Bool:=match s with
 |[]=>false
 |c::_=>bF c&& !qY s
def cR(s:aR)(named:Bool):Bool:=decide (s≠[])&&decide (dN s=s.length)&&(!named||kQ s)
end Go.Eng
namespace Go.Eng
def xO(n:Nat):aR:=if n<10 then [UInt8.ofNat (48+n)]else if n<100 then [UInt8.ofNat (48+n / 10),UInt8.ofNat (48+n%10)]else [UInt8.ofNat (48+n / 100),UInt8.ofNat (48+n / 10%10),UInt8.ofNat (48+n%10)]
def iJ(n:Int):aR:=if n<0 then 45::xO n.natAbs else xO n.toNat
def cX(k:Int):aR:=jA.getD k.toNat []
def fF(k:Int):Int:=(mP.getD k.toNat (0,0)).1
def fH(k:Int):Int:=(mP.getD k.toNat (0,0)).2
def qE(k:Int):aR:=(zH.getD (k-26).toNat ([],0)).1
def cG(k:Int):Int:=(zH.getD (k-26).toNat ([],0)).2
def cM(k:Int):Bool:=decide (9≤k)&&decide (k≤25)
def tX(k:Int):Bool:=decide (k=7)
def cF(k:Int):Bool:=decide (k=8)
def aH(k:Int):Bool:=decide (26≤k)&&decide (k≤36)
theorem BS{k:Int}:aH k=true↔26≤k∧k≤36:=by simp[aH]
theorem tY{k:Int}:cM k=true↔9≤k∧k≤25:=by simp[cM]
def nW(k:Int):Bool:=decide (k=34)||decide (k=35)
def oV(k:Int):Bool:=decide (k=33)
def cS:List Nd→List (Int→Bool)→Bool
 |[],[]=>true
 |x::r,f::l=>f x.kind&&cS r l
 |_,_=>false
def cT(k:Int)(ks:List Nd):Bool:=
 if k=1 then ks.all fun y=>tX y.kind
 else if k=8 then ks.all fun y=>cM y.kind
 else if k=5∨k=6 then cS ks [cF]
 else if k=9∨k=15∨k=22∨k=24 then cS ks [aH]
 else if k=10 then cS ks [nW,aH]
 else if k=11 then cS ks [aH,cF]||cS ks [aH,cF,cF]
 else if k=12 then cS ks [aH,cF]
 else if k=16∨k=23 then cS ks [oV]
 else if 26≤k∧k≤31 then cS ks [aH,aH]
 else cS ks []
def fR(x:Nd):Bool:=cT x.kind x.kids
def lS(c:UInt8):aR→Option (aR×aR)
 |[]=>none
 |d::r=>if d=c then some ([],r)else(lS c r).map fun q=>(d::q.1,q.2)
def xP(t:aR):Bool:=match lS 46 t with
 |some (a,b)=>cR a true&&cR b true
 |none=>false
def kH(k:Int)(t:aR):Bool:=
 if k=9∨k=19∨k=20∨k=33 then cR t false
 else if k=35 then xP t
 else if k=8∨k=10∨k=11∨k=12∨k=21∨k=24∨k=25∨(26≤k∧k≤32)∨k=36 then decide (t=[])
 else cR t true
def lE(k:Int)(t:aR)(n:Int):Bool:=decide (fF k≤n)&&decide (n≤fH k)&&kH k t
def kI(x:Nd):Bool:=lE x.kind x.text x.n
mutual
def aI:Nd→Bool
 | .mk k t n ks=>decide (0≤k)&&decide (k<37)&&fR (.mk k t n ks)&&kI (.mk k t n ks)&&qF ks
def qF:List Nd→Bool
 |[]=>true
 |x::r=>aI x&&qF r
end
theorem rightL_all:∀l:List Nd,qF l=l.all aI
 |[]=>rfl
 |x::r=>by rw[qF,rightL_all r];rfl
theorem right_mk{k:Int}{t:aR}{n:Int}{ks:List Nd}:aI (.mk k t n ks)=true↔0≤k∧k<37∧cT k ks=true∧fF k≤n∧n≤fH k∧kH k t=true∧∀x∈ks,aI x=true:=by
 rw[aI,rightL_all]
 have e1:fR (.mk k t n ks)=cT k ks:=rfl
 have e2:kI (.mk k t n ks)=lE k t n:=rfl
 rw[e1,e2]
 simp only[Bool.and_eq_true,decide_eq_true_eq,lE,List.all_eq_true]
 exact⟨fun⟨⟨⟨⟨a,b⟩,c⟩,⟨d,e⟩,f⟩,g⟩=>⟨a,b,c,d,e,f,g⟩,fun⟨a,b,c,d,e,f,g⟩=>⟨⟨⟨⟨a,b⟩,c⟩,⟨d,e⟩,f⟩,g⟩⟩
theorem rightN_eq(x:Nd):aI x=(decide (0≤x.kind)&&decide (x.kind<37)&&fR x&&kI x&&x.kids.all aI):=by
 cases x;rw[aI,rightL_all];rfl
def paren(c:Bool)(t:aR):aR:=if c then 40::t++[41]else t
def lvlN(k:Int):Int:=if 26≤k∧k≤31 then cG k else 4
def exprT:Nd→aR
 | .mk k t n ks=>if k=32 then iJ n else if k=33 then 36::t else if k=36 then qD else if k=34∨k=35 then t else match ks with
  |[a,b]=>paren (decide (lvlN a.kind<(if cG k=1 then 2 else cG k))) (exprT a)++32::(qE k++32::paren (decide (lvlN b.kind<cG k+1)) (exprT b))
  |_=>[]
def withN(n:Int):aR:=if 0<n then 32::iJ n else []
def withE(ks:List Nd):aR:=ks.flatMap fun x=>32::exprT x
def midT(k:Int)(t:aR):aR:=if k=19∨k=20 then 32::36::t else if k=21∨k=25∨k=24 then []else 32::t
mutual
def stmtT:Nd→aR
 | .mk k t n ks=>if k=9 then(match ks with|[e]=>36::t++32::61::32::(exprT e++[59])|_=>[])
  else if k=10 then(match ks with|[p,e]=>exprT p++32::61::32::(exprT e++[59])|_=>[])
  else if k=11∨k=12 then(match ks with
   |[e,b]=>cX k++32::(exprT e++32::blockT b)
   |[e,b,c]=>cX k++32::(exprT e++32::blockT b)++32::(eD++32::blockT c)
   |_=>[])
  else cX k++midT k t++withN n++withE ks++[59]
def blockT:Nd→aR
 | .mk _ _ _ ks=>123::32::(stmtsT ks++[125])
def stmtsT:List Nd→aR
 |[]=>[]
 |x::r=>stmtT x++32::stmtsT r
end
def itemT(x:Nd):aR:=x.text++32::61::32::(iJ x.n++[59,32])
def textT(x:Nd):aR:=
 let o:=cX x.kind++32::x.text
 if x.kind=5∨x.kind=6 then(match x.kids with|[b]=>o++32::blockT b|_=>[])
 else if x.kind=1 then o++32::123::32::(x.kids.flatMap itemT++[125])
 else if x.kind=0 then o++32::61::32::(iJ x.n++[59])
 else if x.kind=2 then o++32::(iJ x.n++[59])
 else o++[59]
def validB(x:Nd):Bool:=decide (0≤x.kind)&&decide (x.kind≤6)&&decide (depthN x≤24)&&aI x&&decide ((textT x).length≤1024)
def printS(x:Nd):aR:=if validB x then textT x else []
def headK(x:Nd):Int:=if validB x then x.kind else -1
def headT(x:Nd):aR:=if validB x then x.text else []
end Go.Eng
namespace Go.Eng
structure Tk where
 text:aR
 at_:Int
 deriving DecidableEq,Inhabited
def Tk.d(t:Tk):DV:=.agg [.str t.text,aC t.at_]
def iQ:Nat→aR→Int→List Tk×Int
 |0,_,i=>([],i)
 |f+1,s,i=>match s with
  |[]=>([],i)
  |c::r=>if c=32∨c=10 then iQ f r (i+1)else if bB s=0 then([],i)else
   (⟨s.take (bB s),i⟩::(iQ f (s.drop (bB s)) (i+bB s)).1,(iQ f (s.drop (bB s)) (i+bB s)).2)
def fL(s:aR):List Tk×Int:=iQ s.length s 0
structure PS where
 l:List Tk
 e:Int
 deriving DecidableEq,Inhabited
def PS.peek(p:PS):aR:=if p.e≠0 then []else match p.l with|[]=>[]|t::_=>t.text
def PS.fail(p:PS)(e:Int):PS:=if p.e=0 then⟨p.l,e⟩else p
def PS.skip(p:PS):PS:=⟨p.l.tail,p.e⟩
def PS.is(p:PS)(s:aR):Bool:=decide (s≠[])&&decide (p.peek=s)
def PS.took(p:PS)(s:aR):PS:=if p.is s then p.skip else p
def PS.need(p:PS)(s:aR):PS:=if p.is s then p.skip else p.fail 2
def aD(p:PS):aR×PS:=if kQ p.peek then(p.peek,p.skip)else([],p.fail 2)
def aM(p:PS):aR×PS:=match p.peek with
 |36::r=>(r,p.skip)
 |_=>([],p.fail 2)
def qG(s:aR):Int:=s.foldl (fun n c=>10*n+((c.toNat:Int)- 48)) 0
def aG(k:Int)(p:PS):Int×PS:=match p.peek with
 |[]=>(0,p.fail 2)
 |c::r=>if aW c then(if qG (c::r)<fF k∨fH k<qG (c::r)then(0,p.fail 5)else(qG (c::r),p.skip))else(0,p.fail 2)
def aZ(p:PS):Int×PS:=if p.is [45]then(-(aG 0 p.skip).1,(aG 0 p.skip).2)else aG 0 p
def aV(p:PS):Nd×PS:=
 if(aD p).2.is [46]then(.mk 35 ((aD p).1++46::(aD (aD p).2.skip).1) 0 [],(aD (aD p).2.skip).2)
 else(.mk 34 (aD p).1 0 [],(aD p).2)
def qH(lv:Int)(s:aR):Int:=match(List.range 6).find? (fun i=>decide ((zH.getD i ([],0)).2=lv)&&decide ((zH.getD i ([],0)).1=s))with
 |some i=>i
 |none=> -1
def opP(lv:Int)(p:PS):Int×PS:=(qH lv p.peek,if 0≤qH lv p.peek then p.skip else p)
def chainF(lv:Int)(x:PS→Nd×PS):Nat→Nd→PS→Nd×PS
 |0,n,p=>(n,p)
 |f+1,n,p=>if p.e≠0 then(n,p)else if(opP lv p).1<0 then(n,(opP lv p).2)else
  chainF lv x f (.mk (26+(opP lv p).1) [] 0 [n,(x (opP lv p).2).1]) (x (opP lv p).2).2
def fK(lv:Int)(x:PS→Nd×PS)(p:PS):Nd×PS:=chainF lv x ((x p).2.l.length+1) (x p).1 (x p).2
def fM(ex:PS→Nd×PS)(p:PS):Nd×PS:=
 if p.is [40]then((ex p.skip).1,(ex p.skip).2.need [41])
 else if p.is qD then(.mk 36 [] 0 [],p.skip)
 else match p.peek with
  |c::_=>if aW c then(.mk 32 [] (aG 32 p).1 [],(aG 32 p).2)else if c=36 then(.mk 33 (aM p).1 0 [],(aM p).2)else aV p
  |[]=>aV p
def Av(ex:PS→Nd×PS)(p:PS):Nd×PS:=fK 3 (fM ex) p
def dF(ex:PS→Nd×PS)(p:PS):Nd×PS:=fK 2 (Av ex) p
def exprB(ex:PS→Nd×PS)(p:PS):Nd×PS:=
 let a:=dF ex p
 if 0≤(opP 1 a.2).1 then(.mk (26+(opP 1 a.2).1) [] 0 [a.1,(dF ex (opP 1 a.2).2).1],(dF ex (opP 1 a.2).2).2)else(a.1,(opP 1 a.2).2)
def iK:Nd:=.mk 0 [] 0 []
def fS(r:Bool):Nat→PS→Nd×PS
 |0,p=>(default,p)
 |f+1,p=>if r=true∧p.e≠0 then(iK,p)else exprB (fS r f) p
def stmtsF(st:PS→Nd×PS):Nat→List Nd→PS→List Nd×PS
 |0,ks,p=>(ks,p)
 |f+1,ks,p=>if p.e≠0∨p.peek=[125]then(ks,p)else stmtsF st f (ks++[(st p).1]) (st p).2
def fZ(st:PS→Nd×PS)(p:PS):Nd×PS:=
 let q:=p.need [123]
 let r:=stmtsF st (q.l.length+1) [] q
 (.mk 8 [] 0 r.1,r.2.need [125])
def JM(s:aR):Int:=match(List.range 26).find? (fun i=>decide (jA.getD i []=s))with
 |some i=>i
 |none=> -1
def cV(s:aR):Int:=if s=[]then -1 else JM s
def mX(ex:PS→Nd×PS)(k:Int)(p:PS):Nd×PS:=
 let a:aR×PS:=if k=19∨k=20 then aM p else if k=21∨k=25∨k=24 then([],p)else aD p
 if k=15∨k=22∨k=24 then(.mk k a.1 0 [(ex a.2).1],(ex a.2).2)
 else if k=16∨k=23 then(.mk k a.1 0 [.mk 33 (aM a.2).1 0 []],(aM a.2).2)
 else if k=19∨k=21∨k=25 then(.mk k a.1 (aG k a.2).1 [],(aG k a.2).2)
 else(.mk k a.1 0 [],a.2)
def iR(ex bl:PS→Nd×PS)(p:PS):Nd×PS:=
 let k:=cV p.peek
 if k=11∨k=12 then
  let e:=ex p.skip
  let b:=bl e.2
  if k=11∧b.2.is eD=true then(.mk k [] 0 [e.1,b.1,(bl b.2.skip).1],(bl b.2.skip).2)else(.mk k [] 0 [e.1,b.1],b.2)
 else if 12<k then((mX ex k p.skip).1,(mX ex k p.skip).2.need [59])
 else match p.peek with
  |36::_=>(.mk 9 (aM p).1 0 [(ex ((aM p).2.need [61])).1],(ex ((aM p).2.need [61])).2.need [59])
  |_=>(.mk 10 [] 0 [(aV p).1,(ex ((aV p).2.need [61])).1],(ex ((aV p).2.need [61])).2.need [59])
def kY(r:Bool):Nat→PS→Nd×PS
 |0,p=>(default,p)
 |f+1,p=>iR (fun q=>fS r (q.l.length+1) q) (fZ (kY r f)) p
def blockP(r:Bool)(f:Nat)(p:PS):Nd×PS:=fZ (kY r f) p
def iL:Nat→List Nd→PS→List Nd×PS
 |0,ks,p=>(ks,p)
 |f+1,ks,p=>if p.e≠0∨p.peek=[125]then(ks,p)else
  let a:=aD p
  let v:=aZ (a.2.need [61])
  iL f (ks++[.mk 7 a.1 v.1 []]) (v.2.need [59])
def dL(s:aR):Int:=if s=[]then -1 else(match(List.range 7).find? (fun i=>decide (jA.getD i []=s))with|some i=>(i:Int)|none=> -1)
def kL(r:Bool)(p:PS):Nd×PS:=
 let k:=dL p.peek
 if k<0 then(.mk 0 [] 0 [],p.fail 2)else
 let a:=aD p.skip
 if k=5∨k=6 then(.mk k a.1 0 [(blockP r (a.2.l.length+1) a.2).1],(blockP r (a.2.l.length+1) a.2).2)
 else if k=1 then
  let q:=a.2.need [123]
  let t:=iL (q.l.length+1) [] q
  (.mk k a.1 0 t.1,t.2.need [125])
 else if k=0 then(.mk k a.1 (aZ (a.2.need [61])).1 [],(aZ (a.2.need [61])).2.need [59])
 else if k=2 then(.mk k a.1 (aG 2 a.2).1 [],(aG 2 a.2).2.need [59])
 else(.mk k a.1 0 [],a.2.need [59])
def dD(s:aR):Nd×Int×Int:=
 if 1024<s.length then(iK,1024,4)else
 let t:=fL s
 let r:=kL false ⟨t.1,0⟩
 match r.2.l with
 |x::_=>(iK,x.at_,if r.2.e≠0 then r.2.e else 2)
 |[]=>if r.2.e≠0∨t.2<s.length then(iK,t.2,2)else if validB r.1 then(r.1,0,0)else(iK,0,4)
example:(dD [118,97,114,32,110,61,45,55,59]).1=.mk 0 [110] (-7) []:=by decide
example:dD [99,104,97,110,32,99,32,52,59]=(iK,7,5):=by decide
example:dD [116,101,115,116,32,116,32,123,32,120,32,61,32,59,32,125]=(iK,13,2):=by decide
example:dD [108,111,99,107,32,108]=(iK,6,2):=by decide
example:dD [118,97,114,32,114,101,97,100,32,61,32,49,59]=(iK,4,2):=by decide
example:sizeN (dD [112,114,111,99,32,112,123,36,97,61,40,120,46,121,43,49,41,42,50,59,105,102,32,36,97,60,51,123,103,111,32,113,59,125,101,108,115,101,123,125,125]).1=15:=by decide
example:printS (dD [112,114,111,99,32,112,123,36,97,61,40,120,46,121,43,49,41,42,50,59,105,102,32,36,97,60,51,123,103,111,32,113,59,125,101,108,115,101,123,125,125]).1=[112,114,111,99,32,112,32,123,32,36,97,32,61,32,40,120,46,121,32,43,32,49,41,32,42,32,50,59,32,105,102,32,36,97,32,60,32,51,32,123,32,103,111,32,113,59,32,125,32,101,108,115,101,32,123,32,125,32,125]:=by decide
end Go.Eng
namespace Go.Eng
def BT:List aR:=[[97],[98],[120],[98,111,120],[113],[119,50],[99,104,101,99,107,115],[108,111,110,103,101,115,116,110,97,109,101,49,50,51,52,53]]
def GT:List aR:=[[97],[105],[114,101,97,100],[108,111,110,103,101,115,116,108,111,99,97,108,49,50,51,52]]
def iT(L:List Int)(i:Nat):aR:=BT.getD (jH L i 8).toNat []
def oN(L:List Int)(i:Nat):aR:=GT.getD (jH L i 4).toNat []
def dQ(L:List Int)(i:Nat):Nd×Nat:=if 0<jH L i 3 then(.mk 34 (iT L (i+1)) 0 [],i+2)else(.mk 35 (iT L (i+1)++46::iT L (i+2)) 0 [],i+3)
def Aw:List Int:=[0,1,2,7,10,999]
def aN(L:List Int):Nat→Nat→Nd×Nat
 |d,i=>
  let k:=if d=0∨L.length<i+1 then(jH L i 12).tmod 6 else jH L i 12
  if k=0∨k=1 then(.mk 32 [] (Aw.getD (jH L (i+1) 6).toNat 0) [],i+2)
  else if k=2 then(.mk 33 (oN L (i+1)) 0 [],i+2)
  else if k=3∨k=4 then dQ L (i+1)
  else if k=5 then(.mk 36 [] 0 [],i+1)
  else match d with
   |0=>default
   |e+1=>(.mk (26+k-6) [] 0 [(aN L e (i+1)).1,(aN L e (aN L e (i+1)).2).1],(aN L e (aN L e (i+1)).2).2)
def kM(L:List Int)(st:Nat→Nd×Nat):Nat→List Nd→Nat→List Nd×Nat
 |0,ks,i=>(ks,i)
 |m+1,ks,i=>if L.length≤i then(ks,i)else kM L st m (ks++[(st i).1]) (st i).2
def tZ(L:List Int)(st:Nat→Nd×Nat)(i:Nat):Nd×Nat:=
 let r:=kM L st (jH L i 4).toNat [] (i+1)
 (.mk 8 [] 0 r.1,r.2)
def Ct(L:List Int)(d:Nat)(bl:Nat→Nd×Nat)(i0:Nat):Nd×Nat:=
 let k0:=9+jH L i0 17
 let k:=if d=0∧(k0=11∨k0=12)then 24 else k0
 let i:=i0+1
 if k=9 then(.mk k (oN L i) 0 [(aN L 2 (i+1)).1],(aN L 2 (i+1)).2)
 else if k=10 then(.mk k [] 0 [(dQ L i).1,(aN L 2 (dQ L i).2).1],(aN L 2 (dQ L i).2).2)
 else if k=11∨k=12 then
  let e:=aN L 1 i
  let b:=bl e.2
  if k=11 then(if jH L b.2 2=0 then(.mk k [] 0 [e.1,b.1,(bl (b.2+1)).1],(bl (b.2+1)).2)else(.mk k [] 0 [e.1,b.1],b.2+1))
  else(.mk k [] 0 [e.1,b.1],b.2)
 else if k=13∨k=14∨k=17∨k=18 then(.mk k (iT L i) 0 [],i+1)
 else if k=15∨k=22 then(.mk k (iT L i) 0 [(aN L 1 (i+1)).1],(aN L 1 (i+1)).2)
 else if k=16∨k=23 then(.mk k (iT L i) 0 [.mk 33 (oN L (i+1)) 0 []],i+2)
 else if k=19 then(.mk k (oN L i) (2+jH L (i+1) 5) [],i+2)
 else if k=20 then(.mk k (oN L i) 0 [],i+1)
 else if k=21 then(.mk k [] (1+jH L i 9) [],i+1)
 else if k=25 then(.mk k [] (1+jH L i 99) [],i+1)
 else(.mk k [] 0 [(aN L 2 i).1],(aN L 2 i).2)
def nX(L:List Int):Nat→Nat→Nd×Nat
 |0,i=>Ct L 0 (fun _=>default) i
 |d+1,i=>Ct L (d+1) (tZ L (nX L d)) i
def kJ:List Int:=[5,6,5,6,5,0,1,2,3,4]
def rQ(L:List Int):Nat→List Nd→Nat→List Nd
 |0,ks,_=>ks
 |m+1,ks,i=>if L.length≤i then ks else rQ L m (ks++[(nX L 2 i).1]) (nX L 2 i).2
def qI(L:List Int):Nat→List Nd
 |0=>[]
 |j+1=>qI L j++[.mk 7 (iT L (3+2*j)) (jH L (4+2*j) 1999-999) []]
def sV(L:List Int):Nd:=
 let k:=kJ.getD (jH L 0 10).toNat 0
 let t:=iT L 1
 if k=0 then .mk k t (jH L 2 1999-999) []
 else if k=2 then .mk k t (jH L 2 4) []
 else if k=1 then .mk k t 0 (qI L (jH L 2 4).toNat)
 else if k=5∨k=6 then .mk k t 0 [.mk 8 [] 0 (rQ L L.length [] 2)]
 else .mk k t 0 []
def wM(l:List Int):Nd:=sV (l.take 48)
def Pj(t:Tk):Int:=t.at_+t.text.length
def Rq:List aR:=[[32],[10],[32,32,10,32]]
def Rr(c:UInt8):Bool:=decide (c∈rP)
def dE(p:UInt8→Bool)(w:aR):Bool:=match w with|[]=>false|c::_=>p c
def GU(ts:List Tk)(l:List Int):Nat→aR
 |0=>[]
 |i+1=>
  let out:=GU ts l i
  let w:=(ts.getD i default).text
  let k:=jH l i 6
  let need:=match out.getLast? with
   |none=>false
   |some c=>(dE bF w||dE aW w)&&decide (c≠32)&&decide (c≠10)&& !Rr c
  (if decide (k<3)||need||(decide (0<i)&&(decide (w=[61])||decide (w=[61,61])))then out++Rq.getD (k.tmod 3).toNat []else out)++w
def oW:List aR:=[[118,97,114],[41],[65],[49,44,48]]
def nY:List aR:=[[118,97,114],[120],[40],[41],[123],[125],[48,48,55],[60],[60,61],[105,102],[61],[61,61],[48],[45],[44],[49,50,51,52],[36,120],[107,105,110,100],[101,108,115,101],[59],[46],[49,48,48],[36],[108,111,110,103,101,114,110,97,109,101,49,50,51,52,53,54,55],[116,101,115,116],[52]]
def qJ(s:aR)(a how b:Int):aR:=match(fL s).1 with
 |[]=>s++oW.getD (fJ b 4).toNat []
 |t::ts=>
  let k:=(t::ts).getD (fJ a (ts.length+1:Nat)).toNat default
  let word:=nY.getD (fJ b 26).toNat []
  let p:=k.at_.toNat
  let q:=(Pj k).toNat
  let c:=fJ how 6
  if c=0 then s.take p++s.drop q
  else if c=1 then s.take q++32::s.drop p
  else if c=2 then s.take p++32::(word++32::s.drop q)
  else if c=3 then s.take p
  else if c=4 then s.take p++word++32::s.drop p
  else s.set (fJ a s.length).toNat (UInt8.ofNat (b.emod 256).toNat)
end Go.Eng
namespace Go.Eng
def vM{α:Type}(x:PS→α×PS):Prop:=∀p,(x p).2.e=0→p.e=0
theorem pM{p:PS}{e:Int}(he:e≠0):(p.fail e).e≠0:=by
 unfold PS.fail;split
 ·exact he
 ·assumption
theorem jB{p:PS}{s:aR}(h:(p.need s).e=0):p.is s=true∧p.e=0:=by
 unfold PS.need at h
 split at h
 ·rename_i q;exact⟨q,h⟩
 ·exact absurd h (pM (by decide))
theorem qZ:vM aD:=fun p h=>by
 unfold aD at h
 split at h
 ·exact h
 ·exact absurd h (pM (by decide))
theorem sW:vM aM:=fun p h=>by
 unfold aM at h
 split at h
 ·exact h
 ·exact absurd h (pM (by decide))
theorem qK(k:Int):vM (aG k):=fun p h=>by
 unfold aG at h
 split at h
 ·exact absurd h (pM (by decide))
 ·split at h
  ·split at h
   ·exact absurd h (pM (by decide))
   ·exact h
  ·exact absurd h (pM (by decide))
theorem GV:vM aZ:=fun p h=>by
 unfold aZ at h
 split at h
 ·exact qK 0 p.skip h
 ·exact qK 0 _ h
theorem zP:vM aV:=fun p h=>by
 unfold aV at h
 split at h
 ·exact qZ p (qZ (aD p).2.skip h)
 ·exact qZ p h
theorem yP(lv:Int):vM (opP lv):=fun p h=>by
 unfold opP at h
 simp only at h
 split at h<;>exact h
theorem IM{lv:Int}{x:PS→Nd×PS}(hx:vM x):∀(f:Nat) (n:Nd) (p:PS),(chainF lv x f n p).2.e=0→p.e=0
 |0,_,_,h=>h
 |f+1,n,p,h=>by
  unfold chainF at h
  split at h
  ·exact h
  ·rename_i q;simpa using q
theorem Dn{lv:Int}{x:PS→Nd×PS}(hx:vM x):vM (fK lv x):=fun p h=>hx p (IM hx _ _ _ h)
theorem KU{ex:PS→Nd×PS}(hx:vM ex):vM (fM ex):=fun p h=>by
 unfold fM at h
 split at h
 ·exact hx p.skip (jB h).2
 ·split at h
  ·exact h
  ·split at h
   ·split at h
    ·exact qK 32 p h
    ·split at h
     ·exact sW p h
     ·exact zP p h
   ·exact zP p h
theorem xQ{ex:PS→Nd×PS}(hx:vM ex):vM (dF ex):=Dn (Dn (KU hx))
theorem KV{ex:PS→Nd×PS}(hx:vM ex):vM (exprB ex):=fun p h=>by
 unfold exprB at h
 simp only at h
 split at h
 ·exact xQ hx p (yP 1 _ (xQ hx _ h))
 ·exact xQ hx p (yP 1 _ h)
theorem yQ(r:Bool):∀f,vM (fS r f)
 |0=>fun p h=>h
 |f+1=>fun p h=>by
  unfold fS at h
  split at h
  ·exact h
  ·exact KV (yQ r f) p h
theorem Do{st:PS→Nd×PS}(hs:vM st):∀(f:Nat) (ks:List Nd) (p:PS),(stmtsF st f ks p).2.e=0→p.e=0
 |0,_,_,h=>h
 |f+1,ks,p,h=>by
  unfold stmtsF at h
  split at h
  ·exact h
  ·exact hs p (Do hs f _ _ h)
theorem sX{st:PS→Nd×PS}(hs:vM st):vM (fZ st):=fun p h=>by
 unfold fZ at h
 exact(jB (Do hs _ _ _ (jB h).2)).2
theorem MW{ex:PS→Nd×PS}(hx:vM ex)(k:Int):vM (mX ex k):=fun p h=>by
 have ha:(if k=19∨k=20 then aM p else if k=21∨k=25∨k=24 then([],p)else aD p).2.e=0→p.e=0:=fun h=>by
  split at h
  ·exact sW p h
  ·split at h
   ·exact h
   ·exact qZ p h
 unfold mX at h
 generalize(if k=19∨k=20 then aM p else if k=21∨k=25∨k=24 then([],p)else aD p)=a at h ha
 simp only at h
 split at h
 ·exact ha (hx _ h)
 ·split at h
  ·exact ha (sW _ h)
  ·split at h
   ·exact ha (qK _ _ h)
   ·exact ha h
theorem KW{ex bl:PS→Nd×PS}(hx:vM ex)(hb:vM bl):vM (iR ex bl):=fun p h=>by
 unfold iR at h
 simp only at h
 split at h
 ·split at h
  ·exact hx p.skip (hb _ (hb (bl (ex p.skip).2).2.skip h))
  ·exact hx p.skip (hb _ h)
 ·split at h
  ·exact MW hx _ p.skip (jB h).2
  ·split at h
   ·exact sW p (jB (hx _ (jB h).2)).2
   ·exact zP p (jB (hx _ (jB h).2)).2
theorem sJ(r:Bool):vM fun q=>fS r (q.l.length+1) q:=fun p h=>yQ r _ p h
theorem mG(r:Bool):∀f,vM (kY r f)
 |0=>fun p h=>h
 |f+1=>fun p h=>KW (sJ r) (sX (mG r f)) p h
def Rl(x y:Nd×PS):Prop:=x.2=y.2∧(x.2.e=0→x.1=y.1)
def Rf(x y:PS→Nd×PS):Prop:=∀p,Rl (x p) (y p)
theorem Rl.refl(x:Nd×PS):Rl x x:=⟨rfl,fun _=>rfl⟩
theorem EG{lv:Int}{x y:PS→Nd×PS}(hx:Rf x y):∀(f:Nat) (n m:Nd) (p:PS),(p.e=0→n=m)→Rl (chainF lv x f n p) (chainF lv y f m p)
 |0,_,_,_,h=>⟨rfl,h⟩
 |f+1,n,m,p,h=>by
  unfold chainF
  split
  ·exact⟨rfl,h⟩
  ·rename_i q
   have hp:p.e=0:=by simpa using q
   split
   ·exact⟨rfl,fun _=>h hp⟩
   ·obtain⟨h1,h2⟩:=hx (opP lv p).2
    rw[←h1]
    exact EG hx f _ _ _ fun he=>by rw[h hp,h2 he]
theorem EH{lv:Int}{x y:PS→Nd×PS}(hx:Rf x y):Rf (fK lv x) (fK lv y):=fun p=>by
 unfold fK
 obtain⟨h1,h2⟩:=hx p
 rw[←h1]
 exact EG hx _ _ _ _ h2
theorem MX{x y:PS→Nd×PS}(hx:Rf x y):Rf (fM x) (fM y):=fun p=>by
 unfold fM
 split
 ·obtain⟨h1,h2⟩:=hx p.skip
  rw[←h1]
  exact⟨rfl,fun h=>h2 (jB h).2⟩
 ·exact Rl.refl _
theorem JN{x y:PS→Nd×PS}(hx:Rf x y):Rf (dF x) (dF y):=EH (EH (MX hx))
theorem MY{x y:PS→Nd×PS}(hs:vM x)(hx:Rf x y):Rf (exprB x) (exprB y):=fun p=>by
 unfold exprB
 simp only
 obtain⟨h1,h2⟩:=JN hx p
 rw[←h1]
 split
 ·obtain⟨h3,h4⟩:=JN hx (opP 1 (dF x p).2).2
  rw[←h3]
  exact⟨rfl,fun h=>by rw[h2 (yP 1 _ (xQ hs _ h)),h4 h]⟩
 ·exact⟨rfl,fun h=>h2 (yP 1 _ h)⟩
theorem Bd{ex:PS→Nd×PS}{p:PS}(h:p.e≠0):(fM ex p).2=p:=by
 have hp:p.peek=[]:=by unfold PS.peek;rw[if_pos h]
 have hi:∀s,s≠[]→p.is s=false:=fun s hs=>by
  unfold PS.is
  rw[hp]
  simp only[Bool.and_eq_false_iff,decide_eq_false_iff_not]
  right
  exact fun e=>hs e.symm
 have hn:aD p=([],p):=by
  unfold aD
  rw[hp]
  simp[kQ,PS.fail,h]
 unfold fM
 rw[hi _ (by decide),hi _ (by decide),hp]
 simp only[Bool.false_eq_true,if_false]
 unfold aV
 rw[hn]
 simp only
 rw[hi _ (by decide)]
 simp
theorem vW{lv:Int}{x:PS→Nd×PS}(hx:∀p,p.e≠0→(x p).2=p){p:PS}(h:p.e≠0):(fK lv x p).2=p:=by
 unfold fK chainF
 rw[hx p h,if_pos h]
theorem Be{ex:PS→Nd×PS}{p:PS}(h:p.e≠0):(exprB ex p).2=p:=by
 have hs:(dF ex p).2=p:=vW (fun p h=>vW (fun p h=>Bd h) h) h
 have ho:qH 1 p.peek= -1:=by
  have:p.peek=[]:=by unfold PS.peek;rw[if_pos h]
  rw[this];decide
 unfold exprB
 simp only[hs,opP,ho]
 simp
theorem GW:∀f,Rf (fS false f) (fS true f)
 |0=>fun p=>Rl.refl _
 |f+1=>fun p=>by
  unfold fS
  rw[if_neg (by simp)]
  by_cases h:p.e≠0
  ·rw[if_pos ⟨rfl,h⟩]
   exact⟨Be h,fun h'=>by rw[Be h]at h';exact absurd h' h⟩
  ·rw[if_neg (fun q=>h q.2)]
   exact MY (yQ false f) (GW f) p
theorem EI{x y:PS→Nd×PS}(hs:vM x)(hx:Rf x y):∀(f:Nat) (ks js:List Nd) (p:PS),(p.e=0→ks=js)→(stmtsF x f ks p).2=(stmtsF y f js p).2∧((stmtsF x f ks p).2.e=0→(stmtsF x f ks p).1=(stmtsF y f js p).1)
 |0,_,_,_,h=>⟨rfl,h⟩
 |f+1,ks,js,p,h=>by
  unfold stmtsF
  split
  ·exact⟨rfl,h⟩
  ·obtain⟨h1,h2⟩:=hx p
   rw[←h1]
   exact EI hs hx f _ _ _ fun he=>by rw[h (hs p he),h2 he]
theorem KX{x y:PS→Nd×PS}(hs:vM x)(hx:Rf x y):Rf (fZ x) (fZ y):=fun p=>by
 unfold fZ
 simp only
 obtain⟨h1,h2⟩:=EI hs hx ((p.need [123]).l.length+1) [] [] (p.need [123]) (fun _=>rfl)
 rw[←h1]
 exact⟨rfl,fun h=>by rw[h2 (jB h).2]⟩
theorem Pk{x y:PS→Nd×PS}(hx:Rf x y)(k:Int):Rf (mX x k) (mX y k):=fun p=>by
 unfold mX
 generalize(if k=19∨k=20 then aM p else if k=21∨k=25∨k=24 then([],p)else aD p)=a
 simp only
 split
 ·obtain⟨h1,h2⟩:=hx a.2
  rw[←h1]
  exact⟨rfl,fun h=>by rw[h2 h]⟩
 ·exact Rl.refl _
theorem MZ{x y b c:PS→Nd×PS}(hs:vM x)(hx:Rf x y)(ht:vM b)(hb:Rf b c):Rf (iR x b) (iR y c):=fun p=>by
 unfold iR
 simp only
 split
 ·obtain⟨h1,h2⟩:=hx p.skip
  rw[←h1]
  obtain⟨h3,h4⟩:=hb (x p.skip).2
  rw[←h3]
  split
  ·obtain⟨h5,h6⟩:=hb (b (x p.skip).2).2.skip
   rw[←h5]
   exact⟨rfl,fun h=>by
    have e5:=ht _ h
    rw[h6 h,h4 e5,h2 (ht _ e5)]⟩
  ·exact⟨rfl,fun h=>by rw[h4 h,h2 (ht _ h)]⟩
 ·split
  ·obtain⟨h1,h2⟩:=Pk hx (cV p.peek) p.skip
   rw[←h1]
   exact⟨rfl,fun h=>h2 (jB h).2⟩
  ·split
   ·obtain⟨h1,h2⟩:=hx ((aM p).2.need [61])
    rw[←h1]
    exact⟨rfl,fun h=>by rw[h2 (jB h).2]⟩
   ·obtain⟨h1,h2⟩:=hx ((aV p).2.need [61])
    rw[←h1]
    exact⟨rfl,fun h=>by rw[h2 (jB h).2]⟩
theorem GX:∀f,Rf (kY false f) (kY true f)
 |0=>fun p=>Rl.refl _
 |f+1=>fun p=>MZ (sJ false) (fun q=>GW _ q) (sX (mG false f)) (KX (mG false f) (GX f)) p
end Go.Eng
namespace Go.Eng
theorem uS(p:UInt8→Bool):∀(s:aR) (n:Nat),iX p (s.take n)=min n (iX p s)
 |[],n=>by simp[iX]
 |c::r,0=>by simp[iX]
 |c::r,n+1=>by
  rw[List.take_succ_cons]
  unfold iX
  split
  ·rw[uS p r n];omega
  ·simp
def Bf(s:aR):Prop:=s≠[]∧bB s=s.length
theorem sK{s:aR}(h:0<dN s):∃c r,s=c::r∧bF c=true∧dN s=iX (fun c=>bF c||aW c) s∧dN s≤16:=by
 cases s with
 |nil=>simp[dN]at h
 |cons c r=>
  refine⟨c,r,rfl,?_⟩
  unfold dN at h⊢
  by_cases q:bF c=true
  ·simp only[q,if_true]at h⊢
   by_cases q2:iX (fun c=>bF c||aW c) (c::r)≤16
   ·simp only[q2,if_true,true_and]at h⊢
   ·simp[q2]at h
  ·simp[q]at h
theorem Ax(s:aR):dN s≤s.length:=by
 rcases Nat.eq_zero_or_pos (dN s)with h|h
 ·omega
 ·obtain⟨c,r,_,_,h2,_⟩:=sK h
  rw[h2];exact Cz _ _
theorem Dp{s:aR}(h:0<dN s):dN (s.take (dN s))=dN s:=by
 obtain⟨c,r,rfl,h1,h2,h3⟩:=sK h
 obtain⟨m,hm⟩:∃m,dN (c::r)=m+1:=⟨dN (c::r)- 1,by omega⟩
 have e:=uS (fun c=>bF c||aW c) (c::r) (dN (c::r))
 rw[hm]at e⊢
 rw[List.take_succ_cons]at e⊢
 unfold dN
 simp only[h1,if_true]
 rw[e,←h2,hm,Nat.min_self,if_pos (by omega)]
theorem uT(s:aR):bB s≤s.length:=by
 unfold bB
 cases s with
 |nil=>simp
 |cons c r=>
  simp only
  split
  ·exact Ax _
  ·split
   ·split
    ·have:=Ax r;simp only[List.length_cons];omega
    ·simp
   ·split
    ·split
     ·exact Cz _ _
     ·simp
    ·split
     ·rename_i h
      have:(List.take 2 (c::r)).length=2:=by rcases h with h|h<;>rw[h]<;>rfl
      rw[List.length_take]at this
      omega
     ·split<;>simp
theorem KY{s:aR}(h:0<bB s):Bf (s.take (bB s)):=by
 have hl:=uT s
 have hlen:(s.take (bB s)).length=bB s:=by rw[List.length_take];omega
 refine⟨fun e=>by rw[e]at hlen;simp at hlen;omega,?_⟩
 rw[hlen]
 cases s with
 |nil=>simp[bB]at h
 |cons c r=>
  obtain⟨m,hm⟩:∃m,bB (c::r)=m+1:=⟨bB (c::r)- 1,by omega⟩
  rw[hm,List.take_succ_cons]
  have hm':=hm
  unfold bB at hm'⊢
  simp only at hm'⊢
  by_cases q1:bF c=true
  ·rw[if_pos q1]at hm'⊢
   have:=Dp (s:=c::r) (by omega)
   rw[hm',List.take_succ_cons]at this
   exact this
  ·rw[if_neg q1]at hm'⊢
   by_cases q2:c=36
   ·rw[if_pos q2]at hm'⊢
    by_cases q3:0<dN r
    ·rw[if_pos q3]at hm'
     have:=Dp q3
     have e:m=dN r:=by omega
     rw[e,this,if_pos q3]
    ·rw[if_neg q3]at hm';omega
   ·rw[if_neg q2]at hm'⊢
    by_cases q3:aW c=true
    ·rw[if_pos q3]at hm'⊢
     have e:=uS aW (c::r) (m+1)
     rw[List.take_succ_cons]at e
     by_cases q4:iX aW (c::r)≤3
     ·rw[if_pos q4]at hm'
      rw[e,hm',Nat.min_self,if_pos (by omega)]
     ·rw[if_neg q4]at hm';omega
    ·rw[if_neg q3]at hm'⊢
     by_cases q4:List.take 2 (c::r)=[60,61]∨List.take 2 (c::r)=[61,61]
     ·rw[if_pos q4]at hm'
      have e:m=1:=by omega
      have e2:List.take 2 (c::List.take m r)=List.take 2 (c::r):=by rw[e];cases r<;>simp
      rw[e2,if_pos q4,e]
     ·rw[if_neg q4]at hm'
      by_cases q5:c∈rP
      ·rw[if_pos q5]at hm'
       have e:m=0:=by omega
       subst e
       rw[if_neg (by simp),if_pos q5]
      ·rw[if_neg q5]at hm';omega
def bH(l:List Tk):Prop:=∀t∈l,Bf t.text
theorem sY:∀(f:Nat) (s:aR) (i:Int),bH (iQ f s i).1
 |0,_,_=>fun t h=>by cases h
 |f+1,s,i=>by
  unfold iQ
  split
  ·exact fun t h=>by cases h
  ·split
   ·exact sY f _ _
   ·split
    ·exact fun t h=>by cases h
    ·rename_i q
     intro t h
     rcases List.mem_cons.1 h with h|h
     ·rw[h];exact KY (by omega)
     ·exact sY f _ _ t h
theorem Na{s:aR}(h:Bf s)(hn:kQ s=true):cR s true=true:=by
 obtain⟨h1,h2⟩:=h
 cases s with
 |nil=>exact absurd rfl h1
 |cons c r=>
  have hl:bF c=true:=by simp only[kQ,Bool.and_eq_true]at hn;exact hn.1
  unfold bB at h2
  simp only[hl,if_true]at h2
  unfold cR
  rw[h2,hn]
  simp
theorem KZ{r:aR}(h:Bf (36::r)):cR r false=true:=by
 obtain⟨_,h2⟩:=h
 unfold bB at h2
 simp only[show bF 36=false by decide,Bool.false_eq_true,if_false,if_true]at h2
 split at h2
 ·rename_i q
  have e:dN r=r.length:=by simpa using h2
  unfold cR
  rw[e]
  have:r≠[]:=fun e=>by rw[e]at q;simp[dN]at q
  simp[this]
 ·simp at h2
theorem GY{s:aR}{b:Bool}(h:cR s b=true):∀c∈s,bF c=true∨aW c=true:=by
 unfold cR at h
 simp only[Bool.and_eq_true,decide_eq_true_eq]at h
 obtain⟨⟨h1,h2⟩,_⟩:=h
 have hp:0<dN s:=by rw[h2];exact List.length_pos_iff.2 h1
 obtain⟨c,r,_,_,h3,_⟩:=sK hp
 intro d hd
 obtain⟨i,hi,rfl⟩:=List.mem_iff_getElem.1 hd
 have:=xN (p:=fun c=>bF c||aW c) hi (by rw[←h3,h2];exact hi)
 simpa using this
theorem EJ{c:UInt8}:∀{a:aR} (b:aR),c∉a→lS c (a++c::b)=some (a,b)
 |[],b,_=>by simp[lS]
 |d::a,b,h=>by
  have h1:d≠c:=fun e=>h (by rw[e];exact List.mem_cons_self ..)
  rw[List.cons_append,lS,if_neg h1,EJ b fun q=>h (List.mem_cons_of_mem _ q)]
  rfl
theorem GZ{a b:aR}(ha:cR a true=true)(hb:cR b true=true):xP (a++46::b)=true:=by
 unfold xP
 rw[EJ b fun h=>by rcases GY ha _ h with q|q<;>exact absurd q (by decide)]
 simp[ha,hb]
def Rt(n:Nat)(cls:Int→Bool)(x:PS→Nd×PS):Prop:=∀p,p.l.length<n→bH p.l→(x p).2.l.length≤p.l.length∧bH (x p).2.l∧((x p).2.e=0→aI (x p).1=true∧cls (x p).1.kind=true)
theorem oO{p:PS}{e:Int}:(p.fail e).l=p.l:=by unfold PS.fail;split<;>rfl
theorem yR{p:PS}{e:Int}(h:bH p.l):bH (p.fail e).l:=by rw[oO];exact h
theorem eG{p:PS}(h:bH p.l):bH p.skip.l:=fun t ht=>h t (List.mem_of_mem_tail ht)
theorem fG{p:PS}:p.skip.l.length≤p.l.length:=by simp[PS.skip]
theorem sZ{p:PS}(h:p.peek≠[]):p.skip.l.length+1=p.l.length:=by
 unfold PS.peek at h
 split at h
 ·exact absurd rfl h
 ·unfold PS.skip
  cases e:p.l with
  |nil=>rw[e]at h;exact absurd rfl h
  |cons t r=>rfl
theorem iM{p:PS}{s:aR}(h:p.is s=true):p.skip.l.length+1=p.l.length:=by
 unfold PS.is at h
 simp only[Bool.and_eq_true,decide_eq_true_eq]at h
 exact sZ (by rw[h.2];exact h.1)
theorem cJ{p:PS}{s:aR}(h:bH p.l):(p.need s).l.length≤p.l.length∧bH (p.need s).l:=by
 unfold PS.need
 split
 ·exact⟨fG,eG h⟩
 ·exact⟨by rw[oO];exact Nat.le_refl _,yR h⟩
theorem uU{p:PS}(h:bH p.l)(hp:p.peek≠[]):Bf p.peek:=by
 unfold PS.peek at hp⊢
 split
 ·rename_i q;rw[if_pos q]at hp;exact absurd rfl hp
 ·rename_i q
  rw[if_neg q]at hp
  cases e:p.l with
  |nil=>rw[e]at hp;exact absurd rfl hp
  |cons t r=>exact h t (by rw[e];exact List.mem_cons_self ..)
theorem eI{p:PS}(h:bH p.l):(aD p).2.l.length≤p.l.length∧bH (aD p).2.l∧((aD p).2.e=0→cR (aD p).1 true=true):=by
 unfold aD
 split
 ·rename_i q
  refine⟨fG,eG h,fun _=>Na (uU h fun e=>?_) q⟩
  rw[e]at q;cases q
 ·exact⟨by rw[oO];exact Nat.le_refl _,yR h,fun he=>absurd he (pM (by decide))⟩
theorem gX{p:PS}(h:bH p.l):(aM p).2.l.length≤p.l.length∧bH (aM p).2.l∧((aM p).2.e=0→cR (aM p).1 false=true):=by
 unfold aM
 split
 ·rename_i r q
  refine⟨fG,eG h,fun _=>KZ ?_⟩
  rw[←q]
  exact uU h (by rw[q];simp)
 ·exact⟨by rw[oO];exact Nat.le_refl _,yR h,fun he=>absurd he (pM (by decide))⟩
theorem kS{k:Int}{p:PS}(h:bH p.l):(aG k p).2.l.length≤p.l.length∧bH (aG k p).2.l∧((aG k p).2.e=0→fF k≤(aG k p).1∧(aG k p).1≤fH k):=by
 have bad:∀e:Int,e≠0→(p.fail e).l.length≤p.l.length∧bH (p.fail e).l∧((p.fail e).e=0→fF k≤0∧0≤fH k):=fun e q=>⟨by rw[oO];exact Nat.le_refl _,yR h,fun he=>absurd he (pM q)⟩
 unfold aG
 split
 ·exact bad 2 (by decide)
 ·split
  ·split
   ·exact bad 5 (by decide)
   ·rename_i q
    exact⟨fG,eG h,fun _=>⟨by simp only;omega,by simp only;omega⟩⟩
  ·exact bad 2 (by decide)
theorem Ay{p:PS}(h:bH p.l):(aZ p).2.l.length≤p.l.length∧bH (aZ p).2.l∧((aZ p).2.e=0→ -999≤(aZ p).1∧(aZ p).1≤999):=by
 have hlo:fF 0= -999:=rfl
 have hhi:fH 0=999:=rfl
 unfold aZ
 split
 ·obtain⟨h0,h1,h2⟩:=kS (k:=0) (eG h)
  exact⟨Nat.le_trans h0 fG,h1,fun he=>by have:=h2 he;simp only;omega⟩
 ·obtain⟨h0,h1,h2⟩:=kS (k:=0) h
  exact⟨h0,h1,fun he=>by have:=h2 he;omega⟩
theorem pS(n:Nat):Rt n nW aV:=fun p _ h=>by
 obtain⟨h0,h1,h2⟩:=eI h
 unfold aV
 split
 ·obtain⟨g0,h3,h4⟩:=eI (eG h1)
  refine⟨Nat.le_trans g0 (Nat.le_trans fG h0),h3,fun he=>⟨?_,rfl⟩⟩
  have ha:=h2 (qZ (aD p).2.skip he)
  simp[aI,qF,fR,cT,cS,kI,lE,fF,fH,mP,kH,GZ ha (h4 he)]
 ·refine⟨h0,h1,fun he=>⟨?_,rfl⟩⟩
  simp[aI,qF,fR,cT,cS,kI,lE,fF,fH,mP,kH,h2 he]
theorem yS(lv:Int)(s:aR): -1≤qH lv s∧qH lv s≤5:=by
 unfold qH
 split
 ·rename_i i q
  have:=List.mem_range.1 (List.mem_of_find?_eq_some q)
  omega
 ·omega
theorem yT{lv:Int}{p:PS}(h:bH p.l):(opP lv p).2.l.length≤p.l.length∧bH (opP lv p).2.l:=by
 unfold opP
 simp only
 split
 ·exact⟨fG,eG h⟩
 ·exact⟨Nat.le_refl _,h⟩
theorem Bg{k:Int}{n m:Nd}(h0:26≤k)(h1:k≤31)(hn:aI n=true∧aH n.kind=true)(hm:aI m=true∧aH m.kind=true):aI (.mk k [] 0 [n,m])=true∧aH (Nd.mk k [] 0 [n,m]).kind=true:=by
 have hk:k=26∨k=27∨k=28∨k=29∨k=30∨k=31:=by omega
 rcases hk with rfl|rfl|rfl|rfl|rfl|rfl<;>exact⟨by simp[aI,qF,fR,cT,cS,kI,lE,fF,fH,mP,kH,hn.1,hm.1,hn.2,hm.2],rfl⟩
theorem EK{m:Nat}{lv:Int}{x:PS→Nd×PS}(hx:Rt m aH x):∀(f:Nat) (n:Nd) (p:PS),p.l.length<m→bH p.l→(p.e=0→aI n=true∧aH n.kind=true)→
 (chainF lv x f n p).2.l.length≤p.l.length∧bH (chainF lv x f n p).2.l∧((chainF lv x f n p).2.e=0→aI (chainF lv x f n p).1=true∧aH (chainF lv x f n p).1.kind=true)
 |0,_,_,_,h,hn=>⟨Nat.le_refl _,h,hn⟩
 |f+1,n,p,hl,h,hn=>by
  unfold chainF
  split
  ·exact⟨Nat.le_refl _,h,hn⟩
  ·rename_i q
   have hp:p.e=0:=by simpa using q
   obtain⟨g0,g1⟩:=yT (lv:=lv) h
   split
   ·exact⟨g0,g1,fun _=>hn hp⟩
   ·rename_i q2
    have hr:=yS lv p.peek
    have hr2:0≤(opP lv p).1∧(opP lv p).1≤5:=⟨by omega,hr.2⟩
    obtain⟨h0,h1,h2⟩:=hx _ (by omega) g1
    obtain⟨k0,k1,k2⟩:=EK hx f (.mk (26+(opP lv p).1) [] 0 [n,(x (opP lv p).2).1]) _ (by omega) h1 fun he=>Bg (by omega) (by omega) (hn hp) (h2 he)
    exact⟨by omega,k1,k2⟩
theorem Bh{m:Nat}{lv:Int}{x:PS→Nd×PS}(hx:Rt m aH x):Rt m aH (fK lv x):=fun p hl h=>by
 obtain⟨h0,h1,h2⟩:=hx p hl h
 obtain⟨k0,k1,k2⟩:=EK (lv:=lv) hx ((x p).2.l.length+1) _ _ (by omega) h1 h2
 exact⟨by unfold fK;omega,k1,k2⟩
theorem tA{k:Int}(h:nW k=true):aH k=true:=by
 unfold nW at h
 simp only[Bool.or_eq_true,decide_eq_true_eq]at h
 rcases h with rfl|rfl<;>rfl
theorem Dq{m:Nat}{ex:PS→Nd×PS}(hx:Rt m aH ex):Rt (m+1) aH (fM ex):=fun p hl h=>by
 have hpl:=pS (m+1) p hl h
 have hpl2:(aV p).2.l.length≤p.l.length∧bH (aV p).2.l∧((aV p).2.e=0→aI (aV p).1=true∧aH (aV p).1.kind=true):=⟨hpl.1,hpl.2.1,fun he=>⟨(hpl.2.2 he).1,tA (hpl.2.2 he).2⟩⟩
 unfold fM
 split
 ·rename_i q
  have hk:=iM q
  obtain⟨h0,h1,h2⟩:=hx p.skip (by omega) (eG h)
  obtain⟨g0,g1⟩:=cJ (s:=[41]) h1
  exact⟨by simp only;omega,g1,fun he=>h2 (jB he).2⟩
 ·split
  ·exact⟨fG,eG h,fun _=>⟨by show aI (Nd.mk 36 [] 0 [])=true;decide,rfl⟩⟩
  ·split
   ·split
    ·obtain⟨h0,h1,h2⟩:=kS (k:=32) h
     refine⟨h0,h1,fun he=>⟨?_,rfl⟩⟩
     have:=h2 he
     have hlo:fF 32=0:=rfl
     have hhi:fH 32=999:=rfl
     rw[hlo,hhi]at this
     simp[aI,qF,fR,cT,cS,kI,lE,hlo,hhi,kH,this]
    ·split
     ·obtain⟨h0,h1,h2⟩:=gX h
      refine⟨h0,h1,fun he=>⟨?_,rfl⟩⟩
      simp[aI,qF,fR,cT,cS,kI,lE,fF,fH,mP,kH,h2 he]
     ·exact hpl2
   ·exact hpl2
theorem FR{m:Nat}{ex:PS→Nd×PS}(hx:Rt m aH ex):Rt (m+1) aH (dF ex):=Bh (Bh (Dq hx))
theorem Nb{m:Nat}{ex:PS→Nd×PS}(hs:vM ex)(hx:Rt m aH ex):Rt (m+1) aH (exprB ex):=fun p hl h=>by
 obtain⟨h0,h1,h2⟩:=FR hx p hl h
 obtain⟨g0,g1⟩:=yT (lv:=1) h1
 unfold exprB
 simp only
 split
 ·rename_i q
  have hr:=yS 1 (dF ex p).2.peek
  have hr2:(opP 1 (dF ex p).2).1≤5:=hr.2
  obtain⟨k0,h3,h4⟩:=FR hx _ (by omega) g1
  exact⟨by simp only;omega,h3,fun he=>Bg (by omega) (by omega) (h2 (yP 1 _ (xQ hs _ he))) (h4 he)⟩
 ·exact⟨by simp only;omega,g1,fun he=>h2 (yP 1 _ he)⟩
theorem Az:∀f,Rt f aH (fS false f)
 |0=>fun p h=>by omega
 |f+1=>fun p hl h=>by
  unfold fS
  rw[if_neg (by simp)]
  exact Nb (yQ false f) (Az f) p hl h
theorem AA(n:Nat):Rt n aH fun q=>fS false (q.l.length+1) q:=fun p _ h=>Az (p.l.length+1) p (by omega) h
theorem EL{m:Nat}{st:PS→Nd×PS}(hs:vM st)(hx:Rt m cM st):∀(f:Nat) (ks:List Nd) (p:PS),p.l.length<m→bH p.l→(p.e=0→∀x∈ks,aI x=true∧cM x.kind=true)→
 (stmtsF st f ks p).2.l.length≤p.l.length∧bH (stmtsF st f ks p).2.l∧((stmtsF st f ks p).2.e=0→∀x∈(stmtsF st f ks p).1,aI x=true∧cM x.kind=true)
 |0,_,_,_,h,hn=>⟨Nat.le_refl _,h,hn⟩
 |f+1,ks,p,hl,h,hn=>by
  unfold stmtsF
  split
  ·exact⟨Nat.le_refl _,h,hn⟩
  ·obtain⟨h0,h1,h2⟩:=hx p hl h
   obtain⟨k0,k1,k2⟩:=EL hs hx f (ks++[(st p).1]) _ (by omega) h1 fun he x hx=>by
    rcases List.mem_append.1 hx with hx|hx
    ·exact hn (hs p he) x hx
    ·rw[List.mem_singleton.1 hx];exact h2 he
   exact⟨by omega,k1,k2⟩
theorem xR{ks:List Nd}(h:∀x∈ks,aI x=true∧cM x.kind=true):aI (.mk 8 [] 0 ks)=true:=
 right_mk.2 ⟨by decide,by decide,List.all_eq_true.2 fun x hx=>(h x hx).2,by decide,by decide,rfl,fun x hx=>(h x hx).1⟩
theorem uV{m:Nat}{st:PS→Nd×PS}(hs:vM st)(hx:Rt m cM st):Rt m cF (fZ st):=fun p hl h=>by
 obtain⟨g0,g1⟩:=cJ (s:=[123]) h
 obtain⟨k0,k1,k2⟩:=EL hs hx ((p.need [123]).l.length+1) [] (p.need [123]) (by omega) g1 (fun _ x h=>by cases h)
 obtain⟨q0,q1⟩:=cJ (s:=[125]) k1
 unfold fZ
 exact⟨by simp only;omega,q1,fun he=>⟨xR (k2 (jB he).2),rfl⟩⟩
theorem zQ{s:aR}(h:12<cV s):13≤cV s∧cV s≤25:=by
 unfold cV JM at h⊢
 split
 ·rename_i q;rw[if_pos q]at h;omega
 ·rename_i q
  rw[if_neg q]at h
  split
  ·rename_i i e
   rw[e]at h
   have:=List.mem_range.1 (List.mem_of_find?_eq_some e)
   simp only at h
   omega
  ·rename_i e;rw[e]at h;simp only at h;omega
theorem JO{m:Nat}{ex:PS→Nd×PS}(hs:vM ex)(hx:Rt m aH ex){k:Int}(hk:13≤k∧k≤25):Rt m cM (mX ex k):=fun p hl h=>by
 have ha:(if k=19∨k=20 then aM p else if k=21∨k=25∨k=24 then([],p)else aD p).2.l.length≤p.l.length∧bH (if k=19∨k=20 then aM p else if k=21∨k=25∨k=24 then([],p)else aD p).2.l∧
  ((if k=19∨k=20 then aM p else if k=21∨k=25∨k=24 then([],p)else aD p).2.e=0→kH k (if k=19∨k=20 then aM p else if k=21∨k=25∨k=24 then([],p)else aD p).1=true):=by
  split
  ·rename_i q
   obtain⟨h0,h1,h2⟩:=gX h
   exact⟨h0,h1,fun he=>by rcases q with rfl|rfl<;>simp[kH,h2 he]⟩
  ·split
   ·rename_i q
    exact⟨Nat.le_refl _,h,fun _=>by rcases q with rfl|rfl|rfl<;>rfl⟩
   ·rename_i q1 q2
    obtain⟨h0,h1,h2⟩:=eI h
    exact⟨h0,h1,fun he=>by unfold kH;rw[if_neg (by omega),if_neg (by omega),if_neg (by omega)];exact h2 he⟩
 unfold mX
 generalize(if k=19∨k=20 then aM p else if k=21∨k=25∨k=24 then([],p)else aD p)=a at ha
 obtain⟨a0,a1,a2⟩:=ha
 simp only
 have lo:∀{n:Int},(k=19∨k=21∨k=25→fF k≤n∧n≤fH k)→(¬(k=19∨k=21∨k=25)→n=0)→fF k≤n∧n≤fH k:=fun{n} h1 h2=>by
  by_cases q:k=19∨k=21∨k=25
  ·exact h1 q
  ·rw[h2 q]
   have:k=13∨k=14∨k=15∨k=16∨k=17∨k=18∨k=20∨k=22∨k=23∨k=24:=by omega
   rcases this with rfl|rfl|rfl|rfl|rfl|rfl|rfl|rfl|rfl|rfl<;>decide
 have mk:∀{t:aR} {n:Int} {ks:List Nd},kH k t=true→fF k≤n∧n≤fH k→cT k ks=true→(∀x∈ks,aI x=true)→aI (.mk k t n ks)=true∧cM (Nd.mk k t n ks).kind=true:=fun{t n ks} h1 h2 h3 h4=>by
  exact⟨right_mk.2 ⟨by omega,by omega,h3,h2.1,h2.2,h1,h4⟩,show cM k=true from tY.2 (by omega)⟩
 split
 ·rename_i q
  obtain⟨h0,h1,h2⟩:=hx a.2 (by omega) a1
  refine⟨by simp only;omega,h1,fun he=>mk (a2 (hs _ he)) (lo (by omega) fun _=>rfl) ?_ fun x hx=>by rw[List.mem_singleton.1 hx];exact(h2 he).1⟩
  rcases q with rfl|rfl|rfl<;>simp[cT,cS,(h2 he).2]
 ·split
  ·rename_i q
   obtain⟨h0,h1,h2⟩:=gX a1
   refine⟨by simp only;omega,h1,fun he=>mk (a2 (sW _ he)) (lo (by omega) fun _=>rfl) ?_ fun x hx=>?_⟩
   ·rcases q with rfl|rfl<;>simp[cT,cS,oV]
   ·rw[List.mem_singleton.1 hx]
    simp[aI,qF,fR,cT,cS,kI,lE,fF,fH,mP,kH,h2 he]
  ·split
   ·rename_i q
    obtain⟨h0,h1,h2⟩:=kS (k:=k) a1
    refine⟨by simp only;omega,h1,fun he=>mk (a2 (qK _ _ he)) (h2 he) ?_ fun x hx=>by cases hx⟩
    rcases q with rfl|rfl|rfl<;>rfl
   ·rename_i q1 q2 q3
    refine⟨a0,a1,fun he=>mk (a2 he) (lo (fun q=>absurd q q3) fun _=>rfl) ?_ fun x hx=>by cases hx⟩
    have:k=13∨k=14∨k=17∨k=18∨k=20:=by omega
    rcases this with rfl|rfl|rfl|rfl|rfl<;>rfl
theorem Nc{m:Nat}{ex bl:PS→Nd×PS}(hs:vM ex)(ht:vM bl)(hx:Rt (m+1) aH ex)(hb:Rt m cF bl):Rt (m+1) cM (iR ex bl):=fun p hl h=>by
 unfold iR
 simp only
 split
 ·rename_i q
  have hk:p.skip.l.length+1=p.l.length:=sZ fun e=>by rw[e]at q;simp[cV]at q
  obtain⟨a0,a1,a2⟩:=hx p.skip (by omega) (eG h)
  obtain⟨b0,b1,b2⟩:=hb (ex p.skip).2 (by omega) a1
  split
  ·rename_i q2
   have hk2:=iM q2.2
   obtain⟨c0,c1,c2⟩:=hb (bl (ex p.skip).2).2.skip (by omega) (eG b1)
   refine⟨by simp only;omega,c1,fun he=>?_⟩
   have e2:=ht _ he
   have e1:=ht (ex p.skip).2 e2
   rw[q2.1]
   exact⟨by simp[aI,qF,fR,cT,cS,kI,lE,fF,fH,mP,kH,(a2 e1).1,(a2 e1).2,(b2 e2).1,(b2 e2).2,(c2 he).1,(c2 he).2],rfl⟩
  ·refine⟨by simp only;omega,b1,fun he=>?_⟩
   have e1:=ht _ he
   rcases q with q|q<;>rw[q]<;>exact⟨by simp[aI,qF,fR,cT,cS,kI,lE,fF,fH,mP,kH,(a2 e1).1,(a2 e1).2,(b2 he).1,(b2 he).2],rfl⟩
 ·split
  ·rename_i q
   obtain⟨a0,a1,a2⟩:=JO hs hx (zQ q) p.skip (by have:=fG (p:=p);omega) (eG h)
   obtain⟨b0,b1⟩:=cJ (s:=[59]) a1
   have:=fG (p:=p)
   exact⟨by simp only;omega,b1,fun he=>a2 (jB he).2⟩
  ·split
   ·obtain⟨a0,a1,a2⟩:=gX h
    obtain⟨b0,b1⟩:=cJ (s:=[61]) a1
    obtain⟨c0,c1,c2⟩:=hx ((aM p).2.need [61]) (by omega) b1
    obtain⟨d0,d1⟩:=cJ (s:=[59]) c1
    refine⟨by simp only;omega,d1,fun he=>?_⟩
    have e2:=(jB he).2
    have e1:=(jB (hs _ e2)).2
    exact⟨by simp[aI,qF,fR,cT,cS,kI,lE,fF,fH,mP,kH,a2 e1,(c2 e2).1,(c2 e2).2],rfl⟩
   ·obtain⟨a0,a1,a2⟩:=pS (m+1) p hl h
    obtain⟨b0,b1⟩:=cJ (s:=[61]) a1
    obtain⟨c0,c1,c2⟩:=hx ((aV p).2.need [61]) (by omega) b1
    obtain⟨d0,d1⟩:=cJ (s:=[59]) c1
    refine⟨by simp only;omega,d1,fun he=>?_⟩
    have e2:=(jB he).2
    have e1:=(jB (hs _ e2)).2
    exact⟨by simp[aI,qF,fR,cT,cS,kI,lE,fF,fH,mP,kH,(a2 e1).1,(a2 e1).2,(c2 e2).1,(c2 e2).2],rfl⟩
theorem uW:∀f,Rt f cM (kY false f)
 |0=>fun p h=>by omega
 |f+1=>fun p hl h=>Nc (sJ false) (sX (mG false f)) (AA (f+1)) (uV (mG false f) (uW f)) p hl h
end Go.Eng
namespace Go.Eng
def Dr(s:aR):Bool:=match s with|[]=>true|c::_=> !bF c&& !aW c&&decide (c≠61)
theorem Dt{p:UInt8→Bool}:∀{t:aR} (s:aR),(∀c∈t,p c=true)→iX p (t++s)=t.length+iX p s
 |[],s,_=>by simp
 |c::t,s,h=>by
  rw[List.cons_append,iX,if_pos (h c (List.mem_cons_self ..)),Dt s fun d hd=>h d (List.mem_cons_of_mem _ hd),List.length_cons]
  omega
theorem EM{p:UInt8→Bool}{t:aR}(h:iX p t=t.length):∀c∈t,p c=true:=fun c hc=>by
 obtain⟨i,hi,rfl⟩:=List.mem_iff_getElem.1 hc
 exact xN hi (by omega)
theorem Ha{p:UInt8→Bool}(hp:∀c,p c=true→bF c=true∨aW c=true){s:aR}(hs:Dr s=true):iX p s=0:=by
 cases s with
 |nil=>rfl
 |cons c r=>
  simp only[Dr,Bool.and_eq_true,Bool.not_eq_true']at hs
  rw[iX,if_neg]
  intro h
  rcases hp c h with q|q
  ·rw[q]at hs;simp at hs
  ·rw[q]at hs;simp at hs
theorem EN{t s:aR}(h:dN t=t.length)(h0:0<dN t)(hs:Dr s=true):dN (t++s)=t.length:=by
 obtain⟨c,r,rfl,h1,h2,h3⟩:=sK h0
 have hall:=EM (p:=fun c=>bF c||aW c) (by rw[←h2];exact h)
 have hr:iX (fun c=>bF c||aW c) (c::r++s)=(c::r).length:=by
  rw[Dt s hall,Ha (fun c hc=>by simpa using hc) hs,Nat.add_zero]
 rw[List.cons_append]at hr⊢
 unfold dN
 simp only[h1,if_true]
 rw[hr,if_pos (by omega)]
theorem La{t s:aR}(ht:Bf t)(hs:Dr s=true):bB (t++s)=t.length:=by
 obtain⟨h0,h1⟩:=ht
 cases t with
 |nil=>exact absurd rfl h0
 |cons c r=>
  have h1':=h1
  rw[List.cons_append]
  unfold bB at h1⊢
  simp only at h1⊢
  by_cases q1:bF c=true
  ·rw[if_pos q1]at h1⊢
   exact EN (t:=c::r) h1 (by rw[h1];simp) hs
  ·rw[if_neg q1]at h1⊢
   by_cases q2:c=36
   ·rw[if_pos q2]at h1⊢
    by_cases q3:0<dN r
    ·rw[if_pos q3]at h1
     have e:dN r=r.length:=by simpa using h1
     rw[EN e q3 hs,if_pos (by omega)]
     simp
    ·rw[if_neg q3]at h1;simp at h1
   ·rw[if_neg q2]at h1⊢
    by_cases q3:aW c=true
    ·rw[if_pos q3]at h1⊢
     by_cases q4:iX aW (c::r)≤3
     ·rw[if_pos q4]at h1
      have e:iX aW (c::(r++s))=(c::r).length:=by
       rw[←List.cons_append,Dt s (EM h1),Ha (fun c hc=>.inr hc) hs,Nat.add_zero]
      rw[e,if_pos (by omega)]
     ·rw[if_neg q4]at h1;simp at h1
    ·rw[if_neg q3]at h1⊢
     by_cases q4:List.take 2 (c::r)=[60,61]∨List.take 2 (c::r)=[61,61]
     ·rw[if_pos q4]at h1
      have hl:r.length=1:=by simpa using h1.symm
      have e:List.take 2 (c::(r++s))=List.take 2 (c::r):=by
       cases r with
       |nil=>simp at hl
       |cons d u=>simp
      rw[e,if_pos q4]
      exact h1
     ·rw[if_neg q4]at h1
      by_cases q5:c∈rP
      ·rw[if_pos q5]at h1
       have hr:r=[]:=by simpa using h1.symm
       subst hr
       rw[if_neg,if_pos q5]
       ·rfl
       ·cases s with
        |nil=>simp
        |cons d u=>
         simp only[Dr,Bool.and_eq_true,decide_eq_true_eq]at hs
         simp[hs.2]
      ·rw[if_neg q5]at h1;simp at h1
theorem IN{c:UInt8}(h:c=40∨c=41∨c=123∨c=125∨c=59∨c=46∨c=45)(s:aR):bB (c::s)=1:=by
 unfold bB
 rcases h with rfl|rfl|rfl|rfl|rfl|rfl|rfl<;>cases s<;>simp[bF,aW,rP]
inductive EO:aR→List aR→Prop
 |nil:EO [] []
 |blank {c:UInt8} {s:aR} {ts:List aR} (hc:c=32∨c=10) (h:EO s ts):EO (c::s) ts
 |tok {t s:aR} {ts:List aR} (h0:t≠[]) (h1:bB (t++s)=t.length) (h:EO s ts):EO (t++s) (t::ts)
theorem EO.sp{s:aR}{ts:List aR}(h:EO s ts):EO (32::s) ts:=.blank (.inl rfl) h
theorem tC{t s:aR}{ts:List aR}(ht:Bf t)(hs:Dr s=true)(h:EO s ts):EO (t++s) (t::ts):=.tok ht.1 (La ht hs) h
theorem Du{c:UInt8}{s:aR}{ts:List aR}(hc:c=40∨c=41∨c=123∨c=125∨c=59∨c=46∨c=45)(h:EO s ts):EO (c::s) ([c]::ts):=.tok (t:=[c]) (by simp) (IN hc s) h
def Nf(t:aR):List aR:=match lS 46 t with
 |some (a,b)=>[a,[46],b]
 |none=>[t]
def Lb(c:Bool)(ks:List aR):List aR:=if c then [40]::(ks++[[41]])else ks
def uA:Nd→List aR
 | .mk k t n ks=>if k=32 then [iJ n]else if k=33 then [36::t]else if k=36 then [qD]else if k=34 then [t]else if k=35 then Nf t else match ks with
  |[a,b]=>Lb (decide (lvlN a.kind<(if cG k=1 then 2 else cG k))) (uA a)++qE k::Lb (decide (lvlN b.kind<cG k+1)) (uA b)
  |_=>[]
set_option maxRecDepth 100000 in
theorem Pl:∀n:Nat,n<1000→xO n≠[]∧bB (xO n)=(xO n).length:=by decide
theorem Ng{n:Int}(h0:0≤n)(h1:n≤999):Bf (iJ n):=by
 unfold iJ
 rw[if_neg (by omega)]
 exact Pl _ (by omega)
theorem vX{t:aR}(h:cR t true=true):Bf t∧kQ t=true:=by
 unfold cR at h
 simp only[Bool.and_eq_true,decide_eq_true_eq,Bool.not_true,Bool.false_or]at h
 obtain⟨⟨h1,h2⟩,h3⟩:=h
 refine⟨⟨h1,?_⟩,h3⟩
 cases t with
 |nil=>exact absurd rfl h1
 |cons c r=>
  simp only[kQ,Bool.and_eq_true]at h3
  unfold bB
  simp only[h3.1,if_true]
  exact h2
theorem Hb{t:aR}(h:cR t false=true):Bf (36::t):=by
 unfold cR at h
 simp only[Bool.and_eq_true,decide_eq_true_eq,Bool.not_false,Bool.true_or,and_true]at h
 obtain⟨h1,h2⟩:=h
 refine⟨by simp,?_⟩
 have:0<dN t:=by rw[h2];exact List.length_pos_iff.2 h1
 unfold bB
 simp only[show bF 36=false by decide,Bool.false_eq_true,if_false,if_true,this,h2,List.length_cons]
 rw[h2]at this
 simp[this]
theorem Dv{c:UInt8}:∀{t a b:aR},lS c t=some (a,b)→t=a++c::b
 |[],_,_,h=>by simp[lS]at h
 |d::r,a,b,h=>by
  unfold lS at h
  split at h
  ·rename_i e
   simp only[Option.some.injEq,Prod.mk.injEq]at h
   rw[←h.1,←h.2,e];rfl
  ·cases q:lS c r with
   |none=>rw[q]at h;cases h
   |some p=>
    obtain⟨a',b'⟩:=p
    rw[q]at h
    simp only[Option.map_some,Option.some.injEq,Prod.mk.injEq]at h
    rw[←h.1,←h.2,Dv q];rfl
theorem Hc{t:aR}(h:xP t=true):∃a b,lS 46 t=some (a,b)∧t=a++46::b∧cR a true=true∧cR b true=true:=by
 unfold xP at h
 split at h
 ·rename_i a b e
  simp only[Bool.and_eq_true]at h
  exact⟨a,b,e,Dv e,h.1,h.2⟩
 ·cases h
theorem tD{x:Nd}(hr:aI x=true)(he:aH x.kind=true):
 (x.kind=32∧0≤x.n∧x.n≤999∧x=.mk 32 [] x.n [])∨(x=.mk 33 x.text 0 []∧cR x.text false=true)∨x=.mk 36 [] 0 []∨(x=.mk 34 x.text 0 []∧cR x.text true=true)∨(x=.mk 35 x.text 0 []∧xP x.text=true)∨
  ∃k a b,26≤k∧k≤31∧x=.mk k [] 0 [a,b]∧aI a=true∧aH a.kind=true∧aI b=true∧aH b.kind=true:=by
 obtain⟨k,t,n,ks⟩:=x
 have he:26≤k∧k≤36:=BS.1 he
 obtain⟨_,_,hs,w1,w2,w3,hk⟩:=right_mk.1 hr
 have none:cT k ks=cS ks []→ks=[]:=fun e=>by
  rw[e]at hs
  cases ks with
  |nil=>rfl
  |cons _ _=>cases hs
 by_cases hb:k≤31
 ·right;right;right;right;right
  have hks:cS ks [aH,aH]=true:=by
   unfold cT at hs
   rw[if_neg (by omega),if_neg (by omega),if_neg (by omega),if_neg (by omega),if_neg (by omega),if_neg (by omega),if_neg (by omega),if_neg (by omega),if_pos (by omega)]at hs
   exact hs
  have hz:fF k=0∧fH k=0:=by
   have:k=26∨k=27∨k=28∨k=29∨k=30∨k=31:=by omega
   rcases this with rfl|rfl|rfl|rfl|rfl|rfl<;>exact⟨rfl,rfl⟩
  have ht:t=[]:=by
   unfold kH at w3
   rw[if_neg (by omega),if_neg (by omega),if_pos (by omega)]at w3
   simpa using w3
  match ks,hks,hk with
  |[a,b],hks,hk=>
   simp only[cS,Bool.and_true,Bool.and_eq_true]at hks
   exact⟨k,a,b,by omega,by omega,by rw[ht,show n=0 by omega],hk a (by simp),hks.1,hk b (by simp),hks.2⟩
  |[],hks,_=>cases hks
  |[_],hks,_=>simp[cS]at hks
  |_::_::_::_,hks,_=>simp[cS]at hks
 ·have:k=32∨k=33∨k=34∨k=35∨k=36:=by omega
  rcases this with rfl|rfl|rfl|rfl|rfl
  ·left
   have e:=none rfl
   have hz:fF 32=0∧fH 32=999:=⟨rfl,rfl⟩
   have ht:t=[]:=by simpa [kH]using w3
   subst e;subst ht
   exact⟨rfl,by simp only[yO];omega,by simp only[yO];omega,rfl⟩
  ·right;left
   have e:=none rfl
   have hz:fF 33=0∧fH 33=0:=⟨rfl,rfl⟩
   subst e
   exact⟨by rw[show n=0 by omega];rfl,by simpa [kH]using w3⟩
  ·right;right;right;left
   have e:=none rfl
   have hz:fF 34=0∧fH 34=0:=⟨rfl,rfl⟩
   subst e
   exact⟨by rw[show n=0 by omega];rfl,by simpa [kH]using w3⟩
  ·right;right;right;right;left
   have e:=none rfl
   have hz:fF 35=0∧fH 35=0:=⟨rfl,rfl⟩
   subst e
   exact⟨by rw[show n=0 by omega];rfl,by simpa [kH]using w3⟩
  ·right;right;left
   have e:=none rfl
   have hz:fF 36=0∧fH 36=0:=⟨rfl,rfl⟩
   have ht:t=[]:=by simpa [kH]using w3
   subst e;subst ht
   rw[show n=0 by omega]
theorem Nh{k:Int}(h0:26≤k)(h1:k≤31):Bf (qE k):=by
 have:k=26∨k=27∨k=28∨k=29∨k=30∨k=31:=by omega
 rcases this with rfl|rfl|rfl|rfl|rfl|rfl<;>exact⟨by decide,by decide⟩
theorem Bi{k:Int}{a b:Nd}(h0:26≤k)(h1:k≤31):exprT (.mk k [] 0 [a,b])=paren (decide (lvlN a.kind<(if cG k=1 then 2 else cG k))) (exprT a)++32::(qE k++32::paren (decide (lvlN b.kind<cG k+1)) (exprT b)):=by
 rw[exprT,if_neg (by omega),if_neg (by omega),if_neg (by omega),if_neg (by omega)]
theorem Lc{k:Int}{a b:Nd}(h0:26≤k)(h1:k≤31):uA (.mk k [] 0 [a,b])=Lb (decide (lvlN a.kind<(if cG k=1 then 2 else cG k))) (uA a)++qE k::Lb (decide (lvlN b.kind<cG k+1)) (uA b):=by
 rw[uA,if_neg (by omega),if_neg (by omega),if_neg (by omega),if_neg (by omega),if_neg (by omega)]
theorem EP{t:aR}{ks:List aR}(h:∀s ts,EO s ts→Dr s=true→EO (t++s) (ks++ts))(c:Bool){s:aR}{ts:List aR}(hl:EO s ts)(hs:Dr s=true):EO (paren c t++s) (Lb c ks++ts):=by
 cases c
 ·exact h s ts hl hs
 ·have h1:=Du (c:=41) (by decide) hl
  have h2:=h _ _ h1 rfl
  have h3:=Du (c:=40) (by decide) h2
  simpa [paren,Lb]using h3
theorem Ni(x:Nd):aI x=true→aH x.kind=true→∀s ts,EO s ts→Dr s=true→EO (exprT x++s) (uA x++ts):=by
 refine qX (p:=fun x=>aI x=true→aH x.kind=true→∀s ts,EO s ts→Dr s=true→EO (exprT x++s) (uA x++ts)) (fun k t n ks ih=>?_) x
 intro hr he s ts hl hs
 rcases tD hr he with⟨h1,h2,h3,h4⟩|⟨h1,h2⟩|h1|⟨h1,h2⟩|⟨h1,h2⟩|⟨k',a,b,h1,h2,h3,h4,h5,h6,h7⟩
 ·rw[h4]
  simp only[exprT,uA,if_true]
  exact tC (Ng h2 h3) hs hl
 ·rw[h1]
  simp only[exprT,uA,vV]at h2⊢
  simp only[show¬(33:Int)=32 by decide,if_false,if_true]
  exact tC (Hb h2) hs hl
 ·rw[h1]
  simp only[exprT,uA,show¬(36:Int)=32 by decide,show¬(36:Int)=33 by decide,if_false,if_true]
  exact tC (t:=qD) ⟨by decide,by decide⟩ hs hl
 ·rw[h1]
  simp only[exprT,uA,vV]at h2⊢
  simp only[show¬(34:Int)=32 by decide,show¬(34:Int)=33 by decide,show¬(34:Int)=36 by decide,if_false,if_true,true_or]
  exact tC (vX h2).1 hs hl
 ·rw[h1]
  simp only[exprT,uA,vV]at h2⊢
  simp only[show¬(35:Int)=32 by decide,show¬(35:Int)=33 by decide,show¬(35:Int)=36 by decide,show¬(35:Int)=34 by decide,if_false,if_true,or_true]
  obtain⟨a,b,e1,e2,e3,e4⟩:=Hc h2
  unfold Nf
  rw[e1]
  simp only
  rw[e2]
  have q1:=tC (vX e4).1 hs hl
  have q2:=Du (c:=46) (by decide) q1
  have q3:=tC (vX e3).1 rfl q2
  simpa using q3
 ·injection h3 with i1 i2 i3 i4
  subst i1;subst i2;subst i3;subst i4
  rw[Bi h1 h2,Lc h1 h2]
  have q1:=EP (ih b (by simp) h6 h7) (decide (lvlN b.kind<cG k+1)) hl hs
  have q2:=tC (Nh h1 h2) rfl q1.sp
  have q3:=EP (ih a (by simp) h4 h5) (decide (lvlN a.kind<(if cG k=1 then 2 else cG k))) q2.sp rfl
  simpa using q3
end Go.Eng
namespace Go.Eng
def IP(p:PS)(ts:List aR):Prop:=p.e=0∧p.l.map Tk.text=ts
theorem IP.peek{p:PS}{t:aR}{ts:List aR}(h:IP p (t::ts)):p.peek=t:=by
 obtain⟨h1,h2⟩:=h
 unfold PS.peek
 rw[if_neg (by simp[h1])]
 cases e:p.l with
 |nil=>rw[e]at h2;simp at h2
 |cons x r=>rw[e]at h2;simp at h2;exact h2.1
theorem IP.peek0{p:PS}(h:IP p []):p.peek=[]:=by
 obtain⟨h1,h2⟩:=h
 unfold PS.peek
 rw[if_neg (by simp[h1])]
 cases e:p.l with
 |nil=>rfl
 |cons x r=>rw[e]at h2;simp at h2
theorem IP.skip{p:PS}{t:aR}{ts:List aR}(h:IP p (t::ts)):IP p.skip ts:=by
 obtain⟨h1,h2⟩:=h
 refine⟨h1,?_⟩
 unfold PS.skip
 cases e:p.l with
 |nil=>rw[e]at h2;simp at h2
 |cons x r=>rw[e]at h2;simp at h2;exact h2.2
theorem IP.is{p:PS}{t:aR}{ts:List aR}(h:IP p (t::ts))(s:aR)(hs:s≠[]):p.is s=decide (t=s):=by
 unfold PS.is
 rw[h.peek]
 simp[hs]
theorem IP.need{p:PS}{t:aR}{ts:List aR}(h:IP p (t::ts))(ht:t≠[]):p.need t=p.skip:=by
 unfold PS.need
 rw[h.is t ht,if_pos (by simp)]
theorem IP.len{p:PS}{ts:List aR}(h:IP p ts):p.l.length=ts.length:=by rw[←h.2];simp
def IQ(f:PS→Nd×PS)(ks:List aR)(x:Nd)(rest:List aR):Prop:=∀p,IP p (ks++rest)→∃q,f p=(x,q)∧IP q rest
def QD(lv:Int)(rest:List aR):Prop:=qH lv (rest.head?.getD [])<0
theorem IP.opP{p:PS}{ts:List aR}{lv:Int}(h:IP p ts)(hn:QD lv ts):(opP lv p).1<0∧(Eng.opP lv p).2=p:=by
 have hp:p.peek=ts.head?.getD []:=by
  cases ts with
  |nil=>rw[h.peek0];rfl
  |cons t r=>rw[h.peek];rfl
 unfold Eng.opP
 rw[hp]
 exact⟨hn,by rw[if_neg];unfold QD at hn;omega⟩
theorem IP.opY{p:PS}{t:aR}{ts:List aR}{lv:Int}(h:IP p (t::ts))(hn:0≤qH lv t):Eng.opP lv p=(qH lv t,p.skip):=by
 unfold Eng.opP
 rw[h.peek,if_pos hn]
def RM(lv:Int)(X:PS→Nd×PS)(ks:List aR)(x:Nd)(rest:List aR):Prop:=
 ∀p,IP p (ks++rest)→∃f q,rest.length<f∧fK lv X p=chainF lv X f x q∧IP q rest
theorem Rs{lv:Int}{X:PS→Nd×PS}{ks:List aR}{x:Nd}{rest:List aR}(h:RM lv X ks x rest)(hn:QD lv rest):IQ (fK lv X) ks x rest:=fun p hp=>by
 obtain⟨f,q,h1,h2,h3⟩:=h p hp
 refine⟨q,?_,h3⟩
 rw[h2]
 cases f with
 |zero=>omega
 |succ f=>
  unfold chainF
  obtain⟨o1,o2⟩:=h3.opP hn
  rw[if_neg (by simp[h3.1]),if_pos o1,o2]
theorem RM.one{lv:Int}{X:PS→Nd×PS}{ks:List aR}{x:Nd}{rest:List aR}(h:IQ X ks x rest):RM lv X ks x rest:=fun p hp=>by
 obtain⟨q,h1,h2⟩:=h p hp
 refine⟨q.l.length+1,q,by rw[h2.len];omega,?_,h2⟩
 unfold fK
 rw[h1]
theorem RM.step{lv:Int}{X:PS→Nd×PS}{ka kb:List aR}{a b:Nd}{s:aR}{rest:List aR}(ha:RM lv X ka a (s::(kb++rest)))(hs:0≤qH lv s)(hb:IQ X kb b rest):
 RM lv X (ka++s::kb) (.mk (26+qH lv s) [] 0 [a,b]) rest:=fun p hp=>by
 obtain⟨f,q,h1,h2,h3⟩:=ha p (by simpa using hp)
 cases f with
 |zero=>omega
 |succ f=>
  obtain⟨q2,k1,k2⟩:=hb q.skip h3.skip
  refine⟨f,q2,by simp only[List.length_cons,List.length_append]at h1;omega,?_,k2⟩
  rw[h2]
  conv=>lhs;unfold chainF
  rw[if_neg (by simp[h3.1]),h3.opY hs,if_neg (by simp only;omega)]
  simp only
  rw[k1]
theorem Ld{k:Int}(h0:26≤k)(h1:k≤31):qH (cG k) (qE k)=k-26∧(cG k=1∨cG k=2∨cG k=3)∧(∀lv:Int,(lv=1∨lv=2∨lv=3)→lv≠cG k→qH lv (qE k)<0)∧qE k≠[46]∧lvlN k=cG k:=by
 have:k=26∨k=27∨k=28∨k=29∨k=30∨k=31:=by omega
 rcases this with rfl|rfl|rfl|rfl|rfl|rfl<;>exact⟨by decide,by decide,fun lv h hn=>by rcases h with rfl|rfl|rfl<;>first|exact absurd rfl hn|decide,by decide,by decide⟩
theorem IP.name{p:PS}{t:aR}{ts:List aR}(h:IP p (t::ts))(ht:cR t true=true):aD p=(t,p.skip):=by
 unfold aD
 rw[h.peek,(vX ht).2]
 rfl
theorem IP.local{p:PS}{t:aR}{ts:List aR}(h:IP p ((36::t)::ts)):aM p=(t,p.skip):=by
 unfold aM
 rw[h.peek]
 rfl
end Go.Eng
namespace Go.Eng
theorem EQ{k:Int}(t:aR)(n:Int)(ks:List Nd)(h:13≤k):stmtT (.mk k t n ks)=cX k++midT k t++withN n++withE ks++[59]:=by
 unfold stmtT
 rw[if_neg (by omega),if_neg (by omega),if_neg (by omega)]
def nZ(x:Nd):Prop:=∃ks,x=.mk 8 [] 0 ks∧∀y∈ks,aI y=true∧cM y.kind=true
theorem mL{x:Nd}(hr:aI x=true)(hk:cF x.kind=true):nZ x:=by
 obtain⟨k,t,n,ks⟩:=x
 have hk:k=8:=of_decide_eq_true (show decide (k=8)=true from hk)
 subst hk
 obtain⟨_,_,hs,w1,w2,w3,hk⟩:=right_mk.1 hr
 have hz:fF 8=0∧fH 8=0:=⟨rfl,rfl⟩
 have ht:t=[]:=by simpa [kH]using w3
 refine⟨ks,by rw[ht,show n=0 by omega],fun y hy=>⟨hk y hy,?_⟩⟩
 exact List.all_eq_true.1 (show(ks.all fun y=>cM y.kind)=true from hs) y hy
def IR(k:Int)(t:aR)(n:Int)(ks:List Nd):Prop:=
 ((k=13∨k=14∨k=17∨k=18)∧cR t true=true∧n=0∧ks=[])∨
 ((k=15∨k=22)∧cR t true=true∧n=0∧∃e,ks=[e]∧aI e=true∧aH e.kind=true)∨
 ((k=16∨k=23)∧cR t true=true∧n=0∧∃u,ks=[.mk 33 u 0 []]∧cR u false=true)∨
 (k=19∧cR t false=true∧2≤n∧n≤6∧ks=[])∨(k=20∧cR t false=true∧n=0∧ks=[])∨
 ((k=21∧n≤9∨k=25∧n≤99)∧t=[]∧1≤n∧ks=[])∨(k=24∧t=[]∧n=0∧∃e,ks=[e]∧aI e=true∧aH e.kind=true)
theorem rR{f:Int→Bool}:∀{ks:List Nd},cS ks [f]=true→∃a,ks=[a]∧f a.kind=true
 |[a],h=>⟨a,rfl,by simpa [cS]using h⟩
 |[],h=>by cases h
 |_::_::_,h=>by simp[cS]at h
theorem AB{f g:Int→Bool}:∀{ks:List Nd},cS ks [f,g]=true→∃a b,ks=[a,b]∧f a.kind=true∧g b.kind=true
 |[a,b],h=>⟨a,b,rfl,by simpa [cS]using h⟩
 |[],h=>by cases h
 |[_],h=>by simp[cS]at h
 |_::_::_::_,h=>by simp[cS]at h
theorem IS{f g e:Int→Bool}:∀{ks:List Nd},cS ks [f,g,e]=true→∃a b c,ks=[a,b,c]∧f a.kind=true∧g b.kind=true∧e c.kind=true
 |[a,b,c],h=>⟨a,b,c,rfl,by simpa [cS]using h⟩
 |[],h=>by cases h
 |[_],h=>by simp[cS]at h
 |[_,_],h=>by simp[cS]at h
 |_::_::_::_::_,h=>by simp[cS]at h
theorem kU:∀{ks:List Nd},cS ks []=true→ks=[]
 |[],_=>rfl
 |_::_,h=>by cases h
theorem Dw{x:Nd}(hr:aI x=true)(hk:cM x.kind=true):
 (∃t e,x=.mk 9 t 0 [e]∧cR t false=true∧aI e=true∧aH e.kind=true)∨
 (∃p e,x=.mk 10 [] 0 [p,e]∧aI p=true∧nW p.kind=true∧aI e=true∧aH e.kind=true)∨
 (∃k e b,(k=11∨k=12)∧x=.mk k [] 0 [e,b]∧aI e=true∧aH e.kind=true∧aI b=true∧cF b.kind=true)∨
 (∃e b c,x=.mk 11 [] 0 [e,b,c]∧aI e=true∧aH e.kind=true∧aI b=true∧cF b.kind=true∧aI c=true∧cF c.kind=true)∨
 (∃k t n ks,13≤k∧k≤25∧x=.mk k t n ks∧IR k t n ks):=by
 obtain⟨k,t,n,ks⟩:=x
 have hk:9≤k∧k≤25:=tY.1 hk
 obtain⟨_,_,hs,w1,w2,w3,hk'⟩:=right_mk.1 hr
 have hcase:k=9∨k=10∨k=11∨k=12∨k=13∨k=14∨k=15∨k=16∨k=17∨k=18∨k=19∨k=20∨k=21∨k=22∨k=23∨k=24∨k=25:=by omega
 rcases hcase with rfl|rfl|rfl|rfl|rfl|rfl|rfl|rfl|rfl|rfl|rfl|rfl|rfl|rfl|rfl|rfl|rfl
 ·obtain⟨e,rfl,he⟩:=rR (f:=aH) hs
  have hz:fF 9=0∧fH 9=0:=⟨rfl,rfl⟩
  exact .inl ⟨t,e,by rw[show n=0 by omega],w3,hk' e (by simp),he⟩
 ·obtain⟨p,e,rfl,hp,he⟩:=AB (f:=nW) (g:=aH) hs
  have hz:fF 10=0∧fH 10=0:=⟨rfl,rfl⟩
  have ht:t=[]:=by simpa [kH]using w3
  exact .inr (.inl ⟨p,e,by rw[ht,show n=0 by omega],hk' p (by simp),hp,hk' e (by simp),he⟩)
 ·have hz:fF 11=0∧fH 11=0:=⟨rfl,rfl⟩
  have ht:t=[]:=by simpa [kH]using w3
  have hs:(cS ks [aH,cF]||cS ks [aH,cF,cF])=true:=hs
  rw[Bool.or_eq_true]at hs
  rcases hs with hs|hs
  ·obtain⟨e,b,rfl,he,hb⟩:=AB hs
   exact .inr (.inr (.inl ⟨11,e,b,.inl rfl,by rw[ht,show n=0 by omega],hk' e (by simp),he,hk' b (by simp),hb⟩))
  ·obtain⟨e,b,c,rfl,he,hb,hc⟩:=IS hs
   exact .inr (.inr (.inr (.inl ⟨e,b,c,by rw[ht,show n=0 by omega],hk' e (by simp),he,hk' b (by simp),hb,hk' c (by simp),hc⟩)))
 ·have hz:fF 12=0∧fH 12=0:=⟨rfl,rfl⟩
  have ht:t=[]:=by simpa [kH]using w3
  obtain⟨e,b,rfl,he,hb⟩:=AB (f:=aH) (g:=cF) hs
  exact .inr (.inr (.inl ⟨12,e,b,.inr rfl,by rw[ht,show n=0 by omega],hk' e (by simp),he,hk' b (by simp),hb⟩))
 all_goals refine .inr (.inr (.inr (.inr ⟨_,t,n,ks,by decide,by decide,rfl,?_⟩)))
 ·have hz:fF 13=0∧fH 13=0:=⟨rfl,rfl⟩
  exact .inl ⟨by omega,w3,by omega,kU hs⟩
 ·have hz:fF 14=0∧fH 14=0:=⟨rfl,rfl⟩
  exact .inl ⟨by omega,w3,by omega,kU hs⟩
 ·have hz:fF 15=0∧fH 15=0:=⟨rfl,rfl⟩
  obtain⟨e,rfl,he⟩:=rR (f:=aH) hs
  exact .inr (.inl ⟨by omega,w3,by omega,e,rfl,hk' e (by simp),he⟩)
 ·have hz:fF 16=0∧fH 16=0:=⟨rfl,rfl⟩
  obtain⟨e,rfl,he⟩:=rR (f:=oV) hs
  refine .inr (.inr (.inl ⟨by omega,w3,by omega,?_⟩))
  have he':e.kind=33:=by simpa [oV]using he
  rcases tD (hk' e (by simp)) (by rw[he'];rfl)with⟨g1,_⟩|⟨g1,g2⟩|g1|⟨g1,_⟩|⟨g1,_⟩|⟨k',a,b,g1,g2,g3,_⟩
  ·omega
  ·exact⟨e.text,by rw[←g1],g2⟩
  ·rw[g1]at he';cases he'
  ·rw[g1]at he';cases he'
  ·rw[g1]at he';cases he'
  ·rw[g3]at he';simp only[kK]at he';omega
 ·have hz:fF 17=0∧fH 17=0:=⟨rfl,rfl⟩
  exact .inl ⟨by omega,w3,by omega,kU hs⟩
 ·have hz:fF 18=0∧fH 18=0:=⟨rfl,rfl⟩
  exact .inl ⟨by omega,w3,by omega,kU hs⟩
 ·have hz:fF 19=2∧fH 19=6:=⟨rfl,rfl⟩
  exact .inr (.inr (.inr (.inl ⟨rfl,w3,by omega,by omega,kU hs⟩)))
 ·have hz:fF 20=0∧fH 20=0:=⟨rfl,rfl⟩
  exact .inr (.inr (.inr (.inr (.inl ⟨rfl,w3,by omega,kU hs⟩))))
 ·have hz:fF 21=1∧fH 21=9:=⟨rfl,rfl⟩
  exact .inr (.inr (.inr (.inr (.inr (.inl ⟨.inl ⟨rfl,by omega⟩,by simpa [kH]using w3,by omega,kU hs⟩)))))
 ·have hz:fF 22=0∧fH 22=0:=⟨rfl,rfl⟩
  obtain⟨e,rfl,he⟩:=rR (f:=aH) hs
  exact .inr (.inl ⟨by omega,w3,by omega,e,rfl,hk' e (by simp),he⟩)
 ·have hz:fF 23=0∧fH 23=0:=⟨rfl,rfl⟩
  obtain⟨e,rfl,he⟩:=rR (f:=oV) hs
  refine .inr (.inr (.inl ⟨by omega,w3,by omega,?_⟩))
  have he':e.kind=33:=by simpa [oV]using he
  rcases tD (hk' e (by simp)) (by rw[he'];rfl)with⟨g1,_⟩|⟨g1,g2⟩|g1|⟨g1,_⟩|⟨g1,_⟩|⟨k',a,b,g1,g2,g3,_⟩
  ·omega
  ·exact⟨e.text,by rw[←g1],g2⟩
  ·rw[g1]at he';cases he'
  ·rw[g1]at he';cases he'
  ·rw[g1]at he';cases he'
  ·rw[g3]at he';simp only[kK]at he';omega
 ·have hz:fF 24=0∧fH 24=0:=⟨rfl,rfl⟩
  obtain⟨e,rfl,he⟩:=rR (f:=aH) hs
  exact .inr (.inr (.inr (.inr (.inr (.inr ⟨rfl,by simpa [kH]using w3,by omega,e,rfl,hk' e (by simp),he⟩)))))
 ·have hz:fF 25=1∧fH 25=99:=⟨rfl,rfl⟩
  exact .inr (.inr (.inr (.inr (.inr (.inl ⟨.inr ⟨rfl,by omega⟩,by simpa [kH]using w3,by omega,kU hs⟩)))))
end Go.Eng
namespace Go.Eng
def Ru(s:aR)(ts:List aR):Prop:=EO s ts∧Dr s=true
theorem Ru.kids{s:aR}{ts:List aR}(h:Ru s ts):∀{ks:List Nd},(∀e∈ks,aI e=true∧aH e.kind=true)→Ru (withE ks++s) (ks.flatMap uA++ts)
 |[],_=>h
 |e::r,he=>by
  have ih:=Ru.kids h (ks:=r) fun y hy=>he y (List.mem_cons_of_mem _ hy)
  obtain⟨h1,h2⟩:=he e (List.mem_cons_self ..)
  have:=(Ni e h1 h2 _ _ ih.1 ih.2).sp
  exact⟨by simpa [withE,List.flatMap_cons]using this,rfl⟩
theorem yU{k:Int}{t:aR}{n:Int}{ks:List Nd}(h:IR k t n ks):(if k=19∨k=20 then cR t false=true else k=21∨k=25∨k=24∨cR t true=true)∧0≤n∧n≤999∧∀e∈ks,aI e=true∧aH e.kind=true:=by
 have loc:∀{u:aR},cR u false=true→aI (.mk 33 u 0 [])=true∧aH (Nd.mk 33 u 0 []).kind=true:=fun hu=>⟨right_mk.2 ⟨by decide,by decide,rfl,by decide,by decide,hu,fun _ h=>by cases h⟩,rfl⟩
 rcases h with⟨h1,h2,h3,h4⟩|⟨h1,h2,h3,e,h4,h5,h6⟩|⟨h1,h2,h3,u,h4,h5⟩|⟨h1,h2,h3,h4,h5⟩|⟨h1,h2,h3,h4⟩|⟨h1,h2,h3,h4⟩|⟨h1,h2,h3,e,h4,h5,h6⟩
 ·refine⟨?_,by omega,by omega,fun e he=>by rw[h4]at he;cases he⟩
  rw[if_neg (by omega)];exact .inr (.inr (.inr h2))
 ·refine⟨?_,by omega,by omega,fun y hy=>by rw[h4,List.mem_singleton]at hy;rw[hy];exact⟨h5,h6⟩⟩
  rw[if_neg (by omega)];exact .inr (.inr (.inr h2))
 ·refine⟨?_,by omega,by omega,fun y hy=>by rw[h4,List.mem_singleton]at hy;rw[hy];exact loc h5⟩
  rw[if_neg (by omega)];exact .inr (.inr (.inr h2))
 ·refine⟨?_,by omega,by omega,fun e he=>by rw[h5]at he;cases he⟩
  rw[if_pos (by omega)];exact h2
 ·refine⟨?_,by omega,by omega,fun e he=>by rw[h4]at he;cases he⟩
  rw[if_pos (by omega)];exact h2
 ·refine⟨?_,by omega,by omega,fun e he=>by rw[h4]at he;cases he⟩
  rw[if_neg (by omega)];omega
 ·refine⟨?_,by omega,by omega,fun y hy=>by rw[h4,List.mem_singleton]at hy;rw[hy];exact⟨h5,h6⟩⟩
  rw[if_neg (by omega)];omega
def JP(x:Nd):Prop:=∃t n,x=.mk 7 t n []∧cR t true=true∧ -999≤n∧n≤999
theorem IT{x:Nd}(hr:aI x=true)(hk:tX x.kind=true):JP x:=by
 obtain⟨k,t,n,ks⟩:=x
 have hk:k=7:=of_decide_eq_true (show decide (k=7)=true from hk)
 subst hk
 obtain⟨_,_,hs,w1,w2,w3,_⟩:=right_mk.1 hr
 have hz:fF 7= -999∧fH 7=999:=⟨rfl,rfl⟩
 exact⟨t,n,by rw[kU hs],w3,by omega,by omega⟩
def Le(x:Nd):Prop:=cR x.text true=true∧(((x.kind=5∨x.kind=6)∧∃b,x=.mk x.kind x.text 0 [b]∧nZ b)∨(x.kind=1∧x=.mk 1 x.text 0 x.kids∧∀y∈x.kids,JP y)∨
 (x.kind=0∧x=.mk 0 x.text x.n []∧ -999≤x.n∧x.n≤999)∨(x.kind=2∧x=.mk 2 x.text x.n []∧0≤x.n∧x.n≤3)∨((x.kind=3∨x.kind=4)∧x=.mk x.kind x.text 0 []))
theorem Bj{x:Nd}(hr:aI x=true)(h0:0≤x.kind)(h1:x.kind≤6):Le x:=by
 obtain⟨k,t,n,ks⟩:=x
 have h0:0≤k:=h0
 have h1:k≤6:=h1
 obtain⟨_,_,hs,w1,w2,w3,hk⟩:=right_mk.1 hr
 have hcase:k=0∨k=1∨k=2∨k=3∨k=4∨k=5∨k=6:=by omega
 refine⟨by rcases hcase with rfl|rfl|rfl|rfl|rfl|rfl|rfl<;>exact w3,?_⟩
 rcases hcase with rfl|rfl|rfl|rfl|rfl|rfl|rfl
 ·have hz:fF 0= -999∧fH 0=999:=⟨rfl,rfl⟩
  exact .inr (.inr (.inl ⟨rfl,by rw[kU hs];rfl,by simp only[yO];omega,by simp only[yO];omega⟩))
 ·have hz:fF 1=0∧fH 1=0:=⟨rfl,rfl⟩
  exact .inr (.inl ⟨rfl,by rw[show n=0 by omega];rfl,fun y hy=>IT (hk y hy) (List.all_eq_true.1 (show(ks.all fun y=>tX y.kind)=true from hs) y hy)⟩)
 ·have hz:fF 2=0∧fH 2=3:=⟨rfl,rfl⟩
  exact .inr (.inr (.inr (.inl ⟨rfl,by rw[kU hs];rfl,by simp only[yO];omega,by simp only[yO];omega⟩)))
 ·have hz:fF 3=0∧fH 3=0:=⟨rfl,rfl⟩
  exact .inr (.inr (.inr (.inr ⟨.inl rfl,by rw[kU hs,show n=0 by omega];rfl⟩)))
 ·have hz:fF 4=0∧fH 4=0:=⟨rfl,rfl⟩
  exact .inr (.inr (.inr (.inr ⟨.inr rfl,by rw[kU hs,show n=0 by omega];rfl⟩)))
 ·have hz:fF 5=0∧fH 5=0:=⟨rfl,rfl⟩
  obtain⟨b,rfl,hb⟩:=rR (f:=cF) hs
  exact .inl ⟨.inl rfl,b,by rw[show n=0 by omega];rfl,mL (hk b (by simp)) hb⟩
 ·have hz:fF 6=0∧fH 6=0:=⟨rfl,rfl⟩
  obtain⟨b,rfl,hb⟩:=rR (f:=cF) hs
  exact .inl ⟨.inr rfl,b,by rw[show n=0 by omega];rfl,mL (hk b (by simp)) hb⟩
end Go.Eng
namespace Go.Eng
def Si:PS→Nd×PS:=fun q=>fS false (q.l.length+1) q
theorem Lf{k:Int}(h:11≤k∧k≤25):cV (cX k)=k:=by
 have:k=11∨k=12∨k=13∨k=14∨k=15∨k=16∨k=17∨k=18∨k=19∨k=20∨k=21∨k=22∨k=23∨k=24∨k=25:=by omega
 rcases this with rfl|rfl|rfl|rfl|rfl|rfl|rfl|rfl|rfl|rfl|rfl|rfl|rfl|rfl|rfl<;>decide
end Go.Eng
namespace Go.Eng
section
variable{P:Program} {N:Nat} {w0:iU} {X:Nat→Prop} {Q:LX→mI→kV→Prop} {env:mI} {H:kV} {c:Code}
theorem oS.label{l:Nat}(h:Q .normal env H):oS P N w0 X (.label l) Q env H:=fun _ _ β _ _ s=>wpIn_label ⟨.normal,env,H,β,trivial,s,h⟩
theorem oS.scope(h:oS P N w0 X c Q env H):oS P N w0 X (.scope c) Q env H:=fun r hr β a w s=>by
 obtain⟨hn,hf⟩:=hr.resolve_right (by simp[zG])
 subst hn
 refine wpIn_wide.2 (wp_scope_straight (wp_mono (wpIn_wide.1 (h none (.inl ⟨rfl,hf⟩) β a w s)) fun e a' w' k=>by
 obtain⟨lx,env',H',β',h1,h2,h3⟩:=k
 cases e with
 |goto l=>cases lx<;>exact h1.elim
 |_=>exact⟨lx,env',H',β',h1,h2,h3⟩))
end
end Go.Eng
