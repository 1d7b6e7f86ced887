/-
  Texts of the proofs of this seat, part 4. No condition.
-/
import Derived.Test.YtmndmahpoljhmaaGreatDoorMC
import Derived.Scope
set_option linter.unusedVariables false
set_option linter.unusedSimpArgs false
namespace Go.Eng
open Go.RowKit
section
variable{P:Program} {T:TypeId→lF} {N:Nat} {w0:iT} {X:Nat→Prop} {Q:LX→nC→lD→Prop} {env env' env'':nC} {H H' H'':lD}
def tF(args:List LV):nC:=aY ((args.zipIdx).map fun p=>(p.2,p.1))
theorem HE(args:List LV)(t:Nat):tF args t=(args[t]?).getD .junk:=by
 have key:∀(l:List LV) (k t:Nat),kQ ((l.zipIdx k).map fun p=>(p.2,p.1)) (k+t)=(l[t]?).getD .junk:=by
  intro l
  induction l with
  |nil=>intro k t;simp[kQ]
  |cons x r ih=>
   intro k t
   simp only[List.zipIdx_cons,List.map_cons,kQ]
   cases t with
   |zero=>simp
   |succ t=>
    rw[if_neg (by omega)]
    have:=ih (k+1) t
    rw[show k+1+t=k+(t+1)by omega]at this
    rw[this];simp
 have:=key args 0 t
 rw[Nat.zero_add]at this
 exact this
theorem wX{f:FuncId}{fn:Func}{c:Code}{args:List LV}{h fin:List (Nat×aW)}{ret:LV}{n:Nat}(hf:P.funcs[f]? =some fn)(hname:(fn.name== "runtime.NumGoroutine")=false)(hb:fn.body=some c)(hn:fn.ntmps=n)(hargs:args.length≤n)
 (hw:∀w0 X,w0.pins=h.map (·.1)→pS P n w0 X c (fun x env H=>(match x with| .exit _=>False|_=>True)∧∀β a w,tS n w0 X env H β a w→∃v β',(results fn a.tmps).run P w=.ok v w∧fY w0 X (aK fin) β' w∧R w (Ex X β' (aK fin)) β' (aK fin) ret v) (tF args) (aK h)):
 qX P f args h fin ret:=by
 refine⟨⟨fn,hf,hname,by rw[hb];rfl⟩,fun w X β vs m hvl hr=>?_⟩
 refine sN (β:=β) hf hb rfl (hw ⟨w,β,aK h,h.map (·.1),false⟩ X rfl) ?_ ?_
 ·refine⟨EI.nil,?_,m.ext,m.xold,m.fresh,m.inj,fun t=>?_,m.obj,m.pin⟩
  ·simp;omega
  ·rw[HE]
   cases q:args[t]? with
   |none=>exact .junk _
   |some x=>
    have ht:t<vs.length:=by rw[hvl];exact(List.getElem?_eq_some_iff.1 q).1
    have hv:(vs.toArray++Array.replicate (fn.ntmps-vs.toArray.size) undef).getD t undef=vs[t]:=by
     simp[Array.getD_eq_getD_getElem?,Array.getElem?_append_left,ht]
    rw[hv]
    exact hr t x _ q (List.getElem?_eq_getElem ht)
 ·rintro x env H β1 a' w' ⟨h2,h3⟩ s
  obtain⟨v,β',hv1,hv2,hv3⟩:=h3 β1 a' w' s
  exact⟨h2,v,hv1,v,β',rfl,hv2,hv3⟩
theorem Gq{f:FuncId}{fn:Func}{c:Code}{args:List LV}{h:List (Nat×aW)}{Rel:List (Nat×aW)→LV→Prop}{n:Nat}(hf:P.funcs[f]? =some fn)(hname:(fn.name== "runtime.NumGoroutine")=false)(hb:fn.body=some c)(hn:fn.ntmps=n)(hargs:args.length≤n)
 (hw:∀w0 X,w0.pins=h.map (·.1)→pS P n w0 X c (fun x env H=>(match x with| .exit _=>False|_=>True)∧∀β a w,tS n w0 X env H β a w→∃v β' fin ret,Rel fin ret∧(results fn a.tmps).run P w=.ok v w∧fY w0 X (aK fin) β' w∧R w (Ex X β' (aK fin)) β' (aK fin) ret v) (tF args) (aK h)):
 Nl P f args h Rel:=by
 refine⟨⟨fn,hf,hname,by rw[hb];rfl⟩,fun w X β vs m hvl hr=>?_⟩
 refine sN (β:=β) hf hb rfl (hw ⟨w,β,aK h,h.map (·.1),false⟩ X rfl) ?_ ?_
 ·refine⟨EI.nil,?_,m.ext,m.xold,m.fresh,m.inj,fun t=>?_,m.obj,m.pin⟩
  ·simp;omega
  ·rw[HE]
   cases q:args[t]? with
   |none=>exact .junk _
   |some x=>
    have ht:t<vs.length:=by rw[hvl];exact(List.getElem?_eq_some_iff.1 q).1
    have hv:(vs.toArray++Array.replicate (fn.ntmps-vs.toArray.size) undef).getD t undef=vs[t]:=by
     simp[Array.getD_eq_getD_getElem?,Array.getElem?_append_left,ht]
    rw[hv]
    exact hr t x _ q (List.getElem?_eq_getElem ht)
 ·rintro x env H β1 a' w' ⟨h2,h3⟩ s
  obtain⟨v,β',fin,ret,hrel,hv1,hv2,hv3⟩:=h3 β1 a' w' s
  exact⟨h2,v,hv1,v,β',fin,ret,hrel,rfl,hv2,hv3⟩
def HF(w0:iT)(fin:List (Nat×aW))(x:LX)(env:nC)(H:lD):Prop:=(match x with| .exit _=>False|_=>True)∧oM w0 env H (aY []) (aK fin)
def NS(w0:iT)(t:Nat)(fin:List (Nat×aW))(ret:LV)(x:LX)(env:nC)(H:lD):Prop:=(match x with| .exit _=>False|_=>True)∧oM w0 env H (aY [(t,ret)]) (aK fin)
theorem iH{fin:List (Nat×aW)}:HF w0 fin .ret env H↔oM w0 env H (aY []) (aK fin):=by simp[HF]
theorem dJ{fin:List (Nat×aW)}:HF w0 fin .normal env H↔oM w0 env H (aY []) (aK fin):=by simp[HF]
theorem iI{t:Nat}{fin:List (Nat×aW)}{ret:LV}:NS w0 t fin ret .ret env H↔oM w0 env H (aY [(t,ret)]) (aK fin):=by simp[NS]
theorem Au{f:FuncId}{fn:Func}{c:Code}{args:List LV}{h fin:List (Nat×aW)}{n:Nat}(hf:P.funcs[f]? =some fn)(hname:(fn.name== "runtime.NumGoroutine")=false)(hb:fn.body=some c)(hn:fn.ntmps=n)(hargs:args.length≤n)(hres:fn.results= #[])
 (hw:∀w0 X,w0.pins=h.map (·.1)→pS P n w0 X c (HF w0 fin) (tF args) (aK h)):qX P f args h fin (.tup []):=
 wX hf hname hb hn hargs fun w0 X hp=>(hw w0 X hp).mono fun x env H ⟨h1,h2⟩=>⟨h1,fun β a w s=>by
  obtain⟨β',s'⟩:=h2 _ _ _ _ _ s
  exact⟨.tuple #[],β',results_none hres _ _ _,s'.mem,.tup [] [] rfl (by simp)⟩⟩
theorem qX.one{f:FuncId}{fn:Func}{c:Code}{args:List LV}{h fin:List (Nat×aW)}{ret:LV}{n t:Nat}(hf:P.funcs[f]? =some fn)(hname:(fn.name== "runtime.NumGoroutine")=false)(hb:fn.body=some c)(hn:fn.ntmps=n)(hargs:args.length≤n)(hres:fn.results= #[.tmp t])
 (hw:∀w0 X,w0.pins=h.map (·.1)→pS P n w0 X c (NS w0 t fin ret) (tF args) (aK h)):qX P f args h fin ret:=
 wX hf hname hb hn hargs fun w0 X hp=>(hw w0 X hp).mono fun x env H ⟨h1,h2⟩=>⟨h1,fun β a w s=>by
  obtain⟨β',s'⟩:=h2 _ _ _ _ _ s
  have:=s'.env t
  rw[show aY [(t,ret)] t=ret by simp[aY,kQ]]at this
  exact⟨_,β',results_tmp hres _ _ _,s'.mem,this⟩⟩
def NT(w0:iT)(t:Nat)(Rel:List (Nat×aW)→LV→Prop)(x:LX)(env:nC)(H:lD):Prop:=(match x with| .exit _=>False|_=>True)∧∃fin ret,Rel fin ret∧oM w0 env H (aY [(t,ret)]) (aK fin)
theorem iJ{t:Nat}{Rel:List (Nat×aW)→LV→Prop}:NT w0 t Rel .ret env H↔∃fin ret,Rel fin ret∧oM w0 env H (aY [(t,ret)]) (aK fin):=by simp[NT]
theorem Nl.one{f:FuncId}{fn:Func}{c:Code}{args:List LV}{h:List (Nat×aW)}{Rel:List (Nat×aW)→LV→Prop}{n t:Nat}(hf:P.funcs[f]? =some fn)(hname:(fn.name== "runtime.NumGoroutine")=false)(hb:fn.body=some c)(hn:fn.ntmps=n)(hargs:args.length≤n)(hres:fn.results= #[.tmp t])
 (hw:∀w0 X,w0.pins=h.map (·.1)→pS P n w0 X c (NT w0 t Rel) (tF args) (aK h)):Nl P f args h Rel:=
 Gq hf hname hb hn hargs fun w0 X hp=>(hw w0 X hp).mono fun x env H ⟨h1,fin,ret,hr,h2⟩=>⟨h1,fun β a w s=>by
  obtain⟨β',s'⟩:=h2 _ _ _ _ _ s
  have:=s'.env t
  rw[show aY [(t,ret)] t=ret by simp[aY,kQ]]at this
  exact⟨_,β',fin,ret,hr,results_tmp hres _ _ _,s'.mem,this⟩⟩
theorem iW{n:Nat}:∀{cs:List DV},bY (List.map (close H (n+1)∘LV.d) cs)=some cs
 |[]=>rfl
 |c::cs=>by
  have ih:=iW (n:=n) (cs:=cs)
  simp only[List.map_cons,Function.comp,lU,bY]at ih⊢
  rw[ih];rfl
theorem iK{n:Nat}{cs:List DV}:bY (List.map (close H (n+1)) (List.map LV.d cs))=some cs:=by rw[List.map_map];exact iW
theorem kL{n:Nat}{cs:List DV}:(List.map LV.d cs).flatMap (bL H (n+1))=[]:=by
 induction cs with
 |nil=>rfl
 |cons c cs ih=>simp only[List.map_cons,List.flatMap_cons,lV,List.nil_append];exact ih
end
end Go.Eng
namespace Go.Eng
open Go.RowKit
section
variable{P:Program} {T:TypeId→lF} {N:Nat} {w0:iT} {X:Nat→Prop} {env:nC} {H:lD}
def qO(T:TypeId→lF)(env:nC)(H:lD):ResultVar→pL
 | .tmp t=>.plain (env t)
 | .cell t ty=>lS T H ty (env t)
def qB(T:TypeId→lF)(fresh:Bool)(env:nC)(H:lD):List ResultVar→List RV→Prop
 |[],[]=>True
 |r::rs,x::xs=>(qO T env H r).ok∧lR H fresh (qO T env H r).v x∧qB T fresh env H rs xs
 |_,_=>False
def RM(T:TypeId→lF)(l:List ResultVar)(fresh:Bool)(rs:List RV)(x:LX)(env:nC)(H:lD):Prop:=(match x with| .exit _=>False|_=>True)∧qB T fresh env H l rs
theorem kM{l:List ResultVar}{fresh:Bool}{rs:List RV}:RM T l fresh rs .ret env H↔qB T fresh env H l rs:=by simp[RM]
def HG(tmps:Array Value):ResultVar→Sem Value
 | .tmp t=>pure (tmps.getD t undef)
 | .cell b t=>do loadVar t (←asAddr (tmps.getD b undef))
theorem EZ(hT:mP P T){β:Nat→Option Nat}{a:Act}{w:World}{fresh:Bool}(s:tS N w0 X env H β a w):∀(l:List ResultVar) (rs:List RV),qB T fresh env H l rs→
 ∃vs:List Value,vs.length=rs.length∧(l.mapM (HG a.tmps)).run P w=.ok vs w∧
  ∀(i:Nat) (r:RV) (v:Value),rs[i]? =some r→vs[i]? =some v→∃x,R w (Ex X β H) β H x v∧lR H fresh x r
 |[],[],_=>⟨[],rfl,by simp,by simp⟩
 |[],_::_,h=>h.elim
 |_::_,[],h=>h.elim
 |r::l,x::rs,h=>by
  obtain⟨h1,h2,h3⟩:=h
  obtain⟨vs,hl,hr,hp⟩:=EZ hT s l rs h3
  have one:∃v,(HG a.tmps r).run P w=.ok v w∧R w (Ex X β H) β H (qO T env H r).v v:=by
   cases r with
   |tmp t=>exact⟨_,by simp[HG],s.env t⟩
   |cell t ty=>
    obtain⟨v,hv,hr⟩:=wW hT s h1
    exact⟨v,by simpa [HG,Sem.run_bind,Result.andThen]using hv,hr⟩
  obtain⟨v,hv,hv2⟩:=one
  refine⟨v::vs,by simp[hl],?_,?_⟩
  ·rw[List.mapM_cons]
   simp only[Sem.run_bind,hv,Result.andThen_ok,hr,Sem.run_pure]
  ·intro i r' u hr' hu
   cases i with
   |zero=>simp at hr' hu;subst hr';subst hu;exact⟨_,hv2,h2⟩
   |succ i=>simp at hr' hu;exact hp i r' u hr' hu
def RV.isD:RV→Bool
 | .d _=>true
 |_=>false
def RV.isM:RV→Bool
 | .d y=>memless y
 |_=>false
def Rn(rs:List RV):Bool:=rs.all RV.isD||rs.tail.all RV.isM
theorem NU{r:RV}(h:r.isD=true):∃y,r=.d y:=by cases r<;>first|exact⟨_,rfl⟩|cases h
theorem NV{r:RV}(h:r.isM=true):∃y,r=.d y∧memless y=true:=by cases r<;>first|exact⟨_,rfl,h⟩|cases h
theorem Gr(hT:mP P T){f:FuncId}{fn:Func}{c:Code}{args:List DV}{rs:List RV}{l:List ResultVar}{fresh:Bool}{n:Nat}(hf:P.funcs[f]? =some fn)(hname:(fn.name== "runtime.NumGoroutine")=false)(hb:fn.body=some c)(hn:fn.ntmps=n)(hargs:args.length≤n)(hres:fn.results=l.toArray)
 (hl:2≤rs.length)(hb':Rn rs=true)
 (h:∀w0 X,w0.pins=[]→pS P n w0 X c (RM T l fresh rs) (gC args) (aK [])):Ok P f args ⟨.tup rs,fresh⟩:=by
 have hx:(∀x∈rs,∃y,x=.d y)∨∃r1 rest,rs=r1::rest∧∀x∈rest,∃y,x=.d y∧memless y=true:=by
  unfold Rn at hb'
  rcases Bool.or_eq_true_iff.1 hb' with h1|h1
  ·exact .inl fun x hx=>NU (List.all_eq_true.1 h1 x hx)
  ·cases rs with
   |nil=>simp at hl
   |cons r1 rest=>exact .inr ⟨r1,rest,rfl,fun x hx=>NV (List.all_eq_true.1 h1 x hx)⟩
 refine vR hf hname hb hn hargs fun w0 X hpn=>(h w0 X hpn).mono fun x env H ⟨h1,h2⟩=>⟨h1,fun β a w s=>?_⟩
 obtain⟨vs,hvl,hrun,hp⟩:=EZ hT s l rs h2
 refine⟨.tuple vs.toArray,?_,?_⟩
 ·simp only[results,hres,List.mapM_toArray,map_eq_pure_bind,Sem.run_bind,Sem.run_pure]
  change ((((l.mapM (HG a.tmps)).run P w).andThen _).andThen _)=_
  rw[hrun]
  simp only[Result.andThen_ok]
  rw[dif_neg (by simp;omega)]
 ·have hret:∀(i:Nat) (r:RV) (v:Value),rs[i]? =some r→vs[i]? =some v→∃B:Option Nat,Bd w0.w w (fun k=>(X k∨fresh=true∧k<w0.w.heap.size)∨B=some k) B r v:=fun i r v hr hv=>by
   obtain⟨x,hx1,hx2⟩:=hp i r v hr hv
   exact xY hpn s hx1 hx2
  rcases hx with hx|⟨r1,rest,rfl,hx⟩
  ·refine⟨vs,fun _=>none,rfl,hvl,(by intro i j b hi hj;simp at hi),fun i r v hr hv=>?_⟩
   obtain⟨B,hB⟩:=hret i r v hr hv
   obtain⟨y,rfl⟩:=hx r (List.mem_of_getElem? hr)
   simp only[Bd]at hB⊢
   exact RD.anti (fun k hk=>.inl (by rcases hk with hk|⟨j,hj⟩;exact hk;cases hj)) hB
  ·obtain⟨v1,hv1⟩:∃v,vs[0]? =some v:=⟨vs[0]'(by rw[hvl];simp),List.getElem?_eq_getElem _⟩
   obtain⟨B,hB⟩:=hret 0 r1 v1 rfl hv1
   refine⟨vs,fun i=>if i=0 then B else none,rfl,hvl,fun i j b hi hj=>?_,fun i r v hr hv=>?_⟩
   ·simp only at hi hj
    by_cases h1:i=0
    ·by_cases h2:j=0
     ·omega
     ·rw[if_neg h2]at hj;cases hj
    ·rw[if_neg h1]at hi;cases hi
   ·cases i with
    |zero=>
     rw[hv1]at hv;injection hv with hv;subst hv
     simp at hr;subst hr
     simp only[if_pos]
     refine Bd.anti (fun k hk=>?_) hB
     rcases hk with hk|⟨j,hj⟩
     ·exact .inl hk
     ·by_cases h2:j=0
      ·rw[if_pos h2]at hj;exact .inr hj
      ·rw[if_neg h2]at hj;cases hj
    |succ i=>
     obtain⟨B',hB'⟩:=hret (i+1) r v hr hv
     simp at hr
     obtain⟨y,rfl,hy⟩:=hx r (List.mem_of_getElem? hr)
     simp only[Bd]at hB'⊢
     exact hB'.memless hy
def Qo(w0:iT){ι:Type}(E:ι→nC)(O:ι→lD)(I:ι→Prop)(Q:LX→nC→lD→Prop):LX→nC→lD→Prop
 | .normal,env,H=>∃i,oM w0 env H (E i) (O i)∧I i
 |e,env,H=>Q e env H
theorem eM{ι:Type}{E:ι→nC}{O:ι→lD}{I:ι→Prop}{Q:LX→nC→lD→Prop}:Qo w0 E O I Q .normal env H↔∃i,oM w0 env H (E i) (O i)∧I i:=Iff.rfl
theorem kN{ι:Type}{E:ι→nC}{O:ι→lD}{I:ι→Prop}{Q:LX→nC→lD→Prop}:Qo w0 E O I Q .ret env H↔Q .ret env H:=Iff.rfl
theorem iL{ι:Type}{E:ι→nC}{O:ι→lD}{I:ι→Prop}{Q:LX→nC→lD→Prop}{j:Nat}:Qo w0 E O I Q (.exit j) env H↔Q (.exit j) env H:=Iff.rfl
theorem Qo.mk{ι:Type}{E:ι→nC}{O:ι→lD}{I:ι→Prop}(i:ι)(hw:oM w0 env H (E i) (O i))(hI:I i):∃i,oM w0 env H (E i) (O i)∧I i:=⟨i,hw,hI⟩
theorem aT{x y:Code}{Q:LX→nC→lD→Prop}{ι:Type}(E:ι→nC)(O:ι→lD)(I:ι→Prop)(h1:pS P N w0 X x (Qo w0 E O I Q) env H)(h2:∀i,I i→pS P N w0 X y Q (E i) (O i)):pS P N w0 X (.seq x y) Q env H:=by
 refine pS.seq (h1.mono fun e env H h=>?_)
 cases e with
 |normal=>obtain⟨i,hw,hI⟩:=h;exact wR hw (h2 i hI)
 |exit j=>exact h
 |ret=>exact h
end
end Go.Eng
namespace Go.Eng
open Go.RowKit
section
variable{P:Program} {T:TypeId→lF} {N:Nat} {w0:iT} {X:Nat→Prop} {Q:LX→nC→lD→Prop} {env:nC} {H:lD} {l:List Oper} {id:Nat}
theorem fY.rebox{β:Nat→Option Nat}{w:World}(m:fY w0 X H β w){b:Nat}{fz:Bool}{cs cs':List LV}(hH:H b=.box fz cs)(hl:cs'.length=cs.length)(h:∀(i:Nat) (c c':LV) (v:Value),cs[i]? =some c→cs'[i]? =some c'→R w (Ex X β H) β H c v→R w (Ex X β H) β H c' v):
 fY w0 X (cY H b (.box fz cs')) β w∧lG X H β w (cY H b (.box fz cs')) β w:=by
 have hmut:∀i,(cY H b (.box fz cs') i).mut=(H i).mut:=fun i=>by
  by_cases hi:i=b
  ·subst hi;rw[aJ,hH];rfl
  ·rw[cQ _ _ hi]
 have hlive:∀i,(cY H b (.box fz cs') i).live=(H i).live:=fun i=>by
  by_cases hi:i=b
  ·subst hi;rw[aJ,hH];rfl
  ·rw[cQ _ _ hi]
 have hg:lG X H β w (cY H b (.box fz cs')) β w:=by
  refine⟨Nat.le_refl _,fun _ _ _=>rfl,fun k _ he=>?_,fun i=>?_⟩
  ·rcases he with he|⟨i,h1,h2⟩
   ·exact .inl he
   ·rw[hmut]at h1;exact .inr ⟨i,h1,h2⟩
  ·by_cases hi:i=b
   ·subst hi;unfold cD;rw[hH,aJ];exact .inr ⟨⟨fz,cs',rfl⟩,rfl⟩
   ·have hp:=cD.refl (w:=w) (β:=β) (H:=H) i
    unfold cD at*
    rw[cQ _ _ hi];exact hp
 refine⟨⟨m.ext,m.xold,fun i b' h1 h2=>?_,fun i j b' h1 h2=>?_,fun i=>?_,fun i hi=>(m.pin i hi).trans (hg.pass i)⟩,hg⟩
 ·rw[hlive]at h1;rw[hmut];exact m.fresh i b' h1 h2
 ·rw[hlive]at h1 h2;exact m.inj i j b' h1 h2
 ·by_cases hi:i=b
  ·subst hi
   have ho:=m.obj i
   unfold fH at*
   rw[hH]at ho
   rw[aJ]
   obtain⟨b',e,us,h1,h2,h3,h4,h5⟩:=ho
   refine⟨b',e,us,h1,h2,by rw[hl];exact h3,h4,fun j c v hc hv=>?_⟩
   have hj:j<cs.length:=by have:=(List.getElem?_eq_some_iff.1 hc).1;omega
   exact hg.R (h j _ c v (List.getElem?_eq_getElem hj) hc (h5 j _ v (List.getElem?_eq_getElem hj) hv))
  ·exact(m.obj i).step hg.size hg.out (fun _ _=>hg.D) (fun _ _=>hg.R) (cQ _ _ hi) (fun _=>rfl) fun _ _ _=>rfl
theorem HH{f:FuncId}{fn:Func}{c:Code}{args:List DV}{Rel:Nk→Prop}{n:Nat}(hf:P.funcs[f]? =some fn)(hname:(fn.name== "runtime.NumGoroutine")=false)(hb:fn.body=some c)(hn:fn.ntmps=n)(hargs:args.length≤n)
 (h:∀w0 X,w0.pins=[]→pS P n w0 X c (fun x env H=>(match x with| .exit _=>False|_=>True)∧∀β a w,tS n w0 X env H β a w→∃v r,Rel r∧(results fn a.tmps).run P w=.ok v w∧Hc w0.w w (fun k=>X k∨r.fresh=true∧k<w0.w.heap.size) r.v v) (gC args) (aK [])):
 Rk P f args Rel:=by
 refine⟨⟨fn,hf,hname,by rw[hb];rfl⟩,fun w X vs hX hr=>?_⟩
 refine sN (β:=fun _=>none) hf hb rfl (h ⟨w,fun _=>none,fun _=>.absent,[],false⟩ X rfl) ?_ ?_
 ·refine⟨EI.nil,?_,⟨rfl,rfl,rfl,Nat.le_refl _,fun _ _ _=>rfl,Nat.le_refl _⟩,⟨fun k hk=>⟨hX.1 k hk,by rintro⟨id,hid,_⟩;cases hid⟩,hX.2.anti fun k hk=>by rcases hk with hk|⟨id,hid,_⟩;exact hk;cases hid⟩,fun id b hl _=>by simp[aK,kW,aW.live]at hl,fun i j b hi _=>by simp[aK,kW,aW.live]at hi,fun t=>?_,fun id=>by unfold fH;trivial,fun id hid=>by cases hid⟩
  ·have:=hr.1
   simp
   omega
  ·rw[Cc]
   cases q:args[t]? with
   |none=>exact .junk _
   |some x=>
    have ht:t<vs.length:=by rw[hr.1];exact(List.getElem?_eq_some_iff.1 q).1
    have hv:(vs.toArray++Array.replicate (fn.ntmps-vs.toArray.size) undef).getD t undef=vs[t]:=by
     simp[Array.getD_eq_getD_getElem?,Array.getElem?_append_left,ht]
    rw[hv]
    refine .d _ _ ((hr.2 t x _ q (List.getElem?_eq_getElem ht)).anti fun k hk=>?_)
    rcases hk with hk|⟨id,h1,_⟩
    ·exact hk
    ·cases h1
 ·rintro x env H β a' w' ⟨h2,h3⟩ s
  obtain⟨v,r,hrel,hv1,hv2⟩:=h3 β a' w' s
  have hbel:Hb w.heap.size w w':=⟨s.ext.os,s.ext.tape,s.ext.output,s.ext.size,fun k hk=>s.ext.block k hk (by rintro⟨id,hid,_⟩;cases hid),s.ext.drawn⟩
  exact⟨h2,v,hv1,v,r,hrel,rfl,hbel,hv2⟩
def SX(t:Nat)(fresh:Bool)(Rel:RV→Prop)(x:LX)(env:nC)(H:lD):Prop:=(match x with| .exit _=>False|_=>True)∧∃r,Rel r∧(∀rs,r≠ .tup rs)∧lR H fresh (env t) r
theorem Rk.ret{f:FuncId}{fn:Func}{c:Code}{args:List DV}{Rel:RV→Prop}{fresh:Bool}{n t:Nat}(hf:P.funcs[f]? =some fn)(hname:(fn.name== "runtime.NumGoroutine")=false)(hb:fn.body=some c)(hn:fn.ntmps=n)(hargs:args.length≤n)(hres:fn.results= #[.tmp t])
 (h:∀w0 X,w0.pins=[]→pS P n w0 X c (SX t fresh Rel) (gC args) (aK [])):Rk P f args (fun r=>Rel r.v∧r.fresh=fresh):=by
 refine HH hf hname hb hn hargs fun w0 X hpn=>(h w0 X hpn).mono fun x env H ⟨h1,r,h2,h3,h4⟩=>⟨h1,fun β a w s=>⟨a.tmps.getD t undef,⟨r,fresh⟩,⟨h2,rfl⟩,results_tmp hres _ _ _,?_⟩⟩
 obtain⟨B,hB⟩:=xY hpn s (s.env t) h4
 cases q:r with
 |tup rs=>exact absurd q (h3 rs)
 |d x=>rw[q]at hB;exact⟨B,hB⟩
 |own sz xs=>rw[q]at hB;exact⟨B,hB⟩
end
end Go.Eng
namespace Go.Eng
abbrev aN:=List UInt8
structure Nm where
 who:Int
 seq:Int
 deriving DecidableEq,Inhabited
structure Df where
 name:aN
 text:aN
 deriving DecidableEq,Inhabited
structure Ed where
 name:Nm
 needs:List Nm
 puts:List Df
 drops:List aN
 deriving DecidableEq,Inhabited
abbrev aD(n:Int):DV:=.int .i64 n
def Nm.d(n:Nm):DV:=.agg [.int .i64 n.who,.int .i64 n.seq]
def Df.d(d:Df):DV:=.agg [.str d.name,.str d.text]
def SY(n:Nm):List Value:=[.int .i64 n.who,.int .i64 n.seq]
def yV(l:List Nm):DV:=.sl (l.map Nm.d)
def yW(l:List Df):DV:=.sl (l.map Df.d)
def mK(l:List aN):DV:=.sl (l.map .str)
def Ed.d(e:Ed):DV:=.agg [.int .i64 e.name.who,.int .i64 e.name.seq,.sl (e.needs.map Nm.d),.sl (e.puts.map Df.d),.sl (e.drops.map .str)]
def yX(l:List Ed):DV:=.sl (l.map Ed.d)
theorem dK{α β:Type}{f:α→β}{acc:List α}:List.take acc.length (List.map f acc)=List.map f acc:=List.take_of_length_le (by simp)
theorem dL{α β:Type}{f:α→β}{l:List α}{t:List β}:List.take l.length (List.map f l++t)=List.map f l:=by rw[List.take_append_of_le_length (by simp),List.take_of_length_le (by simp)]
theorem wY{α:Type}{k n:Nat}{l:List α}{x:α}(h:x∈(l.drop k).take n):x∈l:=List.mem_of_mem_drop (List.mem_of_mem_take h)
theorem Jx{l:List Nm}{y:DV}(h:y∈l.map Nm.d):(aE y).length=2∧∀c∈aE y,memless c=true:=by
 obtain⟨a,_,rfl⟩:=List.mem_map.1 h
 exact⟨rfl,by simp[Nm.d,aE,memless]⟩
theorem Jy{l:List Df}{y:DV}(h:y∈l.map Df.d):(aE y).length=2∧∀c∈aE y,memless c=true:=by
 obtain⟨a,_,rfl⟩:=List.mem_map.1 h
 exact⟨rfl,by simp[Df.d,aE,memless]⟩
theorem Gs{l:List aN}{y:DV}(h:y∈l.map DV.str):(aE y).length=1∧∀c∈aE y,memless c=true:=by
 obtain⟨a,_,rfl⟩:=List.mem_map.1 h
 exact⟨rfl,by simp[aE,memless]⟩
theorem Jz{l:List Ed}{y:DV}(h:y∈l.map Ed.d):(aE y).length=5:=by
 obtain⟨a,_,rfl⟩:=List.mem_map.1 h
 rfl
section
variable{l:List Nm} {m:List Df} {r:List aN} {e:List Ed} {k n:Nat}
theorem yY:(∀y∈List.take k (List.map Nm.d l),(aE y).length=2)↔True:=iff_true_intro fun _ h=>(Jx (List.mem_of_mem_take h)).1
theorem yZ:(∀y∈List.drop k (List.map Nm.d l),(aE y).length=2)↔True:=iff_true_intro fun _ h=>(Jx (List.mem_of_mem_drop h)).1
theorem sF:(∀y∈List.take n (List.drop k (List.map Nm.d l)),(aE y).length=2)↔True:=iff_true_intro fun _ h=>(Jx (wY h)).1
theorem zA:(∀y∈List.take k (List.map Df.d m),(aE y).length=2)↔True:=iff_true_intro fun _ h=>(Jy (List.mem_of_mem_take h)).1
theorem zB:(∀y∈List.drop k (List.map Df.d m),(aE y).length=2)↔True:=iff_true_intro fun _ h=>(Jy (List.mem_of_mem_drop h)).1
theorem sG:(∀y∈List.take n (List.drop k (List.map Df.d m)),(aE y).length=2)↔True:=iff_true_intro fun _ h=>(Jy (wY h)).1
theorem sH:(∀y∈List.take k (List.map DV.str r),(aE y).length=1)↔True:=iff_true_intro fun _ h=>(Gs (List.mem_of_mem_take h)).1
theorem sI:(∀y∈List.drop k (List.map DV.str r),(aE y).length=1)↔True:=iff_true_intro fun _ h=>(Gs (List.mem_of_mem_drop h)).1
theorem oW:(∀y∈List.take n (List.drop k (List.map DV.str r)),(aE y).length=1)↔True:=iff_true_intro fun _ h=>(Gs (wY h)).1
theorem zC:(∀y∈List.take k (List.map Ed.d e),(aE y).length=5)↔True:=iff_true_intro fun _ h=>Jz (List.mem_of_mem_take h)
theorem zD:(∀y∈List.drop k (List.map Ed.d e),(aE y).length=5)↔True:=iff_true_intro fun _ h=>Jz (List.mem_of_mem_drop h)
theorem sJ:(∀y∈List.take n (List.drop k (List.map Ed.d e)),(aE y).length=5)↔True:=iff_true_intro fun _ h=>Jz (wY h)
end
def Qp{α:Type}(p:α→Bool)(l:List α)(i:Nat):Prop:=∀j (h:j<l.length),j<i→p l[j]=false
theorem Qp.zero{α:Type}{p:α→Bool}{l:List α}:Qp p l 0:=fun _ _ h=>absurd h (Nat.not_lt_zero _)
theorem Qp.succ{α:Type}{p:α→Bool}{l:List α}{i:Nat}(h:Qp p l i)(hi:i<l.length)(hp:p l[i]=false):Qp p l (i+1):=fun j hj hji=>by
 by_cases e:j=i
 ·subst e;exact hp
 ·exact h j hj (by omega)
theorem Qp.found{α:Type}{p:α→Bool}{l:List α}{i:Nat}(h:Qp p l i)(hi:i<l.length)(hp:p l[i]=true):l.findIdx? p=some i:=by
 rw[List.findIdx?_eq_some_iff_getElem]
 exact⟨hi,hp,fun j hj=>by rw[h j (by omega) hj];simp⟩
theorem Qp.none{α:Type}{p:α→Bool}{l:List α}{i:Nat}(h:Qp p l i)(hi:l.length≤i):l.findIdx? p=none:=by
 rw[List.findIdx?_eq_none_iff]
 intro x hx
 obtain⟨j,hj,rfl⟩:=List.getElem_of_mem hx
 exact h j hj (by omega)
theorem Qp.any{α:Type}{p:α→Bool}{l:List α}{i:Nat}(h:Qp p l i)(hi:l.length≤i):l.any p=false:=by
 rw[List.any_eq_false]
 intro x hx
 obtain⟨j,hj,rfl⟩:=List.getElem_of_mem hx
 rw[h j hj (by omega)];simp
theorem RN{α:Type}{p:α→Bool}{l:List α}{i:Nat}(hi:i<l.length)(hp:p l[i]=true):l.any p=true:=List.any_eq_true.2 ⟨_,List.getElem_mem hi,hp⟩
theorem Gt{α:Type}{a b:List α}{i:Nat}(h:a.take i=b.take i)(ha:i<a.length)(hb:i<b.length)(e:a[i]=b[i]):a.take (i+1)=b.take (i+1):=by
 have h1:a.take (i+1)=a.take i++[a[i]]:=by simp
 have h2:b.take (i+1)=b.take i++[b[i]]:=by simp
 rw[h1,h2,h,e]
def fF(n m:Int):Int:=(if n<0 then -(n+1)else n).tmod m
def eN(l:List Int)(i m:Int):Int:=if i<0∨l.length≤i then 0 else fF (l.getD i.toNat 0) m
def find?(l:List Ed)(n:Nm):Option Nat:=l.findIdx? fun e=>decide (e.name=n)
theorem oE(n m:Int)(hm:0<m):0≤fF n m∧fF n m<m:=by
 unfold fF
 split
 ·exact⟨Int.tmod_nonneg _ (by omega),Int.tmod_lt_of_pos _ hm⟩
 ·exact⟨Int.tmod_nonneg _ (by omega),Int.tmod_lt_of_pos _ hm⟩
end Go.Eng
namespace Go.Eng
inductive Nd where
 |mk (kind:Int) (text:aN) (n:Int) (kids:List Nd)
instance:Inhabited Nd:=⟨.mk 0 [] 0 []⟩
def Nd.kind:Nd→Int| .mk k _ _ _=>k
def Nd.text:Nd→aN| .mk _ t _ _=>t
def Nd.n:Nd→Int| .mk _ _ n _=>n
def Nd.kids:Nd→List Nd| .mk _ _ _ ks=>ks
@[simp] theorem fB{k:Int}{t:aN}{n:Int}{ks:List Nd}:(Nd.mk k t n ks).kind=k:=rfl
@[simp] theorem lA{k:Int}{t:aN}{n:Int}{ks:List Nd}:(Nd.mk k t n ks).text=t:=rfl
@[simp] theorem rR{k:Int}{t:aN}{n:Int}{ks:List Nd}:(Nd.mk k t n ks).n=n:=rfl
@[simp] theorem nG{k:Int}{t:aN}{n:Int}{ks:List Nd}:(Nd.mk k t n ks).kids=ks:=rfl
theorem NW:∀x:Nd,x=.mk x.kind x.text x.n x.kids
 | .mk _ _ _ _=>rfl
mutual
theorem mS{p:Nd→Prop}(h:∀k t n ks,(∀x∈ks,p x)→p (.mk k t n ks)):∀x,p x
 | .mk k t n ks=>h k t n ks (KO h ks)
theorem KO{p:Nd→Prop}(h:∀k t n ks,(∀x∈ks,p x)→p (.mk k t n ks)):∀(ks:List Nd),∀x∈ks,p x
 |[],_,hx=>by cases hx
 |a::r,x,hx=>by
  rcases List.mem_cons.1 hx with e|e
  ·rw[e];exact mS h a
  ·exact KO h r x e
end
mutual
def Nd.d:Nd→DV
 | .mk k t n ks=>.agg [aD k,.str t,aD n,.sl (ndsL ks)]
def ndsL:List Nd→List DV
 |[]=>[]
 |x::r=>x.d::ndsL r
end
theorem ndsL_map:∀ks:List Nd,ndsL ks=ks.map Nd.d
 |[]=>by simp[ndsL]
 |x::r=>by rw[ndsL,ndsL_map r];rfl
theorem Nd.d_eq(x:Nd):x.d=.agg [aD x.kind,.str x.text,aD x.n,.sl (x.kids.map Nd.d)]:=by
 cases x with|mk k t n ks=>rw[Nd.d,ndsL_map];rfl
def ndsD(l:List Nd):DV:=.sl (l.map Nd.d)
theorem nd_len(x:Nd):(aE x.d).length=4:=by rw[Nd.d_eq];rfl
theorem nd_mem{l:List Nd}{y:DV}(h:y∈l.map Nd.d):(aE y).length=4:=by
 obtain⟨a,_,rfl⟩:=List.mem_map.1 h
 exact nd_len a
section
variable{l:List Nd} {k n:Nat}
theorem nd_t:(∀y∈List.take k (List.map Nd.d l),(aE y).length=4)↔True:=iff_true_intro fun _ h=>nd_mem (List.mem_of_mem_take h)
theorem nd_dr:(∀y∈List.drop k (List.map Nd.d l),(aE y).length=4)↔True:=iff_true_intro fun _ h=>nd_mem (List.mem_of_mem_drop h)
theorem nd_td:(∀y∈List.take n (List.drop k (List.map Nd.d l)),(aE y).length=4)↔True:=iff_true_intro fun _ h=>nd_mem (wY h)
end
mutual
def sizeN:Nd→Nat
 | .mk _ _ _ ks=>sizeL ks+1
def sizeL:List Nd→Nat
 |[]=>0
 |x::r=>sizeN x+sizeL r
end
mutual
def depthN:Nd→Nat
 | .mk _ _ _ ks=>depthL ks+1
def depthL:List Nd→Nat
 |[]=>0
 |x::r=>max (depthN x) (depthL r)
end
mutual
def weighN:Nd→Nat
 | .mk _ t _ ks=>weighL ks+t.length+1
def weighL:List Nd→Nat
 |[]=>0
 |x::r=>weighN x+weighL r
end
theorem sizeN_eq(x:Nd):sizeN x=sizeL x.kids+1:=by cases x;rw[sizeN];rfl
theorem depthN_eq(x:Nd):depthN x=depthL x.kids+1:=by cases x;rw[depthN];rfl
theorem weighN_eq(x:Nd):weighN x=weighL x.kids+x.text.length+1:=by cases x;rw[weighN];rfl
theorem sizeL_append:∀(a b:List Nd),sizeL (a++b)=sizeL a+sizeL b
 |[],b=>by simp[sizeL]
 |x::a,b=>by rw[List.cons_append,sizeL,sizeL,sizeL_append a b,Nat.add_assoc]
theorem weighL_append:∀(a b:List Nd),weighL (a++b)=weighL a+weighL b
 |[],b=>by simp[weighL]
 |x::a,b=>by rw[List.cons_append,weighL,weighL,weighL_append a b,Nat.add_assoc]
theorem depthL_append:∀(a b:List Nd),depthL (a++b)=max (depthL a) (depthL b)
 |[],b=>by simp[depthL]
 |x::a,b=>by rw[List.cons_append,depthL,depthL,depthL_append a b,Nat.max_assoc]
theorem sizeL_succ{l:List Nd}{i:Nat}(hi:i<l.length):sizeL (l.take (i+1))=sizeL (l.take i)+sizeN l[i]:=by
 rw[←List.take_append_getElem hi,sizeL_append];simp[sizeL]
theorem depthL_succ{l:List Nd}{i:Nat}(hi:i<l.length):depthL (l.take (i+1))=max (depthL (l.take i)) (depthN l[i]):=by
 rw[←List.take_append_getElem hi,depthL_append];simp[depthL]
theorem sizeL_take_le{l:List Nd}(i:Nat):sizeL (l.take i)≤sizeL l:=by
 have:=sizeL_append (l.take i) (l.drop i)
 rw[List.take_append_drop]at this;omega
theorem weigh_mem:∀{l:List Nd} {x:Nd},x∈l→weighN x≤weighL l
 |[],_,h=>by cases h
 |a::l,x,h=>by
  rw[weighL]
  rcases List.mem_cons.1 h with e|e
  ·rw[e];omega
  ·have:=weigh_mem e;omega
theorem weigh_len:∀{l:List Nd},l.length≤weighL l
 |[]=>Nat.zero_le _
 |a::l=>by
  have:=weigh_len (l:=l)
  have h:1≤weighN a:=by rw[weighN_eq];omega
  rw[weighL,List.length_cons];omega
theorem size_weigh(x:Nd):sizeN x≤weighN x:=by
 refine mS (p:=fun x=>sizeN x≤weighN x) (fun k t n ks ih=>?_) x
 rw[sizeN,weighN]
 have:∀l:List Nd,(∀x∈l,sizeN x≤weighN x)→sizeL l≤weighL l:=fun l=>by
  induction l with
  |nil=>intro _;simp[sizeL,weighL]
  |cons a l ih=>intro h;have:=ih fun x hx=>h x (List.mem_cons_of_mem _ hx);have:=h a (List.mem_cons_self ..);rw[sizeL,weighL];omega
 have:=this ks ih
 omega
theorem depth_size(x:Nd):depthN x≤sizeN x:=by
 refine mS (p:=fun x=>depthN x≤sizeN x) (fun k t n ks ih=>?_) x
 rw[depthN,sizeN]
 have:∀l:List Nd,(∀x∈l,depthN x≤sizeN x)→depthL l≤sizeL l:=fun l=>by
  induction l with
  |nil=>intro _;simp[sizeL,depthL]
  |cons a l ih=>intro h;have:=ih fun x hx=>h x (List.mem_cons_of_mem _ hx);have:=h a (List.mem_cons_self ..);rw[sizeL,depthL];omega
 have:=this ks ih
 omega
mutual
def sameN:Nd→Nd→Bool
 | .mk k t n ks,.mk k' t' n' ks'=>decide (k=k')&&decide (t=t')&&decide (n=n')&&sameL ks ks'
def sameL:List Nd→List Nd→Bool
 |[],[]=>true
 |a::r,b::s=>sameN a b&&sameL r s
 |_,_=>false
end
mutual
theorem sameN_iff:∀a b:Nd,sameN a b=true↔a=b
 | .mk k t n ks,.mk k' t' n' ks'=>by
  rw[sameN]
  simp only[Bool.and_eq_true,decide_eq_true_eq,sameL_iff ks ks',Nd.mk.injEq]
  exact⟨fun⟨⟨⟨a,b⟩,c⟩,d⟩=>⟨a,b,c,d⟩,fun⟨a,b,c,d⟩=>⟨⟨⟨a,b⟩,c⟩,d⟩⟩
theorem sameL_iff:∀a b:List Nd,sameL a b=true↔a=b
 |[],[]=>by simp[sameL]
 |[],b::s=>by simp[sameL]
 |a::r,[]=>by simp[sameL]
 |a::r,b::s=>by
  rw[sameL]
  simp only[Bool.and_eq_true,sameN_iff a b,sameL_iff r s,List.cons.injEq]
end
instance:DecidableEq Nd:=fun a b=>decidable_of_iff _ (sameN_iff a b)
end Go.Eng
namespace Go.Eng
def cZ:List aN:=[[118,97,114],[114,101,99],[99,104,97,110],[108,111,99,107],[102,105,108,101],[112,114,111,99],[116,101,115,116],[],[],[],[],[105,102],[119,104,105,108,101],[103,111],[99,97,108,108],[115,101,110,100],[114,101,99,118],[97,99,113,117,105,114,101],[114,101,108,101,97,115,101],[100,114,97,119],[110,111,119],[115,108,101,101,112],[119,114,105,116,101],[114,101,97,100],[99,104,101,99,107],[97,108,108,111,99]]
def nH:List (Int×Int):=[(-999,999),(0,0),(0,3),(0,0),(0,0),(0,0),(0,0),(-999,999),(0,0),(0,0),(0,0),(0,0),(0,0),(0,0),(0,0),(0,0),(0,0),(0,0),(0,0),(2,6),(0,0),(1,9),(0,0),(0,0),(0,0),(1,99),(0,0),(0,0),(0,0),(0,0),(0,0),(0,0),(0,999),(0,0),(0,0),(0,0),(0,0)]
def zE:List (aN×Int):=[([60],1),([60,61],1),([61,61],1),([43],2),([45],2),([42],3)]
def cF:aN:=[101,108,115,101]
def jJ:aN:=[107,105,110,100]
theorem Bk:cZ.length=26:=rfl
theorem DD:nH.length=37:=rfl
def aV(c:UInt8):Bool:=decide (97≤c)&&decide (c≤122)
def aO(c:UInt8):Bool:=decide (48≤c)&&decide (c≤57)
def iX(p:UInt8→Bool):aN→Nat
 |[]=>0
 |c::r=>if p c then iX p r+1 else 0
theorem CQ(p:UInt8→Bool):∀s:aN,iX p s≤s.length
 |[]=>Nat.le_refl _
 |c::r=>by
  have:=CQ p r
  unfold iX;split<;>simp only[List.length_cons]<;>omega
theorem wZ{p:UInt8→Bool}:∀{s:aN} {i:Nat} (h:i<s.length),i<iX p s→p s[i]=true
 |c::r,0,_,h=>by
  unfold iX at h
  split at h
  ·assumption
  ·omega
 |c::r,i+1,hi,h=>by
  unfold iX at h
  split at h
  ·simpa using wZ (s:=r) (by simpa using hi) (by omega)
  ·omega
theorem Fa{p:UInt8→Bool}:∀{s:aN} (h:iX p s<s.length),p s[iX p s]=false
 |[],h=>by simp at h
 |c::r,h=>by
  by_cases q:p c=true
  ·have e:iX p (c::r)=iX p r+1:=by rw[iX,if_pos q]
   have h':iX p r<r.length:=by rw[e]at h;simpa using h
   have:=Fa h'
   simp only[e]
   simpa using this
  ·have e:iX p (c::r)=0:=by rw[iX,if_neg q]
   simp only[e]
   simpa using q
theorem Qq{p:UInt8→Bool}{s:aN}{n:Nat}(hn:n≤s.length)(h:∀i (hi:i<n),p (s[i]'(by omega))=true)(hs:∀hl:n<s.length,p s[n]=false):iX p s=n:=by
 rcases Nat.lt_trichotomy (iX p s) n with q|q|q
 ·have:=Fa (p:=p) (s:=s) (by omega)
  rw[h _ q]at this;cases this
 ·exact q
 ·have hl:=CQ p s
  have:=wZ (p:=p) (show n<s.length by omega) q
  rw[hs (by omega)]at this;cases this
def dR(s:aN):Nat:=match s with
 |[]=>0
 |c::_=>if aV c then(if iX (fun c=>aV c||aO c) s≤16 then iX (fun c=>aV c||aO c) s else 0)else 0
def mL:aN:=[40,41,123,125,61,43,45,42,60,59,46]
def bV(s:aN):Nat:=match s with
 |[]=>0
 |c::r=>if aV c then dR s else if c=36 then(if 0<dR r then dR r+1 else 0)
  else if aO c then(if iX aO s≤3 then iX aO s else 0)
  else if s.take 2=[60,61]∨s.take 2=[61,61]then 2 else if c∈mL then 1 else 0
def qC(s:aN):Bool:=decide (s=cF)||decide (s=jJ)||decide (s∈cZ)
def jO(s:aN):Bool:=match s with
 |[]=>false
 |c::_=>aV c&& !qC s
def cC(s:aN)(named:Bool):Bool:=decide (s≠[])&&decide (dR s=s.length)&&(!named||jO s)
end Go.Eng
namespace Go.Eng
def oX(n:Nat):aN:=if n<10 then [UInt8.ofNat (48+n)]else if n<100 then [UInt8.ofNat (48+n / 10),UInt8.ofNat (48+n%10)]else [UInt8.ofNat (48+n / 100),UInt8.ofNat (48+n / 10%10),UInt8.ofNat (48+n%10)]
def fC(n:Int):aN:=if n<0 then 45::oX n.natAbs else oX n.toNat
def bC(k:Int):aN:=cZ.getD k.toNat []
def dZ(k:Int):Int:=(nH.getD k.toNat (0,0)).1
def eC(k:Int):Int:=(nH.getD k.toNat (0,0)).2
def mD(k:Int):aN:=(zE.getD (k-26).toNat ([],0)).1
def bM(k:Int):Int:=(zE.getD (k-26).toNat ([],0)).2
def cG(k:Int):Bool:=decide (9≤k)&&decide (k≤25)
def tY(k:Int):Bool:=decide (k=7)
def cL(k:Int):Bool:=decide (k=8)
def aH(k:Int):Bool:=decide (26≤k)&&decide (k≤36)
theorem Cg{k:Int}:aH k=true↔26≤k∧k≤36:=by simp[aH]
theorem tZ{k:Int}:cG k=true↔9≤k∧k≤25:=by simp[cG]
def gG(k:Int):Bool:=decide (k=34)||decide (k=35)
theorem vU{k:Int}:gG k=true↔k=34∨k=35:=by simp[gG]
def pF(k:Int):Bool:=decide (k=33)
def cT:List Nd→List (Int→Bool)→Bool
 |[],[]=>true
 |x::r,f::l=>f x.kind&&cT r l
 |_,_=>false
def cU(k:Int)(ks:List Nd):Bool:=
 if k=1 then ks.all fun y=>tY y.kind
 else if k=8 then ks.all fun y=>cG y.kind
 else if k=5∨k=6 then cT ks [cL]
 else if k=9∨k=15∨k=22∨k=24 then cT ks [aH]
 else if k=10 then cT ks [gG,aH]
 else if k=11 then cT ks [aH,cL]||cT ks [aH,cL,cL]
 else if k=12 then cT ks [aH,cL]
 else if k=16∨k=23 then cT ks [pF]
 else if 26≤k∧k≤31 then cT ks [aH,aH]
 else cT ks []
def fW(x:Nd):Bool:=cU x.kind x.kids
def lI(c:UInt8):aN→Option (aN×aN)
 |[]=>none
 |d::r=>if d=c then some ([],r)else(lI c r).map fun q=>(d::q.1,q.2)
def xA(t:aN):Bool:=match lI 46 t with
 |some (a,b)=>cC a true&&cC b true
 |none=>false
def jK(k:Int)(t:aN):Bool:=
 if k=9∨k=19∨k=20∨k=33 then cC t false
 else if k=35 then xA t
 else if k=8∨k=10∨k=11∨k=12∨k=21∨k=24∨k=25∨(26≤k∧k≤32)∨k=36 then decide (t=[])
 else cC t true
def lE(k:Int)(t:aN)(n:Int):Bool:=decide (dZ k≤n)&&decide (n≤eC k)&&jK k t
def jP(x:Nd):Bool:=lE x.kind x.text x.n
mutual
def aG:Nd→Bool
 | .mk k t n ks=>decide (0≤k)&&decide (k<37)&&fW (.mk k t n ks)&&jP (.mk k t n ks)&&qP ks
def qP:List Nd→Bool
 |[]=>true
 |x::r=>aG x&&qP r
end
theorem rightL_all:∀l:List Nd,qP l=l.all aG
 |[]=>rfl
 |x::r=>by rw[qP,rightL_all r];rfl
theorem right_mk{k:Int}{t:aN}{n:Int}{ks:List Nd}:aG (.mk k t n ks)=true↔0≤k∧k<37∧cU k ks=true∧dZ k≤n∧n≤eC k∧jK k t=true∧∀x∈ks,aG x=true:=by
 rw[aG,rightL_all]
 have e1:fW (.mk k t n ks)=cU k ks:=rfl
 have e2:jP (.mk k t n ks)=lE k t n:=rfl
 rw[e1,e2]
 simp only[Bool.and_eq_true,decide_eq_true_eq,lE,List.all_eq_true]
 exact⟨fun⟨⟨⟨⟨a,b⟩,c⟩,⟨d,e⟩,f⟩,g⟩=>⟨a,b,c,d,e,f,g⟩,fun⟨a,b,c,d,e,f,g⟩=>⟨⟨⟨⟨a,b⟩,c⟩,⟨d,e⟩,f⟩,g⟩⟩
theorem rightN_eq(x:Nd):aG x=(decide (0≤x.kind)&&decide (x.kind<37)&&fW x&&jP x&&x.kids.all aG):=by
 cases x;rw[aG,rightL_all];rfl
def paren(c:Bool)(t:aN):aN:=if c then 40::t++[41]else t
def lvlN(k:Int):Int:=if 26≤k∧k≤31 then bM k else 4
def exprT:Nd→aN
 | .mk k t n ks=>if k=32 then fC n else if k=33 then 36::t else if k=36 then jJ else if k=34∨k=35 then t else match ks with
  |[a,b]=>paren (decide (lvlN a.kind<(if bM k=1 then 2 else bM k))) (exprT a)++32::(mD k++32::paren (decide (lvlN b.kind<bM k+1)) (exprT b))
  |_=>[]
def withN(n:Int):aN:=if 0<n then 32::fC n else []
def withE(ks:List Nd):aN:=ks.flatMap fun x=>32::exprT x
def midT(k:Int)(t:aN):aN:=if k=19∨k=20 then 32::36::t else if k=21∨k=25∨k=24 then []else 32::t
mutual
def stmtT:Nd→aN
 | .mk k t n ks=>if k=9 then(match ks with|[e]=>36::t++32::61::32::(exprT e++[59])|_=>[])
  else if k=10 then(match ks with|[p,e]=>exprT p++32::61::32::(exprT e++[59])|_=>[])
  else if k=11∨k=12 then(match ks with
   |[e,b]=>bC k++32::(exprT e++32::blockT b)
   |[e,b,c]=>bC k++32::(exprT e++32::blockT b)++32::(cF++32::blockT c)
   |_=>[])
  else bC k++midT k t++withN n++withE ks++[59]
def blockT:Nd→aN
 | .mk _ _ _ ks=>123::32::(stmtsT ks++[125])
def stmtsT:List Nd→aN
 |[]=>[]
 |x::r=>stmtT x++32::stmtsT r
end
def itemT(x:Nd):aN:=x.text++32::61::32::(fC x.n++[59,32])
def textT(x:Nd):aN:=
 let o:=bC x.kind++32::x.text
 if x.kind=5∨x.kind=6 then(match x.kids with|[b]=>o++32::blockT b|_=>[])
 else if x.kind=1 then o++32::123::32::(x.kids.flatMap itemT++[125])
 else if x.kind=0 then o++32::61::32::(fC x.n++[59])
 else if x.kind=2 then o++32::(fC x.n++[59])
 else o++[59]
def validB(x:Nd):Bool:=decide (0≤x.kind)&&decide (x.kind≤6)&&decide (depthN x≤24)&&aG x&&decide ((textT x).length≤1024)
def printS(x:Nd):aN:=if validB x then textT x else []
def headK(x:Nd):Int:=if validB x then x.kind else -1
def headT(x:Nd):aN:=if validB x then x.text else []
end Go.Eng
namespace Go.Eng
structure Tk where
 text:aN
 at_:Int
 deriving DecidableEq,Inhabited
def Tk.d(t:Tk):DV:=.agg [.str t.text,aD t.at_]
def lW:Nat→aN→Int→List Tk×Int
 |0,_,i=>([],i)
 |f+1,s,i=>match s with
  |[]=>([],i)
  |c::r=>if c=32∨c=10 then lW f r (i+1)else if bV s=0 then([],i)else
   (⟨s.take (bV s),i⟩::(lW f (s.drop (bV s)) (i+bV s)).1,(lW f (s.drop (bV s)) (i+bV s)).2)
def eS(s:aN):List Tk×Int:=lW s.length s 0
structure PS where
 l:List Tk
 e:Int
 deriving DecidableEq,Inhabited
def PS.peek(p:PS):aN:=if p.e≠0 then []else match p.l with|[]=>[]|t::_=>t.text
def PS.fail(p:PS)(e:Int):PS:=if p.e=0 then⟨p.l,e⟩else p
def PS.skip(p:PS):PS:=⟨p.l.tail,p.e⟩
def PS.is(p:PS)(s:aN):Bool:=decide (s≠[])&&decide (p.peek=s)
def PS.took(p:PS)(s:aN):PS:=if p.is s then p.skip else p
def PS.need(p:PS)(s:aN):PS:=if p.is s then p.skip else p.fail 2
def aM(p:PS):aN×PS:=if jO p.peek then(p.peek,p.skip)else([],p.fail 2)
def aU(p:PS):aN×PS:=match p.peek with
 |36::r=>(r,p.skip)
 |_=>([],p.fail 2)
def qJ(s:aN):Int:=s.foldl (fun n c=>10*n+((c.toNat:Int)- 48)) 0
def aP(k:Int)(p:PS):Int×PS:=match p.peek with
 |[]=>(0,p.fail 2)
 |c::r=>if aO c then(if qJ (c::r)<dZ k∨eC k<qJ (c::r)then(0,p.fail 5)else(qJ (c::r),p.skip))else(0,p.fail 2)
def bK(p:PS):Int×PS:=if p.is [45]then(-(aP 0 p.skip).1,(aP 0 p.skip).2)else aP 0 p
def aX(p:PS):Nd×PS:=
 if(aM p).2.is [46]then(.mk 35 ((aM p).1++46::(aM (aM p).2.skip).1) 0 [],(aM (aM p).2.skip).2)
 else(.mk 34 (aM p).1 0 [],(aM p).2)
def qD(lv:Int)(s:aN):Int:=match(List.range 6).find? (fun i=>decide ((zE.getD i ([],0)).2=lv)&&decide ((zE.getD i ([],0)).1=s))with
 |some i=>i
 |none=> -1
def opP(lv:Int)(p:PS):Int×PS:=(qD lv p.peek,if 0≤qD lv p.peek then p.skip else p)
def chainF(lv:Int)(x:PS→Nd×PS):Nat→Nd→PS→Nd×PS
 |0,n,p=>(n,p)
 |f+1,n,p=>if p.e≠0 then(n,p)else if(opP lv p).1<0 then(n,(opP lv p).2)else
  chainF lv x f (.mk (26+(opP lv p).1) [] 0 [n,(x (opP lv p).2).1]) (x (opP lv p).2).2
def gD(lv:Int)(x:PS→Nd×PS)(p:PS):Nd×PS:=chainF lv x ((x p).2.l.length+1) (x p).1 (x p).2
def dS(ex:PS→Nd×PS)(p:PS):Nd×PS:=
 if p.is [40]then((ex p.skip).1,(ex p.skip).2.need [41])
 else if p.is jJ then(.mk 36 [] 0 [],p.skip)
 else match p.peek with
  |c::_=>if aO c then(.mk 32 [] (aP 32 p).1 [],(aP 32 p).2)else if c=36 then(.mk 33 (aU p).1 0 [],(aU p).2)else aX p
  |[]=>aX p
def uT(ex:PS→Nd×PS)(p:PS):Nd×PS:=gD 3 (dS ex) p
def eA(ex:PS→Nd×PS)(p:PS):Nd×PS:=gD 2 (uT ex) p
def exprB(ex:PS→Nd×PS)(p:PS):Nd×PS:=
 let a:=eA ex p
 if 0≤(opP 1 a.2).1 then(.mk (26+(opP 1 a.2).1) [] 0 [a.1,(eA ex (opP 1 a.2).2).1],(eA ex (opP 1 a.2).2).2)else(a.1,(opP 1 a.2).2)
def iZ:Nd:=.mk 0 [] 0 []
def dD(r:Bool):Nat→PS→Nd×PS
 |0,p=>(default,p)
 |f+1,p=>if r=true∧p.e≠0 then(iZ,p)else exprB (dD r f) p
def eE(st:PS→Nd×PS):Nat→List Nd→PS→List Nd×PS
 |0,ks,p=>(ks,p)
 |f+1,ks,p=>if p.e≠0∨p.peek=[125]then(ks,p)else eE st f (ks++[(st p).1]) (st p).2
def fU(st:PS→Nd×PS)(p:PS):Nd×PS:=
 let q:=p.need [123]
 let r:=eE st (q.l.length+1) [] q
 (.mk 8 [] 0 r.1,r.2.need [125])
def HI(s:aN):Int:=match(List.range 26).find? (fun i=>decide (cZ.getD i []=s))with
 |some i=>i
 |none=> -1
def dT(s:aN):Int:=if s=[]then -1 else HI s
def mE(ex:PS→Nd×PS)(k:Int)(p:PS):Nd×PS:=
 let a:aN×PS:=if k=19∨k=20 then aU p else if k=21∨k=25∨k=24 then([],p)else aM p
 if k=15∨k=22∨k=24 then(.mk k a.1 0 [(ex a.2).1],(ex a.2).2)
 else if k=16∨k=23 then(.mk k a.1 0 [.mk 33 (aU a.2).1 0 []],(aU a.2).2)
 else if k=19∨k=21∨k=25 then(.mk k a.1 (aP k a.2).1 [],(aP k a.2).2)
 else(.mk k a.1 0 [],a.2)
def gH(ex bl:PS→Nd×PS)(p:PS):Nd×PS:=
 let k:=dT p.peek
 if k=11∨k=12 then
  let e:=ex p.skip
  let b:=bl e.2
  if k=11∧b.2.is cF=true then(.mk k [] 0 [e.1,b.1,(bl b.2.skip).1],(bl b.2.skip).2)else(.mk k [] 0 [e.1,b.1],b.2)
 else if 12<k then((mE ex k p.skip).1,(mE ex k p.skip).2.need [59])
 else match p.peek with
  |36::_=>(.mk 9 (aU p).1 0 [(ex ((aU p).2.need [61])).1],(ex ((aU p).2.need [61])).2.need [59])
  |_=>(.mk 10 [] 0 [(aX p).1,(ex ((aX p).2.need [61])).1],(ex ((aX p).2.need [61])).2.need [59])
def kS(r:Bool):Nat→PS→Nd×PS
 |0,p=>(default,p)
 |f+1,p=>gH (fun q=>dD r (q.l.length+1) q) (fU (kS r f)) p
def qQ(r:Bool)(f:Nat)(p:PS):Nd×PS:=fU (kS r f) p
def lL:Nat→List Nd→PS→List Nd×PS
 |0,ks,p=>(ks,p)
 |f+1,ks,p=>if p.e≠0∨p.peek=[125]then(ks,p)else
  let a:=aM p
  let v:=bK (a.2.need [61])
  lL f (ks++[.mk 7 a.1 v.1 []]) (v.2.need [59])
def dG(s:aN):Int:=if s=[]then -1 else(match(List.range 7).find? (fun i=>decide (cZ.getD i []=s))with|some i=>(i:Int)|none=> -1)
def kP(r:Bool)(p:PS):Nd×PS:=
 let k:=dG p.peek
 if k<0 then(.mk 0 [] 0 [],p.fail 2)else
 let a:=aM p.skip
 if k=5∨k=6 then(.mk k a.1 0 [(qQ r (a.2.l.length+1) a.2).1],(qQ r (a.2.l.length+1) a.2).2)
 else if k=1 then
  let q:=a.2.need [123]
  let t:=lL (q.l.length+1) [] q
  (.mk k a.1 0 t.1,t.2.need [125])
 else if k=0 then(.mk k a.1 (bK (a.2.need [61])).1 [],(bK (a.2.need [61])).2.need [59])
 else if k=2 then(.mk k a.1 (aP 2 a.2).1 [],(aP 2 a.2).2.need [59])
 else(.mk k a.1 0 [],a.2.need [59])
def dW(s:aN):Nd×Int×Int:=
 if 1024<s.length then(iZ,1024,4)else
 let t:=eS s
 let r:=kP false ⟨t.1,0⟩
 match r.2.l with
 |x::_=>(iZ,x.at_,if r.2.e≠0 then r.2.e else 2)
 |[]=>if r.2.e≠0∨t.2<s.length then(iZ,t.2,2)else if validB r.1 then(r.1,0,0)else(iZ,0,4)
example:(dW [118,97,114,32,110,61,45,55,59]).1=.mk 0 [110] (-7) []:=by decide
example:dW [99,104,97,110,32,99,32,52,59]=(iZ,7,5):=by decide
example:dW [116,101,115,116,32,116,32,123,32,120,32,61,32,59,32,125]=(iZ,13,2):=by decide
example:dW [108,111,99,107,32,108]=(iZ,6,2):=by decide
example:dW [118,97,114,32,114,101,97,100,32,61,32,49,59]=(iZ,4,2):=by decide
example:sizeN (dW [112,114,111,99,32,112,123,36,97,61,40,120,46,121,43,49,41,42,50,59,105,102,32,36,97,60,51,123,103,111,32,113,59,125,101,108,115,101,123,125,125]).1=15:=by decide
example:printS (dW [112,114,111,99,32,112,123,36,97,61,40,120,46,121,43,49,41,42,50,59,105,102,32,36,97,60,51,123,103,111,32,113,59,125,101,108,115,101,123,125,125]).1=[112,114,111,99,32,112,32,123,32,36,97,32,61,32,40,120,46,121,32,43,32,49,41,32,42,32,50,59,32,105,102,32,36,97,32,60,32,51,32,123,32,103,111,32,113,59,32,125,32,101,108,115,101,32,123,32,125,32,125]:=by decide
end Go.Eng
namespace Go.Eng
def Ch:List aN:=[[97],[98],[120],[98,111,120],[113],[119,50],[99,104,101,99,107,115],[108,111,110,103,101,115,116,110,97,109,101,49,50,51,52,53]]
def HJ:List aN:=[[97],[105],[114,101,97,100],[108,111,110,103,101,115,116,108,111,99,97,108,49,50,51,52]]
def dA(L:List Int)(i:Nat):aN:=Ch.getD (eN L i 8).toNat []
def mW(L:List Int)(i:Nat):aN:=HJ.getD (eN L i 4).toNat []
def cJ(L:List Int)(i:Nat):Nd×Nat:=if 0<eN L i 3 then(.mk 34 (dA L (i+1)) 0 [],i+2)else(.mk 35 (dA L (i+1)++46::dA L (i+2)) 0 [],i+3)
def Av:List Int:=[0,1,2,7,10,999]
def aF(L:List Int):Nat→Nat→Nd×Nat
 |d,i=>
  let k:=if d=0∨L.length<i+1 then(eN L i 12).tmod 6 else eN L i 12
  if k=0∨k=1 then(.mk 32 [] (Av.getD (eN L (i+1) 6).toNat 0) [],i+2)
  else if k=2 then(.mk 33 (mW L (i+1)) 0 [],i+2)
  else if k=3∨k=4 then cJ L (i+1)
  else if k=5 then(.mk 36 [] 0 [],i+1)
  else match d with
   |0=>default
   |e+1=>(.mk (26+k-6) [] 0 [(aF L e (i+1)).1,(aF L e (aF L e (i+1)).2).1],(aF L e (aF L e (i+1)).2).2)
def fG(L:List Int)(st:Nat→Nd×Nat):Nat→List Nd→Nat→List Nd×Nat
 |0,ks,i=>(ks,i)
 |m+1,ks,i=>if L.length≤i then(ks,i)else fG L st m (ks++[(st i).1]) (st i).2
def rA(L:List Int)(st:Nat→Nd×Nat)(i:Nat):Nd×Nat:=
 let r:=fG L st (eN L i 4).toNat [] (i+1)
 (.mk 8 [] 0 r.1,r.2)
def Bl(L:List Int)(d:Nat)(bl:Nat→Nd×Nat)(i0:Nat):Nd×Nat:=
 let k0:=9+eN L i0 17
 let k:=if d=0∧(k0=11∨k0=12)then 24 else k0
 let i:=i0+1
 if k=9 then(.mk k (mW L i) 0 [(aF L 2 (i+1)).1],(aF L 2 (i+1)).2)
 else if k=10 then(.mk k [] 0 [(cJ L i).1,(aF L 2 (cJ L i).2).1],(aF L 2 (cJ L i).2).2)
 else if k=11∨k=12 then
  let e:=aF L 1 i
  let b:=bl e.2
  if k=11 then(if eN L b.2 2=0 then(.mk k [] 0 [e.1,b.1,(bl (b.2+1)).1],(bl (b.2+1)).2)else(.mk k [] 0 [e.1,b.1],b.2+1))
  else(.mk k [] 0 [e.1,b.1],b.2)
 else if k=13∨k=14∨k=17∨k=18 then(.mk k (dA L i) 0 [],i+1)
 else if k=15∨k=22 then(.mk k (dA L i) 0 [(aF L 1 (i+1)).1],(aF L 1 (i+1)).2)
 else if k=16∨k=23 then(.mk k (dA L i) 0 [.mk 33 (mW L (i+1)) 0 []],i+2)
 else if k=19 then(.mk k (mW L i) (2+eN L (i+1) 5) [],i+2)
 else if k=20 then(.mk k (mW L i) 0 [],i+1)
 else if k=21 then(.mk k [] (1+eN L i 9) [],i+1)
 else if k=25 then(.mk k [] (1+eN L i 99) [],i+1)
 else(.mk k [] 0 [(aF L 2 i).1],(aF L 2 i).2)
def mF(L:List Int):Nat→Nat→Nd×Nat
 |0,i=>Bl L 0 (fun _=>default) i
 |d+1,i=>Bl L (d+1) (rA L (mF L d)) i
def iM:List Int:=[5,6,5,6,5,0,1,2,3,4]
def nY(L:List Int):Nat→List Nd→Nat→List Nd
 |0,ks,_=>ks
 |m+1,ks,i=>if L.length≤i then ks else nY L m (ks++[(mF L 2 i).1]) (mF L 2 i).2
def nI(L:List Int):Nat→List Nd
 |0=>[]
 |j+1=>nI L j++[.mk 7 (dA L (3+2*j)) (eN L (4+2*j) 1999-999) []]
def sK(L:List Int):Nd:=
 let k:=iM.getD (eN L 0 10).toNat 0
 let t:=dA L 1
 if k=0 then .mk k t (eN L 2 1999-999) []
 else if k=2 then .mk k t (eN L 2 4) []
 else if k=1 then .mk k t 0 (nI L (eN L 2 4).toNat)
 else if k=5∨k=6 then .mk k t 0 [.mk 8 [] 0 (nY L L.length [] 2)]
 else .mk k t 0 []
def uA(l:List Int):Nd:=sK (l.take 48)
def rF(l:List Int):aN:=exprT (aF (l.take 20) 3 0).1
def pV:List aN:=[[],[120],[118,97,114],[88],[120,32,121],[108,111,110,103,101,114,110,97,109,101,49,50,51,52,53,54,55],[49,120],[97,46,98],[97,46,98,46,99],[46,97],[97,46],[114,101,97,100],[114,101,97,100,46,120],[120,46,107,105,110,100]]
def rG:List Int:=[0,1, -1,1000, -999, -1000,999,2,3,4,6,7,9,10,99,100]
def qE(x:Nd)(how b:Int):Nd:=
 let c:=fF how 5
 if c=0 then .mk (fF b 40-2) x.text x.n x.kids
 else if c=1 then .mk x.kind (pV.getD (fF b 14).toNat []) x.n x.kids
 else if c=2 then .mk x.kind x.text (rG.getD (fF b 16).toNat 0) x.kids
 else if c=3 then .mk x.kind x.text x.n (x.kids++[.mk 32 [] 0 []])
 else .mk x.kind x.text x.n (x.kids.take (x.kids.length / 2))
mutual
def qR:Nd→Int→Int→Int→Nd
 | .mk k t n ks,a,how,b=>
  let j:=fF a (ks.length+1:Nat)
  if j<ks.length then .mk k t n (DE ks j.toNat (a.tdiv (ks.length+1:Nat)) how b)else qE (.mk k t n ks) how b
def DE:List Nd→Nat→Int→Int→Int→List Nd
 |[],_,_,_,_=>[]
 |x::r,0,a,how,b=>qR x a how b::r
 |x::r,j+1,a,how,b=>x::DE r j a how b
end
theorem spoilL_set:∀(ks:List Nd) (j:Nat) (a how b:Int) (hj:j<ks.length),DE ks j a how b=ks.set j (qR ks[j] a how b)
 |[],_,_,_,_,h=>by simp at h
 |x::r,0,_,_,_,_=>by rw[DE];rfl
 |x::r,j+1,a,how,b,h=>by rw[DE,spoilL_set r j a how b (by simpa using h)];rfl
def sepsL:List aN:=[[32],[10],[32,32,10,32]]
def signB(c:UInt8):Bool:=decide (c∈mL)
def firstIs(p:UInt8→Bool)(w:aN):Bool:=match w with|[]=>false|c::_=>p c
def spacedTo(ts:List Tk)(l:List Int):Nat→aN
 |0=>[]
 |i+1=>
  let out:=spacedTo ts l i
  let w:=(ts.getD i default).text
  let k:=eN l i 6
  let need:=match out.getLast? with
   |none=>false
   |some c=>(firstIs aV w||firstIs aO w)&&decide (c≠32)&&decide (c≠10)&& !signB c
  (if decide (k<3)||need||(decide (0<i)&&(decide (w=[61])||decide (w=[61,61])))then out++sepsL.getD (k.tmod 3).toNat []else out)++w
def spacedS(s:aN)(l:List Int):aN:=spacedTo (eS s).1 l (eS s).1.length
end Go.Eng
namespace Go.Eng
def vL{α:Type}(x:PS→α×PS):Prop:=∀p,(x p).2.e=0→p.e=0
theorem qS{p:PS}{e:Int}(he:e≠0):(p.fail e).e≠0:=by
 unfold PS.fail;split
 ·exact he
 ·assumption
theorem jA{p:PS}{s:aN}(h:(p.need s).e=0):p.is s=true∧p.e=0:=by
 unfold PS.need at h
 split at h
 ·rename_i q;exact⟨q,h⟩
 ·exact absurd h (qS (by decide))
theorem rH:vL aM:=fun p h=>by
 unfold aM at h
 split at h
 ·exact h
 ·exact absurd h (qS (by decide))
theorem tG:vL aU:=fun p h=>by
 unfold aU at h
 split at h
 ·exact h
 ·exact absurd h (qS (by decide))
theorem qT(k:Int):vL (aP k):=fun p h=>by
 unfold aP at h
 split at h
 ·exact absurd h (qS (by decide))
 ·split at h
  ·split at h
   ·exact absurd h (qS (by decide))
   ·exact h
  ·exact absurd h (qS (by decide))
theorem HK:vL bK:=fun p h=>by
 unfold bK at h
 split at h
 ·exact qT 0 p.skip h
 ·exact qT 0 _ h
theorem zQ:vL aX:=fun p h=>by
 unfold aX at h
 split at h
 ·exact rH p (rH (aM p).2.skip h)
 ·exact rH p h
theorem yB(lv:Int):vL (opP lv):=fun p h=>by
 unfold opP at h
 simp only at h
 split at h<;>exact h
theorem JA{lv:Int}{x:PS→Nd×PS}(hx:vL x):∀(f:Nat) (n:Nd) (p:PS),(chainF lv x f n p).2.e=0→p.e=0
 |0,_,_,h=>h
 |f+1,n,p,h=>by
  unfold chainF at h
  split at h
  ·exact h
  ·rename_i q;simpa using q
theorem DF{lv:Int}{x:PS→Nd×PS}(hx:vL x):vL (gD lv x):=fun p h=>hx p (JA hx _ _ _ h)
theorem LQ{ex:PS→Nd×PS}(hx:vL ex):vL (dS ex):=fun p h=>by
 unfold dS at h
 split at h
 ·exact hx p.skip (jA h).2
 ·split at h
  ·exact h
  ·split at h
   ·split at h
    ·exact qT 32 p h
    ·split at h
     ·exact tG p h
     ·exact zQ p h
   ·exact zQ p h
theorem xB{ex:PS→Nd×PS}(hx:vL ex):vL (eA ex):=DF (DF (LQ hx))
theorem LR{ex:PS→Nd×PS}(hx:vL ex):vL (exprB ex):=fun p h=>by
 unfold exprB at h
 simp only at h
 split at h
 ·exact xB hx p (yB 1 _ (xB hx _ h))
 ·exact xB hx p (yB 1 _ h)
theorem yC(r:Bool):∀f,vL (dD r f)
 |0=>fun p h=>h
 |f+1=>fun p h=>by
  unfold dD at h
  split at h
  ·exact h
  ·exact LR (yC r f) p h
theorem DG{st:PS→Nd×PS}(hs:vL st):∀(f:Nat) (ks:List Nd) (p:PS),(eE st f ks p).2.e=0→p.e=0
 |0,_,_,h=>h
 |f+1,ks,p,h=>by
  unfold eE at h
  split at h
  ·exact h
  ·exact hs p (DG hs f _ _ h)
theorem tH{st:PS→Nd×PS}(hs:vL st):vL (fU st):=fun p h=>by
 unfold fU at h
 exact(jA (DG hs _ _ _ (jA h).2)).2
theorem NX{ex:PS→Nd×PS}(hx:vL ex)(k:Int):vL (mE ex k):=fun p h=>by
 have ha:(if k=19∨k=20 then aU p else if k=21∨k=25∨k=24 then([],p)else aM p).2.e=0→p.e=0:=fun h=>by
  split at h
  ·exact tG p h
  ·split at h
   ·exact h
   ·exact rH p h
 unfold mE at h
 generalize(if k=19∨k=20 then aU p else if k=21∨k=25∨k=24 then([],p)else aM p)=a at h ha
 simp only at h
 split at h
 ·exact ha (hx _ h)
 ·split at h
  ·exact ha (tG _ h)
  ·split at h
   ·exact ha (qT _ _ h)
   ·exact ha h
theorem LS{ex bl:PS→Nd×PS}(hx:vL ex)(hb:vL bl):vL (gH ex bl):=fun p h=>by
 unfold gH at h
 simp only at h
 split at h
 ·split at h
  ·exact hx p.skip (hb _ (hb (bl (ex p.skip).2).2.skip h))
  ·exact hx p.skip (hb _ h)
 ·split at h
  ·exact NX hx _ p.skip (jA h).2
  ·split at h
   ·exact tG p (jA (hx _ (jA h).2)).2
   ·exact zQ p (jA (hx _ (jA h).2)).2
theorem sS(r:Bool):vL fun q=>dD r (q.l.length+1) q:=fun p h=>yC r _ p h
theorem mT(r:Bool):∀f,vL (kS r f)
 |0=>fun p h=>h
 |f+1=>fun p h=>LS (sS r) (tH (mT r f)) p h
def Rl(x y:Nd×PS):Prop:=x.2=y.2∧(x.2.e=0→x.1=y.1)
def Rf(x y:PS→Nd×PS):Prop:=∀p,Rl (x p) (y p)
theorem Rl.refl(x:Nd×PS):Rl x x:=⟨rfl,fun _=>rfl⟩
theorem Fb{lv:Int}{x y:PS→Nd×PS}(hx:Rf x y):∀(f:Nat) (n m:Nd) (p:PS),(p.e=0→n=m)→Rl (chainF lv x f n p) (chainF lv y f m p)
 |0,_,_,_,h=>⟨rfl,h⟩
 |f+1,n,m,p,h=>by
  unfold chainF
  split
  ·exact⟨rfl,h⟩
  ·rename_i q
   have hp:p.e=0:=by simpa using q
   split
   ·exact⟨rfl,fun _=>h hp⟩
   ·obtain⟨h1,h2⟩:=hx (opP lv p).2
    rw[←h1]
    exact Fb hx f _ _ _ fun he=>by rw[h hp,h2 he]
theorem Fc{lv:Int}{x y:PS→Nd×PS}(hx:Rf x y):Rf (gD lv x) (gD lv y):=fun p=>by
 unfold gD
 obtain⟨h1,h2⟩:=hx p
 rw[←h1]
 exact Fb hx _ _ _ _ h2
theorem NY{x y:PS→Nd×PS}(hx:Rf x y):Rf (dS x) (dS y):=fun p=>by
 unfold dS
 split
 ·obtain⟨h1,h2⟩:=hx p.skip
  rw[←h1]
  exact⟨rfl,fun h=>h2 (jA h).2⟩
 ·exact Rl.refl _
theorem KP{x y:PS→Nd×PS}(hx:Rf x y):Rf (eA x) (eA y):=Fc (Fc (NY hx))
theorem NZ{x y:PS→Nd×PS}(hs:vL x)(hx:Rf x y):Rf (exprB x) (exprB y):=fun p=>by
 unfold exprB
 simp only
 obtain⟨h1,h2⟩:=KP hx p
 rw[←h1]
 split
 ·obtain⟨h3,h4⟩:=KP hx (opP 1 (eA x p).2).2
  rw[←h3]
  exact⟨rfl,fun h=>by rw[h2 (yB 1 _ (xB hs _ h)),h4 h]⟩
 ·exact⟨rfl,fun h=>h2 (yB 1 _ h)⟩
theorem LT{ex:PS→Nd×PS}{p:PS}(h:p.e≠0):(dS ex p).2=p:=by
 have hp:p.peek=[]:=by unfold PS.peek;rw[if_pos h]
 have hi:∀s,s≠[]→p.is s=false:=fun s hs=>by
  unfold PS.is
  rw[hp]
  simp only[Bool.and_eq_false_iff,decide_eq_false_iff_not]
  right
  exact fun e=>hs e.symm
 have hn:aM p=([],p):=by
  unfold aM
  rw[hp]
  simp[jO,PS.fail,h]
 unfold dS
 rw[hi _ (by decide),hi _ (by decide),hp]
 simp only[Bool.false_eq_true,if_false]
 unfold aX
 rw[hn]
 simp only
 rw[hi _ (by decide)]
 simp
theorem DH{lv:Int}{x:PS→Nd×PS}(hx:∀p,p.e≠0→(x p).2=p){p:PS}(h:p.e≠0):(gD lv x p).2=p:=by
 unfold gD chainF
 rw[hx p h,if_pos h]
theorem Fd{ex:PS→Nd×PS}{p:PS}(h:p.e≠0):(exprB ex p).2=p:=by
 have hs:(eA ex p).2=p:=DH (fun p h=>DH (fun p h=>LT h) h) h
 have ho:qD 1 p.peek= -1:=by
  have:p.peek=[]:=by unfold PS.peek;rw[if_pos h]
  rw[this];decide
 unfold exprB
 simp only[hs,opP,ho]
 simp
theorem HL:∀f,Rf (dD false f) (dD true f)
 |0=>fun p=>Rl.refl _
 |f+1=>fun p=>by
  unfold dD
  rw[if_neg (by simp)]
  by_cases h:p.e≠0
  ·rw[if_pos ⟨rfl,h⟩]
   exact⟨Fd h,fun h'=>by rw[Fd h]at h';exact absurd h' h⟩
  ·rw[if_neg (fun q=>h q.2)]
   exact NZ (yC false f) (HL f) p
theorem Fe{x y:PS→Nd×PS}(hs:vL x)(hx:Rf x y):∀(f:Nat) (ks js:List Nd) (p:PS),(p.e=0→ks=js)→(eE x f ks p).2=(eE y f js p).2∧((eE x f ks p).2.e=0→(eE x f ks p).1=(eE y f js p).1)
 |0,_,_,_,h=>⟨rfl,h⟩
 |f+1,ks,js,p,h=>by
  unfold eE
  split
  ·exact⟨rfl,h⟩
  ·obtain⟨h1,h2⟩:=hx p
   rw[←h1]
   exact Fe hs hx f _ _ _ fun he=>by rw[h (hs p he),h2 he]
theorem LU{x y:PS→Nd×PS}(hs:vL x)(hx:Rf x y):Rf (fU x) (fU y):=fun p=>by
 unfold fU
 simp only
 obtain⟨h1,h2⟩:=Fe hs hx ((p.need [123]).l.length+1) [] [] (p.need [123]) (fun _=>rfl)
 rw[←h1]
 exact⟨rfl,fun h=>by rw[h2 (jA h).2]⟩
theorem Qr{x y:PS→Nd×PS}(hx:Rf x y)(k:Int):Rf (mE x k) (mE y k):=fun p=>by
 unfold mE
 generalize(if k=19∨k=20 then aU p else if k=21∨k=25∨k=24 then([],p)else aM p)=a
 simp only
 split
 ·obtain⟨h1,h2⟩:=hx a.2
  rw[←h1]
  exact⟨rfl,fun h=>by rw[h2 h]⟩
 ·exact Rl.refl _
theorem Oa{x y b c:PS→Nd×PS}(hs:vL x)(hx:Rf x y)(ht:vL b)(hb:Rf b c):Rf (gH x b) (gH y c):=fun p=>by
 unfold gH
 simp only
 split
 ·obtain⟨h1,h2⟩:=hx p.skip
  rw[←h1]
  obtain⟨h3,h4⟩:=hb (x p.skip).2
  rw[←h3]
  split
  ·obtain⟨h5,h6⟩:=hb (b (x p.skip).2).2.skip
   rw[←h5]
   exact⟨rfl,fun h=>by
    have e5:=ht _ h
    rw[h6 h,h4 e5,h2 (ht _ e5)]⟩
  ·exact⟨rfl,fun h=>by rw[h4 h,h2 (ht _ h)]⟩
 ·split
  ·obtain⟨h1,h2⟩:=Qr hx (dT p.peek) p.skip
   rw[←h1]
   exact⟨rfl,fun h=>h2 (jA h).2⟩
  ·split
   ·obtain⟨h1,h2⟩:=hx ((aU p).2.need [61])
    rw[←h1]
    exact⟨rfl,fun h=>by rw[h2 (jA h).2]⟩
   ·obtain⟨h1,h2⟩:=hx ((aX p).2.need [61])
    rw[←h1]
    exact⟨rfl,fun h=>by rw[h2 (jA h).2]⟩
theorem HM:∀f,Rf (kS false f) (kS true f)
 |0=>fun p=>Rl.refl _
 |f+1=>fun p=>Oa (sS false) (fun q=>HL _ q) (tH (mT false f)) (LU (mT false f) (HM f)) p
end Go.Eng
namespace Go.Eng
theorem Bm(p:UInt8→Bool):∀(s:aN) (n:Nat),iX p (s.take n)=min n (iX p s)
 |[],n=>by simp[iX]
 |c::r,0=>by simp[iX]
 |c::r,n+1=>by
  rw[List.take_succ_cons]
  unfold iX
  split
  ·rw[Bm p r n];omega
  ·simp
def vV(s:aN):Prop:=s≠[]∧bV s=s.length
theorem oF{s:aN}(h:0<dR s):∃c r,s=c::r∧aV c=true∧dR s=iX (fun c=>aV c||aO c) s∧dR s≤16:=by
 cases s with
 |nil=>simp[dR]at h
 |cons c r=>
  refine⟨c,r,rfl,?_⟩
  unfold dR at h⊢
  by_cases q:aV c=true
  ·simp only[q,if_true]at h⊢
   by_cases q2:iX (fun c=>aV c||aO c) (c::r)≤16
   ·simp only[q2,if_true,true_and]at h⊢
   ·simp[q2]at h
  ·simp[q]at h
theorem Aw(s:aN):dR s≤s.length:=by
 rcases Nat.eq_zero_or_pos (dR s)with h|h
 ·omega
 ·obtain⟨c,r,_,_,h2,_⟩:=oF h
  rw[h2];exact CQ _ _
theorem DI{s:aN}(h:0<dR s):dR (s.take (dR s))=dR s:=by
 obtain⟨c,r,rfl,h1,h2,h3⟩:=oF h
 obtain⟨m,hm⟩:∃m,dR (c::r)=m+1:=⟨dR (c::r)- 1,by omega⟩
 have e:=Bm (fun c=>aV c||aO c) (c::r) (dR (c::r))
 rw[hm]at e⊢
 rw[List.take_succ_cons]at e⊢
 unfold dR
 simp only[h1,if_true]
 rw[e,←h2,hm,Nat.min_self,if_pos (by omega)]
theorem xC(s:aN):bV s≤s.length:=by
 unfold bV
 cases s with
 |nil=>simp
 |cons c r=>
  simp only
  split
  ·exact Aw _
  ·split
   ·split
    ·have:=Aw r;simp only[List.length_cons];omega
    ·simp
   ·split
    ·split
     ·exact CQ _ _
     ·simp
    ·split
     ·rename_i h
      have:(List.take 2 (c::r)).length=2:=by rcases h with h|h<;>rw[h]<;>rfl
      rw[List.length_take]at this
      omega
     ·split<;>simp
theorem LW{s:aN}(h:0<bV s):vV (s.take (bV s)):=by
 have hl:=xC s
 have hlen:(s.take (bV s)).length=bV s:=by rw[List.length_take];omega
 refine⟨fun e=>by rw[e]at hlen;simp at hlen;omega,?_⟩
 rw[hlen]
 cases s with
 |nil=>simp[bV]at h
 |cons c r=>
  obtain⟨m,hm⟩:∃m,bV (c::r)=m+1:=⟨bV (c::r)- 1,by omega⟩
  rw[hm,List.take_succ_cons]
  have hm':=hm
  unfold bV at hm'⊢
  simp only at hm'⊢
  by_cases q1:aV c=true
  ·rw[if_pos q1]at hm'⊢
   have:=DI (s:=c::r) (by omega)
   rw[hm',List.take_succ_cons]at this
   exact this
  ·rw[if_neg q1]at hm'⊢
   by_cases q2:c=36
   ·rw[if_pos q2]at hm'⊢
    by_cases q3:0<dR r
    ·rw[if_pos q3]at hm'
     have:=DI q3
     have e:m=dR r:=by omega
     rw[e,this,if_pos q3]
    ·rw[if_neg q3]at hm';omega
   ·rw[if_neg q2]at hm'⊢
    by_cases q3:aO c=true
    ·rw[if_pos q3]at hm'⊢
     have e:=Bm aO (c::r) (m+1)
     rw[List.take_succ_cons]at e
     by_cases q4:iX aO (c::r)≤3
     ·rw[if_pos q4]at hm'
      rw[e,hm',Nat.min_self,if_pos (by omega)]
     ·rw[if_neg q4]at hm';omega
    ·rw[if_neg q3]at hm'⊢
     by_cases q4:List.take 2 (c::r)=[60,61]∨List.take 2 (c::r)=[61,61]
     ·rw[if_pos q4]at hm'
      have e:m=1:=by omega
      have e2:List.take 2 (c::List.take m r)=List.take 2 (c::r):=by rw[e];cases r<;>simp
      rw[e2,if_pos q4,e]
     ·rw[if_neg q4]at hm'
      by_cases q5:c∈mL
      ·rw[if_pos q5]at hm'
       have e:m=0:=by omega
       subst e
       rw[if_neg (by simp),if_pos q5]
      ·rw[if_neg q5]at hm';omega
def bH(l:List Tk):Prop:=∀t∈l,vV t.text
theorem rI:∀(f:Nat) (s:aN) (i:Int),bH (lW f s i).1
 |0,_,_=>fun t h=>by cases h
 |f+1,s,i=>by
  unfold lW
  split
  ·exact fun t h=>by cases h
  ·split
   ·exact rI f _ _
   ·split
    ·exact fun t h=>by cases h
    ·rename_i q
     intro t h
     rcases List.mem_cons.1 h with h|h
     ·rw[h];exact LW (by omega)
     ·exact rI f _ _ t h
theorem Ob{s:aN}(h:vV s)(hn:jO s=true):cC s true=true:=by
 obtain⟨h1,h2⟩:=h
 cases s with
 |nil=>exact absurd rfl h1
 |cons c r=>
  have hl:aV c=true:=by simp only[jO,Bool.and_eq_true]at hn;exact hn.1
  unfold bV at h2
  simp only[hl,if_true]at h2
  unfold cC
  rw[h2,hn]
  simp
theorem LY{r:aN}(h:vV (36::r)):cC r false=true:=by
 obtain⟨_,h2⟩:=h
 unfold bV at h2
 simp only[show aV 36=false by decide,Bool.false_eq_true,if_false,if_true]at h2
 split at h2
 ·rename_i q
  have e:dR r=r.length:=by simpa using h2
  unfold cC
  rw[e]
  have:r≠[]:=fun e=>by rw[e]at q;simp[dR]at q
  simp[this]
 ·simp at h2
theorem HN{s:aN}{b:Bool}(h:cC s b=true):∀c∈s,aV c=true∨aO c=true:=by
 unfold cC at h
 simp only[Bool.and_eq_true,decide_eq_true_eq]at h
 obtain⟨⟨h1,h2⟩,_⟩:=h
 have hp:0<dR s:=by rw[h2];exact List.length_pos_iff.2 h1
 obtain⟨c,r,_,_,h3,_⟩:=oF hp
 intro d hd
 obtain⟨i,hi,rfl⟩:=List.mem_iff_getElem.1 hd
 have:=wZ (p:=fun c=>aV c||aO c) hi (by rw[←h3,h2];exact hi)
 simpa using this
theorem Ff{c:UInt8}:∀{a:aN} (b:aN),c∉a→lI c (a++c::b)=some (a,b)
 |[],b,_=>by simp[lI]
 |d::a,b,h=>by
  have h1:d≠c:=fun e=>h (by rw[e];exact List.mem_cons_self ..)
  rw[List.cons_append,lI,if_neg h1,Ff b fun q=>h (List.mem_cons_of_mem _ q)]
  rfl
theorem HO{a b:aN}(ha:cC a true=true)(hb:cC b true=true):xA (a++46::b)=true:=by
 unfold xA
 rw[Ff b fun h=>by rcases HN ha _ h with q|q<;>exact absurd q (by decide)]
 simp[ha,hb]
def Rt(n:Nat)(cls:Int→Bool)(x:PS→Nd×PS):Prop:=∀p,p.l.length<n→bH p.l→(x p).2.l.length≤p.l.length∧bH (x p).2.l∧((x p).2.e=0→aG (x p).1=true∧cls (x p).1.kind=true)
theorem sA{p:PS}{e:Int}:(p.fail e).l=p.l:=by unfold PS.fail;split<;>rfl
theorem yD{p:PS}{e:Int}(h:bH p.l):bH (p.fail e).l:=by rw[sA];exact h
theorem eG{p:PS}(h:bH p.l):bH p.skip.l:=fun t ht=>h t (List.mem_of_mem_tail ht)
theorem gA{p:PS}:p.skip.l.length≤p.l.length:=by simp[PS.skip]
theorem uU{p:PS}(h:p.peek≠[]):p.skip.l.length+1=p.l.length:=by
 unfold PS.peek at h
 split at h
 ·exact absurd rfl h
 ·unfold PS.skip
  cases e:p.l with
  |nil=>rw[e]at h;exact absurd rfl h
  |cons t r=>rfl
theorem mG{p:PS}{s:aN}(h:p.is s=true):p.skip.l.length+1=p.l.length:=by
 unfold PS.is at h
 simp only[Bool.and_eq_true,decide_eq_true_eq]at h
 exact uU (by rw[h.2];exact h.1)
theorem cM{p:PS}{s:aN}(h:bH p.l):(p.need s).l.length≤p.l.length∧bH (p.need s).l:=by
 unfold PS.need
 split
 ·exact⟨gA,eG h⟩
 ·exact⟨by rw[sA];exact Nat.le_refl _,yD h⟩
theorem uV{p:PS}(h:bH p.l)(hp:p.peek≠[]):vV p.peek:=by
 unfold PS.peek at hp⊢
 split
 ·rename_i q;rw[if_pos q]at hp;exact absurd rfl hp
 ·rename_i q
  rw[if_neg q]at hp
  cases e:p.l with
  |nil=>rw[e]at hp;exact absurd rfl hp
  |cons t r=>exact h t (by rw[e];exact List.mem_cons_self ..)
theorem eO{p:PS}(h:bH p.l):(aM p).2.l.length≤p.l.length∧bH (aM p).2.l∧((aM p).2.e=0→cC (aM p).1 true=true):=by
 unfold aM
 split
 ·rename_i q
  refine⟨gA,eG h,fun _=>Ob (uV h fun e=>?_) q⟩
  rw[e]at q;cases q
 ·exact⟨by rw[sA];exact Nat.le_refl _,yD h,fun he=>absurd he (qS (by decide))⟩
theorem gI{p:PS}(h:bH p.l):(aU p).2.l.length≤p.l.length∧bH (aU p).2.l∧((aU p).2.e=0→cC (aU p).1 false=true):=by
 unfold aU
 split
 ·rename_i r q
  refine⟨gA,eG h,fun _=>LY ?_⟩
  rw[←q]
  exact uV h (by rw[q];simp)
 ·exact⟨by rw[sA];exact Nat.le_refl _,yD h,fun he=>absurd he (qS (by decide))⟩
theorem kT{k:Int}{p:PS}(h:bH p.l):(aP k p).2.l.length≤p.l.length∧bH (aP k p).2.l∧((aP k p).2.e=0→dZ k≤(aP k p).1∧(aP k p).1≤eC k):=by
 have bad:∀e:Int,e≠0→(p.fail e).l.length≤p.l.length∧bH (p.fail e).l∧((p.fail e).e=0→dZ k≤0∧0≤eC k):=fun e q=>⟨by rw[sA];exact Nat.le_refl _,yD h,fun he=>absurd he (qS q)⟩
 unfold aP
 split
 ·exact bad 2 (by decide)
 ·split
  ·split
   ·exact bad 5 (by decide)
   ·rename_i q
    exact⟨gA,eG h,fun _=>⟨by simp only;omega,by simp only;omega⟩⟩
  ·exact bad 2 (by decide)
theorem Ax{p:PS}(h:bH p.l):(bK p).2.l.length≤p.l.length∧bH (bK p).2.l∧((bK p).2.e=0→ -999≤(bK p).1∧(bK p).1≤999):=by
 have hlo:dZ 0= -999:=rfl
 have hhi:eC 0=999:=rfl
 unfold bK
 split
 ·obtain⟨h0,h1,h2⟩:=kT (k:=0) (eG h)
  exact⟨Nat.le_trans h0 gA,h1,fun he=>by have:=h2 he;simp only;omega⟩
 ·obtain⟨h0,h1,h2⟩:=kT (k:=0) h
  exact⟨h0,h1,fun he=>by have:=h2 he;omega⟩
theorem qF(n:Nat):Rt n gG aX:=fun p _ h=>by
 obtain⟨h0,h1,h2⟩:=eO h
 unfold aX
 split
 ·obtain⟨g0,h3,h4⟩:=eO (eG h1)
  refine⟨Nat.le_trans g0 (Nat.le_trans gA h0),h3,fun he=>⟨?_,rfl⟩⟩
  have ha:=h2 (rH (aM p).2.skip he)
  simp[aG,qP,fW,cU,cT,jP,lE,dZ,eC,nH,jK,HO ha (h4 he)]
 ·refine⟨h0,h1,fun he=>⟨?_,rfl⟩⟩
  simp[aG,qP,fW,cU,cT,jP,lE,dZ,eC,nH,jK,h2 he]
theorem Fg(lv:Int)(s:aN): -1≤qD lv s∧qD lv s≤5:=by
 unfold qD
 split
 ·rename_i i q
  have:=List.mem_range.1 (List.mem_of_find?_eq_some q)
  omega
 ·omega
theorem yE{lv:Int}{p:PS}(h:bH p.l):(opP lv p).2.l.length≤p.l.length∧bH (opP lv p).2.l:=by
 unfold opP
 simp only
 split
 ·exact⟨gA,eG h⟩
 ·exact⟨Nat.le_refl _,h⟩
theorem Bn{k:Int}{n m:Nd}(h0:26≤k)(h1:k≤31)(hn:aG n=true∧aH n.kind=true)(hm:aG m=true∧aH m.kind=true):aG (.mk k [] 0 [n,m])=true∧aH (Nd.mk k [] 0 [n,m]).kind=true:=by
 have hk:k=26∨k=27∨k=28∨k=29∨k=30∨k=31:=by omega
 rcases hk with rfl|rfl|rfl|rfl|rfl|rfl<;>exact⟨by simp[aG,qP,fW,cU,cT,jP,lE,dZ,eC,nH,jK,hn.1,hm.1,hn.2,hm.2],rfl⟩
theorem Fh{m:Nat}{lv:Int}{x:PS→Nd×PS}(hx:Rt m aH x):∀(f:Nat) (n:Nd) (p:PS),p.l.length<m→bH p.l→(p.e=0→aG n=true∧aH n.kind=true)→
 (chainF lv x f n p).2.l.length≤p.l.length∧bH (chainF lv x f n p).2.l∧((chainF lv x f n p).2.e=0→aG (chainF lv x f n p).1=true∧aH (chainF lv x f n p).1.kind=true)
 |0,_,_,_,h,hn=>⟨Nat.le_refl _,h,hn⟩
 |f+1,n,p,hl,h,hn=>by
  unfold chainF
  split
  ·exact⟨Nat.le_refl _,h,hn⟩
  ·rename_i q
   have hp:p.e=0:=by simpa using q
   obtain⟨g0,g1⟩:=yE (lv:=lv) h
   split
   ·exact⟨g0,g1,fun _=>hn hp⟩
   ·rename_i q2
    have hr:=Fg lv p.peek
    have hr2:0≤(opP lv p).1∧(opP lv p).1≤5:=⟨by omega,hr.2⟩
    obtain⟨h0,h1,h2⟩:=hx _ (by omega) g1
    obtain⟨k0,k1,k2⟩:=Fh hx f (.mk (26+(opP lv p).1) [] 0 [n,(x (opP lv p).2).1]) _ (by omega) h1 fun he=>Bn (by omega) (by omega) (hn hp) (h2 he)
    exact⟨by omega,k1,k2⟩
theorem Bo{m:Nat}{lv:Int}{x:PS→Nd×PS}(hx:Rt m aH x):Rt m aH (gD lv x):=fun p hl h=>by
 obtain⟨h0,h1,h2⟩:=hx p hl h
 obtain⟨k0,k1,k2⟩:=Fh (lv:=lv) hx ((x p).2.l.length+1) _ _ (by omega) h1 h2
 exact⟨by unfold gD;omega,k1,k2⟩
theorem mH{k:Int}(h:gG k=true):aH k=true:=by
 unfold gG at h
 simp only[Bool.or_eq_true,decide_eq_true_eq]at h
 rcases h with rfl|rfl<;>rfl
theorem DJ{m:Nat}{ex:PS→Nd×PS}(hx:Rt m aH ex):Rt (m+1) aH (dS ex):=fun p hl h=>by
 have hpl:=qF (m+1) p hl h
 have hpl2:(aX p).2.l.length≤p.l.length∧bH (aX p).2.l∧((aX p).2.e=0→aG (aX p).1=true∧aH (aX p).1.kind=true):=⟨hpl.1,hpl.2.1,fun he=>⟨(hpl.2.2 he).1,mH (hpl.2.2 he).2⟩⟩
 unfold dS
 split
 ·rename_i q
  have hk:=mG q
  obtain⟨h0,h1,h2⟩:=hx p.skip (by omega) (eG h)
  obtain⟨g0,g1⟩:=cM (s:=[41]) h1
  exact⟨by simp only;omega,g1,fun he=>h2 (jA he).2⟩
 ·split
  ·exact⟨gA,eG h,fun _=>⟨by show aG (Nd.mk 36 [] 0 [])=true;decide,rfl⟩⟩
  ·split
   ·split
    ·obtain⟨h0,h1,h2⟩:=kT (k:=32) h
     refine⟨h0,h1,fun he=>⟨?_,rfl⟩⟩
     have:=h2 he
     have hlo:dZ 32=0:=rfl
     have hhi:eC 32=999:=rfl
     rw[hlo,hhi]at this
     simp[aG,qP,fW,cU,cT,jP,lE,hlo,hhi,jK,this]
    ·split
     ·obtain⟨h0,h1,h2⟩:=gI h
      refine⟨h0,h1,fun he=>⟨?_,rfl⟩⟩
      simp[aG,qP,fW,cU,cT,jP,lE,dZ,eC,nH,jK,h2 he]
     ·exact hpl2
   ·exact hpl2
theorem Gu{m:Nat}{ex:PS→Nd×PS}(hx:Rt m aH ex):Rt (m+1) aH (eA ex):=Bo (Bo (DJ hx))
theorem Oc{m:Nat}{ex:PS→Nd×PS}(hs:vL ex)(hx:Rt m aH ex):Rt (m+1) aH (exprB ex):=fun p hl h=>by
 obtain⟨h0,h1,h2⟩:=Gu hx p hl h
 obtain⟨g0,g1⟩:=yE (lv:=1) h1
 unfold exprB
 simp only
 split
 ·rename_i q
  have hr:=Fg 1 (eA ex p).2.peek
  have hr2:(opP 1 (eA ex p).2).1≤5:=hr.2
  obtain⟨k0,h3,h4⟩:=Gu hx _ (by omega) g1
  exact⟨by simp only;omega,h3,fun he=>Bn (by omega) (by omega) (h2 (yB 1 _ (xB hs _ he))) (h4 he)⟩
 ·exact⟨by simp only;omega,g1,fun he=>h2 (yB 1 _ he)⟩
theorem Ay:∀f,Rt f aH (dD false f)
 |0=>fun p h=>by omega
 |f+1=>fun p hl h=>by
  unfold dD
  rw[if_neg (by simp)]
  exact Oc (yC false f) (Ay f) p hl h
theorem Az(n:Nat):Rt n aH fun q=>dD false (q.l.length+1) q:=fun p _ h=>Ay (p.l.length+1) p (by omega) h
theorem Fi{m:Nat}{st:PS→Nd×PS}(hs:vL st)(hx:Rt m cG st):∀(f:Nat) (ks:List Nd) (p:PS),p.l.length<m→bH p.l→(p.e=0→∀x∈ks,aG x=true∧cG x.kind=true)→
 (eE st f ks p).2.l.length≤p.l.length∧bH (eE st f ks p).2.l∧((eE st f ks p).2.e=0→∀x∈(eE st f ks p).1,aG x=true∧cG x.kind=true)
 |0,_,_,_,h,hn=>⟨Nat.le_refl _,h,hn⟩
 |f+1,ks,p,hl,h,hn=>by
  unfold eE
  split
  ·exact⟨Nat.le_refl _,h,hn⟩
  ·obtain⟨h0,h1,h2⟩:=hx p hl h
   obtain⟨k0,k1,k2⟩:=Fi hs hx f (ks++[(st p).1]) _ (by omega) h1 fun he x hx=>by
    rcases List.mem_append.1 hx with hx|hx
    ·exact hn (hs p he) x hx
    ·rw[List.mem_singleton.1 hx];exact h2 he
   exact⟨by omega,k1,k2⟩
theorem xD{ks:List Nd}(h:∀x∈ks,aG x=true∧cG x.kind=true):aG (.mk 8 [] 0 ks)=true:=
 right_mk.2 ⟨by decide,by decide,List.all_eq_true.2 fun x hx=>(h x hx).2,by decide,by decide,rfl,fun x hx=>(h x hx).1⟩
theorem uW{m:Nat}{st:PS→Nd×PS}(hs:vL st)(hx:Rt m cG st):Rt m cL (fU st):=fun p hl h=>by
 obtain⟨g0,g1⟩:=cM (s:=[123]) h
 obtain⟨k0,k1,k2⟩:=Fi hs hx ((p.need [123]).l.length+1) [] (p.need [123]) (by omega) g1 (fun _ x h=>by cases h)
 obtain⟨q0,q1⟩:=cM (s:=[125]) k1
 unfold fU
 exact⟨by simp only;omega,q1,fun he=>⟨xD (k2 (jA he).2),rfl⟩⟩
theorem zR{s:aN}(h:12<dT s):13≤dT s∧dT s≤25:=by
 unfold dT HI at h⊢
 split
 ·rename_i q;rw[if_pos q]at h;omega
 ·rename_i q
  rw[if_neg q]at h
  split
  ·rename_i i e
   rw[e]at h
   have:=List.mem_range.1 (List.mem_of_find?_eq_some e)
   simp only at h
   omega
  ·rename_i e;rw[e]at h;simp only at h;omega
theorem KQ{m:Nat}{ex:PS→Nd×PS}(hs:vL ex)(hx:Rt m aH ex){k:Int}(hk:13≤k∧k≤25):Rt m cG (mE ex k):=fun p hl h=>by
 have ha:(if k=19∨k=20 then aU p else if k=21∨k=25∨k=24 then([],p)else aM p).2.l.length≤p.l.length∧bH (if k=19∨k=20 then aU p else if k=21∨k=25∨k=24 then([],p)else aM p).2.l∧
  ((if k=19∨k=20 then aU p else if k=21∨k=25∨k=24 then([],p)else aM p).2.e=0→jK k (if k=19∨k=20 then aU p else if k=21∨k=25∨k=24 then([],p)else aM p).1=true):=by
  split
  ·rename_i q
   obtain⟨h0,h1,h2⟩:=gI h
   exact⟨h0,h1,fun he=>by rcases q with rfl|rfl<;>simp[jK,h2 he]⟩
  ·split
   ·rename_i q
    exact⟨Nat.le_refl _,h,fun _=>by rcases q with rfl|rfl|rfl<;>rfl⟩
   ·rename_i q1 q2
    obtain⟨h0,h1,h2⟩:=eO h
    exact⟨h0,h1,fun he=>by unfold jK;rw[if_neg (by omega),if_neg (by omega),if_neg (by omega)];exact h2 he⟩
 unfold mE
 generalize(if k=19∨k=20 then aU p else if k=21∨k=25∨k=24 then([],p)else aM p)=a at ha
 obtain⟨a0,a1,a2⟩:=ha
 simp only
 have lo:∀{n:Int},(k=19∨k=21∨k=25→dZ k≤n∧n≤eC k)→(¬(k=19∨k=21∨k=25)→n=0)→dZ k≤n∧n≤eC k:=fun{n} h1 h2=>by
  by_cases q:k=19∨k=21∨k=25
  ·exact h1 q
  ·rw[h2 q]
   have:k=13∨k=14∨k=15∨k=16∨k=17∨k=18∨k=20∨k=22∨k=23∨k=24:=by omega
   rcases this with rfl|rfl|rfl|rfl|rfl|rfl|rfl|rfl|rfl|rfl<;>decide
 have mk:∀{t:aN} {n:Int} {ks:List Nd},jK k t=true→dZ k≤n∧n≤eC k→cU k ks=true→(∀x∈ks,aG x=true)→aG (.mk k t n ks)=true∧cG (Nd.mk k t n ks).kind=true:=fun{t n ks} h1 h2 h3 h4=>by
  exact⟨right_mk.2 ⟨by omega,by omega,h3,h2.1,h2.2,h1,h4⟩,show cG k=true from tZ.2 (by omega)⟩
 split
 ·rename_i q
  obtain⟨h0,h1,h2⟩:=hx a.2 (by omega) a1
  refine⟨by simp only;omega,h1,fun he=>mk (a2 (hs _ he)) (lo (by omega) fun _=>rfl) ?_ fun x hx=>by rw[List.mem_singleton.1 hx];exact(h2 he).1⟩
  rcases q with rfl|rfl|rfl<;>simp[cU,cT,(h2 he).2]
 ·split
  ·rename_i q
   obtain⟨h0,h1,h2⟩:=gI a1
   refine⟨by simp only;omega,h1,fun he=>mk (a2 (tG _ he)) (lo (by omega) fun _=>rfl) ?_ fun x hx=>?_⟩
   ·rcases q with rfl|rfl<;>simp[cU,cT,pF]
   ·rw[List.mem_singleton.1 hx]
    simp[aG,qP,fW,cU,cT,jP,lE,dZ,eC,nH,jK,h2 he]
  ·split
   ·rename_i q
    obtain⟨h0,h1,h2⟩:=kT (k:=k) a1
    refine⟨by simp only;omega,h1,fun he=>mk (a2 (qT _ _ he)) (h2 he) ?_ fun x hx=>by cases hx⟩
    rcases q with rfl|rfl|rfl<;>rfl
   ·rename_i q1 q2 q3
    refine⟨a0,a1,fun he=>mk (a2 he) (lo (fun q=>absurd q q3) fun _=>rfl) ?_ fun x hx=>by cases hx⟩
    have:k=13∨k=14∨k=17∨k=18∨k=20:=by omega
    rcases this with rfl|rfl|rfl|rfl|rfl<;>rfl
theorem Od{m:Nat}{ex bl:PS→Nd×PS}(hs:vL ex)(ht:vL bl)(hx:Rt (m+1) aH ex)(hb:Rt m cL bl):Rt (m+1) cG (gH ex bl):=fun p hl h=>by
 unfold gH
 simp only
 split
 ·rename_i q
  have hk:p.skip.l.length+1=p.l.length:=uU fun e=>by rw[e]at q;simp[dT]at q
  obtain⟨a0,a1,a2⟩:=hx p.skip (by omega) (eG h)
  obtain⟨b0,b1,b2⟩:=hb (ex p.skip).2 (by omega) a1
  split
  ·rename_i q2
   have hk2:=mG q2.2
   obtain⟨c0,c1,c2⟩:=hb (bl (ex p.skip).2).2.skip (by omega) (eG b1)
   refine⟨by simp only;omega,c1,fun he=>?_⟩
   have e2:=ht _ he
   have e1:=ht (ex p.skip).2 e2
   rw[q2.1]
   exact⟨by simp[aG,qP,fW,cU,cT,jP,lE,dZ,eC,nH,jK,(a2 e1).1,(a2 e1).2,(b2 e2).1,(b2 e2).2,(c2 he).1,(c2 he).2],rfl⟩
  ·refine⟨by simp only;omega,b1,fun he=>?_⟩
   have e1:=ht _ he
   rcases q with q|q<;>rw[q]<;>exact⟨by simp[aG,qP,fW,cU,cT,jP,lE,dZ,eC,nH,jK,(a2 e1).1,(a2 e1).2,(b2 he).1,(b2 he).2],rfl⟩
 ·split
  ·rename_i q
   obtain⟨a0,a1,a2⟩:=KQ hs hx (zR q) p.skip (by have:=gA (p:=p);omega) (eG h)
   obtain⟨b0,b1⟩:=cM (s:=[59]) a1
   have:=gA (p:=p)
   exact⟨by simp only;omega,b1,fun he=>a2 (jA he).2⟩
  ·split
   ·obtain⟨a0,a1,a2⟩:=gI h
    obtain⟨b0,b1⟩:=cM (s:=[61]) a1
    obtain⟨c0,c1,c2⟩:=hx ((aU p).2.need [61]) (by omega) b1
    obtain⟨d0,d1⟩:=cM (s:=[59]) c1
    refine⟨by simp only;omega,d1,fun he=>?_⟩
    have e2:=(jA he).2
    have e1:=(jA (hs _ e2)).2
    exact⟨by simp[aG,qP,fW,cU,cT,jP,lE,dZ,eC,nH,jK,a2 e1,(c2 e2).1,(c2 e2).2],rfl⟩
   ·obtain⟨a0,a1,a2⟩:=qF (m+1) p hl h
    obtain⟨b0,b1⟩:=cM (s:=[61]) a1
    obtain⟨c0,c1,c2⟩:=hx ((aX p).2.need [61]) (by omega) b1
    obtain⟨d0,d1⟩:=cM (s:=[59]) c1
    refine⟨by simp only;omega,d1,fun he=>?_⟩
    have e2:=(jA he).2
    have e1:=(jA (hs _ e2)).2
    exact⟨by simp[aG,qP,fW,cU,cT,jP,lE,dZ,eC,nH,jK,(a2 e1).1,(a2 e1).2,(c2 e2).1,(c2 e2).2],rfl⟩
theorem uX:∀f,Rt f cG (kS false f)
 |0=>fun p h=>by omega
 |f+1=>fun p hl h=>Od (sS false) (tH (mT false f)) (Az (f+1)) (uW (mT false f) (uX f)) p hl h
end Go.Eng
namespace Go.Eng
def AA(s:aN):Bool:=match s with|[]=>true|c::_=> !aV c&& !aO c&&decide (c≠61)
theorem DK{p:UInt8→Bool}:∀{t:aN} (s:aN),(∀c∈t,p c=true)→iX p (t++s)=t.length+iX p s
 |[],s,_=>by simp
 |c::t,s,h=>by
  rw[List.cons_append,iX,if_pos (h c (List.mem_cons_self ..)),DK s fun d hd=>h d (List.mem_cons_of_mem _ hd),List.length_cons]
  omega
theorem qG{p:UInt8→Bool}{t:aN}(h:iX p t=t.length):∀c∈t,p c=true:=fun c hc=>by
 obtain⟨i,hi,rfl⟩:=List.mem_iff_getElem.1 hc
 exact wZ hi (by omega)
theorem HP{p:UInt8→Bool}(hp:∀c,p c=true→aV c=true∨aO c=true){s:aN}(hs:AA s=true):iX p s=0:=by
 cases s with
 |nil=>rfl
 |cons c r=>
  simp only[AA,Bool.and_eq_true,Bool.not_eq_true']at hs
  rw[iX,if_neg]
  intro h
  rcases hp c h with q|q
  ·rw[q]at hs;simp at hs
  ·rw[q]at hs;simp at hs
theorem Fj{t s:aN}(h:dR t=t.length)(h0:0<dR t)(hs:AA s=true):dR (t++s)=t.length:=by
 obtain⟨c,r,rfl,h1,h2,h3⟩:=oF h0
 have hall:=qG (p:=fun c=>aV c||aO c) (by rw[←h2];exact h)
 have hr:iX (fun c=>aV c||aO c) (c::r++s)=(c::r).length:=by
  rw[DK s hall,HP (fun c hc=>by simpa using hc) hs,Nat.add_zero]
 rw[List.cons_append]at hr⊢
 unfold dR
 simp only[h1,if_true]
 rw[hr,if_pos (by omega)]
theorem yF{t s:aN}(ht:vV t)(hs:AA s=true):bV (t++s)=t.length:=by
 obtain⟨h0,h1⟩:=ht
 cases t with
 |nil=>exact absurd rfl h0
 |cons c r=>
  have h1':=h1
  rw[List.cons_append]
  unfold bV at h1⊢
  simp only at h1⊢
  by_cases q1:aV c=true
  ·rw[if_pos q1]at h1⊢
   exact Fj (t:=c::r) h1 (by rw[h1];simp) hs
  ·rw[if_neg q1]at h1⊢
   by_cases q2:c=36
   ·rw[if_pos q2]at h1⊢
    by_cases q3:0<dR r
    ·rw[if_pos q3]at h1
     have e:dR r=r.length:=by simpa using h1
     rw[Fj e q3 hs,if_pos (by omega)]
     simp
    ·rw[if_neg q3]at h1;simp at h1
   ·rw[if_neg q2]at h1⊢
    by_cases q3:aO c=true
    ·rw[if_pos q3]at h1⊢
     by_cases q4:iX aO (c::r)≤3
     ·rw[if_pos q4]at h1
      have e:iX aO (c::(r++s))=(c::r).length:=by
       rw[←List.cons_append,DK s (qG h1),HP (fun c hc=>.inr hc) hs,Nat.add_zero]
      rw[e,if_pos (by omega)]
     ·rw[if_neg q4]at h1;simp at h1
    ·rw[if_neg q3]at h1⊢
     by_cases q4:List.take 2 (c::r)=[60,61]∨List.take 2 (c::r)=[61,61]
     ·rw[if_pos q4]at h1
      have hl:r.length=1:=by simpa using h1.symm
      have e:List.take 2 (c::(r++s))=List.take 2 (c::r):=by
       cases r with
       |nil=>simp at hl
       |cons d u=>simp
      rw[e,if_pos q4]
      exact h1
     ·rw[if_neg q4]at h1
      by_cases q5:c∈mL
      ·rw[if_pos q5]at h1
       have hr:r=[]:=by simpa using h1.symm
       subst hr
       rw[if_neg,if_pos q5]
       ·rfl
       ·cases s with
        |nil=>simp
        |cons d u=>
         simp only[AA,Bool.and_eq_true,decide_eq_true_eq]at hs
         simp[hs.2]
      ·rw[if_neg q5]at h1;simp at h1
theorem JB{c:UInt8}(h:c=40∨c=41∨c=123∨c=125∨c=59∨c=46∨c=45)(s:aN):bV (c::s)=1:=by
 unfold bV
 rcases h with rfl|rfl|rfl|rfl|rfl|rfl|rfl<;>cases s<;>simp[aV,aO,mL]
inductive rB:aN→List aN→Prop
 |nil:rB [] []
 |blank {c:UInt8} {s:aN} {ts:List aN} (hc:c=32∨c=10) (h:rB s ts):rB (c::s) ts
 |tok {t s:aN} {ts:List aN} (h0:t≠[]) (h1:bV (t++s)=t.length) (h:rB s ts):rB (t++s) (t::ts)
theorem rB.sp{s:aN}{ts:List aN}(h:rB s ts):rB (32::s) ts:=.blank (.inl rfl) h
theorem dI{t s:aN}{ts:List aN}(ht:vV t)(hs:AA s=true)(h:rB s ts):rB (t++s) (t::ts):=.tok ht.1 (yF ht hs) h
theorem rB.sign{c:UInt8}{s:aN}{ts:List aN}(hc:c=40∨c=41∨c=123∨c=125∨c=59∨c=46∨c=45)(h:rB s ts):rB (c::s) ([c]::ts):=.tok (t:=[c]) (by simp) (JB hc s) h
theorem AB{s:aN}{ts:List aN}(h:rB s ts):∀(f:Nat) (i:Int),s.length≤f→(lW f s i).1.map Tk.text=ts∧(lW f s i).2=i+s.length:=by
 induction h with
 |nil=>intro f i _;cases f<;>simp[lW]
 |@blank c s ts hc _ ih=>
  intro f i hl
  cases f with
  |zero=>simp at hl
  |succ f=>
   unfold lW
   simp only[hc,if_true]
   obtain⟨h1,h2⟩:=ih f (i+1) (by simpa using hl)
   exact⟨h1,by rw[h2];simp only[List.length_cons];omega⟩
 |@tok t s ts h0 h1 _ ih=>
  intro f i hl
  cases t with
  |nil=>exact absurd rfl h0
  |cons c r=>
   cases f with
   |zero=>simp at hl
   |succ f=>
    have hc:¬(c=32∨c=10):=fun q=>by
     rw[List.cons_append]at h1
     unfold bV at h1
     rcases q with rfl|rfl
     ·cases r<;>cases s<;>simp[aV,aO,mL]at h1
     ·cases r<;>cases s<;>simp[aV,aO,mL]at h1
    obtain⟨k1,k2⟩:=ih f (i+(c::r).length) (by simp only[List.length_append,List.length_cons]at hl;omega)
    rw[List.cons_append]at h1⊢
    unfold lW
    simp only[hc,if_false]
    rw[h1,if_neg (by simp)]
    have e1:(c::(r++s)).take (c::r).length=c::r:=by rw[←List.cons_append];simp
    have e2:(c::(r++s)).drop (c::r).length=s:=by rw[←List.cons_append];simp
    rw[e1,e2]
    refine⟨by simp only[List.map_cons,k1],?_⟩
    simp only
    rw[k2]
    simp only[List.length_cons,List.length_append]
    omega
def Bp(t:aN):List aN:=match lI 46 t with
 |some (a,b)=>[a,[46],b]
 |none=>[t]
def zF(c:Bool)(ks:List aN):List aN:=if c then [40]::(ks++[[41]])else ks
def bR:Nd→List aN
 | .mk k t n ks=>if k=32 then [fC n]else if k=33 then [36::t]else if k=36 then [jJ]else if k=34 then [t]else if k=35 then Bp t else match ks with
  |[a,b]=>zF (decide (lvlN a.kind<(if bM k=1 then 2 else bM k))) (bR a)++mD k::zF (decide (lvlN b.kind<bM k+1)) (bR b)
  |_=>[]
set_option maxRecDepth 100000 in
theorem Gv:∀n:Nat,n<1000→oX n≠[]∧bV (oX n)=(oX n).length:=by decide
theorem HQ{n:Int}(h0:0≤n)(h1:n≤999):vV (fC n):=by
 unfold fC
 rw[if_neg (by omega)]
 exact Gv _ (by omega)
theorem nZ{t:aN}(h:cC t true=true):vV t∧jO t=true:=by
 unfold cC at h
 simp only[Bool.and_eq_true,decide_eq_true_eq,Bool.not_true,Bool.false_or]at h
 obtain⟨⟨h1,h2⟩,h3⟩:=h
 refine⟨⟨h1,?_⟩,h3⟩
 cases t with
 |nil=>exact absurd rfl h1
 |cons c r=>
  simp only[jO,Bool.and_eq_true]at h3
  unfold bV
  simp only[h3.1,if_true]
  exact h2
theorem xE{t:aN}(h:cC t false=true):vV (36::t):=by
 unfold cC at h
 simp only[Bool.and_eq_true,decide_eq_true_eq,Bool.not_false,Bool.true_or,and_true]at h
 obtain⟨h1,h2⟩:=h
 refine⟨by simp,?_⟩
 have:0<dR t:=by rw[h2];exact List.length_pos_iff.2 h1
 unfold bV
 simp only[show aV 36=false by decide,Bool.false_eq_true,if_false,if_true,this,h2,List.length_cons]
 rw[h2]at this
 simp[this]
theorem DL{c:UInt8}:∀{t a b:aN},lI c t=some (a,b)→t=a++c::b
 |[],_,_,h=>by simp[lI]at h
 |d::r,a,b,h=>by
  unfold lI at h
  split at h
  ·rename_i e
   simp only[Option.some.injEq,Prod.mk.injEq]at h
   rw[←h.1,←h.2,e];rfl
  ·cases q:lI c r with
   |none=>rw[q]at h;cases h
   |some p=>
    obtain⟨a',b'⟩:=p
    rw[q]at h
    simp only[Option.map_some,Option.some.injEq,Prod.mk.injEq]at h
    rw[←h.1,←h.2,DL q];rfl
theorem rU{t:aN}(h:xA t=true):∃a b,lI 46 t=some (a,b)∧t=a++46::b∧cC a true=true∧cC b true=true:=by
 unfold xA at h
 split at h
 ·rename_i a b e
  simp only[Bool.and_eq_true]at h
  exact⟨a,b,e,DL e,h.1,h.2⟩
 ·cases h
theorem mI{x:Nd}(hr:aG x=true)(he:aH x.kind=true):
 (x.kind=32∧0≤x.n∧x.n≤999∧x=.mk 32 [] x.n [])∨(x=.mk 33 x.text 0 []∧cC x.text false=true)∨x=.mk 36 [] 0 []∨(x=.mk 34 x.text 0 []∧cC x.text true=true)∨(x=.mk 35 x.text 0 []∧xA x.text=true)∨
  ∃k a b,26≤k∧k≤31∧x=.mk k [] 0 [a,b]∧aG a=true∧aH a.kind=true∧aG b=true∧aH b.kind=true:=by
 obtain⟨k,t,n,ks⟩:=x
 have he:26≤k∧k≤36:=Cg.1 he
 obtain⟨_,_,hs,w1,w2,w3,hk⟩:=right_mk.1 hr
 have none:cU k ks=cT ks []→ks=[]:=fun e=>by
  rw[e]at hs
  cases ks with
  |nil=>rfl
  |cons _ _=>cases hs
 by_cases hb:k≤31
 ·right;right;right;right;right
  have hks:cT ks [aH,aH]=true:=by
   unfold cU at hs
   rw[if_neg (by omega),if_neg (by omega),if_neg (by omega),if_neg (by omega),if_neg (by omega),if_neg (by omega),if_neg (by omega),if_neg (by omega),if_pos (by omega)]at hs
   exact hs
  have hz:dZ k=0∧eC k=0:=by
   have:k=26∨k=27∨k=28∨k=29∨k=30∨k=31:=by omega
   rcases this with rfl|rfl|rfl|rfl|rfl|rfl<;>exact⟨rfl,rfl⟩
  have ht:t=[]:=by
   unfold jK at w3
   rw[if_neg (by omega),if_neg (by omega),if_pos (by omega)]at w3
   simpa using w3
  match ks,hks,hk with
  |[a,b],hks,hk=>
   simp only[cT,Bool.and_true,Bool.and_eq_true]at hks
   exact⟨k,a,b,by omega,by omega,by rw[ht,show n=0 by omega],hk a (by simp),hks.1,hk b (by simp),hks.2⟩
  |[],hks,_=>cases hks
  |[_],hks,_=>simp[cT]at hks
  |_::_::_::_,hks,_=>simp[cT]at hks
 ·have:k=32∨k=33∨k=34∨k=35∨k=36:=by omega
  rcases this with rfl|rfl|rfl|rfl|rfl
  ·left
   have e:=none rfl
   have hz:dZ 32=0∧eC 32=999:=⟨rfl,rfl⟩
   have ht:t=[]:=by simpa [jK]using w3
   subst e;subst ht
   exact⟨rfl,by simp only[rR];omega,by simp only[rR];omega,rfl⟩
  ·right;left
   have e:=none rfl
   have hz:dZ 33=0∧eC 33=0:=⟨rfl,rfl⟩
   subst e
   exact⟨by rw[show n=0 by omega];rfl,by simpa [jK]using w3⟩
  ·right;right;right;left
   have e:=none rfl
   have hz:dZ 34=0∧eC 34=0:=⟨rfl,rfl⟩
   subst e
   exact⟨by rw[show n=0 by omega];rfl,by simpa [jK]using w3⟩
  ·right;right;right;right;left
   have e:=none rfl
   have hz:dZ 35=0∧eC 35=0:=⟨rfl,rfl⟩
   subst e
   exact⟨by rw[show n=0 by omega];rfl,by simpa [jK]using w3⟩
  ·right;right;left
   have e:=none rfl
   have hz:dZ 36=0∧eC 36=0:=⟨rfl,rfl⟩
   have ht:t=[]:=by simpa [jK]using w3
   subst e;subst ht
   rw[show n=0 by omega]
theorem Oe{k:Int}(h0:26≤k)(h1:k≤31):vV (mD k):=by
 have:k=26∨k=27∨k=28∨k=29∨k=30∨k=31:=by omega
 rcases this with rfl|rfl|rfl|rfl|rfl|rfl<;>exact⟨by decide,by decide⟩
theorem yG{k:Int}{a b:Nd}(h0:26≤k)(h1:k≤31):exprT (.mk k [] 0 [a,b])=paren (decide (lvlN a.kind<(if bM k=1 then 2 else bM k))) (exprT a)++32::(mD k++32::paren (decide (lvlN b.kind<bM k+1)) (exprT b)):=by
 rw[exprT,if_neg (by omega),if_neg (by omega),if_neg (by omega),if_neg (by omega)]
theorem Bq{k:Int}{a b:Nd}(h0:26≤k)(h1:k≤31):bR (.mk k [] 0 [a,b])=zF (decide (lvlN a.kind<(if bM k=1 then 2 else bM k))) (bR a)++mD k::zF (decide (lvlN b.kind<bM k+1)) (bR b):=by
 rw[bR,if_neg (by omega),if_neg (by omega),if_neg (by omega),if_neg (by omega),if_neg (by omega)]
theorem Fk{t:aN}{ks:List aN}(h:∀s ts,rB s ts→AA s=true→rB (t++s) (ks++ts))(c:Bool){s:aN}{ts:List aN}(hl:rB s ts)(hs:AA s=true):rB (paren c t++s) (zF c ks++ts):=by
 cases c
 ·exact h s ts hl hs
 ·have h1:=rB.sign (c:=41) (by decide) hl
  have h2:=h _ _ h1 rfl
  have h3:=rB.sign (c:=40) (by decide) h2
  simpa [paren,zF]using h3
theorem rV(x:Nd):aG x=true→aH x.kind=true→∀s ts,rB s ts→AA s=true→rB (exprT x++s) (bR x++ts):=by
 refine mS (p:=fun x=>aG x=true→aH x.kind=true→∀s ts,rB s ts→AA s=true→rB (exprT x++s) (bR x++ts)) (fun k t n ks ih=>?_) x
 intro hr he s ts hl hs
 rcases mI hr he with⟨h1,h2,h3,h4⟩|⟨h1,h2⟩|h1|⟨h1,h2⟩|⟨h1,h2⟩|⟨k',a,b,h1,h2,h3,h4,h5,h6,h7⟩
 ·rw[h4]
  simp only[exprT,bR,if_true]
  exact dI (HQ h2 h3) hs hl
 ·rw[h1]
  simp only[exprT,bR,lA]at h2⊢
  simp only[show¬(33:Int)=32 by decide,if_false,if_true]
  exact dI (xE h2) hs hl
 ·rw[h1]
  simp only[exprT,bR,show¬(36:Int)=32 by decide,show¬(36:Int)=33 by decide,if_false,if_true]
  exact dI (t:=jJ) ⟨by decide,by decide⟩ hs hl
 ·rw[h1]
  simp only[exprT,bR,lA]at h2⊢
  simp only[show¬(34:Int)=32 by decide,show¬(34:Int)=33 by decide,show¬(34:Int)=36 by decide,if_false,if_true,true_or]
  exact dI (nZ h2).1 hs hl
 ·rw[h1]
  simp only[exprT,bR,lA]at h2⊢
  simp only[show¬(35:Int)=32 by decide,show¬(35:Int)=33 by decide,show¬(35:Int)=36 by decide,show¬(35:Int)=34 by decide,if_false,if_true,or_true]
  obtain⟨a,b,e1,e2,e3,e4⟩:=rU h2
  unfold Bp
  rw[e1]
  simp only
  rw[e2]
  have q1:=dI (nZ e4).1 hs hl
  have q2:=rB.sign (c:=46) (by decide) q1
  have q3:=dI (nZ e3).1 rfl q2
  simpa using q3
 ·injection h3 with i1 i2 i3 i4
  subst i1;subst i2;subst i3;subst i4
  rw[yG h1 h2,Bq h1 h2]
  have q1:=Fk (ih b (by simp) h6 h7) (decide (lvlN b.kind<bM k+1)) hl hs
  have q2:=dI (Oe h1 h2) rfl q1.sp
  have q3:=Fk (ih a (by simp) h4 h5) (decide (lvlN a.kind<(if bM k=1 then 2 else bM k))) q2.sp rfl
  simpa using q3
end Go.Eng
namespace Go.Eng
def Ab(p:PS)(ts:List aN):Prop:=p.e=0∧p.l.map Tk.text=ts
theorem Ab.peek{p:PS}{t:aN}{ts:List aN}(h:Ab p (t::ts)):p.peek=t:=by
 obtain⟨h1,h2⟩:=h
 unfold PS.peek
 rw[if_neg (by simp[h1])]
 cases e:p.l with
 |nil=>rw[e]at h2;simp at h2
 |cons x r=>rw[e]at h2;simp at h2;exact h2.1
theorem Ab.peek0{p:PS}(h:Ab p []):p.peek=[]:=by
 obtain⟨h1,h2⟩:=h
 unfold PS.peek
 rw[if_neg (by simp[h1])]
 cases e:p.l with
 |nil=>rfl
 |cons x r=>rw[e]at h2;simp at h2
theorem Ab.skip{p:PS}{t:aN}{ts:List aN}(h:Ab p (t::ts)):Ab p.skip ts:=by
 obtain⟨h1,h2⟩:=h
 refine⟨h1,?_⟩
 unfold PS.skip
 cases e:p.l with
 |nil=>rw[e]at h2;simp at h2
 |cons x r=>rw[e]at h2;simp at h2;exact h2.2
theorem Ab.is{p:PS}{t:aN}{ts:List aN}(h:Ab p (t::ts))(s:aN)(hs:s≠[]):p.is s=decide (t=s):=by
 unfold PS.is
 rw[h.peek]
 simp[hs]
theorem Ab.isnt{p:PS}{ts:List aN}(h:Ab p ts)(s:aN)(hs:s≠[])(hh:ts.head?≠some s):p.is s=false:=by
 cases ts with
 |nil=>unfold PS.is;rw[h.peek0];simp[Ne.symm hs]
 |cons t r=>rw[h.is s hs];simp at hh;simp[hh]
theorem Ab.need{p:PS}{t:aN}{ts:List aN}(h:Ab p (t::ts))(ht:t≠[]):p.need t=p.skip:=by
 unfold PS.need
 rw[h.is t ht,if_pos (by simp)]
theorem Ab.len{p:PS}{ts:List aN}(h:Ab p ts):p.l.length=ts.length:=by rw[←h.2];simp
def fV(f:PS→Nd×PS)(ks:List aN)(x:Nd)(rest:List aN):Prop:=∀p,Ab p (ks++rest)→∃q,f p=(x,q)∧Ab q rest
def rJ(lv:Int)(rest:List aN):Prop:=qD lv (rest.head?.getD [])<0
def pG(rest:List aN):Prop:=rest.head?≠some [46]
theorem Ab.opP{p:PS}{ts:List aN}{lv:Int}(h:Ab p ts)(hn:rJ lv ts):(opP lv p).1<0∧(Eng.opP lv p).2=p:=by
 have hp:p.peek=ts.head?.getD []:=by
  cases ts with
  |nil=>rw[h.peek0];rfl
  |cons t r=>rw[h.peek];rfl
 unfold Eng.opP
 rw[hp]
 exact⟨hn,by rw[if_neg];unfold rJ at hn;omega⟩
theorem Ab.opY{p:PS}{t:aN}{ts:List aN}{lv:Int}(h:Ab p (t::ts))(hn:0≤qD lv t):Eng.opP lv p=(qD lv t,p.skip):=by
 unfold Eng.opP
 rw[h.peek,if_pos hn]
def LZ(lv:Int)(X:PS→Nd×PS)(ks:List aN)(x:Nd)(rest:List aN):Prop:=
 ∀p,Ab p (ks++rest)→∃f q,rest.length<f∧gD lv X p=chainF lv X f x q∧Ab q rest
theorem LZ.done{lv:Int}{X:PS→Nd×PS}{ks:List aN}{x:Nd}{rest:List aN}(h:LZ lv X ks x rest)(hn:rJ lv rest):fV (gD lv X) ks x rest:=fun p hp=>by
 obtain⟨f,q,h1,h2,h3⟩:=h p hp
 refine⟨q,?_,h3⟩
 rw[h2]
 cases f with
 |zero=>omega
 |succ f=>
  unfold chainF
  obtain⟨o1,o2⟩:=h3.opP hn
  rw[if_neg (by simp[h3.1]),if_pos o1,o2]
theorem LZ.one{lv:Int}{X:PS→Nd×PS}{ks:List aN}{x:Nd}{rest:List aN}(h:fV X ks x rest):LZ lv X ks x rest:=fun p hp=>by
 obtain⟨q,h1,h2⟩:=h p hp
 refine⟨q.l.length+1,q,by rw[h2.len];omega,?_,h2⟩
 unfold gD
 rw[h1]
theorem LZ.step{lv:Int}{X:PS→Nd×PS}{ka kb:List aN}{a b:Nd}{s:aN}{rest:List aN}(ha:LZ lv X ka a (s::(kb++rest)))(hs:0≤qD lv s)(hb:fV X kb b rest):
 LZ lv X (ka++s::kb) (.mk (26+qD lv s) [] 0 [a,b]) rest:=fun p hp=>by
 obtain⟨f,q,h1,h2,h3⟩:=ha p (by simpa using hp)
 cases f with
 |zero=>omega
 |succ f=>
  obtain⟨q2,k1,k2⟩:=hb q.skip h3.skip
  refine⟨f,q2,by simp only[List.length_cons,List.length_append]at h1;omega,?_,k2⟩
  rw[h2]
  conv=>lhs;unfold chainF
  rw[if_neg (by simp[h3.1]),h3.opY hs,if_neg (by simp only;omega)]
  simp only
  rw[k1]
theorem Fl{k:Int}(h0:26≤k)(h1:k≤31):qD (bM k) (mD k)=k-26∧(bM k=1∨bM k=2∨bM k=3)∧(∀lv:Int,(lv=1∨lv=2∨lv=3)→lv≠bM k→qD lv (mD k)<0)∧mD k≠[46]∧lvlN k=bM k:=by
 have:k=26∨k=27∨k=28∨k=29∨k=30∨k=31:=by omega
 rcases this with rfl|rfl|rfl|rfl|rfl|rfl<;>exact⟨by decide,by decide,fun lv h hn=>by rcases h with rfl|rfl|rfl<;>first|exact absurd rfl hn|decide,by decide,by decide⟩
structure EP(x:Nd):Prop where
 a1:∀f rest,depthN x<f→pG rest→rJ 1 rest→rJ 2 rest→rJ 3 rest→fV (dD false f) (bR x) x rest
 c2:∀f rest,depthN x<f→pG rest→rJ 3 rest→LZ 2 (uT (dD false f)) (zF (decide (lvlN x.kind<2)) (bR x)) x rest
 c3:∀f rest,depthN x<f→pG rest→LZ 3 (dS (dD false f)) (zF (decide (lvlN x.kind<3)) (bR x)) x rest
 a4:∀f rest,depthN x<f→pG rest→fV (dS (dD false f)) (zF (decide (lvlN x.kind<4)) (bR x)) x rest
theorem xF{x:Nd}(h:∀f rest,depthN x<f→pG rest→rJ 1 rest→rJ 2 rest→rJ 3 rest→fV (dD false f) (bR x) x rest){f:Nat}{rest:List aN}(hf:depthN x<f):
 fV (dS (dD false f)) ([40]::(bR x++[[41]])) x rest:=fun p hp=>by
 obtain⟨q,h1,h2⟩:=h f ([41]::rest) hf (show some [41]≠some [46]by decide) (show qD 1 [41]<0 by decide) (show qD 2 [41]<0 by decide) (show qD 3 [41]<0 by decide) p.skip (by simpa using hp.skip)
 refine⟨q.skip,?_,h2.skip⟩
 unfold dS
 rw[hp.is [40] (by decide),if_pos (by simp),h1,h2.need (by decide)]
theorem yH{x:Nd}{lv:Int}(h:lv≤lvlN x.kind){ks:List aN}:zF (decide (lvlN x.kind<lv)) ks=ks:=by rw[decide_eq_false (by omega)];rfl
theorem uY{x:Nd}{lv:Int}(h:lvlN x.kind<lv){ks:List aN}:zF (decide (lvlN x.kind<lv)) ks=[40]::(ks++[[41]]):=by rw[decide_eq_true h];rfl
theorem yI{x:Nd}{ks:List aN}{rest:List aN}{f:Nat}(h:fV (eA (dD false f)) ks x rest)(n1:rJ 1 rest):fV (dD false (f+1)) ks x rest:=fun p hp=>by
 obtain⟨q,h1,h2⟩:=h p hp
 refine⟨q,?_,h2⟩
 unfold dD
 rw[if_neg (by simp)]
 unfold exprB
 simp only
 obtain⟨o1,o2⟩:=h2.opP n1
 rw[h1]
 simp only
 rw[if_neg (by omega),o2]
theorem AC{x:Nd}(h4:3<lvlN x.kind)(a4:∀f rest,pG rest→fV (dS (dD false f)) (bR x) x rest):EP x:=by
 have c3:∀f rest,pG rest→LZ 3 (dS (dD false f)) (bR x) x rest:=fun f rest hd=>LZ.one (a4 f rest hd)
 have c2:∀f rest,pG rest→rJ 3 rest→LZ 2 (uT (dD false f)) (bR x) x rest:=fun f rest hd h3=>LZ.one ((c3 f rest hd).done h3)
 refine⟨fun f rest hf hd n1 n2 n3=>?_,fun f rest _ hd n3=>?_,fun f rest _ hd=>?_,fun f rest _ hd=>?_⟩
 ·cases f with
  |zero=>omega
  |succ f=>exact yI ((c2 f rest hd n3).done n2) n1
 ·rw[yH (by omega)];exact c2 f rest hd n3
 ·rw[yH (by omega)];exact c3 f rest hd
 ·rw[yH (by omega)];exact a4 f rest hd
theorem RO{k:Int}{a b:Nd}(h0:26≤k)(h1:k≤31)(ha:EP a)(hb:EP b):EP (.mk k [] 0 [a,b]):=by
 obtain⟨o1,o2,o3,o4,o5⟩:=Fl h0 h1
 have hd:depthN (.mk k [] 0 [a,b])=max (depthN a) (depthN b)+1:=by simp[depthN,depthL]
 have hK:=Bq (a:=a) (b:=b) h0 h1
 have hk:(Nd.mk k [] 0 [a,b]).kind=k:=rfl
 have hop:0≤qD (bM k) (mD k):=by omega
 have hx:Nd.mk (26+qD (bM k) (mD k)) [] 0 [a,b]=.mk k [] 0 [a,b]:=by rw[o1,show 26+(k-26)=k by omega]
 have nd:∀r,pG (mD k::r):=fun r e=>o4 (by simpa using e)
 have no:∀lv r,(lv=1∨lv=2∨lv=3)→lv≠bM k→rJ lv (mD k::r):=fun lv r h hn=>o3 lv h hn
 generalize bM k=lv at*
 rcases o2 with rfl|rfl|rfl
 ·rw[if_pos rfl]at hK
  have a1:∀f rest,depthN (.mk k [] 0 [a,b])<f→pG rest→rJ 1 rest→rJ 2 rest→rJ 3 rest→fV (dD false f) (bR (.mk k [] 0 [a,b])) (.mk k [] 0 [a,b]) rest:=fun f rest hf hd' n1 n2 n3 p hp=>by
   cases f with
   |zero=>omega
   |succ f=>
    rw[hK]at hp
    obtain⟨q,k1,k2⟩:=(ha.c2 f (mD k::(zF (decide (lvlN b.kind<2)) (bR b)++rest)) (by omega) (nd _) (no 3 _ (by omega) (by omega))).done (no 2 _ (by omega) (by omega)) p (by simpa using hp)
    obtain⟨q2,k3,k4⟩:=(hb.c2 f rest (by omega) hd' n3).done n2 q.skip k2.skip
    refine⟨q2,?_,k4⟩
    unfold dD
    rw[if_neg (by simp)]
    unfold exprB
    simp only
    rw[show eA (dD false f) p=(a,q) from k1]
    simp only
    rw[k2.opY hop]
    simp only
    rw[if_pos hop,show eA (dD false f) q.skip=(b,q2) from k3]
    simp only
    rw[hx]
  have a4:∀f rest,depthN (.mk k [] 0 [a,b])<f→pG rest→fV (dS (dD false f)) ([40]::(bR (.mk k [] 0 [a,b])++[[41]])) (.mk k [] 0 [a,b]) rest:=fun f rest hf _=>xF a1 hf
  refine⟨a1,fun f rest hf hd' n3=>?_,fun f rest hf hd'=>?_,fun f rest hf hd'=>?_⟩
  ·rw[uY (by rw[hk,o5];omega)];exact LZ.one ((LZ.one (a4 f rest hf hd')).done n3)
  ·rw[uY (by rw[hk,o5];omega)];exact LZ.one (a4 f rest hf hd')
  ·rw[uY (by rw[hk,o5];omega)];exact a4 f rest hf hd'
 ·rw[if_neg (by decide)]at hK
  have c2:∀f rest,depthN a<f→depthN b<f→pG rest→rJ 3 rest→LZ 2 (uT (dD false f)) (bR (.mk k [] 0 [a,b])) (.mk k [] 0 [a,b]) rest:=fun f rest fa fb hd' n3=>by
   rw[hK]
   have:=LZ.step (ha.c2 f (mD k::(zF (decide (lvlN b.kind<3)) (bR b)++rest)) fa (nd _) (no 3 _ (by omega) (by omega))) hop ((hb.c3 f rest fb hd').done n3)
   rw[hx]at this
   exact this
  have a1:∀f rest,depthN (.mk k [] 0 [a,b])<f→pG rest→rJ 1 rest→rJ 2 rest→rJ 3 rest→fV (dD false f) (bR (.mk k [] 0 [a,b])) (.mk k [] 0 [a,b]) rest:=fun f rest hf hd' n1 n2 n3=>by
   cases f with
   |zero=>omega
   |succ f=>exact yI ((c2 f rest (by omega) (by omega) hd' n3).done n2) n1
  have a4:∀f rest,depthN (.mk k [] 0 [a,b])<f→pG rest→fV (dS (dD false f)) ([40]::(bR (.mk k [] 0 [a,b])++[[41]])) (.mk k [] 0 [a,b]) rest:=fun f rest hf _=>xF a1 hf
  refine⟨a1,fun f rest hf hd' n3=>?_,fun f rest hf hd'=>?_,fun f rest hf hd'=>?_⟩
  ·rw[yH (by rw[hk,o5];omega)];exact c2 f rest (by omega) (by omega) hd' n3
  ·rw[uY (by rw[hk,o5];omega)];exact LZ.one (a4 f rest hf hd')
  ·rw[uY (by rw[hk,o5];omega)];exact a4 f rest hf hd'
 ·rw[if_neg (by decide)]at hK
  have c3:∀f rest,depthN a<f→depthN b<f→pG rest→LZ 3 (dS (dD false f)) (bR (.mk k [] 0 [a,b])) (.mk k [] 0 [a,b]) rest:=fun f rest fa fb hd'=>by
   rw[hK]
   have:=LZ.step (ha.c3 f (mD k::(zF (decide (lvlN b.kind<4)) (bR b)++rest)) fa (nd _)) hop (hb.a4 f rest fb hd')
   rw[hx]at this
   exact this
  have c2:∀f rest,depthN a<f→depthN b<f→pG rest→rJ 3 rest→LZ 2 (uT (dD false f)) (bR (.mk k [] 0 [a,b])) (.mk k [] 0 [a,b]) rest:=fun f rest fa fb hd' n3=>LZ.one ((c3 f rest fa fb hd').done n3)
  have a1:∀f rest,depthN (.mk k [] 0 [a,b])<f→pG rest→rJ 1 rest→rJ 2 rest→rJ 3 rest→fV (dD false f) (bR (.mk k [] 0 [a,b])) (.mk k [] 0 [a,b]) rest:=fun f rest hf hd' n1 n2 n3=>by
   cases f with
   |zero=>omega
   |succ f=>exact yI ((c2 f rest (by omega) (by omega) hd' n3).done n2) n1
  have a4:∀f rest,depthN (.mk k [] 0 [a,b])<f→pG rest→fV (dS (dD false f)) ([40]::(bR (.mk k [] 0 [a,b])++[[41]])) (.mk k [] 0 [a,b]) rest:=fun f rest hf _=>xF a1 hf
  refine⟨a1,fun f rest hf hd' n3=>?_,fun f rest hf hd'=>?_,fun f rest hf hd'=>?_⟩
  ·rw[yH (by rw[hk,o5];omega)];exact c2 f rest (by omega) (by omega) hd' n3
  ·rw[yH (by rw[hk,o5];omega)];exact c3 f rest (by omega) (by omega) hd'
  ·rw[uY (by rw[hk,o5];omega)];exact a4 f rest hf hd'
set_option maxRecDepth 100000 in
theorem Br:∀n:Nat,n<1000→oX n≠[40]∧oX n≠jJ∧(match oX n with|c::_=>aO c|[]=>false)=true∧qJ (oX n)=n:=by decide
theorem vW{t:aN}(h:cC t true=true):t≠[40]∧t≠jJ∧t≠cF∧(∀w∈cZ,t≠w)∧∃c r,t=c::r∧aV c=true:=by
 have hn:=(nZ h).2
 cases t with
 |nil=>cases hn
 |cons c r=>
  simp only[jO,Bool.and_eq_true]at hn
  obtain⟨h1,h2⟩:=hn
  have h3:¬(c::r=cF)∧¬(c::r=jJ)∧¬(c::r∈cZ):=by
   unfold qC at h2
   simp only[Bool.not_eq_true',Bool.or_eq_false_iff,decide_eq_false_iff_not]at h2
   exact⟨h2.1.1,h2.1.2,h2.2⟩
  refine⟨fun e=>?_,h3.2.1,h3.1,fun w hw e=>h3.2.2 (e▸hw),c,r,rfl,h1⟩
  injection e with e1 _
  rw[e1]at h1;revert h1;decide
theorem Ab.name{p:PS}{t:aN}{ts:List aN}(h:Ab p (t::ts))(ht:cC t true=true):aM p=(t,p.skip):=by
 unfold aM
 rw[h.peek,(nZ ht).2]
 rfl
theorem Ab.local{p:PS}{t:aN}{ts:List aN}(h:Ab p ((36::t)::ts)):aU p=(t,p.skip):=by
 unfold aU
 rw[h.peek]
 rfl
theorem xG{x:Nd}(hr:aG x=true)(hp:gG x.kind=true){rest:List aN}(hd:pG rest):fV aX (bR x) x rest:=fun p h=>by
 rcases mI hr (mH hp)with⟨h1,_⟩|⟨h1,_⟩|h1|⟨h1,h2⟩|⟨h1,h2⟩|⟨k',a,b,h1,h2,h3,_⟩
 ·rw[h1]at hp;cases hp
 ·rw[h1]at hp;cases hp
 ·rw[h1]at hp;cases hp
 ·rw[h1]at h⊢
  simp only[bR,show¬(34:Int)=32 by decide,show¬(34:Int)=33 by decide,show¬(34:Int)=36 by decide,if_false,if_true]at h
  refine⟨p.skip,?_,h.skip⟩
  unfold aX
  rw[h.name h2]
  simp only
  rw[h.skip.isnt [46] (by decide) hd]
  rfl
 ·rw[h1]at h⊢
  simp only[bR,show¬(35:Int)=32 by decide,show¬(35:Int)=33 by decide,show¬(35:Int)=36 by decide,show¬(35:Int)=34 by decide,if_false,if_true]at h
  obtain⟨a,b,e1,e2,e3,e4⟩:=rU h2
  unfold Bp at h
  rw[e1]at h
  simp only[List.cons_append,List.nil_append]at h
  refine⟨p.skip.skip.skip,?_,h.skip.skip.skip⟩
  unfold aX
  rw[h.name e3]
  simp only
  rw[h.skip.is [46] (by decide),h.skip.skip.name e4]
  simp only[decide_true,if_true]
  rw[←e2]
 ·rw[h3]at hp
  have hp:=vU.1 (show gG k'=true from hp)
  omega
theorem DM{ex:PS→Nd×PS}{x:Nd}(hr:aG x=true)(hp:gG x.kind=true){rest:List aN}(hd:pG rest):fV (dS ex) (bR x) x rest:=fun p h=>by
 obtain⟨q,h1,h2⟩:=xG hr hp hd p h
 refine⟨q,?_,h2⟩
 have hk:∃t u,cC t true=true∧bR x++rest=t::u:=by
  rcases mI hr (mH hp)with⟨g1,_⟩|⟨g1,_⟩|g1|⟨g1,g2⟩|⟨g1,g2⟩|⟨k',a,b,g1,g2,g3,_⟩
  ·rw[g1]at hp;cases hp
  ·rw[g1]at hp;cases hp
  ·rw[g1]at hp;cases hp
  ·rw[g1];exact⟨x.text,rest,g2,rfl⟩
  ·obtain⟨a,b,e1,e2,e3,e4⟩:=rU g2
   rw[g1]
   simp only[bR,show¬(35:Int)=32 by decide,show¬(35:Int)=33 by decide,show¬(35:Int)=36 by decide,show¬(35:Int)=34 by decide,if_false,if_true,Bp,e1]
   exact⟨a,_,e3,rfl⟩
  ·rw[g3]at hp
   have hp:=vU.1 (show gG k'=true from hp)
   omega
 obtain⟨t,u,ht,e⟩:=hk
 rw[e]at h
 obtain⟨f1,f2,_,_,c,r,f3,f4⟩:=vW ht
 unfold dS
 rw[h.is [40] (by decide),h.is jJ (by decide),decide_eq_false f1,decide_eq_false f2,h.peek,f3]
 simp only[Bool.false_eq_true,if_false]
 rw[if_neg,if_neg,h1]
 ·intro e;rw[e]at f4;revert f4;decide
 ·intro e
  simp only[aV,aO,Bool.and_eq_true,decide_eq_true_eq,UInt8.le_iff_toNat_le]at f4 e
  have e1:(97:UInt8).toNat=97:=rfl
  have e2:(57:UInt8).toNat=57:=rfl
  omega
theorem DN(x:Nd):aG x=true→aH x.kind=true→EP x:=by
 refine mS (p:=fun x=>aG x=true→aH x.kind=true→EP x) (fun k t n ks ih=>?_) x
 intro hr he
 rcases mI hr he with⟨h1,h2,h3,h4⟩|⟨h1,h2⟩|h1|⟨h1,h2⟩|⟨h1,h2⟩|⟨k',a,b,h1,h2,h3,h4,h5,h6,h7⟩
 ·refine AC (by rw[h1];show(3:Int)<lvlN 32;decide) fun f rest _ p h=>?_
  rw[h4]at h⊢
  simp only[bR,if_true]at h
  obtain⟨d1,d2,d3,d4⟩:=Br (Nd.mk k t n ks).n.toNat (by omega)
  have e:fC (Nd.mk k t n ks).n=oX (Nd.mk k t n ks).n.toNat:=by unfold fC;rw[if_neg (by omega)]
  rw[e]at h
  generalize hz:(Nd.mk k t n ks).n=z at*
  generalize oX z.toNat=w at*
  refine⟨p.skip,?_,h.skip⟩
  cases w with
  |nil=>cases d3
  |cons c r=>
   simp only at d3
   unfold dS
   rw[h.is [40] (by decide),h.is jJ (by decide),decide_eq_false d1,decide_eq_false d2,h.peek]
   simp only[Bool.false_eq_true,if_false,d3,if_true]
   unfold aP
   rw[h.peek]
   simp only[d3,if_true]
   have hlo:dZ 32=0:=rfl
   have hhi:eC 32=999:=rfl
   rw[d4,hlo,hhi,if_neg (by omega)]
   simp only
   rw[show((z.toNat:Nat):Int)=z by omega]
 ·refine AC (by rw[h1];show(3:Int)<lvlN 33;decide) fun f rest _ p h=>?_
  rw[h1]at h⊢
  simp only[bR,show¬(33:Int)=32 by decide,if_false,if_true]at h
  refine⟨p.skip,?_,h.skip⟩
  unfold dS
  rw[h.is [40] (by decide),h.is jJ (by decide),decide_eq_false (by simp),decide_eq_false (by simp[jJ]),h.peek]
  simp only[Bool.false_eq_true,if_false,show aO 36=false by decide,if_true]
  rw[h.local]
 ·refine AC (by rw[h1];show(3:Int)<lvlN 36;decide) fun f rest _ p h=>?_
  rw[h1]at h⊢
  simp only[bR,show¬(36:Int)=32 by decide,show¬(36:Int)=33 by decide,if_false,if_true]at h
  refine⟨p.skip,?_,h.skip⟩
  unfold dS
  rw[h.is [40] (by decide),h.is jJ (by decide),decide_eq_false (by decide)]
  simp
 ·exact AC (by rw[h1];show(3:Int)<lvlN 34;decide) fun f rest hd=>DM hr (by rw[h1];rfl) hd
 ·exact AC (by rw[h1];show(3:Int)<lvlN 35;decide) fun f rest hd=>DM hr (by rw[h1];rfl) hd
 ·injection h3 with i1 i2 i3 i4
  subst i1;subst i2;subst i3;subst i4
  exact RO h1 h2 (ih a (by simp) h4 h5) (ih b (by simp) h6 h7)
end Go.Eng
namespace Go.Eng
def Bs(k:Int)(t:aN):List aN:=if k=19∨k=20 then [36::t]else if k=21∨k=25∨k=24 then []else [t]
def rK(n:Int):List aN:=if 0<n then [fC n]else []
mutual
def lB:Nd→List aN
 | .mk k t n ks=>if k=9 then(match ks with|[e]=>(36::t)::[61]::(bR e++[[59]])|_=>[])
  else if k=10 then(match ks with|[p,e]=>bR p++[61]::(bR e++[[59]])|_=>[])
  else if k=11∨k=12 then(match ks with
   |[e,b]=>bC k::(bR e++jL b)
   |[e,b,c]=>bC k::(bR e++(jL b++cF::jL c))
   |_=>[])
  else bC k::(Bs k t++(rK n++(ks.flatMap bR++[[59]])))
def jL:Nd→List aN
 | .mk _ _ _ ks=>[123]::(rL ks++[[125]])
def rL:List Nd→List aN
 |[]=>[]
 |x::r=>lB x++rL r
end
theorem stmtT_cmd{k:Int}(t:aN)(n:Int)(ks:List Nd)(h:13≤k):stmtT (.mk k t n ks)=bC k++midT k t++withN n++withE ks++[59]:=by
 unfold stmtT
 rw[if_neg (by omega),if_neg (by omega),if_neg (by omega)]
theorem stmtK_cmd{k:Int}(t:aN)(n:Int)(ks:List Nd)(h:13≤k):lB (.mk k t n ks)=bC k::(Bs k t++(rK n++(ks.flatMap bR++[[59]]))):=by
 unfold lB
 rw[if_neg (by omega),if_neg (by omega),if_neg (by omega)]
theorem stmtK_if3{t:aN}{n:Int}{e b c:Nd}:lB (.mk 11 t n [e,b,c])=bC 11::(bR e++(jL b++cF::jL c)):=by simp[lB]
def BlockR(x:Nd):Prop:=∃ks,x=.mk 8 [] 0 ks∧∀y∈ks,aG y=true∧cG y.kind=true
theorem right_block{x:Nd}(hr:aG x=true)(hk:cL x.kind=true):BlockR x:=by
 obtain⟨k,t,n,ks⟩:=x
 have hk:k=8:=of_decide_eq_true (show decide (k=8)=true from hk)
 subst hk
 obtain⟨_,_,hs,w1,w2,w3,hk⟩:=right_mk.1 hr
 have hz:dZ 8=0∧eC 8=0:=⟨rfl,rfl⟩
 have ht:t=[]:=by simpa [jK]using w3
 refine⟨ks,by rw[ht,show n=0 by omega],fun y hy=>⟨hk y hy,?_⟩⟩
 exact List.all_eq_true.1 (show(ks.all fun y=>cG y.kind)=true from hs) y hy
def CmdR(k:Int)(t:aN)(n:Int)(ks:List Nd):Prop:=
 ((k=13∨k=14∨k=17∨k=18)∧cC t true=true∧n=0∧ks=[])∨
 ((k=15∨k=22)∧cC t true=true∧n=0∧∃e,ks=[e]∧aG e=true∧aH e.kind=true)∨
 ((k=16∨k=23)∧cC t true=true∧n=0∧∃u,ks=[.mk 33 u 0 []]∧cC u false=true)∨
 (k=19∧cC t false=true∧2≤n∧n≤6∧ks=[])∨(k=20∧cC t false=true∧n=0∧ks=[])∨
 ((k=21∧n≤9∨k=25∧n≤99)∧t=[]∧1≤n∧ks=[])∨(k=24∧t=[]∧n=0∧∃e,ks=[e]∧aG e=true∧aH e.kind=true)
theorem kids_one{f:Int→Bool}:∀{ks:List Nd},cT ks [f]=true→∃a,ks=[a]∧f a.kind=true
 |[a],h=>⟨a,rfl,by simpa [cT]using h⟩
 |[],h=>by cases h
 |_::_::_,h=>by simp[cT]at h
theorem kids_two{f g:Int→Bool}:∀{ks:List Nd},cT ks [f,g]=true→∃a b,ks=[a,b]∧f a.kind=true∧g b.kind=true
 |[a,b],h=>⟨a,b,rfl,by simpa [cT]using h⟩
 |[],h=>by cases h
 |[_],h=>by simp[cT]at h
 |_::_::_::_,h=>by simp[cT]at h
theorem kids_three{f g e:Int→Bool}:∀{ks:List Nd},cT ks [f,g,e]=true→∃a b c,ks=[a,b,c]∧f a.kind=true∧g b.kind=true∧e c.kind=true
 |[a,b,c],h=>⟨a,b,c,rfl,by simpa [cT]using h⟩
 |[],h=>by cases h
 |[_],h=>by simp[cT]at h
 |[_,_],h=>by simp[cT]at h
 |_::_::_::_::_,h=>by simp[cT]at h
theorem kids_none:∀{ks:List Nd},cT ks []=true→ks=[]
 |[],_=>rfl
 |_::_,h=>by cases h
theorem right_stmt{x:Nd}(hr:aG x=true)(hk:cG x.kind=true):
 (∃t e,x=.mk 9 t 0 [e]∧cC t false=true∧aG e=true∧aH e.kind=true)∨
 (∃p e,x=.mk 10 [] 0 [p,e]∧aG p=true∧gG p.kind=true∧aG e=true∧aH e.kind=true)∨
 (∃k e b,(k=11∨k=12)∧x=.mk k [] 0 [e,b]∧aG e=true∧aH e.kind=true∧aG b=true∧cL b.kind=true)∨
 (∃e b c,x=.mk 11 [] 0 [e,b,c]∧aG e=true∧aH e.kind=true∧aG b=true∧cL b.kind=true∧aG c=true∧cL c.kind=true)∨
 (∃k t n ks,13≤k∧k≤25∧x=.mk k t n ks∧CmdR k t n ks):=by
 obtain⟨k,t,n,ks⟩:=x
 have hk:9≤k∧k≤25:=tZ.1 hk
 obtain⟨_,_,hs,w1,w2,w3,hk'⟩:=right_mk.1 hr
 have hcase:k=9∨k=10∨k=11∨k=12∨k=13∨k=14∨k=15∨k=16∨k=17∨k=18∨k=19∨k=20∨k=21∨k=22∨k=23∨k=24∨k=25:=by omega
 rcases hcase with rfl|rfl|rfl|rfl|rfl|rfl|rfl|rfl|rfl|rfl|rfl|rfl|rfl|rfl|rfl|rfl|rfl
 ·obtain⟨e,rfl,he⟩:=kids_one (f:=aH) hs
  have hz:dZ 9=0∧eC 9=0:=⟨rfl,rfl⟩
  exact .inl ⟨t,e,by rw[show n=0 by omega],w3,hk' e (by simp),he⟩
 ·obtain⟨p,e,rfl,hp,he⟩:=kids_two (f:=gG) (g:=aH) hs
  have hz:dZ 10=0∧eC 10=0:=⟨rfl,rfl⟩
  have ht:t=[]:=by simpa [jK]using w3
  exact .inr (.inl ⟨p,e,by rw[ht,show n=0 by omega],hk' p (by simp),hp,hk' e (by simp),he⟩)
 ·have hz:dZ 11=0∧eC 11=0:=⟨rfl,rfl⟩
  have ht:t=[]:=by simpa [jK]using w3
  have hs:(cT ks [aH,cL]||cT ks [aH,cL,cL])=true:=hs
  rw[Bool.or_eq_true]at hs
  rcases hs with hs|hs
  ·obtain⟨e,b,rfl,he,hb⟩:=kids_two hs
   exact .inr (.inr (.inl ⟨11,e,b,.inl rfl,by rw[ht,show n=0 by omega],hk' e (by simp),he,hk' b (by simp),hb⟩))
  ·obtain⟨e,b,c,rfl,he,hb,hc⟩:=kids_three hs
   exact .inr (.inr (.inr (.inl ⟨e,b,c,by rw[ht,show n=0 by omega],hk' e (by simp),he,hk' b (by simp),hb,hk' c (by simp),hc⟩)))
 ·have hz:dZ 12=0∧eC 12=0:=⟨rfl,rfl⟩
  have ht:t=[]:=by simpa [jK]using w3
  obtain⟨e,b,rfl,he,hb⟩:=kids_two (f:=aH) (g:=cL) hs
  exact .inr (.inr (.inl ⟨12,e,b,.inr rfl,by rw[ht,show n=0 by omega],hk' e (by simp),he,hk' b (by simp),hb⟩))
 all_goals refine .inr (.inr (.inr (.inr ⟨_,t,n,ks,by decide,by decide,rfl,?_⟩)))
 ·have hz:dZ 13=0∧eC 13=0:=⟨rfl,rfl⟩
  exact .inl ⟨by omega,w3,by omega,kids_none hs⟩
 ·have hz:dZ 14=0∧eC 14=0:=⟨rfl,rfl⟩
  exact .inl ⟨by omega,w3,by omega,kids_none hs⟩
 ·have hz:dZ 15=0∧eC 15=0:=⟨rfl,rfl⟩
  obtain⟨e,rfl,he⟩:=kids_one (f:=aH) hs
  exact .inr (.inl ⟨by omega,w3,by omega,e,rfl,hk' e (by simp),he⟩)
 ·have hz:dZ 16=0∧eC 16=0:=⟨rfl,rfl⟩
  obtain⟨e,rfl,he⟩:=kids_one (f:=pF) hs
  refine .inr (.inr (.inl ⟨by omega,w3,by omega,?_⟩))
  have he':e.kind=33:=by simpa [pF]using he
  rcases mI (hk' e (by simp)) (by rw[he'];rfl)with⟨g1,_⟩|⟨g1,g2⟩|g1|⟨g1,_⟩|⟨g1,_⟩|⟨k',a,b,g1,g2,g3,_⟩
  ·omega
  ·exact⟨e.text,by rw[←g1],g2⟩
  ·rw[g1]at he';cases he'
  ·rw[g1]at he';cases he'
  ·rw[g1]at he';cases he'
  ·rw[g3]at he';simp only[fB]at he';omega
 ·have hz:dZ 17=0∧eC 17=0:=⟨rfl,rfl⟩
  exact .inl ⟨by omega,w3,by omega,kids_none hs⟩
 ·have hz:dZ 18=0∧eC 18=0:=⟨rfl,rfl⟩
  exact .inl ⟨by omega,w3,by omega,kids_none hs⟩
 ·have hz:dZ 19=2∧eC 19=6:=⟨rfl,rfl⟩
  exact .inr (.inr (.inr (.inl ⟨rfl,w3,by omega,by omega,kids_none hs⟩)))
 ·have hz:dZ 20=0∧eC 20=0:=⟨rfl,rfl⟩
  exact .inr (.inr (.inr (.inr (.inl ⟨rfl,w3,by omega,kids_none hs⟩))))
 ·have hz:dZ 21=1∧eC 21=9:=⟨rfl,rfl⟩
  exact .inr (.inr (.inr (.inr (.inr (.inl ⟨.inl ⟨rfl,by omega⟩,by simpa [jK]using w3,by omega,kids_none hs⟩)))))
 ·have hz:dZ 22=0∧eC 22=0:=⟨rfl,rfl⟩
  obtain⟨e,rfl,he⟩:=kids_one (f:=aH) hs
  exact .inr (.inl ⟨by omega,w3,by omega,e,rfl,hk' e (by simp),he⟩)
 ·have hz:dZ 23=0∧eC 23=0:=⟨rfl,rfl⟩
  obtain⟨e,rfl,he⟩:=kids_one (f:=pF) hs
  refine .inr (.inr (.inl ⟨by omega,w3,by omega,?_⟩))
  have he':e.kind=33:=by simpa [pF]using he
  rcases mI (hk' e (by simp)) (by rw[he'];rfl)with⟨g1,_⟩|⟨g1,g2⟩|g1|⟨g1,_⟩|⟨g1,_⟩|⟨k',a,b,g1,g2,g3,_⟩
  ·omega
  ·exact⟨e.text,by rw[←g1],g2⟩
  ·rw[g1]at he';cases he'
  ·rw[g1]at he';cases he'
  ·rw[g1]at he';cases he'
  ·rw[g3]at he';simp only[fB]at he';omega
 ·have hz:dZ 24=0∧eC 24=0:=⟨rfl,rfl⟩
  obtain⟨e,rfl,he⟩:=kids_one (f:=aH) hs
  exact .inr (.inr (.inr (.inr (.inr (.inr ⟨rfl,by simpa [jK]using w3,by omega,e,rfl,hk' e (by simp),he⟩)))))
 ·have hz:dZ 25=1∧eC 25=99:=⟨rfl,rfl⟩
  exact .inr (.inr (.inr (.inr (.inr (.inl ⟨.inr ⟨rfl,by omega⟩,by simpa [jK]using w3,by omega,kids_none hs⟩)))))
end Go.Eng
namespace Go.Eng
theorem AD{k:Int}(h:(0≤k∧k≤6)∨(11≤k∧k≤25)):vV (bC k):=by
 have:k=0∨k=1∨k=2∨k=3∨k=4∨k=5∨k=6∨k=11∨k=12∨k=13∨k=14∨k=15∨k=16∨k=17∨k=18∨k=19∨k=20∨k=21∨k=22∨k=23∨k=24∨k=25:=by omega
 rcases this with rfl|rfl|rfl|rfl|rfl|rfl|rfl|rfl|rfl|rfl|rfl|rfl|rfl|rfl|rfl|rfl|rfl|rfl|rfl|rfl|rfl|rfl<;>exact⟨by decide,by decide⟩
def JC(s:aN)(ts:List aN):Prop:=rB s ts∧AA s=true
theorem Of{k:Int}{t s:aN}{ts:List aN}(h:JC s ts)(ht:if k=19∨k=20 then cC t false=true else k=21∨k=25∨k=24∨cC t true=true):JC (midT k t++s) (Bs k t++ts):=by
 unfold midT Bs
 by_cases q:k=19∨k=20
 ·rw[if_pos q]at ht⊢
  rw[if_pos q]
  exact⟨(dI (xE ht) h.2 h.1).sp,rfl⟩
 ·rw[if_neg q]at ht⊢
  rw[if_neg q]
  by_cases q2:k=21∨k=25∨k=24
  ·rw[if_pos q2,if_pos q2];exact h
  ·rw[if_neg q2,if_neg q2]
   have ht:cC t true=true:=by rcases ht with e|e|e|e<;>first|exact absurd (by simp[e]) q2|exact e
   exact⟨(dI (nZ ht).1 h.2 h.1).sp,rfl⟩
theorem Og{n:Int}{s:aN}{ts:List aN}(h:JC s ts)(h0:0≤n)(h1:n≤999):JC (withN n++s) (rK n++ts):=by
 unfold withN rK
 by_cases q:0<n
 ·rw[if_pos q,if_pos q];exact⟨(dI (HQ h0 h1) h.2 h.1).sp,rfl⟩
 ·rw[if_neg q,if_neg q];exact h
theorem JC.kids{s:aN}{ts:List aN}(h:JC s ts):∀{ks:List Nd},(∀e∈ks,aG e=true∧aH e.kind=true)→JC (withE ks++s) (ks.flatMap bR++ts)
 |[],_=>h
 |e::r,he=>by
  have ih:=JC.kids h (ks:=r) fun y hy=>he y (List.mem_cons_of_mem _ hy)
  obtain⟨h1,h2⟩:=he e (List.mem_cons_self ..)
  have:=(rV e h1 h2 _ _ ih.1 ih.2).sp
  exact⟨by simpa [withE,List.flatMap_cons]using this,rfl⟩
theorem yJ{k:Int}{t:aN}{n:Int}{ks:List Nd}(h:CmdR k t n ks):(if k=19∨k=20 then cC t false=true else k=21∨k=25∨k=24∨cC t true=true)∧0≤n∧n≤999∧∀e∈ks,aG e=true∧aH e.kind=true:=by
 have loc:∀{u:aN},cC u false=true→aG (.mk 33 u 0 [])=true∧aH (Nd.mk 33 u 0 []).kind=true:=fun hu=>⟨right_mk.2 ⟨by decide,by decide,rfl,by decide,by decide,hu,fun _ h=>by cases h⟩,rfl⟩
 rcases h with⟨h1,h2,h3,h4⟩|⟨h1,h2,h3,e,h4,h5,h6⟩|⟨h1,h2,h3,u,h4,h5⟩|⟨h1,h2,h3,h4,h5⟩|⟨h1,h2,h3,h4⟩|⟨h1,h2,h3,h4⟩|⟨h1,h2,h3,e,h4,h5,h6⟩
 ·refine⟨?_,by omega,by omega,fun e he=>by rw[h4]at he;cases he⟩
  rw[if_neg (by omega)];exact .inr (.inr (.inr h2))
 ·refine⟨?_,by omega,by omega,fun y hy=>by rw[h4,List.mem_singleton]at hy;rw[hy];exact⟨h5,h6⟩⟩
  rw[if_neg (by omega)];exact .inr (.inr (.inr h2))
 ·refine⟨?_,by omega,by omega,fun y hy=>by rw[h4,List.mem_singleton]at hy;rw[hy];exact loc h5⟩
  rw[if_neg (by omega)];exact .inr (.inr (.inr h2))
 ·refine⟨?_,by omega,by omega,fun e he=>by rw[h5]at he;cases he⟩
  rw[if_pos (by omega)];exact h2
 ·refine⟨?_,by omega,by omega,fun e he=>by rw[h4]at he;cases he⟩
  rw[if_pos (by omega)];exact h2
 ·refine⟨?_,by omega,by omega,fun e he=>by rw[h4]at he;cases he⟩
  rw[if_neg (by omega)];omega
 ·refine⟨?_,by omega,by omega,fun y hy=>by rw[h4,List.mem_singleton]at hy;rw[hy];exact⟨h5,h6⟩⟩
  rw[if_neg (by omega)];omega
theorem Ma{ks:List Nd}:(∀y∈ks,∀s ts,rB s ts→rB (stmtT y++s) (lB y++ts))→∀s ts,rB s ts→rB (stmtsT ks++s) (rL ks++ts):=by
 induction ks with
 |nil=>intro _ s ts h;simpa [stmtsT,rL]using h
 |cons y r ih=>
  intro hy s ts h
  have h1:=ih (fun z hz=>hy z (List.mem_cons_of_mem _ hz)) s ts h
  have h2:=hy y (List.mem_cons_self ..) _ _ h1.sp
  simpa [stmtsT,rL]using h2
theorem Oh(x:Nd):(aG x=true→cG x.kind=true→∀s ts,rB s ts→rB (stmtT x++s) (lB x++ts))∧(BlockR x→∀s ts,rB s ts→rB (blockT x++s) (jL x++ts)):=by
 refine mS (p:=fun x=>(aG x=true→cG x.kind=true→∀s ts,rB s ts→rB (stmtT x++s) (lB x++ts))∧(BlockR x→∀s ts,rB s ts→rB (blockT x++s) (jL x++ts))) (fun k t n ks ih=>⟨?_,?_⟩) x
 ·intro hr hk s ts hl
  have l0:=rB.sign (c:=59) (by decide) hl
  rcases right_stmt hr hk with⟨t',e,hx,h1,h2,h3⟩|⟨p,e,hx,h1,h2,h3,h4⟩|⟨k',e,b,hk',hx,h1,h2,h3,h4⟩|⟨e,b,c,hx,h1,h2,h3,h4,h5,h6⟩|⟨k',t',n',ks',h1,h2,hx,h3⟩
  ·rw[hx]
   have l1:=rV e h2 h3 _ _ l0 rfl
   have l2:=dI (t:=[61]) ⟨by decide,by decide⟩ rfl l1.sp
   have l3:=dI (xE h1) rfl l2.sp
   simpa [stmtT,lB]using l3
  ·rw[hx]
   have l1:=rV e h3 h4 _ _ l0 rfl
   have l2:=dI (t:=[61]) ⟨by decide,by decide⟩ rfl l1.sp
   have l3:=rV p h1 (mH h2) _ _ l2.sp rfl
   simpa [stmtT,lB]using l3
  ·injection hx with i1 i2 i3 i4
   subst i1;subst i4
   have l1:=(ih b (by simp)).2 (right_block h3 h4) s ts hl
   have l2:=rV e h1 h2 _ _ l1.sp rfl
   have l3:=dI (AD (k:=k) (by omega)) rfl l2.sp
   have q1:¬k=9:=by omega
   have q2:¬k=10:=by omega
   simpa [stmtT,lB,q1,q2,hk']using l3
  ·injection hx with i1 i2 i3 i4
   subst i1;subst i4
   have l1:=(ih c (by simp)).2 (right_block h5 h6) s ts hl
   have l2:=dI (t:=cF) ⟨by decide,by decide⟩ rfl l1.sp
   have l3:=(ih b (by simp)).2 (right_block h3 h4) _ _ l2.sp
   have l4:=rV e h1 h2 _ _ l3.sp rfl
   have l5:=dI (AD (k:=11) (by omega)) rfl l4.sp
   simpa [stmtT,lB]using l5
  ·rw[hx]
   obtain⟨c1,c2,c3,c4⟩:=yJ h3
   have l1:=Of (Og (JC.kids (show JC (59::s) ([59]::ts) from⟨l0,rfl⟩) c4) c2 c3) c1
   have l2:=dI (AD (k:=k') (by omega)) l1.2 l1.1
   rw[stmtT_cmd _ _ _ h1,stmtK_cmd _ _ _ h1]
   simpa using l2
 ·rintro⟨ks',hx,hy⟩ s ts hl
  injection hx with i1 i2 i3 i4
  subst i4
  have l1:=rB.sign (c:=125) (by decide) hl
  have l2:=Ma (ks:=ks) (fun y hyk=>(ih y hyk).1 (hy y hyk).1 (hy y hyk).2) _ _ l1
  have l3:=rB.sign (c:=123) (by decide) l2.sp
  simpa [blockT,jL]using l3
def Gw(n:Int):List aN:=if n<0 then [[45],oX n.natAbs]else [oX n.toNat]
def HR(x:Nd):List aN:=x.text::[61]::(Gw x.n++[[59]])
def AE(x:Nd):List aN:=
 if x.kind=5∨x.kind=6 then(match x.kids with|[b]=>bC x.kind::x.text::jL b|_=>[])
 else if x.kind=1 then bC x.kind::x.text::[123]::(x.kids.flatMap HR++[[125]])
 else if x.kind=0 then bC x.kind::x.text::[61]::(Gw x.n++[[59]])
 else if x.kind=2 then bC x.kind::x.text::(Gw x.n++[[59]])
 else [bC x.kind,x.text,[59]]
theorem Gx{n:Int}(h0: -999≤n)(h1:n≤999){s:aN}{ts:List aN}(h:rB s ts)(hs:AA s=true):rB (fC n++s) (Gw n++ts):=by
 unfold fC Gw
 by_cases q:n<0
 ·rw[if_pos q,if_pos q]
  have:=rB.sign (c:=45) (by decide) (dI (t:=oX n.natAbs) (Gv _ (by omega)) hs h)
  simpa using this
 ·rw[if_neg q,if_neg q]
  exact dI (t:=oX n.toNat) (Gv _ (by omega)) hs h
def HS(x:Nd):Prop:=∃t n,x=.mk 7 t n []∧cC t true=true∧ -999≤n∧n≤999
theorem JD{x:Nd}(hr:aG x=true)(hk:tY x.kind=true):HS x:=by
 obtain⟨k,t,n,ks⟩:=x
 have hk:k=7:=of_decide_eq_true (show decide (k=7)=true from hk)
 subst hk
 obtain⟨_,_,hs,w1,w2,w3,_⟩:=right_mk.1 hr
 have hz:dZ 7= -999∧eC 7=999:=⟨rfl,rfl⟩
 exact⟨t,n,by rw[kids_none hs],w3,by omega,by omega⟩
theorem Fm:∀{ks:List Nd},(∀y∈ks,HS y)→∀s ts,rB s ts→rB (ks.flatMap itemT++s) (ks.flatMap HR++ts)
 |[],_,s,ts,h=>h
 |y::r,hy,s,ts,h=>by
  obtain⟨t,n,rfl,h1,h2,h3⟩:=hy y (List.mem_cons_self ..)
  have l1:=Fm (fun z hz=>hy z (List.mem_cons_of_mem _ hz)) s ts h
  have l2:=rB.sign (c:=59) (by decide) l1.sp
  have l3:=Gx h2 h3 l2 rfl
  have l4:=dI (t:=[61]) ⟨by decide,by decide⟩ rfl l3.sp
  have l5:=dI (nZ h1).1 rfl l4.sp
  simpa [itemT,HR]using l5
def Oi(x:Nd):Prop:=cC x.text true=true∧(((x.kind=5∨x.kind=6)∧∃b,x=.mk x.kind x.text 0 [b]∧BlockR b)∨(x.kind=1∧x=.mk 1 x.text 0 x.kids∧∀y∈x.kids,HS y)∨
 (x.kind=0∧x=.mk 0 x.text x.n []∧ -999≤x.n∧x.n≤999)∨(x.kind=2∧x=.mk 2 x.text x.n []∧0≤x.n∧x.n≤3)∨((x.kind=3∨x.kind=4)∧x=.mk x.kind x.text 0 []))
theorem uZ{x:Nd}(hr:aG x=true)(h0:0≤x.kind)(h1:x.kind≤6):Oi x:=by
 obtain⟨k,t,n,ks⟩:=x
 have h0:0≤k:=h0
 have h1:k≤6:=h1
 obtain⟨_,_,hs,w1,w2,w3,hk⟩:=right_mk.1 hr
 have hcase:k=0∨k=1∨k=2∨k=3∨k=4∨k=5∨k=6:=by omega
 refine⟨by rcases hcase with rfl|rfl|rfl|rfl|rfl|rfl|rfl<;>exact w3,?_⟩
 rcases hcase with rfl|rfl|rfl|rfl|rfl|rfl|rfl
 ·have hz:dZ 0= -999∧eC 0=999:=⟨rfl,rfl⟩
  exact .inr (.inr (.inl ⟨rfl,by rw[kids_none hs];rfl,by simp only[rR];omega,by simp only[rR];omega⟩))
 ·have hz:dZ 1=0∧eC 1=0:=⟨rfl,rfl⟩
  exact .inr (.inl ⟨rfl,by rw[show n=0 by omega];rfl,fun y hy=>JD (hk y hy) (List.all_eq_true.1 (show(ks.all fun y=>tY y.kind)=true from hs) y hy)⟩)
 ·have hz:dZ 2=0∧eC 2=3:=⟨rfl,rfl⟩
  exact .inr (.inr (.inr (.inl ⟨rfl,by rw[kids_none hs];rfl,by simp only[rR];omega,by simp only[rR];omega⟩)))
 ·have hz:dZ 3=0∧eC 3=0:=⟨rfl,rfl⟩
  exact .inr (.inr (.inr (.inr ⟨.inl rfl,by rw[kids_none hs,show n=0 by omega];rfl⟩)))
 ·have hz:dZ 4=0∧eC 4=0:=⟨rfl,rfl⟩
  exact .inr (.inr (.inr (.inr ⟨.inr rfl,by rw[kids_none hs,show n=0 by omega];rfl⟩)))
 ·have hz:dZ 5=0∧eC 5=0:=⟨rfl,rfl⟩
  obtain⟨b,rfl,hb⟩:=kids_one (f:=cL) hs
  exact .inl ⟨.inl rfl,b,by rw[show n=0 by omega];rfl,right_block (hk b (by simp)) hb⟩
 ·have hz:dZ 6=0∧eC 6=0:=⟨rfl,rfl⟩
  obtain⟨b,rfl,hb⟩:=kids_one (f:=cL) hs
  exact .inl ⟨.inr rfl,b,by rw[show n=0 by omega];rfl,right_block (hk b (by simp)) hb⟩
theorem KR{x:Nd}(h:Oi x):rB (textT x) (AE x):=by
 obtain⟨k,t,n,ks⟩:=x
 obtain⟨ht,h⟩:=h
 have ht:cC t true=true:=ht
 have l0:rB [59] [[59]]:=rB.sign (c:=59) (by decide) rB.nil
 have head:∀{k:Int} {s:aN} {ts:List aN},(0≤k∧k≤6)→rB s ts→AA s=true→rB (bC k++32::(t++s)) (bC k::t::ts):=fun hk hl hs=>dI (AD (.inl hk)) rfl (dI (nZ ht).1 hs hl).sp
 rcases h with⟨hk,b,hx,hb⟩|⟨hk,hx,hb⟩|⟨hk,hx,h1,h2⟩|⟨hk,hx,h1,h2⟩|⟨hk,hx⟩
 ·injection hx with i1 i2 i3 i4
  subst i4
  have hk:k=5∨k=6:=hk
  have l1:=(Oh b).2 hb [] [] rB.nil
  have l2:=head (k:=k) (by omega) l1.sp rfl
  simpa [textT,AE,hk]using l2
 ·have hk:k=1:=hk
  subst hk
  have l1:rB [125] [[125]]:=rB.sign (c:=125) (by decide) rB.nil
  have l2:=Fm hb _ _ l1
  have l3:=rB.sign (c:=123) (by decide) l2.sp
  have l4:=head (k:=1) (by omega) l3.sp rfl
  simpa [textT,AE]using l4
 ·have hk:k=0:=hk
  subst hk
  have l1:=Gx (n:=n) h1 h2 l0 rfl
  have l2:=dI (t:=[61]) ⟨by decide,by decide⟩ rfl l1.sp
  have l3:=head (k:=0) (by omega) l2.sp rfl
  simpa [textT,AE]using l3
 ·have hk:k=2:=hk
  subst hk
  have h1:0≤n:=h1
  have h2:n≤3:=h2
  have l1:=Gx (n:=n) (by omega) (by omega) l0 rfl
  have l3:=head (k:=2) (by omega) l1.sp rfl
  simpa [textT,AE]using l3
 ·have hk:k=3∨k=4:=hk
  have l1:=head (k:=k) (by omega) l0 rfl
  have q1:¬(k=5∨k=6):=by omega
  have q2:¬k=1:=by omega
  have q3:¬k=0:=by omega
  have q4:¬k=2:=by omega
  simpa [textT,AE,q1,q2,q3,q4]using l1
end Go.Eng
namespace Go.Eng
theorem nJ(x:Nd):aG x=true→aH x.kind=true→depthN x≤(bR x).length:=by
 refine mS (p:=fun x=>aG x=true→aH x.kind=true→depthN x≤(bR x).length) (fun k t n ks ih=>?_) x
 intro hr he
 rcases mI hr he with⟨_,_,_,h4⟩|⟨h1,_⟩|h1|⟨h1,_⟩|⟨h1,h2⟩|⟨k',a,b,h1,h2,h3,h4,h5,h6,h7⟩
 ·rw[h4];simp[depthN,depthL,bR]
 ·rw[h1];simp[depthN,depthL,bR]
 ·rw[h1];simp[depthN,depthL,bR]
 ·rw[h1];simp[depthN,depthL,bR]
 ·rw[h1]
  obtain⟨a,b,e1,_⟩:=rU h2
  have e1:lI 46 t=some (a,b):=e1
  simp[depthN,depthL,bR,Bp,e1]
 ·injection h3 with i1 i2 i3 i4
  subst i1;subst i2;subst i3;subst i4
  have ha:=ih a (by simp) h4 h5
  have hb:=ih b (by simp) h6 h7
  have hp:∀c (l:List aN),l.length≤(zF c l).length:=fun c l=>by
   cases c
   ·exact Nat.le_refl _
   ·simp only[zF,if_true,List.length_cons,List.length_append,List.length_nil];omega
  have e1:=hp (decide (lvlN a.kind<(if bM k=1 then 2 else bM k))) (bR a)
  have e2:=hp (decide (lvlN b.kind<bM k+1)) (bR b)
  rw[Bq h1 h2]
  simp only[depthN,depthL,List.length_append,List.length_cons]
  omega
def zJ:PS→Nd×PS:=fun q=>dD false (q.l.length+1) q
def Gy(rest:List aN):Prop:=pG rest∧rJ 1 rest∧rJ 2 rest∧rJ 3 rest
theorem sT(r:List aN):Gy ([59]::r):=⟨show some [59]≠some [46]by decide,show qD 1 [59]<0 by decide,show qD 2 [59]<0 by decide,show qD 3 [59]<0 by decide⟩
theorem DO(r:List aN):Gy ([123]::r):=⟨show some [123]≠some [46]by decide,show qD 1 [123]<0 by decide,show qD 2 [123]<0 by decide,show qD 3 [123]<0 by decide⟩
theorem Bt{e:Nd}(hr:aG e=true)(hk:aH e.kind=true){rest:List aN}(h:Gy rest):fV zJ (bR e) e rest:=fun p hp=>by
 have hd:=nJ e hr hk
 have hl:=hp.len
 simp only[List.length_append]at hl
 exact(DN e hr hk).a1 (p.l.length+1) rest (by omega) h.1 h.2.1 h.2.2.1 h.2.2.2 p hp
theorem yK{k:Int}(h:11≤k∧k≤25):dT (bC k)=k:=by
 have:k=11∨k=12∨k=13∨k=14∨k=15∨k=16∨k=17∨k=18∨k=19∨k=20∨k=21∨k=22∨k=23∨k=24∨k=25:=by omega
 rcases this with rfl|rfl|rfl|rfl|rfl|rfl|rfl|rfl|rfl|rfl|rfl|rfl|rfl|rfl|rfl<;>decide
theorem Fn{s:aN}(h:∀w∈cZ,s≠w):dT s= -1:=by
 unfold dT
 split
 ·rfl
 ·unfold HI
  have:((List.range 26).find? fun i=>decide (cZ.getD i []=s))=none:=by
   rw[List.find?_eq_none]
   intro i hi
   have hi:i<cZ.length:=List.mem_range.1 hi
   simp only[decide_eq_true_eq]
   rw[List.getD_eq_getElem?_getD,List.getElem?_eq_getElem hi]
   exact fun e=>h _ (List.getElem_mem hi) e.symm
  rw[this]
theorem Gz:∀w∈cZ,w.head?≠some 36:=by decide
theorem HT(t:aN):dT (36::t)= -1:=Fn fun w hw e=>Gz w hw (by rw[←e];rfl)
theorem pH{k:Int}{n:Int}(h0:0≤n)(h1:n≤999)(h2:dZ k≤n)(h3:n≤eC k){p:PS}{ts:List aN}(h:Ab p (oX n.toNat::ts)):aP k p=(n,p.skip):=by
 obtain⟨_,_,d3,d4⟩:=Br n.toNat (by omega)
 unfold aP
 rw[h.peek]
 generalize oX n.toNat=w at*
 cases w with
 |nil=>cases d3
 |cons c r=>
  simp only at d3
  simp only[d3,if_true]
  rw[d4,if_neg (by omega),show((n.toNat:Nat):Int)=n by omega]
theorem Mb{k:Int}{t:aN}{n:Int}{ks:List Nd}(h:CmdR k t n ks){rest:List aN}:fV (mE zJ k) (Bs k t++(rK n++ks.flatMap bR)) (.mk k t n ks) ([59]::rest):=fun p hp=>by
 rcases h with⟨h1,h2,h3,h4⟩|⟨h1,h2,h3,e,h4,h5,h6⟩|⟨h1,h2,h3,u,h4,h5⟩|⟨h1,h2,h3,h4,h5⟩|⟨h1,h2,h3,h4⟩|⟨h1,h2,h3,h4⟩|⟨h1,h2,h3,e,h4,h5,h6⟩
 ·subst h3;subst h4
  have q1:¬(k=19∨k=20):=by omega
  have q2:¬(k=21∨k=25∨k=24):=by omega
  simp only[Bs,q1,q2,if_false,rK,Int.lt_irrefl,List.flatMap_nil,List.append_nil,List.singleton_append]at hp
  refine⟨p.skip,?_,hp.skip⟩
  unfold mE
  simp only[q1,q2,if_false]
  rw[hp.name h2]
  rw[if_neg (by omega),if_neg (by omega),if_neg (by omega)]
 ·subst h3;subst h4
  have q1:¬(k=19∨k=20):=by omega
  have q2:¬(k=21∨k=25∨k=24):=by omega
  simp only[Bs,q1,q2,if_false,rK,Int.lt_irrefl,List.flatMap_cons,List.flatMap_nil,List.append_nil,List.nil_append,List.cons_append]at hp
  obtain⟨q,g1,g2⟩:=Bt h5 h6 (sT rest) p.skip hp.skip
  refine⟨q,?_,g2⟩
  unfold mE
  simp only[q1,q2,if_false]
  rw[hp.name h2]
  simp only
  rw[if_pos (by omega),g1]
 ·subst h3;subst h4
  have q1:¬(k=19∨k=20):=by omega
  have q2:¬(k=21∨k=25∨k=24):=by omega
  have eK:bR (.mk 33 u 0 [])=[36::u]:=by simp[bR]
  simp only[Bs,q1,q2,if_false,rK,Int.lt_irrefl,List.flatMap_cons,List.flatMap_nil,List.append_nil,List.nil_append,List.cons_append,eK]at hp
  refine⟨p.skip.skip,?_,hp.skip.skip⟩
  unfold mE
  simp only[q1,q2,if_false]
  rw[hp.name h2]
  simp only
  rw[if_neg (by omega),if_pos (by omega),hp.skip.local]
 ·subst h5
  have q1:k=19∨k=20:=by omega
  have en:fC n=oX n.toNat:=by unfold fC;rw[if_neg (by omega)]
  simp only[Bs,q1,if_true,rK,show 0<n by omega,List.flatMap_nil,List.append_nil,List.singleton_append,List.cons_append,List.nil_append,en]at hp
  have hz:dZ k≤n∧n≤eC k:=by
   rw[h1]
   have hz:dZ 19=2∧eC 19=6:=⟨rfl,rfl⟩
   omega
  refine⟨p.skip.skip,?_,hp.skip.skip⟩
  unfold mE
  simp only[q1,if_true]
  rw[hp.local]
  rw[if_neg (by omega),if_neg (by omega),if_pos (by omega),pH (by omega) (by omega) hz.1 hz.2 hp.skip]
 ·subst h3;subst h4
  have q1:k=19∨k=20:=by omega
  simp only[Bs,q1,if_true,rK,Int.lt_irrefl,if_false,List.flatMap_nil,List.append_nil,List.singleton_append]at hp
  refine⟨p.skip,?_,hp.skip⟩
  unfold mE
  simp only[q1,if_true]
  rw[hp.local]
  rw[if_neg (by omega),if_neg (by omega),if_neg (by omega)]
 ·subst h2;subst h4
  have q1:¬(k=19∨k=20):=by omega
  have q2:k=21∨k=25∨k=24:=by omega
  have en:fC n=oX n.toNat:=by unfold fC;rw[if_neg (by omega)]
  simp only[Bs,q1,q2,if_false,if_true,rK,show 0<n by omega,List.flatMap_nil,List.append_nil,List.singleton_append,List.nil_append,en]at hp
  have hz:dZ k≤n∧n≤eC k:=by
   rcases h1 with⟨rfl,h1⟩|⟨rfl,h1⟩
   ·have hz:dZ 21=1∧eC 21=9:=⟨rfl,rfl⟩
    omega
   ·have hz:dZ 25=1∧eC 25=99:=⟨rfl,rfl⟩
    omega
  refine⟨p.skip,?_,hp.skip⟩
  unfold mE
  simp only[q1,q2,if_false,if_true]
  rw[if_neg (by omega),if_neg (by omega),if_pos (by omega),pH (by omega) (by omega) hz.1 hz.2 hp]
 ·subst h2;subst h3;subst h4
  have q1:¬(k=19∨k=20):=by omega
  have q2:k=21∨k=25∨k=24:=by omega
  simp only[Bs,q1,q2,if_false,if_true,rK,Int.lt_irrefl,List.flatMap_cons,List.flatMap_nil,List.append_nil,List.nil_append]at hp
  obtain⟨q,g1,g2⟩:=Bt h5 h6 (sT rest) p hp
  refine⟨q,?_,g2⟩
  unfold mE
  simp only[q1,q2,if_false,if_true]
  rw[if_pos (by omega),g1]
theorem DP{x:Nd}(hr:aG x=true)(hp:gG x.kind=true)(rest:List aN):∃t u,cC t true=true∧bR x++rest=t::u:=by
 rcases mI hr (mH hp)with⟨g1,_⟩|⟨g1,_⟩|g1|⟨g1,g2⟩|⟨g1,g2⟩|⟨k',a,b,g1,g2,g3,_⟩
 ·rw[g1]at hp;cases hp
 ·rw[g1]at hp;cases hp
 ·rw[g1]at hp;cases hp
 ·rw[g1];exact⟨x.text,rest,g2,rfl⟩
 ·obtain⟨a,b,e1,e2,e3,e4⟩:=rU g2
  rw[g1]
  simp only[bR,show¬(35:Int)=32 by decide,show¬(35:Int)=33 by decide,show¬(35:Int)=36 by decide,show¬(35:Int)=34 by decide,if_false,if_true,Bp,e1]
  exact⟨a,_,e3,rfl⟩
 ·rw[g3]at hp
  have hp:=vU.1 (show gG k'=true from hp)
  omega
theorem Mc{x:Nd}(hr:aG x=true)(hk:cG x.kind=true):∃t u,lB x=t::u∧t≠cF∧t≠[125]:=by
 rcases right_stmt hr hk with⟨t',e,hx,h1,h2,h3⟩|⟨p,e,hx,h1,h2,h3,h4⟩|⟨k',e,b,hk',hx,h1,h2,h3,h4⟩|⟨e,b,c,hx,h1,h2,h3,h4,h5,h6⟩|⟨k',t',n',ks',h1,h2,hx,h3⟩
 ·rw[hx];exact⟨36::t',[61]::(bR e++[[59]]),by simp[lB],by simp[cF],by simp⟩
 ·rw[hx]
  obtain⟨t,u,ht,e2⟩:=DP h1 h2 ([61]::(bR e++[[59]]))
  obtain⟨_,_,f3,_,c,r,f4,f5⟩:=vW ht
  refine⟨t,u,by simpa [lB]using e2,f3,fun e=>?_⟩
  rw[e]at f4;injection f4 with f4 _;rw[←f4]at f5;revert f5;decide
 ·rw[hx]
  rcases hk' with rfl|rfl
  ·exact⟨bC 11,bR e++jL b,by simp[lB],by decide,by decide⟩
  ·exact⟨bC 12,bR e++jL b,by simp[lB],by decide,by decide⟩
 ·rw[hx];exact⟨bC 11,bR e++(jL b++cF::jL c),by simp[lB],by decide,by decide⟩
 ·rw[hx]
  have q1:¬k'=9:=by omega
  have q2:¬k'=10:=by omega
  have q3:¬(k'=11∨k'=12):=by omega
  refine⟨bC k',Bs k' t'++(rK n'++(ks'.flatMap bR++[[59]])),stmtK_cmd _ _ _ h1,?_⟩
  have:k'=13∨k'=14∨k'=15∨k'=16∨k'=17∨k'=18∨k'=19∨k'=20∨k'=21∨k'=22∨k'=23∨k'=24∨k'=25:=by omega
  rcases this with rfl|rfl|rfl|rfl|rfl|rfl|rfl|rfl|rfl|rfl|rfl|rfl|rfl<;>exact⟨by decide,by decide⟩
theorem Ci{st:PS→Nd×PS}{rest:List aN}:∀(ks acc:List Nd) (fuel:Nat) (p:PS),(∀y∈ks,(∃t u,lB y=t::u∧t≠cF∧t≠[125])∧∀r,r.head?≠some cF→fV st (lB y) y r)→
 Ab p (rL ks++[125]::rest)→p.l.length<fuel→∃q,eE st fuel acc p=(acc++ks,q)∧Ab q ([125]::rest)
 |_,_,0,_,_,_,h=>by omega
 |[],acc,f+1,p,_,hp,_=>by
  have hp:Ab p ([125]::rest):=hp
  refine⟨p,?_,hp⟩
  unfold eE
  rw[if_pos (.inr hp.peek),List.append_nil]
 |y::r,acc,f+1,p,hy,hp,hf=>by
  obtain⟨⟨t,u,h1,h2,h3⟩,h4⟩:=hy y (List.mem_cons_self ..)
  simp only[rL,List.append_assoc]at hp
  have hh:(rL r++[125]::rest).head?≠some cF:=by
   cases r with
   |nil=>show some [125]≠some cF;decide
   |cons z r=>
    obtain⟨⟨t',u',g1,g2,_⟩,_⟩:=hy z (by simp)
    simp only[rL,g1,List.cons_append,List.head?_cons]
    intro e;exact g2 (Option.some.inj e)
  obtain⟨q,k1,k2⟩:=h4 _ hh p hp
  have hpl:=hp.len
  have hql:=k2.len
  rw[h1]at hp hpl
  simp only[List.length_append,List.length_cons]at hpl hql
  obtain⟨q2,k3,k4⟩:=Ci r (acc++[y]) f q (fun z hz=>hy z (List.mem_cons_of_mem _ hz)) k2 (by omega)
  refine⟨q2,?_,k4⟩
  unfold eE
  rw[if_neg,k1,k3,List.append_assoc]
  ·rfl
  ·rw[hp.peek]
   intro h
   rcases h with h|h
   ·exact h hp.1
   ·exact h3 h
theorem JE(x:Nd):(aG x=true→cG x.kind=true→∀f rest,depthN x≤f→rest.head?≠some cF→fV (kS false f) (lB x) x rest)∧
 (BlockR x→∀f rest,depthN x≤f+1→fV (fU (kS false f)) (jL x) x rest):=by
 refine mS (p:=fun x=>(aG x=true→cG x.kind=true→∀f rest,depthN x≤f→rest.head?≠some cF→fV (kS false f) (lB x) x rest)∧
  (BlockR x→∀f rest,depthN x≤f+1→fV (fU (kS false f)) (jL x) x rest)) (fun k t n ks ih=>⟨?_,?_⟩) x
 ·intro hr hk f rest hf hh p hp
  have hdp:depthN (.mk k t n ks)=depthL ks+1:=by rw[depthN]
  cases f with
  |zero=>omega
  |succ f=>
  have hst:kS false (f+1) p=gH zJ (fU (kS false f)) p:=rfl
  rw[hst]
  rcases right_stmt hr hk with⟨t',e,hx,h1,h2,h3⟩|⟨a,e,hx,h1,h2,h3,h4⟩|⟨k',e,b,hk',hx,h1,h2,h3,h4⟩|⟨e,b,c,hx,h1,h2,h3,h4,h5,h6⟩|⟨k',t',n',ks',h1,h2,hx,h3⟩
  ·rw[hx]at hp⊢
   simp only[lB,if_true,List.cons_append,List.append_assoc,List.nil_append]at hp
   obtain⟨q,g1,g2⟩:=Bt h2 h3 (sT rest) p.skip.skip hp.skip.skip
   refine⟨q.skip,?_,g2.skip⟩
   unfold gH
   simp only
   rw[hp.peek,HT]
   simp only[show¬((-1:Int)=11∨(-1:Int)=12)by decide,show¬(12:Int)< -1 by decide,if_false]
   rw[hp.local]
   simp only
   rw[hp.skip.need (by decide),g1]
   simp only
   rw[g2.need (by decide)]
  ·rw[hx]at hp⊢
   simp only[lB,show¬(10:Int)=9 by decide,if_false,if_true,List.cons_append,List.append_assoc,List.nil_append]at hp
   obtain⟨q0,g3,g4⟩:=xG h1 h2 (rest:=[61]::(bR e++[59]::rest)) (show some [61]≠some [46]by decide) p hp
   obtain⟨q,g1,g2⟩:=Bt h3 h4 (sT rest) q0.skip g4.skip
   obtain⟨w,u,hw,e2⟩:=DP h1 h2 ([61]::(bR e++[59]::rest))
   rw[e2]at hp
   obtain⟨_,_,_,f4,c,r,f5,f6⟩:=vW hw
   refine⟨q.skip,?_,g2.skip⟩
   have hc:c≠36:=fun e=>by rw[e]at f6;revert f6;decide
   unfold gH
   simp only
   rw[hp.peek,Fn f4]
   simp only[show¬((-1:Int)=11∨(-1:Int)=12)by decide,show¬(12:Int)< -1 by decide,if_false]
   rw[f5]
   split
   ·rename_i r' e;injection e with e _;exact absurd e hc
   ·rw[g3]
    simp only
    rw[g4.need (by decide),g1]
    simp only
    rw[g2.need (by decide)]
  ·injection hx with i1 i2 i3 i4
   subst i1;subst i4
   have q1:¬k=9:=by omega
   have q2:¬k=10:=by omega
   simp only[lB,q1,q2,hk',if_false,if_true,List.cons_append,List.append_assoc,List.nil_append]at hp
   have hdb:depthN b≤depthL [e,b]:=by simp only[depthL];omega
   obtain⟨ks',hb,hy⟩:=right_block h3 h4
   have hbk:jL b++rest=[123]::(rL ks'++([[125]]++rest)):=by rw[hb];simp[jL]
   rw[hbk]at hp
   obtain⟨q,g1,g2⟩:=Bt h1 h2 (DO _) p.skip hp.skip
   rw[←hbk]at g2
   obtain⟨q3,g3,g4⟩:=(ih b (by simp)).2 (right_block h3 h4) f rest (by omega) q g2
   refine⟨q3,?_,g4⟩
   unfold gH
   simp only
   rw[hp.peek,yK (by omega),if_pos hk',g1]
   simp only
   rw[g3]
   simp only
   rw[g4.isnt cF (by decide) hh,if_neg (by simp),i2,i3]
  ·injection hx with i1 i2 i3 i4
   subst i1;subst i4
   simp only[stmtK_if3,List.cons_append,List.append_assoc,List.nil_append]at hp
   have hdb:depthN b≤depthL [e,b,c]:=by simp only[depthL];omega
   have hdc:depthN c≤depthL [e,b,c]:=by simp only[depthL];omega
   obtain⟨ks',hb,hy⟩:=right_block h3 h4
   have hbk:jL b++(cF::(jL c++rest))=[123]::(rL ks'++([[125]]++(cF::(jL c++rest)))):=by rw[hb];simp[jL]
   rw[hbk]at hp
   obtain⟨q,g1,g2⟩:=Bt h1 h2 (DO _) p.skip hp.skip
   rw[←hbk]at g2
   obtain⟨q3,g3,g4⟩:=(ih b (by simp)).2 (right_block h3 h4) f (cF::(jL c++rest)) (by omega) q g2
   obtain⟨q5,g5,g6⟩:=(ih c (by simp)).2 (right_block h5 h6) f rest (by omega) q3.skip g4.skip
   refine⟨q5,?_,g6⟩
   unfold gH
   simp only
   rw[hp.peek,yK (by omega),if_pos (.inl rfl),g1]
   simp only
   rw[g3]
   simp only
   rw[g4.is cF (by decide),if_pos (by simp),g5,i2,i3]
  ·injection hx with i1 i2 i3 i4
   subst i1;subst i2;subst i3;subst i4
   have q1:¬k=9:=by omega
   have q2:¬k=10:=by omega
   have q3:¬(k=11∨k=12):=by omega
   rw[stmtK_cmd _ _ _ h1]at hp
   simp only[List.cons_append,List.append_assoc,List.nil_append]at hp
   obtain⟨q,g1,g2⟩:=Mb h3 (rest:=rest) p.skip (by simpa using hp.skip)
   refine⟨q.skip,?_,g2.skip⟩
   unfold gH
   simp only
   rw[hp.peek,yK (by omega),if_neg q3,if_pos (by omega),g1]
   simp only
   rw[g2.need (by decide)]
 ·rintro⟨ks',hx,hy⟩ f rest hf p hp
  injection hx with i1 i2 i3 i4
  subst i1;subst i2;subst i3;subst i4
  have hdl:∀y∈ks,depthN y≤depthL ks:=fun y hyk=>by
   clear hf hp ih hy
   induction ks with
   |nil=>cases hyk
   |cons a r ih=>
    rw[depthL]
    rcases List.mem_cons.1 hyk with e|e
    ·rw[e];omega
    ·have:=ih e;omega
  rw[depthN]at hf
  simp only[jL,List.cons_append,List.append_assoc,List.nil_append]at hp
  obtain⟨q,g1,g2⟩:=Ci (st:=kS false f) (rest:=rest) ks [] (p.skip.l.length+1) p.skip (fun y hyk=>⟨Mc (hy y hyk).1 (hy y hyk).2,fun r hr=>(ih y hyk).1 (hy y hyk).1 (hy y hyk).2 f r (by have:=hdl y hyk;omega) hr⟩) hp.skip (by omega)
  refine⟨q.skip,?_,g2.skip⟩
  unfold fU
  simp only
  rw[hp.need (by decide),g1]
  simp only[List.nil_append]
  rw[g2.need (by decide)]
theorem HU(x:Nd):(aG x=true→cG x.kind=true→depthN x≤(lB x).length)∧(BlockR x→depthN x≤(jL x).length):=by
 refine mS (p:=fun x=>(aG x=true→cG x.kind=true→depthN x≤(lB x).length)∧(BlockR x→depthN x≤(jL x).length)) (fun k t n ks ih=>⟨?_,?_⟩) x
 ·intro hr hk
  rcases right_stmt hr hk with⟨t',e,hx,h1,h2,h3⟩|⟨a,e,hx,h1,h2,h3,h4⟩|⟨k',e,b,hk',hx,h1,h2,h3,h4⟩|⟨e,b,c,hx,h1,h2,h3,h4,h5,h6⟩|⟨k',t',n',ks',h1,h2,hx,h3⟩
  ·rw[hx]
   have:=nJ e h2 h3
   simp only[depthN,depthL,lB,if_true,List.length_cons,List.length_append]
   omega
  ·rw[hx]
   have:=nJ e h3 h4
   have:=nJ a h1 (mH h2)
   simp only[depthN,depthL,lB,show¬(10:Int)=9 by decide,if_false,if_true,List.length_cons,List.length_append]
   omega
  ·injection hx with i1 i2 i3 i4
   subst i1;subst i4
   have:=nJ e h1 h2
   have:=(ih b (by simp)).2 (right_block h3 h4)
   have q1:¬k=9:=by omega
   have q2:¬k=10:=by omega
   simp only[depthN,depthL,lB,q1,q2,hk',if_false,if_true,List.length_cons,List.length_append]
   omega
  ·injection hx with i1 i2 i3 i4
   subst i1;subst i4
   have:=nJ e h1 h2
   have:=(ih b (by simp)).2 (right_block h3 h4)
   have:=(ih c (by simp)).2 (right_block h5 h6)
   simp only[depthN,depthL,stmtK_if3,List.length_cons,List.length_append]
   omega
  ·rw[hx]
   have q1:¬k'=9:=by omega
   have q2:¬k'=10:=by omega
   have q3:¬(k'=11∨k'=12):=by omega
   have hk:∀ks:List Nd,(∀e∈ks,aG e=true∧aH e.kind=true)→depthL ks≤(ks.flatMap bR).length:=fun ks=>by
    induction ks with
    |nil=>intro _;simp[depthL]
    |cons a r ih=>
     intro h
     have h1:=ih fun y hy=>h y (List.mem_cons_of_mem _ hy)
     have h2:=nJ a (h a (by simp)).1 (h a (by simp)).2
     simp only[depthL,List.flatMap_cons,List.length_append]
     omega
   have:=hk ks' (yJ h3).2.2.2
   rw[stmtK_cmd _ _ _ h1,depthN]
   simp only[List.length_cons,List.length_append]
   omega
 ·rintro⟨ks',hx,hy⟩
  injection hx with i1 i2 i3 i4
  subst i4
  have hk:∀l:List Nd,(∀y∈l,depthN y≤(lB y).length)→depthL l≤(rL l).length:=fun l=>by
   induction l with
   |nil=>intro _;simp[depthL]
   |cons a r ih=>
    intro h
    have h1:=ih fun y hy=>h y (List.mem_cons_of_mem _ hy)
    have h2:=h a (by simp)
    simp only[depthL,rL,List.length_append]
    omega
  have:=hk ks fun y hyk=>(ih y hyk).1 (hy y hyk).1 (hy y hyk).2
  simp only[depthN,jL,List.length_cons,List.length_append]
  omega
theorem AF{n:Int}(h0: -999≤n)(h1:n≤999){p:PS}{ts:List aN}(h:Ab p (Gw n++ts)):∃q,bK p=(n,q)∧Ab q ts:=by
 have hz:dZ 0= -999∧eC 0=999:=⟨rfl,rfl⟩
 unfold Gw at h
 by_cases q:n<0
 ·rw[if_pos q]at h
  simp only[List.cons_append,List.nil_append]at h
  refine⟨p.skip.skip,?_,h.skip.skip⟩
  unfold bK
  have e:n.natAbs=(-n).toNat:=by omega
  have h':=h.skip
  rw[e]at h'
  rw[h.is [45] (by decide),if_pos (by simp),pH (n:= -n) (by omega) (by omega) (by omega) (by omega) h']
  simp
 ·rw[if_neg q]at h
  simp only[List.cons_append,List.nil_append]at h
  refine⟨p.skip,?_,h.skip⟩
  unfold bK
  have hd:oX n.toNat≠[45]:=fun e=>by
   have:=(Br n.toNat (by omega)).2.2.1
   rw[e]at this;revert this;decide
  rw[h.is [45] (by decide),decide_eq_false hd]
  simp only[Bool.false_eq_true,if_false]
  exact pH (by omega) (by omega) (by omega) (by omega) h
theorem Cj{rest:List aN}:∀(ks acc:List Nd) (fuel:Nat) (p:PS),(∀y∈ks,HS y)→Ab p (ks.flatMap HR++[125]::rest)→p.l.length<fuel→∃q,lL fuel acc p=(acc++ks,q)∧Ab q ([125]::rest)
 |_,_,0,_,_,_,h=>by omega
 |[],acc,f+1,p,_,hp,_=>by
  have hp:Ab p ([125]::rest):=hp
  refine⟨p,?_,hp⟩
  unfold lL
  rw[if_pos (.inr hp.peek),List.append_nil]
 |y::r,acc,f+1,p,hy,hp,hf=>by
  obtain⟨t,n,rfl,h1,h2,h3⟩:=hy y (List.mem_cons_self ..)
  simp only[List.flatMap_cons,HR,lA,rR,List.cons_append,List.append_assoc,List.nil_append]at hp
  obtain⟨q,g1,g2⟩:=AF h2 h3 hp.skip.skip
  have hpl:=hp.len
  have hql:=g2.skip.len
  simp only[List.length_append,List.length_cons]at hpl hql
  obtain⟨q2,k3,k4⟩:=Cj r (acc++[.mk 7 t n []]) f q.skip (fun z hz=>hy z (List.mem_cons_of_mem _ hz)) g2.skip (by omega)
  refine⟨q2,?_,k4⟩
  obtain⟨_,_,_,_,c,u,f4,f5⟩:=vW h1
  unfold lL
  rw[if_neg]
  ·simp only
   rw[hp.name h1]
   simp only
   rw[hp.skip.need (by decide),g1]
   simp only
   rw[g2.need (by decide),k3,List.append_assoc]
   rfl
  ·rw[hp.peek]
   intro h
   rcases h with h|h
   ·exact h hp.1
   ·rw[h]at f4;injection f4 with f4 _;rw[←f4]at f5;revert f5;decide
theorem Oj{k:Int}(h:0≤k∧k≤6):dG (bC k)=k:=by
 have:k=0∨k=1∨k=2∨k=3∨k=4∨k=5∨k=6:=by omega
 rcases this with rfl|rfl|rfl|rfl|rfl|rfl|rfl<;>decide
theorem Fo{x:Nd}(h:Oi x){p:PS}(hp:Ab p (AE x)):∃q,kP false p=(x,q)∧Ab q []:=by
 obtain⟨k,t,n,ks⟩:=x
 obtain⟨ht,h⟩:=h
 have ht:cC t true=true:=ht
 have key:∀{ts:List aN},(0≤k∧k≤6)→Ab p (bC k::t::ts)→dG p.peek=k∧aM p.skip=(t,p.skip.skip):=fun hk hp=>⟨by rw[hp.peek];exact Oj hk,hp.skip.name ht⟩
 rcases h with⟨hk,b,hx,hb⟩|⟨hk,hx,hb⟩|⟨hk,hx,h1,h2⟩|⟨hk,hx,h1,h2⟩|⟨hk,hx⟩
 ·injection hx with i1 i2 i3 i4
  subst i4;subst i3
  have hk:k=5∨k=6:=hk
  simp only[AE,fB,nG,lA,hk,if_true]at hp
  obtain⟨k1,k2⟩:=key (by omega) hp
  have hd:=(HU b).2 hb
  have hl:=hp.skip.skip.len
  obtain⟨q,g1,g2⟩:=(JE b).2 hb (p.skip.skip.l.length+1) [] (by omega) p.skip.skip (by simpa using hp.skip.skip)
  refine⟨q,?_,g2⟩
  unfold kP
  simp only
  rw[k1,if_neg (by omega),k2,if_pos hk]
  simp only
  unfold qQ
  rw[g1]
 ·have hk:k=1:=hk
  subst hk
  injection hx with i1 i2 i3 i4
  subst i3
  simp only[AE,fB,nG,lA,show¬((1:Int)=5∨(1:Int)=6)by decide,if_false,if_true]at hp
  obtain⟨k1,k2⟩:=key (by omega) hp
  obtain⟨q,g1,g2⟩:=Cj ks [] (p.skip.skip.skip.l.length+1) p.skip.skip.skip hb hp.skip.skip.skip (by omega)
  refine⟨q.skip,?_,g2.skip⟩
  unfold kP
  simp only
  rw[k1,if_neg (by omega),k2,if_neg (by omega),if_pos rfl]
  simp only
  rw[hp.skip.skip.need (by decide),g1]
  simp only[List.nil_append]
  rw[g2.need (by decide)]
 ·have hk:k=0:=hk
  subst hk
  injection hx with i1 i2 i3 i4
  subst i4
  simp only[AE,fB,nG,lA,rR,show¬((0:Int)=5∨(0:Int)=6)by decide,show¬(0:Int)=1 by decide,if_false,if_true]at hp
  obtain⟨k1,k2⟩:=key (by omega) hp
  obtain⟨q,g1,g2⟩:=AF h1 h2 hp.skip.skip.skip
  refine⟨q.skip,?_,g2.skip⟩
  unfold kP
  simp only
  rw[k1,if_neg (by omega),k2,if_neg (by omega),if_neg (by omega),if_pos rfl]
  simp only
  rw[hp.skip.skip.need (by decide),g1]
  simp only
  rw[g2.need (by decide)]
  rfl
 ·have hk:k=2:=hk
  subst hk
  have h1:0≤n:=h1
  have h2:n≤3:=h2
  injection hx with i1 i2 i3 i4
  subst i4
  have hz:dZ 2=0∧eC 2=3:=⟨rfl,rfl⟩
  have en:Gw n=[oX n.toNat]:=by unfold Gw;rw[if_neg (by omega)]
  simp only[AE,fB,nG,lA,rR,show¬((2:Int)=5∨(2:Int)=6)by decide,show¬(2:Int)=1 by decide,show¬(2:Int)=0 by decide,if_false,if_true,en,List.cons_append,List.nil_append]at hp
  obtain⟨k1,k2⟩:=key (by omega) hp
  refine⟨p.skip.skip.skip.skip,?_,hp.skip.skip.skip.skip⟩
  unfold kP
  simp only
  rw[k1,if_neg (by omega),k2,if_neg (by omega),if_neg (by omega),if_neg (by omega),if_pos rfl]
  simp only
  rw[pH (by omega) (by omega) (by omega) (by omega) hp.skip.skip]
  simp only
  rw[hp.skip.skip.skip.need (by decide)]
 ·have hk:k=3∨k=4:=hk
  injection hx with i1 i2 i3 i4
  subst i4;subst i3
  have q1:¬(k=5∨k=6):=by omega
  have q2:¬k=1:=by omega
  have q3:¬k=0:=by omega
  have q4:¬k=2:=by omega
  simp only[AE,fB,lA,q1,q2,q3,q4,if_false]at hp
  obtain⟨k1,k2⟩:=key (by omega) hp
  refine⟨p.skip.skip.skip,?_,hp.skip.skip.skip⟩
  unfold kP
  simp only
  rw[k1,if_neg (by omega),k2,if_neg q1,if_neg q2,if_neg q3,if_neg q4]
  simp only
  rw[hp.skip.skip.need (by decide)]
theorem JF{x:Nd}(hv:validB x=true):dW (textT x)=(x,0,0):=by
 have hv':=hv
 unfold validB at hv'
 simp only[Bool.and_eq_true,decide_eq_true_eq]at hv'
 obtain⟨⟨⟨⟨h0,h1⟩,_⟩,hr⟩,hl⟩:=hv'
 have hd:=uZ hr h0 h1
 obtain⟨s1,s2⟩:=AB (KR hd) (textT x).length 0 (Nat.le_refl _)
 obtain⟨q,g1,g2,g3⟩:=Fo hd (p:=⟨(eS (textT x)).1,0⟩) ⟨rfl,s1⟩
 have hq:q.l=[]:=by simpa using g3
 unfold dW
 rw[if_neg (by omega)]
 simp only
 rw[g1]
 simp only[hq]
 rw[if_neg,if_pos hv]
 intro h
 rcases h with h|h
 ·exact h g2
 ·have:(eS (textT x)).2=0+((textT x).length:Int):=s2
  omega
end Go.Eng
namespace Go.Eng
section
variable{P:Program} {N:Nat} {w0:iT} {X:Nat→Prop} {Q:LX→nC→lD→Prop} {env:nC} {H:lD} {c:Code}
theorem pS.label{l:Nat}(h:Q .normal env H):pS P N w0 X (.label l) Q env H:=fun _ _ β _ _ s=>wpIn_label ⟨.normal,env,H,β,trivial,s,h⟩
theorem pS.scope(h:pS P N w0 X c Q env H):pS P N w0 X (.scope c) Q env H:=fun r hr β a w s=>by
 obtain⟨hn,hf⟩:=hr.resolve_right (by simp[yT])
 subst hn
 refine wpIn_wide.2 (wp_scope_straight (wp_mono (wpIn_wide.1 (h none (.inl ⟨rfl,hf⟩) β a w s)) fun e a' w' k=>by
 obtain⟨lx,env',H',β',h1,h2,h3⟩:=k
 cases e with
 |goto l=>cases lx<;>exact h1.elim
 |_=>exact⟨lx,env',H',β',h1,h2,h3⟩))
end
end Go.Eng
