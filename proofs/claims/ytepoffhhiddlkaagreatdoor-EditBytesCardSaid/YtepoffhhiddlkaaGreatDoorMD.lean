/- Part 4 of the proof. No condition. -/
import Derived.Test.YtepoffhhiddlkaaGreatDoorMC
set_option linter.unusedVariables false
set_option linter.unusedSimpArgs false
set_option maxRecDepth 20000
set_option maxHeartbeats 4000000
namespace Go.Eng
section
open Go.RowKit
def lk(l:List (List Nat))(j:Nat):List Nat:=l.getD j []
section
variable{P:Program} {T:TypeId->eC} {N:Nat} {w0:cX} {X:Nat->Prop} {Q:LX->fJ->dU->Prop} {env env' env'':fJ} {H H' H'':dU}
def HV(l:LV)(A B:Prop):Prop:=match l with
 | .d (.bool b)=>(b=true->A)/\(b=false->B)
 |_=>False
theorem GM{b:Bool}{A B:Prop}:HV (.d (.bool b)) A B↔(b=true->A)/\(b=false->B):=Iff.rfl
theorem aD{c:Operand}{x y:Code}(h:HV (oY env c) (eG P N w0 X x Q env H) (eG P N w0 X y Q env H)):eG P N w0 X (.cond c x y) Q env H:=by
 unfold HV at h;split at h
 ·rename_i b e;exact .cond e h.1 h.2
 ·exact h.elim
theorem Nu(keep:List Nat)(σ:List (Nat×Nat))(hσ:(σ.map (·.2)).Nodup)(hσ1:(σ.map (·.1)).Nodup)(hpin:∀id∈w0.pins,cY σ id=some id)(hE:aU (keep.map λt=>(t,ren σ 8 (env t)))=env')(hH:aL (σ.map λp=>(p.2,cL σ (H p.1)))=H'):qD w0 env H env' H':=by
 subst hE;subst hH;exact EF keep σ hσ hσ1 hpin
def NY(w0:cX){ι:Type}(E:ι->fJ)(O:ι->dU)(I:ι->Prop)(μ:ι->Nat)(i:ι)(env':fJ)(H':dU):Prop:=∃j,qD w0 env' H' (E j) (O j)/\I j/\μ j<μ i
theorem aI{ι:Type}{E:ι->fJ}{O:ι->dU}{I:ι->Prop}{μ:ι->Nat}{i:ι}(j:ι)(hw:qD w0 env H (E j) (O j))(hI:I j)(hμ:μ j<μ i):NY w0 E O I μ i env H:=⟨j,hw,hI,hμ⟩
def Nv(t:Nat)(fresh:Bool)(r:RV)(x:LX)(env:fJ)(H:dU):Prop:=(match x with| .exit _=>False|_=>True)/\oF H fresh (env t) r
def HW(t u:Nat)(fresh:Bool)(r:RV)(y:DV)(x:LX)(env:fJ)(H:dU):Prop:=(match x with| .exit _=>False|_=>True)/\oF H fresh (env t) r/\oF H fresh (env u) (.d y)
theorem KW{t:Nat}{fresh:Bool}{r:RV}:Nv t fresh r .ret env H↔oF H fresh (env t) r:=by simp[Nv]
theorem IV{t u:Nat}{fresh:Bool}{r:RV}{y:DV}:HW t u fresh r y .ret env H↔oF H fresh (env t) r/\oF H fresh (env u) (.d y):=by simp[HW]
theorem aJ{c:Code}{ι:Type}(E:ι->fJ)(O:ι->dU)(I:ι->Prop)(μ:ι->Nat)(i:ι)(he:qD w0 env H (E i) (O i))(h0:I i)
 (round:∀i,I i->eG P N w0 X c (uU (NY w0 E O I μ i) Q) (E i) (O i)):eG P N w0 X (.loop c) Q env H:=by
 refine EE he ?_;intro r hr β a w s;have key:∀n i,μ i=n->I i->∀β a w,oX N w0 X (E i) (O i) β a w->(Code.loop c).wpIn (RF r) 0 P (λe a' w'=>∃x env' H' β',uT e x/\oX N w0 X env' H' β' a' w'/\Q x env' H') a w:=by
  intro n i hn hI β a w s;refine EB (λn a w=>∃i β,μ i=n/\I i/\oX N w0 X (E i) (O i) β a w) n ⟨i,β,hn,hI,s⟩ λn' a' w' ⟨i',β',h1,h2,h3⟩=>?_;refine wpIn_mono (round i' h2 r hr.loop β' a' w' h3) ?_;rintro e a2 w2 ⟨lx,env',H',β2,g1,g2,g3⟩;cases e<;>cases lx<;>simp only[uT]at g1
  ·obtain⟨j,e1,e3,e4⟩:=g3;obtain⟨β3,s3⟩:=e1 _ _ _ _ _ g2;exact⟨μ j,by omega,j,β3,rfl,e3,s3⟩
  ·subst g1;exact⟨.exit _,env',H',β2,rfl,g2,g3⟩
  ·exact⟨.ret,env',H',β2,trivial,g2,g3⟩
 exact key _ i rfl h0 β a w s
theorem zN.anti{w w':World}{E E':Nat->Prop}(hE:∀k,E' k->E k){B:Option Nat}{r:RV}{v:Value}(h:zN w w' E B r v):zN w w' E' B r v:=by
 cases r with
 |d x=>exact RD.anti hE h
 |own s xs=>
  obtain⟨h1,h2,h3⟩:=h;refine⟨h1,h2,?_⟩;rcases h3 with h3|⟨b,c,cur,e,g1,g2,g3,g4,g5,g6,g7,g8⟩
  ·exact .inl h3
  ·exact .inr ⟨b,c,cur,e,g1,g2,g3,g4,g5,g6,g7,λi d v hd hv=>⟨(g8 i d v hd hv).1,(g8 i d v hd hv).2.anti hE⟩⟩
 |tup _=>exact h
theorem AV{f:FuncId}{fn:Func}{c:Code}{args:List DV}{r1:RV}{y:DV}{fresh:Bool}{n t u:Nat}(hf:P.funcs[f]? =some fn)(hname:(fn.name== "runtime.NumGoroutine")=false)(hb:fn.body=some c)(hn:fn.ntmps=n)(hargs:args.length<=n)(hres:fn.results= #[.tmp t,.tmp u])
 (hy:memless y=true)(h:∀w0 X,w0.pins=[]->eG P n w0 X c (HW t u fresh r1 y) (iW args) (aL [])):Ok P f args ⟨.tup [r1,.d y],fresh⟩:=by
 refine qH hf hname hb hn hargs λw0 X hpn=>(h w0 X hpn).mono λx env H ⟨h1,h2,h3⟩=>⟨h1,λβ a w s=>⟨_,results_tmp2 hres _ _ _,?_⟩⟩;obtain⟨B,hB⟩:=qF hpn s (s.env t) h2;obtain⟨B',hB'⟩:=qF hpn s (s.env u) h3;refine⟨[a.tmps.getD t undef,a.tmps.getD u undef],λi=>if i=0 then B else none,rfl,rfl,λi j b hi hj=>?_,λi r v hr hv=>?_⟩
 ·simp only at hi hj;by_cases h1:i=0
  ·by_cases h2:j=0
   ·omega
   ·rw[if_neg h2]at hj;cases hj
  ·rw[if_neg h1]at hi;cases hi
 ·match i,hr,hv with
  |0,hr,hv=>
   injection hr with hr;injection hv with hv
   subst hr;subst hv;simp only[if_pos];refine zN.anti (λk hk=>?_) hB;rcases hk with hk|⟨j,hj⟩
   ·exact .inl hk
   ·by_cases h2:j=0
    ·rw[if_pos h2]at hj;exact .inr hj
    ·rw[if_neg h2]at hj;cases hj
  |1,hr,hv=>
   injection hr with hr;injection hv with hv
   subst hr;subst hv;simp only[zN]at hB'|-;exact hB'.memless hy
theorem Ok.ret{f:FuncId}{fn:Func}{c:Code}{args:List DV}{r:RV}{fresh:Bool}{n t:Nat}(hf:P.funcs[f]? =some fn)(hname:(fn.name== "runtime.NumGoroutine")=false)(hb:fn.body=some c)(hn:fn.ntmps=n)(hargs:args.length<=n)(hres:fn.results= #[.tmp t])
 (hrt:∀rs,r≠ .tup rs)(h:∀w0 X,w0.pins=[]->eG P n w0 X c (Nv t fresh r) (iW args) (aL [])):Ok P f args ⟨r,fresh⟩:=Ok.one hf hname hb hn hargs hres hrt h
def oI(T:TypeId->eC)(H:dU)(ty:TypeId)(l:LV):iO:=match l with
 | .bx id 0=>match H id with
   | .box _ cs=>.cond (Cf (T ty).k.agg (T ty).size 0 cs) ((T ty).k.isNone=false/\(T ty).size<=cs.length/\((T ty).k.agg=false->(T ty).size=1))
   |_=>.fail
 |_=>.fail
theorem yZ(hT:fC P T){β:Nat->Option Nat}{a:Act}{w:World}(s:oX N w0 X env H β a w){t:Nat}{ty:TypeId}(hok:(oI T H ty (env t)).ok):
 ∃v,(((asAddr (a.tmps.getD t undef)).run P w).andThen λa w=>(loadVar ty a).run P w)=.ok v w/\R w (Ex X β H) β H (oI T H ty (env t)).v v:=by
 have hx:=s.env t;generalize env t=l at*;unfold oI at*;split at hok
 ·rename_i id;split at hok
  ·rename_i fz cs hH;simp only[iO.cond]at hok|-;obtain⟨ht,hle,hs⟩:=hok;have hob:=s.obj id;simp only[cP,hH]at hob;obtain⟨b,e,us,hb,hblk,hlen,h1,hp⟩:=hob;generalize hval:a.tmps.getD t undef=vx at hx;cases hx with
   |bx _ _ b' _ _ _ hb'=>
    rw[hb]at hb';injection hb' with hb';subst hb'
    have:=yK (P:=P) (w:=w) (b:=b) (off:=0) (us:=(us.drop 0).take (T ty).size) hT ht (by simp;omega) hs (λj u hu=>by
     rw[cell_of_row w b _ us.toArray e (0,0) hblk];rw[List.getElem?_take]at hu;split at hu
     ·simpa using hu
     ·cases hu)
    refine⟨_,?_,Dh hlen.symm h1 (by omega) hs hp⟩;simp only[asAddr,Sem.run_pure,Result.andThen_ok,this]
   |bxdead _ _ _ hd=>rw[hH]at hd;cases hd
  ·exact hok.elim
 ·exact hok.elim
def Nw(T:TypeId->eC)(t:Nat)(ty:TypeId)(fresh:Bool)(r:RV)(x:LX)(env:fJ)(H:dU):Prop:=(match x with| .exit _=>False|_=>True)/\(oI T H ty (env t)).ok/\oF H fresh (oI T H ty (env t)).v r
theorem KX{T:TypeId->eC}{t:Nat}{ty:TypeId}{fresh:Bool}{r:RV}:Nw T t ty fresh r .ret env H↔(oI T H ty (env t)).ok/\oF H fresh (oI T H ty (env t)).v r:=by simp[Nw]
theorem Ok.cell(hT:fC P T){f:FuncId}{fn:Func}{c:Code}{args:List DV}{r:RV}{fresh:Bool}{n t:Nat}{ty:TypeId}(hf:P.funcs[f]? =some fn)(hname:(fn.name== "runtime.NumGoroutine")=false)(hb:fn.body=some c)(hn:fn.ntmps=n)(hargs:args.length<=n)(hres:fn.results= #[.cell t ty])
 (hrt:∀rs,r≠ .tup rs)(h:∀w0 X,w0.pins=[]->eG P n w0 X c (Nw T t ty fresh r) (iW args) (aL [])):Ok P f args ⟨r,fresh⟩:=by
 refine qH hf hname hb hn hargs λw0 X hpn=>(h w0 X hpn).mono λx env H ⟨h1,h2,h3⟩=>⟨h1,λβ a w s=>?_⟩;obtain⟨v,hv,hr⟩:=yZ hT s h2;refine⟨v,?_,?_⟩
 ·simp only[results,hres];simpa [Sem.run_bind,Result.andThen]using hv
 obtain⟨B,hB⟩:=qF hpn s hr h3;cases q:r with
 |tup rs=>exact absurd q (hrt rs)
 |d x=>rw[q]at hB;exact⟨B,hB⟩
 |own sz xs=>rw[q]at hB;exact⟨B,hB⟩
section
variable{n k off id j m c:Nat} {cs:List LV} {f:FuncId} {x:DV} {σ:List (Nat×Nat)} {l:List (Nat×LV)} {lo:List (Nat×aV)}
theorem KY:aU l j=nZ l j:=rfl
theorem KZ:aL lo j=gP lo j:=rfl
theorem HX:close H (n+1) (.d x)=some x:=rfl
theorem IW:close H (n+1) (.agg cs)=(cC (cs.map (close H n))).map .agg:=rfl
theorem La:close H (n+1) (.oc id k m c)=match H id with| .row _ _ xs=>some (.sl ((xs.drop k).take m))|_=>none:=rfl
theorem Lb:close H (n+1) (.ow id k m)=match H id with| .row _ _ xs=>some (.sl ((xs.drop k).take m))|_=>none:=rfl
theorem Lc:close H (n+1) (.bx id off)=match H id with| .box _ cs=>(cC ((cs.drop off).map (close H n))).map .ro|_=>none:=rfl
theorem Ld:close H (n+1) (.fn f cs)=(cC (cs.map (close H n))).map (.fn f):=rfl
theorem Le:close H (n+1) (.bm f cs)=(cC (cs.map (close H n))).map (.bm f):=rfl
theorem Lf:close H (n+1) (.mp id)=match H id with| .map _ ks vs=>some (.mp ks vs)|_=>none:=rfl
theorem Lg:bJ H (n+1) (.mp id)=[id]:=rfl
theorem OA:ren σ (n+1) (.mp id)=match cY σ id with|some j=>.mp j|none=>.junk:=rfl
theorem Lh:close H (n+1) .nl=some (.sl []):=rfl
theorem HY:bJ H (n+1) (.d x)=[]:=rfl
theorem IX:bJ H (n+1) (.agg cs)=cs.flatMap (bJ H n):=rfl
theorem Li:bJ H (n+1) (.oc id k m c)=[id]:=rfl
theorem Lj:bJ H (n+1) (.ow id k m)=[id]:=rfl
theorem Lk:bJ H (n+1) (.bx id off)=match H id with| .box _ cs=>id::(cs.drop off).flatMap (bJ H n)|_=>[]:=rfl
theorem Ll:bJ H (n+1) (.fn f cs)=cs.flatMap (bJ H n):=rfl
theorem Lm:bJ H (n+1) (.bm f cs)=cs.flatMap (bJ H n):=rfl
theorem Ln:bJ H (n+1) .nl=[]:=rfl
theorem Pw:ren σ (n+1) (.d x)=.d x:=rfl
theorem Nx:ren σ (n+1) (.agg cs)=.agg (cs.map (ren σ n)):=rfl
theorem OB:ren σ (n+1) (.bx id off)=match cY σ id with|some j=>.bx j off|none=>.junk:=rfl
theorem OC:ren σ (n+1) (.rp id k j)=match cY σ id with|some i=>.rp i k j|none=>.junk:=rfl
theorem OD:ren σ (n+1) (.oc id k m c)=match cY σ id with|some i=>.oc i k m c|none=>.junk:=rfl
theorem OE:ren σ (n+1) (.ow id k m)=match cY σ id with|some i=>.ow i k m|none=>.junk:=rfl
theorem OF:ren σ (n+1) (.fn f cs)=.fn f (cs.map (ren σ n)):=rfl
theorem OG:ren σ (n+1) (.bm f cs)=.bm f (cs.map (ren σ n)):=rfl
theorem OH:ren σ (n+1) .nl=.nl:=rfl
theorem Lo:ren σ (n+1) .junk=.junk:=rfl
theorem GN{cs:List DV}:aK (.agg cs)=cs:=rfl
theorem GO{k:IntKind}{i:Int}:aK (.int k i)=[.int k i]:=rfl
theorem ES{b:Bool}:aK (.bool b)=[.bool b]:=rfl
theorem GP{s:List UInt8}:aK (.str s)=[.str s]:=rfl
theorem IY{xs:List DV}:aK (.sl xs)=[.sl xs]:=rfl
theorem IZ{xs:List DV}:aK (.ro xs)=[.ro xs]:=rfl
theorem Ja{xs:List DV}:aK (.fn f xs)=[.fn f xs]:=rfl
theorem Jb{xs:List DV}:aK (.bm f xs)=[.bm f xs]:=rfl
theorem GQ:cS (.agg cs)=cs:=rfl
theorem ET{cs:List DV}:cS (.d (.agg cs))=cs.map .d:=rfl
theorem GR{k:IntKind}{i:Int}:cS (.d (.int k i))=[.d (.int k i)]:=rfl
theorem EU{b:Bool}:cS (.d (.bool b))=[.d (.bool b)]:=rfl
theorem GS{s:List UInt8}:cS (.d (.str s))=[.d (.str s)]:=rfl
theorem Jc{xs:List DV}:cS (.d (.sl xs))=[.d (.sl xs)]:=rfl
theorem Jd{xs:List DV}:cS (.d (.fn f xs))=[.d (.fn f xs)]:=rfl
theorem Je{xs:List DV}:cS (.d (.bm f xs))=[.d (.bm f xs)]:=rfl
theorem Jf:cS (.oc id k m c)=[.oc id k m c]:=rfl
theorem Jg:cS (.ow id k m)=[.ow id k m]:=rfl
theorem Jh:cS (.bx id off)=[.bx id off]:=rfl
theorem GT:cS (.fn f cs)=[.fn f cs]:=rfl
theorem GU:cS (.bm f cs)=[.bm f cs]:=rfl
theorem Ji:cS (.mp id)=[.mp id]:=rfl
theorem Jj{ks vs:List DV}:aK (.mp ks vs)=[.mp ks vs]:=rfl
theorem GV{ks vs:List DV}:cS (.d (.mp ks vs))=[.d (.mp ks vs)]:=rfl
theorem Jk:cS .nl=[.nl]:=rfl
end
end
end
section
open Go.RowKit
section
variable{P:Program} {T:TypeId->eC} {N:Nat} {w0:cX} {X:Nat->Prop} {Q:LX->fJ->dU->Prop} {env env' env'':fJ} {H H' H'':dU}
def Dv(args:List LV):fJ:=aU ((args.zipIdx).map λp=>(p.2,p.1))
theorem Lp(args:List LV)(t:Nat):Dv args t=(args[t]?).getD .junk:=by
 have key:∀(l:List LV) (k t:Nat),nZ ((l.zipIdx k).map λp=>(p.2,p.1)) (k+t)=(l[t]?).getD .junk:=by
  intro l;induction l with
  |nil=>intro k t;simp[nZ]
  |cons x r ih=>
   intro k t;simp only[List.zipIdx_cons,List.map_cons,nZ];cases t with
   |zero=>simp
   |succ t=>
    rw[if_neg (by omega)];have:=ih (k+1) t;rw[show k+1+t=k+(t+1)by omega]at this;rw[this];simp
 have:=key args 0 t;rw[Nat.zero_add]at this;exact this
theorem sF{f:FuncId}{fn:Func}{c:Code}{args:List LV}{h fin:List (Nat×aV)}{ret:LV}{n:Nat}(hf:P.funcs[f]? =some fn)(hname:(fn.name== "runtime.NumGoroutine")=false)(hb:fn.body=some c)(hn:fn.ntmps=n)(hargs:args.length<=n)
 (hw:∀w0 X,w0.pins=h.map (·.1)->eG P n w0 X c (λx env H=>(match x with| .exit _=>False|_=>True)/\∀β a w,oX n w0 X env H β a w->∃v β',(results fn a.tmps).run P w=.ok v w/\cV w0 X (aL fin) β' w/\R w (Ex X β' (aL fin)) β' (aL fin) ret v) (Dv args) (aL h)):
 BO P f args h fin ret:=by
 refine⟨⟨fn,hf,hname,by rw[hb];rfl⟩,λw X β vs m hvl hr=>?_⟩;refine qG (β:=β) hf hb rfl (hw ⟨w,β,aL h,h.map (·.1),false⟩ X rfl) ?_ ?_
 ·refine⟨Ce.nil,?_,m.ext,m.xold,m.fresh,m.inj,λt=>?_,m.obj,m.pin⟩
  ·simp;omega
  ·rw[Lp];cases q:args[t]? with
   |none=>exact .junk _
   |some x=>
    have ht:t<vs.length:=by rw[hvl];exact(List.getElem?_eq_some_iff.1 q).1
    have hv:(vs.toArray++Array.replicate (fn.ntmps-vs.toArray.size) undef).getD t undef=vs[t]:=by
     simp[Array.getD_eq_getD_getElem?,Array.getElem?_append_left,ht]
    rw[hv];exact hr t x _ q (List.getElem?_eq_getElem ht)
 ·rintro x env H β1 a' w' ⟨h2,h3⟩ s;obtain⟨v,β',hv1,hv2,hv3⟩:=h3 β1 a' w' s;exact⟨h2,v,hv1,v,β',rfl,hv2,hv3⟩
def Cy(w0:cX)(fin:List (Nat×aV))(x:LX)(env:fJ)(H:dU):Prop:=(match x with| .exit _=>False|_=>True)/\qD w0 env H (aU []) (aL fin)
def HZ(w0:cX)(t:Nat)(fin:List (Nat×aV))(ret:LV)(x:LX)(env:fJ)(H:dU):Prop:=(match x with| .exit _=>False|_=>True)/\qD w0 env H (aU [(t,ret)]) (aL fin)
theorem Jl{fin:List (Nat×aV)}:Cy w0 fin .ret env H↔qD w0 env H (aU []) (aL fin):=by simp[Cy]
theorem Dw{fin:List (Nat×aV)}:Cy w0 fin .normal env H↔qD w0 env H (aU []) (aL fin):=by simp[Cy]
theorem Jm{t:Nat}{fin:List (Nat×aV)}{ret:LV}:HZ w0 t fin ret .ret env H↔qD w0 env H (aU [(t,ret)]) (aL fin):=by simp[HZ]
theorem Lq{f:FuncId}{fn:Func}{c:Code}{args:List LV}{h fin:List (Nat×aV)}{n:Nat}(hf:P.funcs[f]? =some fn)(hname:(fn.name== "runtime.NumGoroutine")=false)(hb:fn.body=some c)(hn:fn.ntmps=n)(hargs:args.length<=n)(hres:fn.results= #[])
 (hw:∀w0 X,w0.pins=h.map (·.1)->eG P n w0 X c (Cy w0 fin) (Dv args) (aL h)):BO P f args h fin (.tup []):=
 sF hf hname hb hn hargs λw0 X hp=>(hw w0 X hp).mono λx env H ⟨h1,h2⟩=>⟨h1,λβ a w s=>by
  obtain⟨β',s'⟩:=h2 _ _ _ _ _ s;exact⟨.tuple #[],β',results_none hres _ _ _,s'.mem,.tup [] [] rfl (by simp)⟩⟩
theorem BO.one{f:FuncId}{fn:Func}{c:Code}{args:List LV}{h fin:List (Nat×aV)}{ret:LV}{n t:Nat}(hf:P.funcs[f]? =some fn)(hname:(fn.name== "runtime.NumGoroutine")=false)(hb:fn.body=some c)(hn:fn.ntmps=n)(hargs:args.length<=n)(hres:fn.results= #[.tmp t])
 (hw:∀w0 X,w0.pins=h.map (·.1)->eG P n w0 X c (HZ w0 t fin ret) (Dv args) (aL h)):BO P f args h fin ret:=
 sF hf hname hb hn hargs λw0 X hp=>(hw w0 X hp).mono λx env H ⟨h1,h2⟩=>⟨h1,λβ a w s=>by
  obtain⟨β',s'⟩:=h2 _ _ _ _ _ s;have:=s'.env t;rw[show aU [(t,ret)] t=ret by simp[aU,nZ]]at this;exact⟨_,β',results_tmp hres _ _ _,s'.mem,this⟩⟩
def NZ(w0:cX)(t:Nat)(Rel:List (Nat×aV)->LV->Prop)(x:LX)(env:fJ)(H:dU):Prop:=(match x with| .exit _=>False|_=>True)/\∃fin ret,Rel fin ret/\qD w0 env H (aU [(t,ret)]) (aL fin)
theorem Jn{t:Nat}{Rel:List (Nat×aV)->LV->Prop}:NZ w0 t Rel .ret env H↔∃fin ret,Rel fin ret/\qD w0 env H (aU [(t,ret)]) (aL fin):=by simp[NZ]
theorem AW{n:Nat}:∀{cs:List DV},cC (List.map (close H (n+1)∘LV.d) cs)=some cs
 |[]=>rfl
 |c::cs=>by
  have ih:=AW (n:=n) (cs:=cs);simp only[List.map_cons,Function.comp,HX,cC]at ih|-;rw[ih];rfl
theorem Jo{n:Nat}{cs:List DV}:cC (List.map (close H (n+1)) (List.map LV.d cs))=some cs:=by rw[List.map_map];exact AW
theorem Lr{n:Nat}{cs:List DV}:(List.map LV.d cs).flatMap (bJ H (n+1))=[]:=by
 induction cs with
 |nil=>rfl
 |cons c cs ih=>simp only[List.map_cons,List.flatMap_cons,HY,List.nil_append];exact ih
end
end
section
open Go.RowKit
section
variable{P:Program} {T:TypeId->eC} {N:Nat} {w0:cX} {X:Nat->Prop} {env:fJ} {H:dU}
def Ls(T:TypeId->eC)(env:fJ)(H:dU):ResultVar->iO
 | .tmp t=>.plain (env t)
 | .cell t ty=>oI T H ty (env t)
def Ia(T:TypeId->eC)(fresh:Bool)(env:fJ)(H:dU):List ResultVar->List RV->Prop
 |[],[]=>True
 |r::rs,x::xs=>(Ls T env H r).ok/\oF H fresh (Ls T env H r).v x/\Ia T fresh env H rs xs
 |_,_=>False
def Px(T:TypeId->eC)(l:List ResultVar)(fresh:Bool)(rs:List RV)(x:LX)(env:fJ)(H:dU):Prop:=(match x with| .exit _=>False|_=>True)/\Ia T fresh env H l rs
theorem Lt{l:List ResultVar}{fresh:Bool}{rs:List RV}:Px T l fresh rs .ret env H↔Ia T fresh env H l rs:=by simp[Px]
def Qf(w0:cX){ι:Type}(E:ι->fJ)(O:ι->dU)(I:ι->Prop)(Q:LX->fJ->dU->Prop):LX->fJ->dU->Prop
 | .normal,env,H=>∃i,qD w0 env H (E i) (O i)/\I i
 |e,env,H=>Q e env H
theorem zX{ι:Type}{E:ι->fJ}{O:ι->dU}{I:ι->Prop}(i:ι)(hw:qD w0 env H (E i) (O i))(hI:I i):∃i,qD w0 env H (E i) (O i)/\I i:=⟨i,hw,hI⟩
theorem AX{x y:Code}{Q:LX->fJ->dU->Prop}{ι:Type}(E:ι->fJ)(O:ι->dU)(I:ι->Prop)(h1:eG P N w0 X x (Qf w0 E O I Q) env H)(h2:∀i,I i->eG P N w0 X y Q (E i) (O i)):eG P N w0 X (.seq x y) Q env H:=by
 refine eG.seq (h1.mono λe env H h=>?_);cases e with
 |normal=>obtain⟨i,hw,hI⟩:=h;exact EE hw (h2 i hI)
 |exit j=>exact h
 |ret=>exact h
end
end
section
open Go.RowKit
section
variable{P:Program} {T:TypeId->eC} {N:Nat} {w0:cX} {X:Nat->Prop} {Q:LX->fJ->dU->Prop} {env:fJ} {H:dU} {l:List Oper} {id:Nat}
def Lu(l:List Oper)(d0:Nat):Bool:=decide ((l.filter λo=>o.dst.getD 0==d0).length<=1)
def OI(l:List Oper)(d0:Nat):Bool:=decide (((List.range l.length).filter λi=>match l[i]? with|some o=>o.dst.getD 0==d0|none=>false).length<=1)
theorem GW(hT:fC P T)(hW:zO T)(d0:Nat)(e:Bool)(base:Nat->Option hU)(hdet:∀d,qC (base d))(hc:Lu l d0=true)
 (h:∀b:Bool,(b=true->e=true)->(eI P T N l (mF d0 base (λb=>.nil e b) b) env H).ok/\Q .normal (eI P T N l (mF d0 base (λb=>.nil e b) b) env H).env (eI P T N l (mF d0 base (λb=>.nil e b) b) env H).H):eG P N w0 X (.region id l.toArray false) Q env H:=
 AN hT hW d0 base (λb=>.nil e b) (λb=>b=true->e=true) hdet (λb hb=>⟨b,hb,rfl⟩) (λb _ r' ⟨j,h1,h2⟩=>⟨j,h1,h2.symm⟩) false (by simp) (of_decide_eq_true hc) h
theorem qK(hT:fC P T)(hW:zO T)(d0:Nat)(Rel:Gb->Prop)(fr:Bool)(r0:Gb)(h0:Rel r0/\r0.fresh=fr)(base:Nat->Option hU)(hdet:∀d,qC (base d))(hc:Lu l d0=true)
 (h:∀r:Gb,Rel r->(eI P T N l (mF d0 base (λr=>.rel Rel fr r) r) env H).ok/\Q .normal (eI P T N l (mF d0 base (λr=>.rel Rel fr r) r) env H).env (eI P T N l (mF d0 base (λr=>.rel Rel fr r) r) env H).H):eG P N w0 X (.region id l.toArray false) Q env H:=
 AN hT hW d0 base (λr=>.rel Rel fr r) (λr=>Rel r/\r.fresh=fr) hdet (λc hc=>⟨c,hc.1,hc.2,rfl⟩) (λc _ r' ⟨j,h1,h2,h3⟩=>⟨j,⟨h1,h2⟩,h3.symm⟩) r0 h0 (of_decide_eq_true hc) λc hc=>h c hc.1
theorem zA(hT:fC P T)(hW:zO T)(d0:Nat)(σ new:List (Nat×Nat))(shut:List Nat)(Rel:List (Nat×aV)->LV->Prop)(f0:List (Nat×aV))(r0:LV)(h0:Rel f0 r0)(base:Nat->Option hU)(hdet:∀d,qC (base d))(hc:Lu l d0=true)
 (h:∀(i:List (Nat×aV)×LV),Rel i.1 i.2->(eI P T N l (mF d0 base (λ(i:List (Nat×aV)×LV)=>.genR ⟨σ,new,shut,i.1,i.2⟩ Rel) i) env H).ok/\Q .normal (eI P T N l (mF d0 base (λ(i:List (Nat×aV)×LV)=>.genR ⟨σ,new,shut,i.1,i.2⟩ Rel) i) env H).env (eI P T N l (mF d0 base (λ(i:List (Nat×aV)×LV)=>.genR ⟨σ,new,shut,i.1,i.2⟩ Rel) i) env H).H):
 eG P N w0 X (.region id l.toArray false) Q env H:=
 AN hT hW d0 base (λ(i:List (Nat×aV)×LV)=>.genR ⟨σ,new,shut,i.1,i.2⟩ Rel) (λi=>Rel i.1 i.2) hdet (λc hc=>⟨c.1,c.2,hc,rfl⟩) (λc _ r' ⟨fin,ret,h1,h2⟩=>⟨(fin,ret),h1,h2.symm⟩) (f0,r0) h0 (of_decide_eq_true hc) h
theorem GX(hT:fC P T)(hW:zO T)(hm:P.follows .mixedOrders=true)(cl hide wr:Nat->List Nat)(hA:uW l cl hide wr=true)(d0:Nat)(Rel:Gb->Prop)(fr:Bool)(r0:Gb)(h0:Rel r0/\r0.fresh=fr)(base:Nat->Option hU)(hdet:∀d,qC (base d))(hc:OI l d0=true)
 (h:∀r:Gb,Rel r->(nV P T N l (mF d0 base (λr=>.rel Rel fr r) r) hide wr ⟨env,H,True⟩).ok/\Q .normal (nV P T N l (mF d0 base (λr=>.rel Rel fr r) r) hide wr ⟨env,H,True⟩).env (nV P T N l (mF d0 base (λr=>.rel Rel fr r) r) hide wr ⟨env,H,True⟩).H):eG P N w0 X (.region id l.toArray true) Q env H:=
 ER hT hW hm cl hide wr hA d0 base (λr=>.rel Rel fr r) (λr=>Rel r/\r.fresh=fr) hdet (λc hc=>⟨c,hc.1,hc.2,rfl⟩) (λc _ r' ⟨j,h1,h2,h3⟩=>⟨j,⟨h1,h2⟩,h3.symm⟩) r0 h0 (of_decide_eq_true hc) λc hc=>h c hc.1
theorem cV.rebox{β:Nat->Option Nat}{w:World}(m:cV w0 X H β w){b:Nat}{fz:Bool}{cs cs':List LV}(hH:H b=.box fz cs)(hl:cs'.length=cs.length)(h:∀(i:Nat) (c c':LV) (v:Value),cs[i]? =some c->cs'[i]? =some c'->R w (Ex X β H) β H c v->R w (Ex X β H) β H c' v):
 cV w0 X (bU H b (.box fz cs')) β w/\eY X H β w (bU H b (.box fz cs')) β w:=by
 have hmut:∀i,(bU H b (.box fz cs') i).mut=(H i).mut:=λi=>by
  by_cases hi:i=b
  ·subst hi;rw[aM,hH];rfl
  ·rw[bS _ _ hi]
 have hlive:∀i,(bU H b (.box fz cs') i).live=(H i).live:=λi=>by
  by_cases hi:i=b
  ·subst hi;rw[aM,hH];rfl
  ·rw[bS _ _ hi]
 have hg:eY X H β w (bU H b (.box fz cs')) β w:=by
  refine⟨Nat.le_refl _,λ_ _ _=>rfl,λk _ he=>?_,λi=>?_⟩
  ·rcases he with he|⟨i,h1,h2⟩
   ·exact .inl he
   ·rw[hmut]at h1;exact .inr ⟨i,h1,h2⟩
  ·by_cases hi:i=b
   ·subst hi;unfold bL;rw[hH,aM];exact .inr ⟨⟨fz,cs',rfl⟩,rfl⟩
   ·have hp:=bL.refl (w:=w) (β:=β) (H:=H) i;unfold bL at*;rw[bS _ _ hi];exact hp
 refine⟨⟨m.ext,m.xold,λi b' h1 h2=>?_,λi j b' h1 h2=>?_,λi=>?_,λi hi=>(m.pin i hi).trans (hg.pass i)⟩,hg⟩
 ·rw[hlive]at h1;rw[hmut];exact m.fresh i b' h1 h2
 ·rw[hlive]at h1 h2;exact m.inj i j b' h1 h2
 ·by_cases hi:i=b
  ·subst hi;have ho:=m.obj i;unfold cP at*;rw[hH]at ho;rw[aM];obtain⟨b',e,us,h1,h2,h3,h4,h5⟩:=ho;refine⟨b',e,us,h1,h2,by rw[hl];exact h3,h4,λj c v hc hv=>?_⟩;have hj:j<cs.length:=by have:=(List.getElem?_eq_some_iff.1 hc).1;omega
   exact hg.R (h j _ c v (List.getElem?_eq_getElem hj) hc (h5 j _ v (List.getElem?_eq_getElem hj) hv))
  ·exact(m.obj i).step hg.size hg.out (λ_ _=>hg.D) (λ_ _=>hg.R) (bS _ _ hi) (λ_=>rfl) λ_ _ _=>rfl
theorem Jp{c:Code}(b id s:Nat){fz:Bool}(hs:0<s)(h:H b=.box fz [.nl]/\H id=.absent/\eG P N w0 X c Q env (bU (bU H id (.row false s [])) b (.box fz [.ow id 0 0]))):eG P N w0 X c Q env H:=by
 obtain⟨hb,hid,h⟩:=h;have hne:b≠id:=λe=>by rw[e,hid]at hb;cases hb
 intro r hr β a w sm;obtain⟨m1,g1⟩:=nA sm.mem hid hs;obtain⟨m2,g2⟩:=m1.rebox (b:=b) (fz:=fz) (cs:=[.nl]) (cs':=[.ow id 0 0]) (by rw[bS _ _ hne];exact hb) rfl λi c c' v hc hc' hr=>by
  cases i with
  |succ i=>simp at hc
  |zero=>
   simp at hc hc';subst hc;subst hc';cases hr with|nl p=>exact .ow0 id 0 p false s [] (by rw[aM]) (.inl ⟨by rw[aM],rfl⟩)
 exact h r hr _ a w ⟨g2.marks (g1.marks sm.defers),sm.size,m2.ext,m2.xold,m2.fresh,m2.inj,λt=>g2.R (g1.R (sm.env t)),m2.obj,m2.pin⟩
theorem EV{f:FuncId}{fn:Func}{c:Code}{args:List DV}{Rel:Gb->Prop}{n:Nat}(hf:P.funcs[f]? =some fn)(hname:(fn.name== "runtime.NumGoroutine")=false)(hb:fn.body=some c)(hn:fn.ntmps=n)(hargs:args.length<=n)
 (h:∀w0 X,w0.pins=[]->eG P n w0 X c (λx env H=>(match x with| .exit _=>False|_=>True)/\∀β a w,oX n w0 X env H β a w->∃v r,Rel r/\(results fn a.tmps).run P w=.ok v w/\En w0.w w (λk=>X k\/r.fresh=true/\k<w0.w.heap.size) r.v v) (iW args) (aL [])):
 MX P f args Rel:=by
 refine⟨⟨fn,hf,hname,by rw[hb];rfl⟩,λw X vs hX hr=>?_⟩;refine qG (β:=λ_=>none) hf hb rfl (h ⟨w,λ_=>none,λ_=>.absent,[],false⟩ X rfl) ?_ ?_
 ·refine⟨Ce.nil,?_,⟨rfl,rfl,rfl,Nat.le_refl _,λ_ _ _=>rfl,Nat.le_refl _⟩,⟨λk hk=>⟨hX.1 k hk,by rintro⟨id,hid,_⟩;cases hid⟩,hX.2.anti λk hk=>by rcases hk with hk|⟨id,hid,_⟩;exact hk;cases hid⟩,λid b hl _=>by simp[aL,gP,aV.live]at hl,λi j b hi _=>by simp[aL,gP,aV.live]at hi,λt=>?_,λid=>by unfold cP;trivial,λid hid=>by cases hid⟩
  ·have:=hr.1;simp;omega
  ·rw[yU];cases q:args[t]? with
   |none=>exact .junk _
   |some x=>
    have ht:t<vs.length:=by rw[hr.1];exact(List.getElem?_eq_some_iff.1 q).1
    have hv:(vs.toArray++Array.replicate (fn.ntmps-vs.toArray.size) undef).getD t undef=vs[t]:=by
     simp[Array.getD_eq_getD_getElem?,Array.getElem?_append_left,ht]
    rw[hv];refine .d _ _ ((hr.2 t x _ q (List.getElem?_eq_getElem ht)).anti λk hk=>?_);rcases hk with hk|⟨id,h1,_⟩
    ·exact hk
    ·cases h1
 ·rintro x env H β a' w' ⟨h2,h3⟩ s;obtain⟨v,r,hrel,hv1,hv2⟩:=h3 β a' w' s;have hbel:BP w.heap.size w w':=⟨s.ext.os,s.ext.tape,s.ext.output,s.ext.size,λk hk=>s.ext.block k hk (by rintro⟨id,hid,_⟩;cases hid),s.ext.drawn⟩;exact⟨h2,v,hv1,v,r,hrel,rfl,hbel,hv2⟩
def OJ(t:Nat)(fresh:Bool)(Rel:RV->Prop)(x:LX)(env:fJ)(H:dU):Prop:=(match x with| .exit _=>False|_=>True)/\∃r,Rel r/\(∀rs,r≠ .tup rs)/\oF H fresh (env t) r
theorem eA{t:Nat}{fresh:Bool}{Rel:RV->Prop}:OJ t fresh Rel .ret env H↔∃r,Rel r/\(∀rs,r≠ .tup rs)/\oF H fresh (env t) r:=by simp[OJ]
theorem MX.ret{f:FuncId}{fn:Func}{c:Code}{args:List DV}{Rel:RV->Prop}{fresh:Bool}{n t:Nat}(hf:P.funcs[f]? =some fn)(hname:(fn.name== "runtime.NumGoroutine")=false)(hb:fn.body=some c)(hn:fn.ntmps=n)(hargs:args.length<=n)(hres:fn.results= #[.tmp t])
 (h:∀w0 X,w0.pins=[]->eG P n w0 X c (OJ t fresh Rel) (iW args) (aL [])):MX P f args (λr=>Rel r.v/\r.fresh=fresh):=by
 refine EV hf hname hb hn hargs λw0 X hpn=>(h w0 X hpn).mono λx env H ⟨h1,r,h2,h3,h4⟩=>⟨h1,λβ a w s=>⟨a.tmps.getD t undef,⟨r,fresh⟩,⟨h2,rfl⟩,results_tmp hres _ _ _,?_⟩⟩;obtain⟨B,hB⟩:=qF hpn s (s.env t) h4;cases q:r with
 |tup rs=>exact absurd q (h3 rs)
 |d x=>rw[q]at hB;exact⟨B,hB⟩
 |own sz xs=>rw[q]at hB;exact⟨B,hB⟩
end
end
end Go.Eng
