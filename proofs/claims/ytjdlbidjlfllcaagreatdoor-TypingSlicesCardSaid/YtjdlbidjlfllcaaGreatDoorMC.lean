/- Part 3 of the proof. No condition. -/
import Derived.Test.YtjdlbidjlfllcaaGreatDoorMB
import Derived.CallsIn
import Derived.OwnWalkIn
import Derived.RangeFuncLeaves
import Derived.RangeFuncRecord
import Derived.Scope
set_option linter.unusedVariables false
set_option linter.unusedSimpArgs false
set_option maxRecDepth 20000
set_option maxHeartbeats 4000000
namespace Go.Eng
section
open Go.RowKit
inductive LX where
 |normal
 |exit (id:Nat)
 |ret
def gM:Exit->LX->Prop
 | .normal,.normal=>True
 | .exit i,.exit j=>i=j
 | .ret,.ret=>True
 |_,_=>False
abbrev eD:=Nat->LV
abbrev dM:=Nat->bB
def nN(o:Oper):Bool:=match o.op with
 | .defer _=>false
 |_=>true
def mY:Code->Bool
 | .seq a b=>mY a&&mY b
 | .cond _ a b=>mY a&&mY b
 | .block _ a=>mY a
 | .loop a=>mY a
 | .region _ ops _=>ops.all nN
 | .skip=>true
 | .ret=>true
 | .exit _=>true
 |_=>false
def RF(r:Option Nat):Fence:={Fence.wide with round:=r}
def pT(w0:cX)(r:Option Nat)(c:Code):Prop:=(r=none/\w0.flat=false)\/(mY c=true/\w0.flat=true)
theorem pT.seq1{w0:cX}{r:Option Nat}{x y:Code}(h:pT w0 r (.seq x y)):pT w0 r x:=h.imp (λh=>h) λ⟨h,h2⟩=>⟨by simp only[mY,Bool.and_eq_true]at h;exact h.1,h2⟩
theorem pT.seq2{w0:cX}{r:Option Nat}{x y:Code}(h:pT w0 r (.seq x y)):pT w0 r y:=h.imp (λh=>h) λ⟨h,h2⟩=>⟨by simp only[mY,Bool.and_eq_true]at h;exact h.2,h2⟩
theorem pT.cond1{w0:cX}{r:Option Nat}{c:Operand}{x y:Code}(h:pT w0 r (.cond c x y)):pT w0 r x:=h.imp (λh=>h) λ⟨h,h2⟩=>⟨by simp only[mY,Bool.and_eq_true]at h;exact h.1,h2⟩
theorem pT.cond2{w0:cX}{r:Option Nat}{c:Operand}{x y:Code}(h:pT w0 r (.cond c x y)):pT w0 r y:=h.imp (λh=>h) λ⟨h,h2⟩=>⟨by simp only[mY,Bool.and_eq_true]at h;exact h.2,h2⟩
theorem pT.block{w0:cX}{r:Option Nat}{i:Nat}{x:Code}(h:pT w0 r (.block i x)):pT w0 r x:=h.imp (λh=>h) λ⟨h,h2⟩=>⟨by simpa only[mY]using h,h2⟩
theorem pT.loop{w0:cX}{r:Option Nat}{x:Code}(h:pT w0 r (.loop x)):pT w0 r x:=h.imp (λh=>h) λ⟨h,h2⟩=>⟨by simpa only[mY]using h,h2⟩
theorem Ge{P:Program}{r:Option Nat}{n:Nat}{row:String}{args:Array Value}{w:World}{R:Value->World->Prop}(h:Rows P row args w R):RowsIn (RF r) n P row args w R:=λc cs _=>
 let⟨v,w',h1,h2⟩:=h c cs
 ⟨v,w',h1,(StepsIn.of_steps h2).mono λm _=>fenced_wide P m⟩
theorem XA{P:Program}{o:Oper}{a:Act}{w:World}{K K':Act->World->Prop}{Q:Exit->Act->World->Prop}(r:Option Nat)(hd:nN o=true)(hk:∀a w,K a w->K' a w)(h:o.wp P a w K Q):o.wpIn (RF r) 0 P a w K' Q:=by
 refine⟨λ_ _=>trivial,?_⟩;rw[Oper.semAt_eq _ _ _ (λc e=>by simp[nN,e]at hd)];unfold Oper.wp at h;revert h;cases(execOp a.eval o).run P w with
 |ok x w'=>
  cases x with
  |value v=>exact hk _ _
  |skip=>exact hk _ _
  |defer d=>exact hk _ _
  |enter f args=>exact λh=>⟨λh=>(by cases h),callsIn_wide.2 ((h:Calls P f args w' _).mono λe w' he=>by cases e<;>first|exact hk _ _ he|exact he)⟩
  |row row args=>exact λh=>⟨λh=>(by cases h),(Ge (h:Rows P row args w' _)).mono λv w'=>hk _ _⟩
  |_=>exact λh=>h.elim
 |halt x w'=>cases x<;>exact id
def eW(P:Program)(N:Nat)(w0:cX)(X:Nat->Prop)(c:Code)(Q:LX->eD->dM->Prop)(env:eD)(H:dM):Prop:=
 ∀r,pT w0 r c->∀β a w,mC N w0 X env H β a w->c.wpIn (RF r) 0 P (λe a' w'=>∃x env' H' β',gM e x/\mC N w0 X env' H' β' a' w'/\Q x env' H') a w
def yK(K:eD->dM->Prop)(Q:LX->eD->dM->Prop):LX->eD->dM->Prop
 | .normal,env,H=>K env H
 |e,env,H=>Q e env H
def uY(id:Nat)(Q:LX->eD->dM->Prop):LX->eD->dM->Prop
 | .exit i,env,H=>if i=id then Q .normal env H else Q (.exit i) env H
 |e,env,H=>Q e env H
section
variable{P:Program} {T:TypeId->fE} {N:Nat} {w0:cX} {X:Nat->Prop} {Q:LX->eD->dM->Prop} {env:eD} {H:dM}
theorem eW.mono{c:Code}{Q':LX->eD->dM->Prop}(h:eW P N w0 X c Q env H)(hq:∀x env H,Q x env H->Q' x env H):eW P N w0 X c Q' env H:=
 λr hr β a w s=>wpIn_mono (h r hr β a w s) λ_ _ _ ⟨x,e,H,β',h1,h2,h3⟩=>⟨x,e,H,β',h1,h2,hq _ _ _ h3⟩
theorem eW.seq{x y:Code}(h:eW P N w0 X x (yK (eW P N w0 X y Q) Q) env H):eW P N w0 X (.seq x y) Q env H:=by
 intro r hr β a w s;refine wpIn_seq (wpIn_mono (h r hr.seq1 β a w s) ?_);rintro e a' w' ⟨lx,env',H',β',h1,h2,h3⟩;cases e<;>cases lx<;>simp only[gM]at h1
 ·exact h3 r hr.seq2 β' a' w' h2
 ·subst h1;exact⟨.exit _,env',H',β',rfl,h2,h3⟩
 ·exact⟨.ret,env',H',β',trivial,h2,h3⟩
theorem eW.skip(h:Q .normal env H):eW P N w0 X .skip Q env H:=λ_ _ β _ _ s=>wpIn_skip ⟨.normal,env,H,β,trivial,s,h⟩
theorem eW.ret(h:Q .ret env H):eW P N w0 X .ret Q env H:=λ_ _ β _ _ s=>wpIn_ret ⟨.ret,env,H,β,trivial,s,h⟩
theorem eW.exit{id:Nat}(h:Q (.exit id) env H):eW P N w0 X (.exit id) Q env H:=λ_ _ β _ _ s=>wpIn_exit ⟨.exit id,env,H,β,rfl,s,h⟩
theorem eW.block{id:Nat}{c:Code}(h:eW P N w0 X c (uY id Q) env H):eW P N w0 X (.block id c) Q env H:=by
 intro r hr β a w s;refine wpIn_block (wpIn_mono (h r hr.block β a w s) ?_);rintro e a' w' ⟨lx,env',H',β',h1,h2,h3⟩;cases e<;>cases lx<;>simp only[gM]at h1
 ·exact⟨.normal,env',H',β',trivial,h2,h3⟩
 ·subst h1;simp only[Exit.inBlock,uY]at h3|-;split at h3
  ·rename_i he;rw[if_pos he];exact⟨.normal,env',H',β',trivial,h2,h3⟩
  ·rename_i he;rw[if_neg he];exact⟨.exit _,env',H',β',rfl,h2,h3⟩
 ·exact⟨.ret,env',H',β',trivial,h2,h3⟩
theorem eW.cond{c:Operand}{x y:Code}{b:Bool}(hc:kH env c=.d (.bool b))(h1:b=true->eW P N w0 X x Q env H)(h2:b=false->eW P N w0 X y Q env H):eW P N w0 X (.cond c x y) Q env H:=by
 intro r hr β a w s;have hv:=s.get c;rw[hc]at hv;refine wpIn_cond hv.bool ?_;cases b
 ·exact h2 rfl r hr.cond2 β a w s
 ·exact h1 rfl r hr.cond1 β a w s
theorem uZ{F:Fence}{d:Nat}{c:Code}{Q:Exit->Act->World->Prop}{a:Act}{w:World}(J:Nat->Act->World->Prop)(n:Nat)(h0:J n a w)
 (round:∀n a w,J n a w->c.wpIn F d P (Exit.then (λa' w'=>∃m,m<n/\J m a' w') Q) a w):(Code.loop c).wpIn F d P Q a w:=by
 intro b k cs hro hb hr;have key:∀n a w,J n a w->∃e a' w',Q e a' w'/\ArrivesIn (Machine.fenced P F) P (lone (b.atR a (.code c::.inLoop c::k)) cs w) b k cs e a' w':=by
  intro n;induction n using Nat.strongRecOn with
  |_ n ih=>
   intro a w hJ;obtain⟨e,a1,w1,hq,harr⟩:=round n a w hJ b (.inLoop c::k) cs hro hb hr;cases e with
   |normal=>
    obtain⟨m,hlt,hm⟩:=hq;obtain⟨e2,a2,w2,hq2,harr2⟩:=ih m hlt a1 w1 hm;exact⟨e2,a2,w2,hq2,.of_steps (StepsIn.trans harr (.one (fenced_calm hb hr rfl) stepR_inLoop)) harr2⟩
   |exit id=>exact⟨_,a1,w1,hq,.pass (x:=.inLoop c) rfl (λ_ _=>.inl aM) harr⟩
   |goto l=>exact⟨_,a1,w1,hq,.pass (x:=.inLoop c) rfl (λ_ _=>.inl aM) harr⟩
   |ret=>exact⟨_,a1,w1,hq,.pass (x:=.inLoop c) rfl (λ_ _=>.inl aM) harr⟩
   |panic ch=>exact⟨_,a1,w1,hq,.pass (x:=.inLoop c) rfl (λ_ _=>.inl aM) harr⟩
   |outgrown=>exact⟨_,a1,w1,hq,.pass (x:=.inLoop c) rfl (λ_ _=>.inl aM) harr⟩
 obtain⟨e,a',w',hq,harr⟩:=key n a w h0;exact⟨e,a',w',hq,.of_steps (.one (fenced_calm hb hr rfl) stepR_loop) harr⟩
theorem lB{N:Nat}{X:Nat->Prop}{w0:cX}{Q:LX->eD->dM->Prop}(a:Act)(w:World):¬∃x env' H' β',gM .outgrown x/\mC N w0 X env' H' β' a w/\Q x env' H':=by
 rintro⟨x,_,_,_,h,_⟩;cases x<;>exact h
theorem JD{r:Option Nat}{ops:Array Oper}{Q:Exit->Act->World->Prop}(hno:∀a w,¬Q .outgrown a w)(hc:∀(i:Nat) (h:i<ops.size),nN ops[i]=true):∀(l:List Nat) (a:Act) (w:World),wpOps P ops Q l a w->wpOpsIn (RF r) 0 P ops Q l a w:=by
 intro l;induction l with
 |nil=>exact λa w h=>h
 |cons i rest ih=>
  intro a w h;simp only[wpOps]at h;simp only[wpOpsIn];cases ho:ops[i]? with
  |none=>rw[ho]at h;exact ih _ _ h
  |some o=>
   rw[ho]at h;obtain⟨hi,he⟩:=Array.getElem?_eq_some_iff.1 ho;have hd:nN o=true:=by have:=hc i hi;rw[he]at this;exact this
   simp only at h|-;split
   ·rename_i hw;rw[if_pos hw]at h;exact XA r hd ih (h.resolve_right λ⟨_,a,w,q⟩=>hno a w q)
   ·rename_i hw;rw[if_neg hw]at h;exact⟨λ_ _=>trivial,ih _ _ h⟩
theorem eZ{r:Option Nat}{id:Nat}{ops:Array Oper}{Q:Exit->Act->World->Prop}{a:Act}{w:World}(hno:∀a w,¬Q .outgrown a w)(hr:pT w0 r (.region id ops false))(h:wpList P ops Q ops.toList a w):(Code.region id ops false).wpIn (RF r) 0 P Q a w:=by
 rcases hr with⟨rfl,_⟩|⟨hc,_⟩
 ·exact wpIn_wide.2 (wp_region_list h)
 ·simp only[mY,Array.all_eq_true]at hc;refine wpIn_region ?_;rw[List.range_eq_range',<-Array.length_toList];rw[<-wpOps_eq_wpList ops.toList 0 aM]at h;exact JD hno hc _ _ _ h
theorem MH{r:Option Nat}{id:Nat}{ops:Array Oper}{Q:Exit->Act->World->Prop}{a:Act}{w:World}(hno:∀a w,¬Q .outgrown a w)(hm:P.follows .mixedOrders=true)(hr:pT w0 r (.region id ops true))
 (h:wpAny P .any ops Q ops.size (Array.replicate ops.size false) a {w with drawn:=w.drawn+1}):(Code.region id ops true).wpIn (RF r) 0 P Q a w:=by
 rcases hr with⟨rfl,_⟩|⟨hc,_⟩
 ·exact wpIn_wide.2 (wp_region_any hm h)
 ·simp only[mY,Array.all_eq_true]at hc;refine wpIn_region_draw λt=>JD hno hc _ _ _ ?_;simp only[Region.schedule,hm,Bool.true_or,if_true];exact wpAny_sound ops.size t _ a _ h
theorem eW.region(hT:fP P T)(hW:BS T){id:Nat}{ops:Array Oper}{slots:Nat->Option Nat}(hsl:∀j d,slots j=some d->(ops[j]?).bind (·.dst)=some d/\d<N)(orc:Nat->Option kS)(hdet:∀d,uX (orc d))
 (hok:(ops.toList.foldl (fC P T N slots orc) ⟨env,H,True⟩).ok)(h:Q .normal (ops.toList.foldl (fC P T N slots orc) ⟨env,H,True⟩).env (ops.toList.foldl (fC P T N slots orc) ⟨env,H,True⟩).H):
 eW P N w0 X (.region id ops false) Q env H:=by
 intro r hr β a w s;exact eZ lB hr (pS hT hW hsl ops.toList ⟨env,H,True⟩ β a w (λo _=>hdet _) s hok λa' w' β' s'=>⟨.normal,_,_,β',trivial,s',h⟩)
theorem JE(hT:fP P T)(hW:BS T){id:Nat}{ops:Array Oper}{slots:Nat->Option Nat}(hsl:∀j d,slots j=some d->(ops[j]?).bind (·.dst)=some d/\d<N){ι:Type}{orcs:ι->Nat->Option kS}{Φ:ι->Prop}{d0:Nat}(G:JC orcs Φ d0)(i0:ι)(h0:Φ i0)
 (hc:(ops.toList.filter λo=>o.dst.getD 0==d0).length<=1)
 (h:∀i,Φ i->(ops.toList.foldl (fC P T N slots (orcs i)) ⟨env,H,True⟩).ok/\Q .normal (ops.toList.foldl (fC P T N slots (orcs i)) ⟨env,H,True⟩).env (ops.toList.foldl (fC P T N slots (orcs i)) ⟨env,H,True⟩).H):
 eW P N w0 X (.region id ops false) Q env H:=by
 intro r hr β a w s;exact eZ lB hr (BV hT hW hsl G i0 h0 ops.toList ⟨env,H,True⟩ β a w hc s (λi hi=>(h i hi).1) λi hi a' w' β' s'=>⟨.normal,_,_,β',trivial,s',(h i hi).2⟩)
end
end
section
open Go.RowKit
def iH(w0:cX)(env:eD)(H:dM)(env':eD)(H':dM):Prop:=
 ∀N X β a w,mC N w0 X env H β a w->∃β',mC N w0 X env' H' β' a w
section
variable{P:Program} {T:TypeId->fE} {N:Nat} {w0:cX} {X:Nat->Prop} {Q:LX->eD->dM->Prop} {env env' env'':eD} {H H' H'':dM}
theorem iH.trans(h:iH w0 env H env' H')(k:iH w0 env' H' env'' H''):iH w0 env H env'' H'':=λN X β a w s=>let⟨β',s'⟩:=h N X β a w s;k N X β' a w s'
theorem eI{c:Code}(h:iH w0 env H env' H')(k:eW P N w0 X c Q env' H'):eW P N w0 X c Q env H:=λr hr β a w s=>let⟨β',s'⟩:=h N X β a w s;k r hr β' a w s'
theorem Po(keep:List Nat)(σ:List (Nat×Nat))(hσ:(σ.map (·.2)).Nodup)(hσ1:(σ.map (·.1)).Nodup)(hpin:∀id∈w0.pins,dP σ id=some id):
 ∀N X β a w,mC N w0 X env H β a w->∃β',mC N w0 X (aR (keep.map λt=>(t,ren σ 8 (env t)))) (aL (σ.map λp=>(p.2,cQ σ (H p.1)))) β' a w/\∀i j,dP σ i=some j->aL (σ.map λp=>(p.2,cQ σ (H p.1))) j=cQ σ (H i)/\β' j=β i:=by
 intro N X β a w s
 let Hn:dM:=aL (σ.map λp=>(p.2,cQ σ (H p.1)))
 let β':Nat->Option Nat:=λj=>((σ.find? λp=>p.2=j).map λp=>p.1).bind β
 have look:∀j,(∃p∈σ,p.2=j/\Hn j=cQ σ (H p.1)/\β' j=β p.1)\/(Hn j=.absent/\β' j=none/\∀p∈σ,p.2≠j):=by
  intro j;have key:∀l:List (Nat×Nat),(∃p∈l,p.2=j/\fI (l.map λp=>(p.2,cQ σ (H p.1))) j=cQ σ (H p.1)/\((l.find? λp=>p.2=j).map λp=>p.1).bind β=β p.1)\/
   (fI (l.map λp=>(p.2,cQ σ (H p.1))) j=.absent/\((l.find? λp=>p.2=j).map λp=>p.1).bind β=none/\∀p∈l,p.2≠j):=by
   intro l;induction l with
   |nil=>right;exact⟨rfl,rfl,aM⟩
   |cons q r ih=>
    by_cases hq:q.2=j
    ·left;exact⟨q,List.mem_cons_self ..,hq,by simp[fI,hq],by simp[hq]⟩
    ·simp only[List.map_cons,fI,if_neg (λe:j=q.2=>hq e.symm),List.find?_cons];have:(decide (q.2=j))=false:=by simpa using hq
     simp only[this];rcases ih with⟨p,hp,h1,h2,h3⟩|⟨h1,h2,h3⟩
     ·exact .inl ⟨p,List.mem_cons_of_mem _ hp,h1,h2,h3⟩
     ·refine .inr ⟨h1,h2,λp hp=>?_⟩;rcases List.mem_cons.1 hp with rfl|hp
      ·exact hq
      ·exact h3 p hp
  exact key σ
 have hH:∀i j,dP σ i=some j->Hn j=cQ σ (H i)/\β' j=β i:=by
  intro i j h;have hm:=tA h;rcases look j with⟨p,hp,h1,h2,h3⟩|⟨_,_,h3⟩
  ·have:=mX hσ p (i,j) hp hm h1;subst this;exact⟨h2,h3⟩
  ·exact absurd rfl (h3 _ hm)
 have hE:∀k,Ex X β' Hn k->Ex X β H k:=by
  intro k hk;rcases hk with hk|⟨j,h1,h2⟩
  ·exact .inl hk
  ·rcases look j with⟨p,hp,_,e1,e2⟩|⟨e1,_,_⟩
   ·rw[e1,pQ]at h1;exact .inr ⟨p.1,h1,by rw[<-e2];exact h2⟩
   ·rw[e1]at h1;cases h1
 have hD:∀x v,RD w (Ex X β H) x v->RD w (Ex X β' Hn) x v:=λx v h=>h.anti hE;have hR:=R.ren hD hH;refine⟨β',⟨s.defers.anti hE,s.size,s.ext,s.xold,λj b hl hb=>?_,λi j b hi hj h1 h2=>?_,λt=>?_,λj=>?_,λid hid=>(s.pin id hid).of_ren (hH id id (hpin id hid)).1 (hH id id (hpin id hid)).2⟩,hH⟩
 ·rcases look j with⟨p,hp,_,e1,e2⟩|⟨e1,_,_⟩
  ·have hl':(Hn j).live=true:=hl;rw[e1,eY]at hl';refine(s.fresh p.1 b hl' (by rw[<-e2];exact hb)).imp (Or.imp (λh=>h) λh=>⟨h.1,λhm=>h.2 ?_⟩) (λh=>h);have hm':(Hn j).mut=true:=hm;rw[e1,pQ]at hm';exact hm'
  ·have hl':(Hn j).live=true:=hl;rw[e1]at hl';cases hl'
 ·have hi':(Hn i).live=true:=hi;have hj':(Hn j).live=true:=hj;rcases look i with⟨p,hp,p1,e1,e2⟩|⟨e1,_,_⟩
  ·rcases look j with⟨q,hq,q1,f1,f2⟩|⟨f1,_,_⟩
   ·rw[e1,eY]at hi';rw[f1,eY]at hj';have:=s.inj p.1 q.1 b hi' hj' (by rw[<-e2];exact h1) (by rw[<-f2];exact h2);have:=mX hσ1 p q hp hq this;rw[<-p1,<-q1,this]
   ·rw[f1]at hj';cases hj'
  ·rw[e1]at hi';cases hi'
 ·have key:∀l:List Nat,R w (Ex X β' Hn) β' Hn (oL (l.map λt=>(t,Eng.ren σ 8 (env t))) t) (a.tmps.getD t undef):=by
   intro l;induction l with
   |nil=>exact .junk _
   |cons u r ih=>
    simp only[List.map_cons,oL];split
    ·rename_i e;subst e;exact hR 8 _ _ (s.env t)
    ·exact ih
  exact key keep
 ·have goal:dO w (Ex X β' Hn) β' Hn j:=by
   unfold dO;rcases look j with⟨p,hp,p1,e1,e2⟩|⟨e1,_,_⟩
   ·rw[e1];have ho:=s.obj p.1;unfold dO at ho;cases q:H p.1 with
    |absent=>trivial
    |dead=>trivial
    |box fz cs=>
     rw[q]at ho;simp only[cQ]at ho|-;obtain⟨b,e,us,h1,h2,h3,h4,h5⟩:=ho;refine⟨b,e,us,by rw[e2];exact h1,h2,by simpa using h3,h4,λi c v hc hv=>?_⟩;obtain⟨c0,hc0,rfl⟩:=eG hc;exact hR 8 _ _ (h5 i c0 v hc0 hv)
    |row fz size xs=>
     rw[q]at ho;simp only[cQ]at ho|-;obtain⟨h1,h2,h3⟩:=ho;refine⟨h1,h2,?_⟩;rcases h3 with⟨h3,h4⟩|⟨b,e,cur,h3,h4,h5,h6⟩
     ·exact .inl ⟨by rw[e2];exact h3,h4⟩
     ·exact .inr ⟨b,e,cur,by rw[e2];exact h3,h4,h5,λi d v hd hv=>⟨(h6 i d v hd hv).1,hD _ _ (h6 i d v hd hv).2⟩⟩
    |map fz ks vs=>
     rw[q]at ho;simp only[cQ]at ho|-;obtain⟨b,arr,clock,h1,h2,h3,h4,h5,h6,h7⟩:=ho;exact⟨b,arr,clock,by rw[e2];exact h1,h2,h3,h4,h5,λi d e hd he=>hD _ _ (h6 i d e hd he),λi d e hd he=>hD _ _ (h7 i d e hd he)⟩
    |iter fz ks vs=>
     rw[q]at ho;simp only[cQ]at ho|-;obtain⟨b,bm,arr,clock,seen,last,h1,h2,h3,h4,h5,h6,h7,h8,h9,h10,h11⟩:=ho;exact⟨b,bm,arr,clock,seen,last,by rw[e2];exact h1,h2,λh=>h3 (hE _ h),h4,h5,h6,h7,h8,h9,λi d e hd he=>hD _ _ (h10 i d e hd he),λi d e hd he=>hD _ _ (h11 i d e hd he)⟩
    |know x v=>
     rw[q]at ho;simp only[cQ]at ho|-;exact hR 8 _ _ ho
   ·rw[e1];trivial
  exact goal
theorem fX(keep:List Nat)(σ:List (Nat×Nat))(hσ:(σ.map (·.2)).Nodup)(hσ1:(σ.map (·.1)).Nodup)(hpin:∀id∈w0.pins,dP σ id=some id):
 iH w0 env H (aR (keep.map λt=>(t,ren σ 8 (env t)))) (aL (σ.map λp=>(p.2,cQ σ (H p.1)))):=λN X β a w s=>let⟨β',h,_⟩:=Po keep σ hσ hσ1 hpin N X β a w s;⟨β',h⟩
theorem iH.close(t:Nat){x:DV}(h:Eng.close H 8 (env t)=some x):iH w0 env H (cE env t (.d x)) (bW H (bI H (bR H 8 (env t)))):=by
 intro N X β a w s;obtain⟨m,g⟩:=s.mem.freeze (bR H 8 (env t));refine⟨β,g.marks s.defers,s.size,m.ext,m.xold,m.fresh,m.inj,λu=>?_,m.obj,m.pin⟩;unfold cE;split
 ·rename_i e;subst e;exact .d _ _ (gX s.mem h (λ_ h=>h) (s.env u))
 ·exact g.R (s.env u)
theorem eW.len{c:Code}{t:Nat}{xs:List DV}(he:env t=.d (.sl xs))(h:xs.length<=9223372036854775807->eW P N w0 X c Q env H):eW P N w0 X c Q env H:=by
 intro r hr β a w s;have hv:=s.env t;rw[he]at hv;cases hv with
 |d _ _ hv=>
  obtain⟨b,c',_,h1,h2⟩:=hv.sl_len;exact h (by unfold maxLen at h2;omega) r hr β a w s
@[congr] theorem aAv{c:Code}(h1:env=env')(h2:H=H'):eW P N w0 X c Q env H=eW P N w0 X c Q env' H':=by rw[h1,h2]
def cK(N:Nat)(l:List Oper)(j:Nat):Option Nat:=match(l[j]?).bind (·.dst)with
 |some d=>if d<N then some d else none
 |none=>none
theorem mZ(N:Nat)(l:List Oper):∀j d,cK N l j=some d->(l.toArray[j]?).bind (·.dst)=some d/\d<N:=by
 intro j d h;unfold cK at h;split at h
 ·rename_i d' hd;split at h
  ·injection h with h;subst h;exact⟨by simpa using hd,by assumption⟩
  ·cases h
 ·cases h
def eX(P:Program)(T:TypeId->fE)(N:Nat)(l:List Oper)(orc:Nat->Option kS)(env:eD)(H:dM):uC:=l.foldl (fC P T N (cK N l) orc) ⟨env,H,True⟩
theorem tC(hT:fP P T)(hW:BS T){id:Nat}{l:List Oper}(orc:Nat->Option kS)(hdet:∀d,uX (orc d))(h:(eX P T N l orc env H).ok/\Q .normal (eX P T N l orc env H).env (eX P T N l orc env H).H):
 eW P N w0 X (.region id l.toArray false) Q env H:=
 eW.region hT hW (mZ N l) orc hdet h.1 h.2
def uI{ι:Type}(d0:Nat)(base:Nat->Option kS)(g:ι->kS)(i:ι)(d:Nat):Option kS:=if d=d0 then some (g i)else base d
theorem MI{ι:Type}{d0:Nat}{base:Nat->Option kS}{g:ι->kS}{Φ:ι->Prop}(hdet:∀d,uX (base d))(hs:∀i,Φ i->wQ (some (g i)) (some (g i)))(ha:∀i,Φ i->∀r',wQ (some (g i)) r'->∃j,Φ j/\some (g j)=r'):JC (uI d0 base g) Φ d0:=by
 refine⟨λi j _ _ d hd=>?_,λi _ d hd=>?_,λi hi=>?_,λi hi r' hr=>?_⟩
 ·simp[uI,hd]
 ·simp only[uI,if_neg hd];exact hdet d
 ·simp only[uI,if_pos];exact hs i hi
 ·simp only[uI,if_pos]at hr|-;exact ha i hi r' hr
theorem DK(hT:fP P T)(hW:BS T){id:Nat}{l:List Oper}{ι:Type}(d0:Nat)(base:Nat->Option kS)(g:ι->kS)(Φ:ι->Prop)(hdet:∀d,uX (base d))(hs:∀i,Φ i->wQ (some (g i)) (some (g i)))(ha:∀i,Φ i->∀r',wQ (some (g i)) r'->∃j,Φ j/\some (g j)=r')
 (i0:ι)(h0:Φ i0)(hc:(l.filter λo=>o.dst.getD 0==d0).length<=1)
 (h:∀i,Φ i->(eX P T N l (uI d0 base g i) env H).ok/\Q .normal (eX P T N l (uI d0 base g i) env H).env (eX P T N l (uI d0 base g i) env H).H):
 eW P N w0 X (.region id l.toArray false) Q env H:=
 JE hT hW (mZ N l) (MI hdet hs ha) i0 h0 hc h
def memless:DV->Bool
 | .int _ _=>true
 | .bool _=>true
 | .str _=>true
 | .val _=>true
 |_=>false
def HO(H:dM):LV->Prop
 | .d (.agg cs)=>∀c∈cs,memless c=true
 | .d x=>memless x=true
 | .ow id k n=>match H id with
   | .row _ _ xs=>∀x∈(xs.drop k).take n,∀c∈aQ x,memless c=true
   |_=>False
 | .nl=>True
 |_=>False
theorem RD.memless{w:World}{E E':Nat->Prop}{x:DV}{v:Value}(hm:Eng.memless x=true)(h:RD w E x v):RD w E' x v:=by
 cases h<;>first|exact .int _ _|exact .bool _|exact .str _|(exact .val _ (by assumption))|cases hm
theorem zT(hp:w0.pins=[]){b n:Nat}{A:Prop}(h:(w0.w.heap.size<=b\/w0.mine b/\A)/\b<n):w0.w.heap.size<=b:=by
 rcases h.1 with h|⟨⟨id,h,_⟩,_⟩
 ·exact h
 ·rw[hp]at h;cases h
theorem JF(hpn:w0.pins=[]){β:Nat->Option Nat}{a:Act}{w:World}{l:LV}{x:DV}{v:Value}(s:mC N w0 X env H β a w)(hr:R w (Ex X β H) β H l v)(hc:Eng.close H 8 l=some x)(hf:HO H l):RD w (λk=>X k\/k<w0.w.heap.size) x v:=by
 cases l with
 |d y=>
  simp only[Eng.close,Option.some.injEq]at hc;subst hc;cases hr with
  |d _ _ hr=>
   cases y with
   |agg cs=>
    cases hr with
    |agg _ vs hl h1 hp=>exact .agg cs vs hl h1 λi c v hc hv=>(hp i c v hc hv).memless (hf c (List.mem_of_getElem? hc))
   |_=>exact hr.memless hf
 |nl=>
  simp only[Eng.close,Option.some.injEq]at hc;subst hc;cases hr with|nl b=>exact .sl0 b 0 (by unfold maxLen;omega)
 |ow id k n=>
  simp only[HO]at hf;have hcl:=nV (E':=λ_=>False) s.obj (λ_ _ h=>h.anti λ_ h=>h.elim) 8 _ x v hc (λ_ _ _ _ h=>h) hr;cases q:H id with
  |row fz size xs=>
   rw[q]at hf;simp only[Eng.close,q,Option.some.injEq]at hc;subst hc;have hl:(H id).live=true:=by rw[q];rfl
   have hform:n=0\/∃b o c,β id=some b/\v=.slice (some ⟨b,o,none⟩) n c:=by
    cases hr with
    |ow _ _ _ b c _ _ _ _ _ _ hb'=>exact .inr ⟨b,_,c,hb',rfl⟩
    |owdead _ _ _ _ hd=>rw[q]at hd;cases hd
    |ow0=>exact .inl rfl
   clear hr;generalize hys:(xs.drop k).take n=ys at*;cases hcl with
   |sl0 b c hc=>exact .sl0 b c hc
   |sl _ b off c s' us hne hb hall hlen hc hul h1 hlt hcell hp=>
    refine .sl ys b off c s' us hne ?_ hall hlen hc hul h1 hlt hcell λi d v hd hv=>(hp i d v hd hv).memless ?_
    ·have hbid:β id=some b:=by
      rcases hform with hz|⟨b',o',c',hb',hv'⟩
      ·subst hz;exact absurd hys.symm hne
      ·injection hv' with hv' _ _
       injection hv' with hv'
       injection hv' with hv' _ _
       rw[hv'];exact hb'
     have:=zT hpn (s.fresh id b hl hbid);rintro(h|h)
     ·have:=(s.xold.1 b h).1;omega
     ·omega
    ·obtain⟨y,hy,hdy⟩:=List.mem_flatMap.1 (List.mem_of_getElem? hd);exact hf y (by rw[hys];exact hy) d hdy
  |_=>rw[q]at hf;exact hf.elim
 |_=>exact hf.elim
def pU(H:dM)(fresh:Bool)(l:LV):RV->Prop
 | .d x=>Eng.close H 8 l=some x/\(fresh=true->HO H l)
 | .own s xs=>(match l with
   | .ow id k n=>match H id with
     | .row false s' ys=>k=0/\n=xs.length/\s'=s/\xs.length<=ys.length/\ys.take xs.length=xs
     |_=>False
   | .nl=>xs=[]/\0<s
   |_=>False)/\(fresh=true->∀x∈xs,∀c∈aQ x,memless c=true)
 | .tup _=>False
theorem wV(hpn:w0.pins=[]){β:Nat->Option Nat}{a:Act}{w:World}{l:LV}{v:Value}{r:RV}{fresh:Bool}(s:mC N w0 X env H β a w)(hr:R w (Ex X β H) β H l v)(h:pU H fresh l r):
 ∃B:Option Nat,AQ w0.w w (λk=>(X k\/fresh=true/\k<w0.w.heap.size)\/B=some k) B r v:=by
 cases r with
 |d x=>
  refine⟨none,?_⟩;obtain⟨h1,h2⟩:=h;show RD w _ x v;cases fresh with
  |true=>
   refine(JF hpn s hr h1 (h2 rfl)).anti λk hk=>?_;rcases hk with(hk|hk)|hk
   ·exact .inl hk
   ·exact .inr hk.2
   ·cases hk
  |false=>
   refine(gX s.mem h1 (λ_ h=>h) hr).anti λk hk=>?_;rcases hk with(hk|hk)|hk
   ·exact .inl hk
   ·cases hk.1
   ·cases hk
 |own sz xs=>
  obtain⟨h,hf⟩:=h;have hform:(l=.nl/\xs=[]/\0<sz)\/∃id ys,l=.ow id 0 xs.length/\H id=.row false sz ys/\xs.length<=ys.length/\ys.take xs.length=xs:=by
   cases l with
   |nl=>exact .inl ⟨rfl,h⟩
   |ow id k n=>
    simp only at h;split at h
    ·rename_i s' ys hH;obtain⟨h1,h2,h0,h3,h4⟩:=h;subst h1;subst h2;subst h0;exact .inr ⟨id,ys,rfl,hH,h3,h4⟩
    ·exact h.elim
   |_=>exact h.elim
  rcases hform with⟨rfl,rfl,hpos⟩|⟨id,ys,rfl,hH,hle,htk⟩
  ·cases hr with|nl b=>exact⟨none,hpos,aM,.inl ⟨rfl,rfl,b,rfl⟩⟩
  have ho:=s.obj id;simp only[dO,hH]at ho;obtain⟨hpos,hall,ho⟩:=ho;have hl:(H id).live=true:=by rw[hH];rfl
  generalize hn:xs.length=n at hr;cases hr with
  |owdead _ _ _ _ hd=>rw[hH]at hd;cases hd
  |ow0 _ _ b=>exact⟨none,hpos,λx hx=>hall x (by rw[<-htk]at hx;exact List.mem_of_mem_take hx),.inl ⟨rfl,List.eq_nil_of_length_eq_zero hn,b,rfl⟩⟩
  |ow _ _ _ b c _ _ _ cur e hH' hb hkn hnc hc hblk hroom=>
   rw[hH]at hH';injection hH' with _ e1 e2;subst e1;subst e2
   have hallx:∀x∈xs,(aQ x).length=sz:=λx hx=>hall x (by rw[<-htk]at hx;exact List.mem_of_mem_take hx);rcases ho with⟨hnone,hx⟩|⟨b',e',cur',hb',hblk',hlen',hp0⟩
   ·rw[hnone]at hb;cases hb
   ·rw[hb]at hb';injection hb' with hb';subst hb'
    rw[hblk]at hblk';injection hblk' with hblk';injection hblk' with p1 p2;subst p1;subst p2
    have hp:∀(i:Nat) (d:DV) (v:Value),(bS xs)[i]? =some d->cur[i]? =some v->v.oneCell'=true/\RD w (Ex X β H) d v:=λi d v hd hv=>by
     rw[<-htk,jS hall,List.getElem?_take]at hd;split at hd
     ·exact hp0 i d v hd hv
     ·cases hd
    refine⟨some b,hpos,hallx,.inr ⟨b,c,cur,e,rfl,by rw[Nat.zero_mul,hn],zT hpn (s.fresh id b hl hb),hblk,aE,hc,by rw[Nat.zero_add]at hroom;exact hroom,λi d v hd hv=>⟨(hp i d v hd hv).1,?_⟩⟩⟩;cases fresh with
    |true=>
     obtain⟨y,hy,hdy⟩:=List.mem_flatMap.1 (List.mem_of_getElem? hd);exact(hp i d v hd hv).2.memless (hf rfl y hy d hdy)
    |false=>
     refine(hp i d v hd hv).2.anti λk hk=>?_;rcases hk with(hk|hk)|hk
     ·exact .inl hk
     ·cases hk.1
     ·injection hk with hk;subst hk;exact .inr ⟨id,by rw[hH];rfl,hb⟩
 |tup _=>exact h.elim
def gY(args:List DV):eD:=aR ((args.zipIdx).map λp=>(p.2,.d p.1))
theorem qW(args:List DV)(t:Nat):gY args t=match args[t]? with|some x=>.d x|none=>.junk:=by
 have key:∀(l:List DV) (k t:Nat),oL ((l.zipIdx k).map λp=>(p.2,LV.d p.1)) (k+t)=match l[t]? with|some x=>.d x|none=>.junk:=by
  intro l;induction l with
  |nil=>intro k t;simp[oL]
  |cons x r ih=>
   intro k t;simp only[List.zipIdx_cons,List.map_cons,oL];cases t with
   |zero=>simp
   |succ t=>
    rw[if_neg aE];have:=ih (k+1) t;rw[show k+1+t=k+(t+1)by omega]at this;rw[this];simp
 have:=key args 0 t;rw[Nat.zero_add]at this;exact this
section still
variable{w:World} {l:Nat} {o:Obj} (o':Obj) (ho:w.heap[l]? =some o) (hc:rN o=false)
include ho hc
theorem lC(k:Nat)(q:Obj)(hk:w.heap[k]? =some q)(hq:rN q=true):(w.putObj l o').heap[k]? =some q:=by
 refine(World.putObj_heap_other λe=>?_).trans hk;subst e;rw[ho]at hk;cases hk;rw[hc]at hq;cases hq
theorem wW{E:Nat->Prop}{d:DV}{v:Value}(h:RD w E d v):RD (w.putObj l o') E d v:=h.keep (lC o' ho hc) aM
theorem yL{β:Nat->Option Nat}{H:dM}(id:Nat):bQ w β H (w.putObj l o') β H id:=by
 unfold bQ;cases q:H id with
 |absent=>trivial
 |dead=>rfl
 |box fz cs=>exact .inr ⟨⟨_,_,rfl⟩,rfl⟩
 |row fz size xs=>exact .inr ⟨⟨_,_,rfl,Nat.le_refl _⟩,rfl,λb cur e _ hc'=>⟨cur,e,lC o' ho hc _ _ hc' rfl,rfl⟩⟩
 |map fz ks vs=>exact .inr ⟨⟨_,_,_,rfl⟩,rfl⟩
 |iter fz ks vs=>exact .inr ⟨⟨_,_,_,rfl⟩,rfl⟩
 |know x v=>trivial
theorem CT{E:Nat->Prop}{β:Nat->Option Nat}{H:dM}{x:LV}{v:Value}(h:Eng.R w E β H x v):Eng.R (w.putObj l o') E β H x v:=h.step (λ_ _=>wW o' ho hc) (yL o' ho hc)
theorem dR.still{w0:cX}{X:Nat->Prop}{β:Nat->Option Nat}{H:dM}(m:dR w0 X H β w)(hl:w0.w.heap.size<=l):dR w0 X H β (w.putObj l o'):=by
 have hsz:(w.putObj l o').heap.size=w.heap.size:=aM;refine⟨⟨m.ext.os,m.ext.tape,m.ext.output,by rw[hsz];exact m.ext.size,λk hk hn=>(World.putObj_heap_other aE).trans (m.ext.block k hk hn),m.ext.drawn⟩,m.xold,
  λid b h1 h2=>by rw[hsz];exact m.fresh id b h1 h2,m.inj,λid=>?_,λid hid=>(m.pin id hid).trans (yL o' ho hc id)⟩
 have ho2:=m.obj id;unfold dO at ho2|-;cases q:H id with
 |absent=>trivial
 |dead=>trivial
 |box fz cs=>
  rw[q]at ho2;obtain⟨b,e,us,z1,z2,z3,z4,z5⟩:=ho2;exact⟨b,e,us,z1,lC o' ho hc _ _ z2 rfl,z3,z4,λi c v hc' hv=>CT o' ho hc (z5 i c v hc' hv)⟩
 |row fz size xs=>
  rw[q]at ho2;obtain⟨z1,z2,z3⟩:=ho2;refine⟨z1,z2,z3.imp (λh=>h) ?_⟩;rintro⟨b,e,cur,y1,y2,y3,y4⟩;exact⟨b,e,cur,y1,lC o' ho hc _ _ y2 rfl,y3,λi d v hd hv=>⟨(y4 i d v hd hv).1,wW o' ho hc (y4 i d v hd hv).2⟩⟩
 |map fz ks vs=>
  rw[q]at ho2;obtain⟨b,arr,clock,z1,z2,z3,z4,z5,z6,z7⟩:=ho2;exact⟨b,arr,clock,z1,lC o' ho hc _ _ z2 rfl,z3,z4,z5,λi d e hd he=>wW o' ho hc (z6 i d e hd he),λi d e hd he=>wW o' ho hc (z7 i d e hd he)⟩
 |iter fz ks vs=>
  rw[q]at ho2;obtain⟨b,bm,arr,clock,seen,last,z1,z2,z3,z4,z5,z6,z7,z8,z9,z10,z11⟩:=ho2;exact⟨b,bm,arr,clock,seen,last,z1,lC o' ho hc _ _ z2 rfl,z3,by rw[hsz];exact z4,lC o' ho hc _ _ z5 rfl,z6,z7,z8,z9,λi d e hd he=>wW o' ho hc (z10 i d e hd he),λi d e hd he=>wW o' ho hc (z11 i d e hd he)⟩
 |know x v=>
  rw[q]at ho2;exact CT o' ho hc ho2
end still
theorem mC.leave{n:Nat}{w0:cX}{X:Nat->Prop}{env:eD}{H:dM}{β:Nat->Option Nat}{P:Program}{fn:Func}{R:Ending->World->Prop}{a:Act}{w:World}(s:mC n w0 X env H β a w)
 (h:∀a' w',a'.tmps=a.tmps->mC n w0 X env H β a' w'->∃v,(results fn a.tmps).run P w'=.ok v w'/\R (.returned v) w'):LeavesInM Fence.wide 0 P fn a.tmps R a.defers .returning w:=by
 obtain⟨Ds,h0,h1,h2,h3⟩:=s.defers;rw[h2];clear h2 h0;have base:mC n w0 X env H β {a with defers:=[]} w:=⟨FS.nil,s.size,s.ext,s.xold,s.fresh,s.inj,s.env,s.obj,s.pin⟩;clear s;obtain⟨tm,df⟩:=a;simp only at base h|-;clear df;induction Ds generalizing w with
 |nil=>
  obtain⟨v,q1,q2⟩:=h ⟨tm,[]⟩ w rfl base;exact⟨v,q1,q2⟩
 |cons D Ds ih=>
  obtain⟨hD,hE,hb⟩:=h3 D (List.mem_cons_self ..);refine⟨aM,.inl ⟨D,_,rfl,run_takeDeferred hb,?_⟩⟩;refine ih (List.nodup_cons.1 h1).2 (λD' hD'=>?_) ?_
  ·obtain⟨q1,q2,q3⟩:=h3 D' (List.mem_cons_of_mem _ hD');exact⟨q1,q2,(World.putObj_heap_other (k:=D') (r:=D) λe=>(List.nodup_cons.1 h1).1 (by rw[<-e];exact hD')).trans q3⟩
  ·have m:=(base.mem).still (.deferred none) hb rfl hD;exact⟨FS.nil,base.size,m.ext,m.xold,m.fresh,m.inj,λt=>CT _ hb rfl (base.env t),m.obj,m.pin⟩
theorem tD{P:Program}{n:Nat}{w0:cX}{X:Nat->Prop}{env:eD}{H:dM}{β:Nat->Option Nat}{f:FuncId}{fn:Func}{c:Code}{args:Array Value}{w:World}{R:Ending->World->Prop}{Q:LX->eD->dM->Prop}
 (hf:P.funcs[f]? =some fn)(hb:fn.body=some c)(h0:w0.flat=false)(h:eW P n w0 X c Q env H)(s:mC n w0 X env H β ⟨args++Array.replicate (fn.ntmps-args.size) undef,[]⟩ w)
 (hQ:∀x env H β a w,Q x env H->mC n w0 X env H β a w->(match x with| .exit _=>False|_=>True)/\∃v,(results fn a.tmps).run P w=.ok v w/\R (.returned v) w):Calls P f args w R:=by
 refine(callsIn_wide (n:=0)).1 (callsIn_of_wp_marks hf hb trivial (wpIn_mono (h none (.inl ⟨rfl,h0⟩) β _ w s) ?_) rfl);rintro e a' w' ⟨x,env,H,β,h1,s,h2⟩;have key:∀(_:match x with| .exit _=>False|_=>True),LeavesInM Fence.wide 0 P fn a'.tmps R a'.defers .returning w':=λ_=>s.leave λa2 w2 e2 s2=>by
  have:=(hQ x env H β a2 w2 h2 s2).2;rw[e2]at this;exact this
 have hx:=(hQ x env H β a' w' h2 s).1;cases e<;>cases x<;>simp only[gM]at h1
 ·exact key trivial
 ·exact hx.elim
 ·exact key trivial
theorem tE{f:FuncId}{fn:Func}{c:Code}{args:List DV}{r:QE}{n:Nat}(hf:P.funcs[f]? =some fn)(hname:(fn.name== "runtime.NumGoroutine")=false)(hb:fn.body=some c)(hn:fn.ntmps=n)(hargs:args.length<=n)
 (h:∀w0 X,w0.pins=[]->eW P n w0 X c (λx env H=>(match x with| .exit _=>False|_=>True)/\∀β a w,mC n w0 X env H β a w->∃v,(results fn a.tmps).run P w=.ok v w/\Jn w0.w w (λk=>X k\/r.fresh=true/\k<w0.w.heap.size) r.v v) (gY args) (aL [])):
 Ok P f args r:=by
 refine⟨⟨fn,hf,hname,by rw[hb];rfl⟩,λw X vs hX hr=>?_⟩;refine tD (β:=λ_=>none) hf hb rfl (h ⟨w,λ_=>none,λ_=>.absent,[],false⟩ X rfl) ?_ ?_
 ·refine⟨FS.nil,?_,⟨rfl,rfl,rfl,Nat.le_refl _,λ_ _ _=>rfl,Nat.le_refl _⟩,⟨λk hk=>⟨hX.1 k hk,by rintro⟨id,hid,_⟩;cases hid⟩,hX.2.anti λk hk=>by rcases hk with hk|⟨id,hid,_⟩;exact hk;cases hid⟩,λid b hl _=>by simp[aL,fI,bB.live]at hl,λi j b hi _=>by simp[aL,fI,bB.live]at hi,λt=>?_,λid=>by unfold dO;trivial,λid hid=>by cases hid⟩
  ·have:=hr.1;simp;omega
  ·rw[qW];cases q:args[t]? with
   |none=>exact .junk _
   |some x=>
    have ht:t<vs.length:=by rw[hr.1];exact(List.getElem?_eq_some_iff.1 q).1
    have hv:(vs.toArray++Array.replicate (fn.ntmps-vs.toArray.size) undef).getD t undef=vs[t]:=by
     simp[Array.getD_eq_getD_getElem?,Array.getElem?_append_left,ht]
    rw[hv];refine .d _ _ ((hr.2 t x _ q (List.getElem?_eq_getElem ht)).anti λk hk=>?_);rcases hk with hk|⟨id,h1,_⟩
    ·exact hk
    ·cases h1
 ·rintro x env H β a' w' ⟨h2,h3⟩ s;obtain⟨v,hv1,hv2⟩:=h3 β a' w' s;have hbel:zN w.heap.size w w':=⟨s.ext.os,s.ext.tape,s.ext.output,s.ext.size,λk hk=>s.ext.block k hk (by rintro⟨id,hid,_⟩;cases hid),s.ext.drawn⟩;exact⟨h2,v,hv1,v,rfl,hbel,hv2⟩
theorem Ok.one{f:FuncId}{fn:Func}{c:Code}{args:List DV}{r:QE}{n t:Nat}(hf:P.funcs[f]? =some fn)(hname:(fn.name== "runtime.NumGoroutine")=false)(hb:fn.body=some c)(hn:fn.ntmps=n)(hargs:args.length<=n)(hres:fn.results= #[.tmp t])
 (hrt:∀rs,r.v≠ .tup rs)(h:∀w0 X,w0.pins=[]->eW P n w0 X c (λx env H=>(match x with| .exit _=>False|_=>True)/\pU H r.fresh (env t) r.v) (gY args) (aL [])):Ok P f args r:=by
 refine tE hf hname hb hn hargs λw0 X hpn=>(h w0 X hpn).mono λx env H ⟨h1,h2⟩=>⟨h1,λβ a w s=>⟨a.tmps.getD t undef,results_tmp hres _ _ _,?_⟩⟩;obtain⟨B,hB⟩:=wV hpn s (s.env t) h2;cases q:r.v with
 |tup rs=>exact absurd q (hrt rs)
 |d x=>rw[q]at hB;exact⟨B,hB⟩
 |own sz xs=>rw[q]at hB;exact⟨B,hB⟩
end
end
open Go.RowKit
def HP:Value->Value->Bool
 | .bool a,.bool b=>a==b
 | .int j a,.int k b=>j==k&&a==b
 | .string a,.string b=>a.data.toList==b.data.toList
 | .slice none 0 0,.slice none 0 0=>true
 | .pointer none,.pointer none=>true
 | .map none,.map none=>true
 | .nilFunc,.nilFunc=>true
 | .nilIface,.nilIface=>true
 |_,_=>false
theorem MJ{a b:Value}(h:HP a b=true):a=b:=by
 unfold HP at h;split at h
 ·simp only[beq_iff_eq]at h;rw[h]
 ·simp only[Bool.and_eq_true,beq_iff_eq]at h;rw[h.1,h.2]
 ·rename_i a b;simp only[beq_iff_eq]at h;have:=congrArg (λl:List UInt8=>(⟨l.toArray⟩:ByteArray)) h;simp only[rW]at this;rw[this]
 all_goals first|rfl|cases h
def zU:List Value->List Value->Bool
 |[],[]=>true
 |a::x,b::y=>HP a b&&zU x y
 |_,_=>false
theorem vA:∀{x y:List Value},zU x y=true->x=y
 |[],[],_=>rfl
 |a::x,b::y,h=>by simp only[zU,Bool.and_eq_true]at h;rw[MJ h.1,vA h.2]
 |[],_::_,h=>by cases h
 |_::_,[],h=>by cases h
def zV:List Field->List (Nat×TypeId)->Bool
 |[],[]=>true
 |f::x,p::y=>f.offset==p.1&&f.type==p.2&&zV x y
 |_,_=>false
theorem BW:∀{x:List Field} {y:List (Nat×TypeId)},zV x y=true->x.map (λf=>(f.offset,f.type))=y
 |[],[],_=>rfl
 |f::x,p::y,h=>by
  simp only[zV,Bool.and_eq_true,beq_iff_eq]at h;simp only[List.map_cons];rw[BW h.2,h.1.1,h.1.2]
 |[],_::_,h=>by cases h
 |_::_,[],h=>by cases h
def tkB:TypeDesc->TK->Bool
 | .int k,.int k'=>k==k'
 | .bool,.bool=>true
 | .string,.str=>true
 | .slice e,.slice e'=>e==e'
 | .struct fs,.struct l=>zV fs.toList l
 | .array n e,.arr n' e'=>n==n'&&e==e'
 | .pointer e,.ptr e'=>e==e'
 | .map k e,.map k' e'=>k==k'&&e==e'
 | .map _ _,.other=>true
 | .func _ _ _,.other=>true
 | .interface _,.other=>true
 | .tuple _,.other=>true
 |_,_=>false
theorem Zz{d:TypeDesc}{k:TK}(h:tkB d k=true):sY d k:=by
 unfold tkB at h;split at h<;>simp only[sY]
 ·simpa using h
 ·simpa using h
 ·exact BW h
 ·simpa using h
 ·simpa using h
 ·simpa using h
 ·cases h
def HQ(P:Program)(t:TypeId):TK->Bool
 | .int k=>match P.underlying t with|some (.int k')=>k==k'|_=>false
 | .bool=>match P.underlying t with|some .bool=>true|_=>false
 | .str=>match P.underlying t with|some .string=>true|_=>false
 |_=>false
theorem MK{P:Program}{t:TypeId}{k:TK}(h:HQ P t k=true):mF P t k:=by
 cases k<;>simp only[HQ]at h<;>simp only[mF]<;>first|(cases h;done)|skip
 all_goals(split at h<;>first|(cases h;done)|skip)
 ·rename_i e;simp only[beq_iff_eq]at h;rw[e,h]
 ·rename_i e;exact e
 ·rename_i e;exact e
def sD(P:Program):Nat->List Field->List TK->Bool
 |_,[],[]=>true
 |j,f::x,k::y=>f.name != "_" &&f.offset==j&&HQ P f.type k&&sD P (j+1) x y
 |_,_,_=>false
theorem tF{P:Program}:∀{j:Nat} {x:List Field} {y:List TK},sD P j x y=true->x.length=y.length/\∀(i:Nat) (f:Field) (k:TK),x[i]? =some f->y[i]? =some k->f.name≠ "_" /\f.offset=j+i/\mF P f.type k
 |_,[],[],_=>⟨rfl,aM⟩
 |j,f::x,k::y,h=>by
  simp only[sD,Bool.and_eq_true,bne_iff_ne,beq_iff_eq]at h;obtain⟨h1,h2⟩:=tF h.2;refine⟨by simp[h1],λi f' k' hf hk=>?_⟩;cases i with
  |zero=>simp at hf hk;subst hf;subst hk;exact⟨h.1.1.1,by simpa using h.1.1.2,MK h.1.2⟩
  |succ i=>
   have:=h2 i f' k' (by simpa using hf) (by simpa using hk);exact⟨this.1,by rw[this.2.1];omega,this.2.2⟩
 |_,[],_::_,h=>by cases h
 |_,_::_,[],h=>by cases h
def eqB(P:Program)(t:TypeId)(d:TypeDesc)(ks:List TK):Bool:=match d with
 | .struct fs=> !P.stoodInHeld t&&sD P 0 fs.toList ks
 | .array n e=>match P.info? e,P.underlying e with
   |some inf,some (.struct fs)=> !P.stoodInHeld e&&sD P 0 fs.toList (ks.take inf.size)&&inf.size==(ks.take inf.size).length&&ks==(List.replicate n (ks.take inf.size)).flatten
   |_,_=>false
 |_=>false
theorem ZA{P:Program}{t:TypeId}{d:TypeDesc}{ks:List TK}(hd:P.underlying t=some d)(h:eqB P t d ks=true):rX P t ks\/Pk P t ks:=by
 unfold eqB at h;split at h
 ·rename_i fs;simp only[Bool.and_eq_true,Bool.not_eq_true']at h;obtain⟨c1,c2⟩:=tF h.2;exact .inl ⟨h.1,fs,hd,c1,λj f k hf hk=>by simpa using c2 j f k hf hk⟩
 ·rename_i n e;split at h
  ·rename_i inf fs h1 h2;simp only[Bool.and_eq_true,Bool.not_eq_true',beq_iff_eq]at h;obtain⟨⟨⟨a1,a2⟩,a3⟩,a4⟩:=h;obtain⟨c1,c2⟩:=tF a2;exact .inr ⟨n,e,inf,ks.take inf.size,hd,h1,a3,⟨a1,fs,h2,c1,λj f k hf hk=>by simpa using c2 j f k hf hk⟩,a4⟩
  ·cases h
 ·cases h
def zvB(agg:Bool)(zero:List Value):Value->Bool
 | .agg _=>agg
 |_=> !agg&&zero.length==1
theorem ZB{agg:Bool}{zero:List Value}{z:Value}(h:zvB agg zero z=true)(e:z.cells.toList=zero):z=(if agg then .agg zero.toArray else zero.getD 0 undef)/\(agg=false->zero.length=1):=by
 unfold zvB at h;split at h
 ·subst h;subst e;simp[Value.cells]
 ·rename_i hn;simp only[Bool.and_eq_true,Bool.not_eq_true',beq_iff_eq]at h;have hc:z.cells= #[z]:=by cases z<;>first|rfl|exact absurd rfl (hn _)
  rw[hc]at e;subst e;simp[h.1]
def TW(P:Program)(t:TypeId)(i:fE):Bool:=
 match P.info? t,P.underlying t with
 |some inf,some d=>tkB d i.k&&inf.size==i.size&&inf.bytes==i.bytes&&(match inf.zero with|some z=>zU z.cells.toList i.zero&&zvB i.k.agg i.zero z|none=>false)&&i.zero.all (·.oneCell')&&i.zero.length==i.size&&
   (i.eqk.isEmpty||(!P.eqGuardType P.depth t&&eqB P t d i.eqk))
 |_,_=>false
theorem TX{P:Program}{t:TypeId}{i:fE}(h:TW P t i=true):aAA P t i:=by
 unfold TW at h;split at h
 ·rename_i inf d h1 h2;simp only[Bool.and_eq_true,beq_iff_eq]at h;obtain⟨⟨⟨⟨⟨⟨a1,a2⟩,a3⟩,a4⟩,a5⟩,a6⟩,a7⟩:=h;split at a4
  ·rename_i z hz;simp only[Bool.and_eq_true]at a4;obtain⟨a4,a8⟩:=a4;obtain⟨z1,z2⟩:=ZB a8 (vA a4);refine⟨⟨inf,d,z,h1,h2,Zz a1,a2,a3,hz,vA a4⟩,λu hu=>by simpa using List.all_eq_true.1 a5 u hu,⟨inf,h1,by rw[hz,<-z1],z2⟩,a6,λhne=>?_⟩;have:i.eqk.isEmpty=false:=by cases q:i.eqk<;>simp_all
   rw[this]at a7;simp only[Bool.false_or,Bool.and_eq_true,Bool.not_eq_true']at a7;exact⟨a7.1,ZA h2 a7.2⟩
  ·cases a4
 ·cases h
def aAC:fE:=⟨.none,0,0,[],[]⟩
def oM:List (Nat×fE)->Nat->fE
 |[],_=>aAC
 |p::r,t=>if t=p.1 then p.2 else oM r t
def ZC(P:Program)(FF:List (Nat×fE)):Bool:=FF.all λp=>TW P p.1 p.2
theorem AT:∀{FF:List (Nat×fE)} {t:Nat},(oM FF t).k.isNone=false->(t,oM FF t)∈FF
 |[],t,h=>by simp[oM,aAC,TK.isNone]at h
 |p::r,t,h=>by
  simp only[oM]at h|-;split
  ·rename_i e;subst e;exact List.mem_cons_self ..
  ·rename_i e;rw[if_neg e]at h;exact List.mem_cons_of_mem _ (AT h)
theorem QQ{P:Program}{FF:List (Nat×fE)}(h:ZC P FF=true):fP P (oM FF):=λ_ ht=>TX (List.all_eq_true.1 h _ (AT ht))
def JG(T:TypeId->fE):TK->Bool
 | .slice e=> !(T e).k.isNone
 | .arr _ e=> !(T e).k.isNone
 | .struct fs=>fs.all λp=> !(T p.2).k.isNone
 |_=>true
def aAD(FF:List (Nat×fE)):Bool:=FF.all λp=>JG (oM FF) p.2.k&&(p.2.eqk.isEmpty|| !p.2.k.isNone)
theorem TY{FF:List (Nat×fE)}(h:aAD FF=true):BS (oM FF):=by
 have one:∀t,(oM FF t).k.isNone=false->JG (oM FF) (oM FF t).k=true:=λt ht=>by
  have:=List.all_eq_true.1 h _ (AT ht);simp only[Bool.and_eq_true]at this;exact this.1
 refine⟨λt ht=>?_,λt e he=>?_,λt n e he=>?_,λt fs hf p hp=>?_⟩
 ·by_cases hn:(oM FF t).k.isNone=false
  ·exact hn
  ·exfalso;have:∀l:List (Nat×fE),(∀p∈l,(p.2.eqk.isEmpty|| !p.2.k.isNone)=true)->(oM l t).k.isNone=true->(oM l t).eqk=[]:=by
    intro l;induction l with
    |nil=>intro _ _;rfl
    |cons p r ih=>
     intro hl hk;simp only[oM]at hk|-;split
     ·rename_i e;rw[if_pos e]at hk;have:=hl p (List.mem_cons_self ..);rw[hk]at this;simpa using this
     ·rename_i e;rw[if_neg e]at hk;exact ih (λq hq=>hl q (List.mem_cons_of_mem _ hq)) hk
   exact ht (this FF (λp hp=>by have:=List.all_eq_true.1 h p hp;simp only[Bool.and_eq_true]at this;exact this.2) (by simpa using hn))
 ·have:=one t (by rw[he];rfl);rw[he]at this;simpa [JG]using this
 ·have:=one t (by rw[he];rfl);rw[he]at this;simpa [JG]using this
 ·have:=one t (by rw[hf];rfl);rw[hf]at this;simp only[JG,List.all_eq_true]at this;simpa using this p hp
section
open Go.RowKit
def fQ(h H:dM):Prop:=∀id,h id=H id\/h id=.absent
def wX(r r':kQ):Prop:=r.ok->r'.ok/\r'.v=r.v/\r'.up=r.up
section
variable{P:Program} {T:TypeId->fE} {h H:dM}
theorem wX.refl(r:kQ):wX r r:=λh=>⟨h,rfl,rfl⟩
theorem wX.fail{r':kQ}:wX .fail r':=λh=>h.elim
theorem tG(hp:fQ h H):∀(n:Nat) (l:LV) (x:DV),close h n l=some x->close H n l=some x/\bR H n l=bR h n l:=by
 intro n;induction n with
 |zero=>intro l x e;simp[close]at e
 |succ n ih=>
  intro l x e;have list:∀(cs:List LV) (xs:List DV),cM (cs.map (close h n))=some xs->cM (cs.map (close H n))=some xs/\cs.flatMap (bR H n)=cs.flatMap (bR h n):=by
   intro cs;induction cs with
   |nil=>intro xs e;exact⟨e,rfl⟩
   |cons c cs ihc=>
    intro xs e;simp only[List.map_cons]at e;cases q:close h n c with
    |none=>rw[q]at e;cases e
    |some y=>
     rw[q]at e;simp only[cM,Option.map_eq_some_iff]at e;obtain⟨ys,e,rfl⟩:=e;obtain⟨i1,i2⟩:=ihc ys e;obtain⟨j1,j2⟩:=ih c y q;simp only[List.map_cons,j1,cM,i1,Option.map_some,List.flatMap_cons,i2,j2,and_self]
  cases l with
  |d y=>exact⟨e,rfl⟩
  |agg cs=>
   simp only[close,Option.map_eq_some_iff]at e;obtain⟨xs,e,rfl⟩:=e;obtain⟨i1,i2⟩:=list cs xs e;simp[close,bR,i1,i2]
  |fn f cs=>
   simp only[close,Option.map_eq_some_iff]at e;obtain⟨xs,e,rfl⟩:=e;obtain⟨i1,i2⟩:=list cs xs e;simp[close,bR,i1,i2]
  |bm f cs=>
   simp only[close,Option.map_eq_some_iff]at e;obtain⟨xs,e,rfl⟩:=e;obtain⟨i1,i2⟩:=list cs xs e;simp[close,bR,i1,i2]
  |ow id k m=>
   simp only[close]at e;rcases hp id with q|q
   ·rw[q]at e;exact⟨e,rfl⟩
   ·rw[q]at e;cases e
  |oc id k m c=>
   simp only[close]at e;rcases hp id with q|q
   ·rw[q]at e;exact⟨e,rfl⟩
   ·rw[q]at e;cases e
  |bx id off=>
   simp only[close]at e;rcases hp id with q|q
   ·rw[q]at e;cases q2:H id with
    |box fz cs=>
     rw[q2]at e;simp only[Option.map_eq_some_iff]at e;obtain⟨xs,e,rfl⟩:=e;obtain⟨i1,i2⟩:=list _ xs e;refine⟨by simp only[close,q2];rw[i1];rfl,by simp only[bR,q,q2];rw[i2]⟩
    |_=>rw[q2]at e;cases e
   ·rw[q]at e;cases e
  |nl=>exact⟨e,rfl⟩
  |mp id=>
   simp only[close]at e;rcases hp id with q|q
   ·rw[q]at e;exact⟨e,rfl⟩
   ·rw[q]at e;cases e
  |rp|it|tup|when|junk=>simp[close]at e
theorem vB(hp:fQ h H)(n:Nat):∀{cs:List LV} {xs:List DV},cM (cs.map (close h n))=some xs->cM (cs.map (close H n))=some xs/\cs.flatMap (bR H n)=cs.flatMap (bR h n):=by
 intro cs;induction cs with
 |nil=>intro xs e;exact⟨e,rfl⟩
 |cons c cs ihc=>
  intro xs e;simp only[List.map_cons]at e;cases q:close h n c with
  |none=>rw[q]at e;cases e
  |some y=>
   rw[q]at e;simp only[cM,Option.map_eq_some_iff]at e;obtain⟨ys,e,rfl⟩:=e;obtain⟨i1,i2⟩:=ihc e;obtain⟨j1,j2⟩:=tG hp n c y q;simp only[List.map_cons,j1,cM,i1,Option.map_some,List.flatMap_cons,i2,j2,and_self]
theorem vC(n:Nat){cs:List LV}{xs:List DV}(e:cM (cs.map (close H n))=some xs):∀id∈cs.flatMap (bR H n),(H id).live=true:=by
 intro id hid;obtain⟨h1,h2⟩:=kZ e;obtain⟨c,hc,hid⟩:=List.mem_flatMap.1 hid;obtain⟨i,hi,rfl⟩:=List.getElem_of_mem hc;exact mW n _ _ (h2 i _ (xs[i]'aE) (List.getElem?_eq_getElem hi) (List.getElem?_eq_getElem aE)) id hid
theorem eN(hp:fQ h H){id:Nat}(hl:(h id).live=true):H id=h id:=by
 rcases hp id with q|q
 ·exact q.symm
 ·rw[q]at hl;cases hl
theorem DL(hp:fQ h H){l:LV}(hs:iU h l=true):iU H l=true:=by
 cases l<;>simp only[iU]at* <;>exact hs
theorem jT(hp:fQ h H){ids:List Nat}(hl:∀id∈ids,(h id).live=true):bI H ids=bI h ids:=by
 unfold bI;exact List.map_congr_left λid hid=>by rw[eN hp (hl id hid)]
theorem vE(hp:fQ h H){l:LV}{x:DV}(e:close h 8 l=some x):bI H (bR h 8 l)=bI h (bR h 8 l):=jT hp λid hid=>mW 8 l x e id hid
theorem tH(hp:fQ h H){l:LV}{ys:List DV}(e:jR h l=some ys):jR H l=some ys:=by
 unfold jR at*;split at e<;>try exact e
 ·rename_i id k n;rcases hp id with q|q
  ·rw[<-q];exact e
  ·rw[q]at e;cases e
 ·rename_i id k n c;rcases hp id with q|q
  ·rw[<-q];exact e
  ·rw[q]at e;cases e
theorem JH(hp:fQ h H){l:LV}{ys:List DV}(e:uP h l=some ys):uP H l=some ys:=by
 unfold uP at*;split at e
 ·cases e
 ·exact tH hp e
theorem QR(hp:fQ h H)(t:fE)(x:LV):wX (nQ h t x) (nQ H t x):=by
 unfold nQ;split
 ·rename_i id off;rcases hp id with q|q<;>rw[q]<;>first|exact .refl _|exact .fail
 ·exact .refl _
 ·rename_i id k j;rcases hp id with q|q<;>rw[q]<;>first|exact .refl _|exact .fail
 ·exact .refl _
theorem ML(hp:fQ h H)(t:fE)(x y:LV):wX (iL h t x y) (iL H t x y):=by
 cases x with
 |bx id off=>
  simp only[iL];rcases hp id with q|q
  ·rw[q];cases q2:H id with
   |box fz cs=>cases fz with
    |false=>exact λhok=>⟨⟨hok.1,hok.2.1,DL hp hok.2.2⟩,rfl,rfl⟩
    |true=>exact .fail
   |_=>exact .fail
  ·rw[q];exact .fail
 |rp id k j=>
  simp only[iL];rcases hp id with q|q
  ·rw[q];cases q2:H id with
   |row fz s xs=>cases fz with
    |false=>
     simp only;cases q3:close h 8 y with
     |none=>exact .fail
     |some z=>
      obtain⟨c1,c2⟩:=tG hp 8 y z q3;rw[c1];simp only[c2,vE hp q3];exact .refl _
    |true=>exact .fail
   |_=>exact .fail
  ·rw[q];exact .fail
 |_=>exact .refl _
theorem CK(hp:fQ h H){dst:Nat}(hd:h dst=H dst)(t:TypeId)(n:Nat)(ps:List (Nat×LV)):wX (eS T h dst t n ps) (eS T H dst t n ps):=by
 unfold eS;split
 ·have e:∀H:dM,(ps.map λp=>close H 8 p.2)=(ps.map (·.2)).map (close H 8):=λH=>by rw[List.map_map];rfl
  have e2:∀H:dM,(ps.flatMap λp=>bR H 8 p.2)=(ps.map (·.2)).flatMap (bR H 8):=λH=>by rw[List.flatMap_map]
  cases q:cM (ps.map λp=>close h 8 p.2)with
  |none=>exact .fail
  |some xs=>
   rw[e]at q;obtain⟨c1,c2⟩:=vB hp 8 q;rw[e,c1];have hl:=vC 8 q;simp only[e2,c2,jT hp hl,hd];exact .refl _
 ·exact .refl _
theorem AU(hp:fQ h H){dst:Nat}(hd:h dst=H dst)(t:TypeId)(n:Nat)(ps:List (Nat×LV)):wX (fS T h dst t n ps) (fS T H dst t n ps):=by
 exact wX.refl _
theorem MM(hp:fQ h H)(s:TypeId)(x:LV)(f:Nat):wX (lI T h s x f) (lI T H s x f):=by
 unfold lI;split
 ·split
  ·split
   ·exact λhok=>⟨⟨hok.1,by rw[eN hp hok.2];exact hok.2⟩,rfl,rfl⟩
   ·exact λhok=>⟨⟨hok.1,by rw[eN hp hok.2];exact hok.2⟩,rfl,rfl⟩
   ·exact .refl _
   ·exact .refl _
  ·exact .refl _
 ·exact .refl _
theorem DM(hp:fQ h H)(t:TypeId)(x i:LV):wX (fJ T h t x i) (fJ T H t x i):=by
 unfold fJ;split
 ·exact .refl _
 ·rename_i e id k n _ _ _;rcases hp id with q|q<;>rw[q]<;>first|exact .refl _|exact .fail
 ·rename_i e id k n c _ _ _;rcases hp id with q|q<;>rw[q]<;>first|exact .refl _|exact .fail
 ·exact λhok=>⟨⟨hok.1,hok.2.1,by rw[eN hp hok.2.2];exact hok.2.2⟩,rfl,rfl⟩
 ·exact λhok=>⟨⟨hok.1,hok.2.1,by rw[eN hp hok.2.2];exact hok.2.2⟩,rfl,rfl⟩
 ·exact .refl _
 ·exact .refl _
theorem MN(hp:fQ h H)(t:TypeId)(x:LV)(lo hi mx:Option LV):wX (lJ T h t x lo hi mx) (lJ T H t x lo hi mx):=by
 unfold lJ;split
 ·exact .refl _
 ·exact .refl _
 ·rename_i e id k n _;rcases hp id with q|q<;>rw[q]<;>first|exact .refl _|exact .fail
 ·exact .refl _
 ·rename_i e id k n c _;rcases hp id with q|q<;>rw[q]<;>first|exact .refl _|exact .fail
 ·exact .refl _
 ·exact .refl _
theorem JI(hp:fQ h H){dst:Nat}(hd:h dst=H dst)(t:TypeId)(s x:LV):wX (jB T h dst t s x) (jB T H dst t s x):=by
 unfold jB;cases q0:(T t).k with
 |slice e=>
  cases q1:jR h x with
  |none=>exact .fail
  |some ys=>
   rw[tH hp q1];simp only;cases s with
   |ow id k n=>simp only;rcases hp id with q|q<;>rw[q]<;>first|(rw[hd];exact .refl _)|exact .fail
   |nl=>simp only;rw[hd];exact .refl _
   |_=>exact .fail
 |_=>exact .fail
theorem FE(hp:fQ h H)(t:TypeId)(s x:LV):wX (fV T h t s x) (fV T H t s x):=by
 unfold fV;cases q0:(T t).k with
 |slice e=>
  cases q1:jR h x with
  |none=>exact .fail
  |some ys=>
   rw[tH hp q1];cases s with
   |ow id k n=>simp only;rcases hp id with q|q<;>rw[q]<;>first|exact .refl _|exact .fail
   |_=>exact .fail
 |_=>exact .fail
theorem HR(hp:fQ h H){dst:Nat}(hd:h dst=H dst)(t:TypeId)(s x:LV):wX (lK T h dst t s x) (lK T H dst t s x):=by
 exact wX.refl _
theorem HS(hp:fQ h H){dst:Nat}(hd:h dst=H dst)(t:TypeId)(lo c:Nat)(s x:LV):wX (lL T h dst t lo c s x) (lL T H dst t lo c s x):=by
 exact wX.refl _
theorem HT(hp:fQ h H){dst:Nat}(hd:h dst=H dst)(hd':h (dst+1000)=H (dst+1000))(t:TypeId)(lo c:Nat)(v:Value)(s x:LV):wX (nR T h dst t lo c v s x) (nR T H dst t lo c v s x):=by
 exact wX.refl _
theorem HU(hp:fQ h H){dst:Nat}(hd:h dst=H dst)(t:TypeId)(kid:Nat)(s x:LV):wX (nS T h dst t kid s x) (nS T H dst t kid s x):=by
 exact wX.refl _
theorem HV(hp:fQ h H){dst:Nat}(hd:h dst=H dst)(t:TypeId)(s x:LV):wX (lM T h dst t s x) (lM T H dst t s x):=by
 exact wX.refl _
theorem QS(hp:fQ h H)(t:TypeId)(x:LV):wX (rU T h t x) (rU T H t x):=by
 exact wX.refl _
theorem QT(hp:fQ h H)(t:TypeId)(s x:LV):wX (rR T h t s x) (rR T H t s x):=by
 exact wX.refl _
theorem MO(hp:fQ h H)(t:TypeId)(s x:LV):wX (pD T h t s x) (pD T H t s x):=by
 exact wX.refl _
theorem MP(hp:fQ h H)(t:TypeId)(x:LV):wX (lN T h t x) (lN T H t x):=by
 unfold lN;split
 ·rename_i id k n _;rcases hp id with q|q<;>rw[q]<;>first|exact .refl _|exact .fail
 ·rename_i id k n c _;rcases hp id with q|q<;>rw[q]<;>first|exact .refl _|exact .fail
 ·exact .refl _
theorem TZ(hp:fQ h H)(t:TypeId)(x:LV)(lo hi mx:Option LV):wX (qQ T h t x lo hi mx) (qQ T H t x lo hi mx):=by
 unfold qQ;split
 ·split
  ·exact λhok=>⟨by have hok':=hok;simp only[kQ.cond]at hok'|-;rw[eN hp hok'.2.2.2.2];exact hok',rfl,rfl⟩
  ·exact .refl _
 ·exact .refl _
 ·rename_i e id k n c _;rcases hp id with q|q<;>rw[q]<;>first|exact .refl _|exact .fail
 ·exact .refl _
theorem QU{dst:Nat}(hd:h dst=H dst)(t:TypeId)(n c:LV):wX (nT T h dst t n c) (nT T H dst t n c):=by
 unfold nT;rw[hd];exact .refl _
theorem Ua(hp:fQ h H)(t:TypeId)(lo c:Nat)(x:LV):wX (wO T h t lo c x) (wO T H t lo c x):=by
 exact wX.refl _
theorem QV(hp:fQ h H){x:LV}{n:Nat}(e:Jl h x=some n):Jl H x=some n:=by
 unfold Jl at*;split at e<;>try exact e
 split at e
 ·rename_i hl;rw[eN hp hl];rw[if_pos hl];exact e
 ·cases e
theorem Ub(hp:fQ h H)(t:TypeId)(e b:Bool)(op:BinOp)(x:LV):wX (nM T h t e b op x) (nM T H t e b op x):=by
 unfold nM;cases q:Jl h x with
 |none=>split<;>simp_all<;>exact .fail
 |some n=>rw[QV hp q];exact .refl _
theorem Uc(hp:fQ h H)(t:TypeId)(x:LV):wX (qR T h t x) (qR T H t x):=by
 unfold qR;split
 ·exact .refl _
 ·exact .refl _
 ·exact λhok=>⟨by have hok':=hok;simp only[kQ.cond]at hok'|-;rw[eN hp hok'];exact hok',rfl,rfl⟩
 ·exact λhok=>⟨by have hok':=hok;simp only[kQ.cond]at hok'|-;rw[eN hp hok'];exact hok',rfl,rfl⟩
 ·exact .refl _
 ·exact .refl _
 ·exact .refl _
 ·rename_i id _;rcases hp id with q|q<;>rw[q]<;>first|exact .refl _|exact .fail
 ·exact .refl _
theorem MQ(hp:fQ h H){x:LV}{p:List DV×List DV}(e:rP h x=some p):rP H x=some p:=by
 unfold rP at*;split at e<;>try exact e
 rename_i id;rcases hp id with q|q
 ·rw[<-q];exact e
 ·rw[q]at e;cases e
theorem JJ(hp:fQ h H)(t:TypeId)(x i:LV)(ok:Bool):wX (cR T h t x i ok) (cR T H t x i ok):=by
 unfold cR;cases q:rP h x with
 |none=>split<;>simp_all<;>exact .fail
 |some p=>rw[MQ hp q];exact .refl _
theorem vF(hp:fQ h H)(t:TypeId)(m k x:LV):wX (cF T h t m k x) (cF T H t m k x):=by
 unfold cF;split
 ·rename_i id _ _ _;rcases hp id with q|q<;>rw[q]<;>first|exact .refl _|exact .fail
 ·exact .refl _
theorem fQ.frozen(hp:fQ h H){l:LV}{x:DV}(e:close h 8 l=some x):fQ (bW h (bI h (bR h 8 l))) (bW H (bI h (bR h 8 l))):=λid=>by
 simp only[eU];cases cW (bI h (bR h 8 l)) id with
 |none=>exact hp id
 |some o=>exact .inl rfl
theorem BX(hp:fQ h H)(t:TypeId)(m k x:LV):wX (gV T h t m k x) (gV T H t m k x):=by
 unfold gV;split
 ·exact vF hp _ _ _ _
 ·cases q:close h 8 x with
  |none=>exact .fail
  |some v=>
   obtain⟨q2,q3⟩:=tG hp 8 _ _ q;simp only[q2,q3,vE hp q];have r:=vF (T:=T) (hp.frozen q) t m k (.d v);intro hok;obtain⟨r1,r2,r3⟩:=r hok;exact⟨r1,r2,by simp only[];rw[r3]⟩
theorem JK(hp:fQ h H)(t:TypeId)(m k:LV):wX (pL T h t m k) (pL T H t m k):=by
 exact wX.refl _
theorem yM(hp:fQ h H){σ:List (Nat×Nat)}{shut:List Nat}:∀(ls:List LV) (i:Nat) (asl:List LV),lQ h σ shut i ls=some asl->lQ H σ shut i ls=some asl/\lR H shut i ls=lR h shut i ls/\∀id∈lR h shut i ls,(h id).live=true
 |[],i,asl,e=>⟨e,rfl,by simp[lR]⟩
 |l::r,i,asl,e=>by
  simp only[lQ]at e|-;cases q:lQ h σ shut (i+1) r with
  |none=>rw[q]at e;cases e
  |some r'=>
   obtain⟨h1,h2,h3⟩:=yM hp r (i+1) r' q;rw[q]at e;simp only at e;rw[h1];simp only[lR,h2];by_cases hs:shut.contains i=true
   ·rw[if_pos hs,Option.map_eq_some_iff]at e;obtain⟨x,hx,rfl⟩:=e;obtain⟨c1,c2⟩:=tG hp 8 l x hx;simp only[if_pos hs,c1,c2];refine⟨by first|rfl|trivial,by first|rfl|trivial,λid hid=>?_⟩;rcases List.mem_append.1 hid with hid|hid
    ·exact mW 8 l x hx id hid
    ·exact h3 id hid
   ·rw[if_neg hs]at e;simp only[if_neg hs];exact⟨e,by first|rfl|trivial,λid hid=>h3 id (by simpa using hid)⟩
theorem QW(hp:fQ h H)(s t:TypeId)(x:LV):wX (nU T h s t x) (nU T H s t x):=by
 unfold nU;split
 ·exact .refl _
 ·exact .refl _
 ·rename_i lx _ _ _ e _ _;cases q1:uP h lx with
  |none=>cases(T e).k<;>try exact .fail
         rename_i k;cases k<;>exact .fail
  |some ys=>rw[JH hp q1];exact .refl _
 ·exact .refl _
theorem Gf:∀(rs:List RV) (d:Nat),∀p∈cO d rs,∃i,p.1=d+1000*i
 |[],d,p,hp=>by simp[cO]at hp
 |r::rs,d,p,hp=>by
  simp only[cO,List.mem_append]at hp;rcases hp with hp|hp
  ·cases r<;>simp[mV]at hp;exact⟨0,by rw[hp];simp⟩
  ·obtain⟨i,hi⟩:=Gf rs (d+1000) p hp;exact⟨i+1,aE⟩
theorem Gg(v:RV)(d:Nat):∀p∈gW d v,∃i,p.1=d+1000*i:=by
 intro p hp;cases v with
 |tup rs=>exact Gf rs d p hp
 |d x=>simp[gW,mV]at hp
 |own s xs=>simp[gW,mV]at hp;exact⟨0,by rw[hp];simp⟩
theorem QX(hp:fQ h H)(r:Option kS){dst:Nat}(hd:∀i,h (dst+1000*i)=H (dst+1000*i))(f:LV)(args:List LV):wX (cT P h r dst f args) (cT P H r dst f args):=by
 unfold cT;split
 ·rename_i fid caps r _;cases q:cM ((args++caps).map (close h 8))with
  |none=>exact .fail
  |some asl=>
   obtain⟨c1,c2⟩:=vB hp 8 q;rw[c1];have hl:=vC 8 q;simp only[c2,jT hp hl];exact λhok=>⟨⟨hok.1,λp hpp=>by obtain⟨i,hi⟩:=Gg r.v dst p hpp;rw[hi,<-hd i,<-hi];exact hok.2 p hpp⟩,rfl,rfl⟩
 ·rename_i fid caps g _;cases q:lQ h g.σ g.shut 0 (args++caps)with
  |none=>exact .fail
  |some asl=>
   obtain⟨h1,h2,h3⟩:=yM hp _ _ _ q;rw[h1];intro hok;simp only at hok;obtain⟨k1,k2,k3,k4,k5,k6⟩:=hok;have e1:(g.σ.map λp=>(p.2,cQ g.σ (H p.1)))=g.σ.map λp=>(p.2,cQ g.σ (h p.1)):=List.map_congr_left λp hpp=>by rw[eN hp (k2 p hpp)]
   simp only[h2,jT hp h3,e1];refine⟨⟨k1,λp hpp=>by rw[eN hp (k2 p hpp)];exact k2 p hpp,k3,k4,λp hpp=>⟨?_,(k5 p hpp).2⟩,k6⟩,trivial,trivial⟩;obtain⟨a1,a2,a3⟩:=k5 p hpp;have:p.2=dst+1000*((p.2-dst) / 1000):=aE;rw[this,<-hd,<-this];exact a1
 ·rename_i fid caps Rel fr r _;cases q:cM ((args++caps).map (close h 8))with
  |none=>exact .fail
  |some asl=>
   obtain⟨c1,c2⟩:=vB hp 8 q;rw[c1];have hl:=vC 8 q;simp only[c2,jT hp hl];exact λhok=>⟨⟨hok.1,hok.2.1,λp hpp=>by obtain⟨i,hi⟩:=Gg r.v dst p hpp;rw[hi,<-hd i,<-hi];exact hok.2.2 p hpp⟩,rfl,rfl⟩
 ·rename_i fid caps g _ _;cases q:lQ h g.σ g.shut 0 (args++caps)with
  |none=>exact .fail
  |some asl=>
   obtain⟨h1,h2,h3⟩:=yM hp _ _ _ q;rw[h1];intro hok;simp only at hok;obtain⟨k1,k2,k3,k4,k5,k6⟩:=hok;have e1:(g.σ.map λp=>(p.2,cQ g.σ (H p.1)))=g.σ.map λp=>(p.2,cQ g.σ (h p.1)):=List.map_congr_left λp hpp=>by rw[eN hp (k2 p hpp)]
   simp only[h2,jT hp h3,e1];refine⟨⟨k1,λp hpp=>by rw[eN hp (k2 p hpp)];exact k2 p hpp,k3,k4,λp hpp=>⟨?_,(k5 p hpp).2⟩,k6⟩,trivial,trivial⟩;obtain⟨a1,a2,a3⟩:=k5 p hpp;have:p.2=dst+1000*((p.2-dst) / 1000):=aE;rw[this,<-hd,<-this];exact a1
 ·exact .refl _
theorem MR(hp:fQ h H)(f:LV)(args:List LV):wX (pE P T h f args) (pE P T H f args):=by
 exact wX.refl _
theorem DN(hp:fQ h H)(g:Operand->LV)(r:Option kS)(o:Oper)(hd:∀i,h (o.dst.getD 0+1000*i)=H (o.dst.getD 0+1000*i)):wX (bT P T h g r o) (bT P T H g r o):=by
 have hd0:h (o.dst.getD 0)=H (o.dst.getD 0):=by simpa using hd 0
 obtain⟨dst,op,type,pos,after,guard⟩:=o;cases op<;>simp only[bT]<;>simp only at hd hd0<;>first|exact .refl _|skip
 case assign x=>simp only[Option.getD]at hd0|-;rw[hd0];exact .refl _
 case alloc t=>rw[hd0];exact .refl _
 case box t x=>exact λhok=>⟨⟨by rw[<-hd0];exact hok.1,DL hp hok.2⟩,rfl,rfl⟩
 case buildSlice t n ps=>
  split
  ·exact AU hp hd0 _ _ _
  ·exact CK hp hd0 _ _ _
 case load t x=>split;exact .refl _;exact QR hp _ _
 case store t x y=>split;exact .refl _;exact ML hp _ _ _
 case nilCheck x=>
  split
  ·exact λhok=>⟨by have hok':=hok;simp only[kQ.cond]at hok'|-;rw[eN hp hok'];exact hok',rfl,rfl⟩
  ·exact λhok=>⟨by have hok':=hok;simp only[kQ.cond]at hok'|-;rw[eN hp hok'];exact hok',rfl,rfl⟩
  ·exact .refl _
  ·exact .refl _
  ·exact .refl _
  ·exact .refl _
 case convert s t x=>exact QW hp _ _ _
 case makeFunc fn first cs=>cases fn<;>exact .refl _
 case slice t x lo hi mx=>
  split
  ·exact .refl _
  ·split
   ·exact TZ hp _ _ _ _ _
   ·exact MN hp _ _ _ _ _
 case binOp op t x y u=>
  split
  ·exact .refl _
  ·split
   ·exact Ub hp _ _ _ _ _
   ·exact .refl _
  ·exact .refl _
 case makeSlice t n c=>exact QU hd0 _ _ _
 case fieldAddr s x f=>exact MM hp _ _ _
 case makeMap t r=>cases r<;>simp only[]<;>first|exact .refl _|(unfold lH;rw[hd0];exact .refl _)
 case lookup t x i ok=>exact JJ hp _ _ _ _
 case mapUpdate t m k x=>exact BX hp _ _ _ _
 case insert t m k x=>exact BX hp _ _ _ _
 case range t x=>
  split
  ·unfold pC;split
   ·rw[hd0];exact .refl _
   ·exact .refl _
  ·exact .refl _
 case indexAddr t x i=>exact DM hp _ _ _
 case call c=>
  obtain⟨callee,args,ts⟩:=c;cases callee with
  |value f=>
   simp only;split
   ·exact MR hp _ _
   ·exact QX hp r hd _ _
  |invoke r m=>exact .refl _
  |builtin b=>
   simp only;split
   ·exact Uc hp _ _
   ·split
    ·split
     ·exact FE hp _ _ _
     ·exact HS hp hd0 _ _ _ _ _
     ·exact HT hp hd0 (by simpa using hd 1) _ _ _ _ _ _
     ·exact HU hp hd0 _ _ _ _
     ·split
      ·exact HR hp hd0 _ _ _
      ·exact JI hp hd0 _ _ _
    ·split
     ·exact HV hp hd0 _ _ _
     ·exact .refl _
   ·split
    ·exact Ua hp _ _ _ _
    ·exact QS hp _ _
   ·exact MP hp _ _
   ·split
    ·exact MO hp _ _ _
    ·exact QT hp _ _ _
   ·exact .refl _
   ·exact .refl _
   ·exact JK hp _ _ _
   ·exact .refl _
theorem XB(hp:fQ h H)(g:Operand->LV)(r:Option kS)(o:Oper)(hd:∀i,h (o.dst.getD 0+1000*i)=H (o.dst.getD 0+1000*i)):wX (iO P T h g r o) (iO P T H g r o):=by
 unfold iO;split
 ·exact .refl _
 ·exact DN hp _ r o hd
end
end
section
open Go.RowKit
def jE(hide:List Nat)(H:dM):dM:=λid=>if hide.contains (id%1000)then .absent else H id
def xV(wr:List Nat)(p:Nat×bB):Bool:=wr.contains (p.1%1000)
def iX(P:Program)(T:TypeId->fE)(N:Nat)(slots:Nat->Option Nat)(orc:Nat->Option kS)(hide wr:List Nat)(st:uC)(o:Oper):uC:=
 let r:=iW P T slots st.env (jE hide st.H) (orc (o.dst.getD 0)) o
 {env:=mH st.env o.dst r.v
  H:=bW st.H (r.up.filter (xV wr))
  ok:=st.ok/\r.ok/\BT N o.dst/\∀p∈r.up,xV wr p=true}
section
variable{P:Program} {T:TypeId->fE} {N:Nat} {w0:cX} {X:Nat->Prop} {β:Nat->Option Nat} {w:World} {a:Act} {o:Oper}
theorem QY(hide:List Nat)(H:dM):fQ (jE hide H) H:=λid=>by
 unfold jE;split
 ·exact .inr rfl
 ·exact .inl rfl
theorem JL(hT:fP P T)(hW:BS T){ops:Array Oper}{slots:Nat->Option Nat}(hsl:∀j d,slots j=some d->(ops[j]?).bind (·.dst)=some d/\d<N){r:Option kS}{hide wr:List Nat}(hd:hide.contains (o.dst.getD 0%1000)=false){st:uC}
 (s:mC N w0 X st.env st.H β a w)(hself:wQ r r)(hok:∀r',wQ r r'->(iX P T N slots (λ_=>r') hide wr st o).ok){K:Act->World->Prop}{Q:Exit->Act->World->Prop}
 (hK:∀r',wQ r r'->∀a' w' β',mC N w0 X (iX P T N slots (λ_=>r') hide wr st o).env (iX P T N slots (λ_=>r') hide wr st o).H β' a' w'->K a' w'):
 if Region.wanted o (yielded ops a.tmps)then o.wp P a w K Q\/(o.asks P a w/\LetsOut Q)else K (a.put o.dst undef) w:=by
 have hp:=QY hide st.H;have hdd:∀i,jE hide st.H (o.dst.getD 0+1000*i)=st.H (o.dst.getD 0+1000*i):=λi=>by
  unfold jE;rw[if_neg (by rw[Nat.add_mul_mod_self_left,hd];simp)]
 have hok2:=λr' h=>(hok r' h).2.1;have hok4:=λr' h=>(hok r' h).2.2.2;have hok3:=(hok r hself).2.2.1;clear hok;simp only[iX]at hK hok2 hok4;have hfil:∀l:List (Nat×bB),(∀p∈l,xV wr p=true)->l.filter (xV wr)=l:=λl hl=>List.filter_eq_self.2 hl;have hK:∀r',wQ r r'->∀a' w' β',mC N w0 X (mH st.env o.dst (iW P T slots st.env (jE hide st.H) r' o).v) (bW st.H (iW P T slots st.env (jE hide st.H) r' o).up) β' a' w'->K a' w':=λr' h a' w' β' s'=>hK r' h a' w' β' (by rw[hfil _ (hok4 r' h)];exact s');cases hg:o.guard with
 |none=>
  have e:∀r,iW P T slots st.env (jE hide st.H) r o=bT P T (jE hide st.H) (kH st.env) r o:=λr=>by unfold iW;rw[hg]
  simp only[e]at hK hok2;have hpl:=λr' h=>DN hp (kH st.env) r' o hdd (hok2 r' h);rw[if_pos (by simp[Region.wanted,hg])];left;refine DI hT hW s.mem s.get hself (λr' h=>(hpl r' h).1) K Q ?_;rintro res ⟨r',h',rfl⟩ v w' β' m gg hv;obtain⟨_,c2,c3⟩:=hpl r' h';refine hK r' h' _ _ β' ?_;rw[<-c2,<-c3];exact s.put m gg hv hok3
 |some p=>
  obtain⟨j,want⟩:=p;unfold iW at hK hok2;simp only[hg]at hK hok2;have hok20:=hok2 r hself;split at hok20
  ·rename_i ec hec;simp only[hec]at hK hok2;obtain⟨q1,q2⟩:=hok20;obtain⟨d,hd1,hd2⟩:=Option.map_eq_some_iff.1 hec;obtain⟨hd3,hd4⟩:=hsl j d hd1;rw[DJ s hd3 hd4 hd2 hg];cases ec with
   |true=>
    simp only[if_true];left;have hpl:=λr' h=>XB hp (kH st.env) r' o hdd ((hok2 r' h).1 rfl);refine JB hT hW s.mem s.get hself (λr' h=>(hpl r' h).1) (q2 rfl) K Q ?_;rintro res ⟨r',h',rfl⟩ v w' β' m gg hv;obtain⟨_,c2,c3⟩:=hpl r' h';refine hK r' h' _ _ β' ?_;rw[c3]at m gg hv;rw[c2]at hv;exact s.put m gg (.when true _ v (λ_=>hv) (λh=>by cases h)) hok3
   |false=>
    simp only[Bool.false_eq_true,if_false];exact hK r hself _ _ β (s.put s.mem eT.refl (.when false _ undef (λh=>by cases h) (λ_=>rfl)) hok3)
  ·exact hok20.elim
theorem MS{env env':eD}{ops:Array Oper}(h:∀d∈o.looksAt ops,env d=env' d):∀x∈o.op.operands,kH env x=kH env' x:=by
 intro x hx;cases x with
 |tmp t=>exact h t (by unfold Oper.looksAt;exact List.mem_append.2 (.inl (List.mem_filterMap.2 ⟨.tmp t,by simpa using hx,rfl⟩)))
 |_=>rfl
theorem zW:∀x∈kL o.op,x∈o.op.operands:=by
 intro x hx;unfold kL at hx;split at hx
 ·rename_i e;simp at hx;rw[e,hx];simp[Op.operands]
 ·simpa using hx
theorem HW{h:dM}{g g':Operand->LV}{r:Option kS}(e:∀x∈o.op.operands,g x=g' x):iO P T h g r o=iO P T h g' r o:=by
 unfold iO;split
 ·rename_i c x y ho;rw[e c (by rw[ho];simp[Op.operands]),e x (by rw[ho];simp[Op.operands]),e y (by rw[ho];simp[Op.operands])]
 ·exact tB λx hx=>by rw[e x hx]
theorem BY{l:List Oper}{env env':eD}{h:dM}{r:Option kS}(e:∀d∈o.looksAt l.toArray,env d=env' d):iW P T (cK N l) env h r o=iW P T (cK N l) env' h r o:=by
 have e1:=MS e;unfold iW;cases hg:o.guard with
 |none=>exact tB e1
 |some p=>
  obtain⟨j,want⟩:=p;simp only;have e2:((cK N l j).map λd=>AS want (env d))=(cK N l j).map λd=>AS want (env' d):=by
   cases q:cK N l j with
   |none=>rfl
   |some d=>
    have hd:=(mZ N l j d q).1;have:env d=env' d:=e d (by unfold Oper.looksAt;rw[hg];exact List.mem_append.2 (.inr (by simp only;rw[hd];simp)));simp only[Option.map_some,this]
  rw[e2,HW e1];have e3:(∀x∈kL o.op,Gd (kH env x)=true)=∀x∈kL o.op,Gd (kH env' x)=true:=by
   apply propext;exact⟨λh x hx=>by rw[<-e1 x (zW x hx)];exact h x hx,λh x hx=>by rw[e1 x (zW x hx)];exact h x hx⟩
  rw[e3]
def XC(hide1 wr1 hide2 wr2:List Nat):Bool:=wr1.all (λx=>hide2.contains x&& !wr2.contains x)&&wr2.all (λx=>hide1.contains x)
theorem nW(H:dM)(l:List (Nat×bB))(wr:List Nat)(id:Nat)(h:wr.contains (id%1000)=false):bW H (l.filter (xV wr)) id=H id:=by
 rw[eU];have:cW (l.filter (xV wr)) id=none:=by
  induction l with
  |nil=>rfl
  |cons p r ih=>
   by_cases hp:xV wr p=true
   ·rw[List.filter_cons_of_pos hp];simp only[cW];rw[if_neg (λe=>by unfold xV at hp;rw[<-e,h]at hp;cases hp)];exact ih
   ·rw[List.filter_cons_of_neg hp];exact ih
 rw[this];rfl
theorem Gh(H:dM)(l:List (Nat×bB)){wr hide:List Nat}(h:∀x∈wr,hide.contains x=true):jE hide (bW H (l.filter (xV wr)))=jE hide H:=by
 funext id;unfold jE;by_cases hh:hide.contains (id%1000)=true
 ·rw[if_pos hh,if_pos hh]
 ·rw[if_neg hh,if_neg hh];refine nW H l wr id ?_;cases q:wr.contains (id%1000)with
  |false=>rfl
  |true=>exact absurd (h _ (by simpa using q)) hh
theorem QZ(H:dM)(l1 l2:List (Nat×bB)){wr1 wr2:List Nat}(h:∀x∈wr1,wr2.contains x=false):bW (bW H (l1.filter (xV wr1))) (l2.filter (xV wr2))=bW (bW H (l2.filter (xV wr2))) (l1.filter (xV wr1)):=by
 funext id;cases q1:wr1.contains (id%1000)with
 |false=>
  rw[nW _ l1 wr1 id q1,eU _ id,nW H l1 wr1 id q1,eU _ id]
 |true=>
  have q2:wr2.contains (id%1000)=false:=h _ (by simpa using q1);rw[nW _ l2 wr2 id q2,eU (l1.filter _) id,eU (l1.filter _) id,nW H l2 wr2 id q2]
theorem JM(env:eD){d1 d2:Option Nat}(v1 v2:LV)(h:∀d,d1=some d->d2≠some d):mH (mH env d1 v1) d2 v2=mH (mH env d2 v2) d1 v1:=by
 cases d1 with
 |none=>rfl
 |some d1=>
  cases d2 with
  |none=>rfl
  |some d2=>
   have:d1≠d2:=λe=>h d1 rfl (by rw[e]);funext j;simp only[mH,cE];by_cases h1:j=d1
   ·subst h1;rw[if_neg this];simp
   ·rw[if_neg h1,if_neg h1]
theorem Gi(env:eD){d1:Option Nat}(v:LV){d:Nat}(h:d1≠some d):mH env d1 v d=env d:=by
 cases d1 with
 |none=>rfl
 |some d1=>simp only[mH,cE];rw[if_neg (λe=>h (by rw[e]))]
theorem MT{l:List Oper}{orc:Nat->Option kS}{o1 o2:Oper}{hide1 wr1 hide2 wr2:List Nat}(hap:o1.apart l.toArray o2=true)(hs:XC hide1 wr1 hide2 wr2=true)(st:uC):
 iX P T N (cK N l) orc hide2 wr2 (iX P T N (cK N l) orc hide1 wr1 st o1) o2=iX P T N (cK N l) orc hide1 wr1 (iX P T N (cK N l) orc hide2 wr2 st o2) o1:=by
 obtain⟨a1,a2,a3⟩:=Oper.apart_spec hap;simp only[XC,Bool.and_eq_true,List.all_eq_true]at hs;obtain⟨s1,s2⟩:=hs;have s3:∀x∈wr1,hide2.contains x=true:=λx hx=>(s1 x hx).1;have s4:∀x∈wr1,wr2.contains x=false:=λx hx=>by simpa using(s1 x hx).2
 have e2:iW P T (cK N l) (iX P T N (cK N l) orc hide1 wr1 st o1).env (jE hide2 (iX P T N (cK N l) orc hide1 wr1 st o1).H) (orc (o2.dst.getD 0)) o2=iW P T (cK N l) st.env (jE hide2 st.H) (orc (o2.dst.getD 0)) o2:=by
  simp only[iX];rw[Gh _ _ s3];exact BY λd hd=>Gi _ _ (λe=>a1 d e hd)
 have e1:iW P T (cK N l) (iX P T N (cK N l) orc hide2 wr2 st o2).env (jE hide1 (iX P T N (cK N l) orc hide2 wr2 st o2).H) (orc (o1.dst.getD 0)) o1=iW P T (cK N l) st.env (jE hide1 st.H) (orc (o1.dst.getD 0)) o1:=by
  simp only[iX];rw[Gh _ _ s2];exact BY λd hd=>Gi _ _ (λe=>a3 d e hd)
 have f:∀(hide wr:List Nat) (st:uC) (o:Oper),iX P T N (cK N l) orc hide wr st o={env:=mH st.env o.dst (iW P T (cK N l) st.env (jE hide st.H) (orc (o.dst.getD 0)) o).v,H:=bW st.H ((iW P T (cK N l) st.env (jE hide st.H) (orc (o.dst.getD 0)) o).up.filter (xV wr)),ok:=st.ok/\(iW P T (cK N l) st.env (jE hide st.H) (orc (o.dst.getD 0)) o).ok/\BT N o.dst/\∀p∈(iW P T (cK N l) st.env (jE hide st.H) (orc (o.dst.getD 0)) o).up,xV wr p=true}:=λ_ _ _ _=>rfl;rw[f hide2 wr2,f hide1 wr1 (iX P T N (cK N l) orc hide2 wr2 st o2),e1,e2];clear e1 e2;simp only[iX];clear f;generalize iW P T (cK N l) st.env (jE hide1 st.H) (orc (o1.dst.getD 0)) o1=r1;generalize iW P T (cK N l) st.env (jE hide2 st.H) (orc (o2.dst.getD 0)) o2=r2;congr 1
 ·exact JM _ _ _ a2
 ·exact QZ _ _ _ s4
 ·refine propext ⟨?_,?_⟩
  ·rintro⟨⟨h1,h2⟩,h3⟩;exact⟨⟨h1,h3⟩,h2⟩
  ·rintro⟨⟨h1,h2⟩,h3⟩;exact⟨⟨h1,h3⟩,h2⟩
def Tx(S:Nat->Bool)(i:Nat):Nat->Bool:=λj=>S j||j==i
def gG(f:uC->Nat->uC)(S:Nat->Bool)(st:uC):Nat->uC
 |0=>st
 |n+1=>if S n then f (gG f S st n) n else gG f S st n
def uD(S:Nat->Bool):Nat->Nat
 |0=>0
 |n+1=>uD S n+(if S n then 0 else 1)
theorem gT{f:uC->Nat->uC}{S S':Nat->Bool}{st:uC}:∀n,(∀j,j<n->S j=S' j)->gG f S st n=gG f S' st n
 |0,_=>rfl
 |n+1,h=>by
  simp only[gG];rw[h n (Nat.lt_succ_self n),gT n λj hj=>h j (Nat.lt_succ_of_lt hj)]
theorem vG{S S':Nat->Bool}:∀n,(∀j,j<n->S j=S' j)->uD S n=uD S' n
 |0,_=>rfl
 |n+1,h=>by
  simp only[uD];rw[h n (Nat.lt_succ_self n),vG n λj hj=>h j (Nat.lt_succ_of_lt hj)]
theorem AV{S:Nat->Bool}{i j:Nat}(h:j≠i):Tx S i j=S j:=by simp[Tx,h]
theorem MU{S:Nat->Bool}{i:Nat}:Tx S i i=true:=by simp[Tx]
theorem AW{f:uC->Nat->uC}{S:Nat->Bool}{st:uC}{i:Nat}(hs:S i=false):∀n,i<n->(∀j,i<j->j<n->S j=true->∀st,f (f st i) j=f (f st j) i)->gG f (Tx S i) st n=f (gG f S st n) i
 |0,h,_=>absurd h (Nat.not_lt_zero i)
 |n+1,h,hc=>by
  simp only[gG];by_cases e:n=i
  ·subst e;rw[MU,if_pos rfl,hs,if_neg aM,gT n λj hj=>AV (Nat.ne_of_lt hj)]
  ·rw[AV e,AW hs n aE λj h1 h2=>hc j h1 aE];cases q:S n with
   |true=>rw[if_pos rfl,if_pos rfl,hc n aE aE q]
   |false=>rfl
theorem Gj{S:Nat->Bool}{i:Nat}(hs:S i=false):∀n,i<n->uD (Tx S i) n+1=uD S n
 |0,h=>absurd h (Nat.not_lt_zero i)
 |n+1,h=>by
  simp only[uD];by_cases e:n=i
  ·subst e;rw[MU,if_pos rfl,hs,if_neg aM,vG n λj hj=>AV (Nat.ne_of_lt hj)]
  ·rw[AV e];have:=Gj hs n aE;omega
theorem DO{S:Nat->Bool}:∀n,uD S n=0->∀j,j<n->S j=true
 |0,_,j,h=>absurd h (Nat.not_lt_zero j)
 |n+1,h,j,hj=>by
  simp only[uD]at h;by_cases e:j=n
  ·subst e;cases q:S j with|true=>rfl|false=>rw[q]at h;simp at h
  ·exact DO n aE j aE
theorem JN{f:uC->Nat->uC}(hf:∀st i,(f st i).ok->st.ok){cl:Nat->List Nat}{n:Nat}(hcl:∀j,j<n->∀i∈cl j,i<j)(hc:∀i j,i<j->j<n->i∉cl j->∀st,f (f st i) j=f (f st j) i)
 {S:Nat->Bool}(hS:∀j,j<n->S j=true->∀i∈cl j,S i=true){st:uC}:∀m,m<=n->(gG f (λj=>S j||decide (j<m)) st n).ok->(gG f S st n).ok
 |0,_,h=>by
  rw[gT n (S':=S) λj _=>aM]at h;exact h
 |m+1,hm,h=>by
  refine JN hf hcl hc hS m aE ?_;cases q:S m with
  |true=>
   rw[gT n (S':=λj=>S j||decide (j<m+1)) λj _=>?_]
   ·exact h
   ·by_cases e:j=m
    ·subst e;simp[q]
    ·have:(j<m+1)=(j<m):=by apply propext;omega
     simp only[this]
  |false=>
   have e:gG f (λj=>S j||decide (j<m+1)) st n=gG f (Tx (λj=>S j||decide (j<m)) m) st n:=gT n λj _=>by
    unfold Tx;by_cases e:j=m
    ·subst e;simp
    ·have:(j<m+1)=(j<m):=by apply propext;omega
     simp only[this];simp[e]
   rw[e,AW (by simp[q]) n aE λj h1 h2 h3=>hc m j h1 h2 λhin=>?_]at h
   ·exact hf _ _ h
   ·simp only[Bool.or_eq_true,decide_eq_true_eq]at h3;rcases h3 with h3|h3
    ·rw[hS j h2 h3 m hin]at q;cases q
    ·omega
def jF(P:Program)(T:TypeId->fE)(N:Nat)(l:List Oper)(orc:Nat->Option kS)(hide wr:Nat->List Nat)(st:uC)(i:Nat):uC:=
 match l[i]? with
 |some o=>iX P T N (cK N l) orc (hide i) (wr i) st o
 |none=>st
def DP(l:List Oper)(cl hide wr:Nat->List Nat):Bool:=(List.range l.length).all λj=>match l[j]? with
 |none=>true
 |some o=>
  o.after.all (λe=> !Region.binds .any e||decide (e.on<j))&&
  (cl j).all (λi=>decide (i<j)&&o.after.any (λe=>Region.binds .any e&&(e.on==i||(cl e.on).contains i)))&&
  !(hide j).contains (o.dst.getD 0%1000)&&
  (List.range j).all (λi=>(cl j).contains i||match l[i]? with
    |none=>true
    |some o'=>o'.apart l.toArray o&&XC (hide i) (wr i) (hide j) (wr j))
section
variable{l:List Oper} {cl hide wr:Nat->List Nat} {orc:Nat->Option kS}
structure Ud(l:List Oper)(cl hide wr:Nat->List Nat):Prop where
 edge:∀j o,l[j]? =some o->∀e∈o.after,Region.binds .any e=true->e.on<j
 low:∀j,j<l.length->∀i∈cl j,i<j
 clo:∀j o,l[j]? =some o->∀i∈cl j,∃e∈o.after,Region.binds .any e=true/\(e.on=i\/i∈cl e.on)
 dst:∀j o,l[j]? =some o->(hide j).contains (o.dst.getD 0%1000)=false
 sep:∀i j o' o,i<j->l[i]? =some o'->l[j]? =some o->i∉cl j->o'.apart l.toArray o=true/\XC (hide i) (wr i) (hide j) (wr j)=true
theorem Ra(h:DP l cl hide wr=true):Ud l cl hide wr:=by
 have k:∀j o,l[j]? =some o->_:=λj o hj=>by
  have h':=List.all_eq_true.1 h j (List.mem_range.2 (List.getElem?_eq_some_iff.1 hj).1);rw[hj]at h';simp only[Bool.and_eq_true]at h';exact h'
 refine⟨λj o hj e he hb=>?_,λj hj i hi=>?_,λj o hj i hi=>?_,λj o hj=>?_,λi j o' o hij hi hj hn=>?_⟩
 ·have:=Array.all_eq_true_iff_forall_mem.1 (k j o hj).1.1.1 e he;simpa [hb]using this
 ·obtain⟨o,ho⟩:∃o,l[j]? =some o:=⟨_,List.getElem?_eq_getElem hj⟩;have:=List.all_eq_true.1 (k j o ho).1.1.2 i hi;simp only[Bool.and_eq_true,decide_eq_true_eq]at this;exact this.1
 ·have:=List.all_eq_true.1 (k j o hj).1.1.2 i hi;simp only[Bool.and_eq_true,decide_eq_true_eq]at this;obtain⟨p,hp,he⟩:=Array.any_eq_true.1 this.2;simp only[Bool.and_eq_true,Bool.or_eq_true,beq_iff_eq,List.contains_iff_mem]at he;exact⟨_,Array.getElem_mem hp,he.1,he.2⟩
 ·simpa using(k j o hj).1.2
 ·have:=List.all_eq_true.1 (k j o hj).2 i (List.mem_range.2 hij);simp only[Bool.or_eq_true,List.contains_iff_mem,hi,Bool.and_eq_true]at this;exact this.resolve_left hn
theorem MV(st:uC)(i:Nat)(h:(jF P T N l orc hide wr st i).ok):st.ok:=by
 unfold jF at h;split at h
 ·exact h.1
 ·exact h
theorem Ud.comm(A:Ud l cl hide wr)(i j:Nat)(hij:i<j)(hj:j<l.length)(hn:i∉cl j)(st:uC):
 jF P T N l orc hide wr (jF P T N l orc hide wr st i) j=jF P T N l orc hide wr (jF P T N l orc hide wr st j) i:=by
 obtain⟨o,ho⟩:∃o,l[j]? =some o:=⟨_,List.getElem?_eq_getElem hj⟩;obtain⟨o',ho'⟩:∃o,l[i]? =some o:=⟨_,List.getElem?_eq_getElem aE⟩;unfold jF;simp only[ho,ho'];obtain⟨h1,h2⟩:=A.sep i j o' o hij ho' ho hn;exact MT h1 h2 st
def xW(P:Program)(T:TypeId->fE)(N:Nat)(l:List Oper)(orc:Nat->Option kS)(hide wr:Nat->List Nat)(st:uC):uC:=gG (jF P T N l orc hide wr) (λ_=>true) st l.length
theorem DQ{f f':uC->Nat->uC}{S:Nat->Bool}{n0:Nat}{st:uC}(h:∀q,S q=true->q<n0->∀st,f st q=f' st q):∀n,n<=n0->gG f S st n=gG f' S st n
 |0,_=>rfl
 |n+1,hn=>by
  simp only[gG];rw[DQ h n aE];split
  ·rename_i hs;exact h n hs aE _
  ·rfl
structure MW{ι:Type}(orcs:ι->Nat->Option kS)(Φ:ι->Prop)(l:List Oper):Prop where
 self:∀i,Φ i->∀d,wQ (orcs i d) (orcs i d)
 alt:∀i,Φ i->∀(k:Nat) (o:Oper),l[k]? =some o->∀r',wQ (orcs i (o.dst.getD 0)) r'->∃j,Φ j/\orcs j (o.dst.getD 0)=r'/\∀(q:Nat) (oq:Oper),l[q]? =some oq->q≠k->orcs j (oq.dst.getD 0)=orcs i (oq.dst.getD 0)
theorem JC.all{l:List Oper}{ι:Type}{orcs:ι->Nat->Option kS}{Φ:ι->Prop}{d0:Nat}(G:JC orcs Φ d0)(hc1:∀(i j:Nat) (o o':Oper),l[i]? =some o->l[j]? =some o'->o.dst.getD 0=d0->o'.dst.getD 0=d0->i=j):MW orcs Φ l:=by
 refine⟨λi hi d=>?_,λi hi k o ho r' hr=>?_⟩
 ·by_cases hd:d=d0
  ·subst hd;exact G.self i hi
  ·exact(G.det i hi d hd).1
 ·by_cases hd:o.dst.getD 0=d0
  ·rw[hd]at hr;obtain⟨j,hj,e⟩:=G.alt i hi r' hr;refine⟨j,hj,by rw[hd];exact e,λq oq hq hqk=>?_⟩;exact G.base j i hj hi _ λh=>hqk (hc1 q k oq o hq ho h hd)
  ·exact⟨i,hi,((G.det i hi _ hd).2 r' hr).symm,λ_ _ _ _=>rfl⟩
def aAE{ι κ:Type}(d0 d1:Nat)(base:Nat->Option kS)(g:ι->kS)(h:κ->kS)(i:ι×κ)(d:Nat):Option kS:=if d=d0 then some (g i.1)else if d=d1 then some (h i.2)else base d
theorem Rb(hT:fP P T)(hW:BS T)(A:Ud l cl hide wr){st:uC}{ι:Type}{orcs:ι->Nat->Option kS}{Φ:ι->Prop}(G:MW orcs Φ l)(hok:∀i,Φ i->(xW P T N l (orcs i) hide wr st).ok){Q:Exit->Act->World->Prop}
 (hQ:∀i,Φ i->∀β a w,mC N w0 X (xW P T N l (orcs i) hide wr st).env (xW P T N l (orcs i) hide wr st).H β a w->Q .normal a w):
 ∀(ι0:ι),Φ ι0->∀(fuel:Nat) (listed:Array Bool) (β:Nat->Option Nat) (a:Act) (w:World),listed.size=l.length->uD (λj=>listed.getD j false) l.length<=fuel->(∀j,j<l.length->listed.getD j false=true->∀i∈cl j,listed.getD i false=true)->
  mC N w0 X (gG (jF P T N l (orcs ι0) hide wr) (λj=>listed.getD j false) st l.length).env (gG (jF P T N l (orcs ι0) hide wr) (λj=>listed.getD j false) st l.length).H β a w->wpAny P .any l.toArray Q fuel listed a w:=by
 have all:∀(ι0:ι),Φ ι0->∀(listed:Array Bool) (β:Nat->Option Nat) (a:Act) (w:World),Region.ready .any l.toArray listed=[]->listed.size=l.length->mC N w0 X (gG (jF P T N l (orcs ι0) hide wr) (λj=>listed.getD j false) st l.length).env (gG (jF P T N l (orcs ι0) hide wr) (λj=>listed.getD j false) st l.length).H β a w->Q .normal a w:=by
  intro ι0 hΦ listed β a w hr hsz hs;have:∀j,j<l.length->listed.getD j false=true:=by
   intro j;induction j using Nat.strongRecOn with
   |ind j ih=>
    intro hj;cases q:listed.getD j false with
    |true=>rfl
    |false=>
     exfalso;obtain⟨o,ho⟩:∃o,l[j]? =some o:=⟨_,List.getElem?_eq_getElem hj⟩;have:j∈Region.ready .any l.toArray listed:=mem_ready.2 ⟨by
      simp only[Array.getD_eq_getD_getElem?]at q|-;rw[Array.getElem?_eq_getElem aE]at q|-;exact q,o,by simpa using ho,λe he hb=>ih e.on (A.edge j o ho e he hb) (Nat.lt_trans (A.edge j o ho e he hb) hj)⟩
     rw[hr]at this;cases this
  rw[gT (S':=λ_=>true) l.length this]at hs;exact hQ ι0 hΦ β a w hs
 intro ι0 hΦ fuel;induction fuel generalizing ι0 with
 |zero=>
  intro listed β a w hsz hm hc hs;have hr:Region.ready .any l.toArray listed=[]:=by
   cases hr:Region.ready .any l.toArray listed with
   |nil=>rfl
   |cons i r=>
    exfalso;have hi:i∈Region.ready .any l.toArray listed:=by rw[hr];exact List.mem_cons_self
    obtain⟨h0,o,ho,_⟩:=mem_ready.1 hi;have hlt:i<l.length:=by have:=(Array.getElem?_eq_some_iff.1 ho).1;simpa using this
    have:=DO l.length (Nat.le_zero.1 hm) i hlt;simp only[Array.getD_eq_getD_getElem?]at h0 this;rw[Array.getElem?_eq_getElem aE]at h0 this;simp only[Option.getD_some]at h0 this;rw[h0]at this;cases this
  exact⟨hr,all ι0 hΦ listed β a w hr hsz hs⟩
 |succ fuel ih=>
  intro listed β a w hsz hm hc hs;refine⟨λhr=>all ι0 hΦ listed β a w hr hsz hs,λi hi=>?_⟩;obtain⟨h0,o,ho,hall⟩:=mem_ready.1 hi;have hlt:i<l.length:=by have:=(Array.getElem?_eq_some_iff.1 ho).1;simpa using this
  have ho':l[i]? =some o:=by simpa using ho
  have hf:listed.getD i false=false:=by
   simp only[Array.getD_eq_getD_getElem?]at h0|-;rw[Array.getElem?_eq_getElem aE]at h0|-;exact h0
  have hi':∀k,(listed.setIfInBounds i true).getD k false=Tx (λj=>listed.getD j false) i k:=by
   intro k;by_cases e:k=i
   ·subst e;rw[MU];simp[hsz,hlt]
   ·rw[AV e];exact getD_set_ne false (Ne.symm e)
  have hcl:∀k∈cl i,listed.getD k false=true:=by
   intro k hk;obtain⟨e,he,hb,hor⟩:=A.clo i o ho' k hk;have:=hall e he hb;rcases hor with hor|hor
   ·rw[<-hor];exact this
   ·exact hc e.on (Nat.lt_trans (A.edge i o ho' e he hb) hlt) this k hor
  have hc':∀j,j<l.length->(listed.setIfInBounds i true).getD j false=true->∀k∈cl j,(listed.setIfInBounds i true).getD k false=true:=by
   intro j hj hjl k hk;rw[hi']at hjl|-;have:listed.getD k false=true:=by
    by_cases e:j=i
    ·subst e;exact hcl k hk
    ·rw[AV e]at hjl;exact hc j hj hjl k hk
   simp[Tx,this]
  have e1:∀ι0:ι,gG (jF P T N l (orcs ι0) hide wr) (λj=>(listed.setIfInBounds i true).getD j false) st l.length=jF P T N l (orcs ι0) hide wr (gG (jF P T N l (orcs ι0) hide wr) (λj=>listed.getD j false) st l.length) i:=λι0=>by
   rw[gT (S':=Tx (λj=>listed.getD j false) i) l.length λj _=>hi' j];exact AW hf l.length hlt λj h1 h2 h3=>A.comm i j h1 h2 λhin=>by
    have:=hc j h2 h3 i hin;rw[hf]at this;cases this
  have okk:∀ι0,Φ ι0->(gG (jF P T N l (orcs ι0) hide wr) (λj=>(listed.setIfInBounds i true).getD j false) st l.length).ok:=λι0 hΦ=>by
   refine JN MV A.low A.comm hc' l.length (Nat.le_refl _) ?_;rw[gT (S':=λ_=>true) l.length λj hj=>by simp[hj]];exact hok ι0 hΦ
  have e2:∀ι0 st,jF P T N l (orcs ι0) hide wr st i=iX P T N (cK N l) (orcs ι0) (hide i) (wr i) st o:=λι0 st=>by unfold jF;rw[ho']
  have key:∀r',wQ (orcs ι0 (o.dst.getD 0)) r'->∃j,Φ j/\(∀st,iX P T N (cK N l) (λ_=>r') (hide i) (wr i) st o=iX P T N (cK N l) (orcs j) (hide i) (wr i) st o)/\
   gG (jF P T N l (orcs ι0) hide wr) (λj=>listed.getD j false) st l.length=gG (jF P T N l (orcs j) hide wr) (λj=>listed.getD j false) st l.length:=λr' hr=>by
   obtain⟨j,hj,e,hq⟩:=G.alt ι0 hΦ i o ho' r' hr;refine⟨j,hj,λst=>by unfold iX;rw[e],DQ (λq hq' hql st=>?_) l.length (Nat.le_refl _)⟩;have hqi:q≠i:=λh=>by
    have hq':listed.getD q false=true:=hq';rw[h,hf]at hq';cases hq'
   unfold jF;cases hoq:l[q]? with
   |none=>rfl
   |some oq=>
    simp only[];unfold iX;rw[hq q oq hoq hqi]
  have hself:wQ (orcs ι0 (o.dst.getD 0)) (orcs ι0 (o.dst.getD 0)):=G.self ι0 hΦ _;have:=JL (P:=P) (T:=T) hT hW (ops:=l.toArray) (mZ N l) (A.dst i o ho') hs hself (r:=orcs ι0 (o.dst.getD 0)) (λr' hr=>by
   obtain⟨j,hj,h1,h2⟩:=key r' hr;have:=okk j hj;rw[e1,e2]at this;rw[h1,h2];exact this) (K:=wpAny P .any l.toArray Q fuel (listed.setIfInBounds i true)) (Q:=Q) λr' hr a' w' β' s'=>by
   obtain⟨j,hj,h1,h2⟩:=key r' hr;rw[h1,h2]at s';exact ih j hj (listed.setIfInBounds i true) β' a' w' (by simpa using hsz) (by
    rw[vG (S':=Tx (λj=>listed.getD j false) i) l.length λj _=>hi' j];have:=Gj (S:=λj=>listed.getD j false) hf l.length hlt;omega) hc' (by rw[e1,e2];exact s')
  unfold wpOp;simp only[ho];exact this
theorem mC.drew{env:eD}{H:dM}{β:Nat->Option Nat}(s:mC N w0 X env H β a w):mC N w0 X env H β a {w with drawn:=w.drawn+1}:=by
 have hb:zN w.heap.size w {w with drawn:=w.drawn+1}:=⟨rfl,rfl,rfl,Nat.le_refl _,λ_ _=>rfl,Nat.le_succ _⟩;obtain⟨m,g⟩:=s.mem.grow hb;exact s.put (dst:=none) (v:=.slice none 0 0) (l:=.junk) m g (.junk _) (by trivial)
theorem JO:∀l:List Oper,∃d0,∀o∈l,o.dst.getD 0<d0
 |[]=>⟨0,λo ho=>by cases ho⟩
 |o::l=>by
  obtain⟨d,hd⟩:=JO l;refine⟨d+o.dst.getD 0+1,λo' ho'=>?_⟩;rcases List.mem_cons.1 ho' with h|h
  ·rw[h];exact Nat.lt_succ_of_le (Nat.le_add_left _ _)
  ·exact Nat.lt_of_lt_of_le (hd o' h) (Nat.le_succ_of_le (Nat.le_add_right _ _))
theorem JP(hT:fP P T)(hW:BS T)(hm:P.follows .mixedOrders=true){id:Nat}{Q:LX->eD->dM->Prop}{env:eD}{H:dM}(cl hide wr:Nat->List Nat)(hA:DP l cl hide wr=true){ι:Type}{orcs:ι->Nat->Option kS}{Φ:ι->Prop}(G:MW orcs Φ l)(i0:ι)(h0:Φ i0)
 (h:∀i,Φ i->(xW P T N l (orcs i) hide wr ⟨env,H,True⟩).ok/\Q .normal (xW P T N l (orcs i) hide wr ⟨env,H,True⟩).env (xW P T N l (orcs i) hide wr ⟨env,H,True⟩).H):
 eW P N w0 X (.region id l.toArray true) Q env H:=by
 intro r hr β a w s;refine MH lB hm hr ?_;have e0:∀n,gG (jF P T N l (orcs i0) hide wr) (λj=>(Array.replicate l.toArray.size false).getD j false) ⟨env,H,True⟩ n=⟨env,H,True⟩:=λn=>by
  induction n with
  |zero=>rfl
  |succ n ih=>simp only[gG];rw[if_neg (by simp[Array.getElem?_replicate];split<;>rfl)];exact ih
 refine Rb hT hW (Ra hA) G (λi hi=>(h i hi).1) (λi hi β' a' w' s'=>⟨.normal,_,_,β',trivial,s',(h i hi).2⟩) i0 h0 _ _ β a _ aM ?_ (λj _ hj=>?_) ?_
 ·have:∀S n,uD S n<=n:=λS n=>by
   induction n with
   |zero=>exact Nat.le_refl 0
   |succ n ih=>simp only[uD];split<;>omega
  simpa using this _ l.length
 ·exfalso;simp[Array.getElem?_replicate]at hj;split at hj<;>cases hj
 ·rw[e0];exact s.drew
theorem JQ(hT:fP P T)(hW:BS T)(hm:P.follows .mixedOrders=true){id:Nat}{Q:LX->eD->dM->Prop}{env:eD}{H:dM}(cl hide wr:Nat->List Nat)(hA:DP l cl hide wr=true){ι:Type}{orcs:ι->Nat->Option kS}{Φ:ι->Prop}{d0:Nat}(G:JC orcs Φ d0)(i0:ι)(h0:Φ i0)
 (hc1:∀(i j:Nat) (o o':Oper),l[i]? =some o->l[j]? =some o'->o.dst.getD 0=d0->o'.dst.getD 0=d0->i=j)
 (h:∀i,Φ i->(xW P T N l (orcs i) hide wr ⟨env,H,True⟩).ok/\Q .normal (xW P T N l (orcs i) hide wr ⟨env,H,True⟩).env (xW P T N l (orcs i) hide wr ⟨env,H,True⟩).H):
 eW P N w0 X (.region id l.toArray true) Q env H:=JP hT hW hm cl hide wr hA (G.all hc1) i0 h0 h
theorem MX(hT:fP P T)(hW:BS T)(hm:P.follows .mixedOrders=true){id:Nat}{Q:LX->eD->dM->Prop}{env:eD}{H:dM}(cl hide wr:Nat->List Nat)(hA:DP l cl hide wr=true)(orc:Nat->Option kS)(hdet:∀d,uX (orc d))
 (h:(xW P T N l orc hide wr ⟨env,H,True⟩).ok/\Q .normal (xW P T N l orc hide wr ⟨env,H,True⟩).env (xW P T N l orc hide wr ⟨env,H,True⟩).H):
 eW P N w0 X (.region id l.toArray true) Q env H:=by
 obtain⟨d0,hd0⟩:=JO l;exact JQ hT hW hm cl hide wr hA (ι:=Unit) (orcs:=λ_=>orc) (Φ:=λ_=>True) (d0:=d0) ⟨λ_ _ _ _ _ _=>rfl,λ_ _ d _=>hdet d,λ_ _=>(hdet _).1,λ_ _ r' hr=>⟨(),trivial,((hdet _).2 r' hr).symm⟩⟩ () trivial
  (λi j o o' h1 h2 h3 _=>absurd h3 (Nat.ne_of_lt (hd0 o (List.mem_of_getElem? h1)))) λ_ _=>h
end
end
end
section
open Go.RowKit
def lk(l:List (List Nat))(j:Nat):List Nat:=l.getD j []
section
variable{P:Program} {T:TypeId->fE} {N:Nat} {w0:cX} {X:Nat->Prop} {Q:LX->eD->dM->Prop} {env env' env'':eD} {H H' H'':dM}
def Pp(l:LV)(A B:Prop):Prop:=match l with
 | .d (.bool b)=>(b=true->A)/\(b=false->B)
 |_=>False
theorem MY{b:Bool}{A B:Prop}:Pp (.d (.bool b)) A B↔(b=true->A)/\(b=false->B):=Iff.rfl
theorem aJ{c:Operand}{x y:Code}(h:Pp (kH env c) (eW P N w0 X x Q env H) (eW P N w0 X y Q env H)):eW P N w0 X (.cond c x y) Q env H:=by
 unfold Pp at h;split at h
 ·rename_i b e;exact .cond e h.1 h.2
 ·exact h.elim
theorem oP(keep:List Nat)(σ:List (Nat×Nat))(hσ:(σ.map (·.2)).Nodup)(hσ1:(σ.map (·.1)).Nodup)(hpin:∀id∈w0.pins,dP σ id=some id)(hE:aR (keep.map λt=>(t,ren σ 8 (env t)))=env')(hH:aL (σ.map λp=>(p.2,cQ σ (H p.1)))=H'):iH w0 env H env' H':=by
 subst hE;subst hH;exact fX keep σ hσ hσ1 hpin
def Pq(w0:cX){ι:Type}(E:ι->eD)(O:ι->dM)(I:ι->Prop)(μ:ι->Nat)(i:ι)(env':eD)(H':dM):Prop:=∃j,iH w0 env' H' (E j) (O j)/\I j/\μ j<μ i
theorem Pq.mk{ι:Type}{E:ι->eD}{O:ι->dM}{I:ι->Prop}{μ:ι->Nat}{i:ι}(j:ι)(hw:iH w0 env H (E j) (O j))(hI:I j)(hμ:μ j<μ i):Pq w0 E O I μ i env H:=⟨j,hw,hI,hμ⟩
def XD(t:Nat)(fresh:Bool)(r:RV)(x:LX)(env:eD)(H:dM):Prop:=(match x with| .exit _=>False|_=>True)/\pU H fresh (env t) r
def Ue(t u:Nat)(fresh:Bool)(r:RV)(y:DV)(x:LX)(env:eD)(H:dM):Prop:=(match x with| .exit _=>False|_=>True)/\pU H fresh (env t) r/\pU H fresh (env u) (.d y)
theorem Uf{t:Nat}{fresh:Bool}{r:RV}:XD t fresh r .ret env H↔pU H fresh (env t) r:=by simp[XD]
theorem Rc{t u:Nat}{fresh:Bool}{r:RV}{y:DV}:Ue t u fresh r y .ret env H↔pU H fresh (env t) r/\pU H fresh (env u) (.d y):=by simp[Ue]
theorem aU{c:Code}{ι:Type}(E:ι->eD)(O:ι->dM)(I:ι->Prop)(μ:ι->Nat)(i:ι)(he:iH w0 env H (E i) (O i))(h0:I i)
 (round:∀i,I i->eW P N w0 X c (yK (Pq w0 E O I μ i) Q) (E i) (O i)):eW P N w0 X (.loop c) Q env H:=by
 refine eI he ?_;intro r hr β a w s;have key:∀n i,μ i=n->I i->∀β a w,mC N w0 X (E i) (O i) β a w->(Code.loop c).wpIn (RF r) 0 P (λe a' w'=>∃x env' H' β',gM e x/\mC N w0 X env' H' β' a' w'/\Q x env' H') a w:=by
  intro n i hn hI β a w s;refine uZ (λn a w=>∃i β,μ i=n/\I i/\mC N w0 X (E i) (O i) β a w) n ⟨i,β,hn,hI,s⟩ λn' a' w' ⟨i',β',h1,h2,h3⟩=>?_;refine wpIn_mono (round i' h2 r hr.loop β' a' w' h3) ?_;rintro e a2 w2 ⟨lx,env',H',β2,g1,g2,g3⟩;cases e<;>cases lx<;>simp only[gM]at g1
  ·obtain⟨j,e1,e3,e4⟩:=g3;obtain⟨β3,s3⟩:=e1 _ _ _ _ _ g2;exact⟨μ j,aE,j,β3,rfl,e3,s3⟩
  ·subst g1;exact⟨.exit _,env',H',β2,rfl,g2,g3⟩
  ·exact⟨.ret,env',H',β2,trivial,g2,g3⟩
 exact key _ i rfl h0 β a w s
theorem AQ.anti{w w':World}{E E':Nat->Prop}(hE:∀k,E' k->E k){B:Option Nat}{r:RV}{v:Value}(h:AQ w w' E B r v):AQ w w' E' B r v:=by
 cases r with
 |d x=>exact RD.anti hE h
 |own s xs=>
  obtain⟨h1,h2,h3⟩:=h;refine⟨h1,h2,?_⟩;rcases h3 with h3|⟨b,c,cur,e,g1,g2,g3,g4,g5,g6,g7,g8⟩
  ·exact .inl h3
  ·exact .inr ⟨b,c,cur,e,g1,g2,g3,g4,g5,g6,g7,λi d v hd hv=>⟨(g8 i d v hd hv).1,(g8 i d v hd hv).2.anti hE⟩⟩
 |tup _=>exact h
theorem Ok.two{f:FuncId}{fn:Func}{c:Code}{args:List DV}{r1:RV}{y:DV}{fresh:Bool}{n t u:Nat}(hf:P.funcs[f]? =some fn)(hname:(fn.name== "runtime.NumGoroutine")=false)(hb:fn.body=some c)(hn:fn.ntmps=n)(hargs:args.length<=n)(hres:fn.results= #[.tmp t,.tmp u])
 (hy:memless y=true)(h:∀w0 X,w0.pins=[]->eW P n w0 X c (Ue t u fresh r1 y) (gY args) (aL [])):Ok P f args ⟨.tup [r1,.d y],fresh⟩:=by
 refine tE hf hname hb hn hargs λw0 X hpn=>(h w0 X hpn).mono λx env H ⟨h1,h2,h3⟩=>⟨h1,λβ a w s=>⟨_,results_tmp2 hres _ _ _,?_⟩⟩;obtain⟨B,hB⟩:=wV hpn s (s.env t) h2;obtain⟨B',hB'⟩:=wV hpn s (s.env u) h3;refine⟨[a.tmps.getD t undef,a.tmps.getD u undef],λi=>if i=0 then B else none,rfl,rfl,λi j b hi hj=>?_,λi r v hr hv=>?_⟩
 ·simp only at hi hj;by_cases h1:i=0
  ·by_cases h2:j=0
   ·omega
   ·rw[if_neg h2]at hj;cases hj
  ·rw[if_neg h1]at hi;cases hi
 ·match i,hr,hv with
  |0,hr,hv=>
   injection hr with hr;injection hv with hv
   subst hr;subst hv;simp only[if_pos];refine AQ.anti (λk hk=>?_) hB;rcases hk with hk|⟨j,hj⟩
   ·exact .inl hk
   ·by_cases h2:j=0
    ·rw[if_pos h2]at hj;exact .inr hj
    ·rw[if_neg h2]at hj;cases hj
  |1,hr,hv=>
   injection hr with hr;injection hv with hv
   subst hr;subst hv;simp only[AQ]at hB'|-;exact hB'.memless hy
theorem Ok.ret{f:FuncId}{fn:Func}{c:Code}{args:List DV}{r:RV}{fresh:Bool}{n t:Nat}(hf:P.funcs[f]? =some fn)(hname:(fn.name== "runtime.NumGoroutine")=false)(hb:fn.body=some c)(hn:fn.ntmps=n)(hargs:args.length<=n)(hres:fn.results= #[.tmp t])
 (hrt:∀rs,r≠ .tup rs)(h:∀w0 X,w0.pins=[]->eW P n w0 X c (XD t fresh r) (gY args) (aL [])):Ok P f args ⟨r,fresh⟩:=Ok.one hf hname hb hn hargs hres hrt h
def qX(T:TypeId->fE)(H:dM)(ty:TypeId)(l:LV):kQ:=match l with
 | .bx id 0=>match H id with
   | .box _ cs=>.cond (FT (T ty).k.agg (T ty).size 0 cs) ((T ty).k.isNone=false/\(T ty).size<=cs.length/\((T ty).k.agg=false->(T ty).size=1))
   |_=>.fail
 |_=>.fail
theorem vH(hT:fP P T){β:Nat->Option Nat}{a:Act}{w:World}(s:mC N w0 X env H β a w){t:Nat}{ty:TypeId}(hok:(qX T H ty (env t)).ok):
 ∃v,(((asAddr (a.tmps.getD t undef)).run P w).andThen λa w=>(loadVar ty a).run P w)=.ok v w/\R w (Ex X β H) β H (qX T H ty (env t)).v v:=by
 have hx:=s.env t;generalize env t=l at*;unfold qX at*;split at hok
 ·rename_i id;split at hok
  ·rename_i fz cs hH;simp only[kQ.cond]at hok|-;obtain⟨ht,hle,hs⟩:=hok;have hob:=s.obj id;simp only[dO,hH]at hob;obtain⟨b,e,us,hb,hblk,hlen,h1,hp⟩:=hob;generalize hval:a.tmps.getD t undef=vx at hx;cases hx with
   |bx _ _ b' _ _ _ hb'=>
    rw[hb]at hb';injection hb' with hb';subst hb'
    have:=uR (P:=P) (w:=w) (b:=b) (off:=0) (us:=(us.drop 0).take (T ty).size) hT ht kG hs (λj u hu=>by
     rw[cell_of_row w b _ us.toArray e (0,0) hblk];rw[List.getElem?_take]at hu;split at hu
     ·simpa using hu
     ·cases hu)
    refine⟨_,?_,HG hlen.symm h1 aE hs hp⟩;simp only[asAddr,Sem.run_pure,Result.andThen_ok,this]
   |bxdead _ _ _ hd=>rw[hH]at hd;cases hd
  ·exact hok.elim
 ·exact hok.elim
def XE(T:TypeId->fE)(t:Nat)(ty:TypeId)(fresh:Bool)(r:RV)(x:LX)(env:eD)(H:dM):Prop:=(match x with| .exit _=>False|_=>True)/\(qX T H ty (env t)).ok/\pU H fresh (qX T H ty (env t)).v r
theorem Ug{T:TypeId->fE}{t:Nat}{ty:TypeId}{fresh:Bool}{r:RV}:XE T t ty fresh r .ret env H↔(qX T H ty (env t)).ok/\pU H fresh (qX T H ty (env t)).v r:=by simp[XE]
theorem Ok.cell(hT:fP P T){f:FuncId}{fn:Func}{c:Code}{args:List DV}{r:RV}{fresh:Bool}{n t:Nat}{ty:TypeId}(hf:P.funcs[f]? =some fn)(hname:(fn.name== "runtime.NumGoroutine")=false)(hb:fn.body=some c)(hn:fn.ntmps=n)(hargs:args.length<=n)(hres:fn.results= #[.cell t ty])
 (hrt:∀rs,r≠ .tup rs)(h:∀w0 X,w0.pins=[]->eW P n w0 X c (XE T t ty fresh r) (gY args) (aL [])):Ok P f args ⟨r,fresh⟩:=by
 refine tE hf hname hb hn hargs λw0 X hpn=>(h w0 X hpn).mono λx env H ⟨h1,h2,h3⟩=>⟨h1,λβ a w s=>?_⟩;obtain⟨v,hv,hr⟩:=vH hT s h2;refine⟨v,?_,?_⟩
 ·simp only[results,hres];simpa [Sem.run_bind,Result.andThen]using hv
 obtain⟨B,hB⟩:=wV hpn s hr h3;cases q:r with
 |tup rs=>exact absurd q (hrt rs)
 |d x=>rw[q]at hB;exact⟨B,hB⟩
 |own sz xs=>rw[q]at hB;exact⟨B,hB⟩
section
variable{n k off id j m c:Nat} {cs:List LV} {f:FuncId} {x:DV} {σ:List (Nat×Nat)} {l:List (Nat×LV)} {lo:List (Nat×bB)}
theorem Uh:aR l j=oL l j:=rfl
theorem Ui:aL lo j=fI lo j:=rfl
theorem Pr:close H (n+1) (.d x)=some x:=rfl
theorem Rd:close H (n+1) (.agg cs)=(cM (cs.map (close H n))).map .agg:=rfl
theorem Uj:close H (n+1) (.oc id k m c)=match H id with| .row _ _ xs=>some (.sl ((xs.drop k).take m))|_=>none:=rfl
theorem Uk:close H (n+1) (.ow id k m)=match H id with| .row _ _ xs=>some (.sl ((xs.drop k).take m))|_=>none:=rfl
theorem Ul:close H (n+1) (.bx id off)=match H id with| .box _ cs=>(cM ((cs.drop off).map (close H n))).map .ro|_=>none:=rfl
theorem Um:close H (n+1) (.fn f cs)=(cM (cs.map (close H n))).map (.fn f):=rfl
theorem Un:close H (n+1) (.bm f cs)=(cM (cs.map (close H n))).map (.bm f):=rfl
theorem Uo:close H (n+1) (.mp id)=match H id with| .map _ ks vs=>some (.mp ks vs)|_=>none:=rfl
theorem Up:bR H (n+1) (.mp id)=[id]:=rfl
theorem ZD:ren σ (n+1) (.mp id)=match dP σ id with|some j=>.mp j|none=>.junk:=rfl
theorem Uq:close H (n+1) .nl=some (.sl []):=rfl
theorem Ps:bR H (n+1) (.d x)=[]:=rfl
theorem Re:bR H (n+1) (.agg cs)=cs.flatMap (bR H n):=rfl
theorem Ur:bR H (n+1) (.oc id k m c)=[id]:=rfl
theorem Us:bR H (n+1) (.ow id k m)=[id]:=rfl
theorem Ut:bR H (n+1) (.bx id off)=match H id with| .box _ cs=>id::(cs.drop off).flatMap (bR H n)|_=>[]:=rfl
theorem Uu:bR H (n+1) (.fn f cs)=cs.flatMap (bR H n):=rfl
theorem Uv:bR H (n+1) (.bm f cs)=cs.flatMap (bR H n):=rfl
theorem Uw:bR H (n+1) .nl=[]:=rfl
theorem aAF:ren σ (n+1) (.d x)=.d x:=rfl
theorem XF:ren σ (n+1) (.agg cs)=.agg (cs.map (ren σ n)):=rfl
theorem ZE:ren σ (n+1) (.bx id off)=match dP σ id with|some j=>.bx j off|none=>.junk:=rfl
theorem ZF:ren σ (n+1) (.rp id k j)=match dP σ id with|some i=>.rp i k j|none=>.junk:=rfl
theorem ZG:ren σ (n+1) (.oc id k m c)=match dP σ id with|some i=>.oc i k m c|none=>.junk:=rfl
theorem ZH:ren σ (n+1) (.ow id k m)=match dP σ id with|some i=>.ow i k m|none=>.junk:=rfl
theorem ZI:ren σ (n+1) (.fn f cs)=.fn f (cs.map (ren σ n)):=rfl
theorem ZJ:ren σ (n+1) (.bm f cs)=.bm f (cs.map (ren σ n)):=rfl
theorem ZK:ren σ (n+1) .nl=.nl:=rfl
theorem Ux:ren σ (n+1) .junk=.junk:=rfl
theorem MZ{cs:List DV}:aQ (.agg cs)=cs:=rfl
theorem Na{k:IntKind}{i:Int}:aQ (.int k i)=[.int k i]:=rfl
theorem JR{b:Bool}:aQ (.bool b)=[.bool b]:=rfl
theorem Nb{s:List UInt8}:aQ (.str s)=[.str s]:=rfl
theorem Rg{xs:List DV}:aQ (.sl xs)=[.sl xs]:=rfl
theorem Rh{xs:List DV}:aQ (.ro xs)=[.ro xs]:=rfl
theorem Ri{xs:List DV}:aQ (.fn f xs)=[.fn f xs]:=rfl
theorem Rj{xs:List DV}:aQ (.bm f xs)=[.bm f xs]:=rfl
theorem Nc:dV (.agg cs)=cs:=rfl
theorem JS{cs:List DV}:dV (.d (.agg cs))=cs.map .d:=rfl
theorem Nf{k:IntKind}{i:Int}:dV (.d (.int k i))=[.d (.int k i)]:=rfl
theorem JT{b:Bool}:dV (.d (.bool b))=[.d (.bool b)]:=rfl
theorem Ng{s:List UInt8}:dV (.d (.str s))=[.d (.str s)]:=rfl
theorem Rk{xs:List DV}:dV (.d (.sl xs))=[.d (.sl xs)]:=rfl
theorem Rm{xs:List DV}:dV (.d (.fn f xs))=[.d (.fn f xs)]:=rfl
theorem Rn{xs:List DV}:dV (.d (.bm f xs))=[.d (.bm f xs)]:=rfl
theorem Ro:dV (.oc id k m c)=[.oc id k m c]:=rfl
theorem Rp:dV (.ow id k m)=[.ow id k m]:=rfl
theorem Rq:dV (.bx id off)=[.bx id off]:=rfl
theorem Nh:dV (.fn f cs)=[.fn f cs]:=rfl
theorem Ni:dV (.bm f cs)=[.bm f cs]:=rfl
theorem Rr:dV (.mp id)=[.mp id]:=rfl
theorem Rs{ks vs:List DV}:aQ (.mp ks vs)=[.mp ks vs]:=rfl
theorem Nj{ks vs:List DV}:dV (.d (.mp ks vs))=[.d (.mp ks vs)]:=rfl
theorem Ru:dV .nl=[.nl]:=rfl
end
end
end
section
open Go.RowKit
section
variable{P:Program} {T:TypeId->fE} {N:Nat} {w0:cX} {X:Nat->Prop} {Q:LX->eD->dM->Prop} {env env' env'':eD} {H H' H'':dM}
def HX(args:List LV):eD:=aR ((args.zipIdx).map λp=>(p.2,p.1))
theorem Uy(args:List LV)(t:Nat):HX args t=(args[t]?).getD .junk:=by
 have key:∀(l:List LV) (k t:Nat),oL ((l.zipIdx k).map λp=>(p.2,p.1)) (k+t)=(l[t]?).getD .junk:=by
  intro l;induction l with
  |nil=>intro k t;simp[oL]
  |cons x r ih=>
   intro k t;simp only[List.zipIdx_cons,List.map_cons,oL];cases t with
   |zero=>simp
   |succ t=>
    rw[if_neg aE];have:=ih (k+1) t;rw[show k+1+t=k+(t+1)by omega]at this;rw[this];simp
 have:=key args 0 t;rw[Nat.zero_add]at this;exact this
theorem vI{f:FuncId}{fn:Func}{c:Code}{args:List LV}{h fin:List (Nat×bB)}{ret:LV}{n:Nat}(hf:P.funcs[f]? =some fn)(hname:(fn.name== "runtime.NumGoroutine")=false)(hb:fn.body=some c)(hn:fn.ntmps=n)(hargs:args.length<=n)
 (hw:∀w0 X,w0.pins=h.map (·.1)->eW P n w0 X c (λx env H=>(match x with| .exit _=>False|_=>True)/\∀β a w,mC n w0 X env H β a w->∃v β',(results fn a.tmps).run P w=.ok v w/\dR w0 X (aL fin) β' w/\R w (Ex X β' (aL fin)) β' (aL fin) ret v) (HX args) (aL h)):
 iG P f args h fin ret:=by
 refine⟨⟨fn,hf,hname,by rw[hb];rfl⟩,λw X β vs m hvl hr=>?_⟩;refine tD (β:=β) hf hb rfl (hw ⟨w,β,aL h,h.map (·.1),false⟩ X rfl) ?_ ?_
 ·refine⟨FS.nil,?_,m.ext,m.xold,m.fresh,m.inj,λt=>?_,m.obj,m.pin⟩
  ·simp;omega
  ·rw[Uy];cases q:args[t]? with
   |none=>exact .junk _
   |some x=>
    have ht:t<vs.length:=by rw[hvl];exact(List.getElem?_eq_some_iff.1 q).1
    have hv:(vs.toArray++Array.replicate (fn.ntmps-vs.toArray.size) undef).getD t undef=vs[t]:=by
     simp[Array.getD_eq_getD_getElem?,Array.getElem?_append_left,ht]
    rw[hv];exact hr t x _ q (List.getElem?_eq_getElem ht)
 ·rintro x env H β1 a' w' ⟨h2,h3⟩ s;obtain⟨v,β',hv1,hv2,hv3⟩:=h3 β1 a' w' s;exact⟨h2,v,hv1,v,β',rfl,hv2,hv3⟩
def Gk(w0:cX)(fin:List (Nat×bB))(x:LX)(env:eD)(H:dM):Prop:=(match x with| .exit _=>False|_=>True)/\iH w0 env H (aR []) (aL fin)
def Pt(w0:cX)(t:Nat)(fin:List (Nat×bB))(ret:LV)(x:LX)(env:eD)(H:dM):Prop:=(match x with| .exit _=>False|_=>True)/\iH w0 env H (aR [(t,ret)]) (aL fin)
theorem Rv{fin:List (Nat×bB)}:Gk w0 fin .ret env H↔iH w0 env H (aR []) (aL fin):=by simp[Gk]
theorem HY{fin:List (Nat×bB)}:Gk w0 fin .normal env H↔iH w0 env H (aR []) (aL fin):=by simp[Gk]
theorem Rw{t:Nat}{fin:List (Nat×bB)}{ret:LV}:Pt w0 t fin ret .ret env H↔iH w0 env H (aR [(t,ret)]) (aL fin):=by simp[Pt]
theorem fY{f:FuncId}{fn:Func}{c:Code}{args:List LV}{h fin:List (Nat×bB)}{n:Nat}(hf:P.funcs[f]? =some fn)(hname:(fn.name== "runtime.NumGoroutine")=false)(hb:fn.body=some c)(hn:fn.ntmps=n)(hargs:args.length<=n)(hres:fn.results= #[])
 (hw:∀w0 X,w0.pins=h.map (·.1)->eW P n w0 X c (Gk w0 fin) (HX args) (aL h)):iG P f args h fin (.tup []):=
 vI hf hname hb hn hargs λw0 X hp=>(hw w0 X hp).mono λx env H ⟨h1,h2⟩=>⟨h1,λβ a w s=>by
  obtain⟨β',s'⟩:=h2 _ _ _ _ _ s;exact⟨.tuple #[],β',results_none hres _ _ _,s'.mem,.tup [] [] rfl aM⟩⟩
theorem iG.one{f:FuncId}{fn:Func}{c:Code}{args:List LV}{h fin:List (Nat×bB)}{ret:LV}{n t:Nat}(hf:P.funcs[f]? =some fn)(hname:(fn.name== "runtime.NumGoroutine")=false)(hb:fn.body=some c)(hn:fn.ntmps=n)(hargs:args.length<=n)(hres:fn.results= #[.tmp t])
 (hw:∀w0 X,w0.pins=h.map (·.1)->eW P n w0 X c (Pt w0 t fin ret) (HX args) (aL h)):iG P f args h fin ret:=
 vI hf hname hb hn hargs λw0 X hp=>(hw w0 X hp).mono λx env H ⟨h1,h2⟩=>⟨h1,λβ a w s=>by
  obtain⟨β',s'⟩:=h2 _ _ _ _ _ s;have:=s'.env t;rw[show aR [(t,ret)] t=ret by simp[aR,oL]]at this;exact⟨_,β',results_tmp hres _ _ _,s'.mem,this⟩⟩
def Zi(w0:cX)(t:Nat)(Rel:List (Nat×bB)->LV->Prop)(x:LX)(env:eD)(H:dM):Prop:=(match x with| .exit _=>False|_=>True)/\∃fin ret,Rel fin ret/\iH w0 env H (aR [(t,ret)]) (aL fin)
theorem Rx{t:Nat}{Rel:List (Nat×bB)->LV->Prop}:Zi w0 t Rel .ret env H↔∃fin ret,Rel fin ret/\iH w0 env H (aR [(t,ret)]) (aL fin):=by simp[Zi]
theorem DR{n:Nat}:∀{cs:List DV},cM (List.map (close H (n+1)∘LV.d) cs)=some cs
 |[]=>rfl
 |c::cs=>by
  have ih:=DR (n:=n) (cs:=cs);simp only[List.map_cons,Function.comp,Pr,cM]at ih|-;rw[ih];rfl
theorem Ry{n:Nat}{cs:List DV}:cM (List.map (close H (n+1)) (List.map LV.d cs))=some cs:=by rw[List.map_map];exact DR
theorem Uz{n:Nat}{cs:List DV}:(List.map LV.d cs).flatMap (bR H (n+1))=[]:=by
 induction cs with
 |nil=>rfl
 |cons c cs ih=>simp only[List.map_cons,List.flatMap_cons,Ps,List.nil_append];exact ih
end
end
section
open Go.RowKit
section
variable{P:Program} {T:TypeId->fE} {N:Nat} {w0:cX} {X:Nat->Prop} {env:eD} {H:dM}
def Pu(T:TypeId->fE)(env:eD)(H:dM):ResultVar->kQ
 | .tmp t=>.plain (env t)
 | .cell t ty=>qX T H ty (env t)
def JU(T:TypeId->fE)(fresh:Bool)(env:eD)(H:dM):List ResultVar->List RV->Prop
 |[],[]=>True
 |r::rs,x::xs=>(Pu T env H r).ok/\pU H fresh (Pu T env H r).v x/\JU T fresh env H rs xs
 |_,_=>False
def ZL(T:TypeId->fE)(l:List ResultVar)(fresh:Bool)(rs:List RV)(x:LX)(env:eD)(H:dM):Prop:=(match x with| .exit _=>False|_=>True)/\JU T fresh env H l rs
theorem UA{l:List ResultVar}{fresh:Bool}{rs:List RV}:ZL T l fresh rs .ret env H↔JU T fresh env H l rs:=by simp[ZL]
def JV(tmps:Array Value):ResultVar->Sem Value
 | .tmp t=>pure (tmps.getD t undef)
 | .cell b t=>do loadVar t (<-asAddr (tmps.getD b undef))
theorem Gl(hT:fP P T){β:Nat->Option Nat}{a:Act}{w:World}{fresh:Bool}(s:mC N w0 X env H β a w):∀(l:List ResultVar) (rs:List RV),JU T fresh env H l rs->
 ∃vs:List Value,vs.length=rs.length/\(l.mapM (JV a.tmps)).run P w=.ok vs w/\
  ∀(i:Nat) (r:RV) (v:Value),rs[i]? =some r->vs[i]? =some v->∃x,R w (Ex X β H) β H x v/\pU H fresh x r
 |[],[],_=>⟨[],rfl,aM,aM⟩
 |[],_::_,h=>h.elim
 |_::_,[],h=>h.elim
 |r::l,x::rs,h=>by
  obtain⟨h1,h2,h3⟩:=h;obtain⟨vs,hl,hr,hp⟩:=Gl hT s l rs h3;have one:∃v,(JV a.tmps r).run P w=.ok v w/\R w (Ex X β H) β H (Pu T env H r).v v:=by
   cases r with
   |tmp t=>exact⟨_,by simp[JV],s.env t⟩
   |cell t ty=>
    obtain⟨v,hv,hr⟩:=vH hT s h1;exact⟨v,by simpa [JV,Sem.run_bind,Result.andThen]using hv,hr⟩
  obtain⟨v,hv,hv2⟩:=one;refine⟨v::vs,by simp[hl],?_,?_⟩
  ·rw[List.mapM_cons];simp only[Sem.run_bind,hv,Result.andThen_ok,hr,Sem.run_pure]
  ·intro i r' u hr' hu;cases i with
   |zero=>simp at hr' hu;subst hr';subst hu;exact⟨_,hv2,h2⟩
   |succ i=>simp at hr' hu;exact hp i r' u hr' hu
def RV.isD:RV->Bool
 | .d _=>true
 |_=>false
def RV.isM:RV->Bool
 | .d y=>memless y
 |_=>false
def Zj(rs:List RV):Bool:=rs.all RV.isD||rs.tail.all RV.isM
theorem UB{r:RV}(h:r.isD=true):∃y,r=.d y:=by cases r<;>first|exact⟨_,rfl⟩|cases h
theorem UC{r:RV}(h:r.isM=true):∃y,r=.d y/\memless y=true:=by cases r<;>first|exact⟨_,rfl,h⟩|cases h
theorem wY(hT:fP P T){f:FuncId}{fn:Func}{c:Code}{args:List DV}{rs:List RV}{l:List ResultVar}{fresh:Bool}{n:Nat}(hf:P.funcs[f]? =some fn)(hname:(fn.name== "runtime.NumGoroutine")=false)(hb:fn.body=some c)(hn:fn.ntmps=n)(hargs:args.length<=n)(hres:fn.results=l.toArray)
 (hl:2<=rs.length)(hb':Zj rs=true)
 (h:∀w0 X,w0.pins=[]->eW P n w0 X c (ZL T l fresh rs) (gY args) (aL [])):Ok P f args ⟨.tup rs,fresh⟩:=by
 have hx:(∀x∈rs,∃y,x=.d y)\/∃r1 rest,rs=r1::rest/\∀x∈rest,∃y,x=.d y/\memless y=true:=by
  unfold Zj at hb';rcases Bool.or_eq_true_iff.1 hb' with h1|h1
  ·exact .inl λx hx=>UB (List.all_eq_true.1 h1 x hx)
  ·cases rs with
   |nil=>simp at hl
   |cons r1 rest=>exact .inr ⟨r1,rest,rfl,λx hx=>UC (List.all_eq_true.1 h1 x hx)⟩
 refine tE hf hname hb hn hargs λw0 X hpn=>(h w0 X hpn).mono λx env H ⟨h1,h2⟩=>⟨h1,λβ a w s=>?_⟩;obtain⟨vs,hvl,hrun,hp⟩:=Gl hT s l rs h2;refine⟨.tuple vs.toArray,?_,?_⟩
 ·simp only[results,hres,List.mapM_toArray,map_eq_pure_bind,Sem.run_bind,Sem.run_pure];change ((((l.mapM (JV a.tmps)).run P w).andThen _).andThen _)=_;rw[hrun];simp only[Result.andThen_ok];rw[dif_neg kG]
 ·have hret:∀(i:Nat) (r:RV) (v:Value),rs[i]? =some r->vs[i]? =some v->∃B:Option Nat,AQ w0.w w (λk=>(X k\/fresh=true/\k<w0.w.heap.size)\/B=some k) B r v:=λi r v hr hv=>by
   obtain⟨x,hx1,hx2⟩:=hp i r v hr hv;exact wV hpn s hx1 hx2
  rcases hx with hx|⟨r1,rest,rfl,hx⟩
  ·refine⟨vs,λ_=>none,rfl,hvl,(by intro i j b hi hj;simp at hi),λi r v hr hv=>?_⟩;obtain⟨B,hB⟩:=hret i r v hr hv;obtain⟨y,rfl⟩:=hx r (List.mem_of_getElem? hr);simp only[AQ]at hB|-;exact RD.anti (λk hk=>.inl (by rcases hk with hk|⟨j,hj⟩;exact hk;cases hj)) hB
  ·obtain⟨v1,hv1⟩:∃v,vs[0]? =some v:=⟨vs[0]'(by rw[hvl];simp),List.getElem?_eq_getElem _⟩;obtain⟨B,hB⟩:=hret 0 r1 v1 rfl hv1;refine⟨vs,λi=>if i=0 then B else none,rfl,hvl,λi j b hi hj=>?_,λi r v hr hv=>?_⟩
   ·simp only at hi hj;by_cases h1:i=0
    ·by_cases h2:j=0
     ·omega
     ·rw[if_neg h2]at hj;cases hj
    ·rw[if_neg h1]at hi;cases hi
   ·cases i with
    |zero=>
     rw[hv1]at hv;injection hv with hv;subst hv
     simp at hr;subst hr;simp only[if_pos];refine AQ.anti (λk hk=>?_) hB;rcases hk with hk|⟨j,hj⟩
     ·exact .inl hk
     ·by_cases h2:j=0
      ·rw[if_pos h2]at hj;exact .inr hj
      ·rw[if_neg h2]at hj;cases hj
    |succ i=>
     obtain⟨B',hB'⟩:=hret (i+1) r v hr hv;simp at hr;obtain⟨y,rfl,hy⟩:=hx r (List.mem_of_getElem? hr);simp only[AQ]at hB'|-;exact hB'.memless hy
def XG(w0:cX){ι:Type}(E:ι->eD)(O:ι->dM)(I:ι->Prop)(Q:LX->eD->dM->Prop):LX->eD->dM->Prop
 | .normal,env,H=>∃i,iH w0 env H (E i) (O i)/\I i
 |e,env,H=>Q e env H
theorem JW{ι:Type}{E:ι->eD}{O:ι->dM}{I:ι->Prop}{Q:LX->eD->dM->Prop}:XG w0 E O I Q .normal env H↔∃i,iH w0 env H (E i) (O i)/\I i:=Iff.rfl
theorem UD{ι:Type}{E:ι->eD}{O:ι->dM}{I:ι->Prop}{Q:LX->eD->dM->Prop}:XG w0 E O I Q .ret env H↔Q .ret env H:=Iff.rfl
theorem Rz{ι:Type}{E:ι->eD}{O:ι->dM}{I:ι->Prop}{Q:LX->eD->dM->Prop}{j:Nat}:XG w0 E O I Q (.exit j) env H↔Q (.exit j) env H:=Iff.rfl
theorem XG.mk{ι:Type}{E:ι->eD}{O:ι->dM}{I:ι->Prop}(i:ι)(hw:iH w0 env H (E i) (O i))(hI:I i):∃i,iH w0 env H (E i) (O i)/\I i:=⟨i,hw,hI⟩
theorem aY{x y:Code}{Q:LX->eD->dM->Prop}{ι:Type}(E:ι->eD)(O:ι->dM)(I:ι->Prop)(h1:eW P N w0 X x (XG w0 E O I Q) env H)(h2:∀i,I i->eW P N w0 X y Q (E i) (O i)):eW P N w0 X (.seq x y) Q env H:=by
 refine eW.seq (h1.mono λe env H h=>?_);cases e with
 |normal=>obtain⟨i,hw,hI⟩:=h;exact eI hw (h2 i hI)
 |exit j=>exact h
 |ret=>exact h
end
end
section
open Go.RowKit
section
variable{P:Program} {T:TypeId->fE} {N:Nat} {w0:cX} {X:Nat->Prop} {Q:LX->eD->dM->Prop} {env:eD} {H:dM} {l:List Oper} {id:Nat}
def UE(l:List Oper)(d0:Nat):Bool:=decide ((l.filter λo=>o.dst.getD 0==d0).length<=1)
theorem DS(hT:fP P T)(hW:BS T)(d0:Nat)(e:Bool)(base:Nat->Option kS)(hdet:∀d,uX (base d))(hc:UE l d0=true)
 (h:∀b:Bool,(b=true->e=true)->(eX P T N l (uI d0 base (λb=>.nil e b) b) env H).ok/\Q .normal (eX P T N l (uI d0 base (λb=>.nil e b) b) env H).env (eX P T N l (uI d0 base (λb=>.nil e b) b) env H).H):eW P N w0 X (.region id l.toArray false) Q env H:=
 DK hT hW d0 base (λb=>.nil e b) (λb=>b=true->e=true) hdet (λb hb=>⟨b,hb,rfl⟩) (λb _ r' ⟨j,h1,h2⟩=>⟨j,h1,h2.symm⟩) false aM (of_decide_eq_true hc) h
theorem Nk(hT:fP P T)(hW:BS T)(d0:Nat)(Rel:QE->Prop)(fr:Bool)(r0:QE)(h0:Rel r0/\r0.fresh=fr)(base:Nat->Option kS)(hdet:∀d,uX (base d))(hc:UE l d0=true)
 (h:∀r:QE,Rel r->(eX P T N l (uI d0 base (λr=>.rel Rel fr r) r) env H).ok/\Q .normal (eX P T N l (uI d0 base (λr=>.rel Rel fr r) r) env H).env (eX P T N l (uI d0 base (λr=>.rel Rel fr r) r) env H).H):eW P N w0 X (.region id l.toArray false) Q env H:=
 DK hT hW d0 base (λr=>.rel Rel fr r) (λr=>Rel r/\r.fresh=fr) hdet (λc hc=>⟨c,hc.1,hc.2,rfl⟩) (λc _ r' ⟨j,h1,h2,h3⟩=>⟨j,⟨h1,h2⟩,h3.symm⟩) r0 h0 (of_decide_eq_true hc) λc hc=>h c hc.1
theorem JX(hT:fP P T)(hW:BS T)(d0:Nat)(σ new:List (Nat×Nat))(shut:List Nat)(Rel:List (Nat×bB)->LV->Prop)(f0:List (Nat×bB))(r0:LV)(h0:Rel f0 r0)(base:Nat->Option kS)(hdet:∀d,uX (base d))(hc:UE l d0=true)
 (h:∀(i:List (Nat×bB)×LV),Rel i.1 i.2->(eX P T N l (uI d0 base (λ(i:List (Nat×bB)×LV)=>.genR ⟨σ,new,shut,i.1,i.2⟩ Rel) i) env H).ok/\Q .normal (eX P T N l (uI d0 base (λ(i:List (Nat×bB)×LV)=>.genR ⟨σ,new,shut,i.1,i.2⟩ Rel) i) env H).env (eX P T N l (uI d0 base (λ(i:List (Nat×bB)×LV)=>.genR ⟨σ,new,shut,i.1,i.2⟩ Rel) i) env H).H):
 eW P N w0 X (.region id l.toArray false) Q env H:=
 DK hT hW d0 base (λ(i:List (Nat×bB)×LV)=>.genR ⟨σ,new,shut,i.1,i.2⟩ Rel) (λi=>Rel i.1 i.2) hdet (λc hc=>⟨c.1,c.2,hc,rfl⟩) (λc _ r' ⟨fin,ret,h1,h2⟩=>⟨(fin,ret),h1,h2.symm⟩) (f0,r0) h0 (of_decide_eq_true hc) h
theorem dR.rebox{β:Nat->Option Nat}{w:World}(m:dR w0 X H β w){b:Nat}{fz:Bool}{cs cs':List LV}(hH:H b=.box fz cs)(hl:cs'.length=cs.length)(h:∀(i:Nat) (c c':LV) (v:Value),cs[i]? =some c->cs'[i]? =some c'->R w (Ex X β H) β H c v->R w (Ex X β H) β H c' v):
 dR w0 X (cE H b (.box fz cs')) β w/\eT X H β w (cE H b (.box fz cs')) β w:=by
 have hmut:∀i,(cE H b (.box fz cs') i).mut=(H i).mut:=λi=>by
  by_cases hi:i=b
  ·subst hi;rw[aX,hH];rfl
  ·rw[cG _ _ hi]
 have hlive:∀i,(cE H b (.box fz cs') i).live=(H i).live:=λi=>by
  by_cases hi:i=b
  ·subst hi;rw[aX,hH];rfl
  ·rw[cG _ _ hi]
 have hg:eT X H β w (cE H b (.box fz cs')) β w:=by
  refine⟨Nat.le_refl _,λ_ _ _=>rfl,λk _ he=>?_,λi=>?_⟩
  ·rcases he with he|⟨i,h1,h2⟩
   ·exact .inl he
   ·rw[hmut]at h1;exact .inr ⟨i,h1,h2⟩
  ·by_cases hi:i=b
   ·subst hi;unfold bQ;rw[hH,aX];exact .inr ⟨⟨fz,cs',rfl⟩,rfl⟩
   ·have hp:=bQ.refl (w:=w) (β:=β) (H:=H) i;unfold bQ at*;rw[cG _ _ hi];exact hp
 refine⟨⟨m.ext,m.xold,λi b' h1 h2=>?_,λi j b' h1 h2=>?_,λi=>?_,λi hi=>(m.pin i hi).trans (hg.pass i)⟩,hg⟩
 ·rw[hlive]at h1;rw[hmut];exact m.fresh i b' h1 h2
 ·rw[hlive]at h1 h2;exact m.inj i j b' h1 h2
 ·by_cases hi:i=b
  ·subst hi;have ho:=m.obj i;unfold dO at*;rw[hH]at ho;rw[aX];obtain⟨b',e,us,h1,h2,h3,h4,h5⟩:=ho;refine⟨b',e,us,h1,h2,by rw[hl];exact h3,h4,λj c v hc hv=>?_⟩;have hj:j<cs.length:=by have:=(List.getElem?_eq_some_iff.1 hc).1;omega
   exact hg.R (h j _ c v (List.getElem?_eq_getElem hj) hc (h5 j _ v (List.getElem?_eq_getElem hj) hv))
  ·exact(m.obj i).step hg.size hg.out (λ_ _=>hg.D) (λ_ _=>hg.R) (cG _ _ hi) (λ_=>rfl) λ_ _ _=>rfl
theorem JY{f:FuncId}{fn:Func}{c:Code}{args:List DV}{Rel:QE->Prop}{n:Nat}(hf:P.funcs[f]? =some fn)(hname:(fn.name== "runtime.NumGoroutine")=false)(hb:fn.body=some c)(hn:fn.ntmps=n)(hargs:args.length<=n)
 (h:∀w0 X,w0.pins=[]->eW P n w0 X c (λx env H=>(match x with| .exit _=>False|_=>True)/\∀β a w,mC n w0 X env H β a w->∃v r,Rel r/\(results fn a.tmps).run P w=.ok v w/\Jn w0.w w (λk=>X k\/r.fresh=true/\k<w0.w.heap.size) r.v v) (gY args) (aL [])):
 Zq P f args Rel:=by
 refine⟨⟨fn,hf,hname,by rw[hb];rfl⟩,λw X vs hX hr=>?_⟩;refine tD (β:=λ_=>none) hf hb rfl (h ⟨w,λ_=>none,λ_=>.absent,[],false⟩ X rfl) ?_ ?_
 ·refine⟨FS.nil,?_,⟨rfl,rfl,rfl,Nat.le_refl _,λ_ _ _=>rfl,Nat.le_refl _⟩,⟨λk hk=>⟨hX.1 k hk,by rintro⟨id,hid,_⟩;cases hid⟩,hX.2.anti λk hk=>by rcases hk with hk|⟨id,hid,_⟩;exact hk;cases hid⟩,λid b hl _=>by simp[aL,fI,bB.live]at hl,λi j b hi _=>by simp[aL,fI,bB.live]at hi,λt=>?_,λid=>by unfold dO;trivial,λid hid=>by cases hid⟩
  ·have:=hr.1;simp;omega
  ·rw[qW];cases q:args[t]? with
   |none=>exact .junk _
   |some x=>
    have ht:t<vs.length:=by rw[hr.1];exact(List.getElem?_eq_some_iff.1 q).1
    have hv:(vs.toArray++Array.replicate (fn.ntmps-vs.toArray.size) undef).getD t undef=vs[t]:=by
     simp[Array.getD_eq_getD_getElem?,Array.getElem?_append_left,ht]
    rw[hv];refine .d _ _ ((hr.2 t x _ q (List.getElem?_eq_getElem ht)).anti λk hk=>?_);rcases hk with hk|⟨id,h1,_⟩
    ·exact hk
    ·cases h1
 ·rintro x env H β a' w' ⟨h2,h3⟩ s;obtain⟨v,r,hrel,hv1,hv2⟩:=h3 β a' w' s;have hbel:zN w.heap.size w w':=⟨s.ext.os,s.ext.tape,s.ext.output,s.ext.size,λk hk=>s.ext.block k hk (by rintro⟨id,hid,_⟩;cases hid),s.ext.drawn⟩;exact⟨h2,v,hv1,v,r,hrel,rfl,hbel,hv2⟩
def ZM(t:Nat)(fresh:Bool)(Rel:RV->Prop)(x:LX)(env:eD)(H:dM):Prop:=(match x with| .exit _=>False|_=>True)/\∃r,Rel r/\(∀rs,r≠ .tup rs)/\pU H fresh (env t) r
theorem UF{t:Nat}{fresh:Bool}{Rel:RV->Prop}:ZM t fresh Rel .ret env H↔∃r,Rel r/\(∀rs,r≠ .tup rs)/\pU H fresh (env t) r:=by simp[ZM]
theorem Zq.ret{f:FuncId}{fn:Func}{c:Code}{args:List DV}{Rel:RV->Prop}{fresh:Bool}{n t:Nat}(hf:P.funcs[f]? =some fn)(hname:(fn.name== "runtime.NumGoroutine")=false)(hb:fn.body=some c)(hn:fn.ntmps=n)(hargs:args.length<=n)(hres:fn.results= #[.tmp t])
 (h:∀w0 X,w0.pins=[]->eW P n w0 X c (ZM t fresh Rel) (gY args) (aL [])):Zq P f args (λr=>Rel r.v/\r.fresh=fresh):=by
 refine JY hf hname hb hn hargs λw0 X hpn=>(h w0 X hpn).mono λx env H ⟨h1,r,h2,h3,h4⟩=>⟨h1,λβ a w s=>⟨a.tmps.getD t undef,⟨r,fresh⟩,⟨h2,rfl⟩,results_tmp hres _ _ _,?_⟩⟩;obtain⟨B,hB⟩:=wV hpn s (s.env t) h4;cases q:r with
 |tup rs=>exact absurd q (h3 rs)
 |d x=>rw[q]at hB;exact⟨B,hB⟩
 |own sz xs=>rw[q]at hB;exact⟨B,hB⟩
end
end
section
section
variable{P:Program} {N:Nat} {w0:cX} {X:Nat->Prop} {Q:LX->eD->dM->Prop} {env:eD} {H:dM} {c:Code}
theorem eW.label{l:Nat}(h:Q .normal env H):eW P N w0 X (.label l) Q env H:=λ_ _ β _ _ s=>wpIn_label ⟨.normal,env,H,β,trivial,s,h⟩
theorem eW.scope(h:eW P N w0 X c Q env H):eW P N w0 X (.scope c) Q env H:=λr hr β a w s=>by
 obtain⟨hn,hf⟩:=hr.resolve_right (by simp[mY]);subst hn;refine wpIn_wide.2 (wp_scope_straight (wp_mono (wpIn_wide.1 (h none (.inl ⟨rfl,hf⟩) β a w s)) λe a' w' k=>by
 obtain⟨lx,env',H',β',h1,h2,h3⟩:=k;cases e with
 |goto l=>cases lx<;>exact h1.elim
 |_=>exact⟨lx,env',H',β',h1,h2,h3⟩))
end
end
end Go.Eng
