/- Part 12 of the proof. No condition. -/
import Derived.Test.YtepoffhhiddlkaaGreatDoorMK
import Derived.Test.YtepoffhhiddlkaaGreatDoorRows
import Derived.ChangeSame
import Derived.Lib.LaidTab
open Go.Proofs
open Go.Proofs.Tryz
set_option linter.unusedVariables false
set_option linter.unusedSimpArgs false
set_option maxRecDepth 20000
set_option maxHeartbeats 4000000
open List renaming getD_eq_getElem?_getD→A0,length_append→A1,getElem?_eq_getElem→A2,length_cons→A3,range→A4,take_of_length_le→A5,mem_append→A7,mem_of_getElem?→A8,mem_map→A9,length_nil→B0,getElem?_map→B1,mem_cons→B2,mem_append_left→B3,all_eq_true→B4,mem_cons_self→B5,mem_cons_of_mem→B6,mem_range→B7,eq_nil_of_length_eq_zero→B8,getElem_mem→C0,length_take→C1,mem_singleton→C2,take_succ_eq_append_getElem→C4,eraseIdx_eq_take_drop_succ→C5,getElem_map→C6,length_drop→C8,length_map→C9,length_set→D0,map→D1,not_mem_nil→D2,take→D3,getElem?_eq_some_iff→D4,pairwise_iff_getElem→D5,length_pos_iff→D6,map_append→D7,map_cons→D9,foldl_cons→E0,getElem_of_mem→E1,getElem?_append_left→E5,mem_of_find?_eq_some→E6,getElem?_zip_eq_some→E7,nodup_append→E9,filter_cons_of_pos→F0,filter_cons_of_neg→F1,take_length→F2,length_eraseIdx_le→F3,map_map→F5,mem_filter→F6,mem_append_right→F7,mergeSort_perm→F8,map_take→F9,find?_eq_none→G0,append_assoc→G2,flatten_cons→G3,prefix_refl→G4,find?_cons→G6,range_succ→G7,nodup_cons→G8,replicate→H1,drop_zero→H2,drop_drop→H3,drop→H6,not_lt→I0
open Nat renaming zero_le→B9,le_refl→D8,le_trans→F4,succ_mul→G1,mod_eq_of_lt→G5,mod_lt→H0,lt_irrefl→H5
open Int renaming toNat_natCast→C3
open Array renaming getElem?_eq_some_iff→E3
open Bool renaming and_eq_true→C7,eq_false_iff→E8,toNat_le→H4
open Classical renaming byContradiction→E4
open UInt8 renaming ofNat→A6,toNat_ofNat'→E2,toNat_inj→G9,toNat→H9
open Prod renaming fst→H7
namespace Go.Eng
def AR(l:List Df)(c:Bool)(nm s:bA):Prop:=0<=uZ l nm/\∃u∈bZ (tAt l nm),cbR c u.bk=true/\u.name=s
structure aEU(l:List Df)(c:Bool)(name:bA)(n:Nat)(st:List bA×List bA):Prop where
 reach:∀s∈st.1,RchG (AR l c) name s
 todo:∀s,s∈st.2↔s=name\/s∈st.1
 done:∀j,j<n->∀nm,st.2[j]? =some nm->∀s,AR l c nm s->s∈st.1
theorem VK{c:Bool}{st:List bA×List bA}{u:dF}:(∀s∈st.1,s∈(bfsS c st u).1)/\st.2<+:(bfsS c st u).2/\(∀s∈(bfsS c st u).1,s∈st.1\/(cbR c u.bk=true/\s=u.name))/\(cbR c u.bk=true->u.name∈(bfsS c st u).1)/\∀s,s∈(bfsS c st u).2↔s∈st.2\/(s∈(bfsS c st u).1/\s∉st.1):=by
 unfold bfsS;split
 .rename_i h;refine⟨λs a=>mem_putS.2 (.inr a),List.prefix_append _ _,λs a=>?_,λ_=>mem_putS.2 (.inl rfl),λs=>?_⟩
  .rcases mem_putS.1 a with e|a
   .exact .inr ⟨h.1,e⟩
   .exact .inl a
  .constructor
   .intro a;rcases A7.1 a with a|a
    .exact .inl a
    .simp at a;subst a;exact .inr ⟨mem_putS.2 (.inl rfl),h.2⟩
   .rintro(a|⟨a,b⟩)
    .exact B3 _ a
    .rcases mem_putS.1 a with e|a
     .subst e;simp
     .exact absurd a b
 .rename_i h;refine⟨λs a=>a,G4 _,λs a=>.inl a,λd=>?_,λs=>?_⟩
  .exact E4 λb=>h ⟨d,b⟩
  .constructor
   .exact λa=>.inl a
   .rintro(a|⟨a,b⟩)
    .exact a
    .exact absurd a b
theorem NB{U:List bA}{c:Bool}:∀(a:List dF) (st:List bA×List bA),(∀u∈a,u.name∈U)->BfsJ U st->
 (∀s∈st.1,s∈(a.foldl (bfsS c) st).1)/\st.2<+:(a.foldl (bfsS c) st).2/\(∀s∈(a.foldl (bfsS c) st).1,s∈st.1\/∃u∈a,cbR c u.bk=true/\u.name=s)/\(∀u∈a,cbR c u.bk=true->u.name∈(a.foldl (bfsS c) st).1)/\
   (∀s,s∈(a.foldl (bfsS c) st).2↔s∈st.2\/(s∈(a.foldl (bfsS c) st).1/\s∉st.1))/\BfsJ U (a.foldl (bfsS c) st)/\muS U (a.foldl (bfsS c) st).1+(a.foldl (bfsS c) st).2.length<=muS U st.1+st.2.length
 |[],st,_,hJ=>⟨λs b=>b,G4 _,λs b=>.inl b,bC,λs=>⟨.inl,λh=>h.elim id λh=>absurd h.1 h.2⟩,hJ,D8 _⟩
 |u::r,st,hU,hJ=>by
  obtain⟨i,k,l,m,n⟩:=VK (c:=c) (st:=st) (u:=u);obtain⟨o,p⟩:=bfsS_J (c:=c) (hU u (B5 ..)) hJ;obtain⟨g,q,t,w,x,y,z⟩:=NB (c:=c) r (bfsS c st u) (λv d=>hU v (B6 _ d)) o;rw[E0];refine⟨λs b=>g s (i s b),k.trans q,λs b=>?_,λv d f=>?_,λs=>?_,y,F4 z p⟩
  .rcases t s b with h|⟨v,d,f,e⟩
   .rcases l s h with h|⟨f,e⟩
    .exact .inl h
    .exact .inr ⟨u,B5 ..,f,e.symm⟩
   .exact .inr ⟨v,B6 _ d,f,e⟩
  .rcases B2.1 d with rfl|d
   .exact g _ (m f)
   .exact w v d f
  .rw[x,n];constructor
   .rintro((h|⟨h1,h2⟩)|⟨h1,h2⟩)
    .exact .inl h
    .exact .inr ⟨g s h1,h2⟩
    .exact .inr ⟨h1,λh=>h2 (i s h)⟩
   .rintro(h|⟨h1,h2⟩)
    .exact .inl (.inl h)
    .by_cases j:s∈(bfsS c st u).1
     .exact .inl (.inr ⟨j,h2⟩)
     .exact .inr ⟨h1,j⟩
theorem Ha{l:List Df}{c:Bool}{d:bA}:∀(f n:Nat) (a:List bA×List bA),muS (allU l) a.1+a.2.length<f+n->n<=a.2.length->BfsJ (allU l) a->aEU l c d n a->∀s,s∈bfsF l c f n a↔RchG (AR l c) d s
 |0,n,a,h,hn,_,_=>aE
 |f+1,n,a,h,hn,hJ,hI=>by
  intro s;rw[bfsF];cases q:a.2[n]? with
  |none=>
   have E:a.2.length<=n:=List.getElem?_eq_none_iff.1 q;simp only;constructor
   .exact hI.reach s
   .have o:∀g,(g=d\/g∈a.1)->∀s,AR l c g s->s∈a.1:=λg K s i=>by
     obtain⟨j,w,e⟩:=E1 ((hI.todo g).2 K);exact hI.done j aE g (by rw[A2 w,e]) s i
    intro M;induction M with
    |one i=>exact o d (.inl rfl) _ i
    |more _ i ih=>exact o _ (.inr ih) _ i
  |some g=>
   simp only;have z:n<a.2.length:=(D4.1 q).1;have m:=(hI.todo g).1 (A8 q);unfold bfsN;by_cases F:uZ l g<0
   .rw[if_pos F];refine Ha f (n+1) a aE aE hJ ⟨hI.reach,hI.todo,λj w k b s i=>?_⟩ s;by_cases e:j=n
    .subst e;rw[q]at b;injection b with e;subst e;exact absurd i.1 aE
    .exact hI.done j aE k b s i
   .rw[if_neg F];obtain⟨C,r,G,H,I,J,N⟩:=NB (U:=allU l) (c:=c) (bZ (tAt l g)) a (uses_allU aE) hJ;have L:=r.length_le;refine Ha f (n+1) _ aE aE J ⟨λs i=>?_,λs=>?_,λj w k b s i=>?_⟩ s
    .rcases G s i with h|⟨u,B,v,e⟩
     .exact hI.reach s h
     .have p:AR l c g s:=⟨aE,u,B,v,e⟩;rcases m with rfl|m
      .exact .one p
      .exact .more (hI.reach g m) p
    .rw[I,hI.todo];constructor
     .rintro((h|h)|h)
      .exact .inl h
      .exact .inr (C s h)
      .exact .inr h.1
     .rintro(h|h)
      .exact .inl (.inl h)
      .by_cases D:s∈a.1
       .exact .inl (.inr D)
       .exact .inr ⟨h,D⟩
    .by_cases e:j=n
     .subst e;have x:(List.foldl (bfsS c) a (bZ (tAt l g))).2[j]? =some g:=by
       obtain⟨t,A⟩:=r;rw[<-A,E5 z];exact q
      rw[x]at b;injection b with e;subst e
      obtain⟨_,u,B,v,e⟩:=i;rw[<-e];exact H u B v
     .have y:a.2[j]? =some k:=by
       obtain⟨t,A⟩:=r;rw[<-A,E5 aE]at b;exact b
      exact C s (hI.done j aE k y s i)
theorem Hb(l:List Df)(c:Bool)(a s:bA):s∈reachR l a c↔RchG (AR l c) a s:=by
 refine Ha ((allU l).length+2) 0 ([],[a]) (by rw[muS_nil];simp) (B9 _) ⟨by simp[muS_nil],rfl⟩ ⟨bC,bC,λj h=>absurd h (Nat.not_lt_zero _)⟩ s
section
theorem CE{p q:Nat->Bool}{n:Nat}(h:∀i<n,p i=q i):eV p n=eV q n:=by
 unfold eV;have:∀l:List Nat,(∀i∈l,p i=q i)->l.find? p=l.find? q:=λl=>by
  induction l with
  |nil=>intro _;rfl
  |cons a r ih=>
   intro c;rw[G6,G6,c a (B5 ..),ih λi b=>c i (B6 _ b)]
 exact this _ λi b=>h i (B7.1 b)
theorem CF{l:List Df}(h:(l.map treeD).map Nd.text=l.map Df.name){c:bA}{k:Nat}(a:pX (l.map treeD) c=some k):∃b:k<l.length,l[k].name=c:=by
 rw[atN_find h]at a;obtain⟨b,d,_⟩:=List.findIdx?_eq_some_iff_getElem.1 a;exact⟨b,by simpa using d⟩
theorem NC{l:List Df}(c:(l.map Df.name).Nodup){i j:Nat}(a:i<l.length)(b:j<l.length)(e:l[i].name=l[j].name):i=j:=by
 have:=D5.1 c;rcases Nat.lt_trichotomy i j with h|h|h
 .exact absurd (by rw[C6,C6];exact e) (this i j (by simpa using a) (by simpa using b) h)
 .exact h
 .exact absurd (by rw[C6,C6];exact e.symm) (this j i (by simpa using b) (by simpa using a) h)
theorem KR{l:List Df}(h:(l.map treeD).map Nd.text=l.map Df.name)(c:(l.map Df.name).Nodup){i:Nat}(a:i<l.length):pX (l.map treeD) l[i].name=some i:=by
 cases q:pX (l.map treeD) l[i].name with
 |none=>
  rw[atN_find h,List.findIdx?_eq_none_iff]at q;have:=q l[i] (C0 a);simp at this
 |some j=>
  obtain⟨b,e⟩:=CF h q;rw[NC c b a e]
theorem ND(k:Int):cbR true k=GP k:=by simp[cbR,GP]
section
variable{l:List Df} (h:(l.map treeD).map Nd.text=l.map Df.name) (hn:(l.map Df.name).Nodup) (hq:∀i<l.length,q2 l i=false)
include h hn hq
omit hq in
theorem SS{b:Int->Bool}{c:Bool}(g:∀k,cbR c k=b k){i k:Nat}(m:i<l.length)(n:StepI (l.map treeD) b i k):∃d:k<l.length,AR l c l[i].name l[k].name:=by
 obtain⟨u,o,j,d⟩:=n;obtain⟨a,e⟩:=CF h d;have f:=KR h hn m;refine⟨a,?_,u,?_,by rw[g];exact j,e.symm⟩
 .rw[idxN_at h,f];simp[xA]
 .rw[tAt_at h f];exact o
theorem Jm{b:Int->Bool}{c:Bool}(r:∀k,cbR c k=b k){i:Nat}{s:bA}(g:i<l.length)(w:AR l c l[i].name s):∃k,∃o:k<l.length,s=l[k].name/\StepI (l.map treeD) b i k:=by
 obtain⟨_,u,j,f,e⟩:=w;have v:=KR h hn g;rw[tAt_at h v]at j;have m:=hq i g;have t:(l.map treeD).getD i default=treeD (l.getD i default):=by
  rw[A0,A0,B1,A2 g];rfl
 have a:secondE l (bZ (treeD (l.getD i default)))=0:=E4 λf=>by unfold q2 at m;exact absurd (decide_eq_true f) (by unfold treeD;rw[m];simp)
 rw[<-t]at a;have n:(bZ ((l.map treeD).getD i default)).any (p1 l)=false:=by
  rw[E8];intro q;unfold secondE at a;rw[if_pos q]at a;cases a
 have d:p1 l u=false:=by
  rw[List.any_eq_false]at n;simpa using n u j
 unfold p1 at d;rw[idxN_at h]at d;cases q:pX (l.map treeD) u.name with
 |none=>rw[q]at d;simp[xA]at d
 |some k=>
  obtain⟨o,p⟩:=CF h q;exact⟨k,o,by rw[<-e,p],u,j,by rw[<-r];exact f,q⟩
omit hq in
theorem NE{b:Int->Bool}{c:Bool}(f:∀k,cbR c k=b k){i k:Nat}(g:i<l.length)(m:RchG (StepI (l.map treeD) b) i k):∃d:k<l.length,RchG (AR l c) l[i].name l[k].name:=by
 induction m with
 |one hs=>obtain⟨d,a⟩:=SS h hn f g hs;exact⟨d,.one a⟩
 |more _ hs ih=>
  obtain⟨j,e⟩:=ih;obtain⟨d,a⟩:=SS h hn f j hs;exact⟨d,.more e a⟩
theorem Hc{b:Int->Bool}{c:Bool}(g:∀k,cbR c k=b k){i:Nat}{s:bA}(m:i<l.length)(o:RchG (AR l c) l[i].name s):∃k,∃d:k<l.length,s=l[k].name/\RchG (StepI (l.map treeD) b) i k:=by
 induction o with
 |one hs=>obtain⟨k,d,e,a⟩:=Jm h hn hq g m hs;exact⟨k,d,e,.one a⟩
 |more _ hs ih=>
  obtain⟨j,n,rfl,f⟩:=ih;obtain⟨k,d,e,a⟩:=Jm h hn hq g n hs;exact⟨k,d,e,.more f a⟩
theorem aDu{i:Nat}(b:i<l.length):KH (l.map treeD) i=q3 l i:=by
 have d:l.getD i default=l[i]:=by rw[A0,A2 b];rfl
 unfold KH q3;rw[d,decide_eq_decide,reachI_iff,Hb];constructor
 .intro c;obtain⟨_,a⟩:=NE h hn ND b c;exact a
 .intro c;obtain⟨k,f,e,a⟩:=Hc h hn hq ND b c;rw[<-NC hn b f e]at a;exact a
end
theorem Qp(l:List Df):(nS l).2=chkR l:=by
 unfold nS chkR;by_cases b:24<l.length
 .have:dR l=([],0,4):=by unfold dR;rw[if_pos b]
  rw[if_pos b,this];rfl
 .rw[if_neg b];have c:=readP_first (l:=l) aE;unfold chkR1;cases q:eV (q1 l) l.length with
  |some k=>
   rw[q]at c;obtain⟨j,m⟩:=c;simp only;rw[if_pos m,j]
  |none=>
   rw[q]at c;simp only at c|-;have h:(dR l).2.2=0:=by rw[c]
   obtain⟨a,g⟩:=readP_names h;rw[c]at a;simp only at a;rw[if_neg (by rw[h];simp),c];simp only[C9];have n:∀i<l.length,KG (l.map treeD) i=q2 l i:=λi d=>by
    have f:(l.map treeD).getD i default=treeD (l.getD i default):=by
     rw[A0,A0,B1,A2 d];rfl
    unfold KG q2;rw[mis_second a,f];rfl
   rw[CE n];unfold chkR2;cases e:eV (q2 l) l.length with
   |some i=>
    simp only;have d:i<l.length:=by
     unfold eV at e;exact B7.1 (E6 e)
    have f:(l.map treeD).getD i default=treeD (l.getD i default):=by
     rw[A0,A0,B1,A2 d];rfl
    rw[mis_second a,f];rfl
   |none=>
    simp only;have o:∀i<l.length,q2 l i=false:=λi d=>by
     unfold eV at e;rw[G0]at e;simpa using e i (B7.2 d)
    rw[CE λi d=>aDu a g o d];unfold chkR3;cases eV (q3 l) l.length<;>rfl
end
def NF(d:Df):Prop:=(parseS d.text).2.2=0/\(treeD d).text=d.name/\(cQ (treeD d)).Nodup
def ST(ts:List (bA×Nd×Int×Int))(sh:Bool)(u:dF):Bool:=
 (sh&&decide (u.name=sharedD.name)&&decide (u.kind=0)&&decide (u.bk≠14))||
   ts.any λp=>decide (p.1=u.name)&&decide (p.2.1.kind=u.kind)&&(decide (u.kind≠1)||decide (u.field∈cQ p.2.1))&&(decide (u.bk≠14)||(bZ p.2.1).all λv=>decide (v.bk≠14))
def ZT(c:UInt8)(sh:Bool)(ts:List (bA×Nd×Int×Int)):Bool:=
 decide (ts.length<=6)&&decide ((ts.map H7).Nodup)&&ts.all (λp=>decide (p.1.getLast?=some c)&&decide (p.2.2.2=0)&&decide (p.2.1.text=p.1)&&decide ((cQ p.2.1).Nodup)&&(bZ p.2.1).all (ST ts sh))
def jI(c:UInt8)(sh:Bool)(l:List Df):Bool:=ZT c sh (l.map λd=>(d.name,parseS d.text))
structure Qq(c:UInt8)(sh:Bool)(l:List Df):Prop where
 len:l.length<=6
 names:(l.map Df.name).Nodup
 last:∀d∈l,d.name.getLast?=some c
 fine:∀d∈l,NF d
 uses:∀d∈l,∀u∈bZ (treeD d),(sh=true/\u.name=sharedD.name/\u.kind=0/\u.bk≠14)\/
  ∃e∈l,e.name=u.name/\(treeD e).kind=u.kind/\(u.kind=1->u.field∈cQ (treeD e))/\(u.bk=14->∀v∈bZ (treeD e),v.bk≠14)
theorem ZU{c:UInt8}{n:Bool}{l:List Df}(h:jI c n l=true):Qq c n l:=by
 unfold jI ZT at h;simp only[C7,decide_eq_true_eq,C9,F5,B4,A9,forall_exists_index,and_imp,forall_apply_eq_imp_iff₂]at h;obtain⟨⟨o,q⟩,j⟩:=h;refine⟨o,q,λd i=>(j d i).1.1.1.1,λd i=>⟨(j d i).1.1.1.2,(j d i).1.1.2,(j d i).1.2⟩,λd i u s=>?_⟩;have g:=(j d i).2 u s;unfold ST at g;simp only[Bool.or_eq_true,C7,decide_eq_true_eq,List.any_eq_true,A9,B4]at g;rcases g with g|⟨p,⟨e,r,rfl⟩,⟨⟨⟨a,b⟩,c⟩,f⟩⟩
 .exact .inl ⟨g.1.1.1,g.1.1.2,g.1.2,g.2⟩
 .refine .inr ⟨e,r,a,b,λm=>c.resolve_left λk=>k m,λm v t=>?_⟩;exact(f.resolve_left λk=>k m) v t
set_option maxRecDepth 100000 in
theorem aBU:((A4 3).all λi=>(A4 8).all λv=>jI (A6 (48+i)) false (patL 0 i v))=true:=jQ
set_option maxRecDepth 100000 in
theorem aBV:((A4 3).all λi=>(A4 8).all λv=>jI (A6 (48+i)) false (patL 1 i v))=true:=jQ
set_option maxRecDepth 100000 in
theorem aBW:((A4 3).all λi=>(A4 4).all λv=>jI (A6 (48+i)) false (patL 2 i v))=true:=jQ
set_option maxRecDepth 100000 in
theorem aBX:((A4 3).all λi=>(A4 2).all λv=>jI (A6 (48+i)) false (patL 3 i v))=true:=jQ
set_option maxRecDepth 100000 in
theorem aBY:((A4 3).all λi=>(A4 2).all λv=>jI (A6 (48+i)) false (patL 4 i v))=true:=jQ
set_option maxRecDepth 100000 in
theorem aBZ:((A4 3).all λi=>(A4 4).all λv=>jI (A6 (48+i)) false (patL 5 i v))=true:=jQ
set_option maxRecDepth 100000 in
theorem aB0:((A4 3).all λi=>(A4 3).all λv=>jI (A6 (48+i)) false (patL 6 i v))=true:=jQ
set_option maxRecDepth 100000 in
theorem aB1:((A4 3).all λi=>(A4 3).all λv=>jI (A6 (48+i)) false (patL 7 i v))=true:=jQ
set_option maxRecDepth 100000 in
theorem aB2:((A4 3).all λi=>(A4 2).all λv=>jI (A6 (48+i)) false (patL 8 i v))=true:=jQ
set_option maxRecDepth 100000 in
theorem aB3:((A4 3).all λi=>(A4 2).all λv=>jI (A6 (48+i)) true (patL 9 i v))=true:=jQ
set_option maxRecDepth 100000 in
theorem ZV:((A4 3).all λi=>(A4 3).all λv=>jI (A6 (48+i)) false (patL 10 i v))=true:=jQ
set_option maxRecDepth 100000 in
theorem ZW:((A4 3).all λi=>(A4 3).all λv=>jI (A6 (48+i)) false (patL 11 i v))=true:=jQ
set_option maxRecDepth 100000 in
theorem ZX:((A4 3).all λi=>(A4 3).all λv=>jI (A6 (48+i)) false (patL 12 i v))=true:=jQ
set_option maxRecDepth 100000 in
theorem ZY:((A4 3).all λi=>(A4 18).all λv=>jI (A6 (48+i)) false (patL 13 i v))=true:=jQ
theorem Qr(v:Nat):rowsP (v%8) 0=rowsP v 0:=by
 simp only[rowsP,twoS,orderS,rowS,fiveS,eightS,nineS,lastS,show v%8%2=v%2 by omega,show v%8 / 2%4=v / 2%4 by omega]
theorem Qs(v:Nat):rowsP (v%8) 1=rowsP v 1:=by
 simp only[rowsP,twoS,orderS,rowS,fiveS,eightS,nineS,lastS,show v%8%2=v%2 by omega,show v%8 / 2%4=v / 2%4 by omega]
theorem Qt(v:Nat):rowsP (v%4) 2=rowsP v 2:=by
 simp only[rowsP,twoS,orderS,rowS,fiveS,eightS,nineS,lastS,show v%4%2=v%2 by omega,show v%4 / 2%2=v / 2%2 by omega]
theorem Qu(v:Nat):rowsP (v%2) 3=rowsP v 3:=by
 simp only[rowsP,twoS,orderS,rowS,fiveS,eightS,nineS,lastS,show v%2%2=v%2 by omega]
theorem Qv(v:Nat):rowsP (v%2) 4=rowsP v 4:=by
 simp only[rowsP,twoS,orderS,rowS,fiveS,eightS,nineS,lastS,show v%2%2=v%2 by omega]
theorem Qw(v:Nat):rowsP (v%4) 5=rowsP v 5:=by
 simp only[rowsP,twoS,orderS,rowS,fiveS,eightS,nineS,lastS,show v%4%2=v%2 by omega,show v%4 / 2%2=v / 2%2 by omega]
theorem Qx(v:Nat):rowsP (v%3) 6=rowsP v 6:=by
 simp only[rowsP,twoS,orderS,rowS,fiveS,eightS,nineS,lastS,show v%3%3=v%3 by omega]
theorem Qy(v:Nat):rowsP (v%3) 7=rowsP v 7:=by
 simp only[rowsP,twoS,orderS,rowS,fiveS,eightS,nineS,lastS,show v%3%3=v%3 by omega]
theorem Qz(v:Nat):rowsP (v%2) 8=rowsP v 8:=by
 simp only[rowsP,twoS,orderS,rowS,fiveS,eightS,nineS,lastS,show v%2%2=v%2 by omega]
theorem QA(v:Nat):rowsP (v%2) 9=rowsP v 9:=by
 simp only[rowsP,twoS,orderS,rowS,fiveS,eightS,nineS,lastS,show v%2%2=v%2 by omega]
theorem NG(v:Nat):rowsP (v%3) 10=rowsP v 10:=by
 simp only[rowsP,twoS,orderS,rowS,fiveS,eightS,nineS,lastS,show v%3%3=v%3 by omega]
theorem NH(v:Nat):rowsP (v%3) 11=rowsP v 11:=by
 simp only[rowsP,twoS,orderS,rowS,fiveS,eightS,nineS,lastS,show v%3%3=v%3 by omega]
theorem NI(v:Nat):rowsP (v%3) 12=rowsP v 12:=by
 simp only[rowsP,twoS,orderS,rowS,fiveS,eightS,nineS,lastS,show v%3%3=v%3 by omega]
theorem NJ(v:Nat):rowsP (v%18) 13=rowsP v 13:=by
 simp only[rowsP,twoS,orderS,rowS,fiveS,eightS,nineS,lastS,show v%18%9=v%9 by omega,show v%18 / 9%2=v / 9%2 by omega]
theorem NK{k i v:Nat}(e:k<14)(d:i<3):Qq (A6 (48+i)) (decide (k=9)) (patL k i v):=by
 refine ZU ?_;have a:∀(m:Nat) (b:Bool),0<m->rowsP (v%m) k=rowsP v k->((A4 3).all λi=>(A4 m).all λv=>jI (A6 (48+i)) b (patL k i v))=true->jI (A6 (48+i)) b (patL k i v)=true:=by
  intro m b f c h;have:=B4.1 (B4.1 h i (B7.2 d)) (v%m) (B7.2 (H0 _ f));unfold patL at this|-;rw[c]at this;exact this
 match k,e with
 |0,_=>exact a 8 false bF (Qr v) aBU
 |1,_=>exact a 8 false bF (Qs v) aBV
 |2,_=>exact a 4 false bF (Qt v) aBW
 |3,_=>exact a 2 false bF (Qu v) aBX
 |4,_=>exact a 2 false bF (Qv v) aBY
 |5,_=>exact a 4 false bF (Qw v) aBZ
 |6,_=>exact a 3 false bF (Qx v) aB0
 |7,_=>exact a 3 false bF (Qy v) aB1
 |8,_=>exact a 2 false bF (Qz v) aB2
 |9,_=>exact a 2 true bF (QA v) aB3
 |10,_=>exact a 3 false bF (NG v) ZV
 |11,_=>exact a 3 false bF (NH v) ZW
 |12,_=>exact a 3 false bF (NI v) ZX
 |13,_=>exact a 18 false bF (NJ v) ZY
structure aDv(k:Nat)(st:List Df×Bool):Prop where
 len:st.1.length<=6*k+st.2.toNat
 names:(st.1.map Df.name).Nodup
 last:∀d∈st.1,(d=sharedD/\st.2=true)\/∃j<k,d.name.getLast?=some (A6 (48+j))
 shared:st.2=true->sharedD∈st.1
 fine:∀d∈st.1,NF d
 uses:∀d∈st.1,∀u∈bZ (treeD d),∃e∈st.1,e.name=u.name/\(treeD e).kind=u.kind/\(u.kind=1->u.field∈cQ (treeD e))/\(u.bk=14->∀v∈bZ (treeD e),v.bk≠14)
theorem NL:NF sharedD:=by unfold NF;decide
theorem NM:bZ (treeD sharedD)=[]:=bF
theorem Ep:(treeD sharedD).kind=0:=bF
theorem Eq:sharedD.name.getLast?=some 100:=bF
theorem VL{a b:Nat}(c:a<3)(d:b<3)(h:A6 (48+a)=A6 (48+b)):a=b:=by
 have:=congrArg H9 h;rw[E2,E2]at this;omega
theorem SU{a:Nat}(c:a<3):(100:UInt8)≠A6 (48+a):=by
 intro h;have:=congrArg H9 h;rw[E2]at this;have b:(100:UInt8).toNat=100:=rfl;omega
theorem aDv.add{k:Nat}{g:List Df×Bool}{p:List Df}{G:Bool}(i:k<3)(h:aDv k g)(t:Qq (A6 (48+k)) G p):
 aDv (k+1) (if G=true/\g.2=false then(g.1++p++[sharedD],true)else(g.1++p,g.2)):=by
 have F:((g.1++p).map Df.name).Nodup:=by
  rw[D7,E9];refine⟨h.names,t.names,?_⟩;intro a A b o e;subst e;obtain⟨d,c,rfl⟩:=A9.1 A;obtain⟨H,B,y⟩:=A9.1 o;have m:=t.last H B;rw[y]at m;rcases h.last d c with⟨rfl,_⟩|⟨j,E,w⟩
  .rw[Eq]at m;injection m with m
   exact SU i m
  .rw[w]at m;injection m with m
   have:=VL aE i m;omega
 have D:∀d∈g.1++p,NF d:=λd c=>(A7.1 c).elim (h.fine d) (t.fine d);have C:∀d∈g.1++p,(d=sharedD/\g.2=true)\/∃j<k+1,d.name.getLast?=some (A6 (48+j)):=λd c=>by
  rcases A7.1 c with c|c
  .rcases h.last d c with l|⟨j,E,l⟩
   .exact .inl l
   .exact .inr ⟨j,aE,l⟩
  .exact .inr ⟨k,aE,t.last d c⟩
 have f:(g.1++p).length<=6*(k+1)+g.2.toNat:=by
  have:=h.len;have:=t.len;rw[A1];omega
 split
 .rename_i x;refine⟨?_,?_,λd c=>?_,λ_=>bC,λd c=>?_,λd c u v=>?_⟩
  .simp only[A1,A3,B0,Bool.toNat_true]at f|-;rw[x.2]at f;simp at f;omega
  .rw[D7,E9];refine⟨F,bC,?_⟩;intro a A b o e;simp at o;subst o;obtain⟨d,c,y⟩:=A9.1 A;rcases C d c with⟨_,n⟩|⟨j,E,w⟩
   .rw[x.2]at n;cases n
   .rw[y,e,Eq]at w;injection w with w
    exact SU aE w
  .rcases A7.1 c with c|c
   .rcases C d c with⟨l,_⟩|l
    .exact .inl ⟨l,rfl⟩
    .exact .inr l
   .simp at c;exact .inl ⟨c,rfl⟩
  .rcases A7.1 c with c|c
   .exact D d c
   .simp at c;subst c;exact NL
  .have J:sharedD∈g.1++p++[sharedD]:=bC;rcases A7.1 c with c|c
   .rcases A7.1 c with c|c
    .obtain⟨e,s,r⟩:=h.uses d c u v;exact⟨e,B3 _ (B3 _ s),r⟩
    .rcases t.uses d c u v with⟨_,l,n,z⟩|⟨e,s,r⟩
     .exact⟨sharedD,J,l.symm,by rw[Ep,n],(λi=>by rw[n]at i;cases i),λi=>absurd i z⟩
     .exact⟨e,B3 _ (F7 _ s),r⟩
   .simp at c;subst c;rw[NM]at v;cases v
 .rename_i x;refine⟨f,F,C,λo=>B3 _ (h.shared o),D,λd c u v=>?_⟩;rcases A7.1 c with c|c
  .obtain⟨e,s,r⟩:=h.uses d c u v;exact⟨e,B3 _ s,r⟩
  .rcases t.uses d c u v with⟨I,l,n,z⟩|⟨e,s,r⟩
   .have o:g.2=true:=by
     cases q:g.2 with
     |true=>rfl
     |false=>exact absurd ⟨I,q⟩ x
    exact⟨sharedD,B3 _ (h.shared o),l.symm,by rw[Ep,n],(λi=>by rw[n]at i;cases i),λi=>absurd i z⟩
   .exact⟨e,F7 _ s,r⟩
theorem aB4(l:List Int)(a:List Df×Bool)(i:Nat):prgS l a i=(if decide ((eA l (1+i) 4096).toNat%14=9)=true/\a.2=false then(a.1++patL ((eA l (1+i) 4096).toNat%14) i ((eA l (1+i) 4096).toNat / 14)++[sharedD],true)else(a.1++patL ((eA l (1+i) 4096).toNat%14) i ((eA l (1+i) 4096).toNat / 14),a.2)):=by
 unfold prgS;simp only[decide_eq_true_eq]
theorem Dv(l:List Int)(k:Nat):prgO l (k+1)=prgS l (prgO l k) k:=by
 unfold prgO;rw[G7,List.foldl_append];rfl
theorem Hd(l:List Int):∀k,k<=3->aDv k (prgO l k)
 |0,_=>⟨B9 _,.nil,by simp[prgO],by simp[prgO],by simp[prgO],by simp[prgO]⟩
 |k+1,h=>by
  rw[Dv,aB4];exact(Hd l k aE).add aE (NK (H0 _ bF) aE)
theorem KT(l:List Int)(i m:Int)(a:0<m):0<=eA l i m/\eA l i m<m:=by
 unfold eA;split
 .exact⟨Int.le_refl _,a⟩
 .exact dP _ _ a
theorem KU(l:List Int):prgN l<=3:=by
 have:=KT l 0 3 bF;unfold prgN;omega
theorem NN(l:List Int):(prgO l (prgN l)).1.length<=19:=by
 have h:=Hd l _ (KU l);have a:=KU l;have b:(prgO l (prgN l)).2.toNat<=1:=H4 _;have:=h.len;omega
theorem ZZ{n:Nat}{b:Int}{i:Nat}(a:i<n):turnI n b i<n:=by
 unfold turnI;have c:(i+(bS b (n:Int)).toNat)%n<n:=H0 _ aE;simp only;split<;>omega
theorem SV{x n:Nat}(h:x<2*n):x%n=if x<n then x else x-n:=by
 split
 .exact G5 ‹_›
 .rw[Nat.mod_eq_sub_mod aE,G5 aE]
theorem VM{n:Nat}{b:Int}{i j:Nat}(f:i<n)(g:j<n)(h:turnI n b i=turnI n b j):i=j:=by
 unfold turnI at h;have l:=dP b (n:Int) aE;obtain⟨k,d⟩:∃k:Nat,(bS b (n:Int)).toNat=k:=⟨_,rfl⟩;have e:k<n:=aE;rw[d]at h;have a:=SV (x:=i+k) (n:=n) aE;have c:=SV (x:=j+k) (n:=n) aE;simp only at h;rw[a,c]at h;split at h<;>split at h<;>split at h<;>omega
theorem Er{α:Type}[DecidableEq α]:∀{a b:List α},a.Nodup->a⊆b->b.length<=a.length->a.Perm b
 |[],b,_,_,hl=>by
  have:b=[]:=B8 (by simpa using hl);rw[this]
 |x::r,b,hn,hs,hl=>by
  have h:x∈b:=hs (B5 ..);have f:=List.perm_cons_erase h;refine(List.Perm.cons x (Er (G8.1 hn).2 (λy g=>?_) ?_)).trans f.symm
  .have d:=hs (B6 _ g);have c:y≠x:=λe=>(G8.1 hn).1 (e▸g);exact(List.mem_erase_of_ne c).2 d
  .have:=f.length_eq;simp only[A3]at this hl;omega
theorem aAa:∀{n:Nat} {f:Nat->Nat},(∀i<n,f i<n)->(∀i<n,∀j<n,f i=f j->i=j)->((A4 n).map f).Perm (A4 n):=by
 intro n f g h;have c:((A4 n).map f).Nodup:=by
  refine D5.2 λi j b d k=>?_;simp at b d|-;intro e;have:=h i b j d e;omega
 have a:(A4 n).map f⊆A4 n:=λx l=>by
  obtain⟨i,b,rfl⟩:=A9.1 l;exact B7.2 (g i (B7.1 b))
 exact Er c a bC
theorem Jn(l:List Df)(b:Int):(turnL l b).Perm l:=by
 have h:=aAa (n:=l.length) (f:=turnI l.length b) (λi c=>ZZ c) λi c j k e=>VM c k e;have a:=h.map λi=>l.getD i default;have d:turnL l b=((A4 l.length).map (turnI l.length b)).map λi=>l.getD i default:=by unfold turnL;rw[F5];rfl
 have g:(A4 l.length).map (λi=>l.getD i default)=l:=by
  refine List.ext_getElem bC λi m a=>?_;simp[A0,a]
 rw[d];rw[g]at a;exact a
theorem SW(l:List Int):(prgL l).length<=19:=by
 have:=(Jn (prgO l (prgN l)).1 (eA l 4 64)).length_eq;have:=NN l;unfold prgL;omega
section
attribute[local simp] aW bJ bE aR
attribute[local simp] lB.cond Nd.d_eq nd_t nd_dr nd_td ndsD aX
theorem aAb(T:List Tk)(l:List Int):spacedTo T l 0=[]:=rfl
attribute[local simp] aAb
def spB(out w:bA)(k:Int)(i:Nat):Bool:=
 decide (k<3)||(match out.getLast? with
  |none=>false
  |some c=>(firstIs letterB w||firstIs digitB w)&&decide (c≠32)&&decide (c≠10)&& !signB c)||(decide (0<i)&&(decide (w=[61])||decide (w=[61,61])))
theorem zH(T:List Tk)(l:List Int)(i:Nat):spacedTo T l (i+1)=(if spB (spacedTo T l i) (T.getD i default).text (eA l i 6) i=true then spacedTo T l i++sepsL.getD ((eA l i 6).tmod 3).toNat []else spacedTo T l i)++(T.getD i default).text:=rfl
theorem aAc{m:Int}(a:0<=m)(b:m<3):([DV.str [32],DV.str [10],DV.str [32,32,10,32]]:List DV)[m.toNat]?.getD default=.str (sepsL.getD m.toNat []):=by
 have:m=0\/m=1\/m=2:=aE;rcases this with rfl|rfl|rfl<;>rfl
theorem SX{a w:bA}{k:Int}{i:Nat}{d:UInt8}(b:a[a.length-1]?.getD 0=d):spB a w k i=true↔((k<3\/(((0<a.length/\(firstIs letterB w=true\/firstIs digitB w=true))/\¬(d.toNat:Int)=32)/\¬(d.toNat:Int)=10)/\¬d∈signs)\/0<i/\(w=[61]\/w=[61,61])):=by
 unfold spB;rw[List.getLast?_eq_getElem?];cases e:a[a.length-1]? with
 |none=>
  have f:¬0<a.length:=λq=>by rw[A2 aE]at e;cases e
  simp[f]
 |some c=>
  rw[e]at b;have b:c=d:=b;subst b;have f:0<a.length:=by
   have:=(D4.1 e).1;omega
  have g:(c.toNat:Int)=32↔c=32:=by rw[<-G9];have:(32:UInt8).toNat=32:=rfl;omega
  have h:(c.toNat:Int)=10↔c=10:=by rw[<-G9];have:(10:UInt8).toNat=10:=rfl;omega
  simp[f,g,h,signB]
theorem wN(T:List Tk)(l:List Int)(b:Nat)(a:∀t∈T,t.text.length<=b):∀i,(spacedTo T l i).length<=i*(b+4)
 |0=>by simp[spacedTo]
 |i+1=>by
  have g:=wN T l b a i;have c:∀k:Nat,(sepsL.getD k []).length<=4:=λk=>by
   rw[A0];cases e:sepsL[k]? with
   |none=>simp
   |some w=>exact(by decide:∀w∈sepsL,w.length<=4) w (A8 e)
  have f:(T.getD i default).text.length<=b:=by
   rw[A0];cases e:T[i]? with
   |none=>exact B9 _
   |some w=>exact a w (A8 e)
  have d:=c ((eA l i 6).tmod 3).toNat;rw[G1,zH,A1];cases spB (spacedTo T l i) (T.getD i default).text (eA l i 6) i
  .simp only[Bool.false_eq_true,if_false];omega
  .rw[if_pos rfl,A1];omega
theorem QB(s:bA)(l:List Int)(hs:s.length<=100000000)(hl:∀n∈l, -9223372036854775808<=n/\n<=9223372036854775807):Ok prog 40 [.str s,.sl (l.map aJ)] ⟨.d (.str (spacedS s l)),true⟩:=by
 refine bL func40 rfl ntmps40 results40 λw0 X G=>?_;obtain⟨T,j⟩:∃T,(scanS s).1=T:=⟨_,rfl⟩;have E:∀t∈T,InT s t:=λt J=>Gr (j▸J);have a0:T.length<=s.length:=by rw[<-j];exact nC _ _ _
 have D:bT T:=by rw[<-j];exact iW _ _ _
 have q:∀t∈T,t.text.length<=17:=λt J=>Kp (D t J);apply aD;simp;apply aF;have r:=Gs s aE;rw[j]at r;refine aU (og 14 (.plain ⟨.tup [.d (.sl (T.map Tk.r)),.d (aJ (scanS s).2)],true⟩)) ?_;simp[bM];refine⟨r,?_⟩;apply aD;simp;apply dA;simp;apply aM;refine aO (ι:=Nat) (λi=>aQ [(0,.d (.str s)),(1,.d (.sl (l.map aJ))),(5,.d (.sl (T.map Tk.r))),(7,.d (.str (spacedTo T l i))),(8,.d (aJ i))]) (λi=>aL []) (λi=>i<=T.length) (λi=>T.length-i) 0 (aA G [0,1,5,7,8] []) ((B9 _)) λi Y=>?_;apply aF;apply aP;simp;refine⟨λS=>?_,λS=>?_⟩
 .apply aG;simp;apply cR;apply aF;have M:i<T.length:=aE;obtain⟨t,K⟩:∃t,T[i]=t:=⟨_,rfl⟩;have m:T[i]? =some t:=by rw[A2 M,K]
  have p:t∈T:=A8 m;obtain⟨a,V,W,B⟩:=E t p;refine fL.rd [] [] (λ_=>none) ?_;simp[m,Tk.r,V,Km,B];refine⟨⟨M,aE,aE⟩,?_⟩;apply aF;have U:=Ml l i 6 hl bF;refine aU (og 37 (.plain ⟨.d (aJ (eA l i 6)),true⟩)) ?_;simp;refine⟨U,?_⟩;apply aF;obtain⟨c,f⟩:∃c,spacedTo T l i=c:=⟨_,rfl⟩;have F:=wN T l 17 q i;rw[f]at F;have N:i*(17+4)<=100000000*(17+4):=Nat.mul_le_mul_right _ aE;obtain⟨d,C⟩:∃d,c[c.length-1]?.getD 0=d:=⟨_,rfl⟩;have x:=rY t.text 0 aE;have y:=rB t.text 0 aE;have z:=MB d;have O:0<c.length↔c≠[]:=D6;refine aU (λ|43=>some<| .plain ⟨.d (.bool (firstIs letterB t.text)),true⟩|46=>some<| .plain ⟨.d (.bool (firstIs digitB t.text)),true⟩|71=>some<| .plain ⟨.d (.bool (decide (d∈signs))),true⟩|_=>none) ?_;simp[f,C];refine⟨by(repeat' with_reducible apply And.intro)<;>intros<;>first|(with_reducible exact z)|omega|(simpa using x)|(simpa using y)|(constructor<;>first|omega|assumption),?_⟩;apply dA;simp;refine⟨by(repeat' with_reducible apply And.intro)<;>intros<;>((repeat' with_reducible apply And.intro)<;>first|assumption|grind),?_⟩;apply aK;simp;refine⟨λg=>?_,λg1 P Q=>?_⟩
  .have A:=(SX C).2 g;have o:T.getD i default=t:=by rw[A0,m];rfl
   have b:=zH T l i;rw[f,o,if_pos A]at b;have Z:=cC l i 6 bF;have k:0<=(eA l i 6).tmod 3/\(eA l i 6).tmod 3<3:=by rw[Int.tmod_eq_emod_of_nonneg Z.1];omega
   have u:=aAc k.1 k.2;have H:(sepsL.getD ((eA l i 6).tmod 3).toNat []).length<=4:=by
    rw[A0];cases e:sepsL[((eA l i 6).tmod 3).toNat]? with
    |none=>simp
    |some w=>exact(by decide:∀w∈sepsL,w.length<=4) w (A8 e)
   obtain⟨v,I⟩:∃v,sepsL.getD ((eA l i 6).tmod 3).toNat []=v:=⟨_,rfl⟩;rw[I]at u H b;apply aI;simp[u];refine⟨⟨⟨⟨bF,k⟩,k.2⟩,aE⟩,?_⟩;have L:=q t p;apply aI;simp[A1];refine⟨aE,?_⟩;apply aI;simp;refine⟨aE,?_⟩;refine QT.mk (i+1) (aA G [0,1,5,7,8] [] (by simp[b])) ?_ ?_
   .omega
   .omega
  .have A:spB c t.text (eA l i 6) i=false:=by
    cases e:spB c t.text (eA l i 6) i with
    |false=>rfl
    |true=>
     rcases(SX C).1 e with(h|h)|h
     .omega
     .exact absurd (P h.1.1.1.1 h.1.1.1.2 h.1.1.2 h.1.2) h.2
     .exact absurd h.2 (not_or.2 (Q h.1))
   have o:T.getD i default=t:=(by rw[A0,m];rfl);have b:=zH T l i;rw[f,o,if_neg (by simp[A])]at b;apply aG;simp;have L:=q t p;apply aI;simp[A1];refine⟨aE,?_⟩;apply aI;simp;refine⟨aE,?_⟩;refine QT.mk (i+1) (aA G [0,1,5,7,8] [] (by simp[b])) ?_ ?_
   .omega
   .omega
 .apply bG;simp;apply aD;simp;apply aH;simp;rw[show i=T.length by omega];unfold spacedS;rw[j]
theorem QC(s:bA)(l:List Int):(spacedS s l).length<=21*s.length:=by
 have a:bT (scanS s).1:=iW _ _ _;have h:=wN (scanS s).1 l 17 (λt b=>Kp (a t b)) (scanS s).1.length;have c:(scanS s).1.length<=s.length:=nC _ _ _;unfold spacedS;omega
end
section
attribute[local simp] aW bJ bE aR
attribute[local simp] lB.cond Nd.d_eq nd_t nd_dr nd_td ndsD aX
theorem aB5{n:Int}(b:0<=n)(c:n<4):(chgEmpty.map DV.str)[n.toNat]?.getD default=.str (chgEmpty.getD n.toNat []):=by
 have a:n.toNat<chgEmpty.length:=by show _<4;omega
 rw[B1,A2 a];simp[A0,a]
theorem aB6{n:Int}(b:0<=n)(c:n<26):(chgWords.map DV.str)[n.toNat]?.getD default=.str (chgWords.getD n.toNat []):=by
 have a:n.toNat<chgWords.length:=by show _<26;omega
 rw[B1,A2 a];simp[A0,a]
theorem NO(k:Nat):(chgWords.getD k []).length<=17:=by
 rw[A0];cases e:chgWords[k]? with
 |none=>simp
 |some w=>exact(by decide:∀w∈chgWords,w.length<=17) w (A8 e)
theorem NP(k:Nat):(chgEmpty.getD k []).length<=3:=by
 rw[A0];cases e:chgEmpty[k]? with
 |none=>simp
 |some w=>exact(by decide:∀w∈chgEmpty,w.length<=3) w (A8 e)
theorem aB7(y:Int):IntKind.u8.wrap y=y.emod 256:=by
 unfold IntKind.wrap;simp[IntKind.bits,IntKind.signed];rfl
def QD(s w:bA)(a b c:Int)(p q:Nat):bA:=
 if c=0 then s.take p++s.drop q
 else if c=1 then s.take q++32::s.drop p
 else if c=2 then s.take p++32::(w++32::s.drop q)
 else if c=3 then s.take p
 else if c=4 then s.take p++w++32::s.drop p
 else s.set (bS a s.length).toNat (A6 (b.emod 256).toNat)
theorem aB8{s:bA}{a how b:Int}(h:(scanS s).1=[]):changedS s a how b=s++chgEmpty.getD (bS b 4).toNat []:=by
 unfold changedS;rw[h]
theorem aAd{s:bA}{T:List Tk}{a how b:Int}{t:Tk}{p q:Nat}(h:(scanS s).1=T)(d:T≠[])(c:T[(bS a T.length).toNat]? =some t)(g:t.at_=p)(i:tokE t=q):
 changedS s a how b=QD s (chgWords.getD (bS b 26).toNat []) a b (bS how 6) p q:=by
 unfold changedS;cases e:T with
 |nil=>exact absurd e d
 |cons x r=>
  subst e;rw[h];have f:(x::r).getD (bS a ((r.length+1:Nat):Int)).toNat default=t:=by
   rw[A0];have c:(x::r)[(bS a ((r.length+1:Nat):Int)).toNat]? =some t:=c;rw[c];rfl
  simp only[f,g,i,C3];rfl
theorem aB9(s:bA)(a c b:Int):(changedS s a c b).length<=2*s.length+40:=by
 unfold changedS;split
 .have:=NP (bS b 4).toNat;rw[A1];omega
 .have d:=NO (bS b 26).toNat;simp only[];generalize chgWords.getD (bS b 26).toNat []=w at d;split
  .simp only[A1,C1,C8];omega
  .split
   .simp only[A1,C1,C8,A3];omega
   .split
    .simp only[A1,C1,C8,A3];omega
    .split
     .simp only[C1];omega
     .split
      .simp only[A1,C1,C8,A3];omega
      .rw[D0];omega
theorem NQ(s:bA)(a c b:Int)(hs:s.length<=900000000)(G: -9223372036854775808<=a/\a<=9223372036854775807)(Q: -9223372036854775808<=c/\c<=9223372036854775807)(H: -9223372036854775808<=b/\b<=9223372036854775807):Ok prog 148 [.str s,aJ a,aJ c,aJ b] ⟨.d (.str (changedS s a c b)),true⟩:=by
 refine bL func148 rfl ntmps148 results148 λw0 X I=>?_;obtain⟨T,g⟩:∃T,(scanS s).1=T:=⟨_,rfl⟩;have K:∀t∈T,InT s t:=λt ht=>Gr (g▸ht);have a2:T.length<=s.length:=by rw[<-g];exact nC _ _ _
 have P:=dP b 4 bF;have h:=dP b 26 bF;have a6:=dP c 6 bF;have r4:=eW b 4 H.1 H.2 bF;have O:=eW b 26 H.1 H.2 bF;have r6:=eW c 6 Q.1 Q.2 bF;apply aD;simp;apply aF;have E:=Gs s aE;rw[g]at E;refine aU (og 16 (.plain ⟨.tup [.d (.sl (T.map Tk.r)),.d (aJ (scanS s).2)],true⟩)) ?_;simp[bM];refine⟨E,?_⟩;apply aF;apply aP;simp;refine⟨λF=>?_,λF=>?_⟩
 .have D:(scanS s).1=[]:=by rw[g];first|exact F|exact B8 aE
  apply aF;have o:=aB5 P.1 P.2;have r:=NP (bS b 4).toNat;obtain⟨z,J⟩:∃z,chgEmpty.getD (bS b 4).toNat []=z:=⟨_,rfl⟩;rw[J]at o r;simp[chgEmpty]at o;refine aU (og 25 (.plain ⟨.d (aJ (bS b 4)),true⟩)) ?_;simp[o];refine⟨⟨⟨⟨⟨bF,r4⟩,aE⟩,aE⟩,aE⟩,?_⟩;apply aH;simp;rw[aB8 D,J]
 .have C:T≠[]:=λe=>by rw[e]at F;simp at F
  have W:0<T.length:=D6.2 C;have aT:=dP a (T.length:Int) aE;have rT:=eW a (T.length:Int) G.1 G.2 aE;obtain⟨j,S⟩:∃j:Nat,bS a (T.length:Int)=(j:Int):=⟨(bS a (T.length:Int)).toNat,aE⟩;have B:j<T.length:=aE;obtain⟨t,N⟩:∃t,T[j]=t:=⟨_,rfl⟩;have v:T[j]? =some t:=by rw[A2 B,N]
  obtain⟨p,u,a0,a1⟩:=K t (A8 v);obtain⟨q,Y⟩:∃q:Nat,q=p+t.text.length:=⟨_,rfl⟩;have L:tokE t=q:=by unfold tokE;rw[u,Y];simp
  have M:(p:Int)+(t.text.length:Int)=(q:Int):=by rw[Y];simp
  have V:p<=s.length:=aE;have Z:q<=s.length:=aE;have d:=aAd (a:=a) (how:=c) (b:=b) g C (by rw[S,C3];exact v) u L;apply aG;simp;refine cP (og 33 (.plain ⟨.d (aJ (j:Int)),true⟩)) ?_;simp[v,Tk.r,u,M];refine⟨⟨by simpa [S]using rT,B⟩,?_⟩;apply aF;have o:=aB6 h.1 h.2;have r:=NO (bS b 26).toNat;obtain⟨z,J⟩:∃z,chgWords.getD (bS b 26).toNat []=z:=⟨_,rfl⟩;rw[J]at o r d;simp[chgWords]at o;refine aU (og 38 (.plain ⟨.d (aJ (bS b 26)),true⟩)) ?_;simp[o];refine⟨⟨⟨⟨bF,O⟩,h⟩,h.2⟩,?_⟩;apply aF;refine cP (og 42 (.plain ⟨.d (aJ (bS c 6)),true⟩)) ?_;simp;refine⟨r6,?_⟩;apply aM;apply aP;simp;refine⟨λn=>?_,λn=>?_⟩
  .apply aF;refine fQ (fW [0,12,11] [(11,11)] bF bF (by simp[I])) ?_;simp;refine fL.rd [] [] (λ_=>none) ?_;simp;refine⟨by(repeat' with_reducible apply And.intro)<;>first|omega|decide,?_⟩;apply aH;simp;rw[d];unfold QD;rw[if_pos n]
  .apply aP;simp;refine⟨λA=>?_,λA=>?_⟩
   .apply aF;refine fQ (fW [0,12,11] [(11,11)] bF bF (by simp[I])) ?_;simp;refine fL.rd [] [] (λ_=>none) ?_;simp;refine⟨by(repeat' with_reducible apply And.intro)<;>first|omega|decide,?_⟩;apply aH;simp;rw[d];unfold QD;rw[if_neg n,if_pos A]
   .apply aP;simp;refine⟨λf=>?_,λf=>?_⟩
    .apply aF;refine fQ (fW [0,12,11] [(11,11)] bF bF (by simp[I])) ?_;simp;refine fL.rd [] [] (λ_=>none) ?_;simp;refine⟨by(repeat' with_reducible apply And.intro)<;>first|omega|decide,?_⟩;apply aH;simp;rw[d];unfold QD;rw[if_neg n,if_neg A,if_pos f]
    .apply aP;simp;refine⟨λi=>?_,λi=>?_⟩
     .apply aD;simp;refine⟨by(repeat' with_reducible apply And.intro)<;>first|omega|decide,?_⟩;apply aH;simp;rw[d];unfold QD;rw[if_neg n,if_neg A,if_neg f,if_pos i]
     .apply aP;simp;refine⟨λl=>?_,λl=>?_⟩
      .apply aF;refine fQ (fW [0,12,11] [(11,11)] bF bF (by simp[I])) ?_;simp;refine fL.rd [] [] (λ_=>none) ?_;simp;refine⟨by(repeat' with_reducible apply And.intro)<;>first|omega|decide,?_⟩;apply aH;simp;rw[d];unfold QD;rw[if_neg n,if_neg A,if_neg f,if_neg i,if_pos l];simp
      .apply aG;simp;have aS:=dP a (s.length:Int) aE;have rS:=eW a (s.length:Int) G.1 G.2 aE;obtain⟨m,U⟩:∃m:Nat,bS a (s.length:Int)=(m:Int):=⟨(bS a (s.length:Int)).toNat,aE⟩;rw[U]at rS;refine LP hT jQ jQ jQ jQ (λw=>cM (w:=w) hT (t:=5) rfl) rfl rfl rfl rfl rfl rfl rfl rfl rfl rfl rfl rfl rfl rfl rfl rfl rfl rfl rfl rfl rfl rfl rfl rfl rfl rfl rfl rfl rfl rfl rfl rfl rfl rfl rfl rfl rfl rfl rfl rfl rfl rfl rfl rfl rfl (s:=s) (x:=a) (y:=b) (k:=m) bC bC bC aE rS ?_;apply aH;simp;rw[d];unfold QD;rw[if_neg n,if_neg A,if_neg f,if_neg i,if_neg l,U,aB7];rfl
end
theorem zI{α:Type}{p:α->Prop}{l:List α}{d:α}(h:∀x∈l,p x){k:Nat}(a:k<l.length):p (l.getD k d):=by
 rw[A0,A2 a];exact h _ (C0 a)
theorem oO(L:List Int)(i:Nat):wholeB (callM L i) true=true:=by
 have h:=cC L i 8 bF;exact zI (p:=λw=>wholeB w true=true) (by decide:∀w∈callL,wholeB w true=true) (show(eA L i 8).toNat<8 by omega)
theorem Jo(L:List Int)(i:Nat):wholeB (ownM L i) false=true:=by
 have h:=cC L i 4 bF;exact zI (p:=λw=>wholeB w false=true) (by decide:∀w∈ownL,wholeB w false=true) (show(eA L i 4).toNat<4 by omega)
theorem zJ{k:Int}{t:bA}{n:Int}{a:List Nd}(h:0<=k/\k<=6):0<=(Nd.mk k t n a).kind/\(Nd.mk k t n a).kind<=6:=h
theorem gF{k:Int}{t:bA}{n:Int}(a:0<=k/\k<37)(c:shapedK k []=true)(b:loAt k<=n/\n<=hiAt k)(d:textB k t=true):rightN (.mk k t n [])=true:=
 right_mk.2 ⟨a.1,a.2,c,b.1,b.2,d,λx e=>by cases e⟩
theorem zK(L:List Int)(i:Nat):rightN (.mk 33 (ownM L i) 0 [])=true:=gF bF rfl bF (Jo L i)
theorem pV(L:List Int)(i:Nat):rightN (placeM L i).1=true/\isPlaceK (placeM L i).1.kind=true:=by
 unfold placeM;split
 .exact⟨gF bF rfl bF (oO L (i+1)),rfl⟩
 .exact⟨gF bF rfl bF (FX (oO L (i+1)) (oO L (i+2))),rfl⟩
theorem Es(L:List Int):∀(d i:Nat),rightN (valueM L d i).1=true/\isExprK (valueM L d i).1.kind=true:=λd=>by
 induction d with
 |zero=>
  intro i;obtain⟨k,_,c⟩:=gR L 0 i;have c:=c rfl;by_cases a:dI L 0 i=0\/dI L 0 i=1
  .rw[kU a];have j:=cC L (i+1) 6 bF;exact⟨gF bF rfl (zI (p:=λn:Int=>loAt 32<=n/\n<=hiAt 32) (by decide:∀n∈numsM,loAt 32<=n/\n<=hiAt 32) (show(eA L (i+1) 6).toNat<6 by omega)) rfl,rfl⟩
  .by_cases b:dI L 0 i=2
   .rw[kV b];exact⟨zK L (i+1),rfl⟩
   .by_cases f:dI L 0 i=3\/dI L 0 i=4
    .rw[gN f];exact⟨(pV L (i+1)).1,rR (pV L (i+1)).2⟩
    .rw[iY aE];exact⟨gF bF rfl bF rfl,rfl⟩
 |succ e ih=>
  intro i;obtain⟨k,l,_⟩:=gR L (e+1) i;by_cases a:dI L (e+1) i=0\/dI L (e+1) i=1
  .rw[kU a];have j:=cC L (i+1) 6 bF;exact⟨gF bF rfl (zI (p:=λn:Int=>loAt 32<=n/\n<=hiAt 32) (by decide:∀n∈numsM,loAt 32<=n/\n<=hiAt 32) (show(eA L (i+1) 6).toNat<6 by omega)) rfl,rfl⟩
  .by_cases b:dI L (e+1) i=2
   .rw[kV b];exact⟨zK L (i+1),rfl⟩
   .by_cases g:dI L (e+1) i=3\/dI L (e+1) i=4
    .rw[gN g];exact⟨(pV L (i+1)).1,rR (pV L (i+1)).2⟩
    .by_cases h:dI L (e+1) i=5
     .rw[iY h];exact⟨gF bF rfl bF rfl,rfl⟩
     .rw[uX aE];exact CV aE aE (ih (i+1)) (ih (valueM L e (i+1)).2)
theorem kX{k:Int}{t:bA}{n:Int}{a:List Nd}(f:9<=k/\k<=25)(c:textB k t=true)(b:loAt k<=n/\n<=hiAt k)(d:shapedK k a=true)(e:∀x∈a,rightN x=true):
 rightN (.mk k t n a)=true/\isStmtK (Nd.mk k t n a).kind=true:=⟨right_mk.2 ⟨aE,aE,d,b.1,b.2,c,e⟩,isStmtK_iff.2 f⟩
theorem aAe{x:Nd}(h:rightN x=true):∀y∈[x],rightN y=true:=λy a=>by rw[C2.1 a];exact h
theorem He{L:List Int}{d i:Nat}{a:Nat->Nd×Nat}(h:0<d->∀j,rightN (a j).1=true/\isBlockK (a j).1.kind=true):rightN (oneB L d a i).1=true/\isStmtK (oneB L d a i).1.kind=true:=by
 obtain⟨k,s⟩:∃k,PZ L d i=k:=⟨_,rfl⟩;obtain⟨A,B,z⟩:=wH s;rw[gX s];have n:=λj=>Es L 1 j;have e:=λj=>Es L 2 j;have v:=pV L (i+1);have l:=oO L (i+1);have m:=Jo L (i+1);unfold yZ;split
 .rename_i q;subst q;exact kX bF m bF (by simp[shapedK,kidsB,(e (i+1+1)).2]) (aAe (e (i+1+1)).1)
 split
 .rename_i q;subst q;refine kX bF rfl bF (by simp[shapedK,kidsB,v.2,(e (placeM L (i+1)).2).2]) λy c=>?_;simp only[B2,D2,or_false]at c;rcases c with rfl|rfl
  .exact v.1
  .exact(e _).1
 split
 .rename_i q;have h:=h (z q);have f:=n (i+1);have g:=h (valueM L 1 (i+1)).2;have o:=h ((a (valueM L 1 (i+1)).2).2+1);have u:∀y∈[(valueM L 1 (i+1)).1,(a (valueM L 1 (i+1)).2).1],rightN y=true:=λy c=>by
   simp only[B2,D2,or_false]at c;rcases c with rfl|rfl
   .exact f.1
   .exact g.1
  have w:∀y∈[(valueM L 1 (i+1)).1,(a (valueM L 1 (i+1)).2).1,(a ((a (valueM L 1 (i+1)).2).2+1)).1],rightN y=true:=λy c=>by
   simp only[B2,D2,or_false]at c;rcases c with rfl|rfl|rfl
   .exact f.1
   .exact g.1
   .exact o.1
  split
  .rename_i q2;subst q2;split
   .exact kX bF rfl bF (by simp[shapedK,kidsB,f.2,g.2,o.2]) w
   .exact kX bF rfl bF (by simp[shapedK,kidsB,f.2,g.2]) u
  .rename_i q2;have q3:k=12:=aE;subst q3;exact kX bF rfl bF (by simp[shapedK,kidsB,f.2,g.2]) u
 split
 .rename_i q;rcases q with rfl|rfl|rfl|rfl<;>exact kX bF l bF rfl λx b=>by cases b
 split
 .rename_i q;rcases q with rfl|rfl<;>exact kX bF l bF (by simp[shapedK,kidsB,(n (i+1+1)).2]) (aAe (n (i+1+1)).1)
 split
 .rename_i q;rcases q with rfl|rfl<;>exact kX bF l bF rfl (aAe (zK L (i+1+1)))
 split
 .rename_i q;subst q;have t:=cC L (((i+1:Nat):Int)+1) 5 bF;have p:loAt 19=2:=rfl;have r:hiAt 19=6:=rfl;exact kX bF m aE rfl λx b=>by cases b
 split
 .rename_i q;subst q;exact kX bF m bF rfl λx b=>by cases b
 split
 .rename_i q;subst q;have t:=cC L ((i+1:Nat):Int) 9 bF;have p:loAt 21=1:=rfl;have r:hiAt 21=9:=rfl;exact kX bF rfl aE rfl λx b=>by cases b
 split
 .rename_i q;subst q;have t:=cC L ((i+1:Nat):Int) 99 bF;have p:loAt 25=1:=rfl;have r:hiAt 25=99:=rfl;exact kX bF rfl aE rfl λx b=>by cases b
 .have q:k=24:=aE;subst q;exact kX bF rfl bF (by simp[shapedK,kidsB,(e (i+1)).2]) (aAe (e (i+1)).1)
theorem Et{L:List Int}{c:Nat->Nd×Nat}(h:∀j,rightN (c j).1=true/\isStmtK (c j).1.kind=true):∀(m:Nat) (b:List Nd) (j:Nat),(∀x∈b,rightN x=true/\isStmtK x.kind=true)->∀x∈(somesM L c m b j).1,rightN x=true/\isStmtK x.kind=true
 |0,b,j,hk=>by simpa [somesM]using hk
 |m+1,b,j,hk=>by
  unfold somesM;split
  .exact hk
  .refine Et h m _ _ λx a=>?_;rcases A7.1 a with a|a
   .exact hk x a
   .rw[C2.1 a];exact h j
theorem QE{L:List Int}{a:Nat->Nd×Nat}(h:∀j,rightN (a j).1=true/\isStmtK (a j).1.kind=true)(i:Nat):rightN (someM L a i).1=true/\isBlockK (someM L a i).1.kind=true:=
 ⟨yO (Et h _ [] _ λx b=>by cases b),rfl⟩
theorem Jp(L:List Int):∀d i,rightN (oneM L d i).1=true/\isStmtK (oneM L d i).1.kind=true
 |0,i=>by rw[oneM];exact He λh=>absurd h (H5 0)
 |d+1,i=>by rw[oneM];exact He λ_ j=>QE (Jp L d) j
theorem Hf(L:List Int):∀(m:Nat) (b:List Nd) (j:Nat),(∀x∈b,rightN x=true/\isStmtK x.kind=true)->∀x∈bodyM L m b j,rightN x=true/\isStmtK x.kind=true
 |0,b,j,hk=>by simpa [bodyM]using hk
 |m+1,b,j,hk=>by
  unfold bodyM;split
  .exact hk
  .refine Hf L m _ _ λx a=>?_;rcases A7.1 a with a|a
   .exact hk x a
   .rw[C2.1 a];exact Jp L 2 j
theorem zL(L:List Int):∀c,∀x∈itemsM L c,rightN x=true/\isItemK x.kind=true
 |0,x,a=>by cases a
 |c+1,x,a=>by
  rw[itemsM]at a;rcases A7.1 a with a|a
  .exact zL L c x a
  .rw[C2.1 a];have e:=cC L (4+2*c) 1999 bF;have b:loAt 7= -999:=rfl;have d:hiAt 7=999:=rfl;exact⟨gF bF rfl aE (oO L (3+2*c)),rfl⟩
theorem By(l:List Int):rightN (treeS l)=true/\0<=(treeS l).kind/\(treeS l).kind<=6:=by
 unfold treeS;generalize l.take 48=L;have b:=oO L 1;have h:=cC L 0 10 bF;have a:=zI (p:=λn:Int=>0<=n/\n<=6) (d:=0) (by decide:∀n∈treeKinds,0<=n/\n<=6) (show(eA L 0 10).toNat<10 by omega);unfold treeB;simp only[];generalize treeKinds.getD (eA L 0 10).toNat 0=k at a;split
 .rename_i q;subst q;have g:=cC L 2 1999 bF;have c:loAt 0= -999:=rfl;have e:hiAt 0=999:=rfl;exact⟨gF bF rfl aE b,zJ bF⟩
 split
 .rename_i q;subst q;have g:=cC L 2 4 bF;have c:loAt 2=0:=rfl;have e:hiAt 2=3:=rfl;exact⟨gF bF rfl aE b,zJ bF⟩
 split
 .rename_i q;subst q;exact⟨right_mk.2 ⟨bF,bF,B4.2 λx a=>(zL L _ x a).2,bF,bF,b,λx a=>(zL L _ x a).1⟩,zJ bF⟩
 split
 .rename_i q;have f:rightN (.mk 8 [] 0 (bodyM L L.length [] 2))=true:=yO (Hf L _ [] 2 λx a=>by cases a);rcases q with rfl|rfl<;>exact⟨right_mk.2 ⟨bF,bF,rfl,bF,bF,b,aAe f⟩,zJ bF⟩
 .have q:k=3\/k=4:=aE;rcases q with rfl|rfl<;>exact⟨gF bF rfl bF b,zJ bF⟩
theorem Hg(l:List Int):Ps (treeS l):=uM (By l).1 (By l).2.1 (By l).2.2
section
attribute[local simp] aW bJ bE aR
attribute[local simp] lB.cond Nd.d_eq nd_t nd_dr nd_td ndsD aX
theorem VN{x:Nd}(h:Ps x):(textT x).length<=40*weighN x+40:=by
 obtain⟨_,h⟩:=h;have d:=weighN_eq x;have l:=uN x.kind;have j:=cG x.n;have k:=rW x.kids;unfold textT;simp only[];split
 .rename_i q;split
  .rename_i b a;have e:jY b:=by
    rcases h with⟨_,c,g,f⟩|⟨z,_⟩|⟨z,_⟩|⟨z,_⟩|⟨z,_⟩
    .rw[g]at a;have a:[c]=[b]:=a;injection a with a _
     rw[<-a];exact f
    all_goals omega
   have i:=(eX b).2 e;rw[a]at d;simp only[weighL]at d;simp only[A1,A3];omega
  .exact B9 _
 .split
  .simp only[A1,A3,B0];omega
  .split
   .simp only[A1,A3,B0];omega
   .split
    .simp only[A1,A3,B0];omega
    .simp only[A1,A3,B0];omega
theorem VO(l:List Int):(textT (treeS l)).length<=40000040:=by
 have:=VN (Hg l);have:=GN l;omega
end
section
attribute[local simp] aW bJ bE aR
attribute[local simp] lB.cond Nd.d_eq nd_t nd_dr nd_td ndsD aX bK bO
def NR(l:List Int):Df:=⟨(treeS l).text,textT (treeS l)⟩
theorem NS(l:List Int)(e:Nj l):Ok prog 79 [.sl (l.map aJ)] ⟨.d (NR l).d,true⟩:=by
 refine uF func79 rfl ntmps79 results79 λg X f=>?_;obtain⟨x,a⟩:∃x,treeS l=x:=⟨_,rfl⟩;obtain⟨s,d⟩:∃s,textT x=s:=⟨_,rfl⟩;have c:=ZF l e;have b:=Cj x (by rw[<-a];exact Hg l) (by have:=GN l;rw[a]at this;omega);rw[a]at c;rw[d]at b;simp at c b;apply aD;simp;refine cP (og 5 (.plain ⟨.d x.d,false⟩)) ?_;simp;refine⟨c,?_⟩;apply aF;refine fL.rd [[9],[9]] [[],[],[],[9],[],[2]] (og 9 (.plain ⟨.d (.str s),true⟩)) ?_;simp;refine⟨b,?_⟩;apply aH;simp[NR,a,d,Df.d]
theorem aAf(k i v:Nat)(b:k<14)(a:i<3):(patL k i v).length<=6:=(NK b a).len
theorem NT(l:List Int)(s:Nj l):Ok prog 77 [.sl (l.map aJ)] ⟨.own 2 ((prgL l).map Df.d),true⟩:=by
 refine bL func77 rfl ntmps77 results77 λV X p=>?_;have L:=KT l 0 3 bF;have J:=Ml l 0 3 s bF;have N:(prgN l:Int)=1+eA l 0 3:=by unfold prgN;omega
 have E:=KU l;apply aD;simp;apply aD;simp;apply aD;simp;apply dA;simp;apply aM;refine aO (ι:=Nat) (λi=>aQ [(0,.d (.sl (l.map aJ))),(3,.ow 3 0 (prgO l i).1.length),(4,.d (.bool (prgO l i).2)),(5,.d (aJ (i:Nat)))]) (λi=>aL [(3,.row false 2 ((prgO l i).1.map Df.d))]) (λi=>i<=prgN l) (λi=>prgN l-i) 0 (aA p [0,3,4,5] [(3,3)] (by simp[prgO]) (by simp[prgO])) (B9 _) λi H=>?_;apply aF;refine cP (og 9 (.plain ⟨.d (aJ (eA l 0 3)),true⟩)) ?_;simp;refine⟨⟨by simpa using J,aE⟩,?_⟩;apply aK;simp;refine⟨λD=>?_,λD=>?_⟩
 .have O:i<prgN l:=aE;have C:=KT l (1+i) 4096 bF;have A:=Ml l (1+i) 4096 s bF;obtain⟨n,y⟩:∃n:Nat,eA l (1+i) 4096=(n:Int):=⟨(eA l (1+i) 4096).toNat,aE⟩;rw[y]at A C;have b:(n:Int).tmod 14=((n%14:Nat):Int):=rfl;have d:(n:Int).tdiv 14=((n / 14:Nat):Int):=rfl;obtain⟨k,x⟩:∃k:Nat,n%14=k:=⟨_,rfl⟩;obtain⟨v,z⟩:∃v:Nat,n / 14=v:=⟨_,rfl⟩;have f:k<14:=aE;rw[x]at b;rw[z]at d;obtain⟨c,g⟩:∃c,prgO l i=c:=⟨_,rfl⟩;obtain⟨P,r⟩:∃P,patL k i v=P:=⟨_,rfl⟩;have B:=RPattern_ok k i v f aE aE;rw[r]at B;have S:P.length<=6:=by rw[<-r];exact aAf k i v f aE
  have U:c.1.length<=19:=by
   have h:=(Hd l i aE).len;have F:(prgO l i).2.toNat<=1:=H4 _;rw[g]at h F;omega
  have a:prgO l (i+1)=if k=9/\c.2=false then(c.1++P++[sharedD],true)else(c.1++P,c.2):=by
   rw[Dv,g];unfold prgS;simp only[y,C3,x,z,r]
  rw[g];apply aG;simp;refine aY (ι:=Unit) (λu=>aQ [(0,.d (.sl (l.map aJ))),(3,.ow 3 0 (prgO l (i+1)).1.length),(4,.d (.bool (prgO l (i+1)).2)),(5,.d (aJ (i:Nat)))]) (λu=>aL [(3,.row false 2 ((prgO l (i+1)).1.map Df.d))]) (λu=>True) ?_ λu G=>?_
  .apply aM;refine cP (og 17 (.plain ⟨.d (aJ (n:Int)),true⟩)) ?_;simp;refine⟨⟨aE,by simpa using A⟩,?_⟩;refine cP (og 24 (.plain ⟨.own 2 (P.map Df.d),true⟩)) ?_;simp[b,d];refine⟨⟨⟨aE,by simpa using B⟩,aE⟩,?_⟩;apply aD;simp[b];apply aK;simp;refine⟨λw q=>?_,λw=>?_⟩
   .rw[if_pos ⟨aE,q⟩]at a;apply aD;simp;refine⟨aE,?_⟩;apply aI;simp;exact(aA p [0,3,4,5] [(36,3)] (by simp[a,Nat.add_assoc]) (by simp[a,sharedD,Df.d,A5 (show(D1 Df.d c.1++D1 Df.d P).length<=c.1.length+P.length by simp)]))
   .rw[if_neg (λh=>by have:=w aE;rw[h.2]at this;cases this)]at a;apply aG;simp;exact(aA p [0,3,4,5] [(25,3)] (by simp[a]) (by simp[a]))
  .apply aI;simp;refine⟨aE,?_⟩;refine QT.mk (i+1) (aA p [0,3,4,5] [(3,3)]) ?_ ?_
   .omega
   .omega
 .apply bG;simp;apply aF;have e:i=prgN l:=aE;subst e;have M:=KT l 4 64 bF;have I:=Ml l 4 64 s bF;have Q:=NN l;have t:=RTurned_ok (prgO l (prgN l)).1 (eA l 4 64) aE aE aE;obtain⟨T,o⟩:∃T,turnL (prgO l (prgN l)).1 (eA l 4 64)=T:=⟨_,rfl⟩;rw[o]at t;obtain⟨j,m⟩:∃j,(prgO l (prgN l)).1=j:=⟨_,rfl⟩;rw[m]at t;have K:D3 j.length (D1 Df.d j)=D1 Df.d j:=A5 (by rw[C9];exact D8 _);refine aU (λ|39=>some<| .plain ⟨.d (aJ (eA l 4 64)),true⟩|40=>some<| .plain ⟨.own 2 (T.map Df.d),true⟩|_=>none) ?_;simp[m,K];refine⟨⟨by simpa using I,by simpa using t⟩,?_⟩;apply aH;simp[prgL,o]
def spN:List bA:=[[],[120,48],[116,48],[122,111,111],[105,102]]
def spW:List bA:=[[108,111,99,107],[102,105,108,101],[114,101,99],[112,114,111,99],[116,101,115,116]]
def spT:List bA:=[[59],[59],[32,123,32,97,32,61,32,49,59,32,99,32,61,32,50,59,32,125],[32,123,32,125],[32,123,32,125]]
def spZ:List bA:=[[99,97,108,108,32,122,59],[103,111,32,122,59],[99,97,108,108,32,122,122,59]]
def spA:List bA:=[[97],[98]]
def spC:List bA:=[[97],[98],[99]]
theorem aAg:∀w∈spN,w.length<=60:=bF
theorem aAh:∀w∈spW,w.length<=60:=bF
theorem aAi:∀w∈spT,w.length<=60:=bF
theorem aAj:∀w∈spZ,w.length<=60:=bF
theorem aAk:∀w∈spA,w.length<=60:=bF
theorem aAl:∀w∈spC,w.length<=60:=bF
def vD(j:Nat):Df:=⟨[118]++itoaS (j:Int),[118,97,114,32,118]++itoaS (j:Int)++[32,61,32,49,59]⟩
def vA(l:List Df)(m:Nat):List Df:=l++(A4 (m-l.length)).map λj=>vD (l.length+j)
def Hh(l:List Df)(how by_ c:Int)(k:Nat)(x:Df):List Df:=
 if c=0 then l.set k ⟨spN.getD (bS (by_.tdiv 3) 5).toNat [],x.text⟩
 else if c=1\/c=2 then l.set k ⟨x.name,changedS x.text (by_.tdiv 3) (how.tdiv 11) by_⟩
 else if c=3 then l.eraseIdx k
 else if c=4 then l++[x]
 else if c=5 then l.set k ⟨x.name,spW.getD (bS (by_.tdiv 3) 5).toNat []++[32]++x.name++spT.getD (bS (by_.tdiv 3) 5).toNat []⟩
 else if c=6 then l++[⟨[122,111,111],[112,114,111,99,32,122,111,111,32,123,32,99,97,108,108,32]++x.name++[59,32,103,111,32,122,111,111,59,32,125]⟩]
 else if c=7 then l++[⟨[122],[112,114,111,99,32,122,32,123,32,99,97,108,108,32,122,122,59,32,125]⟩,⟨[122,122],[112,114,111,99,32,122,122,32,123,32]++spZ.getD (bS by_ 3).toNat []++[32,125]⟩]
 else if c=8 then l++[⟨[103],[114,101,99,32,103,32,123,32,97,32,61,32,49,59,32]++spA.getD (bS by_ 2).toNat []++[32,61,32,50,59,32,125]⟩,⟨[119],[112,114,111,99,32,119,32,123,32,103,46]++spC.getD (bS (by_.tdiv 2) 3).toNat []++[32,61,32,49,59,32,125]⟩]
 else if c=9 then vA l (23+(bS by_ 3).toNat)
 else l.set k ⟨x.name,spacedS x.text [by_,by_.tdiv 3,by_.tdiv 7,how,by_.tdiv 2,1,2]⟩
def iH(l:List Df)(how by_:Int):List Df:=
 if l=[]then [NR [how,by_]]else Hh l how by_ (bS how 11) (bS by_ l.length).toNat (l.getD (bS by_ l.length).toNat default)
structure nW(n m:Nat)(l:List Df):Prop where
 len:l.length<=n
 each:∀d∈l,d.name.length<=m/\d.text.length<=m
theorem nW.set{n m:Nat}{l:List Df}(h:nW n m l){k:Nat}{x:Df}(b:x.name.length<=m/\x.text.length<=m):nW n m (l.set k x):=
 ⟨by rw[D0];exact h.len,λd a=>(List.mem_or_eq_of_mem_set a).elim (h.each d) λe=>e▸b⟩
theorem nW.app{n c m:Nat}{l b:List Df}(h:nW n m l)(a:nW c m b):nW (n+c) m (l++b):=
 ⟨by rw[A1];have:=h.len;have:=a.len;omega,λd e=>(A7.1 e).elim (h.each d) (a.each d)⟩
theorem nW.mono{n e m c:Nat}{l:List Df}(h:nW n m l)(f:n<=e)(b:m<=c):nW e c l:=
 ⟨F4 h.len f,λd a=>⟨F4 (h.each d a).1 b,F4 (h.each d a).2 b⟩⟩
theorem QF{l m:List Df}(h:Is m (vA l m.length))(a:l.length<=m.length):Is (m++[vD m.length]) (vA l (m++[vD m.length]).length):=by
 have h:m=vA l m.length:=h;show m++[vD m.length]=_;unfold vA at h|-;rw[A1,List.length_singleton,show m.length+1-l.length=(m.length-l.length)+1 by omega,G7,D7,<-G2,<-h];simp[show l.length+(m.length-l.length)=m.length by omega]
theorem VP{l m:List Df}{n:Nat}(h:Is m (vA l m.length))(d:l.length<=m.length)(c:n<=m.length)(b:l.length<m.length->m.length<=n):Is m (vA l n):=by
 by_cases e:l.length<m.length
 .rw[show n=m.length by have:=b e;omega];exact h
 .have h:m=vA l m.length:=h;have a:m.length=l.length:=aE;show m=_;rw[h,a];unfold vA;rw[show n-l.length=0 by omega,Nat.sub_self]
theorem aAm{b:List DV}{n k:Nat}(c:b.length=n)(a:k<n):D3 (n-1) (D3 k b++(D3 (n-(k+1)) (H6 (k+1) b)++H6 (n-1) b))=b.eraseIdx k:=by
 rw[<-G2,List.take_append_of_le_length jJ,A5 jJ,A5 (l:=H6 (k+1) b) jJ,C5]
theorem aDw{l:List Df}{k:Nat}:(l.eraseIdx k).map Df.d=(l.map Df.d).eraseIdx k:=by
 rw[C5,C5,D7,F9,List.map_drop]
theorem AD{L:List bA}{n:Int}{w:bA}(c:0<=n)(a:n.toNat<L.length)(b:L.getD n.toNat []=w):(L.map DV.str)[n.toNat]?.getD default=.str w:=by
 rw[str_at a,b]
theorem Eu(l:List Df)(d a:Int)(hs:nW 100 100000000 l)(S:Cy d)(v:Cy a):Ok prog 78 [gG l,aJ d,aJ a] ⟨.own 2 ((iH l d a).map Df.d),true⟩:=by
 refine bL func78 rfl ntmps78 results78 λw0 X y=>?_;have hl:=hs.len;have o:Cy (a.tdiv 3):=KA (m:=2) v;have a4:Cy (a.tdiv 7):=KA (m:=6) v;have H:Cy (a.tdiv 2):=KA (m:=1) v;have B:Cy (d.tdiv 11):=KA (m:=10) S;unfold Cy at S v o a4 H B;apply aD;simp;apply aD;simp;refine⟨aE,?_⟩;apply aF;apply aP;simp;refine⟨λZ=>?_,λZ=>?_⟩
 .have Q:l=[]:=by first|exact Z|exact B8 aE
  subst Q;have kd:=NS [d,a] (by intro n O;simp at O;rcases O with rfl|rfl<;>assumption);obtain⟨D,hD⟩:∃D,NR [d,a]=D:=⟨_,rfl⟩;rw[hD]at kd;have A:iH [] d a=[D]:=by unfold iH;rw[if_pos rfl,hD]
  refine cP (og 19 (.plain ⟨.d D.d,true⟩)) ?_;simp;refine⟨⟨rfl,by simpa using kd⟩,?_⟩;apply aH;simp[A]
 .have P:l≠[]:=λe=>Z (by rw[e]);have a9:0<l.length:=D6.2 P;have ak:=dP a (l.length:Int) aE;have kk:=eW a (l.length:Int) v.1 v.2 aE;obtain⟨k,hk⟩:∃k:Nat,bS a (l.length:Int)=(k:Int):=⟨(bS a (l.length:Int)).toNat,aE⟩;rw[hk]at ak kk;have j:k<l.length:=aE;obtain⟨x,E⟩:∃x,l[k]=x:=⟨_,rfl⟩;obtain⟨b0,b1⟩:=hs.each x (E▸C0 j);have a5:l.getD k default=x:=by rw[A0,A2 j,E];rfl
  have ac:=dP d 11 bF;have kc:=eW d 11 S.1 S.2 bF;obtain⟨c,hc⟩:∃c,bS d 11=c:=⟨_,rfl⟩;rw[hc]at ac kc;have A:iH l d a=Hh l d a c k x:=by unfold iH;rw[if_neg P,hk,C3,hc,a5]
  apply aG;simp;refine cP (og 24 (.plain ⟨.d (aJ (k:Int)),true⟩)) ?_;simp;refine⟨kk,?_⟩;apply aD;simp[j,E];refine aY (ι:=List Df) (λr=>aQ [(7,.ow 7 0 r.length)]) (λr=>aL [(7,.row false 2 (r.map Df.d))]) (λr=>Is r (Hh l d a c k x)) ?_ λr N=>?_
  .refine cP (og 31 (.plain ⟨.d (aJ c),true⟩)) ?_;simp;refine⟨kc,?_⟩;apply aM;apply aP;simp;refine⟨λh8=>?_,λh8=>?_⟩
   .have q:=dP (a.tdiv 3) 5 bF;have g:=eW (a.tdiv 3) 5 o.1 o.2 bF;obtain⟨u,f⟩:∃w,spN.getD (bS (a.tdiv 3) 5).toNat []=w:=⟨_,rfl⟩;have I:u.length<=60:=by rw[<-f];exact getD_len aAg
    have i:=AD (L:=spN) q.1 (by show _<5;omega) f;simp[spN]at i;refine aU (og 58 (.plain ⟨.d (aJ (bS (a.tdiv 3) 5)),true⟩)) ?_;simp[j,E,i];refine⟨by(repeat' with_reducible apply And.intro)<;>first|omega|with_reducible assumption|decide|simpa using g|simpa using t,?_⟩;refine aAV.mk (l.set k ⟨u,x.text⟩) (aA y [7] [(12,7)] (hH:=by simp[Df.d])) ?_;have e:c=0:=aE;subst e;show l.set k ⟨u,x.text⟩=_;rw[<-f];rfl
   .refine aY (ι:=Unit) (λU=>aQ [(0,.d (gG l)),(1,.d (aJ d)),(2,.d (aJ a)),(7,.ow 12 0 l.length),(8,.d (aJ (k:Nat))),(9,.d (.str x.name)),(31,.d (aJ c)),(63,.d (.bool (decide (c=1\/c=2))))]) (λU=>aL [(12,.row false 2 (l.map Df.d))]) (λU=>True) ?_ λU a8=>?_
    .apply aP;simp;refine⟨λG=>?_,λG=>?_⟩
     .apply aG;simp;exact(aA y [0,1,2,7,8,9,31,63] [(12,12)] (by simp[G]))
     .apply aI;simp;exact(aA y [0,1,2,7,8,9,31,63] [(12,12)] (by simp[G]))
    .apply aK;simp;refine⟨λK=>?_,λK a7=>?_⟩
     .have g:=NQ x.text (a.tdiv 3) (d.tdiv 11) a aE o B v;refine aU (og 78 (.plain ⟨.d (.str (changedS x.text (a.tdiv 3) (d.tdiv 11) a)),true⟩)) ?_;simp[j,E];refine⟨by(repeat' with_reducible apply And.intro)<;>first|omega|with_reducible assumption|decide|simpa using g|simpa using t,?_⟩;refine aAV.mk (l.set k ⟨x.name,changedS x.text (a.tdiv 3) (d.tdiv 11) a⟩) (aA y [7] [(12,7)] (hH:=by simp[Df.d])) ?_;rcases K with e|e<;>(subst e;rfl)
     .apply aP;simp;refine⟨λM=>?_,λM=>?_⟩
      .apply aF;refine fL.rd [] [[],[],[],[],[],[],[],[12],[6]] (λ|90=>some .inp|_=>none) ?_;simp[(show((l.length:Int)-((k:Int)+1)).toNat=l.length-(k+1)by omega),(show k+(l.length-(k+1))=l.length-1 by omega)];refine⟨aE,?_⟩;apply aH;have e:iH l d a=l.eraseIdx k:=by rw[A,M];rfl
       rw[e];have el:(l.eraseIdx k).length=l.length-1:=by rw[List.length_eraseIdx];simp[j]
       have er:=aAm (b:=l.map Df.d) (n:=l.length) bC j;simp[el];exact⟨aE,by rw[aDw];exact er⟩
      .apply aP;simp;refine⟨λV=>?_,λV=>?_⟩
       .apply aI;simp[j,E];refine⟨aE,?_⟩;refine aAV.mk (l++[x]) (aA y [7] [(99,7)] (hH:=by simp[Df.d])) ?_;have e:c=4:=aE;subst e;show l++[x]=_;rfl
       .apply aP;simp;refine⟨λW=>?_,λW=>?_⟩
        .have q:=dP (a.tdiv 3) 5 bF;have g:=eW (a.tdiv 3) 5 o.1 o.2 bF;obtain⟨u,f⟩:∃w,spW.getD (bS (a.tdiv 3) 5).toNat []=w:=⟨_,rfl⟩;have I:u.length<=60:=by rw[<-f];exact getD_len aAh
         have i:=AD (L:=spW) q.1 (by show _<5;omega) f;simp[spW]at i;have F:=dP (a.tdiv 3) 5 bF;have t:=eW (a.tdiv 3) 5 o.1 o.2 bF;obtain⟨J,s⟩:∃w,spT.getD (bS (a.tdiv 3) 5).toNat []=w:=⟨_,rfl⟩;have a6:J.length<=60:=by rw[<-s];exact getD_len aAi
         have z:=AD (L:=spT) F.1 (by show _<5;omega) s;simp[spT]at z;refine fL.rd [[104,107,113,116],[104,107,113,116],[107,113,116],[104,113],[104,113],[104,113],[113,116],[113,116],[113,116],[104,107,113,116],[113,116],[104,107,116],[104,107,113],[104,107,113],[104,113],[104],[104]] [[],[],[104],[],[],[107],[],[],[],[],[],[113],[],[],[116],[],[],[],[],[],[12]] (λ|107=>some<| .plain ⟨.d (aJ (bS (a.tdiv 3) 5)),true⟩|116=>some<| .plain ⟨.d (aJ (bS (a.tdiv 3) 5)),true⟩|_=>none) ?_;simp[j,E,i,z];refine⟨by(repeat' with_reducible apply And.intro)<;>first|omega|with_reducible assumption|decide|simpa using g|simpa using t,?_⟩;refine aAV.mk (l.set k ⟨x.name,u++[32]++x.name++J⟩) (aA y [7] [(12,7)] (hH:=by simp[Df.d])) ?_;have e:c=5:=aE;subst e;show l.set k ⟨x.name,u++[32]++x.name++J⟩=_;rw[<-f,<-s];rfl
        .apply aP;simp;refine⟨λY=>?_,λY=>?_⟩
         .apply aI;simp;refine⟨aE,?_⟩;refine aAV.mk (l++[⟨[122,111,111],[112,114,111,99,32,122,111,111,32,123,32,99,97,108,108,32]++x.name++[59,32,103,111,32,122,111,111,59,32,125]⟩]) (aA y [7] [(130,7)] (hH:=by simp[Df.d])) ?_;have e:c=6:=aE;subst e;show l++[⟨[122,111,111],[112,114,111,99,32,122,111,111,32,123,32,99,97,108,108,32]++x.name++[59,32,103,111,32,122,111,111,59,32,125]⟩]=_;rfl
         .apply aP;simp;refine⟨λa0=>?_,λa0=>?_⟩
          .have q:=dP a 3 bF;have g:=eW a 3 v.1 v.2 bF;obtain⟨u,f⟩:∃w,spZ.getD (bS a 3).toNat []=w:=⟨_,rfl⟩;have I:u.length<=60:=by rw[<-f];exact getD_len aAj
           have i:=AD (L:=spZ) q.1 (by show _<3;omega) f;simp[spZ]at i;refine aU (og 137 (.plain ⟨.d (aJ (bS a 3)),true⟩)) ?_;simp[i];refine⟨by(repeat' with_reducible apply And.intro)<;>first|omega|with_reducible assumption|decide|simpa using g|simpa using t,?_⟩;refine aAV.mk (l++[⟨[122],[112,114,111,99,32,122,32,123,32,99,97,108,108,32,122,122,59,32,125]⟩,⟨[122,122],[112,114,111,99,32,122,122,32,123,32]++u++[32,125]⟩]) (aA y [7] [(144,7)] (hH:=by simp[Df.d])) ?_;have e:c=7:=aE;subst e;show l++[⟨[122],[112,114,111,99,32,122,32,123,32,99,97,108,108,32,122,122,59,32,125]⟩,⟨[122,122],[112,114,111,99,32,122,122,32,123,32]++u++[32,125]⟩]=_;rw[<-f];rfl
          .apply aP;simp;refine⟨λa1=>?_,λa1=>?_⟩
           .have q:=dP a 2 bF;have g:=eW a 2 v.1 v.2 bF;obtain⟨u,f⟩:∃w,spA.getD (bS a 2).toNat []=w:=⟨_,rfl⟩;have I:u.length<=60:=by rw[<-f];exact getD_len aAk
            have i:=AD (L:=spA) q.1 (by show _<2;omega) f;simp[spA]at i;have F:=dP (a.tdiv 2) 3 bF;have t:=eW (a.tdiv 2) 3 H.1 H.2 bF;obtain⟨J,s⟩:∃w,spC.getD (bS (a.tdiv 2) 3).toNat []=w:=⟨_,rfl⟩;have a6:J.length<=60:=by rw[<-s];exact getD_len aAl
            have z:=AD (L:=spC) F.1 (by show _<3;omega) s;simp[spC]at z;refine fL.rd [[148,150,156,159,165],[150,156,159],[148,156],[148,156],[156,159],[156,159],[156,159],[156,159],[156,159],[148,150,159],[148,150,156],[148,150,156],[148,156],[148],[148],[148],[148],[148]] [[],[148],[],[150],[],[],[],[],[],[156],[],[],[159],[],[],[],[],[],[165],[12,166]] (λ|150=>some<| .plain ⟨.d (aJ (bS a 2)),true⟩|159=>some<| .plain ⟨.d (aJ (bS (a.tdiv 2) 3)),true⟩|_=>none) ?_;simp[i,z];refine⟨by(repeat' with_reducible apply And.intro)<;>first|omega|with_reducible assumption|decide|simpa using g|simpa using t,?_⟩;refine aAV.mk (l++[⟨[103],[114,101,99,32,103,32,123,32,97,32,61,32,49,59,32]++u++[32,61,32,50,59,32,125]⟩,⟨[119],[112,114,111,99,32,119,32,123,32,103,46]++J++[32,61,32,49,59,32,125]⟩]) (aA y [7] [(166,7)] (hH:=by simp[Df.d])) ?_;have e:c=8:=aE;subst e;show l++[⟨[103],[114,101,99,32,103,32,123,32,97,32,61,32,49,59,32]++u++[32,61,32,50,59,32,125]⟩,⟨[119],[112,114,111,99,32,119,32,123,32,103,46]++J++[32,61,32,49,59,32,125]⟩]=_;rw[<-f,<-s];rfl
           .apply aP;simp;refine⟨λa2=>?_,λa2=>?_⟩
            .apply aM;refine aO (ι:=List Df) (λm=>aQ [(2,.d (aJ a)),(7,.ow 12 0 m.length)]) (λm=>aL [(12,.row false 2 (m.map Df.d))]) (λm=>Is m (vA l m.length)/\l.length<=m.length/\(l.length<m.length->m.length<=23+(bS a 3).toNat)/\m.length<=100) (λm=>30-m.length) l (aA y [2,7] [(12,12)]) (⟨by unfold vA Is;simp,D8 _,λh=>absurd h (H5 _),hl⟩) λm p=>?_;apply eG;have aw:=dP a 3 bF;have g:=eW a 3 v.1 v.2 bF;refine aU (og 172 (.plain ⟨.d (aJ (bS a 3)),true⟩)) ?_;simp;refine⟨⟨g,aE⟩,?_⟩;apply aK;simp;refine⟨λa3=>?_,λa3=>?_⟩
             .apply aG;simp;apply aM;have kd:=RD_ok (m.length:Int) aE aE;have il:=cG (m.length:Int);refine aU (λ|178=>some<| .plain ⟨.d (.str (itoaS (m.length:Int))),true⟩|182=>some<| .plain ⟨.d (.str (itoaS (m.length:Int))),true⟩|_=>none) ?_;simp;refine⟨by(repeat' with_reducible apply And.intro)<;>first|omega|with_reducible assumption,?_⟩;refine QT.mk (m++[vD m.length]) (aA y [2,7] [(187,12)] (hH:=by simp[vD,Df.d])) ?_ ?_
              .exact⟨QF p.1 p.2.1,jJ,λ_=>jJ,jJ⟩
              .simp;omega
             .apply bG;simp;refine aAV.mk (m) (aA y [7] [(12,7)] (hH:=by simp[Df.d])) ?_;have e:c=9:=aE;subst e;exact VP p.1 p.2.1 aE p.2.2.1
            .have g:=QB x.text [a,a.tdiv 3,a.tdiv 7,d,a.tdiv 2,1,2] aE (by intro n O;simp at O;rcases O with rfl|rfl|rfl|rfl|rfl|rfl|rfl<;>omega);obtain⟨sp,C⟩:∃w,spacedS x.text [a,a.tdiv 3,a.tdiv 7,d,a.tdiv 2,1,2]=w:=⟨_,rfl⟩;rw[C]at g;simp at g;refine aU (og 48 (.plain ⟨.d (.str sp),true⟩)) ?_;simp[j,E];refine⟨by(repeat' with_reducible apply And.intro)<;>first|omega|with_reducible assumption|decide|simpa using g|simpa using t,?_⟩;refine aAV.mk (l.set k ⟨x.name,sp⟩) (aA y [7] [(12,7)] (hH:=by simp[Df.d])) ?_;have e:c=10:=aE;subst e;show l.set k ⟨x.name,sp⟩=_;rw[<-C];rfl
  .apply aD;simp;apply aH;have e:r=iH l d a:=(show r=_ from N).trans A.symm;have tk:D3 r.length (D1 Df.d r)=D1 Df.d r:=A5 (by rw[C9];exact D8 _);simp[<-e,tk]
theorem VQ(a b:List Df)(t:a.length<=1000000)(w:b.length<=1000000):Ok prog 30 [gG a,gG b] ⟨.d (.bool (CD (bP a) (bP b))),true⟩:=by
 refine bL func30 rfl ntmps30 results30 λC X l=>?_;obtain⟨u,m⟩:∃u,bP a=u:=⟨_,rfl⟩;obtain⟨v,n⟩:∃v,bP b=v:=⟨_,rfl⟩;have o:=RSort_ok a t;have p:=RSort_ok b w;have x:=dW a;have y:=dW b;rw[m]at o x;rw[n]at p y;rw[m,n];apply aD;simp;refine cP (og 9 (.plain ⟨.own 2 (u.map Df.d),true⟩)) ?_;simp;refine⟨by simpa using o,?_⟩;refine cP (og 11 (.plain ⟨.own 2 (v.map Df.d),true⟩)) ?_;simp;refine⟨by simpa using p,?_⟩;apply aF;apply aP;simp;refine⟨λk=>?_,λk=>?_⟩
 .apply aD;simp;apply aH;simp;rw[E8];intro q;exact k (by rw[Jk q])
 .apply aG;simp;apply dA;simp;apply aM;refine aO (ι:=Nat) (λi=>aQ [(5,.ow 9 0 u.length),(6,.ow 11 0 v.length),(7,.d (aJ (i:Nat)))]) (λi=>aL [(9,.row false 2 (u.map Df.d)),(11,.row false 2 (v.map Df.d))]) (λi=>i<=u.length/\(u.map KQ).take i=(v.map KQ).take i) (λi=>u.length-i) 0 (aA l [5,6,7] [(9,9),(11,11)]) (⟨B9 _,rfl⟩) λi d=>?_;apply aF;apply aP;simp;refine⟨λs=>?_,λs=>?_⟩
  .apply aG;simp;apply cR;apply aF;have j:i<u.length:=aE;have c:i<v.length:=aE;have z:=RMean_ok u[i];have A:=RMean_ok v[i];refine fL.rd [[],[],[],[],[],[],[],[],[],[],[],[],[],[],[],[],[],[39],[39],[39],[39]] [[],[],[],[],[],[],[],[],[],[],[],[],[],[],[],[],[39],[],[],[],[],[44]] (λ|39=>some<| .plain ⟨.d (.str (gW u[i])),true⟩|44=>some<| .plain ⟨.d (.str (gW v[i])),true⟩|_=>none) ?_;simp[j,c];refine⟨⟨λ_=>by simpa using z,λ_=>by simpa using A⟩,?_⟩;apply aK;simp;refine⟨λf=>?_,λf g=>?_⟩
   .apply aD;simp;apply aH;simp;rw[E8];intro q;have r:=congrArg (·[i]?) (of_decide_eq_true q);simp only[B1,A2 j,A2 c,Option.map_some,Option.some.injEq]at r;have q2:=Fb.1 r;rcases f with h|h
    .exact h q2.1
    .exact h q2.2
   .apply aG;simp;apply aI;simp;refine⟨aE,?_⟩;refine QT.mk (i+1) (aA l [5,6,7] [(9,9),(11,11)]) ?_ ?_
    .refine⟨aE,?_⟩;rw[C4 (by simpa using j),C4 (by simpa using c),d.2,C6,C6,Fb.2 ⟨f,g⟩]
    .omega
  .apply bG;simp;apply aD;simp;apply aH;simp;have e:i=u.length:=aE;have B:i=v.length:=aE;have h:=d.2;rw[A5 jJ,A5 jJ]at h;exact decide_eq_true h
def xB:List Df:=[⟨[97],[118,97,114,32,97,32,61,32,48,59]⟩,⟨[103],[114,101,99,32,103,32,123,32,110,32,61,32,49,59,32,125]⟩,⟨[112],[112,114,111,99,32,112,32,123,32,97,32,61,32,103,46,110,59,32,125]⟩,
 ⟨[113],[112,114,111,99,32,113,32,123,32,99,97,108,108,32,112,59,32,103,111,32,113,59,32,125]⟩,⟨[116],[116,101,115,116,32,116,32,123,32,99,97,108,108,32,112,59,32,99,104,101,99,107,32,97,32,61,61,32,49,59,32,125]⟩]
def exW(t:bA):List Df:=[xB[0],xB[1],⟨[112],t⟩,xB[3],xB[4]]
theorem Hi:Ok prog 94 [] ⟨.own 2 (xB.map Df.d),true⟩:=by
 refine bL func94 rfl ntmps94 results94 λb X a=>?_;apply aD;simp;apply aD;simp;refine⟨bF,?_⟩;apply aH;simp[xB,Df.d]
theorem KV(t:bA):Ok prog 95 [.str t] ⟨.own 2 ((exW t).map Df.d),true⟩:=by
 refine bL func95 rfl ntmps95 results95 λb X a=>?_;apply aD;simp;refine cP (og 4 (.plain ⟨.own 2 (xB.map Df.d),true⟩)) ?_;simp;refine⟨Hi,?_⟩;apply aD;simp;refine⟨⟨bF,bF⟩,?_⟩;apply aD;simp;apply aH;simp[exW,xB,Df.d]
def dAt(l:List Df)(nm:bA):Df:=l.getD (uZ l nm).toNat default
def QG(l:List Df)(name:bA):List Df×Int:=
 if(chkR l).2≠0 then([],(chkR l).2)else if uZ l name<0 then([],6)else((putS (reachR l name false) name).map (dAt l),0)
end
set_option maxRecDepth 100000
theorem aDx:chkR xB=(5,0):=bF
theorem aAn:usesR xB [112]=([[97],[103]],0):=bF
theorem aAo:usesR xB [116]=([[97],[112]],0):=bF
theorem aAp:testsR xB=[[116]]:=bF
theorem aAq:QG xB [116]=([xB[0],xB[1],xB[2],xB[4]],0):=bF
theorem aCa:chkR (exW [112,114,111,99,32,112,32,123,32,97,32,61,32,103,46,109,59,32,125])=(2,6):=bF
theorem aCb:chkR (exW [112,114,111,99,32,112,32,123,32,97,32,61,32,116,59,32,125])=(2,12):=bF
theorem aCc:chkR (exW [112,114,111,99,32,112,32,123,32,99,97,108,108,32,113,59,32,125])=(2,13):=bF
theorem aCd:chkR [xB[0],xB[2],xB[3],xB[4]]=(1,6):=bF
theorem aCe:CD (bP [⟨[97],[118,97,114,32,97,61,48,32,59]⟩]) (bP [xB[0]])=true:=bF
abbrev Hm(a b:bA):Bool:=Op.bytesLess a b
theorem tC{out:List bA}{s:bA}(h:gE Hm out):gE Hm (putS out s):=by
 unfold putS;split
 .exact h
 .rename_i t;obtain⟨u,v⟩:=Dj (p:=λy:bA=>Op.bytesLess s y) (out:=out) out.length (D8 _);have r:=EP (p:=λy:bA=>Op.bytesLess s y) (out:=out) out.length;unfold gU;generalize lH (λy:bA=>Op.bytesLess s y) out out.length=k at*;have l:∀a∈out.take k,Hm a s=true:=λa j=>by
   obtain⟨i,m,rfl⟩:=E1 j;rw[List.getElem_take];rw[C1]at m;obtain⟨c,rfl⟩:∃c,k=c+1:=⟨k-1,aE⟩;have f:c<out.length:=aE;have o:=v c f rfl;have n:Hm out[c] s=true:=by
    cases q:Hm out[c] s with
    |true=>rfl
    |false=>exact absurd (bA.sto.total _ _ o q) (λe=>t (by rw[e];exact C0 f))
   by_cases e:i=c
   .subst e;exact n
   .exact bA.sto.trans _ _ _ (D5.1 h i c aE f aE) n
  have j:∀b∈out.drop k,Hm s b=true:=λb l=>by
   obtain⟨i,m,rfl⟩:=E1 l;rw[List.getElem_drop];rw[C8]at m;exact u (k+i) aE aE aE
  refine List.pairwise_append.2 ⟨h.sublist (List.take_sublist _ _),List.pairwise_cons.2 ⟨j,h.sublist (List.drop_sublist _ _)⟩,λa g b d=>?_⟩;rcases B2.1 d with rfl|d
  .exact l a g
  .exact bA.sto.trans _ _ _ (l a g) (j b d)
theorem CG{l:List bA}(h:l.Nodup):gE Hm (eE l):=by
 have c:(eE l).Perm l:=F8 l _;have d:(eE l).Nodup:=c.nodup_iff.2 h;have e:=dedup_nodup d;rw[<-e];exact qN bA.sto ((qQ l).imp λ{a b} h=>by
  rw[bytesLess_eq,decide_eq_false_iff_not,I0];exact h)
theorem Jq{l:List bA}{s:bA}:s∈eE l↔s∈l:=(F8 l _).mem_iff
theorem NU(a:List dF):gE Hm (putAll a)/\∀s,s∈putAll a↔∃u∈a,u.name=s:=by
 have:∀(a:List dF) (M:List bA),gE Hm M->gE Hm (a.foldl (λM u=>putS M u.name) M)/\∀s,s∈a.foldl (λM u=>putS M u.name) M↔s∈M\/∃u∈a,u.name=s:=λa=>by
  induction a with
  |nil=>exact λM h=>⟨h,bC⟩
  |cons u r ih=>
   intro M h;obtain⟨b,c⟩:=ih (putS M u.name) (tC h);rw[E0];refine⟨b,λs=>?_⟩;rw[c,mem_putS];simp only[B2,exists_eq_or_imp];constructor
   .rintro((e|h)|h)
    .exact .inr (.inl e.symm)
    .exact .inl h
    .exact .inr (.inr h)
   .rintro(h|(e|h))
    .exact .inl (.inr h)
    .exact .inl (.inl e.symm)
    .exact .inr h
 have h:=this a [] List.Pairwise.nil;exact⟨h.1,λs=>by simpa [putAll]using h.2 s⟩
theorem NV(c:List dF):(fC c).Nodup/\∀s,s∈fC c↔∃u∈c,u.name=s:=by
 have:∀(c:List dF) (M:List bA),M.Nodup->(c.foldl (λM u=>Du M u.name) M).Nodup/\∀s,s∈c.foldl (λM u=>Du M u.name) M↔s∈M\/∃u∈c,u.name=s:=λc=>by
  induction c with
  |nil=>exact λM h=>⟨h,bC⟩
  |cons u r ih=>
   intro M h;have d:(Du M u.name).Nodup/\∀s,s∈Du M u.name↔s∈M\/u.name=s:=by
    unfold Du;split
    .rename_i f;exact⟨h,λs=>⟨.inl,λq=>q.elim id λe=>e▸f⟩⟩
    .rename_i f;refine⟨E9.2 ⟨h,bC,λa d b g e=>?_⟩,λs=>by simp[eq_comm]⟩;simp at g;subst g;subst e;exact f d
   obtain⟨i,j⟩:=ih (Du M u.name) d.1;rw[E0];refine⟨i,λs=>?_⟩;rw[j,d.2];simp only[B2,exists_eq_or_imp];rw[or_assoc]
 have h:=this c [] List.nodup_nil;exact⟨h.1,λs=>by simpa [fC]using h.2 s⟩
theorem aAr(a:List dF):eE (fC a)=putAll a:=by
 obtain⟨b,c⟩:=NV a;obtain⟨d,e⟩:=NU a;exact Au bA.sto (CG b) d λs=>by rw[Jq,c,e]
theorem SY(l:List Df)(a:bA):Jj l a=usesR l a:=by
 unfold Jj usesR;cases l.findIdx? (λd=>decide (d.name=a))with
 |none=>rfl
 |some i=>
  simp only[GZ,usesRAt];rw[aAr]
theorem tD{l:List Df}(h:(dR l).2.2=0):(dR l).1=l.map treeD:=by
 have b:=((wK l).2.2 h).1;have a:=readP_first (l:=l) b;cases q:eV (q1 l) l.length with
 |some k=>rw[q]at a;exact absurd h a.2
 |none=>rw[q]at a;rw[a]
theorem aAs{l:List Df}(h:(l.map treeD).map Nd.text=l.map Df.name):∀d∈l,(treeD d).text=d.name:=by
 rw[F5]at h;exact List.map_inj_left.1 h
theorem QH{l:List Df}(h:∀d∈l,(treeD d).text=d.name):jA (l.map treeD)=(l.filter λd=>decide ((treeD d).kind=6)).map Df.name:=by
 induction l with
 |nil=>rfl
 |cons d r b=>
  have b:=b λx e=>h x (B6 _ e);have c:=h d (B5 ..);unfold jA at*;rw[D9];by_cases a:(treeD d).kind=6
  .rw[F0 (by simpa using a),F0 (by simpa using a),D9,D9,b,c]
  .rw[F1 (by simpa using a),F1 (by simpa using a),b]
theorem KW(l:List Df):gE Hm (testsRt l)/\∀s,s∈testsRt l↔∃d∈l,(treeD d).kind=6/\d.name=s:=by
 have:∀(l:List Df) (M:List bA),gE Hm M->gE Hm (l.foldl (λM d=>if(parseS d.text).1.kind=6 then putS M d.name else M) M)/\∀s,s∈l.foldl (λM d=>if(parseS d.text).1.kind=6 then putS M d.name else M) M↔s∈M\/∃d∈l,(treeD d).kind=6/\d.name=s:=λl=>by
  induction l with
  |nil=>exact λM h=>⟨h,bC⟩
  |cons d r ih=>
   intro M h;rw[E0];by_cases b:(parseS d.text).1.kind=6
   .rw[if_pos b];obtain⟨c,f⟩:=ih (putS M d.name) (tC h);refine⟨c,λs=>?_⟩;rw[f,mem_putS];simp only[B2,exists_eq_or_imp];have a:(treeD d).kind=6:=b;constructor
    .rintro((e|h)|h)
     .exact .inr (.inl ⟨a,e.symm⟩)
     .exact .inl h
     .exact .inr (.inr h)
    .rintro(h|(⟨_,e⟩|h))
     .exact .inl (.inr h)
     .exact .inl (.inl e.symm)
     .exact .inr h
   .rw[if_neg b];obtain⟨c,f⟩:=ih M h;refine⟨c,λs=>?_⟩;rw[f];simp only[B2,exists_eq_or_imp];have a:¬(treeD d).kind=6:=b;constructor
    .rintro(h|h)
     .exact .inl h
     .exact .inr (.inr h)
    .rintro(h|(⟨e,_⟩|h))
     .exact .inl h
     .exact absurd e a
     .exact .inr h
 have h:=this l [] List.Pairwise.nil;exact⟨h.1,λs=>by simpa [testsRt]using h.2 s⟩
theorem aAt(l:List Df):KM l=testsR l:=by
 unfold KM testsR;have i:=Qp l;by_cases h:(nS l).2.2=0
 .have a:(chkR l).2=0:=by rw[<-i];exact h
  rw[if_neg (by simpa using h),if_neg (by simpa using a)];have g:=chkP_ok h;obtain⟨j,n⟩:=readP_names g;rw[KN,tD g];rw[tD g]at j;rw[QH (aAs j)];obtain⟨k,m⟩:=KW l;have f:((l.filter λd=>decide ((treeD d).kind=6)).map Df.name).Nodup:=n.sublist (List.Sublist.map _ List.filter_sublist);refine Au bA.sto (CG f) k λs=>?_;rw[Jq];refine Iff.trans ?_ (m s).symm;simp only[A9,F6,decide_eq_true_eq];constructor
  .rintro⟨d,⟨b,c⟩,e⟩;exact⟨d,b,c,e⟩
  .rintro⟨d,b,c,e⟩;exact⟨d,⟨b,c⟩,e⟩
 .have a:(chkR l).2≠0:=by rw[<-i];exact h
  rw[if_pos h,if_pos a]
theorem Jr{p:Nat->Bool}{n i:Nat}(h:eV p n=some i):i<n/\p i=true:=by
 unfold eV at h;exact⟨B7.1 (E6 h),List.find?_some h⟩
theorem QI{p:Nat->Bool}{n:Nat}(h:eV p n=none):∀i<n,p i=false:=λi a=>by
 unfold eV at h;rw[G0]at h;simpa using h i (B7.2 a)
theorem aCf{l:List Df}(h:(chkR l).2=0):∀i<l.length,q2 l i=false:=by
 unfold chkR at h;split at h
 .cases h
 .unfold chkR1 at h;cases a:eV (q1 l) l.length with
  |some i=>
   rw[a]at h;have:=(Jr a).2;unfold q1 at this;exact absurd h (of_decide_eq_true this)
  |none=>
   rw[a]at h;simp only at h;unfold chkR2 at h;cases b:eV (q2 l) l.length with
   |some i=>
    rw[b]at h;have:=(Jr b).2;unfold q2 at this;exact absurd h (of_decide_eq_true this)
   |none=>exact QI b
theorem NW{c:Bool}{a:List bA×List bA}{u:dF}(h:gE Hm a.1):gE Hm (bfsS c a u).1:=by
 unfold bfsS;split
 .exact tC h
 .exact h
theorem Ev{l:List Df}{c:Bool}:∀(f n:Nat) (a:List bA×List bA),gE Hm a.1->gE Hm (bfsF l c f n a)
 |0,_,_,h=>h
 |f+1,n,a,h=>by
  rw[bfsF];cases a.2[n]? with
  |none=>exact h
  |some nm=>
   refine Ev f (n+1) _ ?_;unfold bfsN;split
   .exact h
   .have:∀(b:List dF) (a:List bA×List bA),gE Hm a.1->gE Hm (b.foldl (bfsS c) a).1:=λb=>by
     induction b with
     |nil=>exact λa h=>h
     |cons u r ih=>exact λa h=>ih _ (NW h)
    exact this _ a h
theorem Hz{L:List bA}(h:L.Pairwise λa b=>a<=b)(c:L.Nodup):gE Hm L:=by
 rw[<-dedup_nodup c];exact qN bA.sto (h.imp λ{a b} h=>by rw[bytesLess_eq,decide_eq_false_iff_not,I0];exact h)
theorem aCg{l:List Df}(h:(l.map treeD).map Nd.text=l.map Df.name)(b:(l.map Df.name).Nodup){i:Nat}(a:i<l.length):dAt l l[i].name=l[i]:=by
 unfold dAt;rw[idxN_at h,KR h b a];simp only[xA,C3];rw[A0,A2 a];rfl
theorem SZ(k:Int):cbR false k=allB k:=by simp[cbR,allB]
theorem aAu(l:List Df)(c:bA):sliceP l c=QG l c:=by
 unfold sliceP QG;have z:=Qp l;by_cases v:(nS l).2.2=0
 .have h:(chkR l).2=0:=by rw[<-z];exact v
  rw[if_neg (by simpa using v),if_neg (by simpa using h)];have B:=chkP_ok v;obtain⟨q,w⟩:=readP_names B;rw[KN,tD B];rw[tD B]at q;have E:=aCf h;rw[idxN_at q];cases D:pX (l.map treeD) c with
  |none=>simp[xA]
  |some i=>
   obtain⟨p,rfl⟩:=CF q D;rw[if_neg (show¬(xA (some i)<0)by show¬((i:Int)<0);omega)];have o:(l.map treeD).length=l.length:=bC;have C:=sliceAt_names (ts:=l.map treeD) (i:=i) w o (by rw[o];exact p);have A:=reachI_in (l.map treeD) allB i;have a:=oN (sliceAt l (l.map treeD) i);have x:gE Hm ((bP (sliceAt l (l.map treeD) i)).map Df.name):=by
    refine Hz ?_ ((a.map Df.name).nodup_iff.2 C);rw[List.pairwise_map];exact qR _
   have y:gE Hm (putS (reachR l l[i].name false) l[i].name):=tC (Ev _ _ _ List.Pairwise.nil);have j:∀d∈sliceAt l (l.map treeD) i,∃k,∃f:k<l.length,d=l[k]/\(k=i\/k∈kE (l.map treeD) allB i):=λd b=>by
    rw[sliceAt_eq]at b;obtain⟨k,f,rfl⟩:=A9.1 b;rcases B2.1 f with rfl|f
    .exact⟨k,p,by rw[A0,A2 p];rfl,.inl rfl⟩
    .have r:=(F6.1 f).1;have t:k<l.length:=by have:=A.2 k r;rwa[o]at this
     exact⟨k,t,by rw[A0,A2 t];rfl,.inr r⟩
   have g:(bP (sliceAt l (l.map treeD) i)).map Df.name=putS (reachR l l[i].name false) l[i].name:=by
    refine Au bA.sto x y λs=>?_;rw[mem_putS,Hb];constructor
    .intro u;obtain⟨d,b,rfl⟩:=A9.1 u;obtain⟨k,f,rfl,m⟩:=j d (a.mem_iff.1 b);rcases m with rfl|m
     .exact .inl rfl
     .obtain⟨_,n⟩:=NE q w SZ p ((reachI_iff _ _ _ _).1 m);exact .inr n
    .intro u;refine A9.2 ?_;rcases u with rfl|u
     .exact⟨l[i],a.mem_iff.2 (by rw[sliceAt_eq];exact A9.2 ⟨i,B5 ..,by rw[A0,A2 p];rfl⟩),rfl⟩
     .obtain⟨k,f,rfl,n⟩:=Hc q w E SZ p u;refine⟨l[k],a.mem_iff.2 ?_,rfl⟩;rw[sliceAt_eq];refine A9.2 ⟨k,?_,by rw[A0,A2 f];rfl⟩;by_cases e:k=i
      .subst e;exact B5 ..
      .exact B6 _ (F6.2 ⟨(reachI_iff _ _ _ _).2 n,by simpa using e⟩)
   rw[<-g,F5];refine Prod.ext ?_ rfl;show bP (sliceAt l (l.map treeD) i)=_
   conv=>lhs;rw[<-List.map_id (bP (sliceAt l (l.map treeD) i))]
   refine List.map_congr_left λd b=>?_;obtain⟨k,f,rfl,_⟩:=j d (a.mem_iff.1 b);exact(aCg q w f).symm
 .have h:(chkR l).2≠0:=by rw[<-z];exact v
  rw[if_pos v,if_pos h,<-z]
section
attribute[local simp] aW bJ bE aR
attribute[local simp] lB.cond Nd.d_eq nd_t nd_dr nd_td ndsD aX jP
theorem wO(a b:List bA):Ok prog 35 [uB a,uB b] ⟨.d (.bool (decide (a=b))),true⟩:=by
 refine bL func35 rfl ntmps35 results35 λl X k=>?_;refine fL.len (t:=0) rfl λd=>?_;simp at d;apply aD;simp;apply aF;apply aP;simp;refine⟨λj=>?_,λj=>?_⟩
 .apply aD;simp;apply aH;simp;exact λe=>j (by rw[e])
 .apply aG;simp;apply dA;simp;apply aM;refine aO (ι:=Nat) (λi=>aQ [(0,.d (uB a)),(1,.d (uB b)),(5,.d (aJ i))]) (λi=>aL []) (λi=>i<=a.length/\a.take i=b.take i) (λi=>a.length-i) 0 (aA k [0,1,5] []) bC λi c=>?_;apply aF;apply aP;simp;refine⟨λf=>?_,λf=>?_⟩
  .apply aG;simp;apply cR;apply aF;refine fL.rd [] [] (λ_=>none) ?_;simp[f,show i<b.length by omega];apply aK;simp;refine⟨λh=>?_,λh=>?_⟩
   .apply aD;simp;apply aH;simp;intro e;subst e;simp at h
   .apply aG;simp;apply aI;simp;refine⟨aE,?_⟩;refine QT.mk (i+1) (aA k [0,1,5] []) ?_ ?_
    .exact⟨f,JS c.2 f aE (by simpa using h)⟩
    .omega
  .apply bG;simp;apply aD;simp;apply aH;simp;have e:i=a.length:=aE;have:=c.2;rw[e,F2]at this;have g:a.length=b.length:=aE;rw[this,g,F2]
end
section
attribute[local simp] aW bJ bE aR
attribute[local simp] lB.cond Nd.d_eq nd_t nd_dr nd_td ndsD aX bK bO
theorem zM{l:List Df}{a b:Int}(h:chkR l=(a,b)):Ok prog 34 [gG l] ⟨.tup [.d (aJ a),.d (aJ b)],true⟩:=by
 have k:=ZO l;rw[show(nS l).2=(a,b) from(Qp l).trans h]at k;exact k
theorem VR:Ok prog 31 [] ⟨.d (.bool true),true⟩:=by
 refine bL func31 rfl ntmps31 results31 λm X l=>?_;apply aD;simp;refine cP (og 19 (.plain ⟨.own 2 (xB.map Df.d),true⟩)) ?_;simp;refine⟨Hi,?_⟩;refine cP (og 22 (.plain ⟨.tup [.d (aJ 5),.d (aJ 0)],true⟩)) ?_;simp[bM];refine⟨by simpa using zM aDx,?_⟩;apply aF;have k:=SR xB [112];rw[SY,aAn]at k;refine aU (og 27 (.plain ⟨.tup [.own 1 ([[97],[103]].map .str),.d (aJ 0)],true⟩)) ?_;simp[bM];refine⟨by simpa using k,?_⟩;apply aF;have d:=SR xB [116];rw[SY,aAo]at d;refine aU (og 32 (.plain ⟨.tup [.own 1 ([[97],[112]].map .str),.d (aJ 0)],true⟩)) ?_;simp[bM];refine⟨by simpa using d,?_⟩;apply aF;have c:=Slice_ok xB [116] bF;rw[aAu,aAq]at c;obtain⟨b,a⟩:∃b,[xB[0],xB[1],xB[2],xB[4]]=b:=⟨_,rfl⟩;rw[a]at c;refine aU (og 37 (.plain ⟨.tup [.own 2 (b.map Df.d),.d (aJ 0)],true⟩)) ?_;simp[bM];refine⟨by simpa using c,?_⟩;refine cP (λ|41=>some<| .plain ⟨.own 2 ((exW [112,114,111,99,32,112,32,123,32,97,32,61,32,103,46,109,59,32,125]).map Df.d),true⟩|42=>some<| .plain ⟨.tup [.d (aJ 2),.d (aJ 6)],true⟩|_=>none) ?_;simp[bM];refine⟨⟨KV _,by simpa using zM aCa⟩,?_⟩;refine cP (λ|46=>some<| .plain ⟨.own 2 ((exW [112,114,111,99,32,112,32,123,32,97,32,61,32,116,59,32,125]).map Df.d),true⟩|47=>some<| .plain ⟨.tup [.d (aJ 2),.d (aJ 12)],true⟩|_=>none) ?_;simp[bM];refine⟨⟨KV _,by simpa using zM aCb⟩,?_⟩;refine cP (λ|51=>some<| .plain ⟨.own 2 ((exW [112,114,111,99,32,112,32,123,32,99,97,108,108,32,113,59,32,125]).map Df.d),true⟩|52=>some<| .plain ⟨.tup [.d (aJ 2),.d (aJ 13)],true⟩|_=>none) ?_;simp[bM];refine⟨⟨KV _,by simpa using zM aCc⟩,?_⟩;apply aF;refine fL.rd [[60],[56],[56],[56],[56],[],[56,60,61],[56,60,61]] [[56],[],[],[],[60],[56,61],[],[],[61,64],[65]] (og 65 (.plain ⟨.tup [.d (aJ 1),.d (aJ 6)],true⟩)) ?_;simp[bM,xB,Df.d];refine⟨by simpa [xB,Df.d]using zM aCd,?_⟩;apply aF;apply aP;simp;apply aG;simp;apply aF;have e:=ZP xB;rw[aAt,aAp]at e;have g:=wO [[116]] [[116]];have h:=wO [[97],[103]] [[97],[103]]
 have i:=wO [[97],[112]] [[97],[112]];simp[xB,Df.d]at e;simp at g h i;refine aU (λ|119=>some<| .plain ⟨.own 1 [.str [116]],true⟩|121=>some<| .plain ⟨.d (.bool true),true⟩|125=>some<| .plain ⟨.d (.bool true),true⟩|130=>some<| .plain ⟨.d (.bool true),true⟩|_=>none) ?_;simp;refine⟨by(repeat' with_reducible apply And.intro)<;>first|with_reducible assumption|decide,?_⟩;apply aF;have j:=RSameDefs_ok b b (by rw[<-a];decide);have f:=Jl [⟨[97],[118,97,114,32,97,61,48,32,59]⟩] [xB[0]] bF bF;rw[aCe]at f;simp[<-a,xB,Df.d]at j f;refine fL.rd [[],[],[147],[],[],[],[],[],[],[],[],[],[],[],[],[],[],[],[],[],[],[152],[152]] [[],[],[],[],[],[],[],[],[],[],[],[],[],[],[],[147],[148],[],[],[],[152],[],[],[155]] (λ|148=>some<| .plain ⟨.d (.bool true),true⟩|155=>some<| .plain ⟨.d (.bool true),true⟩|_=>none) ?_;simp[<-a,xB,Df.d];refine⟨by(repeat' with_reducible apply And.intro)<;>first|with_reducible assumption|decide,?_⟩;apply aH;simp
theorem VS{x:Nd}(h:Ps x):x.text.length<=(textT x).length:=by
 obtain⟨_,h⟩:=h;unfold textT;simp only[];split
 .rename_i q;split
  .simp only[A1,A3];omega
  .rename_i a;rcases h with⟨_,c,b,d⟩|⟨z,_⟩|⟨z,_⟩|⟨z,_⟩|⟨z,_⟩
   .exact absurd (by rw[b];rfl) (a c)
   all_goals omega
 .split
  .simp only[A1,A3];omega
  .split
   .simp only[A1,A3];omega
   .split<;>(simp only[A1,A3];omega)
theorem Hj(l:List Int):(NR l).name.length<=40000040/\(NR l).text.length<=40000040:=by
 have a:=VO l;have b:=VS (Hg l);exact⟨by show(treeS l).text.length<=40000040;omega,a⟩
theorem QJ(k i v:Nat):∀d∈patL k i v,d.name.length<=2000/\d.text.length<=4000:=by
 intro d a;unfold patL ofL at a;obtain⟨r,b,rfl⟩:=A9.1 a;obtain⟨c,e,f⟩:=(rowsP_small v k).2 r b;have g:=cG (i:Int);refine⟨?_,?_⟩
 .show(r.l++itoaS (i:Int)).length<=2000;rw[A1];omega
 .show(r.w++[32]++(r.l++itoaS (i:Int))++mO r.t i).length<=4000;simp only[A1,fillS_len,A3,B0];omega
theorem Hk(l:List Int):∀k,∀d∈(prgO l k).1,d.name.length<=2000/\d.text.length<=4000
 |0=>by simp[prgO]
 |k+1=>by
  intro d a;have c:=Hk l k;rw[Dv]at a;unfold prgS at a;simp only at a;have b:∀d∈(prgO l k).1++patL ((eA l (1+k) 4096).toNat%14) k ((eA l (1+k) 4096).toNat / 14),d.name.length<=2000/\d.text.length<=4000:=λd a=>(A7.1 a).elim (c d) (QJ _ _ _ d);split at a
  .rcases A7.1 a with a|a
   .exact b d a
   .simp at a;subst a;decide
  .exact b d a
theorem Js(l:List Int):nW 19 4000 (prgL l):=by
 refine⟨SW l,λd a=>?_⟩;have:=Hk l (prgN l) d ((Jn _ _).mem_iff.1 a);omega
theorem tE{l:List Df}{n m:Nat}(h:nW n m l)(D:1000<=m)(E:1<=n)(c a:Int):nW (n+26) (21*m+40000040) (iH l c a):=by
 unfold iH;split
 .exact⟨by show 1<=_;omega,λd b=>by simp at b;subst b;have:=Hj [c,a];omega⟩
 .rename_i o;have q:0<l.length:=D6.2 o;have z:=dP a (l.length:Int) aE;obtain⟨k,w⟩:∃k:Nat,bS a (l.length:Int)=(k:Int):=⟨(bS a (l.length:Int)).toNat,aE⟩;rw[w,C3];have g:k<l.length:=aE;obtain⟨x,r⟩:∃x,l.getD k default=x:=⟨_,rfl⟩;have p:x∈l:=by rw[<-r,A0,A2 g];exact C0 g
  obtain⟨q1,q2⟩:=h.each x p;rw[r];have e:nW (n+26) (21*m+40000040) l:=h.mono aE aE;have A:=getD_len (k:=(bS (a.tdiv 3) 5).toNat) aAg;have B:=getD_len (k:=(bS (a.tdiv 3) 5).toNat) aAh;have C:=getD_len (k:=(bS (a.tdiv 3) 5).toNat) aAi;have s:=getD_len (k:=(bS a 3).toNat) aAj;have t:=getD_len (k:=(bS a 2).toNat) aAk;have u:=getD_len (k:=(bS (a.tdiv 2) 3).toNat) aAl;have f:∀i:List Df,i.length<=26->(∀d∈i,d.name.length<=21*m+40000040/\d.text.length<=21*m+40000040)->nW (n+26) (21*m+40000040) (l++i):=λi e v=>(h.mono (D8 _) aE).app ⟨e,v⟩;unfold Hh;split
  .exact e.set ⟨AI,AI⟩
  .split
   .have:=aB9 x.text (a.tdiv 3) (c.tdiv 11) a;exact e.set ⟨AI,AI⟩
   .split
    .exact⟨by have:=F3 l k;have:=h.len;omega,λd b=>e.each d (List.mem_of_mem_eraseIdx b)⟩
    .split
     .exact f _ bC (λd b=>by simp at b;subst b;omega)
     .split
      .exact e.set ⟨AI,by dsimp only;simp only[A1,A3,B0];omega⟩
      .split
       .exact f _ bC (λd b=>by simp at b;subst b;simp only[A1,A3,B0];omega)
       .split
        .exact f _ bC (λd b=>by simp at b;rcases b with rfl|rfl<;>simp only[A1,A3,B0]<;>simp at s|-<;>omega)
        .split
         .exact f _ bC (λd b=>by simp at b;rcases b with rfl|rfl<;>simp only[A1,A3,B0]<;>simp at t u|-<;>omega)
         .split
          .unfold vA;have y:=dP a 3 bF;refine f _ jJ (λd b=>?_);obtain⟨j,_,rfl⟩:=A9.1 b;have:=cG ((l.length+j:Nat):Int);refine⟨by show(_++itoaS ((l.length+j:Nat):Int)).length<=_;simp only[A1,A3,B0];omega,by show(_++itoaS ((l.length+j:Nat):Int)++_).length<=_;simp only[A1,A3,B0];omega⟩
          .have:=QC x.text [a,a.tdiv 3,a.tdiv 7,c,a.tdiv 2,1,2];exact e.set ⟨AI,AI⟩
def cN(m:List Int):Nat:=min 6 ((m.length-1) / 10)
def cDf(m:List Int)(j:Nat):Df:=NR ((m.take (10*j+10)).drop (10*j))
def cL(m:List Int):List Df:=(A4 (cN m)).map (cDf m)
theorem aAv(m:List Int):(cL m).length=cN m:=by simp[cL]
theorem aCt(m:List Int):cN m<=6:=by unfold cN;omega
def wP(l m:List Int)(how by_:Int)(raw:bA):List (List Df):=
 [prgL l,iH (prgL l) how by_,iH (iH (prgL l) how by_) by_ how,cL m,prgL l++cL m,[⟨[112,48],raw.take 60⟩],[⟨[112,48],[112,114,111,99,32,112,48,32,123,32]++raw.take 60++[32,125]⟩],[]]
theorem VT(l m:List Int)(how by_:Int)(raw:bA)(J:Nj l)(K:Nj m)(A:Cy how)(z:Cy by_)(M:raw.length<=9223372036854775807):Ok prog 23 [.sl (l.map aJ),.sl (m.map aJ),aJ how,aJ by_,.str raw] ⟨.d (.sl ((wP l m how by_ raw).map gG)),false⟩:=by
 refine bL func23 rfl ntmps23 results23 λW X C=>?_;obtain⟨a,p⟩:∃a,prgL l=a:=⟨_,rfl⟩;obtain⟨b,e⟩:∃b,iH a how by_=b:=⟨_,rfl⟩;obtain⟨g,f⟩:∃g,iH b by_ how=g:=⟨_,rfl⟩;obtain⟨c,q⟩:∃c,cL m=c:=⟨_,rfl⟩;have d:wP l m how by_ raw=[a,b,g,c,a++c,[⟨[112,48],raw.take 60⟩],[⟨[112,48],[112,114,111,99,32,112,48,32,123,32]++raw.take 60++[32,125]⟩],[]]:=by unfold wP;rw[p,e,f,q]
 have v:nW 19 4000 a:=by rw[<-p];exact Js l
 have w:nW 45 41000000 b:=by rw[<-e];exact(tE v bF bF how by_).mono bF bF
 have x:nW 71 1000000000 g:=by rw[<-f];exact(tE w bF bF by_ how).mono bF bF
 have U:=v.len;have V:=w.len;have N:=x.len;have E:=NT l J;have F:=Eu a how by_ (v.mono bF bF) A z;have i:=Eu b by_ how (w.mono bF bF) z A;rw[p]at E;rw[e]at F;rw[f]at i;have O:c.length=cN m:=by rw[<-q,aAv]
 have S:=aCt m;obtain⟨o,h⟩:∃r,raw.take 60=r:=⟨_,rfl⟩;have k:=ZG raw 60 M;rw[h]at k d;have P:o.length<=60:=by rw[<-h,C1];omega
 apply aD;simp;refine cP (og 17 (.plain ⟨.own 2 (a.map Df.d),true⟩)) ?_;simp;refine⟨E,?_⟩;refine cP (og 21 (.plain ⟨.own 2 (b.map Df.d),true⟩)) ?_;simp[A5 (show(a.map Df.d).length<=a.length by simp)];refine⟨by simpa using F,?_⟩;apply aD;simp;apply dA;simp;apply aM;refine aO (ι:=Nat) (λj=>aQ [(1,.d (.sl (m.map aJ))),(2,.d (aJ how)),(3,.d (aJ by_)),(4,.d (.str raw)),(11,.ow 11 0 a.length),(12,.ow 12 0 b.length),(13,.ow 13 0 j),(14,.d (aJ (10*j:Nat)))]) (λj=>aL [(11,.row false 2 (a.map Df.d)),(12,.row false 2 (b.map Df.d)),(13,.row false 2 ((c.take j).map Df.d))]) (λj=>j<=cN m) (λj=>cN m-j) 0 (aA C [1,2,3,4,11,12,13,14] [(17,11),(21,12),(13,13)]) (B9 _) λj s=>?_;apply dA;simp;refine⟨aE,?_⟩;apply aK;simp;refine⟨λH I=>?_,λH=>?_⟩
 .have B:j<cN m:=by unfold cN;omega
  have G:=NS ((m.take (10*j+10)).drop (10*j)) (λn L=>K n (List.mem_of_mem_take (List.mem_of_mem_drop L)));obtain⟨D,y⟩:∃D,NR ((m.take (10*j+10)).drop (10*j))=D:=⟨_,rfl⟩;rw[y]at G;have u:c.take (j+1)=c.take j++[D]:=by
   rw[C4 aE];simp[<-q,cL,cDf,y]
  have t:D3 (j+1) (D1 Df.d c)=D3 j (D1 Df.d c)++[D.d]:=by rw[<-F9,u,D7,F9];rfl
  apply aG;simp;apply cR;refine aU (og 39 (.plain ⟨.d D.d,true⟩)) ?_;simp[(show(10*(j:Int)).toNat=10*j by omega),(show(10*(j:Int)+10).toNat=10*j+10 by omega)];refine⟨by(repeat' with_reducible apply And.intro)<;>first|omega|rfl|simpa using G,?_⟩;apply aI;simp;refine⟨aE,?_⟩;refine QT.mk (j+1) (aA C [1,2,3,4,11,12,13,14] [(11,11),(12,12),(41,13)] (by simp[show(10*(j:Int)+10)=10*((j:Int)+1)by omega]) (by simp[t,List.take_take,Df.d])) ?_ ?_
  .omega
  .omega
 .apply bG;simp;apply aF;have B:j=c.length:=by rw[O];unfold cN at s|-;omega
  subst B;have Q:D3 c.length (D1 Df.d c)=D1 Df.d c:=A5 (by rw[C9];exact D8 _);refine aU (og 43 (.plain ⟨.d (.str o),true⟩)) ?_;simp;refine⟨k,?_⟩;refine cP (og 49 (.plain ⟨.own 2 (g.map Df.d),true⟩)) ?_;simp[Q,A5 (show(b.map Df.d).length<=b.length by simp),A5 (show(a.map Df.d).length<=a.length by simp)];refine⟨by(repeat' with_reducible apply And.intro)<;>first|omega|rfl|simpa using i,?_⟩;apply aH;simp[d,A5 (show(D1 Df.d a++D1 Df.d c).length<=a.length+c.length by simp)]
theorem Jt(l:List Df)(b a:Int):(iH l b a).length<=max (l.length+2) 25:=by
 unfold iH;split
 .show 1<=_;omega
 .unfold Hh;have c:=dP a 3 bF;split
  .rw[D0];omega
  .split
   .rw[D0];omega
   .split
    .have:=F3 l (bS a l.length).toNat;omega
    .split
     .simp;omega
     .split
      .rw[D0];omega
      .split
       .simp;omega
       .split
        .simp;omega
        .split
         .simp;omega
         .split
          .unfold vA;simp;omega
          .rw[D0];omega
theorem VU{l m:List Int}{b a:Int}{e:bA}:∀d∈wP l m b a e,d.length<=27:=by
 intro d c;have f:=SW l;have g:=Jt (prgL l) b a;have h:=Jt (iH (prgL l) b a) a b;have i:=aAv m;have j:=aCt m;unfold wP at c;simp only[B2,D2,or_false]at c;rcases c with rfl|rfl|rfl|rfl|rfl|rfl|rfl|rfl
 .omega
 .omega
 .omega
 .omega
 .rw[A1];omega
 .show 1<=27;omega
 .show 1<=27;omega
 .show 0<=27;omega
theorem aAw(d:Df):(gW d).length<=max d.text.length 1024:=by
 unfold gW;split
 .omega
 .unfold printS;split
  .rename_i h;simp only[validB,C7,decide_eq_true_eq]at h;omega
  .simp
theorem NX{l m:List Int}{c b:Int}{e:bA}:∀d∈wP l m c b e,∀x∈d,x.name.length<=1000000000/\x.text.length<=1000000000:=by
 have k:=Js l;have n:nW 45 41000000 (iH (prgL l) c b):=(tE k bF bF c b).mono bF bF;have f:nW 71 1000000000 (iH (iH (prgL l) c b) b c):=(tE n bF bF b c).mono bF bF;have h:∀x∈cL m,x.name.length<=1000000000/\x.text.length<=1000000000:=λx a=>by
  obtain⟨j,_,rfl⟩:=A9.1 a;have:=Hj ((m.take (10*j+10)).drop (10*j));unfold cDf;omega
 have g:∀x∈prgL l,x.name.length<=1000000000/\x.text.length<=1000000000:=λx a=>by have:=k.each x a;omega
 intro d i;simp only[wP,B2,D2,or_false]at i;rcases i with rfl|rfl|rfl|rfl|rfl|rfl|rfl|rfl
 .exact g
 .intro x a;have:=n.each x a;omega
 .intro x a;have:=f.each x a;omega
 .exact h
 .intro x a;exact(A7.1 a).elim (g x) (h x)
 .intro x a;rw[C2.1 a];simp;omega
 .intro x a;rw[C2.1 a];simp;omega
 .intro x a;cases a
theorem NY{l m:List Int}{how by_:Int}{raw:bA}:∀d∈wP l m how by_ raw,Hshort d:=λd a=>by
 have c:=VU d a;refine⟨aE,λx b=>?_⟩;have e:=NX d a x b;have f:=aAw x;omega
theorem NZ:∀l:List UInt8,gJ (dO l) (dO l)=some true
 |[]=>rfl
 |x::l=>by
  have h:=NZ l;simp only[dO,D9,eZ,gJ,HC,if_true]at*;rw[h];simp
theorem Ju:∀l:List UInt8,bU (H1 l.length (.int .u8)) (dO l)=true
 |[]=>rfl
 |x::l=>by
  have h:=Ju l;simp only[A3,List.replicate_succ,dO,D9,bU]at*;rw[h];rfl
theorem VV(l m:List Int)(how by_:Int)(raw:bA)(hl:Nj l)(hm:Nj m)(hh:Cy how)(hb:Cy by_)(hr:raw.length<=9223372036854775807):Ok prog 4 [.sl (l.map aJ),.sl (m.map aJ),aJ how,aJ by_,.str raw] ⟨.d (.bool true),true⟩:=by
 refine bL func4 rfl ntmps4 results4 λw0 X n=>?_;obtain⟨L,O⟩:∃L,wP l m how by_ raw=L:=⟨_,rfl⟩;have r:L.length=8:=by rw[<-O];rfl
 have Y:=VT l m how by_ raw hl hm hh hb hr;have o:=NY (l:=l) (m:=m) (how:=how) (by_:=by_) (raw:=raw);rw[O]at Y o;apply aD;simp;refine cP (og 26 (.plain ⟨.d (.sl (L.map gG)),false⟩)) ?_;simp;refine⟨Y,?_⟩;apply dA;simp;apply aM;refine aO (ι:=Nat) (λi=>aQ [(11,.d (.sl (L.map gG))),(12,.d (aJ (i:Nat)))]) (λi=>aL []) (λi=>i<=8) (λi=>8-i) 0 (aA n [11,12] []) (B9 _) λi a0=>?_;apply dA;simp[r];apply aK;simp;refine⟨λh3=>?_,λh3=>?_⟩
 .apply aG;simp;apply cR;apply aD;simp;apply aF;have B:i<L.length:=aE;obtain⟨d,A⟩:∃d,L[i]=d:=⟨_,rfl⟩;have H:d∈L:=by rw[<-A];exact C0 B
  have a:=o d H;have t:=CB d a.1;have K:=dW d;have N:=TDigest_ok d a;have t2:=RDigest7_ok d a;have v:=digP_len (bP d);have z:=aCo 8 (digP (bP d)) (by have:=a.1;omega) a.parts;have G:dO (ER 8 (digP (bP d)))=dig7 d:=rfl;rw[G]at z;obtain⟨D,q⟩:∃D,D=dig7 d:=⟨_,rfl⟩;rw[<-q]at z N t2;have f:D.length=16:=by rw[q];simp[dig7,dO,Ad]
  have E:gJ D D=some true:=by rw[q];exact NZ _
  have j:bU (H1 16 (.int .u8)) D=true:=by rw[q,<-Ad 8 (digP (bP d))];exact Ju _
  have F:D≠[]:=λh=>by rw[h]at f;cases f
  obtain⟨S,hS⟩:∃S,S=bP d:=⟨_,rfl⟩;rw[<-hS]at K t v z;have U:S.length<40:=by have:=a.1;omega
  clear q;refine aU (og 37 (.plain ⟨.own 2 (S.map Df.d),true⟩)) ?_;simp[B,A];refine⟨by simpa using t,?_⟩;apply dA;simp;apply aM;refine aO (ι:=Nat) (λk=>aQ [(11,.d (.sl (L.map gG))),(12,.d (aJ (i:Nat))),(13,.ow 13 0 (2*k)),(14,.ow 14 0 S.length),(15,.d (aJ k))]) (λk=>aL [(13,.row false 1 ((digP (S.take k)).map .str)),(14,.row false 2 (S.map Df.d))]) (λk=>k<=S.length) (λk=>S.length-k) 0 (aA n [11,12,13,14,15] [(13,13),(37,14)] (hH:=by simp[digP])) (B9 _) λk a1=>?_;apply aF;apply aP;simp;refine⟨λh8=>?_,λh8=>?_⟩
  .apply aG;simp;apply cR;apply aF;have b:k<S.length:=aE;obtain⟨P,Q⟩:∃P,parseS S[k].text=P:=⟨_,rfl⟩;have M:=Cz S[k].text;have p:=pT S[k].text;have s:gW S[k]=if P.2.2≠0 then S[k].text else printS P.1:=by unfold gW;rw[Q]
   rw[Q]at M p;obtain⟨x,hx⟩:∃x,P.1=x:=⟨_,rfl⟩;rw[hx]at M p s;have I:=digP_tlen (l:=S) (k:=k) aE;have w:D3 (2*k) ((digP (S.take k)).map DV.str)=(digP (S.take k)).map DV.str:=A5 (by simp[I]);refine aU (og 50 (.plain ⟨.tup [.d x.d,.d (aJ P.2.1),.d (aJ P.2.2)],false⟩)) ?_;simp[bM,b];refine⟨by simpa using M,?_⟩;apply aD;simp[b];apply aF;apply aP;simp;refine⟨λg=>?_,λg=>?_⟩
   .rw[if_neg (by simpa using g)]at s;have kr:=Print_ok x p;refine aU (og 62 (.plain ⟨.d (.str (printS x)),true⟩)) ?_;simp;refine⟨by simpa using kr,?_⟩;apply aI;simp[b,w];refine⟨by(repeat' with_reducible apply And.intro)<;>first|omega|(intros;rfl),?_⟩;apply aI;simp;refine⟨aE,?_⟩;refine QT.mk (k+1) (aA n [11,12,13,14,15] [(71,13),(14,14)] (by simp[show 2*k+2=2*(k+1)by omega]) (by simp[digP_succ b,s])) ?_ ?_
    .omega
    .omega
   .rw[if_pos (by simpa using g)]at s;apply aG;simp;apply aI;simp[b,w];refine⟨by(repeat' with_reducible apply And.intro)<;>first|omega|(intros;rfl),?_⟩;apply aI;simp;refine⟨aE,?_⟩;refine QT.mk (k+1) (aA n [11,12,13,14,15] [(71,13),(14,14)] (by simp[show 2*k+2=2*(k+1)by omega]) (by simp[digP_succ b,s])) ?_ ?_
    .omega
    .omega
  .apply bG;simp;apply eG;have b:k=S.length:=aE;subst b;have y:D3 (2*S.length) ((digP S).map DV.str)=(digP S).map DV.str:=A5 (by simp[v]);refine fL.rd [[],[],[],[],[],[76],[76],[76],[76],[],[],[],[],[],[],[],[],[88]] [[],[],[],[],[76],[],[],[],[],[81],[],[],[],[],[],[],[88],[],[90]] (λ|76=>some<| .plain ⟨.d (.agg D),true⟩|81=>some<| .plain ⟨.d (.agg D),true⟩|88=>some<| .plain ⟨.d (.agg D),true⟩|90=>some<| .plain ⟨.d (.agg D),true⟩|_=>none) ?_;simp[B,A,E,j,F,y]
   trace_state
   refine⟨⟨⟨⟨⟨⟨by simpa using N,by simpa using t2⟩,by simpa using j⟩,by simpa using N⟩,by simpa using z⟩,by simpa using j⟩,?_⟩;apply aK;simp;apply aG;simp;apply aD;simp;apply aM;refine aO (ι:=Nat) (λk=>aQ [(11,.d (.sl (L.map gG))),(12,.d (aJ (i:Nat))),(20,.d (aJ k))]) (λk=>aL []) (λk=>k<=8) (λk=>8-k) 0 (aA n [11,12,20] []) (B9 _) λk W=>?_;apply dA;simp[r];apply aK;simp;refine⟨λC=>?_,λC=>?_⟩
   .apply aG;simp;apply cR;apply aF;have b:k<L.length:=aE;obtain⟨e,V⟩:∃e,L[k]=e:=⟨_,rfl⟩;have u:=o e (by rw[<-V];exact C0 b);have Z:=Jl d e a.1 u.1;have s2:=VQ d e (by have:=a.1;omega) (by have:=u.1;omega);obtain⟨c,hc⟩:∃c,c=CD (bP d) (bP e):=⟨_,rfl⟩;rw[<-hc]at Z s2;refine fL.rd [[],[],[],[],[],[],[],[],[],[107],[107],[107],[107],[107],[107],[107],[107]] [[],[],[],[],[],[],[],[],[107],[],[],[],[],[],[],[],[],[116]] (λ|107=>some<| .plain ⟨.d (.bool c),true⟩|116=>some<| .plain ⟨.d (.bool c),true⟩|_=>none) ?_;simp[B,b,A,V];refine⟨⟨by simpa using Z,by simpa using s2⟩,?_⟩;apply aK;simp;apply aG;simp;apply aI;simp;refine⟨aE,?_⟩;refine QT.mk (k+1) (aA n [11,12,20] []) ?_ ?_
    .omega
    .omega
   .apply bG;simp;apply aI;simp;refine⟨aE,?_⟩;refine QT.mk (i+1) (aA n [11,12] []) ?_ ?_
    .omega
    .omega
 .apply bG;simp;apply aF;have J:=VR;refine aU (og 118 (.plain ⟨.d (.bool true),true⟩)) ?_;simp;refine⟨J,?_⟩;apply aH;simp
end
open Go.RowKit
def KX(P:Program):List Field->Nat->Bool
 |[],_=>true
 |f::r,o=>f.offset==o&&KX P r (o+P.cellsOf f.type)
def zN(P:Program):Nat->TypeId->DataW Unit->Option (List Value)
 |0,_,_=>none
 |n+1,t,d=>match P.underlying t,d with
  |some (.int _),.lit (.int k z)=>some [.int k z]
  |some .string,.lit (.string s)=>some [.string ⟨s.toArray⟩]
  |some (.array _ e),.agg ds=>match ds.mapM (zN P n e)with
   |some xs=>if xs.all (λx=>x.length==P.cellsOf e)&&xs.length*P.cellsOf e==P.cellsOf t then some xs.flatten else none
   |none=>none
  |some (.struct fs),.agg ds=>match(fs.toList.zip ds).mapM (λp=>zN P n p.1.type p.2)with
   |some xs=>if KX P fs.toList 0&&xs.flatten.length==P.cellsOf t&&((fs.toList.zip xs).all λp=>p.2.length==P.cellsOf p.1.type)&&ds.length==fs.size then some xs.flatten else none
   |none=>none
  |_,_=>none
theorem Jv{c:Nat}:∀(b:List (List Value)) (a:List Value),a.length=b.length*c->(∀(i:Nat) (x:List Value),b[i]? =some x->(a.drop (i*c)).take c=x)->a=b.flatten
 |[],a,hl,_=>by
  have:a=[]:=B8 (by simpa using hl);simp[this]
 |x::b,a,hl,h=>by
  have d:=h 0 x rfl;simp only[Nat.zero_mul,H2]at d;have e:=Jv (c:=c) b (a.drop c) (by rw[C8,hl,A3,G1];omega) λi y f=>by
   have:=h (i+1) y (by simpa using f);rw[H3,Nat.add_comm c,<-G1];exact this
  rw[G3,<-e,<-d,List.take_append_drop]
theorem Ew{P:Program}{cs:List Value}:∀(b:List Field) (a:List (List Value)) (o:Nat),KX P b o=true->a.length=b.length->(∀(i:Nat) (f:Field) (x:List Value),b[i]? =some f->a[i]? =some x->(cs.drop f.offset).take (P.cellsOf f.type)=x/\x.length=P.cellsOf f.type)->
 (cs.drop o).take a.flatten.length=a.flatten
 |[],[],_,_,_,_=>bC
 |[],_::_,_,_,h,_=>by simp at h
 |_::_,[],_,_,h,_=>by simp at h
 |f::b,x::a,o,ho,hl,h=>by
  simp only[KX,C7,beq_iff_eq]at ho;obtain⟨c,d⟩:=h 0 f x rfl rfl;have j:=Ew b a (o+P.cellsOf f.type) ho.2 (by simpa using hl) λi g y e k=>h (i+1) g y (by simpa using e) (by simpa using k);rw[ho.1]at c;rw[G3,A1,List.take_add,d,c,H3,j]
theorem VW{W:TypeId×Value->Unit}{P:Program}{w:World}{H:Nat}{sp:Nat->Bool}{held:Bool}:∀(n a:Nat) (t:TypeId) (E:List Value) (d:DataW Unit) (p:List MemPlace) (V:List Value),
 DataW.trod W P w H sp held a t E=some (d,p)->zN P n t d=some V->E=V:=by
 intro n;induction n with
 |zero=>intro a t E d p V _ h;cases h
 |succ n ih=>
  intro a t E d p V o g;unfold zN at g;split at g
  .rename_i k' k z B;obtain⟨m,rfl,C,_⟩:=DataW.trod_int B o;injection C with e1 e2
   injection e1 with e1
   injection e1 with e3 e4
   subst e3 e4;exact Option.some.inj g
  .rename_i s B;obtain⟨b,rfl,C,_⟩:=DataW.trod_string B o;injection C with e1 e2
   injection e1 with e1
   injection e1 with e3
   subst e3;exact Option.some.inj g
  .rename_i m e l B;cases a with
   |zero=>simp[DataW.trod]at o
   |succ a=>
    unfold DataW.trod at o;rw[B]at o;simp only at o;split at o
    .rename_i Y;obtain⟨S,hm,C⟩:=Option.map_eq_some_iff.1 o;have q:S.map (·.1)=l:=by
      have:=congrArg H7 C;simpa using this
     split at g
     .rename_i G j;split at g
      .rename_i I;simp only[C7,B4,beq_iff_eq]at I;have g:=Option.some.inj g;rw[<-g];have O:S.length=m:=by simpa using Lib.mapM_length hm
       have M:G.length=l.length:=Lib.mapM_length j;have a1:l.length=m:=by rw[<-q,C9,O]
       refine Jv (c:=P.cellsOf e) G E (by rw[Y,I.2]) λi x K=>?_;have hi:i<m:=by have:=(D4.1 K).1;omega
       obtain⟨y,U,X⟩:=Lib.mapM_at hm i i (by simp[hi]);have u:l[i]? =some y.1:=by rw[<-q,B1,U];rfl
       obtain⟨F,D,A⟩:=Lib.mapM_at j i _ u;have:F=x:=Option.some.inj (D.symm.trans K);subst this;exact ih a e _ y.1 y.2 F X A
      .cases g
     .cases g
    .cases o
  .rename_i r l B;obtain⟨S,m,rfl,C,Y,O,X⟩:=DataW.trod_struct B o;have q:S.map (·.1)=l:=by
    have:=congrArg H7 C;simpa using this.symm
   split at g
   .rename_i G j;split at g
    .rename_i I;simp only[C7,B4,beq_iff_eq]at I;obtain⟨⟨⟨c1,c2⟩,c3⟩,c4⟩:=I;have g:=Option.some.inj g;rw[<-g];have M:G.length=(r.toList.zip l).length:=Lib.mapM_length j;have a0:(r.toList.zip l).length=r.size:=by rw[List.length_zip,c4];simp
     have Q:=Ew (P:=P) (cs:=E) r.toList G 0 c1 (by rw[M,a0];simp) λi f x v L=>by
      have J:r[i]? =some f:=by simpa using v
      have N:=X i f J;have hi:i<r.size:=(E3.1 J).1;obtain⟨y,U⟩:∃y,S[i]? =some y:=⟨_,A2 aE⟩;rw[U]at N;have u:l[i]? =some y.1:=by rw[<-q,B1,U];rfl
      have hz:(r.toList.zip l)[i]? =some (f,y.1):=by
       rw[E7];exact⟨v,u⟩
      obtain⟨F,D,A⟩:=Lib.mapM_at j i _ hz;have:F=x:=Option.some.inj (D.symm.trans L);subst this;refine⟨ih m f.type _ _ _ F N A,?_⟩;have Z:(r.toList.zip G)[i]? =some (f,F):=by
       rw[E7];exact⟨v,L⟩
      exact c3 _ (A8 Z)
     rw[H2,c2,<-Y,F2]at Q;exact Q
    .cases g
   .cases g
  .cases g
def aAx:DV->Value
 | .int k n=>.int k n
 | .str s=>.string ⟨s.toArray⟩
 |_=>undef
def aEn:DV->Bool
 | .int _ _=>true
 | .str _=>true
 |_=>false
theorem pW{P:Program}{W:World}{e:String}{g H:Nat}{t K:TypeId}{o:Array Value}{f n:Nat}{p:List MemPlace}{d:DataW Unit}{l:List DV}{B:TypeId×Value->Unit}{r:Nat}{Q:Nat->Bool}{held:Bool}
 (C:P.globalNamed e=some g)(G:(P.globals[g]?).map (·.type)=some t)(D:P.globalNamed e=some H)(F:(P.globals[H]?).map (·.type)=some K)(a:W.var? P e=some o)
 (L:DataW.trod B P W r Q held f K o.toList=some (d,p))(y:zN P n t d=some (l.map aAx))(w:l.all aEn=true):
 RD W (λ_=>False) (.ro l) (.pointer (some ⟨g,0,none⟩))/\∃q t m,W.heap[g]? =some (.cells q t m)/\q.size=l.length:=by
 obtain rfl:=Option.some.inj (C.symm.trans D);obtain rfl:=Option.some.inj (G.symm.trans F);have I:=VW n f t o.toList d p _ L y;have E:o.size=l.length:=by
  have:=congrArg List.length I;simpa using this
 have b:∃z m,W.heap[g]? =some (.cells o z m):=by
  unfold World.var? at a;rw[C]at a;simp only[Option.bind_some]at a;split at a
  .rename_i c z m M;cases a;exact⟨z,m,M⟩
  .cases a
 obtain⟨z,m,b⟩:=b;refine⟨.ro l g 0 (l.map aAx) (λh=>h) bC (λu O=>?_) (E3.1 b).1 (λj u N=>?_) (λi x v A J=>?_),o,z,m,b,E⟩
 .obtain⟨x,A,rfl⟩:=A9.1 O;have:=B4.1 w x A;cases x<;>first|rfl|cases this
 .have:=World.var?_cell C a j;rw[Nat.zero_add,this,<-N,<-I];simp
 .rw[B1,A]at J;cases J;have:=B4.1 w x (A8 A);cases x with
  |int k n=>exact .int k n
  |str s=>exact .str s
  |_=>cases this
theorem aEX{w:World}(s:ByteArray):RD w (λ_=>False) (.str s.data.toList) (.string s):=by
 have:=RD.str (w:=w) (E:=λ_=>False) s.data.toList
 rwa[tV]at this
end Go.Eng
namespace Go.Proofs.YtepoffhhiddlkaaGreatDoor.crA
open Go.Eng
theorem gl{W:World}(h:laidMetH prog Rows.typingDigestsRow.laid W):AS W (λ_=>False):=by
 have h:laidMet prog Rows.typingDigestsRow.laid W:=h;obtain⟨ps,⟨g1,t1,Q,f1,p1,q1,s,J,C,i,⟨g2,t2,S,f2,p2,q2,u,K,D,j,⟨g3,t3,U,f3,p3,q3,v,L,E,k,⟨g4,t4,V,f4,p4,q4,w,M,F,l,⟨g5,t5,X,f5,p5,q5,x,N,G,m,⟨g6,t6,Y,f6,p6,q6,n6,y6,v6,d6,⟨g7,t7,Z,f7,p7,q7,n7,y7,v7,d7,⟨g8,t8,c8,f8,p8,q8,y,O,H,o,⟨g9,t9,c9,f9,p9,q9,z,P,I,p,⟨r,t10,f,q,A,B,c,e,d,b,_,_⟩,_⟩,_⟩,_⟩,_⟩,_⟩,_⟩,_⟩,_⟩,_⟩,_⟩:=h;intro n cs a
 match n,a with
 |0,a=>cases a;exact pW (n:=4) (g:=0) (t:=204) (by kernel_rfl) (by kernel_rfl) y O H o (by kernel_rfl) (by kernel_rfl)
 |1,a=>cases a;exact pW (n:=4) (g:=1) (t:=229) (by kernel_rfl) (by kernel_rfl) w M F l (by kernel_rfl) (by kernel_rfl)
 |2,a=>cases a;exact pW (n:=4) (g:=2) (t:=264) (by kernel_rfl) (by kernel_rfl) c e d b (by kernel_rfl) (by kernel_rfl)
 |3,a=>cases a;exact pW (n:=4) (g:=3) (t:=229) (by kernel_rfl) (by kernel_rfl) s J C i (by kernel_rfl) (by kernel_rfl)
 |4,a=>cases a
 |5,a=>cases a;exact pW (n:=4) (g:=5) (t:=311) (by kernel_rfl) (by kernel_rfl) z P I p (by kernel_rfl) (by kernel_rfl)
 |6,a=>cases a
 |7,a=>cases a
 |8,a=>cases a;exact pW (n:=4) (g:=8) (t:=329) (by kernel_rfl) (by kernel_rfl) x N G m (by kernel_rfl) (by kernel_rfl)
 |9,a=>cases a;exact pW (n:=4) (g:=9) (t:=99) (by kernel_rfl) (by kernel_rfl) u K D j (by kernel_rfl) (by kernel_rfl)
 |10,a=>cases a;exact pW (n:=4) (g:=10) (t:=92) (by kernel_rfl) (by kernel_rfl) v L E k (by kernel_rfl) (by kernel_rfl)
 |n+11,a=>cases a
abbrev rangeS:ByteArray:={data:= #[118,97,108,117,101,32,111,117,116,32,111,102,32,114,97,110,103,101]}
abbrev syntaxS:ByteArray:={data:= #[105,110,118,97,108,105,100,32,115,121,110,116,97,120]}
noncomputable def low:Nat:=(World.holding prog default ⟨#[],#[],[]⟩).heap.size
noncomputable def held(g:Nat)(cs:Array Value):Array Value:=match g with
 |6=> #[.iface 338 (.pointer (some ⟨low+1,0,none⟩))]
 |7=> #[.iface 338 (.pointer (some ⟨low,0,none⟩))]
 |g=>match globD g with
  |some ds=>(ds.map aAx).toArray
  |none=>cs
noncomputable def laidObj(h:Array Obj)(g:Nat):Array Obj:=h.modify g λ
 | .cells cs t frozen=>.cells (held g cs) t frozen
 |o=>o
noncomputable def laidWorld(os:Os):World:=
 let w0:=World.holding prog os ⟨#[.cells #[.string rangeS] 340,.cells #[.string syntaxS] 340],#[],[]⟩
 {w0 with heap:=(A4 11).foldl laidObj w0.heap}
theorem laidWorld_met(b:Os)(a:Array Value):laidMet prog Rows.typingDigestsRow.laid ((laidWorld b).forCall (λ_ _=>0) ⟨#[],a,[]⟩).memory:=
 laidMet_of_run' 8 (by kernel_rfl) (by kernel_rfl)
end Go.Proofs.YtepoffhhiddlkaaGreatDoor.crA
