/- Part 7 of the proof. No condition. -/
import Derived.Test.YtepoffhhiddlkaaGreatDoorMF
open Go.Proofs
open Go.Proofs.Tryz
set_option linter.unusedVariables false
set_option linter.unusedSimpArgs false
set_option maxRecDepth 20000
set_option maxHeartbeats 4000000
open List renaming getElem?_eq_getElem→A0,drop_eq_getElem_cons→A1,getElem_mem→A2,length_cons→A3,drop_eq_nil_of_le→A4,mem_cons→A6,getD_eq_getElem?_getD→A7,take_succ_eq_append_getElem→A8,drop_drop→A9,findIdx?_eq_some_iff_getElem→B0,take_length→B1,filter_cons_of_pos→B2,filter_cons_of_neg→B3,pairwise_cons→B5,getElem_cons_zero→B6,length_filter_le→B7,length_take→B8,getElem?_eq_some_iff→B9,take_append_getElem→C0,length_append→C2,take_of_length_le→C4,mem_append→C6,findIdx?_eq_none_iff→C7,foldl_append→C8,length_drop→D1,foldl_cons→D3,take_append_drop→D4,mem_append_left→D5,foldl_nil→D6,drop→D7,range→D8,findIdx?_cons→D9,filter_filter→E1,mem_singleton→E3,cons_append→E6,length_map→E9,map_cons→F3,mem_map→F6,length→F8,take→F9
open Nat renaming zero_le→B4,le_refl→C3,add_assoc→C5,not_lt_zero→D2,eq_zero_or_pos→E2,le_trans→E4,zero_add→F5,add_zero→F7
open Int renaming eq_ofNat_of_zero_le→C9,natCast_add→F1,add_assoc→F4
open Option renaming getD_some→D0
open Array renaming replicate→E8
open Bool renaming false_eq_true→E0,eq_iff_iff→F0,and_assoc→F2
open Classical renaming byContradiction→A5,not_and_iff_not_or_not→E5
open UInt8 renaming toNat_inj→C1,ofNat→E7
namespace Go.Eng
section
attribute[local simp] aW bJ bE aR
attribute[local simp] lB.cond Nd.d_eq nd_t nd_dr nd_td ndsD aX AZ
theorem Pz:Ok prog 175 [] ⟨.d fitD,false⟩:=by
 refine bL func175 rfl ntmps175 results175 λb X a=>?_;apply aD;simp;apply aD;simp[cI];apply aH;simp[fitD,It,yS]
theorem Kd(x:Nd):Ok prog 101 [x.d] ⟨.d (.fn 174 [.ro [aJ x.kind,.str x.text,aJ x.n,ndsD x.kids]]),false⟩:=by
 refine bL func101 rfl ntmps101 results101 λb X a=>?_;apply aD;simp;apply aD;simp;apply aH;simp
structure Ke(F:Se prog)(y wv:Value)(us:List dF):Prop where
 yield:∀(i:Nat) (u:dF),us[i]? =some u->qI F (.val y) [aJ u.bk,u.d] i 1 (.bool true)
 walk:∀K i W,F.T K i W->RD W (F.X K W) (.fn 176 [.ro [fitD],.ro [.val y],.ro [.val wv]]) wv
def Bl(F:Se prog)(wv:Value)(us:List dF)(x:Nd):Prop:=
 ∀i,(∀(j:Nat) (u:dF),(bZ x)[j]? =some u->us[i+j]? =some u)->qI F (.val wv) [x.d] i (bZ x).length (.bool true)
theorem Kf{b:Bool}(w:World)(E:Nat->Prop)(v:Value)(h:RD w E (.bool b) v):v=.bool b:=by cases h;rfl
theorem aC9{n:Int}(w:World)(E:Nat->Prop)(v:Value)(h:RD w E (aJ n) v):v=.int .i64 n:=by cases h;rfl
theorem aDa{F:Se prog}{d:Value}{b:List dF}{x:Nd}(h:Bl F d b x)(i:Nat)(f:∀(j:Nat) (u:dF),(bZ x)[j]? =some u->b[i+j]? =some u):
 qI F (.fn 179 [.ro [.val d]]) [x.d] i (bZ x).length (.bool false):=by
 have e:=h i f;refine lL (pins:=[2]) func179 jQ (c:=_) rfl ntmps179 bC results179 Kf jQ ?_;repeat refine Hl.seq ?_
 refine FP λg X a=>Pf hT hW ?_;simp[iC];refine xZ (λg a=>(jD.freeze [2]).trans (qH [1,2] [(2,2)] bF bF (by simp[a,dN]) rfl rfl)) ?_;simp;repeat refine Hl.seq ?_
 refine oD hT hW [(2,.box true [.d (aJ x.kind),.d (.str x.text),.d (aJ x.n),.d (.sl (x.kids.map Nd.d))])] rfl (by rfl) bC 2 rfl rfl rfl rfl bF (rd:=.bool true) (r:=.bool true) (λ_ _=>.bool _) e ?_;simp[iC];refine⟨rfl,?_⟩;refine Hl.ret ?_;exact⟨trivial,rfl,bC⟩
theorem Kg{d:List dF}{a b:List dF}{i:Nat}(h:∀(j:Nat) (u:dF),(a++b)[j]? =some u->d[i+j]? =some u):(∀(j:Nat) (u:dF),a[j]? =some u->d[i+j]? =some u)/\∀(j:Nat) (u:dF),b[j]? =some u->d[i+a.length+j]? =some u:=by
 refine⟨λj u c=>h j u ?_,λj u c=>?_⟩
 .have:=(B9.1 c).1;rw[List.getElem?_append_left this];exact c
 .rw[C5];exact h (a.length+j) u (by rw[List.getElem?_append_right aE];rw[show a.length+j-a.length=j by omega];exact c)
theorem aBk{F:Se prog}{p:Value}{q:List dF}{a:List Nd}(h:∀k∈a,Bl F p q k)(i:Nat)(w:∀(j:Nat) (u:dF),(gV a)[j]? =some u->q[i+j]? =some u):
 qI F (.fn 259 []) [ndsD a,.fn 179 [.ro [.val p]]] i (gV a).length (.int .i64 (-1)):=by
 refine lL (pins:=[]) func259 jQ (c:=_) rfl ntmps259 bC results259 aC9 jQ ?_;refine Hl.len (t:=0) rfl λg=>?_;simp at g;repeat refine Hl.seq ?_
 refine kP hT hW (λ_=>none) ?_;simp[iC];repeat refine Hl.seq ?_
 refine kP hT hW (λ_=>none) ?_;simp[iC];repeat refine Hl.seq ?_
 refine Hl.block ?_;refine Hl.loop (ι:=Nat) (λj=>aQ [(0,.d (ndsD a)),(1,.d (.fn 179 [.ro [.val p]])),(7,.d (aJ (a.length:Nat))),(8,.d (aJ (j:Nat)))]) (λ_=>aL []) (λj=>i+(gV (a.take j)).length) (λj=>j<=a.length) (λj=>a.length-j) 0
  (λx o=>aA o [0,1,7,8] []) rfl (B4 _) λj y=>?_
 repeat refine Hl.seq ?_
 refine kP hT hW (λ_=>none) ?_;simp[iC];repeat refine Hl.seq ?_
 refine Hl.cond (b:=decide (j<a.length)) bC (λd=>?_) λf=>?_
 .have d:j<a.length:=by simpa using d
  obtain⟨k,l⟩:∃k,a[j]=k:=⟨_,rfl⟩;have m:k∈a:=by rw[<-l];exact A2 d
  have e:gV a=gV (a.take j)++(bZ k++gV (a.drop (j+1))):=by
   conv=>lhs;rw[<-D4 j a]
   rw[usesL_append,A1 d,gV,l]
  have s:=aDa (h k m) (i+(gV (a.take j)).length) (Kg (Kg (by rw[<-e];exact w)).2).1;have n:(gV (a.take (j+1))).length=(gV (a.take j)).length+(bZ k).length:=by rw[usesL_succ d,C2,l]
  refine Hl.skip ?_;simp[iC];repeat refine Hl.seq ?_
  refine Hl.block ?_;repeat refine Hl.seq ?_
  refine kP hT hW (λ_=>none) ?_;simp[iC];repeat refine Hl.seq ?_
  refine oD hT hW [] rfl (by rfl) bC 5 rfl rfl rfl rfl bF (rd:=.bool false) (r:=.bool false) (λ_ _=>.bool _) s ?_;simp[iC,d,l];refine⟨rfl,?_⟩;refine Hl.cond (b:=false) bC (λh=>by cases h) λ_=>?_;refine Hl.skip ?_;simp[iC,EO];refine kP hT hW (λ_=>none) ?_;simp[iC];refine⟨aE,j+1,λx o=>aA o [0,1,7,8] [],aE,aE,aE⟩
 .have f:¬j<a.length:=by simpa using f
  have v:j=a.length:=aE;subst v;refine Hl.exit ?_;simp[iC,EO];repeat refine Hl.seq ?_
  refine kP hT hW (λ_=>none) ?_;simp[iC];refine Hl.ret ?_;exact⟨trivial,bC,bC⟩
theorem Su{F:Se prog}{d:Value}{b:List dF}{a:List Nd}(h:∀k∈a,Bl F d b k)(i:Nat)(f:∀(j:Nat) (u:dF),(gV a)[j]? =some u->b[i+j]? =some u):
 qI F (.fn 178 []) [ndsD a,.fn 179 [.ro [.val d]]] i (gV a).length (.bool false):=by
 have e:=aBk h i f;refine lL (pins:=[]) func178 jQ (c:=_) rfl ntmps178 bC results178 Kf jQ ?_;repeat refine Hl.seq ?_
 refine kP hT hW (λ_=>none) ?_;simp[iC];repeat refine Hl.seq ?_
 refine oD hT hW [] rfl (by rfl) bC 2 rfl rfl rfl rfl bF (rd:=aJ (-1)) (r:=.int .i64 (-1)) (λ_ _=>.int _ _) e ?_;simp[iC];refine⟨rfl,?_⟩;refine Hl.ret ?_;exact⟨trivial,rfl,bC⟩
theorem YN{x:Nd}(h:It.findIdx? (λy=>decide (x.kind=y))=none):bZ x=gV x.kids:=by rw[usesN_eq];unfold Ar aC8;rw[h];rfl
theorem Mr{x:Nd}{j:Nat}(h:It.findIdx? (λy=>decide (x.kind=y))=some j):bZ x=⟨x.kind,yS.getD j 0,Bj 46 x.text,Bk 46 x.text⟩::gV x.kids:=by rw[usesN_eq];unfold Ar aC8;rw[h];rfl
theorem aDb{j:Nat}:(yS.map aJ)[j]?.getD default=aJ (yS.getD j 0)\/yS.length<=j:=by
 by_cases h:j<yS.length
 .left;simp[h,A7]
 .right;omega
theorem UL{F:Se prog}{y o:Value}{t:List dF}(C:Ke F y o t)(x:Nd)(H:weighN x<=1000000000)(h:∀k∈x.kids,Bl F o t k):Bl F o t x:=by
 intro i n;have g:qI F (.fn 176 [.ro [fitD],.ro [.val y],.ro [.val o]]) [x.d] i (bZ x).length (.bool true):=by
  have B:=weighN_eq x;refine lL (pins:=[4]) func176 jQ (c:=_) rfl ntmps176 bC results176 Kf jQ ?_;repeat refine Hl.seq ?_
  refine kP hT hW (λ_=>none) ?_;simp[iC];refine xZ (λw m=>(jD.freeze [4]).trans (qH [1,2,3,4] [(4,4)] bF bF (by simp[m,dN]) rfl rfl)) ?_;simp;cases e:It.findIdx? (λy=>decide (x.kind=y))with
  |none=>
   rw[YN e]at n|-;have q:=Su h i n;repeat refine Hl.seq ?_
   refine kP hT hW (λ_=>none) ?_;simp[iC,dB,fitD,findD_int,e,bM];repeat refine Hl.seq ?_
   refine kP hT hW (λ_=>none) ?_;simp[iC];repeat refine Hl.seq ?_
   refine Hl.cond (b:=false) bC (λh=>by cases h) λ_=>?_;refine Hl.skip ?_;simp[iC];repeat refine Hl.seq ?_
   refine xZ (λw m=>qH [3,4] [(4,4)] bF bF (by simp[m,dN]) rfl rfl) ?_;simp;refine oD hT hW [(4,.box true [.d (aJ x.kind),.d (.str x.text),.d (aJ x.n),.d (.sl (x.kids.map Nd.d))])] rfl (by rfl) bC 3 rfl rfl rfl rfl bF (rd:=.bool false) (r:=.bool false) (λ_ _=>.bool _) q ?_;simp[iC];refine⟨rfl,?_⟩;refine Hl.ret ?_;exact⟨trivial,by simp[C5],bC⟩
  |some j=>
   have G:j<10:=by
    have:=(B0.1 e).1;exact this
   have d:(yS.map aJ)[j]?.getD default=aJ (yS.getD j 0):=aDb.resolve_right (by show¬10<=j;omega);simp at d;obtain⟨f,p⟩:∃f,yS.getD j 0=f:=⟨_,rfl⟩;rw[Mr e,p]at n;rw[Mr e,p];simp[A7]at p;rw[p]at d;have z:=n 0 _ rfl;have D:=C.yield i _ z;have q:=Su h (i+1) (Kg (a:=[_]) n).2;have l:=YM x.text 46 aE;repeat refine Hl.seq ?_
   refine kP hT hW (λ_=>none) ?_;simp[iC,dB,fitD,findD_int,e,bM,d];repeat refine Hl.seq ?_
   refine kP hT hW (λ_=>none) ?_;simp[iC];repeat refine Hl.seq ?_
   refine Hl.cond (b:=true) bC (λ_=>?_) λh=>by cases h
   repeat refine Hl.seq ?_
   refine kP hT hW (og 22 (.plain ⟨.tup [.d (.str (Bj 46 x.text)),.d (.str (Bk 46 x.text)),.d (.bool (Ce 46 x.text))],true⟩)) ?_;simp[iC,bM];refine⟨l,?_⟩;repeat refine Hl.seq ?_
   refine oD hT hW [(4,.box true [.d (aJ x.kind),.d (.str x.text),.d (aJ x.n),.d (.sl (x.kids.map Nd.d))])] rfl (by rfl) bC 7 rfl rfl rfl rfl bF (rd:=.bool true) (r:=.bool true) (λ_ _=>.bool _) D ?_;simp[iC,dF.d];refine⟨rfl,?_⟩;repeat refine Hl.seq ?_
   refine Hl.cond (b:=false) bC (λh=>by cases h) λ_=>?_;refine Hl.skip ?_;simp[iC];repeat refine Hl.seq ?_
   refine xZ (λw m=>qH [3,4] [(4,4)] bF bF (by simp[m,dN]) rfl rfl) ?_;simp;refine oD hT hW [(4,.box true [.d (aJ x.kind),.d (.str x.text),.d (aJ x.n),.d (.sl (x.kids.map Nd.d))])] rfl (by rfl) bC 3 rfl rfl rfl rfl bF (rd:=.bool false) (r:=.bool false) (λ_ _=>.bool _) q ?_;simp[iC];refine⟨rfl,?_⟩;refine Hl.ret ?_;exact⟨trivial,by simp[C5,Nat.add_comm 1],bC⟩
 intro K W v E u A s;cases A with
 |val _ _=>exact g K W o E u (C.walk K i W u) s
end
section
open Go.Proofs Go.RowKit
attribute[local simp] aW bJ bE aR
attribute[local simp] lB.cond Nd.d_eq nd_t nd_dr nd_td ndsD aX bK
theorem YO{F:Se prog}{y d:Value}{b:List dF}(C:Ke F y d b)(x:Nd):weighN x<=1000000000->Bl F d b x:=
 nP (p:=λx=>weighN x<=1000000000->Bl F d b x) (λk t n a g f=>UL C (.mk k t n a) f λc e=>g c e (by
  have h:weighN c<=weighL a:=weigh_mem e;have i:weighN (.mk k t n a)=weighL a+t.length+1:=weighN_eq _;omega)) x
def Cf(u:dF):aAX where
 ds:=[aJ u.bk,u.d]
 vs:=[.int .i64 u.bk,.agg #[.int .i64 u.kind,.string ⟨u.name.toArray⟩,.string ⟨u.field.toArray⟩]]
 rd:=λw E=>.cons (.int _ _) (.cons (.agg [aJ u.kind,.str u.name,.str u.field] [.int .i64 u.kind,.string ⟨u.name.toArray⟩,.string ⟨u.field.toArray⟩] rfl (by simp[Value.oneCell']) (by
  intro i c v hc hv
  match i,hc,hv with
  |0,hc,hv=>cases hc;cases hv;exact .int _ _
  |1,hc,hv=>cases hc;cases hv;exact .str _
  |2,hc,hv=>cases hc;cases hv;exact .str _)) .nil)
theorem YP{w:World}{E:Nat->Prop}{u:dF}{c:List Value}(h:Oa w E [aJ u.bk,u.d] c):c=(Cf u).vs:=by
 match c,h.1 with
 |[a,b],_=>
  have g:=h.2 0 _ _ rfl rfl;have i:=h.2 1 _ _ rfl rfl;cases g;cases i with
  |agg _ us hl _ hc=>
   match us,hl with
   |[p,q,r],_=>
    have d:=hc 0 _ _ rfl rfl;have e:=hc 1 _ _ rfl rfl;have f:=hc 2 _ _ rfl rfl;cases d;cases e;cases f;rfl
theorem Cg{P:Program}{N:Nat}{c:dH}{X:Nat->Prop}{b:eO}{H:dQ}{β:Nat->Option Nat}{a:Act}{w:World}{x:Code}{K:Exit->Act->World->Prop}(g:eO)(i:dQ)(s:nD N c X b H β a w)(q:c.flat=true)(p:oB x=true)
 (h:fL P N c X x (LN c g i) b H)(k:∀m d f,nD N c X g i m d f->K .normal d f):x.wpIn (RF none) 0 P K a w:=by
 refine wpIn_mono (h none (.inr ⟨p,q⟩) β a w s) ?_;rintro e d f ⟨r,j,y,m,n,t,l,o⟩;cases r with
 |exit id=>exact l.elim
 |ret=>exact l.elim
 |normal=>
  cases e<;>simp only[iB]at n;obtain⟨v,u⟩:=o _ _ _ _ _ t;exact k v d f u
theorem Kh{w:World}{E:Nat->Prop}{β:Nat->Option Nat}{H:dQ}{id:Nat}{fz:Bool}{l:LV}(h:dT w E β H id)(i:H id=.box fz [l]):∃b e u,β id=some b/\w.heap[b]? =some (.cells #[u] e (0,0))/\u.oneCell'=true/\Eng.R w E β H l u:=by
 unfold dT at h;rw[i]at h;obtain⟨b,e,j,a,c,d,f,g⟩:=h
 match j,d with
 |[u],_=>exact⟨b,e,u,a,c,f u bC,g 0 _ _ rfl rfl⟩
theorem As{w:World}{E:Nat->Prop}{β:Nat->Option Nat}{H:dQ}{id b a:Nat}{v:Value}(h:Eng.R w E β H (.bx id a) v)(d:β id=some b)(c:(H id).live=true):v=.pointer (some ⟨b,a,none⟩):=by
 cases h with
 |bx _ _ b' _ _ _ hb'=>rw[d]at hb';cases hb';rfl
 |bxdead _ _ _ hH _=>rw[hH]at c;cases c
theorem Dd(x:Nd)(hw:weighN x<=1000000000):Xx prog 174 [.ro [aJ x.kind,.str x.text,aJ x.n,ndsD x.kids]] ((bZ x).map Cf):=by
 refine⟨⟨_,func174,jQ,rfl⟩,?_⟩;intro w X lb l J hX a9 c7 c8 c9;obtain⟨y,a0⟩:∃y,y=Value.func (.yield l) #[] #[]:=⟨_,rfl⟩;rw[<-a0];refine(callsIn_wide (n:=0)).1 (callsIn_of_wp func174 rfl trivial ?_ rfl);have s0:nD 10 ⟨w,λ_=>none,λ_=>.absent,[],true⟩ X (iQ [.val y,.ro [aJ x.kind,.str x.text,aJ x.n,ndsD x.kids]]) (aL []) (λ_=>none) ⟨(#[y]++lb.toArray)++E8 (Tryz.f174.ntmps-(#[y]++lb.toArray).size) undef,[]⟩ w:=by
  match lb,a9.1 with
  |[p],_=>
  refine⟨HB.nil,?_,⟨rfl,rfl,rfl,C3 _,λ_ _ _=>rfl,C3 _⟩,⟨λk f=>⟨hX.1 k f,λ⟨id,h,_⟩=>by cases h⟩,hX.2.anti λk f=>f.resolve_right λ⟨id,h,_⟩=>by cases h⟩,λid b hl _=>by simp[aL,fU,bI.live]at hl,λi j b hi _=>by simp[aL,fU,bI.live]at hi,λt=>?_,λid=>?_,λid h=>by cases h⟩
  .simp[ntmps174]
  .rw[sO]
   match t with
   |0=>exact .d _ _ (by simp;exact .val y (by rw[a0];rfl))
   |1=>exact .d _ _ (by
     simp;exact(a9.2 0 _ _ rfl rfl).anti λk f=>f.resolve_right λ⟨id,B,_⟩=>by simp[aL,fU,bI.mut]at B)
   |t+2=>exact .junk _
  .simp[dT,aL,fU]
 generalize hA:(⟨(#[y]++lb.toArray)++E8 (Tryz.f174.ntmps-(#[y]++lb.toArray).size) undef,[]⟩:Act)=act at s0|-;clear hA;have kf:=Pz;obtain⟨rd,b7⟩:∃rd:DV,rd=.ro [aJ x.kind,.str x.text,aJ x.n,ndsD x.kids]:=⟨_,rfl⟩;repeat refine wpIn_seq ?_
 refine Cg (aQ [(1,.d rd),(2,.bx 2 0)]) (aL [(2,.box false [.d (.val y)])]) s0 rfl jQ ?_ λβ1 a1 w1 s1=>?_
 .apply aI;simp[b7];exact qH [1,2] [(2,2)] bF bF bC bC (by simp;rfl)
 show Code.wpIn _ _ _ _ _ _ _;repeat refine wpIn_seq ?_
 refine Cg (aQ [(1,.d rd),(2,.bx 2 0),(3,.bx 3 0)]) (aL [(2,.box false [.d (.val y)]),(3,.box false [.d fitD])]) s1 rfl jQ ?_ λβ2 a2 w2 s2=>?_
 .refine aU (og 5 (.plain ⟨.d fitD,false⟩)) ?_;simp;refine⟨⟨kf,rfl⟩,?_⟩;exact qH [1,2,3] [(2,2),(3,3)] bF bF bC bC (by simp;rfl)
 show Code.wpIn _ _ _ _ _ _ _;repeat refine wpIn_seq ?_
 refine Cg (aQ [(1,.d rd),(2,.bx 2 0),(3,.bx 3 0),(4,.bx 4 0)]) (aL [(2,.box false [.d (.val y)]),(3,.box false [.d fitD]),(4,.box false [.d (.val Value.nilFunc)])]) s2 rfl jQ ?_ λβ3 a3 w3 s3=>?_
 .apply aI;simp;exact qH [1,2,3,4] [(2,2),(3,3),(4,4)] bF bF bC bC bC
 show Code.wpIn _ _ _ _ _ _ _;repeat refine wpIn_seq ?_
 refine Cg (aQ [(1,.d rd),(2,.bx 2 0),(3,.bx 3 0),(4,.bx 4 0)]) (aL [(2,.box true [.d (.val y)]),(3,.box true [.d fitD]),(4,.box true [.fn 176 [.bx 3 0,.bx 2 0,.bx 4 0]])]) s3 rfl jQ ?_ λβ4 a4 m G=>?_
 .apply aI;simp;refine(jD.freeze [2,3,4]).trans (qH [1,2,3,4] [(2,2),(3,3),(4,4)] bF bF bC ?_ ?_)<;>simp
 show Code.wpIn _ _ _ _ _ _ _;have o:Bz w.heap.size w m:=G.ext.bel λk ⟨id,h,_⟩=>by cases h
 obtain⟨b2,e2,z,L,c4,b0,d1⟩:=Kh (G.obj 2) (fz:=true) (l:=.d (.val y)) rfl;obtain⟨b3,e3,u3,M,c5,d0,d2⟩:=Kh (G.obj 3) (fz:=true) (l:=.d fitD) rfl;obtain⟨b4,e4,s,N,c6,U,d3⟩:=Kh (G.obj 4) (fz:=true) (l:=.fn 176 [.bx 3 0,.bx 2 0,.bx 4 0]) rfl;have d4:z=y:=by cases d1 with|d _ _ h=>cases h;rfl
 subst d4;have a5:∀id b,(aL [(2,bI.box true [.d (.val z)]),(3,.box true [.d fitD]),(4,.box true [.fn 176 [.bx 3 0,.bx 2 0,.bx 4 0]])] id).live=true->β4 id=some b->w.heap.size<=b/\b<m.heap.size:=λid b B D=>by
  have I:=G.fresh id b B D;refine⟨I.1.resolve_right λh=>?_,I.2⟩;obtain⟨⟨i0,h0,_⟩,_⟩:=h;cases h0
 have n2:=a5 2 b2 rfl L;have n3:=a5 3 b3 rfl M;have n4:=a5 4 b4 rfl N;have d5:∀id,(aL [(2,bI.box true [.d (.val z)]),(3,.box true [.d fitD]),(4,.box true [.fn 176 [.bx 3 0,.bx 2 0,.bx 4 0]])] id).mut=false:=CQ rfl;obtain⟨p3,p2,p4,b9,b5,b1,b6⟩:∃p3 p2 p4,s=.func (.func 176) #[] #[p3,p2,p4]/\p3=.pointer (some ⟨b3,0,none⟩)/\p2=.pointer (some ⟨b2,0,none⟩)/\p4=.pointer (some ⟨b4,0,none⟩):=by
  cases d3 with
  |fn _ _ vs hl g=>
   match vs,hl with
   |[q3,q2,q4],_=>exact⟨q3,q2,q4,rfl,As (g 0 _ _ rfl rfl) M rfl,As (g 1 _ _ rfl rfl) L rfl,As (g 2 _ _ rfl rfl) N rfl⟩
 have a8:RD m X fitD u3:=by
  cases d2 with
  |d _ _ h=>exact h.anti λk f=>.inl f
 have c3:AS m X:=hX.2.step (λk f _=>o.block k f) o.size λ_ _ h=>h
 let F:Se prog:={
  T:=λK i W=>J K i W/\(∀k,w.heap.size<=k->k<m.heap.size->K k)/\m.heap.size<=W.heap.size/\(∀k,k<m.heap.size->¬X k->W.heap[k]? =m.heap[k]?)/\∀k,K k->k<W.heap.size
  S:=λk=>k<m.heap.size/\¬X k
  grow:=λK i W W' ⟨B,D,I,h4,h5⟩ o=>⟨c8 K i W W' B o,λk a b=>.inl (D k a b),E4 I o.size,λk a b=>(o.block k aE).trans (h4 k a b),λk f=>by
   have:=o.size;rcases f with f|f
   .have:=h5 k f;omega
   .exact f.2⟩
  low:=λK i W k h f=>h.2.2.2.2 k f
  same:=λK i W K' i' W' k h h' hs=>(h'.2.2.2.1 k hs.1 hs.2).trans (h.2.2.2.1 k hs.1 hs.2).symm
  glob:=λK i W h=>c3.step (λk f hn=>h.2.2.2.1 k f hn) h.2.2.1 λk f P=>A5 λhx=>P.2 (.inr ⟨f,hx⟩)}
 have b8:F.T (λk=>w.heap.size<=k/\k<m.heap.size) 0 m:=⟨c7 m o,λk a b=>⟨a,b⟩,C3 _,λ_ _ _=>rfl,λk f=>f.2⟩;have a7:∀k,X k->k<w.heap.size:=hX.1;have C:Ke F z s (bZ x):=by
  refine⟨λi u hu K W v vs A q Z=>?_,λK i W A=>?_⟩
  .have q:v=z:=by cases q;rfl
   refine .inr ⟨l,q.trans a0,?_⟩;have Z:=YP Z;subst Z;obtain⟨fn,tm,ag,bo,r1,r2⟩:=c9 K i W (Cf u) A.1 (by rw[List.getElem?_map,hu];rfl);refine⟨fn,tm,ag,bo,r1,r2.mono ?_⟩;rintro e W' ⟨rfl,q1,q2,q3⟩;have Y:=A.2.2.1;refine⟨rfl,K,⟨q1,A.2.1,E4 Y q2,λk a b=>?_,λk f=>Nat.lt_of_lt_of_le (A.2.2.2.2 k f) q2⟩,q2,λk f=>⟨f,q3 k (.inl f)⟩⟩;refine(q3 k ?_).trans (A.2.2.2.1 k a b);by_cases h:k<w.heap.size
   .exact .inr ⟨h,b⟩
   .exact .inl (A.2.1 k aE a)
  .have Y:=A.2.2.1;have c2:∀b,w.heap.size<=b->b<m.heap.size->¬F.X K W b/\b<W.heap.size/\W.heap[b]? =m.heap[b]? :=λb B D=>
    ⟨λh=>h.2.elim (.inl (A.2.1 b B D)),aE,A.2.2.2.1 b D λhx=>by have:=a7 b hx;omega⟩
   have H:∀b u (d:DV) (e:TypeId),w.heap.size<=b/\b<m.heap.size->m.heap[b]? =some (.cells #[u] e (0,0))->u.oneCell'=true->RD W (F.X K W) d u->RD W (F.X K W) (.ro [d]) (.pointer (some ⟨b,0,none⟩)):=λb u d e hb hh B hd=>by
    obtain⟨z1,z2,z3⟩:=c2 b hb.1 hb.2;refine .ro [d] b 0 [u] z1 rfl (by simpa using B) z2 (λj v hj=>?_) λi c v g q=>?_
    .match j,hj with
     |0,hj=>cases hj;simp[World.cell?,z3,hh]
    .match i,g,q with
     |0,g,q=>cases g;cases q;exact hd
   have c0:RD W (F.X K W) (.fn 176 [.ro [fitD],.ro [.val z],.ro [.val s]]) (.func (.func 176) #[] [p3,p2,p4].toArray):=by
    refine .fn _ _ [p3,p2,p4] rfl λi c v g q=>?_
    match i,g,q with
    |0,g,q=>
     cases g;cases q;rw[b5];exact H b3 u3 fitD e3 n3 c5 d0 (a8.step (λk f hn=>A.2.2.2.1 k f hn) Y λk f P=>A5 λhx=>P.2 (.inr ⟨f,hx⟩))
    |1,g,q=>
     cases g;cases q;rw[b1];exact H b2 z _ e2 n2 c4 b0 (.val _ b0)
    |2,g,q=>
     cases g;cases q;rw[b6];exact H b4 s (.val s) e4 n4 c6 U (.val _ U)
   have e:(Value.func (.func 176) #[] [p3,p2,p4].toArray)=s:=b9.symm;rw[e]at c0;exact c0
 have V:=YO C x hw 0 (λj u hj=>by rw[F5];exact hj);obtain⟨m6,g6⟩:=G.mem.rebox (b:=4) (fz:=true) (cs:=[.fn 176 [.bx 3 0,.bx 2 0,.bx 4 0]]) (cs':=[.d (.val s)]) rfl rfl λi c c' v g O hr=>by
  match i,g,O with
  |0,g,O=>
   cases g;cases O;have:v=s:=by
    rw[b9];cases hr with
    |fn _ _ vs hl g=>
     match vs,hl with
     |[q3,q2,q4],_=>rw[b5,b1,b6,As (g 0 _ _ rfl rfl) M rfl,As (g 1 _ _ rfl rfl) L rfl,As (g 2 _ _ rfl rfl) N rfl]
   rw[this];exact .d _ _ (.val s U)
 have hO:cK (aL [(2,bI.box true [.d (.val z)]),(3,.box true [.d fitD]),(4,.box true [.fn 176 [.bx 3 0,.bx 2 0,.bx 4 0]])]) 4 (.box true [.d (.val s)])=aL [(2,bI.box true [.d (.val z)]),(3,.box true [.d fitD]),(4,.box true [.d (.val s)])]:=by
  funext j;by_cases D:j=2
  .subst D;rfl
  .by_cases I:j=3
   .subst I;rfl
   .by_cases h4:j=4
    .subst h4;rfl
    .simp[cK,aL,fU,D,I,h4]
 rw[hO]at m6 g6;have c1:nD 10 ⟨w,λ_=>none,λ_=>.absent,[],true⟩ X (aQ [(1,.d rd),(2,.bx 2 0),(3,.bx 3 0),(4,.bx 4 0)]) (aL [(2,bI.box true [.d (.val z)]),(3,.box true [.d fitD]),(4,.box true [.d (.val s)])]) β4 a4 m:=
  ⟨g6.marks G.defers,G.size,m6.ext,m6.xold,m6.fresh,m6.inj,λt=>g6.R (G.env t),m6.obj,m6.pin⟩
 have E:∀id,(aL [(2,bI.box true [.d (.val z)]),(3,.box true [.d fitD]),(4,.box true [.d (.val s)])] id).mut=false:=CQ rfl;have s5:=c1.effect (X':=F.X (λk=>w.heap.size<=k/\k<m.heap.size) m) [2,3,4] (λid h=>by
  have:=pA id h;simpa using this) (c1.nodefer rfl) (C3 _) (λ_ _ _=>rfl) (λk f P=>A5 λhx=>P.2 (.inr ⟨f,hx⟩)) (λk P=>P.1) (F.glob _ _ _ b8)
 refine wpIn_mono ((oD (F:=F) (pins:=[2,3,4]) (Q:=λe _ _ i'=>(match e with| .normal=>True|_=>False)/\i'=0+(bZ x).length) hT hW [(2,.box true [.d (.val z)]),(3,.box true [.d fitD]),(4,.box true [.d (.val s)])] rfl (by rfl) bC 2 rfl rfl rfl rfl bF
  (rd:=.bool true) (r:=.bool true) (λ_ _=>.bool _) V ?_) jQ ⟨m,β4,_,[2,3,4],true⟩ _ β4 a4 m rfl rfl (λk ⟨id,_,h,_⟩=>by rw[E id]at h;cases h) b8 s5) ?_
 .simp[b7,AZ];rfl
 .rintro e a' w' ⟨lx,d7,H',i',w1,K',β',q1,q2,q3,q4,q5,q6,q7,q8,q9,d6⟩;subst d6;cases lx with
  |exit id=>exact q9.elim
  |ret=>exact q9.elim
  |normal=>
  cases e<;>simp only[iB]at q1;have a6:=q8.ext.bel q4;have hg:=F.grow K' _ _ _ q5 a6;exact⟨q8.nodefer q2,.tuple #[],by simp[results,results174],⟨_,rfl⟩,_,by rw[E9];have:=hg.1;rw[F5]at this;exact this⟩
end
section
attribute[local simp] aW bJ bE aR
attribute[local simp] lB.cond Nd.d_eq nd_t nd_dr nd_td ndsD aX
def lN(l:List Nd):List bA:=(l.filter λk=>decide (k.kind=7)).map Nd.text
def cQ(x:Nd):List bA:=lN x.kids
theorem Ki{l:List Nd}{i:Nat}(a:i<l.length):lN (l.take (i+1))=if l[i].kind=7 then lN (l.take i)++[l[i].text]else lN (l.take i):=by
 unfold lN;rw[A8 a,List.filter_append];by_cases h:l[i].kind=7<;>simp[h]
theorem DW(l:List Nd):(lN l).length<=l.length:=by unfold lN;rw[E9];exact B7 _ _
theorem Iu(x:Nd)(o:weighN x<=1000000000):Ok prog 245 [x.d] ⟨.own 1 ((cQ x).map .str),true⟩:=by
 refine bL func245 rfl ntmps245 results245 λp X d=>?_;have n:=weighN_eq x;have m:=weigh_len (l:=x.kids);apply aD;simp;apply aD;simp;apply dA;simp;apply aM;refine aO (ι:=Nat) (λi=>aQ [(3,.ow 3 0 (lN (x.kids.take i)).length),(7,.d (ndsD x.kids)),(8,.d (aJ (x.kids.length:Nat))),(9,.d (aJ (i:Nat)))]) (λi=>aL [(3,.row false 1 ((lN (x.kids.take i)).map .str))]) (λi=>i<=x.kids.length) (λi=>x.kids.length-i) 0 (aA d [3,7,8,9] [(3,3)] (by simp[lN]) (by simp[lN])) (B4 _) λi j=>?_;apply aD;simp;apply aF;apply aK;simp;refine⟨λg=>?_,λg=>?_⟩
 .apply aG;simp;apply cR;apply aF;have e:i<x.kids.length:=aE;obtain⟨k,f⟩:∃k,x.kids[i]=k:=⟨_,rfl⟩;have a:=Ki e;have c:=DW (x.kids.take i);rw[B8]at c;rw[f]at a;apply aI;simp[e,f];apply aP;simp;refine⟨λb=>?_,λb=>?_⟩
  .simp only[if_pos b]at a;apply aI;simp;refine⟨aE,?_⟩;apply aI;simp;refine⟨aE,?_⟩;refine QT.mk (i+1) (aA d [3,7,8,9] [(20,3)] (by simp[a]) (by simp[a])) ?_ ?_
   .omega
   .omega
  .simp only[if_neg b]at a;apply aG;simp;apply aI;simp;refine⟨aE,?_⟩;refine QT.mk (i+1) (aA d [3,7,8,9] [(3,3)] (by simp[a]) (by simp[a])) ?_ ?_
   .omega
   .omega
 .apply bG;simp;apply aD;simp;apply aH;have h:i=x.kids.length:=aE;subst h;rw[B1];simp[cQ]
def qB(ts:List Nd):List DV:=ts.map λt=>.str t.text
def qM(n:Nat):List DV:=(D8 n).map λ(i:Nat)=>aJ (i:Int)
def Bn(ts:List Nd):DV:=.agg [ndsD ts,.mp (qB ts) (qM ts.length)]
def pX(ts:List Nd)(name:bA):Option Nat:=ts.findIdx? λt=>decide (name=t.text)
theorem uP(a:bA):∀(b:List Nd) (i:Nat),jB (.str a) (qB b) i=some ((pX b a).map (·+i))
 |[],i=>rfl
 |x::r,i=>by
  have e:lD (.str a) (.str x.text)=some (decide (a=x.text)):=by
   simp only[lD,HC,Option.some.injEq];by_cases h:a=x.text<;>simp[h]
  unfold qB pX;rw[F3,jB,e,D9];by_cases h:a=x.text
  .simp[h]
  .simp only[h,decide_false,E0,if_false];have:=uP a r (i+1);unfold qB pX at this;rw[this];cases r.findIdx? (λt=>decide (a=t.text))with
   |none=>rfl
   |some j=>simp;omega
theorem yT{b:List Nd}{a:bA}{j:Nat}(h:pX b a=some j):j<b.length:=by
 unfold pX at h;exact(B0.1 h).1
theorem Sv{n j:Nat}(h:j<n):(qM n)[j]?.getD default=aJ (j:Nat):=by simp[qM,h]
def jH(ts:List Nd)(u:dF):Int:=match pX ts u.name with
 |none=>6
 |some j=>if(ts.getD j default).kind≠u.kind then 12 else if u.kind=1/\u.field∉cQ (ts.getD j default)then -1 else 0
def Ms(e:Int):Int:=if e=12 then 1 else if e= -1 then 2 else 0
def kD(out e:Int):Int:=if out=0\/Ms e<Ms out then e else out
def De(ts:List Nd)(us:List dF):Int:=us.foldl (λout u=>if jH ts u=0 then out else kD out (jH ts u)) 0
def Hs(ts:List Nd)(x:Nd):Int:=if De ts (bZ x)= -1 then 6 else De ts (bZ x)
def qC(e:Int):Prop:=e=0\/e=6\/e=12\/e= -1
theorem Dg(a:List Nd)(u:dF):qC (jH a u):=by
 unfold jH qC;split
 .simp
 .split
  .simp
  .split<;>simp
theorem UM(ts:List Nd)(a:List dF):qC (De ts a):=by
 have c:∀(a:List dF) (o:Int),qC o->qC (a.foldl (λb u=>if jH ts u=0 then b else kD b (jH ts u)) o):=λa=>by
  induction a with
  |nil=>exact λo h=>h
  |cons u r ih=>
   intro o h;refine ih _ ?_;show qC (if jH ts u=0 then o else kD o (jH ts u));split
   .exact h
   .unfold kD;split
    .exact Dg ts u
    .exact h
 exact c a 0 (.inl rfl)
def Ch:DV:=.mp [aJ 6,aJ 12,aJ (-1)] [aJ 0,aJ 1,aJ 2]
theorem Iv{H:Nat->bI}{e:Int}(h:qC e):dB T H 270 (.d Ch) (.d (aJ e)) false=⟨.d (aJ (Ms e)),True,[]⟩:=by
 rcases h with rfl|rfl|rfl|rfl<;>simp[dB,Ch,jB,lD,HC,Ms]
theorem Gg(a e:Int)(g:qC a)(f:qC e):iP prog 248 [.d (aJ e),.d Ch,.bx 0 0] [(0,.box false [.d (aJ a)])] [(0,.box false [.d (aJ (kD a e))])] (.tup []):=by
 refine oH func248 rfl ntmps248 results248 λi X d=>?_;apply aD;simp[Iv g,Iv f];apply aK;simp;refine⟨λc=>?_,λc h=>?_⟩
 .have b:kD a e=e:=by unfold kD;rw[if_pos c]
  apply aI;simp;simp[b];exact aA d [] [(0,0)]
 .have b:kD a e=a:=by unfold kD;rw[if_neg aE]
  apply aG;simp;simp[b];exact aA d [] [(0,0)]
def atI(ts:List Nd)(name:bA):Int:=((pX ts name).getD 0:Nat)
theorem Kj{H:Nat->bI}{b:List Nd}{n:Nat}(c:n=b.length){a:bA}:dB T H 136 (.d (.mp (qB b) (qM n))) (.d (.str a)) true=⟨.tup [.d (aJ (atI b a)),.d (.bool (pX b a).isSome)],True,[]⟩:=by
 subst c;unfold atI;cases h:pX b a with
 |none=>simp[dB,uP,h]
 |some j=>
  have:=Sv (yT h);simp[dB,uP,h,this]
def tM(x:Nd)(i:Nat):dF:=(bZ x).getD i ⟨0,0,[],[]⟩
theorem At{x:Nd}{i:Nat}{u:dF}(h:(bZ x)[i]? =some u):tM x i=u:=by unfold tM;rw[A7,h];rfl
end
section
attribute[local simp] aW bJ bE aR
attribute[local simp] lB.cond Nd.d_eq nd_t nd_dr nd_td ndsD aX bK xY Cf dF.d
theorem UN{ts:List Nd}{a:List dF}{i:Nat}{u:dF}(h:a[i]? =some u):De ts (a.take (i+1))=if jH ts u=0 then De ts (a.take i)else kD (De ts (a.take i)) (jH ts u):=by
 obtain⟨c,b⟩:=B9.1 h;unfold De;rw[A8 c,C8,b];rfl
theorem PA(a:List Nd)(x:Nd)(J:weighN x<=1000000000)(B:∀t∈a,weighN t<=1000000000):Ok prog 171 [Bn a,x.d] ⟨.d (aJ (Hs a x)),true⟩:=by
 refine bL func171 rfl ntmps171 results171 λN X f=>?_;have F:=Kd x;simp at F;apply aD;simp[Bn];apply aD;simp;apply aD;simp;apply aD;simp[cI,jB,lD,HC];refine fQ (bV 7 [13] (fz:=false) (cs:=[.mp 13]) (ds:=[Ch]) bC bC (by simp[Ch]) (by simp[bI.mut])) ?_;apply aF;refine cP (og 16 (.plain ⟨.d (.fn 174 [.ro [aJ x.kind,.str x.text,aJ x.n,.sl (x.kids.map Nd.d)]]),false⟩)) ?_;simp;refine⟨F,?_⟩;apply aM;refine fQ (aA f [2,5,6,7,16] [(2,2),(5,5),(6,6),(7,7)] (env':=aQ [(2,.bx 2 0),(5,.bx 5 0),(6,.bx 6 0),(7,.bx 7 0),(16,.d (.fn 174 [.ro [aJ x.kind,.str x.text,aJ x.n,.sl (x.kids.map Nd.d)]]))]) (H':=aL [(2,.box false [.d (ndsD a),.d (.mp (qB a) (qM a.length))]),(5,.box false [.d (aJ 0)]),(6,.box false [.fn 248 [.bx 5 0]]),(7,.box false [.d Ch])]) bC bC) ?_;refine fL.rangeFunc (items:=(bZ x).map Cf) (by simpa using Dd x J) bC (by intro D d;obtain⟨u,_,rfl⟩:=F6.1 d;rfl) bC jQ jQ (λi=>aL [(2,.box false [.d (ndsD a),.d (.mp (qB a) (qM a.length))]),(5,.box false [.d (aJ (De a ((bZ x).take i)))]),(6,.box false [.fn 248 [.bx 5 0]]),(7,.box false [.d Ch])]) (λi=>aL [(2,.box false [.d (ndsD a),.d (.mp (qB a) (qM a.length))]),(5,.box false [.d (aJ (De a ((bZ x).take (i+1))))]),(6,.box false [.fn 248 [.bx 5 0]]),(7,.box false [.d Ch]),(9,.box false [.d (aJ (tM x i).kind),.d (.str (tM x i).name),.d (.str (tM x i).field)])]) (rfl) [2,5,6,7] bF (by simp[f]) (λi id h=>by simpa using pA id h) (λi=>aQ [(2,.bx 2 0),(5,.bx 5 0),(6,.bx 6 0),(7,.bx 7 0),(9,.bx 9 0)]) (λi=>aL [(2,.box false [.d (ndsD a),.d (.mp (qB a) (qM a.length))]),(5,.box false [.d (aJ (De a ((bZ x).take i)))]),(6,.box false [.fn 248 [.bx 5 0]]),(7,.box false [.d Ch]),(9,.box false [.d (aJ (tM x i).kind),.d (.str (tM x i).name),.d (.str (tM x i).field)])]) [2,5,6,7,9] (λi id h=>by simpa using pA id h) (λi M=>?_) (λL G i D f d=>?_) (λL G i D f d=>?_) ?_
 .simp
 .obtain⟨u,w,rfl⟩:=eT d;have l:=At w;apply aI;simp;exact aA f [2,5,6,7,9] [(2,2),(5,5),(6,6),(7,7),(9,9)] (hH:=by simp[l])
 .obtain⟨u,w,rfl⟩:=eT d;have l:=At w;obtain⟨o,z⟩:∃o,De a ((bZ x).take i)=o:=⟨_,rfl⟩;have p:qC o:=by rw[<-z];exact UM _ _
  have e:=UN (ts:=a) w;have I:=Dg a u;rw[z]at e;simp[l,z];apply aM;apply aD;simp[Kj,bM];apply aM;apply aP;simp;refine⟨λH=>?_,λH=>?_⟩
  .have k:jH a u=6:=by unfold jH;cases h:pX a u.name<;>simp_all
   have s:=Gg o 6 p (by simp[qC]);rw[k,if_neg bF]at e;refine aU (og 32 (.gen ⟨[(5,0)],[],[],[(0,.box false [.d (aJ (kD o 6))])],.tup []⟩)) ?_;simp;refine⟨by simpa using s,?_⟩;exact aA f [] [(2,2),(5,5),(6,6),(7,7),(9,9)] (hH:=by simp[l,e])
  .obtain⟨j,q⟩:∃j,pX a u.name=some j:=by cases h:pX a u.name<;>simp_all
   have c:=yT q;obtain⟨t,r⟩:∃t,a[j]=t:=⟨_,rfl⟩;have A:t∈a:=by rw[<-r];exact A2 c
   have g:atI a u.name=(j:Nat):=by unfold atI;rw[q];rfl
   have b:a.getD j default=t:=(by rw[A7,A0 c,r];rfl);apply aF;refine fL.rd [] [] (λ_=>none) ?_;simp[g,c,r];apply aK;simp;refine⟨λC=>?_,λC=>?_⟩
   .have k:jH a u=12:=by unfold jH;rw[q];simp only[b];rw[if_pos C]
    have s:=Gg o 12 p (by simp[qC]);rw[k,if_neg bF]at e;refine aU (og 45 (.gen ⟨[(5,0)],[],[],[(0,.box false [.d (aJ (kD o 12))])],.tup []⟩)) ?_;simp;refine⟨by simpa using s,?_⟩;exact aA f [] [(2,2),(5,5),(6,6),(7,7),(9,9)] (hH:=by simp[l,e])
   .have n:t.kind=u.kind:=aE;apply aF;by_cases v:u.kind=1
    rotate_left
    .refine fL.rd [[],[],[],[],[],[],[],[],[],[],[56],[56]] [[],[],[],[],[],[],[],[],[],[56],[],[],[59]] (λ_=>none) ?_;simp[g,c,r,v];have k:jH a u=0:=by unfold jH;rw[q];simp only[b];rw[if_neg (by simp[n]),if_neg (by simp[v])]
     rw[k,if_pos rfl]at e;apply aK;simp[g,c,r,v];apply aG;simp;exact aA f [] [(2,2),(5,5),(6,6),(7,7),(9,9)] (hH:=by simp[l,e])
    .have E:=Iu t (B t A);have K:=Mm (cQ t) u.field;simp at E;refine fL.rd [[],[],[],[],[],[],[],[],[],[],[56],[56]] [[],[],[],[],[],[],[],[],[],[56],[],[],[59]] (λ|56=>some<| .plain ⟨.own 1 ((cQ t).map .str),true⟩|59=>some<| .plain ⟨.d (.bool (decide (u.field∈cQ t))),true⟩|_=>none) ?_;simp[g,c,r,v];refine⟨⟨E,by simpa using K⟩,?_⟩;apply aK;simp;refine⟨λy=>?_,λy=>?_⟩
     .have k:jH a u= -1:=by unfold jH;rw[q];simp only[b];rw[if_neg (by simp[n]),if_pos (by simp_all)]
      have s:=Gg o (-1) p (by simp[qC]);rw[k,if_neg bF]at e;refine aU (og 64 (.gen ⟨[(5,0)],[],[],[(0,.box false [.d (aJ (kD o (-1)))])],.tup []⟩)) ?_;simp;refine⟨by simpa using s,?_⟩;exact aA f [] [(2,2),(5,5),(6,6),(7,7),(9,9)] (hH:=by simp[l,e])
     .have k:jH a u=0:=by unfold jH;rw[q];simp only[b];rw[if_neg (by simp[n]),if_neg (by simp_all)]
      rw[k,if_pos rfl]at e;apply aG;simp;exact aA f [] [(2,2),(5,5),(6,6),(7,7),(9,9)] (hH:=by simp[l,e])
 .apply aF;apply aP;simp;refine⟨λm=>?_,λm=>?_⟩
  .apply aD;simp;apply aH;unfold Hs;rw[if_pos m];simp
  .apply aG;simp;apply aD;simp;apply aH;unfold Hs;rw[if_neg m];simp
def kZ(ts:List Nd)(b:Int->Bool)(f:Nat->List Nat->List Nat)(M:List Nat)(u:dF):List Nat:=match pX ts u.name with
 |some k=>if b u.bk=true/\k∉M then f k (M++[k])else M
 |none=>M
def iE(ts:List Nd)(b:Int->Bool):Nat->Nat->List Nat->List Nat
 |0,_,M=>M
 |f+1,i,M=>(bZ (ts.getD i default)).foldl (kZ ts b (iE ts b f)) M
theorem Dh(a:List Nd)(b:Int->Bool)(f i:Nat)(M:List Nat):iE a b (f+1) i M=(bZ (a.getD i default)).foldl (kZ a b (iE a b f)) M:=rfl
def UO(n:Nat)(M:List Nat):Nat:=((D8 n).filter λk=>decide (k∉M)).length
theorem YQ{n:Nat}{M a:List Nat}(h:∀k∈M,k∈a):UO n a<=UO n M:=by
 unfold UO;have:(D8 n).filter (λk=>decide (k∉a))=((D8 n).filter (λk=>decide (k∉M))).filter λk=>decide (k∉a):=by
  rw[E1];congr 1;funext k;by_cases b:k∈a
  .simp[b]
  .have:k∉M:=λc=>b (h k c);simp[b,this]
 rw[this];exact B7 _ _
theorem Bo{α:Type}{p q:α->Bool}:∀{l:List α} {x:α},(∀y,q y=true->p y=true)->x∈l->p x=true->q x=false->(l.filter q).length<(l.filter p).length
 |a::l,x,hpq,d,hp,hq=>by
  have f:(l.filter q).length<=(l.filter p).length:=by
   have:l.filter q=(l.filter p).filter q:=by
    rw[E1];congr 1;funext y;cases h:q y with
    |true=>simp[hpq y h]
    |false=>simp
   rw[this];exact B7 _ _
  rcases A6.1 d with rfl|d
  .rw[B2 hp,B3 (by simp[hq])];simp only[A3];omega
  .have e:=Bo hpq d hp hq;by_cases b:p a=true
   .by_cases c:q a=true
    .rw[B2 b,B2 c];simpa using e
    .rw[B2 b,B3 c];simp only[A3];omega
   .have c:¬q a=true:=λh=>b (hpq a h);rw[B3 b,B3 c];exact e
theorem YR{n:Nat}{M:List Nat}{k:Nat}(b:k<n)(h:k∉M):UO n (M++[k])<UO n M:=by
 unfold UO;exact Bo (x:=k) (λy a=>by simp at a|-;exact a.1) (List.mem_range.2 b) (by simpa using h) bC
theorem sY{α:Type}{f:List Nat->α->List Nat}(h:∀M x k,k∈M->k∈f M x):∀(l:List α) (M:List Nat),∀k∈M,k∈l.foldl f M
 |[],_,_,hk=>hk
 |x::l,M,k,hk=>sY h l (f M x) k (h M x k hk)
theorem Bp(c:List Nd)(b:Int->Bool):∀(f i:Nat) (M:List Nat),∀k∈M,k∈iE c b f i M
 |0,_,_,_,a=>a
 |f+1,i,M,k,a=>by
  refine sY (λM u k a=>?_) _ M k a;unfold kZ;split
  .split
   .exact Bp c b f _ _ k (D5 _ a)
   .exact a
  .exact a
theorem Bq(c:List Nd)(b:Int->Bool)(f:Nat)(M:List Nat)(u:dF):∀k∈M,k∈kZ c b (iE c b f) M u:=λk a=>by
 unfold kZ;split
 .split
  .exact Bp c b f _ _ k (D5 _ a)
  .exact a
 .exact a
def Ci(M:List Nat):List DV:=M.map λ(k:Nat)=>aJ (k:Int)
def Ht(M:List Nat):List DV:=M.map λ_=>.bool true
theorem Di(k:Nat):∀(M:List Nat) (i:Nat),jB (aJ (k:Int)) (Ci M) i=some ((M.findIdx? (λx=>decide (k=x))).map (·+i))
 |[],i=>rfl
 |x::r,i=>by
  have e:lD (aJ (k:Int)) (aJ (x:Int))=some (decide (k=x)):=by
   simp only[lD,HC,Option.some.injEq];by_cases h:k=x
   .simp[h]
   .have:¬((k:Int)=x):=aE;simp[h,this]
  unfold Ci;rw[F3,jB,e,D9];by_cases h:k=x
  .simp[h]
  .simp only[h,decide_false,E0,if_false];have:=Di k r (i+1);unfold Ci at this;rw[this];cases r.findIdx? (λx=>decide (k=x))with
   |none=>rfl
   |some j=>simp;omega
theorem Gh{M:List Nat}{m:Nat}(h:m∉M):(M.findIdx? λx=>decide (m=x))=none:=by
 rw[C7];intro x a;simp;intro e;subst e;exact h a
theorem PB{M:List Nat}{m:Nat}(h:m∈M):∃j,(M.findIdx? λx=>decide (m=x))=some j/\j<M.length:=by
 cases q:(M.findIdx? λx=>decide (m=x))with
 |none=>rw[C7]at q;have:=q m h;simp at this
 |some j=>exact⟨j,rfl,(B0.1 q).1⟩
theorem Mt(M:List Nat){H:dQ}{x:LV}{k:Nat}(h:tR H x=some (Ci M,Ht M)):
 dB T H 155 x (.d (aJ (k:Int))) false=⟨.d (.bool (decide (k∈M))),True,[]⟩:=by
 unfold dB;simp only[aDK,h,Di];by_cases a:k∈M
 .obtain⟨j,b,c⟩:=PB a;simp[b,c,a,tQ,bU,gP,Ht]
 .simp[Gh a,a,tQ,bU,gP,lZ,xD,TK.isNone,TK.agg]
theorem aBl(M:List Nat){H:dQ}{id:Nat}{k:Nat}(a:k∉M)(h:H id=.map false (Ci M) (Ht M)):
 cI T H 155 (.mp id) (.d (aJ (k:Int))) (.d (.bool true))=⟨.junk,True,[(id,.map false (Ci (M++[k])) (Ht (M++[k])))]⟩:=by
 unfold cI;simp only[aDK,h,Di,Gh a];simp[tQ,bU,gP,Ci,Ht]
def EA(ts:List Nd)(g:FuncId)(M:List Nat):List (Nat×bI):=[(1,.box false [.d (ndsD ts),.d (.mp (qB ts) (qM ts.length))]),(2,.box false [.d (.fn g [])]),(3,.box false [.mp 100]),(4,.box false [.fn 182 [.bx 1 0,.bx 2 0,.bx 3 0,.bx 4 0]]),(100,.map false (Ci M) (Ht M))]
theorem YS(a:List Nd)(b:Int->Bool)(g:FuncId)(f p:Nat)(M:List Nat)(F:∀t∈a,weighN t<=1000000000)(C:∀k,Ok prog g [aJ k] ⟨.d (.bool (b k)),true⟩)(m:p<a.length)(U:UO a.length M<f+1)(Z:∀k z,k<a.length->UO a.length z<f->iP prog 182 [.d (aJ (k:Int)),.bx 1 0,.bx 2 0,.bx 3 0,.bx 4 0] (EA a g z) (EA a g (iE a b f k z)) (.tup [])):iP prog 182 [.d (aJ (p:Int)),.bx 1 0,.bx 2 0,.bx 3 0,.bx 4 0] (EA a g M) (EA a g (iE a b (f+1) p M)) (.tup []):=by
 unfold EA at*;refine oH func182 rfl ntmps182 results182 λw0 X e=>?_;obtain⟨x,G⟩:∃x,a[p]=x:=⟨_,rfl⟩;have I:x∈a:=by rw[<-G];exact A2 m
 have r:a.getD p default=x:=by rw[A7,A0 m,G];rfl
 have J:=F x I;have P:iE a b (f+1) p M=(bZ x).foldl (kZ a b (iE a b f)) M:=by rw[Dh,r]
 have N:=Kd x;simp at N;refine cP (og 15 (.plain ⟨.d (.fn 174 [.ro [aJ x.kind,.str x.text,aJ x.n,.sl (x.kids.map Nd.d)]]),false⟩)) ?_;simp[m,G];refine⟨N,?_⟩;apply aM;refine fQ (aA e [1,2,3,4,15] [(1,1),(2,2),(3,3),(4,4),(100,100)] (env':=aQ [(1,.bx 1 0),(2,.bx 2 0),(3,.bx 3 0),(4,.bx 4 0),(15,.d (.fn 174 [.ro [aJ x.kind,.str x.text,aJ x.n,.sl (x.kids.map Nd.d)]]))]) (H':=aL [(1,.box false [.d (ndsD a),.d (.mp (qB a) (qM a.length))]),(2,.box false [.d (.fn g [])]),(3,.box false [.mp 100]),(4,.box false [.fn 182 [.bx 1 0,.bx 2 0,.bx 3 0,.bx 4 0]]),(100,.map false (Ci M) (Ht M))]) bC bC) ?_;refine fL.rangeFunc (items:=(bZ x).map Cf) (by simpa using Dd x J) bC (by intro L c;obtain⟨u,_,rfl⟩:=F6.1 c;rfl) bC jQ jQ (λi=>aL [(1,.box false [.d (ndsD a),.d (.mp (qB a) (qM a.length))]),(2,.box false [.d (.fn g [])]),(3,.box false [.mp 100]),(4,.box false [.fn 182 [.bx 1 0,.bx 2 0,.bx 3 0,.bx 4 0]]),(100,.map false (Ci (((bZ x).take i).foldl (kZ a b (iE a b f)) M)) (Ht (((bZ x).take i).foldl (kZ a b (iE a b f)) M)))]) (λi=>aL [(1,.box false [.d (ndsD a),.d (.mp (qB a) (qM a.length))]),(2,.box false [.d (.fn g [])]),(3,.box false [.mp 100]),(4,.box false [.fn 182 [.bx 1 0,.bx 2 0,.bx 3 0,.bx 4 0]]),(7,.box false [.d (aJ (tM x i).kind),.d (.str (tM x i).name),.d (.str (tM x i).field)]),(100,.map false (Ci (((bZ x).take (i+1)).foldl (kZ a b (iE a b f)) M)) (Ht (((bZ x).take (i+1)).foldl (kZ a b (iE a b f)) M)))]) (rfl) [1,2,3,4,100] bF (by simp[e]) (λi id h=>by simpa using pA id h) (λi=>aQ [(1,.bx 1 0),(2,.bx 2 0),(3,.bx 3 0),(4,.bx 4 0),(6,.d (aJ (tM x i).bk)),(7,.bx 7 0)]) (λi=>aL [(1,.box false [.d (ndsD a),.d (.mp (qB a) (qM a.length))]),(2,.box false [.d (.fn g [])]),(3,.box false [.mp 100]),(4,.box false [.fn 182 [.bx 1 0,.bx 2 0,.bx 3 0,.bx 4 0]]),(7,.box false [.d (aJ (tM x i).kind),.d (.str (tM x i).name),.d (.str (tM x i).field)]),(100,.map false (Ci (((bZ x).take i).foldl (kZ a b (iE a b f)) M)) (Ht (((bZ x).take i).foldl (kZ a b (iE a b f)) M)))]) [1,2,3,4,7,100] (λi id h=>by simpa using pA id h) (λi K=>?_) (λw1 O i L e c=>?_) (λw1 O i L e c=>?_) ?_
 .simp
 .obtain⟨u,y,rfl⟩:=eT c;have l:=At y;apply aD;simp;apply aI;simp;exact aA e [1,2,3,4,6,7] [(1,1),(2,2),(3,3),(4,4),(7,7),(100,100)] (by simp[l]) (by simp[l])
 .obtain⟨u,y,rfl⟩:=eT c;have l:=At y;obtain⟨o,D⟩:∃o,((bZ x).take i).foldl (kZ a b (iE a b f)) M=o:=⟨_,rfl⟩;have E:((bZ x).take (i+1)).foldl (kZ a b (iE a b f)) M=kZ a b (iE a b f) o u:=by
   obtain⟨K,S⟩:=B9.1 y;rw[A8 K,C8,S,D];rfl
  have Y:UO a.length o<f+1:=by
   refine Nat.lt_of_le_of_lt (YQ λk V=>?_) U;rw[<-D];exact sY (Bq a b f) _ M k V
  simp[l,D];apply aM;apply aD;simp[Kj,bM];apply aF;by_cases v:(pX a u.name).isSome=true
  rotate_left
  .refine vG hT hW (λ_=>none) (by intro d;first|exact⟨rfl,λ_ h=>h⟩|(split<;>exact⟨rfl,λ_ h=>h⟩)) ?_;simp[v];have q:kZ a b (iE a b f) o u=o:=by unfold kZ;rw[show pX a u.name=none by simpa using v]
   apply aK;simp[v];apply aG;simp;exact aA e [] [(1,1),(2,2),(3,3),(4,4),(7,7),(100,100)] (hH:=by simp[l,E,q])
  .obtain⟨j,w⟩:∃j,pX a u.name=some j:=by cases h:pX a u.name<;>simp_all
   have s:=yT w;have B:atI a u.name=(j:Nat):=by unfold atI;rw[w];rfl
   have kb:=C u.bk;have W:=λ(H:dQ) (h:tR H (.mp 100)=some (Ci o,Ht o))=>Mt o (k:=j) h;refine aU (og 30 (.plain ⟨.d (.bool (b u.bk)),true⟩)) ?_;simp[v,B,W,tR];refine⟨kb,?_⟩;apply aK;simp;refine⟨λA n=>?_,λA=>?_⟩
   .have q:kZ a b (iE a b f) o u=iE a b f j (o++[j]):=by unfold kZ;rw[w];exact if_pos ⟨A,n⟩
    apply aD;simp[aBl o n];refine aU (og 42 (.gen ⟨[(1,1),(2,2),(3,3),(4,4),(100,100)],[],[],EA a g (iE a b f j (o++[j])),.tup []⟩)) ?_;simp[EA];have Q:=Z j (o++[j]) s (by have:=YR s n;omega);refine⟨by simpa using Q,?_⟩;exact aA e [] [(1,1),(2,2),(3,3),(4,4),(7,7),(100,100)] (hH:=by simp[l,E,q])
   .have q:kZ a b (iE a b f) o u=o:=by unfold kZ;rw[w];exact if_neg (by simpa using A)
    apply aG;simp;exact aA e [] [(1,1),(2,2),(3,3),(4,4),(7,7),(100,100)] (hH:=by simp[l,E,q])
 .simp;exact aA e [] [(1,1),(2,2),(3,3),(4,4),(100,100)] (hH:=by simp[P])
theorem YT(a:List Nd)(b:Int->Bool)(g:FuncId)(d:∀t∈a,weighN t<=1000000000)(c:∀k,Ok prog g [aJ k] ⟨.d (.bool (b k)),true⟩):∀(f k:Nat) (M:List Nat),k<a.length->UO a.length M<f->iP prog 182 [.d (aJ (k:Int)),.bx 1 0,.bx 2 0,.bx 3 0,.bx 4 0] (EA a g M) (EA a g (iE a b f k M)) (.tup [])
 |0,_,_,_,h=>absurd h (D2 _)
 |f+1,k,M,hk,h=>YS a b g f k M d c hk h λl i e j=>YT a b g d c f l i e j
def kE(ts:List Nd)(b:Int->Bool)(i:Nat):List Nat:=iE ts b (ts.length+1) i []
theorem Gi(a:List Nd)(b:Int->Bool)(g:FuncId)(i:Nat)(d:∀t∈a,weighN t<=1000000000)(c:∀k,Ok prog g [aJ k] ⟨.d (.bool (b k)),true⟩)(e:i<a.length):Ok prog 104 [Bn a,aJ (i:Int),.fn g []] ⟨.d (.mp (Ci (kE a b i)) (Ht (kE a b i))),false⟩:=by
 refine bL func104 rfl ntmps104 results104 λh X f=>?_;apply aD;simp[Bn];apply aD;simp;apply aD;simp;apply aD;simp;refine cP (og 13 (.gen ⟨[(3,1),(5,2),(7,3),(8,4),(9,100)],[],[],EA a g (kE a b i),.tup []⟩)) ?_;simp[EA];refine⟨by simpa [EA,kE,Ci,Ht]using YT a b g d c (a.length+1) i [] e (Nat.lt_succ_of_le (E4 (B7 _ _) bC)),?_⟩;apply aD;simp;apply aH;simp
theorem UP(k:Int):Ok prog 172 [aJ k] ⟨.d (.bool (decide (k=14))),true⟩:=by
 refine bL func172 rfl ntmps172 results172 λb X a=>?_;apply aD;simp;apply aD;simp;apply aH;simp
theorem UQ(k:Int):Ok prog 105 [aJ k] ⟨.d (.bool true),true⟩:=by
 refine bL func105 rfl ntmps105 results105 λb X a=>?_;apply aD;simp;apply aD;simp;apply aH;simp
end
def fB{α:Type}[DecidableEq α]:List α->List α
 |a::b::r=>if a=b then fB (b::r)else a::fB (b::r)
 |l=>l
theorem Gj{α:Type}[DecidableEq α]:∀(l:List α) (x:α) (h:l≠[]),fB (l++[x])=if l.getLast h=x then fB l else fB l++[x]
 |[a],x,_=>by
  simp only[E6,List.nil_append,fB,List.getLast_singleton];split<;>rename_i e<;>simp[e]
 |a::b::r,x,_=>by
  have d:=Gj (b::r) x bC;have f:(a::b::r).getLast bC=(b::r).getLast bC:=bC;rw[f];simp only[E6]at d|-;simp only[fB];rw[d];by_cases c:a=b
  .simp only[if_pos c]
  .simp only[if_neg c];split<;>rfl
theorem UR{α:Type}{l:List α}{p:Nat}(c:0<p)(b:p<=l.length)(a:l.take p≠[]):(l.take p).getLast a=l[p-1]:=by
 rw[List.getLast_eq_getElem];simp[Nat.min_eq_left b]
theorem vY{α:Type}[DecidableEq α]{l:List α}{p:Nat}(b:0<p)(d:p<l.length):fB (l.take (p+1))=if l[p-1]=l[p]then fB (l.take p)else fB (l.take p)++[l[p]]:=by
 have a:l.take p≠[]:=λe=>by have:=congrArg F8 e;rw[B8,List.length_nil]at this;omega
 have c:l.take (p+1)=l.take p++[l[p]]:=bC;rw[c,Gj _ _ a,UR b aE]
theorem vZ{α:Type}[DecidableEq α]:∀l:List α,(fB l).length<=l.length
 |a::b::r=>by
  have:=vZ (b::r);simp only[fB];split
  .simp at*;omega
  .simp at*;omega
 |[]=>C3 _
 |[_]=>C3 _
theorem Iw{α:Type}[DecidableEq α]{x:α}:∀l:List α,x∈fB l↔x∈l
 |a::b::r=>by
  have:=Iw (x:=x) (b::r);simp only[fB];split
  .rename_i e;rw[this];subst e;simp
  .rw[A6,this];simp
 |[]=>Iff.rfl
 |[_]=>Iff.rfl
def gE{α:Type}(lt:α->α->Bool)(l:List α):Prop:=l.Pairwise λa b=>lt a b=true
structure STO{α:Type}(lt:α->α->Bool):Prop where
 irrefl:∀a,lt a a=false
 trans:∀a b c,lt a b=true->lt b c=true->lt a c=true
 total:∀a b,lt a b=false->lt b a=false->a=b
theorem STO.asym{α:Type}{c:α->α->Bool}(O:STO c){a b:α}(h:c a b=true):c b a=false:=by
 cases q:c b a with
 |false=>rfl
 |true=>have:=O.trans a b a h q;rw[O.irrefl]at this;cases this
theorem Au{α:Type}{n:α->α->Bool}(O:STO n):∀{l m:List α},gE n l->gE n m->(∀x,x∈l↔x∈m)->l=m
 |[],[],_,_,_=>rfl
 |[],b::m,_,_,h=>by have:=(h b).2 bC;cases this
 |a::l,[],_,_,h=>by have:=(h a).1 bC;cases this
 |a::l,b::m,hl,hm,h=>by
  have c:=B5.1 hl;have d:=B5.1 hm;have k:a=b:=by
   have f:=(h a).1 bC;have g:=(h b).2 bC;rcases A6.1 f with f|f
   .exact f
   .rcases A6.1 g with g|g
    .exact g.symm
    .have:=O.asym (c.1 b g);rw[d.1 a f]at this;cases this
  subst k;rw[Au O c.2 d.2 λx=>?_];constructor
  .intro i;rcases A6.1 ((h x).1 (by simp[i]))with e|j
   .subst e;have:=c.1 x i;rw[O.irrefl]at this;cases this
   .exact j
  .intro i;rcases A6.1 ((h x).2 (by simp[i]))with e|j
   .subst e;have:=d.1 x i;rw[O.irrefl]at this;cases this
   .exact j
theorem qN{α:Type}[DecidableEq α]{d:α->α->Bool}(O:STO d):∀{l:List α},l.Pairwise (λa b=>d b a=false)->gE d (fB l)
 |[],_=>.nil
 |[_],_=>List.pairwise_singleton _ _
 |a::b::r,h=>by
  have f:=B5.1 h;have i:=qN O f.2;simp only[fB];split
  .exact i
  .rename_i g;refine B5.2 ⟨λx e=>?_,i⟩;have e:=(Iw _).1 e;have j:=f.1 b bC;have c:d a b=true:=by
    cases q:d a b with
    |true=>rfl
    |false=>exact absurd (O.total a b q j) g
   rcases A6.1 e with rfl|e
   .exact c
   .have k:=(B5.1 f.2).1 x e;cases q:d b x with
    |true=>exact O.trans _ _ _ c q
    |false=>have:=O.total b x q k;subst this;exact c
theorem US{α:Type}{k:Nat}{x y:α}{out:List α}:y∈gU k x out↔y=x\/y∈out:=by
 unfold gU;rw[C6,A6]
 conv=>rhs;rw[<-D4 k out,C6]
 constructor
 .rintro(h|h|h)<;>simp[h]
 .rintro(h|h|h)<;>simp[h]
theorem Dj{α:Type}{p:α->Bool}{out:List α}:∀k,k<=out.length->(∀i (h:i<out.length),lH p out k<=i->i<k->p out[i]=true)/\(∀i (h:i<out.length),lH p out k=i+1->p out[i]=false)
 |0,_=>⟨λi _ _ h=>aE,λi _ h=>by simp[lH]at h⟩
 |k+1,hk=>by
  have c:k<out.length:=aE;obtain⟨d,f⟩:=Dj k aE (p:=p) (out:=out);cases q:p out[k]with
  |true=>
   rw[Ac c q];refine⟨λi a b g=>?_,f⟩;by_cases e:i=k
   .subst e;exact q
   .exact d i a b aE
  |false=>
   have:lH p out (k+1)=k+1:=qW λi e a=>by
    have:i=k:=aE;subst this;exact q
   rw[this];exact⟨λi _ d f=>aE,λi a e=>by
    have:i=k:=aE;subst this;exact q⟩
section
attribute[local simp] aW bJ bE aR
attribute[local simp] lB.cond Nd.d_eq nd_t nd_dr nd_td ndsD
theorem UT{l:List bA}:fB (l.take 1)=l.take 1:=by cases l<;>simp[fB]
theorem DX{l:List bA}(h:l.length<2):fB l=l:=by
 match l,h with
 |[],_=>rfl
 |[_],_=>rfl
theorem Mu{α:Type}{a b:List α}{p i:Nat}(h:a.drop p=b.drop p)(f:p<=i)(d:i<a.length)(e:i<b.length):a[i]=b[i]:=by
 have c:=congrArg (·[i-p]?) h;simp only[List.getElem?_drop,show p+(i-p)=i by omega,A0 d,A0 e]at c;exact Option.some.inj c
theorem Mv(l:List bA)(d:l.length<=1000000000000):Ok prog 247 [uB l] ⟨.own 1 (l.map .str),true⟩:=by
 refine bL func247 rfl ntmps247 results247 λf X e=>?_;apply aD;simp;apply eG;refine FN hT hW 4 (decide (l=[])) (λ_=>none) (λ_=>⟨rfl,λ_ h=>h⟩) jQ λc a=>?_;simp;apply aK;simp;refine⟨λb=>?_,λb=>?_⟩
 .apply aD;simp;apply aH;have:=a b;simp at this;simp[this]
 .apply aG;simp;apply aD;simp;refine⟨aE,?_⟩;apply aH;simp
theorem Hu(l:List bA)(E:l.length<=8000000000000):iP prog 246 [.ow 0 0 l.length] [(0,.row false 1 (l.map .str))] [(0,.row false 1 ((fB l).map .str++List.replicate (l.length-(fB l).length) (.str [])))] (.ow 0 0 (fB l).length):=by
 refine iV func246 rfl ntmps246 results246 λF X b=>?_;apply aD;simp;apply aF;apply aP;simp;refine⟨λB=>?_,λB=>?_⟩
 .apply aD;simp;apply aH;simp;refine aA b [2] [(0,0)] ?_ ?_
  .simp[DX (by omega:l.length<2)]
  .simp[DX (by omega:l.length<2)]
 .apply aG;simp;apply dA;simp;apply aM;refine aO (ι:=Nat) (λk=>aQ [(0,.ow 0 0 l.length),(3,.d (aJ k))]) (λk=>aL [(0,.row false 1 (l.map .str))]) (λk=>1<=k/\k<=l.length/\fB (l.take k)=l.take k) (λk=>l.length-k) 1 (aA b [0,3] [(0,0)]) (⟨aE,aE,UT⟩) λk d=>?_;apply aF;apply aP;simp;refine⟨λi=>?_,λi=>?_⟩
  .apply aG;simp;apply cR;apply aF;refine fL.rd [] [] (λ_=>none) ?_;simp[(show((k:Int)- 1).toNat=k-1 by omega),i,(show k-1<l.length by omega)];refine⟨aE,?_⟩;apply aK;simp;refine⟨λs=>?_,λs=>?_⟩
   .apply aD;simp;refine⟨aE,?_⟩;apply dA;simp;apply aM;refine aO (ι:=Nat×Nat×List bA) (λ⟨q,a,r⟩=>aQ [(0,.ow 0 0 l.length),(3,.d (aJ a)),(4,.ow 0 k (l.length-k)),(5,.d (aJ q))]) (λ⟨q,a,r⟩=>aL [(0,.row false 1 (r.map .str))]) (λ⟨q,a,r⟩=>1<=q/\k+q<=l.length/\1<=a/\a+1<=k+q/\r.length=l.length/\r.take a=fB (l.take (k+q))/\r.drop (k+q-1)=l.drop (k+q-1)) (λ⟨q,a,r⟩=>l.length-k-q) (1,k,l) (aA b [0,3,4,5] [(0,0)]) (⟨aE,aE,aE,aE,rfl,by rw[vY aE i,if_pos s.symm,d.2.2],rfl⟩) λ⟨q,a,r⟩ j=>?_;apply aF;apply aP;simp;refine⟨λC=>?_,λC=>?_⟩
    .apply aG;simp;apply cR;apply aF;obtain⟨x,y,z,A,p,f,g⟩:=j;have n:k+q<l.length:=aE;have u:r[k+q]'aE=l[k+q]:=Mu g aE aE n;have v:r[k+(q-1)]'aE=l[k+(q-1)]:=Mu g aE aE aE;refine fL.rd [] [] (λ_=>none) ?_;simp[(show((q:Int)- 1).toNat=q-1 by omega),(show k+q<r.length by omega),(show k+(q-1)<r.length by omega),u,v];refine⟨aE,?_⟩;apply aK;simp;refine⟨λc=>?_,λc=>?_⟩
     .apply aD;simp[(show k+q<r.length by omega),u];refine⟨aE,?_⟩;apply aI;simp;refine⟨aE,?_⟩;apply aI;simp;refine⟨aE,?_⟩;refine QT.mk (q+1,a+1,r.set a l[k+q]) (aA b [0,3,4,5] [(0,0)]) ?_ ?_
      .have t:a<r.length:=aE;have o:¬l[k+q-1]=l[k+q]:=λe=>c (by rw[<-e];congr 1;omega);dsimp only;refine⟨aE,aE,aE,aE,by simp[p],?_,?_⟩
       .rw[A8 (by simpa using t),List.getElem_set_self,List.take_set_of_le aE,f,<-C5,vY aE n,if_neg o]
       .have h:=congrArg (D7 1) g;rw[A9,A9,show k+q-1+1=k+q by omega]at h;rw[show k+(q+1)- 1=k+q by omega,List.drop_set_of_lt aE,h]
      .omega
     .apply aG;simp;apply aI;simp;refine⟨aE,?_⟩;refine QT.mk (q+1,a,r) (aA b [0,3,4,5] [(0,0)]) ?_ ?_
      .have o:l[k+q-1]=l[k+q]:=by rw[c];congr 1;omega
       dsimp only;refine⟨aE,aE,aE,aE,p,?_,?_⟩
       .rw[f,<-C5,vY aE n,if_pos o]
       .have h:=congrArg (D7 1) g;rw[A9,A9,show k+q-1+1=k+q by omega]at h;rw[show k+(q+1)- 1=k+q by omega,h]
      .omega
    .apply bG;simp;apply aD;simp;refine⟨aE,?_⟩;apply aD;simp;refine⟨aE,?_⟩;apply aH;simp;obtain⟨x,y,z,A,p,f,g⟩:=j;have n:k+q=l.length:=aE;rw[n,B1]at f;have m:(fB l).length=a:=by rw[<-f];simp;omega
     refine aA b [2] [(0,0)] ?_ ?_
     .simp[m]
     .have D:D7 (a+(l.length-a)) (List.map DV.str r)=[]:=A4 jJ;simp;rw[D,m,<-f,List.map_take,List.append_nil]
   .apply aG;simp;apply aI;simp;refine⟨aE,?_⟩;refine QT.mk (k+1) (aA b [0,3] [(0,0)]) ?_ ?_
    .have w:¬l[k-1]=l[k]:=λe=>s e.symm;exact⟨aE,i,by rw[vY aE i,if_neg w,d.2.2];simp⟩
    .omega
  .apply bG;simp;apply aD;simp;apply aH;simp;have q:k=l.length:=aE;have e:=d.2.2;rw[q,B1]at e;refine aA b [2] [(0,0)] ?_ ?_
   .simp[e]
   .simp[e]
end
section
attribute[local simp] aW bJ bE aR
attribute[local simp] lB.cond Nd.d_eq nd_t nd_dr nd_td ndsD aX
theorem AP(s t:bA)(a:s.length<=9223372036854775807)(c:t.length<=9223372036854775807):Ok prog 282 [.str s,.str t] ⟨.d (.bool (decide (s.take t.length=t))),true⟩:=by
 refine bL func282 rfl ntmps282 results282 λd X b=>?_;apply aD;simp;apply aD;simp;apply aH;simp;rw[Bool.beq_eq_decide_eq,F0];simp only[Bool.and_eq_true,decide_eq_true_eq];refine⟨λh=>h.2,λh=>⟨?_,h⟩⟩;have e:=congrArg F8 h;rw[B8]at e;omega
theorem qO(s t:bA)(a:s.length<=9223372036854775807)(b:t.length<=9223372036854775807):Ok prog 232 [.str s,.str t] ⟨.d (.bool (decide (s.take t.length=t))),true⟩:=by
 refine bL func232 rfl ntmps232 results232 λd X c=>?_;apply aD;simp;apply aF;have h:=AP s t a b;refine aU (og 7 (.plain ⟨.d (.bool (decide (s.take t.length=t))),true⟩)) ?_;simp;refine⟨h,?_⟩;apply aH;simp
theorem EB(s:bA)(c:UInt8):Ok prog 233 [.str s,.int .u8 (c.toNat:Int)] ⟨.d (aJ (wZ c s)),true⟩:=by
 refine bL func233 rfl ntmps233 results233 λb X a=>?_;apply aD;simp;apply aF;have h:=Cd s c;refine aU (og 7 (.plain ⟨.d (aJ (wZ c s)),true⟩)) ?_;simp;refine⟨h,?_⟩;apply aH;simp
theorem lQ(c:UInt8)(r:bA):nextN (c::r)=if letterB c then wordN (c::r)else if c=36 then(if 0<wordN r then wordN r+1 else 0)
 else if digitB c then(if runP digitB (c::r)<=3 then runP digitB (c::r)else 0)
 else if(c::r).take 2=[60,61]\/(c::r).take 2=[61,61]then 2 else if c∈signs then 1 else 0:=rfl
theorem Sw{c:UInt8}:((c.toNat:Int)=36)↔c=36:=by
 rw[<-C1];have:(36:UInt8).toNat=36:=rfl;omega
theorem pR(c:UInt8)(r:bA)(a b:UInt8):(c::r).take 2=[a,b]↔c=a/\r.take 1=[b]:=bC
theorem Gk(c:UInt8):∀l:bA,0<=wZ c l↔c∈l
 |[]=>by simp[wZ,cutAt]
 |d::l=>by
  have a:=Gk c l;unfold wZ at a|-;unfold cutAt;by_cases h:d=c
  .simp[h]
  .rw[if_neg h];have b:¬c=d:=λe=>h e.symm;cases q:cutAt c l with
   |none=>rw[q]at a;simp only[Option.map_none,A6,b,false_or];exact a
   |some q2=>rw[q]at a;simp only[Option.map_some,A6,b,false_or,A3];exact⟨λ_=>a.1 bC,λ_=>aE⟩
theorem aBm(c:UInt8)(r:bA)(i:(c::r).length<=9223372036854775807):Ok prog 154 [.str (c::r)] ⟨.d (aJ (nextN (c::r))),true⟩:=by
 refine bL func154 rfl ntmps154 results154 λA X y=>?_;have z:r.length+1<=9223372036854775807:=by simpa using i
 apply aD;simp;apply cR;apply aF;have s:=Aq c;refine aU (og 8 (.plain ⟨.d (.bool (letterB c)),true⟩)) ?_;simp;refine⟨s,?_⟩;apply aK;simp;refine⟨λa=>?_,λa=>?_⟩
 .apply aF;have u:=Kc (c::r) i;refine aU (og 10 (.plain ⟨.d (aJ (wordN (c::r))),true⟩)) ?_;simp;refine⟨u,?_⟩;apply aH;simp;rw[lQ,if_pos a]
 .apply aP;simp;refine⟨λb=>?_,λb=>?_⟩
  .apply eG;have v:=Kc r aE;refine aU (og 17 (.plain ⟨.d (aJ (wordN r)),true⟩)) ?_;simp;refine⟨⟨aE,v⟩,?_⟩;apply aP;simp;refine⟨λp=>?_,λp=>?_⟩
   .apply aF;have x:=yM r;apply aI;simp;refine⟨aE,?_⟩;apply aH;simp;rw[lQ,if_neg (by simp[a]),if_pos (Sw.1 b),if_pos p];rfl
   .apply aG;simp;apply aD;simp;apply aH;simp;rw[lQ,if_neg (by simp[a]),if_pos (Sw.1 b),if_neg aE];rfl
  .apply aF;have t:=yR c;refine aU (og 25 (.plain ⟨.d (.bool (digitB c)),true⟩)) ?_;simp;refine⟨t,?_⟩;apply aK;simp;refine⟨λd=>?_,λd=>?_⟩
   .apply eG;have w:=YK (c::r) digitB 230 (λc=>yR c) i;refine aU (og 27 (.plain ⟨.d (aJ (runP digitB (c::r))),true⟩)) ?_;simp;refine⟨w,?_⟩;apply aP;simp;refine⟨λj=>?_,λj=>?_⟩
    .apply aD;simp;apply aH;simp;rw[lQ,if_neg (by simp[a]),if_neg (λe=>b (Sw.2 e)),if_pos d,if_pos aE]
    .apply aG;simp;apply aD;simp;apply aH;simp;rw[lQ,if_neg (by simp[a]),if_neg (λe=>b (Sw.2 e)),if_pos d,if_neg aE];rfl
   .apply aF;have l:=qO (c::r) [60,61] i bF;have k:=qO (c::r) [61,61] i bF;refine aU (λ|33=>some<| .plain ⟨.d (.bool (decide ((c::r).take 2=[60,61]))),true⟩|36=>some<| .plain ⟨.d (.bool (decide ((c::r).take 2=[61,61]))),true⟩|_=>none) ?_;simp;refine⟨⟨⟨by simpa using l,λ_=>by simpa using k⟩,λh=>E5.1 λq=>h q.1 q.2⟩,?_⟩;apply aK;simp;refine⟨λg=>?_,λn o=>?_⟩
    .apply aD;simp;apply aH;simp;rw[lQ,if_neg (by simp[a]),if_neg (λe=>b (Sw.2 e)),if_neg (by simp[d]),if_pos (by rw[pR,pR];exact g)];rfl
    .apply aF;have m:=EB [40,41,123,125,61,43,45,42,60,59,46] c;refine aU (og 41 (.plain ⟨.d (aJ (wZ c [40,41,123,125,61,43,45,42,60,59,46])),true⟩)) ?_;simp;refine⟨m,?_⟩;apply aK;simp;refine⟨λf=>?_,λf=>?_⟩
     .apply aD;simp;apply aH;simp;rw[lQ,if_neg (by simp[a]),if_neg (λe=>b (Sw.2 e)),if_neg (by simp[d]),if_neg (by rw[pR,pR];rintro(⟨e1,e2⟩|⟨e1,e2⟩);exact n e1 e2;exact o e1 e2),if_pos ((Gk c signs).1 f)];rfl
     .apply aG;simp;apply aD;simp;apply aH;simp;rw[lQ,if_neg (by simp[a]),if_neg (λe=>b (Sw.2 e)),if_neg (by simp[d]),if_neg (by rw[pR,pR];rintro(⟨e1,e2⟩|⟨e1,e2⟩);exact n e1 e2;exact o e1 e2),if_neg (λe=>by have:=(Gk c signs).2 e;unfold signs at this;omega)];rfl
end
section
attribute[local simp] aW bJ bE aR
attribute[local simp] lB.cond Nd.d_eq nd_t nd_dr nd_td ndsD
theorem Mw(x:Nd)(g:weighN x<=1000000000)(f:∀y∈x.kids,weighN y<=1000000000->Ok prog 243 [y.d] ⟨.d (aJ (depthN y)),true⟩):Ok prog 243 [x.d] ⟨.d (aJ (depthN x)),true⟩:=by
 refine bL func243 rfl ntmps243 results243 λh X b=>?_;apply aD;simp;apply aD;simp;apply dA;simp;apply aM;refine aO (ι:=Nat) (λi=>aQ [(1,.bx 1 0),(3,.d (aJ (depthL (x.kids.take i)))),(4,.d (aJ i))]) (λi=>aL [(1,.box false [.d (aJ x.kind),.d (.str x.text),.d (aJ x.n),.d (ndsD x.kids)])]) (λi=>i<=x.kids.length) (λi=>x.kids.length-i) 0 (aA b [1,3,4] [(1,1)] (by simp[depthL])) (B4 _) λi d=>?_;apply aF;apply aP;simp;refine⟨λc=>?_,λc=>?_⟩
 .apply aG;simp;apply cR;have a:i<x.kids.length:=aE;have e:=f _ (A2 a) (by have:=kQ a;omega);refine aU (og 18 (.plain ⟨.d (aJ (depthN x.kids[i])),true⟩)) ?_;simp[a];refine⟨by simpa using e,?_⟩;have:=jZ x;apply aI;simp;refine⟨aE,?_⟩;refine QT.mk (i+1) (aA b [1,3,4] [(1,1)] (by simp[depthL_succ a,Sm])) ?_ ?_
  .omega
  .omega
 .apply bG;simp;apply aF;have a:i=x.kids.length:=aE;subst a;rw[B1];have q1:=depth_size x;have q2:=size_weigh x;have q3:=depthN_eq x;apply aI;simp;refine⟨aE,?_⟩;apply aH;simp[q3]
theorem Ix(x:Nd):weighN x<=1000000000->Ok prog 243 [x.d] ⟨.d (aJ (depthN x)),true⟩:=
 nP (p:=λx=>weighN x<=1000000000->Ok prog 243 [x.d] ⟨.d (aJ (depthN x)),true⟩) (λ_ _ _ _ b a=>Mw _ a b) x
theorem UU(x:Nd):Ok prog 362 [x.d] ⟨.d (aJ (lvlN x.kind)),true⟩:=by
 refine bL func362 rfl ntmps362 results362 λo X d=>?_;apply aD;simp;apply dA;simp;apply aM;refine aY (ι:=BC) (λ⟨b⟩=>aQ [(1,.bx 1 0),(4,.d (aJ (x.kind))),(5,.d (.bool b))]) (λ⟨b⟩=>aL [(1,.box false [.d (aJ x.kind),.d (.str x.text),.d (aJ x.n),.d (ndsD x.kids)])]) (λ⟨b⟩=>b=true↔(x.kind=26\/x.kind=27\/x.kind=28)) ?_ λ⟨b⟩ a=>?_
 .apply aP;simp;refine⟨λi=>?_,λi=>?_⟩
  .apply aG;simp;refine aAV.mk ⟨decide (x.kind=26)⟩ (aA d [1,4,5] [(1,1)]) ?_;simp[i]
  .apply aP;simp;refine⟨λj=>?_,λj=>?_⟩
   .apply aG;simp;refine aAV.mk ⟨decide (x.kind=27)⟩ (aA d [1,4,5] [(1,1)]) ?_;simp[j]
   .apply aI;simp;refine aAV.mk ⟨decide (x.kind=28)⟩ (aA d [1,4,5] [(1,1)]) ?_;simp only[decide_eq_true_eq];omega
 .apply aK;simp;refine⟨λf=>?_,λf=>?_⟩
  .have m:=a.1 f;apply aD;simp;apply aH;have e:lvlN x.kind=1:=by rcases m with h|h|h<;>rw[h]<;>rfl
   simp[e]
  .have m:¬(x.kind=26\/x.kind=27\/x.kind=28):=λq=>by simp[a.2 q]at f
   refine aY (ι:=BC) (λ⟨b⟩=>aQ [(1,.bx 1 0),(4,.d (aJ (x.kind))),(9,.d (.bool b))]) (λ⟨b⟩=>aL [(1,.box false [.d (aJ x.kind),.d (.str x.text),.d (aJ x.n),.d (ndsD x.kids)])]) (λ⟨b⟩=>b=true↔(x.kind=29\/x.kind=30)) ?_ λ⟨b⟩ c=>?_
   .apply aP;simp;refine⟨λk=>?_,λk=>?_⟩
    .apply aG;simp;refine aAV.mk ⟨decide (x.kind=29)⟩ (aA d [1,4,9] [(1,1)]) ?_;simp[k]
    .apply aI;simp;refine aAV.mk ⟨decide (x.kind=30)⟩ (aA d [1,4,9] [(1,1)]) ?_;simp only[decide_eq_true_eq];omega
   .apply aK;simp;refine⟨λg=>?_,λg=>?_⟩
    .have n:=c.1 g;apply aD;simp;apply aH;have e:lvlN x.kind=2:=by rcases n with h|h<;>rw[h]<;>rfl
     simp[e]
    .have n:¬(x.kind=29\/x.kind=30):=λq=>by simp[c.2 q]at g
     apply aP;simp;refine⟨λl=>?_,λl=>?_⟩
     .apply aD;simp;apply aH;have e:lvlN x.kind=3:=by rw[l];rfl
      simp[e]
     .apply aG;simp;apply aD;simp;apply aH;have e:lvlN x.kind=4:=by unfold lvlN;rw[if_neg aE]
      simp[e]
theorem Gl(x:Nd)(a:Int)(b:Ok prog 315 [x.d] ⟨.d (.str (exprT x)),true⟩)(e:(exprT x).length<=10000000000):Ok prog 342 [x.d,aJ a] ⟨.d (.str (paren (decide (lvlN x.kind<a)) (exprT x))),true⟩:=by
 refine bL func342 rfl ntmps342 results342 λg X f=>?_;apply aD;simp;apply eG;have d:=UU x;refine aU (og 6 (.plain ⟨.d (aJ (lvlN x.kind)),true⟩)) ?_;simp;refine⟨by simpa using d,?_⟩;apply aK;simp;refine⟨λc=>?_,λc=>?_⟩
 .refine cP (og 10 (.plain ⟨.d (.str (exprT x)),true⟩)) ?_;simp;refine⟨by simpa using b,?_⟩;apply aH;simp[paren];intro h;omega
 .apply aG;simp;refine cP (og 12 (.plain ⟨.d (.str (exprT x)),true⟩)) ?_;simp;refine⟨⟨⟨by simpa using b,aE⟩,aE⟩,?_⟩;apply aH;simp[paren];intro h;omega
theorem Sx{x:Int}(a:0<=x)(h:x<256):IntKind.u8.wrap x=x:=by
 unfold IntKind.wrap;simp[IntKind.bits,IntKind.signed];omega
theorem uQ(m:Nat):itoaS (m:Int)=decS m:=by unfold itoaS;rw[if_neg aE];rfl
theorem Mx{m:Nat}(h:0<m):itoaS (-(m:Int))=45::decS m:=by unfold itoaS;rw[if_pos aE,Int.natAbs_neg];rfl
theorem Iy{n:Nat}(h:n<1000)(b:10<=n):decS n=decS (n / 10)++decS (n%10):=by
 have a:n%10<10:=Nat.mod_lt _ bF;unfold decS;rw[if_neg aE,if_pos a];by_cases q:n<100
 .rw[if_pos q,if_pos aE];rfl
 .rw[if_neg q,if_neg aE,if_pos aE,Nat.div_div_eq_div_mul];rfl
theorem Sy{n:Nat}(h:n<10):decS n=[E7 (48+n)]:=by unfold decS;rw[if_pos h]
theorem AQ(n:Int)(k: -999<=n)(s:n<=999)(g:∀m:Int,0<=m->m<=999->(n<0\/m<n)->Ok prog 220 [aJ m] ⟨.d (.str (itoaS m)),true⟩):Ok prog 220 [aJ n] ⟨.d (.str (itoaS n)),true⟩:=by
 refine bL func220 rfl ntmps220 results220 λv X t=>?_;apply aD;simp;apply aF;apply aP;simp;refine⟨λk=>?_,λk=>?_⟩
 .apply aF;obtain⟨m,c⟩:∃m:Nat,n= -(m:Int):=⟨n.natAbs,aE⟩;obtain⟨a,e⟩:∃a,a=m / 10:=⟨_,rfl⟩;obtain⟨b,f⟩:∃b,b=m%10:=⟨_,rfl⟩;have h:n.tdiv 10= -(a:Int):=by subst c e;rw[Int.neg_tdiv];rfl
  have i:n.tmod 10= -(b:Int):=by subst c f;rw[Int.neg_tmod];rfl
  have d:=g (a:Int) aE aE aE;have p:=g (b:Int) aE aE aE;have l:=cG (a:Int);have u:=cG (b:Int);have o:0- -(a:Int)=(a:Int):=aE;have w:0- -(b:Int)=(b:Int):=aE;refine aU (λ|8=>some<| .plain ⟨.d (.str (itoaS (a:Int))),true⟩|13=>some<| .plain ⟨.d (.str (itoaS (b:Int))),true⟩|_=>none) ?_;simp[h,i];refine⟨by(repeat' with_reducible apply And.intro)<;>first|omega|exact d|exact p|(simp only[A3];omega),?_⟩;apply aH;simp;subst c e f;rw[Mx aE,uQ,uQ,Iy (n:=m) aE aE]
 .apply aG;simp;apply aF;apply aP;simp;refine⟨λq=>?_,λq=>?_⟩
  .apply aF;obtain⟨m,c⟩:∃m:Nat,n= -(m:Int):=⟨n.natAbs,aE⟩;have d:=g (m:Int) aE aE aE;have l:=cG (m:Int);have o:0-n=(m:Int):=aE;refine aU (og 19 (.plain ⟨.d (.str (itoaS (m:Int))),true⟩)) ?_;simp[o];refine⟨by(repeat' with_reducible apply And.intro)<;>first|omega|exact d,?_⟩;apply aH;simp;subst c;rw[Mx aE,uQ]
  .apply aG;simp;apply aF;apply aP;simp;refine⟨λr=>?_,λr=>?_⟩
   .apply aF;obtain⟨m,c⟩:∃m:Nat,n=(m:Int):=⟨n.natAbs,aE⟩;have j:IntKind.u8.wrap (48+n)=48+n:=Sx aE aE;apply aI;simp[j];refine⟨by(repeat' with_reducible apply And.intro)<;>first|omega|decide,?_⟩;apply aH;simp;subst c;rw[uQ,Sy aE];rfl
   .apply aG;simp;apply aF;obtain⟨m,c⟩:∃m:Nat,n=(m:Int):=⟨n.natAbs,aE⟩;obtain⟨a,e⟩:∃a,a=m / 10:=⟨_,rfl⟩;obtain⟨b,f⟩:∃b,b=m%10:=⟨_,rfl⟩;have h:n.tdiv 10=(a:Int):=by subst c e;rfl
    have i:n.tmod 10=(b:Int):=by subst c f;rfl
    have d:=g (a:Int) aE aE aE;have l:=cG (a:Int);have j:IntKind.u8.wrap (48+(b:Int))=48+(b:Int):=Sx aE aE;refine fL.rd [[35],[35],[35],[30],[30],[30],[30],[30],[30]] [[],[],[30],[],[],[],[],[35]] (og 30 (.plain ⟨.d (.str (itoaS (a:Int))),true⟩)) ?_;simp[h,i,j];refine⟨by(repeat' with_reducible apply And.intro)<;>first|omega|exact d|decide,?_⟩;apply aH;simp;subst c e f;rw[uQ,uQ,Iy (n:=m) aE aE,Sy (n:=m%10) aE];rfl
theorem kF(n:Int)(c: -999<=n)(d:n<=999):Ok prog 220 [aJ n] ⟨.d (.str (itoaS n)),true⟩:=by
 have b:∀k:Nat,k<=999->Ok prog 220 [aJ (k:Int)] ⟨.d (.str (itoaS (k:Int))),true⟩:=λk=>by
  induction k using Nat.strongRecOn with
  |ind k ih=>
   intro f;refine AQ _ aE aE λm a _ e=>?_;obtain⟨j,rfl⟩:=C9 a;exact ih j aE aE
 refine AQ n c d λm a e _=>?_;obtain⟨j,rfl⟩:=C9 a;exact b j aE
theorem Iz{x a b:Nd}(h:exprT x=paren (decide (lvlN a.kind<(if levelAt x.kind=1 then 2 else levelAt x.kind))) (exprT a)++32::(signAt x.kind++32::paren (decide (lvlN b.kind<levelAt x.kind+1)) (exprT b))){l m:Int}{s:bA}
 (c:(if levelAt x.kind=1 then 2 else levelAt x.kind)=l)(d:levelAt x.kind+1=m)(e:signAt x.kind=s):exprT x=paren (decide (lvlN a.kind<l)) (exprT a)++32::(s++32::paren (decide (lvlN b.kind<m)) (exprT b)):=by
 rw[h,c,d,e]
theorem PC(x:Nd)(hr:rightN x=true)(he:isExprK x.kind=true)(hw:weighN x<=1000000000)(Z:∀y∈x.kids,rightN y=true->isExprK y.kind=true->weighN y<=1000000000->Ok prog 315 [y.d] ⟨.d (.str (exprT y)),true⟩):Ok prog 315 [x.d] ⟨.d (.str (exprT x)),true⟩:=by
 refine bL func315 rfl ntmps315 results315 λw0 X hp=>?_;obtain⟨f0,S,U,W,V,Q⟩:=Gc hr he;have v:=weighN_eq x;apply aD;simp;apply dA;simp;apply aM;apply aP;simp;refine⟨λh2=>?_,λh2=>?_⟩
 .apply aF;obtain⟨q1,q2,q3⟩:=S h2;have hi:=kF x.n aE q3;refine aU (og 11 (.plain ⟨.d (.str (itoaS x.n)),true⟩)) ?_;simp;refine⟨hi,?_⟩;apply aH;simp[q1]
 .apply aP;simp;refine⟨λh4=>?_,λh4=>?_⟩
  .apply aD;simp;refine⟨aE,?_⟩;apply aH;simp[U h4]
  .refine aY (ι:=BC) (λ⟨b⟩=>aQ [(1,.bx 1 0),(6,.d (aJ (x.kind))),(17,.d (.bool b))]) (λ⟨b⟩=>aL [(1,.box false [.d (aJ x.kind),.d (.str x.text),.d (aJ x.n),.d (ndsD x.kids)])]) (λ⟨b⟩=>b=true↔(x.kind=34\/x.kind=35)) ?_ λ⟨b⟩ t=>?_
   .apply aP;simp;refine⟨λh6=>?_,λh6=>?_⟩
    .apply aG;simp;refine aAV.mk ⟨decide (x.kind=34)⟩ (aA hp [1,6,17] [(1,1)]) ?_;simp[h6]
    .apply aI;simp;refine aAV.mk ⟨decide (x.kind=35)⟩ (aA hp [1,6,17] [(1,1)]) ?_;simp only[decide_eq_true_eq];omega
   .apply aK;simp;refine⟨λY=>?_,λY=>?_⟩
    .have q8:=t.1 Y;apply aD;simp;apply aH;simp[V q8]
    .have q8:¬(x.kind=34\/x.kind=35):=λq=>by simp[t.2 q]at Y
     apply aP;simp;refine⟨λh9=>?_,λh9=>?_⟩
     .apply aD;simp;apply aH;simp[W h9,sKind]
     .apply aG;simp;apply aF;have u:x.kind<=31:=aE;obtain⟨a,d,k,ra,ea,rb,eb,e⟩:=Q u;rw[k]at v Z;simp only[weighL]at v;have la:=dK a ra ea;have lb:=dK d rb eb;have p:=λc=>rA c (exprT a);have r:=λc=>rA c (exprT d);have n:=λl=>Gl a l (Z a bC ra ea aE) aE;have o:=λl=>Gl d l (Z d bC rb eb aE) aE;apply aI;simp[k];apply aD;simp[k];apply dA;simp;apply aM;apply aP;simp;refine⟨λf=>?_,λf=>?_⟩
      .apply aF;have a0:=p (decide (lvlN a.kind<2));have a6:=r (decide (lvlN d.kind<2));have w:=n 2;have E:=o 2;have K:=Iz e (l:=2) (m:=2) (s:=[60]) (by rw[f];rfl) (by rw[f];rfl) (by rw[f];rfl);refine fL.rd [[],[],[40],[37]] [[],[37],[],[],[40]] (λ|37=>some<| .plain ⟨.d (.str (paren (decide (lvlN a.kind<2)) (exprT a))),true⟩|40=>some<| .plain ⟨.d (.str (paren (decide (lvlN d.kind<2)) (exprT d))),true⟩|_=>none) ?_;simp;refine⟨by(repeat' with_reducible apply And.intro)<;>first|omega|(simpa using w)|(simpa using E),?_⟩;apply aH;simp[K]
      .apply aP;simp;refine⟨λg=>?_,λg=>?_⟩
       .apply aF;have a1:=p (decide (lvlN a.kind<2));have a7:=r (decide (lvlN d.kind<2));have z:=n 2;have F:=o 2;have L:=Iz e (l:=2) (m:=2) (s:=[60,61]) (by rw[g];rfl) (by rw[g];rfl) (by rw[g];rfl);refine fL.rd [[],[],[48],[45]] [[],[45],[],[],[48]] (λ|45=>some<| .plain ⟨.d (.str (paren (decide (lvlN a.kind<2)) (exprT a))),true⟩|48=>some<| .plain ⟨.d (.str (paren (decide (lvlN d.kind<2)) (exprT d))),true⟩|_=>none) ?_;simp;refine⟨by(repeat' with_reducible apply And.intro)<;>first|omega|(simpa using z)|(simpa using F),?_⟩;apply aH;simp[L]
       .apply aP;simp;refine⟨λh=>?_,λh=>?_⟩
        .apply aF;have a2:=p (decide (lvlN a.kind<2));have a8:=r (decide (lvlN d.kind<2));have A:=n 2;have G:=o 2;have M:=Iz e (l:=2) (m:=2) (s:=[61,61]) (by rw[h];rfl) (by rw[h];rfl) (by rw[h];rfl);refine fL.rd [[],[],[56],[53]] [[],[53],[],[],[56]] (λ|53=>some<| .plain ⟨.d (.str (paren (decide (lvlN a.kind<2)) (exprT a))),true⟩|56=>some<| .plain ⟨.d (.str (paren (decide (lvlN d.kind<2)) (exprT d))),true⟩|_=>none) ?_;simp;refine⟨by(repeat' with_reducible apply And.intro)<;>first|omega|(simpa using A)|(simpa using G),?_⟩;apply aH;simp[M]
        .apply aP;simp;refine⟨λi=>?_,λi=>?_⟩
         .apply aF;have a3:=p (decide (lvlN a.kind<2));have a9:=r (decide (lvlN d.kind<3));have B:=n 2;have H:=o 3;have N:=Iz e (l:=2) (m:=3) (s:=[43]) (by rw[i];rfl) (by rw[i];rfl) (by rw[i];rfl);refine fL.rd [[],[],[64],[61]] [[],[61],[],[],[64]] (λ|61=>some<| .plain ⟨.d (.str (paren (decide (lvlN a.kind<2)) (exprT a))),true⟩|64=>some<| .plain ⟨.d (.str (paren (decide (lvlN d.kind<3)) (exprT d))),true⟩|_=>none) ?_;simp;refine⟨by(repeat' with_reducible apply And.intro)<;>first|omega|(simpa using B)|(simpa using H),?_⟩;apply aH;simp[N]
         .apply aP;simp;refine⟨λj=>?_,λj=>?_⟩
          .apply aF;have a4:=p (decide (lvlN a.kind<2));have b0:=r (decide (lvlN d.kind<3));have C:=n 2;have I:=o 3;have O:=Iz e (l:=2) (m:=3) (s:=[45]) (by rw[j];rfl) (by rw[j];rfl) (by rw[j];rfl);refine fL.rd [[],[],[72],[69]] [[],[69],[],[],[72]] (λ|69=>some<| .plain ⟨.d (.str (paren (decide (lvlN a.kind<2)) (exprT a))),true⟩|72=>some<| .plain ⟨.d (.str (paren (decide (lvlN d.kind<3)) (exprT d))),true⟩|_=>none) ?_;simp;refine⟨by(repeat' with_reducible apply And.intro)<;>first|omega|(simpa using C)|(simpa using I),?_⟩;apply aH;simp[O]
          .apply aG;simp;apply aF;have a5:=p (decide (lvlN a.kind<3));have b1:=r (decide (lvlN d.kind<4));have D:=n 3;have J:=o 4;have P:=Iz e (l:=3) (m:=4) (s:=[42]) (by rw[(show x.kind=31 by omega)];rfl) (by rw[(show x.kind=31 by omega)];rfl) (by rw[(show x.kind=31 by omega)];rfl);refine fL.rd [[],[],[78],[75]] [[],[75],[],[],[78]] (λ|75=>some<| .plain ⟨.d (.str (paren (decide (lvlN a.kind<3)) (exprT a))),true⟩|78=>some<| .plain ⟨.d (.str (paren (decide (lvlN d.kind<4)) (exprT d))),true⟩|_=>none) ?_;simp;refine⟨by(repeat' with_reducible apply And.intro)<;>first|omega|(simpa using D)|(simpa using J),?_⟩;apply aH;simp[P]
theorem rX(x:Nd):rightN x=true->isExprK x.kind=true->weighN x<=1000000000->Ok prog 315 [x.d] ⟨.d (.str (exprT x)),true⟩:=
 nP (p:=λx=>rightN x=true->isExprK x.kind=true->weighN x<=1000000000->Ok prog 315 [x.d] ⟨.d (.str (exprT x)),true⟩) (λ_ _ _ _ d b a c=>PC _ b a c d) x
theorem Sz{x:Nd}(h:Pp x.kind x.text x.n x.kids)(l:x.kind=15\/x.kind=22\/x.kind=16\/x.kind=23\/x.kind=24):∃e,x.kids=[e]/\rightN e=true/\isExprK e.kind=true/\x.n=0:=by
 obtain⟨_,_,_,a⟩:=Am h;have c:∀e,x.kids=[e]->x.n=0->∃e,x.kids=[e]/\rightN e=true/\isExprK e.kind=true/\x.n=0:=λe i k=>⟨e,i,(a e (by rw[i];simp)).1,(a e (by rw[i];simp)).2,k⟩;rcases h with⟨d,f,b,a⟩|⟨d,f,b,e,a,g,j⟩|⟨d,f,b,u,a,g⟩|⟨d,f,b,a,g⟩|⟨d,f,b,a⟩|⟨d,f,b,a⟩|⟨d,f,b,e,a,g,j⟩
 .omega
 .exact c _ a b
 .exact c _ a b
 .omega
 .omega
 .omega
 .exact c _ a b
theorem YU{x:Nd}(h:Pp x.kind x.text x.n x.kids)(i:x.kind=13\/x.kind=14\/x.kind=17\/x.kind=18):x.kids=[]/\x.n=0:=by
 rcases h with⟨c,d,a,b⟩|⟨c,d,a,e,b,f,g⟩|⟨c,d,a,u,b,f⟩|⟨c,d,a,b,f⟩|⟨c,d,a,b⟩|⟨c,d,a,b⟩|⟨c,d,a,e,b,f,g⟩<;>first|exact⟨b,a⟩|omega
theorem My{x:Nd}(h:Pp x.kind x.text x.n x.kids)(i:x.kind=19\/x.kind=21\/x.kind=25):x.kids=[]/\0<x.n:=by
 rcases h with⟨b,c,d,a⟩|⟨b,c,d,e,a,f,g⟩|⟨b,c,d,u,a,f⟩|⟨b,c,d,a,f⟩|⟨b,c,d,a⟩|⟨b,c,d,a⟩|⟨b,c,d,e,a,f,g⟩<;>first|exact⟨f,aE⟩|exact⟨a,aE⟩|omega
theorem aBn{x:Nd}(h:Pp x.kind x.text x.n x.kids)(i:x.kind=20):x.kids=[]/\x.n=0:=by
 rcases h with⟨c,d,a,b⟩|⟨c,d,a,e,b,f,g⟩|⟨c,d,a,u,b,f⟩|⟨c,d,a,b,f⟩|⟨c,d,a,b⟩|⟨c,d,a,b⟩|⟨c,d,a,e,b,f,g⟩<;>first|exact⟨b,a⟩|omega
theorem Mz{x:Nd}(c:rightN x=true)(h:x.kind=12):x.kids.length=2:=by
 obtain⟨k,t,n,ks⟩:=x;have h:k=12:=h;subst h;obtain⟨_,_,d,_⟩:=right_mk.1 c;obtain⟨a,b,e,_⟩:=BZ (ks:=ks) (f:=isExprK) (g:=isBlockK) d;show ks.length=2;rw[e];rfl
theorem wA:Ok prog 224 [] ⟨.d (.sl tN),true⟩:=by
 refine bL func224 rfl ntmps224 results224 λb X a=>?_;apply aD;simp;apply aD;simp;refine⟨bF,?_⟩;apply aH;simp;rfl
theorem PD(x:Nd)(d:jY x)(p:weighN x<=1000000000)(o:∀y∈x.kids,Ok prog 279 [y.d] ⟨.d (.str (stmtT y)),true⟩):Ok prog 225 [x.d] ⟨.d (.str (blockT x)),true⟩:=by
 refine bL func225 rfl ntmps225 results225 λv X e=>?_;have b:=(eX x).2 d;have n:=jZ x;have a:∀y∈x.kids,rightN y=true/\isStmtK y.kind=true:=by obtain⟨q,rfl,h⟩:=d;exact h
 apply aD;simp;apply aD;simp;apply dA;simp;apply aM;refine aO (ι:=Nat) (λi=>aQ [(1,.bx 1 0),(3,.d (.str (123::32::stmtsT (x.kids.take i)))),(4,.d (aJ i))]) (λi=>aL [(1,.box false [.d (aJ x.kind),.d (.str x.text),.d (aJ x.n),.d (ndsD x.kids)])]) (λi=>i<=x.kids.length) (λi=>x.kids.length-i) 0 (aA e [1,3,4] [(1,1)] (by simp[stmtsT])) (B4 _) λi k=>?_;apply aF;apply aP;simp;refine⟨λj=>?_,λj=>?_⟩
 .apply aG;simp;apply cR;have c:i<x.kids.length:=aE;have m:=o _ (A2 c);have f:=a _ (A2 c);have r:=(eX x.kids[i]).1 f.1 f.2;have s:=kQ c;have t:=wU (l:=x.kids) (λy g=>(eX y).1 (a y g).1 (a y g).2) i;have u:=weighN_eq x;refine aU (og 18 (.plain ⟨.d (.str (stmtT x.kids[i])),true⟩)) ?_;simp[c];refine⟨⟨⟨by simpa using m,aE⟩,aE⟩,?_⟩;apply aI;simp;refine⟨aE,?_⟩;refine QT.mk (i+1) (aA e [1,3,4] [(1,1)] (by simp[DU c])) ?_ ?_
  .omega
  .omega
 .apply bG;simp;apply aF;have c:i=x.kids.length:=aE;subst c;rw[B1];rw[uO]at b;simp only[C2,A3]at b;apply aI;simp;refine⟨aE,?_⟩;apply aH;simp[uO]
theorem PE(x:Nd)(Y:rightN x=true)(hk:isStmtK x.kind=true)(hw:weighN x<=1000000000)(v:∀y∈x.kids,jY y->Ok prog 225 [y.d] ⟨.d (.str (blockT y)),true⟩):Ok prog 279 [x.d] ⟨.d (.str (stmtT x)),true⟩:=by
 refine bL func279 rfl ntmps279 results279 λo X n=>?_;obtain⟨f0,f9,S,A,U⟩:=Ge Y hk;have a3:=weighN_eq x;have a2:=(eX x).1 Y hk;have wl:=uN x.kind;have a:∀(i:Nat) (hi:i<x.kids.length),weighN x.kids[i]<weighN x:=λi hi=>kQ hi;apply aD;simp;apply aD;simp;apply dA;simp;apply aM;apply aP;simp;refine⟨λh3=>?_,λh3=>?_⟩
 .apply aF;obtain⟨l,g,d⟩:=f9 h3;have o:=a 0 l;have L:=dK _ g.1 g.2;have j:=rX _ g.1 g.2 aE;refine fL.rd [[19],[19],[19],[19]] [[],[],[],[],[],[],[],[19]] (og 19 (.plain ⟨.d (.str (exprT x.kids[0])),true⟩)) ?_;simp[l];refine⟨by(repeat' with_reducible apply And.intro)<;>first|omega|(simpa using j),?_⟩;apply aH;simp[d,UG]
 .apply aP;simp;refine⟨λh5=>?_,λh5=>?_⟩
  .apply aF;obtain⟨l,m,g,P,d⟩:=S h5;have o:=a 0 l;have w1:=a 1 m;have L:=dK _ g.1 g.2;have l1:=dK _ P.1 P.2;have j:=rX _ g.1 g.2 aE;have z:=rX _ P.1 P.2 aE;simp at j z;refine fL.rd [[],[],[],[],[32],[27],[27],[27]] [[],[],[],[27],[],[],[],[],[32]] (λ|27=>some<| .plain ⟨.d (.str (exprT x.kids[0])),true⟩|32=>some<| .plain ⟨.d (.str (exprT x.kids[1])),true⟩|_=>none) ?_;simp[l,m];refine⟨by(repeat' with_reducible apply And.intro)<;>first|omega|with_reducible assumption,?_⟩;apply aH;simp[d,UH]
  .apply aP;simp;refine⟨λO=>?_,λO=>?_⟩
   .apply aF;obtain⟨l,m,g,w,d⟩:=A (.inr O);have w7:wordAt x.kind=[119,104,105,108,101]:=by rw[O];rfl
    have d:stmtT x=Sp (wordAt x.kind) (exprT x.kids[0]) (blockT x.kids[1]):=by
     rcases d with⟨_,d⟩|⟨h2,_,d⟩
     .exact d
     .exfalso;have:=(Mz Y O);omega
    have o:=a 0 l;have w1:=a 1 m;have L:=dK _ g.1 g.2;have l1:=(eX x.kids[1]).2 w;have j:=rX _ g.1 g.2 aE;have z:=v _ (A2 m) w;simp at j z;refine fL.rd [[],[],[],[],[46],[46],[40],[40],[40]] [[],[],[],[40],[],[],[],[],[],[46]] (λ|40=>some<| .plain ⟨.d (.str (exprT x.kids[0])),true⟩|46=>some<| .plain ⟨.d (.str (blockT x.kids[1])),true⟩|_=>none) ?_;simp[l,m];refine⟨by(repeat' with_reducible apply And.intro)<;>first|omega|with_reducible assumption,?_⟩;apply aH;simp[d,Sp,w7]
   .apply aP;simp;refine⟨λW=>?_,λW=>?_⟩
    .apply aF;obtain⟨l,m,g,w,d⟩:=A (.inl W);have w9:wordAt x.kind=[105,102]:=by rw[W];rfl
     have o:=a 0 l;have w1:=a 1 m;have L:=dK _ g.1 g.2;have l1:=(eX x.kids[1]).2 w;have j:=rX _ g.1 g.2 aE;have z:=v _ (A2 m) w;simp at j z;refine fL.rd [[],[],[],[],[59],[59],[53],[53],[53]] [[],[],[],[53],[],[],[],[],[],[59]] (λ|53=>some<| .plain ⟨.d (.str (exprT x.kids[0])),true⟩|59=>some<| .plain ⟨.d (.str (blockT x.kids[1])),true⟩|_=>none) ?_;simp[l,m];refine⟨by(repeat' with_reducible apply And.intro)<;>first|omega|with_reducible assumption,?_⟩;refine aY (ι:=Unit) (λi=>aQ [(1,.bx 1 0),(4,.d (.str (stmtT x)))]) (λi=>aL [(1,.box false [.d (aJ x.kind),.d (.str x.text),.d (aJ x.n),.d (ndsD x.kids)])]) (λi=>True) ?_ λi a1=>?_
     .apply aP;simp;refine⟨λV=>?_,λV=>?_⟩
      .have s:2<x.kids.length:=aE;rcases d with⟨d,_⟩|⟨_,b2,d⟩
       .omega
       have w2:=a 2 s;have l2:=(eX x.kids[2]).2 b2;have c2:=v _ (A2 s) b2;refine aU (og 69 (.plain ⟨.d (.str (blockT x.kids[2])),true⟩)) ?_;simp[s];refine⟨by(repeat' with_reducible apply And.intro)<;>first|omega|(simpa using c2),?_⟩;exact(aA n [1,4] [(1,1)] (by simp[d,Sp,Io,sElse,w9]))
      .apply aG;simp;exact(aA n [1,4] [(1,1)] (by simp[(d.resolve_right (λ⟨h2,_⟩=>aE)).2,Sp,w9]))
     .apply aD;simp;apply aH;simp
    .apply aG;simp;apply aF;have h:=U aE;obtain⟨g1,g2,g3,g4⟩:=Am h;have d:=Sr (x:=x) aE;have ml:=Kb x.kind x.text;have nl:=CZ x.n;have kl:=Ap g4;have il:=cG x.n;have q1:=sX (k:=x.kind) aE aE;have Z:=wA;have q2:=kR;refine fL.rd [[],[72],[72]] [[72]] (og 72 (.plain ⟨.d (.sl tN),true⟩)) ?_;simp[q1];refine⟨by(repeat' with_reducible apply And.intro)<;>first|omega|exact Z,?_⟩;apply dA;simp;apply aM;refine aY (ι:=BC) (λ⟨b⟩=>aQ [(1,.bx 1 0),(3,.d (ndsD x.kids)),(5,.d (.str (wordAt x.kind))),(78,.d (aJ (x.kind))),(79,.d (.bool b))]) (λ⟨b⟩=>aL [(1,.box false [.d (aJ x.kind),.d (.str x.text),.d (aJ x.n),.d (ndsD x.kids)])]) (λ⟨b⟩=>b=true↔(x.kind=13\/x.kind=14\/x.kind=17\/x.kind=18)) ?_ λ⟨b⟩ p=>?_
     .apply aP;simp;refine⟨λB=>?_,λB=>?_⟩
      .apply aG;simp;refine aAV.mk ⟨decide (x.kind=13)⟩ (aA n [1,3,5,78,79] [(1,1)]) ?_;simp[B]
      .apply aP;simp;refine⟨λC=>?_,λC=>?_⟩
       .apply aG;simp;refine aAV.mk ⟨decide (x.kind=14)⟩ (aA n [1,3,5,78,79] [(1,1)]) ?_;simp[C]
       .apply aP;simp;refine⟨λD=>?_,λD=>?_⟩
        .apply aG;simp;refine aAV.mk ⟨decide (x.kind=17)⟩ (aA n [1,3,5,78,79] [(1,1)]) ?_;simp[D]
        .apply aI;simp;refine aAV.mk ⟨decide (x.kind=18)⟩ (aA n [1,3,5,78,79] [(1,1)]) ?_;simp only[decide_eq_true_eq];omega
     .apply aK;simp;refine⟨λt=>?_,λt=>?_⟩
      .have M:=p.1 t;apply aD;simp;refine⟨by(repeat' with_reducible apply And.intro)<;>omega,?_⟩;apply aH;have f:x.kids=[]/\x.n=0:=YU h M;simp[d,f.1,f.2,withN,withE,midT,show¬(x.kind=19\/x.kind=20)by omega,show¬(x.kind=21\/x.kind=25\/x.kind=24)by omega]
      .have M:¬(x.kind=13\/x.kind=14\/x.kind=17\/x.kind=18):=λq=>by simp[p.2 q]at t
       refine aY (ι:=BC) (λ⟨b⟩=>aQ [(1,.bx 1 0),(3,.d (ndsD x.kids)),(5,.d (.str (wordAt x.kind))),(78,.d (aJ (x.kind))),(90,.d (.bool b))]) (λ⟨b⟩=>aL [(1,.box false [.d (aJ x.kind),.d (.str x.text),.d (aJ x.n),.d (ndsD x.kids)])]) (λ⟨b⟩=>b=true↔(x.kind=15\/x.kind=22\/x.kind=16\/x.kind=23)) ?_ λ⟨b⟩ r=>?_
       .apply aP;simp;refine⟨λE=>?_,λE=>?_⟩
        .apply aG;simp;refine aAV.mk ⟨decide (x.kind=15)⟩ (aA n [1,3,5,78,90] [(1,1)]) ?_;simp[E]
        .apply aP;simp;refine⟨λF=>?_,λF=>?_⟩
         .apply aG;simp;refine aAV.mk ⟨decide (x.kind=22)⟩ (aA n [1,3,5,78,90] [(1,1)]) ?_;simp[F]
         .apply aP;simp;refine⟨λG=>?_,λG=>?_⟩
          .apply aG;simp;refine aAV.mk ⟨decide (x.kind=16)⟩ (aA n [1,3,5,78,90] [(1,1)]) ?_;simp[G]
          .apply aI;simp;refine aAV.mk ⟨decide (x.kind=23)⟩ (aA n [1,3,5,78,90] [(1,1)]) ?_;simp only[decide_eq_true_eq];omega
       .apply aK;simp;refine⟨λu=>?_,λu=>?_⟩
        .have a0:=r.1 u;apply aF;have c:∃e,x.kids=[e]/\rightN e=true/\isExprK e.kind=true/\x.n=0:=Sz h aE;obtain⟨e,c,N,K,n0⟩:=c;have o:=a 0 (by simp[c]);have L:=dK e N K;have j:=rX e N K (by simp only[c,B6]at o;omega);simp only[c,B6]at o;refine fL.rd [[104],[104],[104],[104],[104],[104]] [[],[],[],[],[],[],[],[],[],[104]] (og 104 (.plain ⟨.d (.str (exprT e)),true⟩)) ?_;simp[c];refine⟨by(repeat' with_reducible apply And.intro)<;>first|omega|(simpa using j),?_⟩;apply aH;simp[d,c,n0,withN,withE,midT,show¬(x.kind=19\/x.kind=20)by omega,show¬(x.kind=21\/x.kind=25\/x.kind=24)by omega]
        .have a0:¬(x.kind=15\/x.kind=22\/x.kind=16\/x.kind=23):=λq=>by simp[r.2 q]at u
         apply aP;simp;refine⟨λH=>?_,λH=>?_⟩
         .apply aF;have Q:=kF x.n aE aE;refine fL.rd [[117],[117],[117],[117],[117],[117]] [[],[],[],[],[],[],[],[],[117]] (og 117 (.plain ⟨.d (.str (itoaS x.n)),true⟩)) ?_;simp;refine⟨by(repeat' with_reducible apply And.intro)<;>first|omega|exact Q,?_⟩;apply aH;have f:x.kids=[]/\0<x.n:=My h aE;simp[d,f.1,f.2,withN,withE,midT,H]
         .apply aP;simp;refine⟨λI=>?_,λI=>?_⟩
          .apply aD;simp;refine⟨by(repeat' with_reducible apply And.intro)<;>omega,?_⟩;apply aH;have f:x.kids=[]/\x.n=0:=aBn h aE;simp[d,f.1,f.2,withN,withE,midT,I]
          .apply aP;simp;refine⟨λJ=>?_,λJ=>?_⟩
           .apply aF;have c:∃e,x.kids=[e]/\rightN e=true/\isExprK e.kind=true/\x.n=0:=Sz h aE;obtain⟨e,c,N,K,n0⟩:=c;have o:=a 0 (by simp[c]);have L:=dK e N K;have j:=rX e N K (by simp only[c,B6]at o;omega);simp only[c,B6]at o;refine aU (og 135 (.plain ⟨.d (.str (exprT e)),true⟩)) ?_;simp[c];refine⟨by(repeat' with_reducible apply And.intro)<;>first|omega|(simpa using j),?_⟩;apply aH;simp[d,c,n0,withN,withE,midT,J]
           .apply aG;simp;apply aF;have Q:=kF x.n aE aE;refine aU (og 142 (.plain ⟨.d (.str (itoaS x.n)),true⟩)) ?_;simp;refine⟨by(repeat' with_reducible apply And.intro)<;>first|omega|exact Q,?_⟩;apply aH;have f:x.kids=[]/\0<x.n:=My h aE;simp[d,f.1,f.2,withN,withE,midT,show¬(x.kind=19\/x.kind=20)by omega,show(x.kind=21\/x.kind=25\/x.kind=24)by omega]
theorem aDc(x:Nd):(rightN x=true->isStmtK x.kind=true->weighN x<=1000000000->Ok prog 279 [x.d] ⟨.d (.str (stmtT x)),true⟩)/\(jY x->weighN x<=1000000000->Ok prog 225 [x.d] ⟨.d (.str (blockT x)),true⟩):=by
 refine nP (p:=λx=>(rightN x=true->isStmtK x.kind=true->weighN x<=1000000000->Ok prog 279 [x.d] ⟨.d (.str (stmtT x)),true⟩)/\(jY x->weighN x<=1000000000->Ok prog 225 [x.d] ⟨.d (.str (blockT x)),true⟩)) (λk t n g f=>⟨?_,?_⟩) x
 .intro i h d;have c:∀y∈g,weighN y<=1000000000:=λy a=>by have:=weigh_mem a;rw[weighN]at d;omega
  exact PE _ i h d λy a e=>(f y a).2 e (c y a)
 .intro e d;have c:∀y∈g,weighN y<=1000000000:=λy a=>by have:=weigh_mem a;rw[weighN]at d;omega
  obtain⟨l,j,a⟩:=id e;injection j with i1 i2 i3 i4
  exact PD _ e d λy b=>(f y b).1 (a y (i4▸b)).1 (a y (i4▸b)).2 (c y b)
theorem Cj(x:Nd)(d:Ps x)(U:weighN x<=1000000000):Ok prog 151 [x.d] ⟨.d (.str (textT x)),true⟩:=by
 refine bL func151 rfl ntmps151 results151 λZ X o=>?_;obtain⟨S,d⟩:=d;have n:=weighN_eq x;have wl:=uN x.kind;have N:0<=x.kind/\x.kind<=6:=by rcases d with⟨h|h,_⟩|⟨h,_⟩|⟨h,_⟩|⟨h,_⟩|⟨h|h,_⟩<;>omega
 have q1:=sX (k:=x.kind) aE aE;have V:=cG x.n;have u:=wA;have q2:=kR;apply aD;simp;apply aF;refine fL.rd [[],[5],[5],[],[],[],[5],[5]] [[5]] (og 5 (.plain ⟨.d (.sl tN),true⟩)) ?_;simp[q1];refine⟨by(repeat' with_reducible apply And.intro)<;>first|omega|exact u,?_⟩;apply dA;simp;apply aM;apply aP;simp;refine⟨λw=>?_,λw=>?_⟩
 .apply aF;have a: -999<=x.n/\x.n<=999:=by
   rcases d with⟨h|h,_⟩|⟨h,_⟩|⟨_,_,h⟩|⟨h,_⟩|⟨h|h,_⟩<;>omega
  have g:=kF x.n a.1 a.2;refine aU (og 22 (.plain ⟨.d (.str (itoaS x.n)),true⟩)) ?_;simp;refine⟨by(repeat' with_reducible apply And.intro)<;>first|omega|exact g,?_⟩;apply aH;simp[textT,w]
 .apply aP;simp;refine⟨λz=>?_,λz=>?_⟩
  .apply aF;have C:0<=x.n/\x.n<=3:=by
    rcases d with⟨h|h,_⟩|⟨h,_⟩|⟨h,_⟩|⟨_,_,h⟩|⟨h|h,_⟩<;>omega
   have g:=kF x.n aE aE;refine aU (og 31 (.plain ⟨.d (.str (itoaS x.n)),true⟩)) ?_;simp;refine⟨by(repeat' with_reducible apply And.intro)<;>first|omega|exact g,?_⟩;apply aH;simp[textT,z]
  .refine aY (ι:=BC) (λ⟨b⟩=>aQ [(1,.bx 1 0),(3,.d (.str (wordAt x.kind++32::x.text))),(15,.d (aJ (x.kind))),(34,.d (.bool b))]) (λ⟨b⟩=>aL [(1,.box false [.d (aJ x.kind),.d (.str x.text),.d (aJ x.n),.d (ndsD x.kids)])]) (λ⟨b⟩=>b=true↔(x.kind=3\/x.kind=4)) ?_ λ⟨b⟩ m=>?_
   .apply aP;simp;refine⟨λA=>?_,λA=>?_⟩
    .apply aG;simp;refine aAV.mk ⟨decide (x.kind=3)⟩ (aA o [1,3,15,34] [(1,1)]) ?_;simp[A]
    .apply aI;simp;refine aAV.mk ⟨decide (x.kind=4)⟩ (aA o [1,3,15,34] [(1,1)]) ?_;simp only[decide_eq_true_eq];omega
   .apply aK;simp;refine⟨λr=>?_,λr=>?_⟩
    .have J:=m.1 r;apply aD;simp;refine⟨aE,?_⟩;apply aH;simp[textT,show¬(x.kind=5\/x.kind=6)by omega,show¬x.kind=1 by omega,show¬x.kind=0 by omega,show¬x.kind=2 by omega]
    .have J:¬(x.kind=3\/x.kind=4):=λq=>by simp[m.2 q]at r
     apply aP;simp;refine⟨λj=>?_,λj=>?_⟩
     .apply aF;have t:∀y∈x.kids,Sl y:=by
       rcases d with⟨h|h,_⟩|⟨_,_,h⟩|⟨h,_⟩|⟨h,_⟩|⟨h|h,_⟩<;>first|exact h|omega
      apply aI;simp;refine⟨aE,?_⟩;apply dA;simp;apply aM;refine aO (ι:=Nat) (λi=>aQ [(1,.bx 1 0),(3,.d (.str (wordAt x.kind++32::(x.text++32::123::32::lM (x.kids.take i))))),(4,.d (aJ i))]) (λi=>aL [(1,.box false [.d (aJ x.kind),.d (.str x.text),.d (aJ x.n),.d (ndsD x.kids)])]) (λi=>i<=x.kids.length) (λi=>x.kids.length-i) 0 (aA o [1,3,4] [(1,1)] (by simp[lM])) (B4 _) λi D=>?_;apply aF;apply aP;simp;refine⟨λp=>?_,λp=>?_⟩
      .apply aG;simp;apply cR;have f:i<x.kids.length:=aE;obtain⟨Y,I,F,O,P,Q⟩:=t _ (A2 f);have M:x.kids[i].n=I:=by rw[F];rfl
       have g:=kF x.kids[i].n aE aE;have v:=yQ (l:=x.kids) i;have W:=cG x.kids[i].n;have K:=kQ f;rw[weighN_eq x.kids[i]]at K;have H:(lM (x.kids.take i)).length<=9*weighL x.kids:=v;refine fL.rd [[65],[65],[65],[65],[65],[65],[65],[65],[65]] [[],[],[],[],[],[],[],[],[],[],[],[],[],[],[],[65]] (og 65 (.plain ⟨.d (.str (itoaS x.kids[i].n)),true⟩)) ?_;simp[f];refine⟨by(repeat' with_reducible apply And.intro)<;>first|omega|exact g|(simp only[C2,A3];omega),?_⟩;have:=jZ x;apply aI;simp;refine⟨aE,?_⟩;refine QT.mk (i+1) (aA o [1,3,4] [(1,1)] (by simp[lM,Gf f,itemT])) ?_ ?_
       .omega
       .omega
      .apply bG;simp;apply aF;have f:i=x.kids.length:=aE;subst f;rw[B1];have v:=rW x.kids;have H:(lM x.kids).length<=9*weighL x.kids:=v;apply aI;simp;refine⟨aE,?_⟩;apply aH;simp[textT,j,lM]
     .apply aG;simp;apply aF;have s:∃b,x=.mk x.kind x.text 0 [b]/\jY b:=by
       rcases d with⟨_,h⟩|⟨h,_⟩|⟨h,_⟩|⟨h,_⟩|⟨h|h,_⟩<;>first|exact h|omega
      obtain⟨c,E,B⟩:=s;have e:x.kids=[c]:=by rw[E];rfl
      rw[e]at n;simp only[weighL]at n;have L:=(eX c).2 B;have G:=(aDc c).2 B aE;refine aU (og 76 (.plain ⟨.d (.str (blockT c)),true⟩)) ?_;simp[e];refine⟨by(repeat' with_reducible apply And.intro)<;>first|omega|(simpa using G),?_⟩;apply aH;simp[textT,show x.kind=5\/x.kind=6 by omega,e]
end
section
attribute[local simp] aW bJ bE aR
attribute[local simp] lB.cond Nd.d_eq nd_t nd_dr nd_td ndsD aX
theorem Gm(p:UInt8->Bool)(s:bA)(i:Nat):firstIs p (s.drop i)=(decide (i<s.length)&&p (s[i]?.getD 0)):=by
 by_cases h:i<s.length
 .rw[A1 h,A0 h];simp[firstIs,h]
 .rw[A4 aE];simp[firstIs,h]
theorem rY(s:bA)(i:Nat)(a:s.length<=9223372036854775807):Ok prog 108 [.str s,aJ i] ⟨.d (.bool (firstIs letterB (s.drop i))),true⟩:=by
 refine bL func108 rfl ntmps108 results108 λc X b=>?_;apply aD;simp;apply aD;simp;refine⟨λh _=>h,?_⟩;apply aH;simp;rw[Gm,Bh];simp[F2]
theorem rB(s:bA)(i:Nat)(a:s.length<=9223372036854775807):Ok prog 109 [.str s,aJ i] ⟨.d (.bool (firstIs digitB (s.drop i))),true⟩:=by
 refine bL func109 rfl ntmps109 results109 λc X b=>?_;apply aD;simp;apply aD;simp;refine⟨λh _=>h,?_⟩;apply aH;simp;rw[Gm,Da];simp[F2]
def iL(s:bA)(i:Nat):Int:=if 0<wordN (s.drop i)then(i:Int)+wordN (s.drop i)else -1
def ldB(c:UInt8):Bool:=letterB c||digitB c
theorem Gn(p q:UInt8->Bool)(s:bA):(firstIs p s||firstIs q s)=firstIs (λc=>p c||q c) s:=by cases s<;>rfl
theorem MA(s:bA):wordN s=if firstIs letterB s=true then(if runP ldB s<=16 then runP ldB s else 0)else 0:=by
 cases s with
 |nil=>rfl
 |cons c r=>rfl
theorem Dk{p:UInt8->Bool}:∀{s:bA} {k:Nat},(∀m (h:m<k),firstIs p (s.drop m)=true)->firstIs p (s.drop k)=false->runP p s=k
 |[],0,_,_=>rfl
 |[],k+1,h,_=>by have:=h 0 aE;simp[firstIs]at this
 |c::r,0,_,h=>by
  have h:p c=false:=h;simp[runP,h]
 |c::r,k+1,h,h2=>by
  have a:p c=true:=h 0 aE;simp only[runP,a,if_true];rw[Dk (s:=r) (k:=k) (λm b=>h (m+1) aE) h2]
theorem aCp{s:bA}{i k:Nat}(g:firstIs letterB (s.drop (i+k))=true\/firstIs digitB (s.drop (i+k))=true):i+k<s.length:=by
 refine A5 λq=>?_;rw[A4 aE]at g;rcases g with g|g<;>cases g
theorem aD4{s:bA}{i k:Nat}(g:firstIs letterB (s.drop (i+k))=true\/firstIs digitB (s.drop (i+k))=true):firstIs ldB (s.drop (i+k))=true:=by
 show firstIs (λc=>letterB c||digitB c) (s.drop (i+k))=true;rw[<-Gn];rcases g with g|g<;>simp[g]
def yU:List bA:=[[97,99,113,117,105,114,101],[97,108,108,111,99],[99,97,108,108],[99,104,97,110],[99,104,101,99,107],[100,114,97,119],[101,108,115,101],[102,105,108,101],[103,111],[105,102],[107,105,110,100],[108,111,99,107],[110,111,119],[112,114,111,99],[114,101,97,100],[114,101,99],[114,101,99,118],[114,101,108,101,97,115,101],[115,101,110,100],[115,108,101,101,112],[116,101,115,116],[118,97,114],[119,104,105,108,101],[119,114,105,116,101]]
theorem uR(s:bA)(i:Nat)(w:i<=s.length)(x:s.length<=9223372036854775000):Ok prog 261 [.str s,aJ i] ⟨.d (aJ (iL s i)),true⟩:=by
 refine bL func261 rfl ntmps261 results261 λy X p=>?_;apply aD;simp;apply eG;have b:=rY s i aE;refine aU (og 8 (.plain ⟨.d (.bool (firstIs letterB (s.drop i))),true⟩)) ?_;simp;refine⟨b,?_⟩;apply aK;simp;refine⟨λb=>?_,λb=>?_⟩
 .apply aD;simp;apply aH;simp;unfold iL;have f:wordN (s.drop i)=0:=by rw[MA,if_neg (by simp[b])]
  rw[f,if_neg aE]
 .apply aG;simp;apply aD;simp;apply cR;refine aO (ι:=Nat) (λk=>aQ [(0,.d (.str s)),(1,.d (aJ i)),(5,.d (aJ ((i+k:Nat):Int)))]) (λk=>aL []) (λk=>i+k<=s.length/\∀m,m<k->firstIs ldB (s.drop (i+m))=true) (λk=>s.length-i-k) 0 (aA p [0,1,5] []) (⟨aE,λm h=>absurd h (D2 m)⟩) λk d=>?_;apply eG;have r:=rY s (i+k) aE;have t:=rB s (i+k) aE;refine aU (λ|13=>some<| .plain ⟨.d (.bool (firstIs letterB (s.drop (i+k)))),true⟩|17=>some<| .plain ⟨.d (.bool (firstIs digitB (s.drop (i+k)))),true⟩|_=>none) ?_;simp[-F1];refine⟨⟨r,λ_=>t⟩,?_⟩;apply aK;simp;refine⟨λj=>?_,λg q=>?_⟩
  .apply aG;simp;apply aM;apply aI;simp;refine⟨aE,?_⟩;refine QT.mk (k+1) (aA p [0,1,5] [] (by simp[F4])) ?_ ?_
   .have n:i+k<s.length:=aCp j;refine⟨aE,λm o=>?_⟩;by_cases e:m=k
    .rw[e];exact aD4 j
    .exact d.2 m aE
   .have n:i+k<s.length:=aCp j;omega
  .apply bG;simp;apply eG;have v:runP ldB (s.drop i)=k:=Dk (λm o=>by rw[A9];exact d.2 m o) (by
    rw[A9];show firstIs (λc=>letterB c||digitB c) (s.drop (i+k))=false;rw[<-Gn,g,q];rfl)
   have f:=MA (s.drop i);rw[if_pos b,v]at f;have l:0<k:=by
    rcases E2 k with z|z
    .rw[z]at g;rw[F7,b]at g;cases g
    .exact z
   apply aI;simp;refine⟨aE,?_⟩;apply aK;simp;refine⟨λu=>?_,λu=>?_⟩
   .apply aD;simp;apply aH;simp;unfold iL;have a:wordN (s.drop i)=0:=by rw[f,if_neg aE]
    rw[a,if_neg aE]
   .apply aG;simp;apply aD;simp;apply aH;simp;unfold iL;have a:wordN (s.drop i)=k:=by rw[f,if_pos aE]
    rw[a,if_pos l]
theorem Kk(c:UInt8)(r:bA):isNameB (c::r)=(letterB c&& !decide ((c::r)∈yU)):=by
 have a:∀x∈yU,reservedB x=true:=bF;have b:∀x∈sElse::sKind::wordsL,x≠[]->x∈yU:=bF;have e:reservedB (c::r)=decide ((c::r)∈yU):=by
  rw[F0,decide_eq_true_eq];refine⟨λh=>b _ ?_ bC,a _⟩;simp only[reservedB,Bool.or_eq_true,decide_eq_true_eq]at h;simp only[A6];rcases h with(h|h)|h
  .exact .inl h
  .exact .inr (.inl h)
  .exact .inr (.inr h)
 show(letterB c&& !reservedB (c::r))=_;rw[e]
theorem aDd(l:List bA)(w:bA):Ok prog 96 [uB l,.str w] ⟨.d (.bool (decide (w∈l))),true⟩:=by
 refine bL func96 rfl ntmps96 results96 λh X f=>?_;refine fL.len (t:=0) rfl λb=>?_;simp at b;apply aD;simp;apply dA;simp;apply aM;refine aO (ι:=Nat) (λi=>aQ [(0,.d (uB l)),(1,.d (.str w)),(5,.d (aJ i))]) (λi=>aL []) (λi=>i<=l.length/\w∉l.take i) (λi=>l.length-i) 0 (aA f [0,1,5] []) (⟨B4 _,bC⟩) λi a=>?_;apply aF;apply aP;simp;refine⟨λg=>?_,λg=>?_⟩
 .apply aG;simp;apply cR;apply aF;have c:i<l.length:=aE;apply aI;simp[c];apply aK;simp;refine⟨λd=>?_,λd=>?_⟩
  .apply aD;simp;apply aH;simp;rw[<-d];exact(A2 c)
  .apply aG;simp;apply aI;simp;refine⟨aE,?_⟩;refine QT.mk (i+1) (aA f [0,1,5] []) ?_ ?_
   .refine⟨aE,?_⟩;have c:i<l.length:=aE;rw[<-C0 c];simp only[C6,E3,not_or];exact⟨a.2,λe=>d e.symm⟩
   .omega
 .apply bG;simp;apply aD;simp;apply aH;simp;have e:=a.2;rw[C4 aE]at e;exact e
theorem UV:Ok prog 356 [] ⟨.d (uB yU),true⟩:=by
 refine bL func356 rfl ntmps356 results356 λb X a=>?_;apply aD;simp;apply aD;simp;refine⟨bF,?_⟩;apply aH;simp;rfl
theorem wB(s:bA)(e:s.length<=9223372036854775807):Ok prog 332 [.str s] ⟨.d (.bool (isNameB s)),true⟩:=by
 refine bL func332 rfl ntmps332 results332 λg X f=>?_;apply aD;simp;apply aF;have a:=rY s 0 e;have b:=UV;have d:=aDd yU s;refine aU (λ|4=>some<| .plain ⟨.d (.bool (firstIs letterB s)),true⟩|6=>some<| .plain ⟨.d (uB yU),true⟩|8=>some<| .plain ⟨.d (.bool (decide (s∈yU))),true⟩|_=>none) ?_;simp;refine⟨⟨⟨by simpa using a,λ_=>b⟩,λ_=>d⟩,?_⟩;apply aH;simp;cases s with
 |nil=>rfl
 |cons c r=>rw[Kk];rfl
theorem YV{k:Nat}(h:k<11):(([40,41,123,125,61,43,45,42,60,59,46]:bA)[k]?.getD 0)∈signs:=by
 have e:([40,41,123,125,61,43,45,42,60,59,46]:bA)=signs:=rfl;rw[e,A0 h,D0];exact A2 h
theorem aDe{a b:UInt8}:((a.toNat:Int)=(b.toNat:Int))↔a=b:=by
 rw[<-C1];omega
theorem MB(c:UInt8):Ok prog 110 [.int .u8 (c.toNat:Int)] ⟨.d (.bool (decide (c∈signs))),true⟩:=by
 refine bL func110 rfl ntmps110 results110 λk X g=>?_;apply aD;simp;apply aD;simp;apply dA;simp;apply aM;refine aO (ι:=Nat) (λi=>aQ [(0,.d (.int .u8 (c.toNat:Int))),(3,.d (.str [40,41,123,125,61,43,45,42,60,59,46])),(4,.d (aJ i))]) (λi=>aL []) (λi=>i<=11/\c∉signs.take i) (λi=>11-i) 0 (aA g [0,3,4] []) (⟨B4 _,bC⟩) λi a=>?_;apply aF;apply aP;simp;refine⟨λh=>?_,λh=>?_⟩
 .apply aG;simp;apply cR;apply aF;have d:i<11:=aE;have j:i<signs.length:=d;apply aI;simp;refine⟨aE,?_⟩;apply aK;simp;refine⟨λb=>?_,λb=>?_⟩
  .apply aD;simp;apply aH;simp;have e:=YV d;rw[aDe.1 b]at e;exact e
  .apply aG;simp;apply aI;simp;refine⟨aE,?_⟩;refine QT.mk (i+1) (aA g [0,3,4] []) ?_ ?_
   .refine⟨aE,?_⟩;have f:i<signs.length:=d;rw[<-C0 f];simp only[C6,E3,not_or];refine⟨a.2,λe=>b ?_⟩;rw[e];rw[show([40,41,123,125,61,43,45,42,60,59,46]:bA)=signs from rfl,A0 f];rfl
   .omega
 .apply bG;simp;apply aD;simp;apply aH;simp;have e:=a.2;rw[C4 (by show 11<=i;omega)]at e;exact e
theorem PF(c:UInt8):IntKind.i64.wrap (c.toNat:Int)=c.toNat:=by
 have:=c.toNat_lt;unfold IntKind.wrap;simp[IntKind.bits,IntKind.signed];split<;>omega
theorem IA:∀s:bA,s.length<=3-> -100000<=valS s/\valS s<=100000
 |[],_=>by simp[valS]
 |[a],_=>by have:=a.toNat_lt;simp only[valS,D3,D6];omega
 |[a,b],_=>by have:=a.toNat_lt;have:=b.toNat_lt;simp only[valS,D3,D6];omega
 |[a,b,c],_=>by have:=a.toNat_lt;have:=b.toNat_lt;have:=c.toNat_lt;simp only[valS,D3,D6];omega
 |_::_::_::_::_,h=>by simp at h
theorem YW{s:bA}{k:Nat}(h:k<s.length):valS (s.take (k+1))=10*valS (s.take k)+(((s[k]?.getD 0).toNat:Int)- 48):=by
 rw[<-C0 h,A0 h];unfold valS;rw[C8];rfl
theorem aBo:valS []=0:=rfl
attribute[local simp] aBo
theorem UW(s:bA)(k:s.length<=3):Ok prog 334 [.str s] ⟨.d (aJ (valS s)),true⟩:=by
 refine bL func334 rfl ntmps334 results334 λl X a=>?_;apply aD;simp;apply aD;simp;apply dA;simp;apply aM;refine aO (ι:=Nat) (λi=>aQ [(0,.d (.str s)),(3,.d (aJ (valS (s.take i)))),(4,.d (aJ i))]) (λi=>aL []) (λi=>i<=s.length) (λi=>s.length-i) 0 (aA a [0,3,4] []) ((B4 _)) λi c=>?_;apply aF;apply aP;simp;refine⟨λb=>?_,λb=>?_⟩
 .apply aG;simp;apply cR;have d:i<s.length:=aE;have e:=YW d;have g:=IA (s.take i) (by rw[B8];omega);have h:=IA (s.take (i+1)) (by rw[B8];omega);have j:=(s[i]?.getD 0).toNat_lt;have f:=PF (s[i]?.getD 0);apply aI;simp[f];refine⟨⟨⟨⟨aE,aE⟩,aE⟩,aE⟩,?_⟩;apply aI;simp;refine⟨aE,?_⟩;refine QT.mk (i+1) (aA a [0,3,4] [] (by simp[e,Int.add_sub_assoc])) ?_ ?_
  .omega
  .omega
 .apply bG;simp;apply aD;simp;apply aH;simp;rw[C4 aE]
def uS(s:bA)(i:Nat):Int:=if 0<nextN (s.drop i)then(i:Int)+nextN (s.drop i)else -1
theorem u61{c:UInt8}:((c.toNat:Int)=61)↔c=61:=by
 rw[<-C1];have:(61:UInt8).toNat=61:=rfl;omega
theorem u60{c:UInt8}:((c.toNat:Int)=60)↔c=60:=by
 rw[<-C1];have:(60:UInt8).toNat=60:=rfl;omega
theorem YX{p:UInt8->Bool}{s:bA}{i k:Nat}(h:∀m,m<k->firstIs p (s.drop (i+m))=true)(a:firstIs p (s.drop (i+k))=false):runP p (s.drop i)=k:=
 Dk (λm b=>by rw[A9];exact h m b) (by rw[A9];exact a)
theorem Kl{s:bA}{i:Nat}{c:UInt8}(f:i<s.length)(d:s.drop i=c::s.drop (i+1))(e:s[i]?.getD 0=c):
 ((s.drop i).take 2=[60,61]\/(s.drop i).take 2=[61,61])↔((i:Int)+1<s.length/\((s[i+1]?.getD 0).toNat:Int)=61/\(((s[i]?.getD 0).toNat:Int)=60\/((s[i]?.getD 0).toNat:Int)=61)):=by
 rw[e,d,pR,pR,u60,u61,u61];by_cases h:i+1<s.length
 .rw[A1 h,A0 h];simp only[List.take_succ_cons,List.take_zero,List.cons.injEq,and_true,D0];constructor
  .rintro(⟨a,b⟩|⟨a,b⟩)
   .exact⟨aE,b,.inl a⟩
   .exact⟨aE,b,.inr a⟩
  .rintro⟨_,b,a|a⟩
   .exact .inl ⟨a,b⟩
   .exact .inr ⟨a,b⟩
 .rw[A4 aE];simp;omega
theorem YY(s:bA)(i:Nat)(p:i<s.length)(H:s.length<=1000000000):Ok prog 183 [.str s,aJ i] ⟨.d (aJ (uS s i)),true⟩:=by
 refine bL func183 rfl ntmps183 results183 λJ X v=>?_;have d:=A1 p;have o:s[i]?.getD 0=s[i]:=by rw[A0 p];rfl
 generalize s[i]=c at d o;have f:=lQ c (s.drop (i+1));rw[<-d]at f;apply aD;simp;apply eG;have a:=rY s i aE;rw[d]at a;refine aU (og 8 (.plain ⟨.d (.bool (letterB c)),true⟩)) ?_;simp;refine⟨a,?_⟩;apply aK;simp;refine⟨λa=>?_,λa=>?_⟩
 .apply aF;have E:=uR s i aE aE;refine aU (og 11 (.plain ⟨.d (aJ (iL s i)),true⟩)) ?_;simp;refine⟨E,?_⟩;apply aH;simp;have e:nextN (s.drop i)=wordN (s.drop i):=by rw[f,if_pos a]
  unfold iL uS;rw[e]
 .apply aG;simp;apply dA;simp[o];refine⟨aE,?_⟩;apply aK;simp;refine⟨λl=>?_,λl=>?_⟩
  .apply aF;have F:=uR s (i+1) aE aE;refine aU (og 19 (.plain ⟨.d (aJ (iL s (i+1))),true⟩)) ?_;simp;refine⟨⟨aE,by simpa using F⟩,?_⟩;apply aH;simp;have e:nextN (s.drop i)=if 0<wordN (s.drop (i+1))then wordN (s.drop (i+1))+1 else 0:=by rw[f,if_neg (by simp[a]),if_pos (Sw.1 l)]
   unfold iL uS;rw[e];by_cases z:0<wordN (s.drop (i+1))
   .rw[if_pos z,if_pos z,if_pos aE];omega
   .rw[if_neg z,if_neg z,if_neg aE]
  .apply aG;simp;apply eG;have x:=rB s i aE;rw[d]at x;refine aU (og 22 (.plain ⟨.d (.bool (digitB c)),true⟩)) ?_;simp;refine⟨x,?_⟩;apply aK;simp;refine⟨λn=>?_,λn=>?_⟩
   .apply aD;simp;apply cR;refine aO (ι:=Nat) (λk=>aQ [(0,.d (.str s)),(1,.d (aJ i)),(5,.d (aJ ((i+k:Nat):Int)))]) (λk=>aL []) (λk=>i+k<=s.length/\∀m,m<k->firstIs digitB (s.drop (i+m))=true) (λk=>s.length-i-k) 0 (aA v [0,1,5] []) (⟨aE,λm h=>absurd h (D2 m)⟩) λk r=>?_;apply eG;have G:=rB s (i+k) aE;refine aU (og 26 (.plain ⟨.d (.bool (firstIs digitB (s.drop (i+k)))),true⟩)) ?_;simp[-F1];refine⟨G,?_⟩;apply aK;simp;refine⟨λb=>?_,λb=>?_⟩
    .apply aG;simp;apply aM;apply aI;simp;refine⟨aE,?_⟩;refine QT.mk (k+1) (aA v [0,1,5] [] (by simp[F4])) ?_ ?_
     .have t:i+k<s.length:=A5 λq=>by rw[A4 aE]at b;cases b
      refine⟨aE,λm I=>?_⟩;by_cases e:m=k
      .rw[e];exact b
      .exact r.2 m aE
     .have t:i+k<s.length:=A5 λq=>by rw[A4 aE]at b;cases b
      omega
    .apply bG;simp;apply eG;have w:=YX r.2 b;apply aI;simp;refine⟨aE,?_⟩;apply aK;simp;refine⟨λD=>?_,λD=>?_⟩
     .apply aD;simp;apply aH;simp;have e:nextN (s.drop i)=0:=by rw[f,if_neg (by simp[a]),if_neg (λe=>l (Sw.2 e)),if_pos n,w,if_neg aE]
      unfold uS;rw[e,if_neg aE]
     .apply aG;simp;apply aD;simp;apply aH;simp;have C:0<k:=by
       rcases E2 k with z|z
       .rw[z,F7,d]at b;exact absurd n (by rw[show digitB c=false from b];simp)
       .exact z
      have e:nextN (s.drop i)=k:=by rw[f,if_neg (by simp[a]),if_neg (λe=>l (Sw.2 e)),if_pos n,w,if_pos aE]
      unfold uS;rw[e,if_pos C]
   .apply aG;simp;apply dA;simp;refine⟨⟨⟨⟨aE,λ_=>aE⟩,λ_=>aE⟩,aE⟩,?_⟩;apply aK;simp;refine⟨λy A B=>?_,λg=>?_⟩
    .apply aD;simp;refine⟨aE,?_⟩;apply aH;simp;have e:nextN (s.drop i)=2:=by rw[f,if_neg (by simp[a]),if_neg (λe=>l (Sw.2 e)),if_neg (by simp[n]),if_pos ((Kl p d o).2 ⟨y,A,B⟩)]
     unfold uS;rw[e,if_pos bF];rfl
    .apply aG;simp;apply eG;have u:=MB c;refine aU (og 63 (.plain ⟨.d (.bool (decide (c∈signs))),true⟩)) ?_;simp[o];refine⟨⟨aE,u⟩,?_⟩;apply aK;simp;refine⟨λj=>?_,λj=>?_⟩
     .apply aD;simp;refine⟨aE,?_⟩;apply aH;simp;have e:nextN (s.drop i)=1:=by rw[f,if_neg (by simp[a]),if_neg (λe=>l (Sw.2 e)),if_neg (by simp[n]),if_neg (λz=>by have z:=(Kl p d o).1 z;exact z.2.2.elim (g z.1 z.2.1).1 (g z.1 z.2.1).2),if_pos j]
      unfold uS;rw[e,if_pos bF];rfl
     .apply aG;simp;apply aD;simp;apply aH;simp;have e:nextN (s.drop i)=0:=by rw[f,if_neg (by simp[a]),if_neg (λe=>l (Sw.2 e)),if_neg (by simp[n]),if_neg (λz=>by have z:=(Kl p d o).1 z;exact z.2.2.elim (g z.1 z.2.1).1 (g z.1 z.2.1).2),if_neg j]
      unfold uS;rw[e,if_neg bF]
end
section
attribute[local simp] aW bJ bE aR
attribute[local simp] lB.cond Nd.d_eq nd_t nd_dr nd_td ndsD aX
theorem wC:∀(f:Nat) (s:bA) (i:Int),s.length<=f->scanF f s i=scanF s.length s i
 |0,s,i,h=>by
  have:s=[]:=List.eq_nil_of_length_eq_zero aE;subst this;rfl
 |f+1,[],i,_=>by simp[scanF]
 |f+1,c::r,i,h=>by
  have a:=wC f r (i+1) (by simpa using h);simp only[A3,scanF];by_cases q:c=32\/c=10
  .rw[if_pos q,if_pos q,a]
  .rw[if_neg q,if_neg q];by_cases z:nextN (c::r)=0
   .rw[if_pos z,if_pos z]
   .rw[if_neg z,if_neg z];have e:((c::r).drop (nextN (c::r))).length<=r.length:=by rw[D1,A3];omega
    have g:r.length<=f:=by simpa using h
    have b:=wC f ((c::r).drop (nextN (c::r))) (i+nextN (c::r)) aE;have d:=wC r.length ((c::r).drop (nextN (c::r))) (i+nextN (c::r)) e;rw[b,d]
termination_by f _ _ _=>f
def pS(s:bA)(k:Nat):List Tk×Int:=scanF (s.drop k).length (s.drop k) k
theorem IB{s:bA}{k:Nat}(h:s.length<=k):pS s k=([],(k:Int)):=by
 unfold pS;rw[A4 h];rfl
theorem DY{s:bA}{k:Nat}(h:k<s.length)(a:s[k]=32\/s[k]=10):pS s k=pS s (k+1):=by
 unfold pS;rw[A1 h,A3,scanF,if_pos a];rfl
theorem Gp{s:bA}{k:Nat}(h:k<s.length)(b:¬(s[k]=32\/s[k]=10))(a:nextN (s.drop k)=0):pS s k=([],(k:Int)):=by
 unfold pS;rw[A1 h]at a|-;rw[A3,scanF,if_neg b,if_pos a]
theorem IC{s:bA}{k:Nat}(h:k<s.length)(d:¬(s[k]=32\/s[k]=10))(c:nextN (s.drop k)≠0):
 pS s k=(⟨(s.drop k).take (nextN (s.drop k)),k⟩::(pS s (k+nextN (s.drop k))).1,(pS s (k+nextN (s.drop k))).2):=by
 have b:=yN (s.drop k);have e:(s.drop k).drop (nextN (s.drop k))=s.drop (k+nextN (s.drop k)):=by rw[A9]
 unfold pS;rw[<-e];generalize a:nextN (s.drop k)=m at c b e|-;rw[A1 h]at a b|-;rw[A3,scanF,if_neg d,if_neg (by rw[a];exact c),a];rw[wC _ _ _ (by rw[D1,A3];omega)]
 push_cast
 rfl
theorem aCq{c:UInt8}{n:Nat}(a:n<256):((c.toNat:Int)=n)↔c=E7 n:=by
 rw[<-C1];have:(E7 n).toNat=n:=by simp[UInt8.toNat_ofNat'];omega
 omega
theorem Av{s:bA}{k:Nat}(d:k<s.length):(((s[k]?.getD 0).toNat:Int)=32\/((s[k]?.getD 0).toNat:Int)=10)↔(s[k]=32\/s[k]=10):=by
 rw[A0 d,D0];have a:=aCq (c:=s[k]) (n:=32) bF;have b:=aCq (c:=s[k]) (n:=10) bF;exact⟨λq=>q.imp a.1 b.1,λq=>q.imp a.2 b.2⟩
theorem Km(s:bA)(k n:Nat):D7 k (F9 ((k:Int)+(n:Int)).toNat s)=F9 n (D7 k s):=by
 rw[show((k:Int)+(n:Int)).toNat=k+n by omega,List.drop_take,show k+n-k=n by omega]
structure ScS where
 k:Nat
 L:List Tk
 deriving Inhabited
theorem YZ(s:bA)(t:s.length<=1000000000):Ok prog 85 [.str s] ⟨.tup [.own 2 ((scanS s).1.map Tk.d),.d (aJ (scanS s).2)],true⟩:=by
 refine Ok.two func85 jQ (c:=_) rfl ntmps85 bC results85 rfl λu X i=>?_;apply aD;simp;refine fL.scope ?_;apply aD;simp;apply aD;simp;apply aF;refine fL.label ?_;simp;apply cR;refine aO (ι:=ScS) (λ⟨k,L⟩=>aQ [(0,.d (.str s)),(4,.ow 4 0 L.length),(5,.d (aJ k))]) (λ⟨k,L⟩=>aL [(4,.row false 2 (L.map Tk.d))]) (λ⟨k,L⟩=>L.length<=k/\k<=s.length/\scanS s=(L++(pS s k).1,(pS s k).2)) (λ⟨k,L⟩=>s.length-k) ⟨0,[]⟩ (aA i [0,4,5] [(4,4)]) (⟨C3 _,B4 _,by simp[pS,scanS]⟩) λ⟨k,L⟩ d=>?_;apply aF;apply aP;simp;refine⟨λo=>?_,λo=>?_⟩
 .apply aG;simp;apply aM;apply eG;have f:k<s.length:=aE;apply aI;simp;refine⟨f,?_⟩;apply aM;refine aY (ι:=BC) (λ⟨b⟩=>aQ [(0,.d (.str s)),(4,.ow 4 0 L.length),(5,.d (aJ k)),(14,.d (.bool b))]) (λ⟨b⟩=>aL [(4,.row false 2 (L.map Tk.d))]) (λ⟨b⟩=>b=true↔(((s[k]?.getD 0).toNat:Int)=32\/((s[k]?.getD 0).toNat:Int)=10)) ?_ λ⟨b⟩ h=>?_
  .apply aP;simp;refine⟨λp=>?_,λp=>?_⟩
   .apply aG;simp;refine aAV.mk ⟨decide (((s[k]?.getD 0).toNat:Int)=32)⟩ (aA i [0,4,5,14] [(4,4)]) ?_;simp[p]
   .apply aI;simp;refine aAV.mk ⟨decide (((s[k]?.getD 0).toNat:Int)=10)⟩ (aA i [0,4,5,14] [(4,4)]) ?_;simp only[decide_eq_true_eq];omega
  .apply aK;simp;refine⟨λl=>?_,λl=>?_⟩
   .have j:=(Av f).1 (h.1 l);apply aD;simp;refine⟨aE,?_⟩;apply bG;simp;refine QT.mk ⟨k+1,L⟩ (aA i [0,4,5] [(4,4)]) ?_ ?_
    .refine⟨Nat.le_succ_of_le d.1,f,?_⟩;rw[d.2.2,DY f j]
    .show s.length-(k+1)<s.length-k;omega
   .have j:¬(s[k]=32\/s[k]=10):=λq=>by simp[h.2 ((Av f).2 q)]at l
    apply aG;simp;apply aF;have r:=aBm s[k] (s.drop (k+1)) jJ;rw[<-A1 f]at r;refine aU (og 22 (.plain ⟨.d (aJ (nextN (s.drop k))),true⟩)) ?_;simp;refine⟨⟨aE,r⟩,?_⟩;apply aF;apply aP;simp;refine⟨λm=>?_,λm=>?_⟩
    .apply bG;simp;apply aD;simp;apply aH;simp;have e:=d.2.2;rw[Gp f j m]at e;rw[e];exact⟨⟨bC,λa _ c g=>by simp[Tk.d,aV]at g;rcases g with rfl|rfl<;>rfl⟩,rfl⟩
    .apply aG;simp;apply aF;have n:=yN (s.drop k);rw[D1]at n;apply aI;simp;refine⟨⟨⟨⟨aE,aE⟩,aE,aE⟩,aE,aE⟩,?_⟩;apply aI;simp;refine⟨aE,?_⟩;refine QT.mk ⟨k+nextN (s.drop k),L++[⟨(s.drop k).take (nextN (s.drop k)),k⟩]⟩ (aA i [0,4,5] [(35,4)] (hH:=by simp[Tk.d,Km])) ?_ ?_
     .refine⟨?_,?_,?_⟩
      .show(L++[_]).length<=k+nextN (s.drop k);rw[C2,List.length_singleton];omega
      .show k+nextN (s.drop k)<=s.length;omega
      .rw[d.2.2,IC f j m];simp
     .show s.length-(k+nextN (s.drop k))<s.length-k;omega
 .apply bG;simp;apply aD;simp;apply aH;simp;have e:=d.2.2;rw[IB o]at e;rw[e];exact⟨⟨bC,λa _ c g=>by simp[Tk.d,aV]at g;rcases g with rfl|rfl<;>rfl⟩,rfl⟩
theorem aBp(s:bA)(a:s.length<=1000000000):Ok prog 85 [.str s] ⟨.tup [.d (.sl ((scanS s).1.map Tk.d)),.d (aJ (scanS s).2)],true⟩:=HX (YZ s a)
end
end Go.Eng
