/- Part 6 of the proof. No condition. -/
import Derived.Test.YtepoffhhiddlkaaGreatDoorME
import Derived.Shelf.SortM.Plain
import Derived.Shelf.SortM.SortNone
import Derived.Shelf.SlGeneric
import Derived.Test.YtepoffhhiddlkaaGreatDoorProg
import Derived.RangeFuncNested
import Derived.Maps.RangeRun
import Derived.Shelf.SlIter.Collect
open Go.Proofs
open Go.Proofs.Tryz
set_option linter.unusedVariables false
set_option linter.unusedSimpArgs false
set_option maxRecDepth 20000
set_option maxHeartbeats 4000000
open List renaming getElem_mem→A2,length_cons→A3,getD_eq_getElem?_getD→A4,take_succ_eq_append_getElem→A5,getElem?_eq_getElem→A6,mem_cons→A7,findIdx?_eq_some_iff_getElem→A8,filter_cons_of_pos→B0,filter_cons_of_neg→B1,pairwise_cons→B2,getElem_cons_zero→B3,length_filter_le→B4,size_toArray→B5,drop_drop→B6,take_length→B7,getElem?_eq_some_iff→B8,mem_map→C2,drop_eq_nil_of_le→C3,cons_append→C4,mem_append→C5,getElem_of_mem→C6,length_append→C8,drop_eq_getElem_cons→C9,findIdx?_eq_none_iff→D1,length_take→D2,length_map→D4,length_nil→D7,nil_append→D8,take_append_drop→D9,length→E1,mem_append_left→E4,mergeSort_perm→E5,append_toArray→E6,map_cons→E7,range→E8,findIdx?_cons→E9,filter_filter→F1,push_toArray→F2,foldl_append→F3,nodup_cons→F6,drop→G0
open Nat renaming le_refl→A1,add_assoc→B9,zero_le→C0,zero_add→C1,le_trans→C7,not_lt_zero→D5,reduceAdd→F8,reduceSub→F9
open Int renaming eq_ofNat_of_zero_le→D3
open Option renaming map_some→D6
open Array renaming getElem?_eq_some_iff→A0,getElem?_eq_getElem→D0,getElem?_modify→E0,replicate_succ→E2,replicate_zero→E3,replicate→F5
open Bool renaming false_eq_true→F0,and_assoc→F7
open Classical renaming byContradiction→A9,not_and_iff_not_or_not→F4
namespace Go.Eng
section
attribute[local simp] aR bJ bF aO aL aX aP
attribute[local simp] kH.cond Nd.d_eq nd_t nd_dr nd_td ndsD aQ zU
theorem ML:Ok prog 175 [] ⟨.d fitD,false⟩:=by
 refine bT func175 rfl ntmps175 results175 λb X a=>?_;apply aD;simp;apply aD;simp[cK];apply aH;simp[fitD,GB,wG]
theorem HX(x:Nd):Ok prog 101 [x.d] ⟨.d (.fn 174 [.ro [aI x.kind,.str x.text,aI x.n,ndsD x.kids]]),false⟩:=by
 refine bT func101 rfl ntmps101 results101 λb X a=>?_;apply aD;simp;apply aD;simp;apply aH;simp
structure HY(F:Pw prog)(y wv:Value)(us:List cY):Prop where
 yield:∀(i:Nat) (u:cY),us[i]? =some u->pL F (.val y) [aI u.bk,u.d] i 1 (.bool true)
 walk:∀K i W,F.T K i W->RD W (F.X K W) (.fn 176 [.ro [fitD],.ro [.val y],.ro [.val wv]]) wv
def Ab(F:Pw prog)(wv:Value)(us:List cY)(x:Nd):Prop:=
 ∀i,(∀(j:Nat) (u:cY),(bX x)[j]? =some u->us[i+j]? =some u)->pL F (.val wv) [x.d] i (bX x).length (.bool true)
theorem HZ{b:Bool}(w:World)(E:Nat->Prop)(v:Value)(h:RD w E (.bool b) v):v=.bool b:=by cases h;rfl
theorem ZX{n:Int}(w:World)(E:Nat->Prop)(v:Value)(h:RD w E (aI n) v):v=.int .i64 n:=by cases h;rfl
theorem ZY{F:Pw prog}{d:Value}{b:List cY}{x:Nd}(h:Ab F d b x)(i:Nat)(f:∀(j:Nat) (u:cY),(bX x)[j]? =some u->b[i+j]? =some u):
 pL F (.fn 179 [.ro [.val d]]) [x.d] i (bX x).length (.bool false):=by
 have e:=h i f;refine kQ (pins:=[2]) func179 iY (c:=_) rfl ntmps179 bB results179 HZ iY ?_;repeat refine FC.seq ?_
 refine Ek λg X a=>MD hT hW ?_;simp[gR];refine vX (λg a=>(iH.freeze [2]).trans (pK [1,2] [(2,2)] bK bK (by simp[a,dN]) rfl rfl)) ?_;simp;repeat refine FC.seq ?_
 refine nI hT hW [(2,.box true [.d (aI x.kind),.d (.str x.text),.d (aI x.n),.d (.sl (x.kids.map Nd.d))])] rfl (by rfl) bB 2 rfl rfl rfl rfl bK (rd:=.bool true) (r:=.bool true) (λ_ _=>.bool _) e ?_;simp[gR];refine⟨rfl,?_⟩;refine FC.ret ?_;exact⟨trivial,rfl,bB⟩
theorem Ia{d:List cY}{a b:List cY}{i:Nat}(h:∀(j:Nat) (u:cY),(a++b)[j]? =some u->d[i+j]? =some u):(∀(j:Nat) (u:cY),a[j]? =some u->d[i+j]? =some u)/\∀(j:Nat) (u:cY),b[j]? =some u->d[i+a.length+j]? =some u:=by
 refine⟨λj u c=>h j u ?_,λj u c=>?_⟩
 .have:=(B8.1 c).1;rw[List.getElem?_append_left this];exact c
 .rw[B9];exact h (a.length+j) u (by rw[List.getElem?_append_right aE];rw[show a.length+j-a.length=j by omega];exact c)
theorem Yh{F:Pw prog}{p:Value}{q:List cY}{a:List Nd}(h:∀k∈a,Ab F p q k)(i:Nat)(w:∀(j:Nat) (u:cY),(gL a)[j]? =some u->q[i+j]? =some u):
 pL F (.fn 259 []) [ndsD a,.fn 179 [.ro [.val p]]] i (gL a).length (.int .i64 (-1)):=by
 refine kQ (pins:=[]) func259 iY (c:=_) rfl ntmps259 bB results259 ZX iY ?_;refine FC.len (t:=0) rfl λg=>?_;simp at g;repeat refine FC.seq ?_
 refine jT hT hW (λ_=>none) ?_;simp[gR];repeat refine FC.seq ?_
 refine jT hT hW (λ_=>none) ?_;simp[gR];repeat refine FC.seq ?_
 refine FC.block ?_;refine FC.loop (ι:=Nat) (λj=>bA [(0,.d (ndsD a)),(1,.d (.fn 179 [.ro [.val p]])),(7,.d (aI (a.length:Nat))),(8,.d (aI (j:Nat)))]) (λ_=>aK []) (λj=>i+(gL (a.take j)).length) (λj=>j<=a.length) (λj=>a.length-j) 0
  (λx o=>aA o [0,1,7,8] []) rfl (C0 _) λj y=>?_
 repeat refine FC.seq ?_
 refine jT hT hW (λ_=>none) ?_;simp[gR];repeat refine FC.seq ?_
 refine FC.cond (b:=decide (j<a.length)) bB (λd=>?_) λf=>?_
 .have d:j<a.length:=by simpa using d
  obtain⟨k,l⟩:∃k,a[j]=k:=⟨_,rfl⟩;have m:k∈a:=by rw[<-l];exact A2 d
  have e:gL a=gL (a.take j)++(bX k++gL (a.drop (j+1))):=by
   conv=>lhs;rw[<-D9 j a]
   rw[usesL_append,C9 d,gL,l]
  have s:=ZY (h k m) (i+(gL (a.take j)).length) (Ia (Ia (by rw[<-e];exact w)).2).1;have n:(gL (a.take (j+1))).length=(gL (a.take j)).length+(bX k).length:=by rw[usesL_succ d,C8,l]
  refine FC.skip ?_;simp[gR];repeat refine FC.seq ?_
  refine FC.block ?_;repeat refine FC.seq ?_
  refine jT hT hW (λ_=>none) ?_;simp[gR];repeat refine FC.seq ?_
  refine nI hT hW [] rfl (by rfl) bB 5 rfl rfl rfl rfl bK (rd:=.bool false) (r:=.bool false) (λ_ _=>.bool _) s ?_;simp[gR,d,l];refine⟨rfl,?_⟩;refine FC.cond (b:=false) bB (λh=>by cases h) λ_=>?_;refine FC.skip ?_;simp[gR,Dj];refine jT hT hW (λ_=>none) ?_;simp[gR];refine⟨aE,j+1,λx o=>aA o [0,1,7,8] [],aE,aE,aE⟩
 .have f:¬j<a.length:=by simpa using f
  have v:j=a.length:=aE;subst v;refine FC.exit ?_;simp[gR,Dj];repeat refine FC.seq ?_
  refine jT hT hW (λ_=>none) ?_;simp[gR];refine FC.ret ?_;exact⟨trivial,bB,bB⟩
theorem PJ{F:Pw prog}{d:Value}{b:List cY}{a:List Nd}(h:∀k∈a,Ab F d b k)(i:Nat)(f:∀(j:Nat) (u:cY),(gL a)[j]? =some u->b[i+j]? =some u):
 pL F (.fn 178 []) [ndsD a,.fn 179 [.ro [.val d]]] i (gL a).length (.bool false):=by
 have e:=Yh h i f;refine kQ (pins:=[]) func178 iY (c:=_) rfl ntmps178 bB results178 HZ iY ?_;repeat refine FC.seq ?_
 refine jT hT hW (λ_=>none) ?_;simp[gR];repeat refine FC.seq ?_
 refine nI hT hW [] rfl (by rfl) bB 2 rfl rfl rfl rfl bK (rd:=aI (-1)) (r:=.int .i64 (-1)) (λ_ _=>.int _ _) e ?_;simp[gR];refine⟨rfl,?_⟩;refine FC.ret ?_;exact⟨trivial,rfl,bB⟩
theorem Vc{x:Nd}(h:GB.findIdx? (λy=>decide (x.kind=y))=none):bX x=gL x.kids:=by rw[usesN_eq];unfold yL ZW;rw[h];rfl
theorem JO{x:Nd}{j:Nat}(h:GB.findIdx? (λy=>decide (x.kind=y))=some j):bX x=⟨x.kind,wG.getD j 0,zZ 46 x.text,Aa 46 x.text⟩::gL x.kids:=by rw[usesN_eq];unfold yL ZW;rw[h];rfl
theorem ZZ{j:Nat}:(wG.map aI)[j]?.getD default=aI (wG.getD j 0)\/wG.length<=j:=by
 by_cases h:j<wG.length
 .left;simp[h,A4]
 .right;omega
theorem RC{F:Pw prog}{y o:Value}{t:List cY}(C:HY F y o t)(x:Nd)(H:weighN x<=1000000000)(h:∀k∈x.kids,Ab F o t k):Ab F o t x:=by
 intro i n;have g:pL F (.fn 176 [.ro [fitD],.ro [.val y],.ro [.val o]]) [x.d] i (bX x).length (.bool true):=by
  have B:=weighN_eq x;refine kQ (pins:=[4]) func176 iY (c:=_) rfl ntmps176 bB results176 HZ iY ?_;repeat refine FC.seq ?_
  refine jT hT hW (λ_=>none) ?_;simp[gR];refine vX (λw m=>(iH.freeze [4]).trans (pK [1,2,3,4] [(4,4)] bK bK (by simp[m,dN]) rfl rfl)) ?_;simp;cases e:GB.findIdx? (λy=>decide (x.kind=y))with
  |none=>
   rw[Vc e]at n|-;have q:=PJ h i n;repeat refine FC.seq ?_
   refine jT hT hW (λ_=>none) ?_;simp[gR,dB,fitD,findD_int,e,bM];repeat refine FC.seq ?_
   refine jT hT hW (λ_=>none) ?_;simp[gR];repeat refine FC.seq ?_
   refine FC.cond (b:=false) bB (λh=>by cases h) λ_=>?_;refine FC.skip ?_;simp[gR];repeat refine FC.seq ?_
   refine vX (λw m=>pK [3,4] [(4,4)] bK bK (by simp[m,dN]) rfl rfl) ?_;simp;refine nI hT hW [(4,.box true [.d (aI x.kind),.d (.str x.text),.d (aI x.n),.d (.sl (x.kids.map Nd.d))])] rfl (by rfl) bB 3 rfl rfl rfl rfl bK (rd:=.bool false) (r:=.bool false) (λ_ _=>.bool _) q ?_;simp[gR];refine⟨rfl,?_⟩;refine FC.ret ?_;exact⟨trivial,by simp[B9],bB⟩
  |some j=>
   have G:j<10:=by
    have:=(A8.1 e).1;exact this
   have d:(wG.map aI)[j]?.getD default=aI (wG.getD j 0):=ZZ.resolve_right (by show¬10<=j;omega);simp at d;obtain⟨f,p⟩:∃f,wG.getD j 0=f:=⟨_,rfl⟩;rw[JO e,p]at n;rw[JO e,p];simp[A4]at p;rw[p]at d;have z:=n 0 _ rfl;have D:=C.yield i _ z;have q:=PJ h (i+1) (Ia (a:=[_]) n).2;have l:=Vb x.text 46 aE;repeat refine FC.seq ?_
   refine jT hT hW (λ_=>none) ?_;simp[gR,dB,fitD,findD_int,e,bM,d];repeat refine FC.seq ?_
   refine jT hT hW (λ_=>none) ?_;simp[gR];repeat refine FC.seq ?_
   refine FC.cond (b:=true) bB (λ_=>?_) λh=>by cases h
   repeat refine FC.seq ?_
   refine jT hT hW (og 22 (.plain ⟨.tup [.d (.str (zZ 46 x.text)),.d (.str (Aa 46 x.text)),.d (.bool (AT 46 x.text))],true⟩)) ?_;simp[gR,bM];refine⟨l,?_⟩;repeat refine FC.seq ?_
   refine nI hT hW [(4,.box true [.d (aI x.kind),.d (.str x.text),.d (aI x.n),.d (.sl (x.kids.map Nd.d))])] rfl (by rfl) bB 7 rfl rfl rfl rfl bK (rd:=.bool true) (r:=.bool true) (λ_ _=>.bool _) D ?_;simp[gR,cY.d];refine⟨rfl,?_⟩;repeat refine FC.seq ?_
   refine FC.cond (b:=false) bB (λh=>by cases h) λ_=>?_;refine FC.skip ?_;simp[gR];repeat refine FC.seq ?_
   refine vX (λw m=>pK [3,4] [(4,4)] bK bK (by simp[m,dN]) rfl rfl) ?_;simp;refine nI hT hW [(4,.box true [.d (aI x.kind),.d (.str x.text),.d (aI x.n),.d (.sl (x.kids.map Nd.d))])] rfl (by rfl) bB 3 rfl rfl rfl rfl bK (rd:=.bool false) (r:=.bool false) (λ_ _=>.bool _) q ?_;simp[gR];refine⟨rfl,?_⟩;refine FC.ret ?_;exact⟨trivial,by simp[B9,Nat.add_comm 1],bB⟩
 intro K W v E u A s;cases A with
 |val _ _=>exact g K W o E u (C.walk K i W u) s
end
section
open Go.Proofs Go.RowKit
attribute[local simp] aR bJ bF aO aL aX aP
attribute[local simp] kH.cond Nd.d_eq nd_t nd_dr nd_td ndsD aQ bL
theorem Vd{F:Pw prog}{y d:Value}{b:List cY}(C:HY F y d b)(x:Nd):weighN x<=1000000000->Ab F d b x:=
 pC (p:=λx=>weighN x<=1000000000->Ab F d b x) (λk t n a g f=>RC C (.mk k t n a) f λc e=>g c e (by
  have h:weighN c<=weighL a:=weigh_mem e;have i:weighN (.mk k t n a)=weighL a+t.length+1:=weighN_eq _;omega)) x
def AU(u:cY):XX where
 ds:=[aI u.bk,u.d]
 vs:=[.int .i64 u.bk,.agg #[.int .i64 u.kind,.string ⟨u.name.toArray⟩,.string ⟨u.field.toArray⟩]]
 rd:=λw E=>.cons (.int _ _) (.cons (.agg [aI u.kind,.str u.name,.str u.field] [.int .i64 u.kind,.string ⟨u.name.toArray⟩,.string ⟨u.field.toArray⟩] rfl (by simp[Value.oneCell']) (by
  intro i c v hc hv
  match i,hc,hv with
  |0,hc,hv=>cases hc;cases hv;exact .int _ _
  |1,hc,hv=>cases hc;cases hv;exact .str _
  |2,hc,hv=>cases hc;cases hv;exact .str _)) .nil)
theorem Ve{w:World}{E:Nat->Prop}{u:cY}{c:List Value}(h:Lv w E [aI u.bk,u.d] c):c=(AU u).vs:=by
 match c,h.1 with
 |[a,b],_=>
  have g:=h.2 0 _ _ rfl rfl;have i:=h.2 1 _ _ rfl rfl;cases g;cases i with
  |agg _ us hl _ hc=>
   match us,hl with
   |[p,q,r],_=>
    have d:=hc 0 _ _ rfl rfl;have e:=hc 1 _ _ rfl rfl;have f:=hc 2 _ _ rfl rfl;cases d;cases e;cases f;rfl
theorem AV{P:Program}{N:Nat}{c:dF}{X:Nat->Prop}{b:eJ}{H:dR}{β:Nat->Option Nat}{a:Act}{w:World}{x:Code}{K:Exit->Act->World->Prop}(g:eJ)(i:dR)(s:mC N c X b H β a w)(q:c.flat=true)(p:nG x=true)
 (h:fF P N c X x (Jz c g i) b H)(k:∀m d f,mC N c X g i m d f->K .normal d f):x.wpIn (RF none) 0 P K a w:=by
 refine wpIn_mono (h none (.inr ⟨p,q⟩) β a w s) ?_;rintro e d f ⟨r,j,y,m,n,t,l,o⟩;cases r with
 |exit id=>exact l.elim
 |ret=>exact l.elim
 |normal=>
  cases e<;>simp only[gQ]at n;obtain⟨v,u⟩:=o _ _ _ _ _ t;exact k v d f u
theorem Ib{w:World}{E:Nat->Prop}{β:Nat->Option Nat}{H:dR}{id:Nat}{fz:Bool}{l:LV}(h:dU w E β H id)(i:H id=.box fz [l]):∃b e u,β id=some b/\w.heap[b]? =some (.cells #[u] e (0,0))/\u.oneCell'=true/\Eng.R w E β H l u:=by
 unfold dU at h;rw[i]at h;obtain⟨b,e,j,a,c,d,f,g⟩:=h
 match j,d with
 |[u],_=>exact⟨b,e,u,a,c,f u bB,g 0 _ _ rfl rfl⟩
theorem yM{w:World}{E:Nat->Prop}{β:Nat->Option Nat}{H:dR}{id b a:Nat}{v:Value}(h:Eng.R w E β H (.bx id a) v)(d:β id=some b)(c:(H id).live=true):v=.pointer (some ⟨b,a,none⟩):=by
 cases h with
 |bx _ _ b' _ _ _ hb'=>rw[d]at hb';cases hb';rfl
 |bxdead _ _ _ hH _=>rw[hH]at c;cases c
theorem BM(x:Nd)(hw:weighN x<=1000000000):UD prog 174 [.ro [aI x.kind,.str x.text,aI x.n,ndsD x.kids]] ((bX x).map AU):=by
 refine⟨⟨_,func174,iY,rfl⟩,?_⟩;intro w X lb l J hX a9 c7 c8 c9;obtain⟨y,a0⟩:∃y,y=Value.func (.yield l) #[] #[]:=⟨_,rfl⟩;rw[<-a0];refine(callsIn_wide (n:=0)).1 (callsIn_of_wp func174 rfl trivial ?_ rfl);have s0:mC 10 ⟨w,λ_=>none,λ_=>.absent,[],true⟩ X (iA [.val y,.ro [aI x.kind,.str x.text,aI x.n,ndsD x.kids]]) (aK []) (λ_=>none) ⟨(#[y]++lb.toArray)++F5 (Tryz.f174.ntmps-(#[y]++lb.toArray).size) undef,[]⟩ w:=by
  match lb,a9.1 with
  |[p],_=>
  refine⟨FQ.nil,?_,⟨rfl,rfl,rfl,A1 _,λ_ _ _=>rfl,A1 _⟩,⟨λk f=>⟨hX.1 k f,λ⟨id,h,_⟩=>by cases h⟩,hX.2.anti λk f=>f.resolve_right λ⟨id,h,_⟩=>by cases h⟩,λid b hl _=>by simp[aK,fN,bI.live]at hl,λi j b hi _=>by simp[aK,fN,bI.live]at hi,λt=>?_,λid=>?_,λid h=>by cases h⟩
  .simp[ntmps174]
  .rw[rJ]
   match t with
   |0=>exact .d _ _ (by simp;exact .val y (by rw[a0];rfl))
   |1=>exact .d _ _ (by
     simp;exact(a9.2 0 _ _ rfl rfl).anti λk f=>f.resolve_right λ⟨id,B,_⟩=>by simp[aK,fN,bI.mut]at B)
   |t+2=>exact .junk _
  .simp[dU,aK,fN]
 generalize hA:(⟨(#[y]++lb.toArray)++F5 (Tryz.f174.ntmps-(#[y]++lb.toArray).size) undef,[]⟩:Act)=act at s0|-;clear hA;have kf:=ML;obtain⟨rd,b7⟩:∃rd:DV,rd=.ro [aI x.kind,.str x.text,aI x.n,ndsD x.kids]:=⟨_,rfl⟩;repeat refine wpIn_seq ?_
 refine AV (bA [(1,.d rd),(2,.bx 2 0)]) (aK [(2,.box false [.d (.val y)])]) s0 rfl iY ?_ λβ1 a1 w1 s1=>?_
 .apply aJ;simp[b7];exact pK [1,2] [(2,2)] bK bK bB bB (by simp;rfl)
 show Code.wpIn _ _ _ _ _ _ _;repeat refine wpIn_seq ?_
 refine AV (bA [(1,.d rd),(2,.bx 2 0),(3,.bx 3 0)]) (aK [(2,.box false [.d (.val y)]),(3,.box false [.d fitD])]) s1 rfl iY ?_ λβ2 a2 w2 s2=>?_
 .refine bG (og 5 (.plain ⟨.d fitD,false⟩)) ?_;simp;refine⟨⟨kf,rfl⟩,?_⟩;exact pK [1,2,3] [(2,2),(3,3)] bK bK bB bB (by simp;rfl)
 show Code.wpIn _ _ _ _ _ _ _;repeat refine wpIn_seq ?_
 refine AV (bA [(1,.d rd),(2,.bx 2 0),(3,.bx 3 0),(4,.bx 4 0)]) (aK [(2,.box false [.d (.val y)]),(3,.box false [.d fitD]),(4,.box false [.d (.val Value.nilFunc)])]) s2 rfl iY ?_ λβ3 a3 w3 s3=>?_
 .apply aJ;simp;exact pK [1,2,3,4] [(2,2),(3,3),(4,4)] bK bK bB bB bB
 show Code.wpIn _ _ _ _ _ _ _;repeat refine wpIn_seq ?_
 refine AV (bA [(1,.d rd),(2,.bx 2 0),(3,.bx 3 0),(4,.bx 4 0)]) (aK [(2,.box true [.d (.val y)]),(3,.box true [.d fitD]),(4,.box true [.fn 176 [.bx 3 0,.bx 2 0,.bx 4 0]])]) s3 rfl iY ?_ λβ4 a4 m G=>?_
 .apply aJ;simp;refine(iH.freeze [2,3,4]).trans (pK [1,2,3,4] [(2,2),(3,3),(4,4)] bK bK bB ?_ ?_)<;>simp
 show Code.wpIn _ _ _ _ _ _ _;have o:Ar w.heap.size w m:=G.ext.bel λk ⟨id,h,_⟩=>by cases h
 obtain⟨b2,e2,z,L,c4,b0,d1⟩:=Ib (G.obj 2) (fz:=true) (l:=.d (.val y)) rfl;obtain⟨b3,e3,u3,M,c5,d0,d2⟩:=Ib (G.obj 3) (fz:=true) (l:=.d fitD) rfl;obtain⟨b4,e4,s,N,c6,U,d3⟩:=Ib (G.obj 4) (fz:=true) (l:=.fn 176 [.bx 3 0,.bx 2 0,.bx 4 0]) rfl;have d4:z=y:=by cases d1 with|d _ _ h=>cases h;rfl
 subst d4;have a5:∀id b,(aK [(2,bI.box true [.d (.val z)]),(3,.box true [.d fitD]),(4,.box true [.fn 176 [.bx 3 0,.bx 2 0,.bx 4 0]])] id).live=true->β4 id=some b->w.heap.size<=b/\b<m.heap.size:=λid b B D=>by
  have I:=G.fresh id b B D;refine⟨I.1.resolve_right λh=>?_,I.2⟩;obtain⟨⟨i0,h0,_⟩,_⟩:=h;cases h0
 have n2:=a5 2 b2 rfl L;have n3:=a5 3 b3 rfl M;have n4:=a5 4 b4 rfl N;have d5:∀id,(aK [(2,bI.box true [.d (.val z)]),(3,.box true [.d fitD]),(4,.box true [.fn 176 [.bx 3 0,.bx 2 0,.bx 4 0]])] id).mut=false:=BA rfl;obtain⟨p3,p2,p4,b9,b5,b1,b6⟩:∃p3 p2 p4,s=.func (.func 176) #[] #[p3,p2,p4]/\p3=.pointer (some ⟨b3,0,none⟩)/\p2=.pointer (some ⟨b2,0,none⟩)/\p4=.pointer (some ⟨b4,0,none⟩):=by
  cases d3 with
  |fn _ _ vs hl g=>
   match vs,hl with
   |[q3,q2,q4],_=>exact⟨q3,q2,q4,rfl,yM (g 0 _ _ rfl rfl) M rfl,yM (g 1 _ _ rfl rfl) L rfl,yM (g 2 _ _ rfl rfl) N rfl⟩
 have a8:RD m X fitD u3:=by
  cases d2 with
  |d _ _ h=>exact h.anti λk f=>.inl f
 have c3:zM m X:=hX.2.step (λk f _=>o.block k f) o.size λ_ _ h=>h
 let F:Pw prog:={
  T:=λK i W=>J K i W/\(∀k,w.heap.size<=k->k<m.heap.size->K k)/\m.heap.size<=W.heap.size/\(∀k,k<m.heap.size->¬X k->W.heap[k]? =m.heap[k]?)/\∀k,K k->k<W.heap.size
  S:=λk=>k<m.heap.size/\¬X k
  grow:=λK i W W' ⟨B,D,I,h4,h5⟩ o=>⟨c8 K i W W' B o,λk a b=>.inl (D k a b),C7 I o.size,λk a b=>(o.block k aE).trans (h4 k a b),λk f=>by
   have:=o.size;rcases f with f|f
   .have:=h5 k f;omega
   .exact f.2⟩
  low:=λK i W k h f=>h.2.2.2.2 k f
  same:=λK i W K' i' W' k h h' hs=>(h'.2.2.2.1 k hs.1 hs.2).trans (h.2.2.2.1 k hs.1 hs.2).symm
  glob:=λK i W h=>c3.step (λk f hn=>h.2.2.2.1 k f hn) h.2.2.1 λk f P=>A9 λhx=>P.2 (.inr ⟨f,hx⟩)}
 have b8:F.T (λk=>w.heap.size<=k/\k<m.heap.size) 0 m:=⟨c7 m o,λk a b=>⟨a,b⟩,A1 _,λ_ _ _=>rfl,λk f=>f.2⟩;have a7:∀k,X k->k<w.heap.size:=hX.1;have C:HY F z s (bX x):=by
  refine⟨λi u hu K W v vs A q Z=>?_,λK i W A=>?_⟩
  .have q:v=z:=by cases q;rfl
   refine .inr ⟨l,q.trans a0,?_⟩;have Z:=Ve Z;subst Z;obtain⟨fn,tm,ag,bo,r1,r2⟩:=c9 K i W (AU u) A.1 (by rw[List.getElem?_map,hu];rfl);refine⟨fn,tm,ag,bo,r1,r2.mono ?_⟩;rintro e W' ⟨rfl,q1,q2,q3⟩;have Y:=A.2.2.1;refine⟨rfl,K,⟨q1,A.2.1,C7 Y q2,λk a b=>?_,λk f=>Nat.lt_of_lt_of_le (A.2.2.2.2 k f) q2⟩,q2,λk f=>⟨f,q3 k (.inl f)⟩⟩;refine(q3 k ?_).trans (A.2.2.2.1 k a b);by_cases h:k<w.heap.size
   .exact .inr ⟨h,b⟩
   .exact .inl (A.2.1 k aE a)
  .have Y:=A.2.2.1;have c2:∀b,w.heap.size<=b->b<m.heap.size->¬F.X K W b/\b<W.heap.size/\W.heap[b]? =m.heap[b]? :=λb B D=>
    ⟨λh=>h.2.elim (.inl (A.2.1 b B D)),aE,A.2.2.2.1 b D λhx=>by have:=a7 b hx;omega⟩
   have H:∀b u (d:DV) (e:TypeId),w.heap.size<=b/\b<m.heap.size->m.heap[b]? =some (.cells #[u] e (0,0))->u.oneCell'=true->RD W (F.X K W) d u->RD W (F.X K W) (.ro [d]) (.pointer (some ⟨b,0,none⟩)):=λb u d e hb hh B hd=>by
    obtain⟨z1,z2,z3⟩:=c2 b hb.1 hb.2;refine .ro [d] b 0 [u] z1 rfl (by simpa using B) z2 (λj v hj=>?_) λi c v g q=>?_
    .match j,hj with
     |0,hj=>cases hj;simp[World.cell?,z3,hh]
    .match i,g,q with
     |0,g,q=>cases g;cases q;exact hd
   have c0:RD W (F.X K W) (.fn 176 [.ro [fitD],.ro [.val z],.ro [.val s]]) (.func (.func 176) #[] [p3,p2,p4].toArray):=by
    refine .fn _ _ [p3,p2,p4] rfl λi c v g q=>?_
    match i,g,q with
    |0,g,q=>
     cases g;cases q;rw[b5];exact H b3 u3 fitD e3 n3 c5 d0 (a8.step (λk f hn=>A.2.2.2.1 k f hn) Y λk f P=>A9 λhx=>P.2 (.inr ⟨f,hx⟩))
    |1,g,q=>
     cases g;cases q;rw[b1];exact H b2 z _ e2 n2 c4 b0 (.val _ b0)
    |2,g,q=>
     cases g;cases q;rw[b6];exact H b4 s (.val s) e4 n4 c6 U (.val _ U)
   have e:(Value.func (.func 176) #[] [p3,p2,p4].toArray)=s:=b9.symm;rw[e]at c0;exact c0
 have V:=Vd C x hw 0 (λj u hj=>by rw[C1];exact hj);obtain⟨m6,g6⟩:=G.mem.rebox (b:=4) (fz:=true) (cs:=[.fn 176 [.bx 3 0,.bx 2 0,.bx 4 0]]) (cs':=[.d (.val s)]) rfl rfl λi c c' v g O hr=>by
  match i,g,O with
  |0,g,O=>
   cases g;cases O;have:v=s:=by
    rw[b9];cases hr with
    |fn _ _ vs hl g=>
     match vs,hl with
     |[q3,q2,q4],_=>rw[b5,b1,b6,yM (g 0 _ _ rfl rfl) M rfl,yM (g 1 _ _ rfl rfl) L rfl,yM (g 2 _ _ rfl rfl) N rfl]
   rw[this];exact .d _ _ (.val s U)
 have hO:cP (aK [(2,bI.box true [.d (.val z)]),(3,.box true [.d fitD]),(4,.box true [.fn 176 [.bx 3 0,.bx 2 0,.bx 4 0]])]) 4 (.box true [.d (.val s)])=aK [(2,bI.box true [.d (.val z)]),(3,.box true [.d fitD]),(4,.box true [.d (.val s)])]:=by
  funext j;by_cases D:j=2
  .subst D;rfl
  .by_cases I:j=3
   .subst I;rfl
   .by_cases h4:j=4
    .subst h4;rfl
    .simp[cP,aK,fN,D,I,h4]
 rw[hO]at m6 g6;have c1:mC 10 ⟨w,λ_=>none,λ_=>.absent,[],true⟩ X (bA [(1,.d rd),(2,.bx 2 0),(3,.bx 3 0),(4,.bx 4 0)]) (aK [(2,bI.box true [.d (.val z)]),(3,.box true [.d fitD]),(4,.box true [.d (.val s)])]) β4 a4 m:=
  ⟨g6.marks G.defers,G.size,m6.ext,m6.xold,m6.fresh,m6.inj,λt=>g6.R (G.env t),m6.obj,m6.pin⟩
 have E:∀id,(aK [(2,bI.box true [.d (.val z)]),(3,.box true [.d fitD]),(4,.box true [.d (.val s)])] id).mut=false:=BA rfl;have s5:=c1.effect (X':=F.X (λk=>w.heap.size<=k/\k<m.heap.size) m) [2,3,4] (λid h=>by
  have:=oG id h;simpa using this) (c1.nodefer rfl) (A1 _) (λ_ _ _=>rfl) (λk f P=>A9 λhx=>P.2 (.inr ⟨f,hx⟩)) (λk P=>P.1) (F.glob _ _ _ b8)
 refine wpIn_mono ((nI (F:=F) (pins:=[2,3,4]) (Q:=λe _ _ i'=>(match e with| .normal=>True|_=>False)/\i'=0+(bX x).length) hT hW [(2,.box true [.d (.val z)]),(3,.box true [.d fitD]),(4,.box true [.d (.val s)])] rfl (by rfl) bB 2 rfl rfl rfl rfl bK
  (rd:=.bool true) (r:=.bool true) (λ_ _=>.bool _) V ?_) iY ⟨m,β4,_,[2,3,4],true⟩ _ β4 a4 m rfl rfl (λk ⟨id,_,h,_⟩=>by rw[E id]at h;cases h) b8 s5) ?_
 .simp[b7,zU];rfl
 .rintro e a' w' ⟨lx,d7,H',i',w1,K',β',q1,q2,q3,q4,q5,q6,q7,q8,q9,d6⟩;subst d6;cases lx with
  |exit id=>exact q9.elim
  |ret=>exact q9.elim
  |normal=>
  cases e<;>simp only[gQ]at q1;have a6:=q8.ext.bel q4;have hg:=F.grow K' _ _ _ q5 a6;exact⟨q8.nodefer q2,.tuple #[],by simp[results,results174],⟨_,rfl⟩,_,by rw[D4];have:=hg.1;rw[C1]at this;exact this⟩
end
section
attribute[local simp] aR bJ bF aO aL aX aP
attribute[local simp] kH.cond Nd.d_eq nd_t nd_dr nd_td ndsD aQ
def kS(l:List Nd):List bC:=(l.filter λk=>decide (k.kind=7)).map Nd.text
def cR(x:Nd):List bC:=kS x.kids
theorem Ic{l:List Nd}{i:Nat}(a:i<l.length):kS (l.take (i+1))=if l[i].kind=7 then kS (l.take i)++[l[i].text]else kS (l.take i):=by
 unfold kS;rw[A5 a,List.filter_append];by_cases h:l[i].kind=7<;>simp[h]
theorem CA(l:List Nd):(kS l).length<=l.length:=by unfold kS;rw[D4];exact B4 _ _
theorem GC(x:Nd)(o:weighN x<=1000000000):Ok prog 245 [x.d] ⟨.own 1 ((cR x).map .str),true⟩:=by
 refine bT func245 rfl ntmps245 results245 λp X d=>?_;have n:=weighN_eq x;have m:=weigh_len (l:=x.kids);apply aD;simp;apply aD;simp;apply eP;simp;apply aW;refine aZ (ι:=Nat) (λi=>bA [(3,.ow 3 0 (kS (x.kids.take i)).length),(7,.d (ndsD x.kids)),(8,.d (aI (x.kids.length:Nat))),(9,.d (aI (i:Nat)))]) (λi=>aK [(3,.row false 1 ((kS (x.kids.take i)).map .str))]) (λi=>i<=x.kids.length) (λi=>x.kids.length-i) 0 (aA d [3,7,8,9] [(3,3)] (by simp[kS]) (by simp[kS])) (C0 _) λi j=>?_;apply aD;simp;apply aF;apply aM;simp;refine⟨λg=>?_,λg=>?_⟩
 .apply aG;simp;apply eG;apply aF;have e:i<x.kids.length:=aE;obtain⟨k,f⟩:∃k,x.kids[i]=k:=⟨_,rfl⟩;have a:=Ic e;have c:=CA (x.kids.take i);rw[D2]at c;rw[f]at a;apply aJ;simp[e,f];apply bE;simp;refine⟨λb=>?_,λb=>?_⟩
  .simp only[if_pos b]at a;apply aJ;simp;refine⟨aE,?_⟩;apply aJ;simp;refine⟨aE,?_⟩;refine On.mk (i+1) (aA d [3,7,8,9] [(20,3)] (by simp[a]) (by simp[a])) ?_ ?_
   .omega
   .omega
  .simp only[if_neg b]at a;apply aG;simp;apply aJ;simp;refine⟨aE,?_⟩;refine On.mk (i+1) (aA d [3,7,8,9] [(3,3)] (by simp[a]) (by simp[a])) ?_ ?_
   .omega
   .omega
 .apply bP;simp;apply aD;simp;apply aH;have h:i=x.kids.length:=aE;subst h;rw[B7];simp[cR]
def pF(ts:List Nd):List DV:=ts.map λt=>.str t.text
def pO(n:Nat):List DV:=(E8 n).map λ(i:Nat)=>aI (i:Int)
def Ac(ts:List Nd):DV:=.agg [ndsD ts,.mp (pF ts) (pO ts.length)]
def pB(ts:List Nd)(name:bC):Option Nat:=ts.findIdx? λt=>decide (name=t.text)
theorem sY(a:bC):∀(b:List Nd) (i:Nat),iG (.str a) (pF b) i=some ((pB b a).map (·+i))
 |[],i=>rfl
 |x::r,i=>by
  have e:kJ (.str a) (.str x.text)=some (decide (a=x.text)):=by
   simp only[kJ,FR,Option.some.injEq];by_cases h:a=x.text<;>simp[h]
  unfold pF pB;rw[E7,iG,e,E9];by_cases h:a=x.text
  .simp[h]
  .simp only[h,decide_false,F0,if_false];have:=sY a r (i+1);unfold pF pB at this;rw[this];cases r.findIdx? (λt=>decide (a=t.text))with
   |none=>rfl
   |some j=>simp;omega
theorem wH{b:List Nd}{a:bC}{j:Nat}(h:pB b a=some j):j<b.length:=by
 unfold pB at h;exact(A8.1 h).1
theorem PK{n j:Nat}(h:j<n):(pO n)[j]?.getD default=aI (j:Nat):=by simp[pO,h]
def iM(ts:List Nd)(u:cY):Int:=match pB ts u.name with
 |none=>6
 |some j=>if(ts.getD j default).kind≠u.kind then 12 else if u.kind=1/\u.field∉cR (ts.getD j default)then -1 else 0
def JP(e:Int):Int:=if e=12 then 1 else if e= -1 then 2 else 0
def jI(out e:Int):Int:=if out=0\/JP e<JP out then e else out
def BN(ts:List Nd)(us:List cY):Int:=us.foldl (λout u=>if iM ts u=0 then out else jI out (iM ts u)) 0
def FI(ts:List Nd)(x:Nd):Int:=if BN ts (bX x)= -1 then 6 else BN ts (bX x)
def pG(e:Int):Prop:=e=0\/e=6\/e=12\/e= -1
theorem BO(a:List Nd)(u:cY):pG (iM a u):=by
 unfold iM pG;split
 .simp
 .split
  .simp
  .split<;>simp
theorem RE(ts:List Nd)(a:List cY):pG (BN ts a):=by
 have c:∀(a:List cY) (o:Int),pG o->pG (a.foldl (λb u=>if iM ts u=0 then b else jI b (iM ts u)) o):=λa=>by
  induction a with
  |nil=>exact λo h=>h
  |cons u r ih=>
   intro o h;refine ih _ ?_;show pG (if iM ts u=0 then o else jI o (iM ts u));split
   .exact h
   .unfold jI;split
    .exact BO ts u
    .exact h
 exact c a 0 (.inl rfl)
def AW:DV:=.mp [aI 6,aI 12,aI (-1)] [aI 0,aI 1,aI 2]
theorem GD{H:Nat->bI}{e:Int}(h:pG e):dB T H 270 (.d AW) (.d (aI e)) false=⟨.d (aI (JP e)),True,[]⟩:=by
 rcases h with rfl|rfl|rfl|rfl<;>simp[dB,AW,iG,kJ,FR,JP]
theorem Ev(a e:Int)(g:pG a)(f:pG e):mE prog 248 [.d (aI e),.d AW,.bx 0 0] [(0,.box false [.d (aI a)])] [(0,.box false [.d (aI (jI a e))])] (.tup []):=by
 refine pD func248 rfl ntmps248 results248 λi X d=>?_;apply aD;simp[GD g,GD f];apply aM;simp;refine⟨λc=>?_,λc h=>?_⟩
 .have b:jI a e=e:=by unfold jI;rw[if_pos c]
  apply aJ;simp;simp[b];exact aA d [] [(0,0)]
 .have b:jI a e=a:=by unfold jI;rw[if_neg aE]
  apply aG;simp;simp[b];exact aA d [] [(0,0)]
def Xy(ts:List Nd)(name:bC):Int:=((pB ts name).getD 0:Nat)
theorem Id{H:Nat->bI}{b:List Nd}{n:Nat}(c:n=b.length){a:bC}:dB T H 136 (.d (.mp (pF b) (pO n))) (.d (.str a)) true=⟨.tup [.d (aI (Xy b a)),.d (.bool (pB b a).isSome)],True,[]⟩:=by
 subst c;unfold Xy;cases h:pB b a with
 |none=>simp[dB,sY,h]
 |some j=>
  have:=PK (wH h);simp[dB,sY,h,this]
def sI(x:Nd)(i:Nat):cY:=(bX x).getD i ⟨0,0,[],[]⟩
theorem yN{x:Nd}{i:Nat}{u:cY}(h:(bX x)[i]? =some u):sI x i=u:=by unfold sI;rw[A4,h];rfl
end
end Go.Eng
namespace Go.Proofs
open Go.Shelf
def Tryz.sortStr_ren:Go.Shelf.Ren:=⟨λ|6=>98|8=>134|9=>173|19=>207|20=>208|21=>249|22=>250|23=>251|24=>252|25=>253|26=>254|27=>255|28=>256|29=>257|36=>309|31=>269|32=>270|37=>310|38=>311|39=>153|41=>338|n=>n,λ|27=>44|29=>9|3=>3|32=>166|26=>44|0=>0|44=>90|46=>93|4=>4|36=>236|35=>235|41=>154|5=>5|9=>9|53=>281|57=>285|63=>297|64=>298|n=>n,λ|n=>n⟩
theorem Tryz.sortStr:Go.Proofs.SlLaysM.n6 prog Tryz.sortStr_ren:={
 mixed:=by kernel_rfl,
 f6:=⟨Tryz.f98.name,by decide,func98.trans (congrArg some (by kernel_rfl))⟩,
 f8:=func134.trans (congrArg some (by kernel_rfl)),
 f9:=⟨Tryz.f173.name,by decide,func173.trans (congrArg some (by kernel_rfl))⟩,
 f19:=func207.trans (congrArg some (by kernel_rfl)),
 f20:=func208.trans (congrArg some (by kernel_rfl)),
 f21:=⟨Tryz.f249.name,by decide,func249.trans (congrArg some (by kernel_rfl))⟩,
 f22:=⟨Tryz.f250.name,by decide,func250.trans (congrArg some (by kernel_rfl))⟩,
 f23:=⟨Tryz.f251.name,by decide,func251.trans (congrArg some (by kernel_rfl))⟩,
 f24:=⟨Tryz.f252.name,by decide,func252.trans (congrArg some (by kernel_rfl))⟩,
 f25:=⟨Tryz.f253.name,by decide,func253.trans (congrArg some (by kernel_rfl))⟩,
 f26:=⟨Tryz.f254.name,by decide,func254.trans (congrArg some (by kernel_rfl))⟩,
 f27:=⟨Tryz.f255.name,by decide,func255.trans (congrArg some (by kernel_rfl))⟩,
 f28:=⟨Tryz.f256.name,by decide,func256.trans (congrArg some (by kernel_rfl))⟩,
 f29:=⟨Tryz.f257.name,by decide,func257.trans (congrArg some (by kernel_rfl))⟩,
 f31:=func269.trans (congrArg some (by kernel_rfl)),
 f32:=func270.trans (congrArg some (by kernel_rfl)),
 f36:=⟨Tryz.f309.name,by decide,func309.trans (congrArg some (by kernel_rfl))⟩,
 f37:=⟨Tryz.f310.name,by decide,func310.trans (congrArg some (by kernel_rfl))⟩,
 f38:=⟨Tryz.f311.name,by decide,func311.trans (congrArg some (by kernel_rfl))⟩,
 f39:=⟨Tryz.f153.name,by decide,func153.trans (congrArg some (by kernel_rfl))⟩,
 f41:=⟨Tryz.f338.name,by decide,func338.trans (congrArg some (by kernel_rfl))⟩,
 t0:=underlying0,
 a0:=isAgg0,
 z0:=sizeOf0,
 v0:=zeroValue0,
 t3:=underlying3,
 a3:=isAgg3,
 z3:=sizeOf3,
 v3:=zeroValue3,
 t4:=underlying4,
 a4:=isAgg4,
 z4:=sizeOf4,
 v4:=zeroValue4,
 t5:=underlying5,
 a5:=isAgg5,
 z5:=sizeOf5,
 v5:=zeroValue5,
 t9:=underlying9,
 a9:=isAgg9,
 z9:=sizeOf9,
 v9:=zeroValue9,
 t26:=underlying44,
 a26:=isAgg44,
 z26:=sizeOf44,
 v26:=zeroValue44,
 t27:=underlying44,
 a27:=isAgg44,
 z27:=sizeOf44,
 v27:=zeroValue44,
 t29:=underlying9,
 a29:=isAgg9,
 z29:=sizeOf9,
 v29:=zeroValue9,
 t32:=underlying166,
 a32:=isAgg166,
 z32:=sizeOf166,
 v32:=zeroValue166,
 t35:=underlying235,
 a35:=isAgg235,
 z35:=sizeOf235,
 v35:=zeroValue235,
 t36:=underlying236,
 a36:=isAgg236,
 z36:=sizeOf236,
 v36:=zeroValue236,
 t41:=underlying154,
 a41:=isAgg154,
 z41:=sizeOf154,
 v41:=zeroValue154,
 t44:=underlying90,
 a44:=isAgg90,
 z44:=sizeOf90,
 v44:=zeroValue90,
 t46:=underlying93,
 a46:=isAgg93,
 z46:=sizeOf93,
 v46:=zeroValue93,
 t53:=underlying281,
 a53:=isAgg281,
 z53:=sizeOf281,
 v53:=zeroValue281,
 t57:=underlying285,
 a57:=isAgg285,
 z57:=sizeOf285,
 v57:=zeroValue285,
 t63:=underlying297,
 a63:=isAgg297,
 z63:=sizeOf297,
 v63:=zeroValue297,
 t64:=underlying298,
 a64:=isAgg298,
 z64:=sizeOf298,
 v64:=zeroValue298}
end Go.Proofs
namespace Go.Eng
open Go.Proofs Go.Sort Go.Shelf Go.RowKit
def tX(x:bC):Value:=.string ⟨x.toArray⟩
def bC.enc(x:bC):List Value:=[tX x]
theorem qU:AI 1 DV.str bC.enc where
 pos:=bK
 len:=λ_=>rfl
 lenD:=λ_=>rfl
 one:=λx v a=>by simp[bC.enc]at a;subst a;rfl
 cell:=λx i c v b a w E u=>by
  match i,b,a with
  |0,b,a=>simp[bC.enc,aU]at b a;subst b;subst a;exact⟨λh=>by cases h;rfl,λh=>h▸ .str _⟩
def eE(l:List bC):List bC:=l.mergeSort λx y=>decide (x<=y)
theorem jU(l:List bC):(eE l).length=l.length:=List.length_mergeSort _
theorem Ie{a:Array Value}{s:List bC}(h:s.length<=a.size):putCells encStr 0 s.toArray a=(bF 0 a.toList (s.flatMap bC.enc)).toArray:=by
 have b:(s.flatMap bC.enc).length=s.length:=by have:=qU.flat_len s;simpa using this
 apply Array.ext_getElem?;intro i;rw[show(bF 0 a.toList (s.flatMap bC.enc)).toArray[i]? =(bF 0 a.toList (s.flatMap bC.enc))[i]? from bB,gP (by rw[C1,b];simpa using h)];simp only[putCells,Array.getElem?_mapIdx,D5,if_false,C1,B5,b,Nat.sub_zero,C0,true_and];by_cases c:i<s.length
 .have d:i<a.size:=aE;have e:s.flatMap bC.enc=s.map tX:=by
   clear h b c;induction s with
   |nil=>rfl
   |cons x t ih=>simp[bC.enc,ih]
  simp only[c,if_true,D0 d,D6];rw[e];simp[c,getElem!_def,encStr,tX]
 .simp only[c,if_false];rw[Array.getElem?_toList];cases a[i]? <;>rfl
set_option maxRecDepth 100000 in
theorem Ad(l:List bC)(hl:l.length<=8000000000000):mE prog 98 [.ow 0 0 l.length] [(0,.row false 1 (l.map .str))] [(0,.row false 1 ((eE l).map .str))] (.tup []):=by
 refine⟨⟨_,func98,iY,by rfl⟩,λw X β vs m Z hr=>?_⟩;have G:aK [(0,bI.row false 1 (l.map DV.str))] 0=.row false 1 (l.map .str):=by simp[aK,fN]
 have z:∀o,aK [(0,o)]=cP (aK [(0,bI.row false 1 (l.map DV.str))]) 0 o:=λo=>by
  funext j;simp only[aK,fN,cP];split<;>rfl
 generalize a3:aK [(0,bI.row false 1 (l.map DV.str))]=H at*
 match vs,Z with
 |[v0],_=>
 have r0:=hr 0 _ _ rfl rfl;rcases AB m G r0 with⟨b,c,a,e,rfl,F,a5,hn,hc,d,V,a2⟩|⟨p,rfl,hz,_⟩
 .have r:=m.obj 0;simp only[dU,G]at r;obtain⟨L,a1,r⟩:=r;rcases r with⟨D,_⟩|⟨b',e',a0,k,g,h,U⟩
  .rw[D]at F;cases F
  rw[F]at k;injection k with k;subst k
  rw[d]at g;injection g with g;injection g with p1 p2;subst p1;subst p2
  rw[D4]at h;have Y:=qU.holds h (λi c v hc hv=>(U i c v hc hv).2);have a4:(l.flatMap bC.enc).length=l.length:=by have:=qU.flat_len l;simpa using this
  have K:∀l:List bC,l.flatMap bC.enc=l.map tX:=λl=>by
   induction l with
   |nil=>rfl
   |cons x t ih=>simp[bC.enc,ih]
  have Q:=(A0.1 d).1;have B:Holds encStr w b 0 l.toArray:=by
   intro j C;simp only[B5]at C;have J:j<a.size:=aE;refine⟨?_,by simp[World.frozen?,d]⟩;rw[cell_of_row w b _ a e (0,0) d,C1,D0 J];have O:(a.toList.take (l.length*1))[j]? =some a[j]:=by rw[List.getElem?_take,if_pos aE];simp[J]
   rw[Y,K]at O;simp[C]at O;rw[<-O];simp[encStr,tX,C]
  have y:=AnyM.slices_Sort_string Tryz.sortStr b 0 c l w B Q aE;rw[show #[Value.slice (some ⟨b,0,none⟩) l.length c]=[Value.slice (some ⟨b,0*1,none⟩) l.length c].toArray from rfl]at y;refine y.mono ?_;rintro ee w' ⟨rfl,n,os,rfl⟩;have W:=jU l;change ∃v β',_/\dX _ X _ β' (grow (putRow encStr (Sort.ahead w n) b 0 (eE l).toArray) os)/\R (grow (putRow encStr (Sort.ahead w n) b 0 (eE l).toArray) os) _ _ _ _ v;generalize eE l=s at*;have M:(s.flatMap bC.enc).length=s.length:=by have:=qU.flat_len s;simpa using this
  have A:(putRow encStr (Sort.ahead w n) b 0 s.toArray).heap[b]? =some (.cells (bF 0 a.toList (s.flatMap bC.enc)).toArray e (0,0)):=by
   rw[<-Ie aE];unfold putRow mapBlock;simp only[heap_ahead,E0,if_pos,d,D6];rfl
  have u:∀j,j≠b->(putRow encStr (Sort.ahead w n) b 0 s.toArray).heap[j]? =w.heap[j]? :=λj C=>by
   unfold putRow mapBlock;simp only[heap_ahead,E0,Ne.symm C,if_false]
  have E:(putRow encStr (Sort.ahead w n) b 0 s.toArray).heap.size=w.heap.size:=bB;have I:a.toList.length=a.size:=bB;have S:(bF 0 a.toList (s.flatMap bC.enc)).toArray.size=a.size:=by rw[B5,fB (by rw[C1,M,I];omega)];exact I
  have N:(bF 0 a.toList (s.flatMap bC.enc)).toArray.toList.take (s.length*1)=s.flatMap bC.enc:=by
   unfold bF;simp[M]
  obtain⟨m1,g1⟩:=m.rewriteG (id:=0) (b:=b) (o':=.row false 1 (s.map .str)) (w':=putRow encStr (Sort.ahead w n) b 0 s.toArray) (by rw[G];rfl) F rfl rfl rfl (Nat.le_add_right _ _) E u (by
   unfold bW;rw[G,aV];refine .inr ⟨⟨false,s.map .str,rfl,by simp[W]⟩,rfl,λb' c' t q f=>?_⟩;rw[F]at q;injection q with q;subst q
   rw[d]at f;injection f with f;injection f with q1 q2;subst q1;subst q2
   exact⟨_,e,A,S⟩) (λ_ _=>by
   unfold dU;rw[aV];obtain⟨z1,z2⟩:=qU.reads N;exact⟨L,qU.all s,.inr ⟨b,e,_,F,A,by simpa using z1,z2 _ _⟩⟩)
  obtain⟨m2,g2⟩:=m1.grow (w':=grow (putRow encStr (Sort.ahead w n) b 0 s.toArray) os) ⟨rfl,rfl,rfl,bB,λj C=>heap_grow_old _ _ C,A1 _⟩;refine⟨_,β,rfl,?_,.tup [] [] rfl bB⟩;rw[z];exact m2
 .have P:l=[]:=List.eq_nil_of_length_eq_zero hz;subst P;refine(AnyM.slices_Sort_string_none Tryz.sortStr p 0 w).mono ?_;rintro e w' ⟨rfl,rfl⟩;refine⟨_,β,rfl,?_,.tup [] [] rfl bB⟩;rw[z,show eE []=[] from by simp[eE],DT G];exact m
theorem pP(l:List bC):(eE l).Pairwise λx y=>x<=y:=by
 have:=List.pairwise_mergeSort (le:=λx y:bC=>decide (x<=y)) (λa b c d e=>by simp at*;exact List.le_trans d e) (λa b=>by simp;exact List.le_total a b) l;exact this.imp λh=>by simpa using h
theorem MM{p s:List bC}(h:p.Perm s):eE p=eE s:=
 List.Perm.eq_of_pairwise (le:=λx y:bC=>x<=y) (λa b _ _ c d=>List.le_antisymm c d) (pP p) (pP s) (((E5 p _).trans h).trans (E5 s _).symm)
section
open Go.RowKit Go.Maps Go.Sort Go.Shelf Go.Proofs
open Go.ChangeMaps (setBlock)
open Go.ChangeMaps (setBlock)
section
variable{P:Program} {F:Fence} {n:Nat} (w:World) {ops:Array Oper} {rest:List Oper} {o:Oper} {a:Act} {Q:Exit->Act->World->Prop}
structure MN(es:Array MapEntry)(vs:List MapEntry)(seen:Array Nat):Prop where
 mem:∀e∈vs,e∈es.toList
 nd:(vs.map (·.born)).Nodup
 seen:seen.toList=vs.map (·.born)
theorem Ew{b:Array MapEntry}{a:Nat}(h:gH b a):(b.toList.map (·.born)).Nodup:=by
 rw[List.Nodup,List.pairwise_map,List.pairwise_iff_getElem];intro i j d f c e;have:=h.2 i j _ _ bB bB e;omega
theorem tY{α β:Type}{f:α->β}:∀{l:List α},(l.map f).Nodup->l.Nodup
 |[],_=>bB
 |a::l,h=>by
  simp only[E7,F6]at h|-;exact⟨λb=>h.1 (C2.2 ⟨a,b,rfl⟩),tY h.2⟩
theorem MN.perm{c:Array MapEntry}{b:Nat}{m:List MapEntry}{a:Array Nat}(h:MN c m a)(o:gH c b)(q:(leftOf c a).size=0):m.Perm c.toList:=by
 refine(List.perm_ext_iff_of_nodup (tY h.nd) (tY (Ew o))).2 λe=>⟨h.mem e,λp=>?_⟩;have r:e.born∈a:=by
  have:leftOf c a= #[]:=Array.eq_empty_of_size_eq_zero q;unfold leftOf at this;rw[Array.filter_eq_empty_iff]at this;have:=this e (by simpa using p);simpa using this
 have l:e.born∈m.map (·.born):=by rw[<-h.seen];simpa using r
 obtain⟨n,d,k⟩:=C2.1 l;obtain⟨i,s,f⟩:=C6 p;obtain⟨j,t,g⟩:=C6 (h.mem n d);have:=o.2 j i n e (by rw[<-g];simp) (by rw[<-f];simp) k;subst this;rw[<-f,g];exact d
theorem MN.step{d:Array MapEntry}{g:List MapEntry}{a:Array Nat}(h:MN d g a){e:MapEntry}(c:e∈(leftOf d a).toList):MN d (g++[e]) (a.push e.born):=by
 unfold leftOf at c;simp only[Array.toList_filter,List.mem_filter,Bool.not_eq_true']at c;refine⟨λx b=>?_,?_,by simp[h.seen]⟩
 .rcases C5.1 b with b|b
  .exact h.mem x b
  .simp at b;subst b;exact c.1
 .rw[List.map_append,List.nodup_append];refine⟨h.nd,bB,λx b y f i=>?_⟩;simp at f;subst f;subst i;rw[<-h.seen]at b;have:=c.2;simp at this;exact this (by simpa using b)
theorem Ey:∀{l m:List Nat},l.Nodup->(∀x∈l,x∈m)->l.length<=m.length
 |[],_,_,_=>C0 _
 |a::l,m,h,hs=>by
  simp only[F6]at h;have b:a∈m:=hs a (List.mem_cons_self ..);have:=Ey h.2 (m:=m.erase a) (λx c=>(List.mem_erase_of_ne (show x≠a from λe=>by subst e;exact h.1 c)).2 (hs x (List.mem_cons_of_mem _ c)));rw[List.length_erase_of_mem b]at this;have:=List.length_pos_of_mem b;simp only[A3];omega
theorem MN.size{c:Array MapEntry}{b:Nat}{vs:List MapEntry}{a:Array Nat}(h:MN c vs a)(i:gH c b):a.size<=c.size:=by
 have d:a.size=vs.length:=by have:=congrArg E1 h.seen;simpa using this
 rw[d];have:=Ey h.nd (m:=c.toList.map (·.born)) (λx g=>by obtain⟨e,f,rfl⟩:=C2.1 g;exact C2.2 ⟨e,h.mem e f,rfl⟩);simpa using this
theorem FJ{w:World}{r:Nat}{o o':Obj}(h:w.heap[r]? =some o):(setBlock w r o').heap[r]? =some o'/\∀k,k≠r->(setBlock w r o').heap[k]? =w.heap[k]? :=by
 have a:=(A0.1 h).1;refine⟨by simp[setBlock,a],λk b=>?_⟩;simp only[setBlock];rw[Array.getElem?_setIfInBounds_ne (λe=>b e.symm)]
theorem Ae(q:o.guard=none)(m:Operand)(t:TypeId)(f:o.op=Op.range t m)(k e:TypeId)(s:P.underlying t=some (.map k e)){b d:Nat}{j:Array MapEntry}(r:a.eval m=.map (some b))(p:w.heap[b]? =some (.map j d))
 (l:wpListIn F n P ops Q rest (a.put o.dst (.pointer (some ⟨w.heap.size,0,none⟩))) (w.alloc (.mapIter (some b) d #[] d))):wpListIn F n P ops Q (o::rest) a w:=by
 refine wpListIn_plain q λu h=>?_;have g:(Instr.range t (.map (some b))).run P w=.ok (.pointer (some ⟨w.heap.size,0,none⟩)) (w.alloc (.mapIter (some b) d #[] d)):=by
  simp[Instr.range,run_underlying s,getObj,Sem.run,p,Result.andThen,run_newObj_alloc]
 unfold Oper.wpIn;refine⟨by simp[Oper.about,f],?_⟩;rw[Oper.semAt_plain F _ _ (by rw[f];intro c i;cases i)];simp[execOp,f,r,g,Result.andThen];exact h _ _ l
theorem AX(Y:o.guard=none)(V:Operand)(p:o.op=Op.next V false){b r d f A:Nat}{k:Array MapEntry}{g:Array Nat}{K:List MapEntry}(H:r≠b)(y:a.eval V=.pointer (some ⟨r,0,none⟩))
 (U:w.heap[r]? =some (.mapIter (some b) f g A))(N:w.heap[b]? =some (.map k d))(h:gH k d)(J:f<=A)(X:d<=f)(M:MN k K g)
 (q:K.Perm k.toList->wpListIn F n P ops Q rest (a.put o.dst (.tuple #[.bool false])) w)
 (s:∀(e:MapEntry) (t:World),e∈k.toList->MN k (K++[e]) (g.push e.born)->t.heap[r]? =some (.mapIter (some b) f (g.push e.born) d)->w.grownBy t (some r)->w.drawn<=t.drawn->
   (Instr.entry (.pointer (some ⟨r,0,none⟩))).run P t=.ok (.tuple #[e.key,e.val]) t->wpListIn F n P ops Q rest (a.put o.dst (.tuple #[.bool true,e.key,e.val])) t):
 wpListIn F n P ops Q (o::rest) a w:=by
 refine wpListIn_plain Y λK' u=>?_;unfold Oper.wpIn;refine⟨by simp[Oper.about,p],?_⟩;rw[Oper.semAt_plain F _ _ (by rw[p];intro c E;cases E)];have z:∀x∈k.toList,x.born<f:=λx Z=>by
  obtain⟨i,S,G⟩:=C6 Z;have:=h.1 i x (by rw[<-G];simp);omega
 rcases run_next_at (P:=P) w o.type r b f A g k d U N z J with⟨W,l⟩|⟨e,O,L,m,l⟩
 .simp[execOp,p,y,l,Result.andThen];exact u _ _ (q (M.perm h W))
 .have I:L.heap[r]? =some (.mapIter (some b) f g A):=by rcases m with rfl|rfl<;>exact U
  have D:L.heap[b]? =some (.map k d):=by rcases m with rfl|rfl<;>exact N
  have j:=FJ (o':=.mapIter (some b) f (g.push e.born) d) I;have C:(setBlock L r (.mapIter (some b) f (g.push e.born) d)).heap[b]? =some (.map k d):=(j.2 b (λB=>H B.symm)).trans D;have v:e∈k.toList:=(mem_left O).1;simp[execOp,p,y,l,Result.andThen];refine u _ _ (s e _ v (M.step O) j.1 ?_ ?_ (run_entry_at _ r b f g k d e j.1 C v (Ew h)))
  .rcases m with rfl|rfl<;>exact⟨rfl,rfl,rfl,by simp[setBlock],λi _ S=>j.2 i (λB=>S (by rw[B]))⟩
  .rcases m with rfl|rfl
   .exact A1 _
   .exact Nat.le_succ _
end
def MO(n r:Nat)(W:World):Nat:=n-(match W.heap[r]? with|some (.mapIter _ _ seen _)=>seen.size|_=>0)
theorem GE{n r:Nat}{W:World}{m:Option Nat}{a c:Nat}{b:Array Nat}(h:W.heap[r]? =some (.mapIter m a b c)):MO n r W=n-b.size:=by simp[MO,h]
set_option maxRecDepth 100000 in
theorem FK(F:Fence)(n:Nat)(hf:F.fn 181)(hro:F.round=none)(hn:1<=n){Bm ob b clock:Nat}{es:Array MapEntry}(W:World)(hm':W.cell? ⟨Bm,ob,none⟩=some (.map (some b)))
 (hb':W.heap[b]? =some (.map es clock))(hborn:gH es clock)(key:MapEntry->bC)(hkey:∀e∈es.toList,e.key=tX (key e))(l:Nat)(J:List bC->World->Prop)(hJ:ZS W.heap.size J)
 (hY:∀pre x W1,J pre W1->pre.length<es.size->YieldAt F (n-1) prog l #[tX x] W1 λe W'=>e=.returned (.bool true)/\J (pre++[x]) W'/\KeepsWalks W1 W')(h0:J [] W):
 CallsIn F n prog 181 #[.func (.yield l) #[] #[],.pointer (some ⟨Bm,ob,none⟩)] W λe W'=>(∃v,e=.returned v)/\∃ss:List bC,ss.Perm (es.toList.map key)/\J ss W':=by
 have hbW:b<W.heap.size:=(A0.1 hb').1;refine callsIn_of_wp func181 rfl hf ?_ hro;simp only[ntmps181,B5,A3,D7,F8,F9,E2,E3,F2,E6,D8,C4]
 gi_wp2_with (first
  |(gi_at_range;refine Ae _ rfl _ _ rfl _ _ underlying144 rfl hb' ?_)
  |gi_in)
 have hg0:W.grownBy (W.alloc (.mapIter (some b) clock #[] clock)) none:=World.grownBy_alloc W _ none;have hr0:(W.alloc (.mapIter (some b) clock #[] clock)).heap[W.heap.size]? =some (.mapIter (some b) clock #[] clock):=heap_alloc_new W _;have hb0:(W.alloc (.mapIter (some b) clock #[] clock)).heap[b]? =some (.map es clock):=(hg0.block b hbW bB).trans hb';have hJ0:=hJ [] W _ none h0 hg0 (A1 _) (λr e=>by cases e);generalize W.alloc (.mapIter (some b) clock #[] clock)=w0 at*;try go_frame
 gi_loopw [3] (λ_ wr=>∃(vs:List MapEntry) (seen:Array Nat) (c0:Nat),wr.heap[W.heap.size]? =some (.mapIter (some b) clock seen c0)/\wr.heap[b]? =some (.map es clock)/\clock<=c0/\MN es vs seen/\J (vs.map key) wr)
  (λ_ wr=>MO es.size W.heap.size wr)
 case atStart=>
  exact⟨[],#[],clock,hr0,hb0,A1 _,⟨bB,bB,bB⟩,hJ0⟩
 case round=>
  obtain⟨vs,seen,c0,hr,hbr,hcc,hC,hJs⟩:=hrel
  gi_wp2_with (first
   |(gi_at_next;refine AX _ rfl _ rfl (Nat.ne_of_gt hbW) rfl hr hbr hborn hcc (A1 _) hC ?_ ?_)
   |gi_in)
  .intro hp
   gi_wp2
   go_end0
   exact⟨⟨_,rfl⟩,vs.map key,hp.map key,hJs⟩
  .intro e w2 he hC2 hr2 hg2 hd2 hen;have hJ2:J (vs.map key) w2:=hJ _ wr w2 (some W.heap.size) hJs hg2 hd2 (λr e=>by cases e;exact⟨A1 _,_,hr,rfl⟩);have hb2:w2.heap[b]? =some (.map es clock):=(hg2.block b (A0.1 hbr).1 (λe=>by injection e with e;omega)).trans hbr;have hsz:=hC2.size hborn;have hvs:seen.size=vs.length:=by have:=congrArg E1 hC.seen;simpa using this
   obtain⟨fn,tmps,assign,body,hy,hR⟩:=hY (vs.map key) (key e) _ hJ2 (by simp at hsz|-;omega);rw[hkey e (by simpa using he)]at hen|-;unfold tX at hen hy|-
   gi_wp2
   refine hR.mono ?_;rintro e' W3 ⟨rfl,hJ3,hk3⟩
   gi_wp2
   have hr4:=hk3.same _ _ hr2 rfl;have hb4:=hk3.same _ _ hb2 rfl
   go_roundw
   case rel=>exact⟨vs++[e],seen.push e.born,clock,hr4,hb4,A1 _,hC2,by simpa using hJ3⟩
   case measure=>rw[GE hr4,GE hr];simp at hsz|-;omega
def aA0(b0:Option Nat)(W0:World)(l:List bC)(ss:List bC)(W:World):Prop:=
 ∃v gb,W.heap[W0.heap.size]? =some (.cells #[v] 44 (0,0))/\uO 1 b0 W0.heap.size W v (l.length+ss.length) ((l++ss).flatMap bC.enc) gb/\gb≠some W0.heap.size/\Gn b0 W0 W/\Cv (l.length*1) b0 W0 W
theorem Vf(h:Option Nat)(f:World)(l:List bC)(m:∀b,h=some b->b<f.heap.size):ZS (f.heap.size+1) (aA0 h f l):=by
 rintro D W C p ⟨v,u,i,q,w,x,y⟩ d A n;have a:∀{k:Nat} {c:Array Value} {e:TypeId},W.heap[k]? =some (.cells c e (0,0))->some k≠p:=λB e=>by
  obtain⟨_,o,s,z⟩:=n _ e.symm;rw[B]at s;cases s;cases z
 refine⟨v,u,(d.block _ (A0.1 i).1 (a i)).trans i,q.kept d ?_,w,x.step d A (λr e=>.inr (by have:=(n r e).1;omega)),y.step d ?_⟩;rcases q.lies with⟨rfl,_⟩|⟨g,t,c,e,rfl,_,_,j,_⟩
 .exact .inl rfl
 .exact .inr (a j)
 .cases j:h with
  |none=>exact .inl rfl
  |some g=>exact .inr λe=>by have:=(n g e.symm).1;have:=m g j;omega
set_option maxRecDepth 100000 in
theorem If(W0:World)(v0:Value)(l:List bC)(b0:Option Nat)(hrow:uO 1 b0 W0.heap.size W0 v0 l.length (l.flatMap bC.enc) b0)(hb0:∀b,b0=some b->b<W0.heap.size){Bm ob b clock:Nat}{es:Array MapEntry}(hm:W0.cell? ⟨Bm,ob,none⟩=some (.map (some b)))(hBm:some Bm≠b0)
 (hb:W0.heap[b]? =some (.map es clock))(hbb:some b≠b0)(hborn:gH es clock)(key:MapEntry->bC)(hkey:∀e∈es.toList,e.key=tX (key e))(hN:(l.length+es.size)*16<=140737488355328):
 Calls prog 260 #[v0,.func (.func 181) #[] #[.pointer (some ⟨Bm,ob,none⟩)]] W0 λe W'=>
  ∃v ss gb,e=.returned v/\List.Perm ss (es.toList.map key)/\uO 1 b0 W0.heap.size W' v (l.length+ss.length) ((l++ss).flatMap bC.enc) gb/\Gn b0 W0 W'/\Cv (l.length*1) b0 W0 W':=by
 refine(callsIn_wide (n:=6)).1 ?_;obtain⟨ba,bn,bc,hv0⟩:∃ba bn bc,v0=.slice ba bn bc:=by
  rcases hrow.lies with⟨_,_,a,rfl⟩|⟨g,cap,cur,e,_,rfl,_⟩
  .exact⟨_,_,_,rfl⟩
  .exact⟨_,_,_,rfl⟩
 subst hv0;have hBml:Bm<W0.heap.size:=World.block_lt_of_cell? W0 _ hm;have hbl:b<W0.heap.size:=(A0.1 hb).1;refine callsIn_of_wp_marks func260 rfl trivial ?_ rfl;simp only[ntmps260,B5,A3,D7,F8,F9,E2,E3,F2,E6,D8,C4]
 gi_wp2
 obtain⟨W1,hW1⟩:∃W1,W0.alloc (.cells #[.slice ba bn bc] 44)=W1:=⟨_,rfl⟩;have hs1:W1.heap.size=W0.heap.size+1:=by rw[<-hW1];simp
 have hg1:W0.grownBy W1 none:=by rw[<-hW1];exact World.grownBy_alloc W0 _ none
 have hd1:W0.drawn<=W1.drawn:=by rw[<-hW1];exact A1 _
 have hv1:W1.heap[W0.heap.size]? =some (.cells #[.slice ba bn bc] 44 (0,0)):=by rw[<-hW1];exact heap_alloc_new W0 _
 rw[hW1];clear hW1;refine vY (enc:=tX) (N:=es.size) (S:=λss=>List.Perm ss (es.toList.map key)) rfl aE rfl trivial (enters_of func181 iY rfl) (aA0 b0 W0 l) (by rw[hs1];exact Vf b0 W0 l hb0)
  ⟨.slice ba bn bc,b0,hv1,by simpa using hrow.kept hg1 (by cases b0<;>simp),λe=>by have:=hb0 _ e;omega,(Gn.refl b0 W0).step hg1 hd1 (λr e=>by cases e),(Cv.refl _ b0 W0).step hg1 (by cases b0<;>simp)⟩ ?_
  (λx a' W=>a'=⟨#[.slice ba bn bc,.func (.func 181) #[] #[.pointer (some ⟨Bm,ob,none⟩)],.pointer (some ⟨W0.heap.size,0,none⟩),undef,.slice none 0 0,.string ⟨x.toArray⟩,.func (.func 181) #[] #[.pointer (some ⟨Bm,ob,none⟩)],tX x,undef,undef,undef,undef,undef],[]⟩) ?_ ?_ ?_ ?_
 .intro l' J W2 hI hsz hJ hY hJ0;obtain⟨v,gb,q1,q2,q3,q4,q6⟩:=hI;exact FK _ 5 trivial rfl aE W2 ((World.cell?_of_block (q4.block Bm hBml hBm)).trans hm) ((q4.block b hbl hbb).trans hb) hborn key hkey l' J hJ hY hJ0
 .exact λx a' s W W' row h _ _ _=>h
 .intro l' pre x W K hI hK;change Code.wpIn (Fence.wide.inRound l') (6-1-1) prog _ _ ⟨#[.slice ba bn bc,.func (.func 181) #[] #[.pointer (some ⟨Bm,ob,none⟩)],.pointer (some ⟨W0.heap.size,0,none⟩),undef,.slice none 0 0,undef,.func (.func 181) #[] #[.pointer (some ⟨Bm,ob,none⟩)],tX x,undef,undef,undef,undef,undef],[]⟩ W;have hK':=hK _ W ⟨rfl,rfl,rfl,A1 _,λ_ _ _=>rfl⟩ (A1 _) rfl;clear hK;unfold tX at hK'|-
  gi_wp2_with gi_round_op_a
  exact hK'
 .rintro l' pre x a' W ⟨v,gb,q1,q2,q3,q4,q6⟩ rfl hlen;obtain⟨hc1,hf1⟩:=cell_of_box_a q1;obtain⟨inf,d,z,i1,i2,i3,i4,i5,i6,i7⟩:=hT.parts (t:=9) (by simp[TK.isNone]);simp at i4 i5 i7;obtain⟨va,vn,vc,hv⟩:∃va vn vc,v=.slice va vn vc:=by
   rcases q2.lies with⟨_,_,a,rfl⟩|⟨g,cap,cur,e,_,rfl,_⟩
   .exact⟨_,_,_,rfl⟩
   .exact⟨_,_,_,rfl⟩
  subst hv;have hWs:W0.heap.size<W.heap.size:=(A0.1 q1).1;have q5:uO 1 b0 W0.heap.size (W.alloc (.cells #[.string ⟨x.toArray⟩] 9)) (.slice va vn vc) (l.length+pre.length) ((l++pre).flatMap bC.enc) gb:=q2.kept (World.grownBy_alloc W _ none) (by cases gb<;>simp);have hnew:∀(j:Nat) (u:Value),[Value.string ⟨x.toArray⟩][j]? =some u->(W.alloc (.cells #[.string ⟨x.toArray⟩] 9)).cell? ⟨W.heap.size,j,none⟩=some u:=λj u hj=>by
   have:=heap_alloc_new W (.cells #[.string ⟨x.toArray⟩] 9);simp only[World.cell?,this];simpa using hj
  gi_wp2_with (first
   |(gi_at_builtin;refine zB _ rfl _ _ 44 rfl underlying44 i1 i6 i4 (by rw[<-Array.length_toList,i7];rfl) bK rfl q5 kD rfl (news:=[.string ⟨x.toArray⟩]) rfl (by simp[Value.oneCell']) hnew (by rw[i5];omega) aE ?_;intro v' W3 g' r1 r2 r3 r4 r5
     have hv3:W3.heap[W0.heap.size]? =some (.cells #[.slice va vn vc] 44 (0,0)):=(r2.block _ kD (λe=>q3 e.symm)).trans ((heap_alloc_old W _ hWs).trans q1);obtain⟨hc3,hf3⟩:=cell_of_box_a hv3;obtain⟨cap',cur',e',rfl,s2,s3,s4,s5,s6,s7⟩:∃cap' cur' e',v'=.slice (some ⟨g',0,none⟩) (l.length+pre.length+1) cap'/\(b0=some g'\/W0.heap.size<=g')/\W3.heap[g']? =some (.cells cur' e' (0,0))/\l.length+pre.length+1<=cap'/\cap'<=maxLen/\cap'*1=cur'.size/\cur'.toList.take ((l.length+pre.length+1)*1)=(l++pre).flatMap bC.enc++[.string ⟨x.toArray⟩]:=by
      rcases r1.lies with⟨h,_⟩|⟨g,cap,cur,e,h,h1,h2,h3,h4,h5,h6,h7⟩
      .cases h
      .injection h with h;subst h;exact⟨cap,cur,e,h1,h2,h3,h4,h5,h6,h7⟩
     go_frame)
   |gi_round_op_a)
  have hg0:W.grownBy (W.alloc (.cells #[.string ⟨x.toArray⟩] 9)) none:=World.grownBy_alloc W _ none;have hd0:W.drawn<=(W.alloc (.cells #[.string ⟨x.toArray⟩] 9)).drawn:=A1 _;have hgb:∀r,gb=some r->(b0=some r\/W0.heap.size<=r)/\∃cur e,W.heap[r]? =some (.cells cur e (0,0)):=λr e=>by
   rcases q2.lies with⟨h,_⟩|⟨g,cap,cur,e',h,_,h2,h3,_⟩
   .rw[h]at e;cases e
   .rw[h]at e;injection e with e;subst e;exact⟨h2,cur,e',h3⟩
  have hgne:g'≠W0.heap.size:=by
   rcases r4 with h|h
   .exact λe=>q3 (by rw[h,e])
   .rw[h];simp;omega
  generalize W.alloc (.cells #[.string ⟨x.toArray⟩] 9)=W2 at*;have hg4:W3.grownBy (W3.setCell ⟨W0.heap.size,0,none⟩ (.slice (some ⟨g',0,none⟩) (l.length+pre.length+1) cap')) (some W0.heap.size):=grownBy_setCell0_a _ _ _;refine⟨⟨C7 hg0.size (C7 r2.size hg4.size),λk o hk ho hcell=>?_⟩,((KeepsWalks.of_grownBy hg0 (λj o e=>by cases e)).trans (KeepsWalks.of_grownBy r2 (λj o e ho=>?_))).trans (KeepsWalks.setCell _ _ _),
   .slice (some ⟨g',0,none⟩) (l.length+pre.length+1) cap',some g',heap_setCell_box_a _ hv3,?_,λe=>hgne (by injection e),((q4.step hg0 hd0 (λr e=>by cases e)).step r2 r3 (λr e=>(hgb r e).1)).step hg4 (A1 _) (λr e=>.inr (by injection e with e;omega)),((q6.step hg0 (by cases b0<;>simp)).write (by rw[Nat.add_mul];omega) r2 r5).step hg4 ?_⟩
  .have h2:=(hg0.block k (A0.1 ho).1 bB).trans ho;have h3:=(r2.block k (A0.1 h2).1 (λe=>by
    obtain⟨_,cur,e',h⟩:=hgb k e.symm;rw[ho]at h;cases h;cases hcell)).trans h2
   exact(hg4.block k (A0.1 h3).1 (λe=>by injection e with e;omega)).trans h3
  .obtain⟨_,cur,e',h⟩:=hgb j e;have h2:=(hg0.block j (A0.1 h).1 bB).trans h;rw[ho]at h2;cases h2;rfl
  .have:=r1.kept hg4 (.inr (λe=>hgne (by injection e)));simpa [bC.enc,tX,B9]using this
  .cases hb:b0 with
   |none=>exact .inl rfl
   |some g=>exact .inr λe=>by injection e with e;have:=hb0 g hb;omega
 .rintro D xs W hD hS ⟨v,gb,q1,q2,q3,q4,q6⟩ hdef;obtain⟨hc1,hf1⟩:=cell_of_box_a q1
  gi_wp2
  refine⟨bB,.inl ⟨_,_,rfl,run_takeDeferred hdef,?_⟩⟩;refine⟨_,results_tmp rfl _ _ _,v,xs,gb,rfl,hS,q2.kept (grownBy_putObj_a _ _ _) ?_,q4.step (grownBy_putObj_a _ _ _) (A1 _) (λr e=>.inr (by injection e with e;omega)),q6.step (grownBy_putObj_a _ _ _) ?_⟩;rcases q2.lies with⟨h,_⟩|⟨g,cap,cur,e',h,_,h2,h3,_⟩
  .exact .inl h
  .refine .inr λe=>?_;rw[h]at e;injection e with e;subst e
   rw[hdef]at h3;cases h3
  .cases hb:b0 with
   |none=>exact .inl rfl
   |some g=>exact .inr λe=>by injection e with e;have:=hb0 g hb;omega
end
section
attribute[local simp] aR bJ bF aO aL aX aP
attribute[local simp] kH.cond Nd.d_eq nd_t nd_dr nd_td ndsD aQ bL vW AU cY.d
theorem RG{ts:List Nd}{a:List cY}{i:Nat}{u:cY}(h:a[i]? =some u):BN ts (a.take (i+1))=if iM ts u=0 then BN ts (a.take i)else jI (BN ts (a.take i)) (iM ts u):=by
 obtain⟨c,b⟩:=B8.1 h;unfold BN;rw[A5 c,F3,b];rfl
theorem MP(a:List Nd)(x:Nd)(J:weighN x<=1000000000)(B:∀t∈a,weighN t<=1000000000):Ok prog 171 [Ac a,x.d] ⟨.d (aI (FI a x)),true⟩:=by
 refine bT func171 rfl ntmps171 results171 λN X f=>?_;have F:=HX x;simp at F;apply aD;simp[Ac];apply aD;simp;apply aD;simp;apply aD;simp[cK,iG,kJ,FR];refine fD (cA 7 [13] (fz:=false) (cs:=[.mp 13]) (ds:=[AW]) bB bB (by simp[AW]) (by simp[bI.mut])) ?_;apply aF;refine dH (og 16 (.plain ⟨.d (.fn 174 [.ro [aI x.kind,.str x.text,aI x.n,.sl (x.kids.map Nd.d)]]),false⟩)) ?_;simp;refine⟨F,?_⟩;apply aW;refine fD (aA f [2,5,6,7,16] [(2,2),(5,5),(6,6),(7,7)] (env':=bA [(2,.bx 2 0),(5,.bx 5 0),(6,.bx 6 0),(7,.bx 7 0),(16,.d (.fn 174 [.ro [aI x.kind,.str x.text,aI x.n,.sl (x.kids.map Nd.d)]]))]) (H':=aK [(2,.box false [.d (ndsD a),.d (.mp (pF a) (pO a.length))]),(5,.box false [.d (aI 0)]),(6,.box false [.fn 248 [.bx 5 0]]),(7,.box false [.d AW])]) bB bB) ?_;refine fF.rangeFunc (items:=(bX x).map AU) (by simpa using BM x J) bB (by intro D d;obtain⟨u,_,rfl⟩:=C2.1 d;rfl) bB iY iY (λi=>aK [(2,.box false [.d (ndsD a),.d (.mp (pF a) (pO a.length))]),(5,.box false [.d (aI (BN a ((bX x).take i)))]),(6,.box false [.fn 248 [.bx 5 0]]),(7,.box false [.d AW])]) (λi=>aK [(2,.box false [.d (ndsD a),.d (.mp (pF a) (pO a.length))]),(5,.box false [.d (aI (BN a ((bX x).take (i+1))))]),(6,.box false [.fn 248 [.bx 5 0]]),(7,.box false [.d AW]),(9,.box false [.d (aI (sI x i).kind),.d (.str (sI x i).name),.d (.str (sI x i).field)])]) (rfl) [2,5,6,7] bK (by simp[f]) (λi id h=>by simpa using oG id h) (λi=>bA [(2,.bx 2 0),(5,.bx 5 0),(6,.bx 6 0),(7,.bx 7 0),(9,.bx 9 0)]) (λi=>aK [(2,.box false [.d (ndsD a),.d (.mp (pF a) (pO a.length))]),(5,.box false [.d (aI (BN a ((bX x).take i)))]),(6,.box false [.fn 248 [.bx 5 0]]),(7,.box false [.d AW]),(9,.box false [.d (aI (sI x i).kind),.d (.str (sI x i).name),.d (.str (sI x i).field)])]) [2,5,6,7,9] (λi id h=>by simpa using oG id h) (λi M=>?_) (λL G i D f d=>?_) (λL G i D f d=>?_) ?_
 .simp
 .obtain⟨u,w,rfl⟩:=eM d;have l:=yN w;apply aJ;simp;exact aA f [2,5,6,7,9] [(2,2),(5,5),(6,6),(7,7),(9,9)] (hH:=by simp[l])
 .obtain⟨u,w,rfl⟩:=eM d;have l:=yN w;obtain⟨o,z⟩:∃o,BN a ((bX x).take i)=o:=⟨_,rfl⟩;have p:pG o:=by rw[<-z];exact RE _ _
  have e:=RG (ts:=a) w;have I:=BO a u;rw[z]at e;simp[l,z];apply aW;apply aD;simp[Id,bM];apply aW;apply bE;simp;refine⟨λH=>?_,λH=>?_⟩
  .have k:iM a u=6:=by unfold iM;cases h:pB a u.name<;>simp_all
   have s:=Ev o 6 p (by simp[pG]);rw[k,if_neg bK]at e;refine bG (og 32 (.gen ⟨[(5,0)],[],[],[(0,.box false [.d (aI (jI o 6))])],.tup []⟩)) ?_;simp;refine⟨by simpa using s,?_⟩;exact aA f [] [(2,2),(5,5),(6,6),(7,7),(9,9)] (hH:=by simp[l,e])
  .obtain⟨j,q⟩:∃j,pB a u.name=some j:=by cases h:pB a u.name<;>simp_all
   have c:=wH q;obtain⟨t,r⟩:∃t,a[j]=t:=⟨_,rfl⟩;have A:t∈a:=by rw[<-r];exact A2 c
   have g:Xy a u.name=(j:Nat):=by unfold Xy;rw[q];rfl
   have b:a.getD j default=t:=(by rw[A4,A6 c,r];rfl);apply aF;refine fF.rd [] [] (λ_=>none) ?_;simp[g,c,r];apply aM;simp;refine⟨λC=>?_,λC=>?_⟩
   .have k:iM a u=12:=by unfold iM;rw[q];simp only[b];rw[if_pos C]
    have s:=Ev o 12 p (by simp[pG]);rw[k,if_neg bK]at e;refine bG (og 45 (.gen ⟨[(5,0)],[],[],[(0,.box false [.d (aI (jI o 12))])],.tup []⟩)) ?_;simp;refine⟨by simpa using s,?_⟩;exact aA f [] [(2,2),(5,5),(6,6),(7,7),(9,9)] (hH:=by simp[l,e])
   .have n:t.kind=u.kind:=aE;apply aF;by_cases v:u.kind=1
    rotate_left
    .refine fF.rd [[],[],[],[],[],[],[],[],[],[],[56],[56]] [[],[],[],[],[],[],[],[],[],[56],[],[],[59]] (λ_=>none) ?_;simp[g,c,r,v];have k:iM a u=0:=by unfold iM;rw[q];simp only[b];rw[if_neg (by simp[n]),if_neg (by simp[v])]
     rw[k,if_pos rfl]at e;apply aM;simp[g,c,r,v];apply aG;simp;exact aA f [] [(2,2),(5,5),(6,6),(7,7),(9,9)] (hH:=by simp[l,e])
    .have E:=GC t (B t A);have K:=JJ (cR t) u.field;simp at E;refine fF.rd [[],[],[],[],[],[],[],[],[],[],[56],[56]] [[],[],[],[],[],[],[],[],[],[56],[],[],[59]] (λ|56=>some<| .plain ⟨.own 1 ((cR t).map .str),true⟩|59=>some<| .plain ⟨.d (.bool (decide (u.field∈cR t))),true⟩|_=>none) ?_;simp[g,c,r,v];refine⟨⟨E,by simpa using K⟩,?_⟩;apply aM;simp;refine⟨λy=>?_,λy=>?_⟩
     .have k:iM a u= -1:=by unfold iM;rw[q];simp only[b];rw[if_neg (by simp[n]),if_pos (by simp_all)]
      have s:=Ev o (-1) p (by simp[pG]);rw[k,if_neg bK]at e;refine bG (og 64 (.gen ⟨[(5,0)],[],[],[(0,.box false [.d (aI (jI o (-1)))])],.tup []⟩)) ?_;simp;refine⟨by simpa using s,?_⟩;exact aA f [] [(2,2),(5,5),(6,6),(7,7),(9,9)] (hH:=by simp[l,e])
     .have k:iM a u=0:=by unfold iM;rw[q];simp only[b];rw[if_neg (by simp[n]),if_neg (by simp_all)]
      rw[k,if_pos rfl]at e;apply aG;simp;exact aA f [] [(2,2),(5,5),(6,6),(7,7),(9,9)] (hH:=by simp[l,e])
 .apply aF;apply bE;simp;refine⟨λm=>?_,λm=>?_⟩
  .apply aD;simp;apply aH;unfold FI;rw[if_pos m];simp
  .apply aG;simp;apply aD;simp;apply aH;unfold FI;rw[if_neg m];simp
def kF(ts:List Nd)(b:Int->Bool)(f:Nat->List Nat->List Nat)(M:List Nat)(u:cY):List Nat:=match pB ts u.name with
 |some k=>if b u.bk=true/\k∉M then f k (M++[k])else M
 |none=>M
def gS(ts:List Nd)(b:Int->Bool):Nat->Nat->List Nat->List Nat
 |0,_,M=>M
 |f+1,i,M=>(bX (ts.getD i default)).foldl (kF ts b (gS ts b f)) M
theorem BP(a:List Nd)(b:Int->Bool)(f i:Nat)(M:List Nat):gS a b (f+1) i M=(bX (a.getD i default)).foldl (kF a b (gS a b f)) M:=rfl
def RH(n:Nat)(M:List Nat):Nat:=((E8 n).filter λk=>decide (k∉M)).length
theorem Vg{n:Nat}{M a:List Nat}(h:∀k∈M,k∈a):RH n a<=RH n M:=by
 unfold RH;have:(E8 n).filter (λk=>decide (k∉a))=((E8 n).filter (λk=>decide (k∉M))).filter λk=>decide (k∉a):=by
  rw[F1];congr 1;funext k;by_cases b:k∈a
  .simp[b]
  .have:k∉M:=λc=>b (h k c);simp[b,this]
 rw[this];exact B4 _ _
theorem Af{α:Type}{p q:α->Bool}:∀{l:List α} {x:α},(∀y,q y=true->p y=true)->x∈l->p x=true->q x=false->(l.filter q).length<(l.filter p).length
 |a::l,x,hpq,d,hp,hq=>by
  have f:(l.filter q).length<=(l.filter p).length:=by
   have:l.filter q=(l.filter p).filter q:=by
    rw[F1];congr 1;funext y;cases h:q y with
    |true=>simp[hpq y h]
    |false=>simp
   rw[this];exact B4 _ _
  rcases A7.1 d with rfl|d
  .rw[B0 hp,B1 (by simp[hq])];simp only[A3];omega
  .have e:=Af hpq d hp hq;by_cases b:p a=true
   .by_cases c:q a=true
    .rw[B0 b,B0 c];simpa using e
    .rw[B0 b,B1 c];simp only[A3];omega
   .have c:¬q a=true:=λh=>b (hpq a h);rw[B1 b,B1 c];exact e
theorem Vh{n:Nat}{M:List Nat}{k:Nat}(b:k<n)(h:k∉M):RH n (M++[k])<RH n M:=by
 unfold RH;exact Af (x:=k) (λy a=>by simp at a|-;exact a.1) (List.mem_range.2 b) (by simpa using h) bB
theorem rN{α:Type}{f:List Nat->α->List Nat}(h:∀M x k,k∈M->k∈f M x):∀(l:List α) (M:List Nat),∀k∈M,k∈l.foldl f M
 |[],_,_,hk=>hk
 |x::l,M,k,hk=>rN h l (f M x) k (h M x k hk)
theorem Ag(c:List Nd)(b:Int->Bool):∀(f i:Nat) (M:List Nat),∀k∈M,k∈gS c b f i M
 |0,_,_,_,a=>a
 |f+1,i,M,k,a=>by
  refine rN (λM u k a=>?_) _ M k a;unfold kF;split
  .split
   .exact Ag c b f _ _ k (E4 _ a)
   .exact a
  .exact a
theorem Ah(c:List Nd)(b:Int->Bool)(f:Nat)(M:List Nat)(u:cY):∀k∈M,k∈kF c b (gS c b f) M u:=λk a=>by
 unfold kF;split
 .split
  .exact Ag c b f _ _ k (E4 _ a)
  .exact a
 .exact a
def AY(M:List Nat):List DV:=M.map λ(k:Nat)=>aI (k:Int)
def FL(M:List Nat):List DV:=M.map λ_=>.bool true
theorem BQ(k:Nat):∀(M:List Nat) (i:Nat),iG (aI (k:Int)) (AY M) i=some ((M.findIdx? (λx=>decide (k=x))).map (·+i))
 |[],i=>rfl
 |x::r,i=>by
  have e:kJ (aI (k:Int)) (aI (x:Int))=some (decide (k=x)):=by
   simp only[kJ,FR,Option.some.injEq];by_cases h:k=x
   .simp[h]
   .have:¬((k:Int)=x):=aE;simp[h,this]
  unfold AY;rw[E7,iG,e,E9];by_cases h:k=x
  .simp[h]
  .simp only[h,decide_false,F0,if_false];have:=BQ k r (i+1);unfold AY at this;rw[this];cases r.findIdx? (λx=>decide (k=x))with
   |none=>rfl
   |some j=>simp;omega
theorem Ez{M:List Nat}{m:Nat}(h:m∉M):(M.findIdx? λx=>decide (m=x))=none:=by
 rw[D1];intro x a;simp;intro e;subst e;exact h a
theorem MQ{M:List Nat}{m:Nat}(h:m∈M):∃j,(M.findIdx? λx=>decide (m=x))=some j/\j<M.length:=by
 cases q:(M.findIdx? λx=>decide (m=x))with
 |none=>rw[D1]at q;have:=q m h;simp at this
 |some j=>exact⟨j,rfl,(A8.1 q).1⟩
theorem JQ(M:List Nat){H:dR}{x:LV}{k:Nat}(h:sM H x=some (AY M,FL M)):
 dB T H 155 x (.d (aI (k:Int))) false=⟨.d (.bool (decide (k∈M))),True,[]⟩:=by
 unfold dB;simp only[aAR,h,BQ];by_cases a:k∈M
 .obtain⟨j,b,c⟩:=MQ a;simp[b,c,a,sL,bU,gI,FL]
 .simp[Ez a,a,sL,bU,gI,lB,uY,TK.isNone,TK.agg]
theorem Yi(M:List Nat){H:dR}{id:Nat}{k:Nat}(a:k∉M)(h:H id=.map false (AY M) (FL M)):
 cK T H 155 (.mp id) (.d (aI (k:Int))) (.d (.bool true))=⟨.junk,True,[(id,.map false (AY (M++[k])) (FL (M++[k])))]⟩:=by
 unfold cK;simp only[aAR,h,BQ,Ez a];simp[sL,bU,gI,AY,FL]
def CW(ts:List Nd)(g:FuncId)(M:List Nat):List (Nat×bI):=[(1,.box false [.d (ndsD ts),.d (.mp (pF ts) (pO ts.length))]),(2,.box false [.d (.fn g [])]),(3,.box false [.mp 100]),(4,.box false [.fn 182 [.bx 1 0,.bx 2 0,.bx 3 0,.bx 4 0]]),(100,.map false (AY M) (FL M))]
theorem Vi(a:List Nd)(b:Int->Bool)(g:FuncId)(f p:Nat)(M:List Nat)(F:∀t∈a,weighN t<=1000000000)(C:∀k,Ok prog g [aI k] ⟨.d (.bool (b k)),true⟩)(m:p<a.length)(U:RH a.length M<f+1)(Z:∀k z,k<a.length->RH a.length z<f->mE prog 182 [.d (aI (k:Int)),.bx 1 0,.bx 2 0,.bx 3 0,.bx 4 0] (CW a g z) (CW a g (gS a b f k z)) (.tup [])):mE prog 182 [.d (aI (p:Int)),.bx 1 0,.bx 2 0,.bx 3 0,.bx 4 0] (CW a g M) (CW a g (gS a b (f+1) p M)) (.tup []):=by
 unfold CW at*;refine pD func182 rfl ntmps182 results182 λw0 X e=>?_;obtain⟨x,G⟩:∃x,a[p]=x:=⟨_,rfl⟩;have I:x∈a:=by rw[<-G];exact A2 m
 have r:a.getD p default=x:=by rw[A4,A6 m,G];rfl
 have J:=F x I;have P:gS a b (f+1) p M=(bX x).foldl (kF a b (gS a b f)) M:=by rw[BP,r]
 have N:=HX x;simp at N;refine dH (og 15 (.plain ⟨.d (.fn 174 [.ro [aI x.kind,.str x.text,aI x.n,.sl (x.kids.map Nd.d)]]),false⟩)) ?_;simp[m,G];refine⟨N,?_⟩;apply aW;refine fD (aA e [1,2,3,4,15] [(1,1),(2,2),(3,3),(4,4),(100,100)] (env':=bA [(1,.bx 1 0),(2,.bx 2 0),(3,.bx 3 0),(4,.bx 4 0),(15,.d (.fn 174 [.ro [aI x.kind,.str x.text,aI x.n,.sl (x.kids.map Nd.d)]]))]) (H':=aK [(1,.box false [.d (ndsD a),.d (.mp (pF a) (pO a.length))]),(2,.box false [.d (.fn g [])]),(3,.box false [.mp 100]),(4,.box false [.fn 182 [.bx 1 0,.bx 2 0,.bx 3 0,.bx 4 0]]),(100,.map false (AY M) (FL M))]) bB bB) ?_;refine fF.rangeFunc (items:=(bX x).map AU) (by simpa using BM x J) bB (by intro L c;obtain⟨u,_,rfl⟩:=C2.1 c;rfl) bB iY iY (λi=>aK [(1,.box false [.d (ndsD a),.d (.mp (pF a) (pO a.length))]),(2,.box false [.d (.fn g [])]),(3,.box false [.mp 100]),(4,.box false [.fn 182 [.bx 1 0,.bx 2 0,.bx 3 0,.bx 4 0]]),(100,.map false (AY (((bX x).take i).foldl (kF a b (gS a b f)) M)) (FL (((bX x).take i).foldl (kF a b (gS a b f)) M)))]) (λi=>aK [(1,.box false [.d (ndsD a),.d (.mp (pF a) (pO a.length))]),(2,.box false [.d (.fn g [])]),(3,.box false [.mp 100]),(4,.box false [.fn 182 [.bx 1 0,.bx 2 0,.bx 3 0,.bx 4 0]]),(7,.box false [.d (aI (sI x i).kind),.d (.str (sI x i).name),.d (.str (sI x i).field)]),(100,.map false (AY (((bX x).take (i+1)).foldl (kF a b (gS a b f)) M)) (FL (((bX x).take (i+1)).foldl (kF a b (gS a b f)) M)))]) (rfl) [1,2,3,4,100] bK (by simp[e]) (λi id h=>by simpa using oG id h) (λi=>bA [(1,.bx 1 0),(2,.bx 2 0),(3,.bx 3 0),(4,.bx 4 0),(6,.d (aI (sI x i).bk)),(7,.bx 7 0)]) (λi=>aK [(1,.box false [.d (ndsD a),.d (.mp (pF a) (pO a.length))]),(2,.box false [.d (.fn g [])]),(3,.box false [.mp 100]),(4,.box false [.fn 182 [.bx 1 0,.bx 2 0,.bx 3 0,.bx 4 0]]),(7,.box false [.d (aI (sI x i).kind),.d (.str (sI x i).name),.d (.str (sI x i).field)]),(100,.map false (AY (((bX x).take i).foldl (kF a b (gS a b f)) M)) (FL (((bX x).take i).foldl (kF a b (gS a b f)) M)))]) [1,2,3,4,7,100] (λi id h=>by simpa using oG id h) (λi K=>?_) (λw1 O i L e c=>?_) (λw1 O i L e c=>?_) ?_
 .simp
 .obtain⟨u,y,rfl⟩:=eM c;have l:=yN y;apply aD;simp;apply aJ;simp;exact aA e [1,2,3,4,6,7] [(1,1),(2,2),(3,3),(4,4),(7,7),(100,100)] (by simp[l]) (by simp[l])
 .obtain⟨u,y,rfl⟩:=eM c;have l:=yN y;obtain⟨o,D⟩:∃o,((bX x).take i).foldl (kF a b (gS a b f)) M=o:=⟨_,rfl⟩;have E:((bX x).take (i+1)).foldl (kF a b (gS a b f)) M=kF a b (gS a b f) o u:=by
   obtain⟨K,S⟩:=B8.1 y;rw[A5 K,F3,S,D];rfl
  have Y:RH a.length o<f+1:=by
   refine Nat.lt_of_le_of_lt (Vg λk V=>?_) U;rw[<-D];exact rN (Ah a b f) _ M k V
  simp[l,D];apply aW;apply aD;simp[Id,bM];apply aF;by_cases v:(pB a u.name).isSome=true
  rotate_left
  .refine AC hT hW (λ_=>none) (by intro d;first|exact⟨rfl,λ_ h=>h⟩|(split<;>exact⟨rfl,λ_ h=>h⟩)) ?_;simp[v];have q:kF a b (gS a b f) o u=o:=by unfold kF;rw[show pB a u.name=none by simpa using v]
   apply aM;simp[v];apply aG;simp;exact aA e [] [(1,1),(2,2),(3,3),(4,4),(7,7),(100,100)] (hH:=by simp[l,E,q])
  .obtain⟨j,w⟩:∃j,pB a u.name=some j:=by cases h:pB a u.name<;>simp_all
   have s:=wH w;have B:Xy a u.name=(j:Nat):=by unfold Xy;rw[w];rfl
   have kb:=C u.bk;have W:=λ(H:dR) (h:sM H (.mp 100)=some (AY o,FL o))=>JQ o (k:=j) h;refine bG (og 30 (.plain ⟨.d (.bool (b u.bk)),true⟩)) ?_;simp[v,B,W,sM];refine⟨kb,?_⟩;apply aM;simp;refine⟨λA n=>?_,λA=>?_⟩
   .have q:kF a b (gS a b f) o u=gS a b f j (o++[j]):=by unfold kF;rw[w];exact if_pos ⟨A,n⟩
    apply aD;simp[Yi o n];refine bG (og 42 (.gen ⟨[(1,1),(2,2),(3,3),(4,4),(100,100)],[],[],CW a g (gS a b f j (o++[j])),.tup []⟩)) ?_;simp[CW];have Q:=Z j (o++[j]) s (by have:=Vh s n;omega);refine⟨by simpa using Q,?_⟩;exact aA e [] [(1,1),(2,2),(3,3),(4,4),(7,7),(100,100)] (hH:=by simp[l,E,q])
   .have q:kF a b (gS a b f) o u=o:=by unfold kF;rw[w];exact if_neg (by simpa using A)
    apply aG;simp;exact aA e [] [(1,1),(2,2),(3,3),(4,4),(7,7),(100,100)] (hH:=by simp[l,E,q])
 .simp;exact aA e [] [(1,1),(2,2),(3,3),(4,4),(100,100)] (hH:=by simp[P])
theorem Vj(a:List Nd)(b:Int->Bool)(g:FuncId)(d:∀t∈a,weighN t<=1000000000)(c:∀k,Ok prog g [aI k] ⟨.d (.bool (b k)),true⟩):∀(f k:Nat) (M:List Nat),k<a.length->RH a.length M<f->mE prog 182 [.d (aI (k:Int)),.bx 1 0,.bx 2 0,.bx 3 0,.bx 4 0] (CW a g M) (CW a g (gS a b f k M)) (.tup [])
 |0,_,_,_,h=>absurd h (D5 _)
 |f+1,k,M,hk,h=>Vi a b g f k M d c hk h λl i e j=>Vj a b g d c f l i e j
def jJ(ts:List Nd)(b:Int->Bool)(i:Nat):List Nat:=gS ts b (ts.length+1) i []
theorem EA(a:List Nd)(b:Int->Bool)(g:FuncId)(i:Nat)(d:∀t∈a,weighN t<=1000000000)(c:∀k,Ok prog g [aI k] ⟨.d (.bool (b k)),true⟩)(e:i<a.length):Ok prog 104 [Ac a,aI (i:Int),.fn g []] ⟨.d (.mp (AY (jJ a b i)) (FL (jJ a b i))),false⟩:=by
 refine bT func104 rfl ntmps104 results104 λh X f=>?_;apply aD;simp[Ac];apply aD;simp;apply aD;simp;apply aD;simp;refine dH (og 13 (.gen ⟨[(3,1),(5,2),(7,3),(8,4),(9,100)],[],[],CW a g (jJ a b i),.tup []⟩)) ?_;simp[CW];refine⟨by simpa [CW,jJ,AY,FL]using Vj a b g d c (a.length+1) i [] e (Nat.lt_succ_of_le (C7 (B4 _ _) bB)),?_⟩;apply aD;simp;apply aH;simp
theorem RI(k:Int):Ok prog 172 [aI k] ⟨.d (.bool (decide (k=14))),true⟩:=by
 refine bT func172 rfl ntmps172 results172 λb X a=>?_;apply aD;simp;apply aD;simp;apply aH;simp
theorem RJ(k:Int):Ok prog 105 [aI k] ⟨.d (.bool true),true⟩:=by
 refine bT func105 rfl ntmps105 results105 λb X a=>?_;apply aD;simp;apply aD;simp;apply aH;simp
end
def eV{α:Type}[DecidableEq α]:List α->List α
 |a::b::r=>if a=b then eV (b::r)else a::eV (b::r)
 |l=>l
theorem EB{α:Type}[DecidableEq α]:∀(l:List α) (x:α) (h:l≠[]),eV (l++[x])=if l.getLast h=x then eV l else eV l++[x]
 |[a],x,_=>by
  simp only[C4,D8,eV,List.getLast_singleton];split<;>rename_i e<;>simp[e]
 |a::b::r,x,_=>by
  have d:=EB (b::r) x bB;have f:(a::b::r).getLast bB=(b::r).getLast bB:=bB;rw[f];simp only[C4]at d|-;simp only[eV];rw[d];by_cases c:a=b
  .simp only[if_pos c]
  .simp only[if_neg c];split<;>rfl
theorem RK{α:Type}{l:List α}{p:Nat}(c:0<p)(b:p<=l.length)(a:l.take p≠[]):(l.take p).getLast a=l[p-1]:=by
 rw[List.getLast_eq_getElem];simp[Nat.min_eq_left b]
theorem tZ{α:Type}[DecidableEq α]{l:List α}{p:Nat}(b:0<p)(d:p<l.length):eV (l.take (p+1))=if l[p-1]=l[p]then eV (l.take p)else eV (l.take p)++[l[p]]:=by
 have a:l.take p≠[]:=λe=>by have:=congrArg E1 e;rw[D2,D7]at this;omega
 have c:l.take (p+1)=l.take p++[l[p]]:=bB;rw[c,EB _ _ a,RK b aE]
theorem uA{α:Type}[DecidableEq α]:∀l:List α,(eV l).length<=l.length
 |a::b::r=>by
  have:=uA (b::r);simp only[eV];split
  .simp at*;omega
  .simp at*;omega
 |[]=>A1 _
 |[_]=>A1 _
theorem GF{α:Type}[DecidableEq α]{x:α}:∀l:List α,x∈eV l↔x∈l
 |a::b::r=>by
  have:=GF (x:=x) (b::r);simp only[eV];split
  .rename_i e;rw[this];subst e;simp
  .rw[A7,this];simp
 |[]=>Iff.rfl
 |[_]=>Iff.rfl
def fK{α:Type}(lt:α->α->Bool)(l:List α):Prop:=l.Pairwise λa b=>lt a b=true
structure STO{α:Type}(lt:α->α->Bool):Prop where
 irrefl:∀a,lt a a=false
 trans:∀a b c,lt a b=true->lt b c=true->lt a c=true
 total:∀a b,lt a b=false->lt b a=false->a=b
theorem STO.asym{α:Type}{c:α->α->Bool}(O:STO c){a b:α}(h:c a b=true):c b a=false:=by
 cases q:c b a with
 |false=>rfl
 |true=>have:=O.trans a b a h q;rw[O.irrefl]at this;cases this
theorem qB{α:Type}{n:α->α->Bool}(O:STO n):∀{l m:List α},fK n l->fK n m->(∀x,x∈l↔x∈m)->l=m
 |[],[],_,_,_=>rfl
 |[],b::m,_,_,h=>by have:=(h b).2 bB;cases this
 |a::l,[],_,_,h=>by have:=(h a).1 bB;cases this
 |a::l,b::m,hl,hm,h=>by
  have c:=B2.1 hl;have d:=B2.1 hm;have k:a=b:=by
   have f:=(h a).1 bB;have g:=(h b).2 bB;rcases A7.1 f with f|f
   .exact f
   .rcases A7.1 g with g|g
    .exact g.symm
    .have:=O.asym (c.1 b g);rw[d.1 a f]at this;cases this
  subst k;rw[qB O c.2 d.2 λx=>?_];constructor
  .intro i;rcases A7.1 ((h x).1 (by simp[i]))with e|j
   .subst e;have:=c.1 x i;rw[O.irrefl]at this;cases this
   .exact j
  .intro i;rcases A7.1 ((h x).2 (by simp[i]))with e|j
   .subst e;have:=d.1 x i;rw[O.irrefl]at this;cases this
   .exact j
theorem pQ{α:Type}[DecidableEq α]{d:α->α->Bool}(O:STO d):∀{l:List α},l.Pairwise (λa b=>d b a=false)->fK d (eV l)
 |[],_=>.nil
 |[_],_=>List.pairwise_singleton _ _
 |a::b::r,h=>by
  have f:=B2.1 h;have i:=pQ O f.2;simp only[eV];split
  .exact i
  .rename_i g;refine B2.2 ⟨λx e=>?_,i⟩;have e:=(GF _).1 e;have j:=f.1 b bB;have c:d a b=true:=by
    cases q:d a b with
    |true=>rfl
    |false=>exact absurd (O.total a b q j) g
   rcases A7.1 e with rfl|e
   .exact c
   .have k:=(B2.1 f.2).1 x e;cases q:d b x with
    |true=>exact O.trans _ _ _ c q
    |false=>have:=O.total b x q k;subst this;exact c
theorem RL{α:Type}{k:Nat}{x y:α}{out:List α}:y∈iW k x out↔y=x\/y∈out:=by
 unfold iW;rw[C5,A7]
 conv=>rhs;rw[<-D9 k out,C5]
 constructor
 .rintro(h|h|h)<;>simp[h]
 .rintro(h|h|h)<;>simp[h]
theorem BR{α:Type}{p:α->Bool}{out:List α}:∀k,k<=out.length->(∀i (h:i<out.length),mR p out k<=i->i<k->p out[i]=true)/\(∀i (h:i<out.length),mR p out k=i+1->p out[i]=false)
 |0,_=>⟨λi _ _ h=>aE,λi _ h=>by simp[mR]at h⟩
 |k+1,hk=>by
  have c:k<out.length:=aE;obtain⟨d,f⟩:=BR k aE (p:=p) (out:=out);cases q:p out[k]with
  |true=>
   rw[AK c q];refine⟨λi a b g=>?_,f⟩;by_cases e:i=k
   .subst e;exact q
   .exact d i a b aE
  |false=>
   have:mR p out (k+1)=k+1:=sU λi e a=>by
    have:i=k:=aE;subst this;exact q
   rw[this];exact⟨λi _ d f=>aE,λi a e=>by
    have:i=k:=aE;subst this;exact q⟩
section
attribute[local simp] aR bJ bF aO aL aX aP
attribute[local simp] kH.cond Nd.d_eq nd_t nd_dr nd_td ndsD
theorem RM{l:List bC}:eV (l.take 1)=l.take 1:=by cases l<;>simp[eV]
theorem CB{l:List bC}(h:l.length<2):eV l=l:=by
 match l,h with
 |[],_=>rfl
 |[_],_=>rfl
theorem JR{α:Type}{a b:List α}{p i:Nat}(h:a.drop p=b.drop p)(f:p<=i)(d:i<a.length)(e:i<b.length):a[i]=b[i]:=by
 have c:=congrArg (·[i-p]?) h;simp only[List.getElem?_drop,show p+(i-p)=i by omega,A6 d,A6 e]at c;exact Option.some.inj c
theorem JS(l:List bC)(d:l.length<=1000000000000):Ok prog 247 [qO l] ⟨.own 1 (l.map .str),true⟩:=by
 refine bT func247 rfl ntmps247 results247 λf X e=>?_;apply aD;simp;apply fE;refine Ei hT hW 4 (decide (l=[])) (λ_=>none) (λ_=>⟨rfl,λ_ h=>h⟩) iY λc a=>?_;simp;apply aM;simp;refine⟨λb=>?_,λb=>?_⟩
 .apply aD;simp;apply aH;have:=a b;simp at this;simp[this]
 .apply aG;simp;apply aD;simp;refine⟨aE,?_⟩;apply aH;simp
theorem FM(l:List bC)(E:l.length<=8000000000000):mE prog 246 [.ow 0 0 l.length] [(0,.row false 1 (l.map .str))] [(0,.row false 1 ((eV l).map .str++List.replicate (l.length-(eV l).length) (.str [])))] (.ow 0 0 (eV l).length):=by
 refine nL func246 rfl ntmps246 results246 λF X b=>?_;apply aD;simp;apply aF;apply bE;simp;refine⟨λB=>?_,λB=>?_⟩
 .apply aD;simp;apply aH;simp;refine aA b [2] [(0,0)] ?_ ?_
  .simp[CB (by omega:l.length<2)]
  .simp[CB (by omega:l.length<2)]
 .apply aG;simp;apply eP;simp;apply aW;refine aZ (ι:=Nat) (λk=>bA [(0,.ow 0 0 l.length),(3,.d (aI k))]) (λk=>aK [(0,.row false 1 (l.map .str))]) (λk=>1<=k/\k<=l.length/\eV (l.take k)=l.take k) (λk=>l.length-k) 1 (aA b [0,3] [(0,0)]) (⟨aE,aE,RM⟩) λk d=>?_;apply aF;apply bE;simp;refine⟨λi=>?_,λi=>?_⟩
  .apply aG;simp;apply eG;apply aF;refine fF.rd [] [] (λ_=>none) ?_;simp[(show((k:Int)- 1).toNat=k-1 by omega),i,(show k-1<l.length by omega)];refine⟨aE,?_⟩;apply aM;simp;refine⟨λs=>?_,λs=>?_⟩
   .apply aD;simp;refine⟨aE,?_⟩;apply eP;simp;apply aW;refine aZ (ι:=Nat×Nat×List bC) (λ⟨q,a,r⟩=>bA [(0,.ow 0 0 l.length),(3,.d (aI a)),(4,.ow 0 k (l.length-k)),(5,.d (aI q))]) (λ⟨q,a,r⟩=>aK [(0,.row false 1 (r.map .str))]) (λ⟨q,a,r⟩=>1<=q/\k+q<=l.length/\1<=a/\a+1<=k+q/\r.length=l.length/\r.take a=eV (l.take (k+q))/\r.drop (k+q-1)=l.drop (k+q-1)) (λ⟨q,a,r⟩=>l.length-k-q) (1,k,l) (aA b [0,3,4,5] [(0,0)]) (⟨aE,aE,aE,aE,rfl,by rw[tZ aE i,if_pos s.symm,d.2.2],rfl⟩) λ⟨q,a,r⟩ j=>?_;apply aF;apply bE;simp;refine⟨λC=>?_,λC=>?_⟩
    .apply aG;simp;apply eG;apply aF;obtain⟨x,y,z,A,p,f,g⟩:=j;have n:k+q<l.length:=aE;have u:r[k+q]'aE=l[k+q]:=JR g aE aE n;have v:r[k+(q-1)]'aE=l[k+(q-1)]:=JR g aE aE aE;refine fF.rd [] [] (λ_=>none) ?_;simp[(show((q:Int)- 1).toNat=q-1 by omega),(show k+q<r.length by omega),(show k+(q-1)<r.length by omega),u,v];refine⟨aE,?_⟩;apply aM;simp;refine⟨λc=>?_,λc=>?_⟩
     .apply aD;simp[(show k+q<r.length by omega),u];refine⟨aE,?_⟩;apply aJ;simp;refine⟨aE,?_⟩;apply aJ;simp;refine⟨aE,?_⟩;refine On.mk (q+1,a+1,r.set a l[k+q]) (aA b [0,3,4,5] [(0,0)]) ?_ ?_
      .have t:a<r.length:=aE;have o:¬l[k+q-1]=l[k+q]:=λe=>c (by rw[<-e];congr 1;omega);dsimp only;refine⟨aE,aE,aE,aE,by simp[p],?_,?_⟩
       .rw[A5 (by simpa using t),List.getElem_set_self,List.take_set_of_le aE,f,<-B9,tZ aE n,if_neg o]
       .have h:=congrArg (G0 1) g;rw[B6,B6,show k+q-1+1=k+q by omega]at h;rw[show k+(q+1)- 1=k+q by omega,List.drop_set_of_lt aE,h]
      .omega
     .apply aG;simp;apply aJ;simp;refine⟨aE,?_⟩;refine On.mk (q+1,a,r) (aA b [0,3,4,5] [(0,0)]) ?_ ?_
      .have o:l[k+q-1]=l[k+q]:=by rw[c];congr 1;omega
       dsimp only;refine⟨aE,aE,aE,aE,p,?_,?_⟩
       .rw[f,<-B9,tZ aE n,if_pos o]
       .have h:=congrArg (G0 1) g;rw[B6,B6,show k+q-1+1=k+q by omega]at h;rw[show k+(q+1)- 1=k+q by omega,h]
      .omega
    .apply bP;simp;apply aD;simp;refine⟨aE,?_⟩;apply aD;simp;refine⟨aE,?_⟩;apply aH;simp;obtain⟨x,y,z,A,p,f,g⟩:=j;have n:k+q=l.length:=aE;rw[n,B7]at f;have m:(eV l).length=a:=by rw[<-f];simp;omega
     refine aA b [2] [(0,0)] ?_ ?_
     .simp[m]
     .have D:G0 (a+(l.length-a)) (List.map DV.str r)=[]:=C3 kD;simp;rw[D,m,<-f,List.map_take,List.append_nil]
   .apply aG;simp;apply aJ;simp;refine⟨aE,?_⟩;refine On.mk (k+1) (aA b [0,3] [(0,0)]) ?_ ?_
    .have w:¬l[k-1]=l[k]:=λe=>s e.symm;exact⟨aE,i,by rw[tZ aE i,if_neg w,d.2.2];simp⟩
    .omega
  .apply bP;simp;apply aD;simp;apply aH;simp;have q:k=l.length:=aE;have e:=d.2.2;rw[q,B7]at e;refine aA b [2] [(0,0)] ?_ ?_
   .simp[e]
   .simp[e]
end
section
attribute[local simp] aR bJ bF aO aL aX aP
attribute[local simp] kH.cond Nd.d_eq nd_t nd_dr nd_td ndsD aQ
theorem zK(s t:bC)(a:s.length<=9223372036854775807)(c:t.length<=9223372036854775807):Ok prog 282 [.str s,.str t] ⟨.d (.bool (decide (s.take t.length=t))),true⟩:=by
 refine bT func282 rfl ntmps282 results282 λd X b=>?_;apply aD;simp;apply aD;simp;apply aH;simp;rw[Bool.beq_eq_decide_eq,Bool.eq_iff_iff];simp only[Bool.and_eq_true,decide_eq_true_eq];refine⟨λh=>h.2,λh=>⟨?_,h⟩⟩;have e:=congrArg E1 h;rw[D2]at e;omega
theorem pR(s t:bC)(a:s.length<=9223372036854775807)(b:t.length<=9223372036854775807):Ok prog 232 [.str s,.str t] ⟨.d (.bool (decide (s.take t.length=t))),true⟩:=by
 refine bT func232 rfl ntmps232 results232 λd X c=>?_;apply aD;simp;apply aF;have h:=zK s t a b;refine bG (og 7 (.plain ⟨.d (.bool (decide (s.take t.length=t))),true⟩)) ?_;simp;refine⟨h,?_⟩;apply aH;simp
theorem CX(s:bC)(c:UInt8):Ok prog 233 [.str s,.int .u8 (c.toNat:Int)] ⟨.d (aI (uT c s)),true⟩:=by
 refine bT func233 rfl ntmps233 results233 λb X a=>?_;apply aD;simp;apply aF;have h:=AS s c;refine bG (og 7 (.plain ⟨.d (aI (uT c s)),true⟩)) ?_;simp;refine⟨h,?_⟩;apply aH;simp
theorem mI(c:UInt8)(r:bC):nextN (c::r)=if letterB c then wordN (c::r)else if c=36 then(if 0<wordN r then wordN r+1 else 0)
 else if digitB c then(if runP digitB (c::r)<=3 then runP digitB (c::r)else 0)
 else if(c::r).take 2=[60,61]\/(c::r).take 2=[61,61]then 2 else if c∈signs then 1 else 0:=rfl
theorem RN{c:UInt8}:((c.toNat:Int)=36)↔c=36:=by
 rw[<-UInt8.toNat_inj];have:(36:UInt8).toNat=36:=rfl;omega
theorem oI(c:UInt8)(r:bC)(a b:UInt8):(c::r).take 2=[a,b]↔c=a/\r.take 1=[b]:=bB
theorem EC(c:UInt8):∀l:bC,0<=uT c l↔c∈l
 |[]=>by simp[uT,cutAt]
 |d::l=>by
  have a:=EC c l;unfold uT at a|-;unfold cutAt;by_cases h:d=c
  .simp[h]
  .rw[if_neg h];have b:¬c=d:=λe=>h e.symm;cases q:cutAt c l with
   |none=>rw[q]at a;simp only[Option.map_none,A7,b,false_or];exact a
   |some q2=>rw[q]at a;simp only[D6,A7,b,false_or,A3];exact⟨λ_=>a.1 bB,λ_=>aE⟩
theorem Yj(c:UInt8)(r:bC)(i:(c::r).length<=9223372036854775807):Ok prog 154 [.str (c::r)] ⟨.d (aI (nextN (c::r))),true⟩:=by
 refine bT func154 rfl ntmps154 results154 λA X y=>?_;have z:r.length+1<=9223372036854775807:=by simpa using i
 apply aD;simp;apply eG;apply aF;have s:=yK c;refine bG (og 8 (.plain ⟨.d (.bool (letterB c)),true⟩)) ?_;simp;refine⟨s,?_⟩;apply aM;simp;refine⟨λa=>?_,λa=>?_⟩
 .apply aF;have u:=HW (c::r) i;refine bG (og 10 (.plain ⟨.d (aI (wordN (c::r))),true⟩)) ?_;simp;refine⟨u,?_⟩;apply aH;simp;rw[mI,if_pos a]
 .apply bE;simp;refine⟨λb=>?_,λb=>?_⟩
  .apply fE;have v:=HW r aE;refine bG (og 17 (.plain ⟨.d (aI (wordN r)),true⟩)) ?_;simp;refine⟨⟨aE,v⟩,?_⟩;apply bE;simp;refine⟨λp=>?_,λp=>?_⟩
   .apply aF;have x:=El r;apply aJ;simp;refine⟨aE,?_⟩;apply aH;simp;rw[mI,if_neg (by simp[a]),if_pos (RN.1 b),if_pos p];rfl
   .apply aG;simp;apply aD;simp;apply aH;simp;rw[mI,if_neg (by simp[a]),if_pos (RN.1 b),if_neg aE];rfl
  .apply aF;have t:=wF c;refine bG (og 25 (.plain ⟨.d (.bool (digitB c)),true⟩)) ?_;simp;refine⟨t,?_⟩;apply aM;simp;refine⟨λd=>?_,λd=>?_⟩
   .apply fE;have w:=UZ (c::r) digitB 230 (λc=>wF c) i;refine bG (og 27 (.plain ⟨.d (aI (runP digitB (c::r))),true⟩)) ?_;simp;refine⟨w,?_⟩;apply bE;simp;refine⟨λj=>?_,λj=>?_⟩
    .apply aD;simp;apply aH;simp;rw[mI,if_neg (by simp[a]),if_neg (λe=>b (RN.2 e)),if_pos d,if_pos aE]
    .apply aG;simp;apply aD;simp;apply aH;simp;rw[mI,if_neg (by simp[a]),if_neg (λe=>b (RN.2 e)),if_pos d,if_neg aE];rfl
   .apply aF;have l:=pR (c::r) [60,61] i bK;have k:=pR (c::r) [61,61] i bK;refine bG (λ|33=>some<| .plain ⟨.d (.bool (decide ((c::r).take 2=[60,61]))),true⟩|36=>some<| .plain ⟨.d (.bool (decide ((c::r).take 2=[61,61]))),true⟩|_=>none) ?_;simp;refine⟨⟨⟨by simpa using l,λ_=>by simpa using k⟩,λh=>F4.1 λq=>h q.1 q.2⟩,?_⟩;apply aM;simp;refine⟨λg=>?_,λn o=>?_⟩
    .apply aD;simp;apply aH;simp;rw[mI,if_neg (by simp[a]),if_neg (λe=>b (RN.2 e)),if_neg (by simp[d]),if_pos (by rw[oI,oI];exact g)];rfl
    .apply aF;have m:=CX [40,41,123,125,61,43,45,42,60,59,46] c;refine bG (og 41 (.plain ⟨.d (aI (uT c [40,41,123,125,61,43,45,42,60,59,46])),true⟩)) ?_;simp;refine⟨m,?_⟩;apply aM;simp;refine⟨λf=>?_,λf=>?_⟩
     .apply aD;simp;apply aH;simp;rw[mI,if_neg (by simp[a]),if_neg (λe=>b (RN.2 e)),if_neg (by simp[d]),if_neg (by rw[oI,oI];rintro(⟨e1,e2⟩|⟨e1,e2⟩);exact n e1 e2;exact o e1 e2),if_pos ((EC c signs).1 f)];rfl
     .apply aG;simp;apply aD;simp;apply aH;simp;rw[mI,if_neg (by simp[a]),if_neg (λe=>b (RN.2 e)),if_neg (by simp[d]),if_neg (by rw[oI,oI];rintro(⟨e1,e2⟩|⟨e1,e2⟩);exact n e1 e2;exact o e1 e2),if_neg (λe=>by have:=(EC c signs).2 e;unfold signs at this;omega)];rfl
end
section
attribute[local simp] aR bJ bF aO aL aX aP
attribute[local simp] kH.cond Nd.d_eq nd_t nd_dr nd_td ndsD
theorem RO(x:Nd):Ok prog 362 [x.d] ⟨.d (aI (lvlN x.kind)),true⟩:=by
 refine bT func362 rfl ntmps362 results362 λo X d=>?_;apply aD;simp;apply eP;simp;apply aW;refine bH (ι:=BC) (λ⟨b⟩=>bA [(1,.bx 1 0),(4,.d (aI (x.kind))),(5,.d (.bool b))]) (λ⟨b⟩=>aK [(1,.box false [.d (aI x.kind),.d (.str x.text),.d (aI x.n),.d (ndsD x.kids)])]) (λ⟨b⟩=>b=true↔(x.kind=26\/x.kind=27\/x.kind=28)) ?_ λ⟨b⟩ a=>?_
 .apply bE;simp;refine⟨λi=>?_,λi=>?_⟩
  .apply aG;simp;refine XV.mk ⟨decide (x.kind=26)⟩ (aA d [1,4,5] [(1,1)]) ?_;simp[i]
  .apply bE;simp;refine⟨λj=>?_,λj=>?_⟩
   .apply aG;simp;refine XV.mk ⟨decide (x.kind=27)⟩ (aA d [1,4,5] [(1,1)]) ?_;simp[j]
   .apply aJ;simp;refine XV.mk ⟨decide (x.kind=28)⟩ (aA d [1,4,5] [(1,1)]) ?_;simp only[decide_eq_true_eq];omega
 .apply aM;simp;refine⟨λf=>?_,λf=>?_⟩
  .have m:=a.1 f;apply aD;simp;apply aH;have e:lvlN x.kind=1:=by rcases m with h|h|h<;>rw[h]<;>rfl
   simp[e]
  .have m:¬(x.kind=26\/x.kind=27\/x.kind=28):=λq=>by simp[a.2 q]at f
   refine bH (ι:=BC) (λ⟨b⟩=>bA [(1,.bx 1 0),(4,.d (aI (x.kind))),(9,.d (.bool b))]) (λ⟨b⟩=>aK [(1,.box false [.d (aI x.kind),.d (.str x.text),.d (aI x.n),.d (ndsD x.kids)])]) (λ⟨b⟩=>b=true↔(x.kind=29\/x.kind=30)) ?_ λ⟨b⟩ c=>?_
   .apply bE;simp;refine⟨λk=>?_,λk=>?_⟩
    .apply aG;simp;refine XV.mk ⟨decide (x.kind=29)⟩ (aA d [1,4,9] [(1,1)]) ?_;simp[k]
    .apply aJ;simp;refine XV.mk ⟨decide (x.kind=30)⟩ (aA d [1,4,9] [(1,1)]) ?_;simp only[decide_eq_true_eq];omega
   .apply aM;simp;refine⟨λg=>?_,λg=>?_⟩
    .have n:=c.1 g;apply aD;simp;apply aH;have e:lvlN x.kind=2:=by rcases n with h|h<;>rw[h]<;>rfl
     simp[e]
    .have n:¬(x.kind=29\/x.kind=30):=λq=>by simp[c.2 q]at g
     apply bE;simp;refine⟨λl=>?_,λl=>?_⟩
     .apply aD;simp;apply aH;have e:lvlN x.kind=3:=by rw[l];rfl
      simp[e]
     .apply aG;simp;apply aD;simp;apply aH;have e:lvlN x.kind=4:=by unfold lvlN;rw[if_neg aE]
      simp[e]
theorem ED(x:Nd)(a:Int)(b:Ok prog 315 [x.d] ⟨.d (.str (exprT x)),true⟩)(e:(exprT x).length<=10000000000):Ok prog 342 [x.d,aI a] ⟨.d (.str (paren (decide (lvlN x.kind<a)) (exprT x))),true⟩:=by
 refine bT func342 rfl ntmps342 results342 λg X f=>?_;apply aD;simp;apply fE;have d:=RO x;refine bG (og 6 (.plain ⟨.d (aI (lvlN x.kind)),true⟩)) ?_;simp;refine⟨by simpa using d,?_⟩;apply aM;simp;refine⟨λc=>?_,λc=>?_⟩
 .refine dH (og 10 (.plain ⟨.d (.str (exprT x)),true⟩)) ?_;simp;refine⟨by simpa using b,?_⟩;apply aH;simp[paren];intro h;omega
 .apply aG;simp;refine dH (og 12 (.plain ⟨.d (.str (exprT x)),true⟩)) ?_;simp;refine⟨⟨⟨by simpa using b,aE⟩,aE⟩,?_⟩;apply aH;simp[paren];intro h;omega
theorem PL{x:Int}(a:0<=x)(h:x<256):IntKind.u8.wrap x=x:=by
 unfold IntKind.wrap;simp[IntKind.bits,IntKind.signed];omega
theorem sZ(m:Nat):itoaS (m:Int)=decS m:=by unfold itoaS;rw[if_neg aE];rfl
theorem JT{m:Nat}(h:0<m):itoaS (-(m:Int))=45::decS m:=by unfold itoaS;rw[if_pos aE,Int.natAbs_neg];rfl
theorem GG{n:Nat}(h:n<1000)(b:10<=n):decS n=decS (n / 10)++decS (n%10):=by
 have a:n%10<10:=Nat.mod_lt _ bK;unfold decS;rw[if_neg aE,if_pos a];by_cases q:n<100
 .rw[if_pos q,if_pos aE];rfl
 .rw[if_neg q,if_neg aE,if_pos aE,Nat.div_div_eq_div_mul];rfl
theorem PM{n:Nat}(h:n<10):decS n=[UInt8.ofNat (48+n)]:=by unfold decS;rw[if_pos h]
theorem zL(n:Int)(k: -999<=n)(s:n<=999)(g:∀m:Int,0<=m->m<=999->(n<0\/m<n)->Ok prog 220 [aI m] ⟨.d (.str (itoaS m)),true⟩):Ok prog 220 [aI n] ⟨.d (.str (itoaS n)),true⟩:=by
 refine bT func220 rfl ntmps220 results220 λv X t=>?_;apply aD;simp;apply aF;apply bE;simp;refine⟨λk=>?_,λk=>?_⟩
 .apply aF;obtain⟨m,c⟩:∃m:Nat,n= -(m:Int):=⟨n.natAbs,aE⟩;obtain⟨a,e⟩:∃a,a=m / 10:=⟨_,rfl⟩;obtain⟨b,f⟩:∃b,b=m%10:=⟨_,rfl⟩;have h:n.tdiv 10= -(a:Int):=by subst c e;rw[Int.neg_tdiv];rfl
  have i:n.tmod 10= -(b:Int):=by subst c f;rw[Int.neg_tmod];rfl
  have d:=g (a:Int) aE aE aE;have p:=g (b:Int) aE aE aE;have l:=cH (a:Int);have u:=cH (b:Int);have o:0- -(a:Int)=(a:Int):=aE;have w:0- -(b:Int)=(b:Int):=aE;refine bG (λ|8=>some<| .plain ⟨.d (.str (itoaS (a:Int))),true⟩|13=>some<| .plain ⟨.d (.str (itoaS (b:Int))),true⟩|_=>none) ?_;simp[h,i];refine⟨by(repeat' with_reducible apply And.intro)<;>first|omega|exact d|exact p|(simp only[A3];omega),?_⟩;apply aH;simp;subst c e f;rw[JT aE,sZ,sZ,GG (n:=m) aE aE]
 .apply aG;simp;apply aF;apply bE;simp;refine⟨λq=>?_,λq=>?_⟩
  .apply aF;obtain⟨m,c⟩:∃m:Nat,n= -(m:Int):=⟨n.natAbs,aE⟩;have d:=g (m:Int) aE aE aE;have l:=cH (m:Int);have o:0-n=(m:Int):=aE;refine bG (og 19 (.plain ⟨.d (.str (itoaS (m:Int))),true⟩)) ?_;simp[o];refine⟨by(repeat' with_reducible apply And.intro)<;>first|omega|exact d,?_⟩;apply aH;simp;subst c;rw[JT aE,sZ]
  .apply aG;simp;apply aF;apply bE;simp;refine⟨λr=>?_,λr=>?_⟩
   .apply aF;obtain⟨m,c⟩:∃m:Nat,n=(m:Int):=⟨n.natAbs,aE⟩;have j:IntKind.u8.wrap (48+n)=48+n:=PL aE aE;apply aJ;simp[j];refine⟨by(repeat' with_reducible apply And.intro)<;>first|omega|decide,?_⟩;apply aH;simp;subst c;rw[sZ,PM aE];rfl
   .apply aG;simp;apply aF;obtain⟨m,c⟩:∃m:Nat,n=(m:Int):=⟨n.natAbs,aE⟩;obtain⟨a,e⟩:∃a,a=m / 10:=⟨_,rfl⟩;obtain⟨b,f⟩:∃b,b=m%10:=⟨_,rfl⟩;have h:n.tdiv 10=(a:Int):=by subst c e;rfl
    have i:n.tmod 10=(b:Int):=by subst c f;rfl
    have d:=g (a:Int) aE aE aE;have l:=cH (a:Int);have j:IntKind.u8.wrap (48+(b:Int))=48+(b:Int):=PL aE aE;refine fF.rd [[35],[35],[35],[30],[30],[30],[30],[30],[30]] [[],[],[30],[],[],[],[],[35]] (og 30 (.plain ⟨.d (.str (itoaS (a:Int))),true⟩)) ?_;simp[h,i,j];refine⟨by(repeat' with_reducible apply And.intro)<;>first|omega|exact d|decide,?_⟩;apply aH;simp;subst c e f;rw[sZ,sZ,GG (n:=m) aE aE,PM (n:=m%10) aE];rfl
theorem jK(n:Int)(c: -999<=n)(d:n<=999):Ok prog 220 [aI n] ⟨.d (.str (itoaS n)),true⟩:=by
 have b:∀k:Nat,k<=999->Ok prog 220 [aI (k:Int)] ⟨.d (.str (itoaS (k:Int))),true⟩:=λk=>by
  induction k using Nat.strongRecOn with
  |ind k ih=>
   intro f;refine zL _ aE aE λm a _ e=>?_;obtain⟨j,rfl⟩:=D3 a;exact ih j aE aE
 refine zL n c d λm a e _=>?_;obtain⟨j,rfl⟩:=D3 a;exact b j aE
theorem GH{x a b:Nd}(h:exprT x=paren (decide (lvlN a.kind<(if levelAt x.kind=1 then 2 else levelAt x.kind))) (exprT a)++32::(signAt x.kind++32::paren (decide (lvlN b.kind<levelAt x.kind+1)) (exprT b))){l m:Int}{s:bC}
 (c:(if levelAt x.kind=1 then 2 else levelAt x.kind)=l)(d:levelAt x.kind+1=m)(e:signAt x.kind=s):exprT x=paren (decide (lvlN a.kind<l)) (exprT a)++32::(s++32::paren (decide (lvlN b.kind<m)) (exprT b)):=by
 rw[h,c,d,e]
theorem MR(x:Nd)(hr:rightN x=true)(he:isExprK x.kind=true)(hw:weighN x<=1000000000)(Z:∀y∈x.kids,rightN y=true->isExprK y.kind=true->weighN y<=1000000000->Ok prog 315 [y.d] ⟨.d (.str (exprT y)),true⟩):Ok prog 315 [x.d] ⟨.d (.str (exprT x)),true⟩:=by
 refine bT func315 rfl ntmps315 results315 λw0 X hp=>?_;obtain⟨f0,S,U,W,V,Q⟩:=Er hr he;have v:=weighN_eq x;apply aD;simp;apply eP;simp;apply aW;apply bE;simp;refine⟨λh2=>?_,λh2=>?_⟩
 .apply aF;obtain⟨q1,q2,q3⟩:=S h2;have hi:=jK x.n aE q3;refine bG (og 11 (.plain ⟨.d (.str (itoaS x.n)),true⟩)) ?_;simp;refine⟨hi,?_⟩;apply aH;simp[q1]
 .apply bE;simp;refine⟨λh4=>?_,λh4=>?_⟩
  .apply aD;simp;refine⟨aE,?_⟩;apply aH;simp[U h4]
  .refine bH (ι:=BC) (λ⟨b⟩=>bA [(1,.bx 1 0),(6,.d (aI (x.kind))),(17,.d (.bool b))]) (λ⟨b⟩=>aK [(1,.box false [.d (aI x.kind),.d (.str x.text),.d (aI x.n),.d (ndsD x.kids)])]) (λ⟨b⟩=>b=true↔(x.kind=34\/x.kind=35)) ?_ λ⟨b⟩ t=>?_
   .apply bE;simp;refine⟨λh6=>?_,λh6=>?_⟩
    .apply aG;simp;refine XV.mk ⟨decide (x.kind=34)⟩ (aA hp [1,6,17] [(1,1)]) ?_;simp[h6]
    .apply aJ;simp;refine XV.mk ⟨decide (x.kind=35)⟩ (aA hp [1,6,17] [(1,1)]) ?_;simp only[decide_eq_true_eq];omega
   .apply aM;simp;refine⟨λY=>?_,λY=>?_⟩
    .have q8:=t.1 Y;apply aD;simp;apply aH;simp[V q8]
    .have q8:¬(x.kind=34\/x.kind=35):=λq=>by simp[t.2 q]at Y
     apply bE;simp;refine⟨λh9=>?_,λh9=>?_⟩
     .apply aD;simp;apply aH;simp[W h9,sKind]
     .apply aG;simp;apply aF;have u:x.kind<=31:=aE;obtain⟨a,d,k,ra,ea,rb,eb,e⟩:=Q u;rw[k]at v Z;simp only[weighL]at v;have la:=dJ a ra ea;have lb:=dJ d rb eb;have p:=λc=>qA c (exprT a);have r:=λc=>qA c (exprT d);have n:=λl=>ED a l (Z a bB ra ea aE) aE;have o:=λl=>ED d l (Z d bB rb eb aE) aE;apply aJ;simp[k];apply aD;simp[k];apply eP;simp;apply aW;apply bE;simp;refine⟨λf=>?_,λf=>?_⟩
      .apply aF;have a0:=p (decide (lvlN a.kind<2));have a6:=r (decide (lvlN d.kind<2));have w:=n 2;have E:=o 2;have K:=GH e (l:=2) (m:=2) (s:=[60]) (by rw[f];rfl) (by rw[f];rfl) (by rw[f];rfl);refine fF.rd [[],[],[40],[37]] [[],[37],[],[],[40]] (λ|37=>some<| .plain ⟨.d (.str (paren (decide (lvlN a.kind<2)) (exprT a))),true⟩|40=>some<| .plain ⟨.d (.str (paren (decide (lvlN d.kind<2)) (exprT d))),true⟩|_=>none) ?_;simp;refine⟨by(repeat' with_reducible apply And.intro)<;>first|omega|(simpa using w)|(simpa using E),?_⟩;apply aH;simp[K]
      .apply bE;simp;refine⟨λg=>?_,λg=>?_⟩
       .apply aF;have a1:=p (decide (lvlN a.kind<2));have a7:=r (decide (lvlN d.kind<2));have z:=n 2;have F:=o 2;have L:=GH e (l:=2) (m:=2) (s:=[60,61]) (by rw[g];rfl) (by rw[g];rfl) (by rw[g];rfl);refine fF.rd [[],[],[48],[45]] [[],[45],[],[],[48]] (λ|45=>some<| .plain ⟨.d (.str (paren (decide (lvlN a.kind<2)) (exprT a))),true⟩|48=>some<| .plain ⟨.d (.str (paren (decide (lvlN d.kind<2)) (exprT d))),true⟩|_=>none) ?_;simp;refine⟨by(repeat' with_reducible apply And.intro)<;>first|omega|(simpa using z)|(simpa using F),?_⟩;apply aH;simp[L]
       .apply bE;simp;refine⟨λh=>?_,λh=>?_⟩
        .apply aF;have a2:=p (decide (lvlN a.kind<2));have a8:=r (decide (lvlN d.kind<2));have A:=n 2;have G:=o 2;have M:=GH e (l:=2) (m:=2) (s:=[61,61]) (by rw[h];rfl) (by rw[h];rfl) (by rw[h];rfl);refine fF.rd [[],[],[56],[53]] [[],[53],[],[],[56]] (λ|53=>some<| .plain ⟨.d (.str (paren (decide (lvlN a.kind<2)) (exprT a))),true⟩|56=>some<| .plain ⟨.d (.str (paren (decide (lvlN d.kind<2)) (exprT d))),true⟩|_=>none) ?_;simp;refine⟨by(repeat' with_reducible apply And.intro)<;>first|omega|(simpa using A)|(simpa using G),?_⟩;apply aH;simp[M]
        .apply bE;simp;refine⟨λi=>?_,λi=>?_⟩
         .apply aF;have a3:=p (decide (lvlN a.kind<2));have a9:=r (decide (lvlN d.kind<3));have B:=n 2;have H:=o 3;have N:=GH e (l:=2) (m:=3) (s:=[43]) (by rw[i];rfl) (by rw[i];rfl) (by rw[i];rfl);refine fF.rd [[],[],[64],[61]] [[],[61],[],[],[64]] (λ|61=>some<| .plain ⟨.d (.str (paren (decide (lvlN a.kind<2)) (exprT a))),true⟩|64=>some<| .plain ⟨.d (.str (paren (decide (lvlN d.kind<3)) (exprT d))),true⟩|_=>none) ?_;simp;refine⟨by(repeat' with_reducible apply And.intro)<;>first|omega|(simpa using B)|(simpa using H),?_⟩;apply aH;simp[N]
         .apply bE;simp;refine⟨λj=>?_,λj=>?_⟩
          .apply aF;have a4:=p (decide (lvlN a.kind<2));have b0:=r (decide (lvlN d.kind<3));have C:=n 2;have I:=o 3;have O:=GH e (l:=2) (m:=3) (s:=[45]) (by rw[j];rfl) (by rw[j];rfl) (by rw[j];rfl);refine fF.rd [[],[],[72],[69]] [[],[69],[],[],[72]] (λ|69=>some<| .plain ⟨.d (.str (paren (decide (lvlN a.kind<2)) (exprT a))),true⟩|72=>some<| .plain ⟨.d (.str (paren (decide (lvlN d.kind<3)) (exprT d))),true⟩|_=>none) ?_;simp;refine⟨by(repeat' with_reducible apply And.intro)<;>first|omega|(simpa using C)|(simpa using I),?_⟩;apply aH;simp[O]
          .apply aG;simp;apply aF;have a5:=p (decide (lvlN a.kind<3));have b1:=r (decide (lvlN d.kind<4));have D:=n 3;have J:=o 4;have P:=GH e (l:=3) (m:=4) (s:=[42]) (by rw[(show x.kind=31 by omega)];rfl) (by rw[(show x.kind=31 by omega)];rfl) (by rw[(show x.kind=31 by omega)];rfl);refine fF.rd [[],[],[78],[75]] [[],[75],[],[],[78]] (λ|75=>some<| .plain ⟨.d (.str (paren (decide (lvlN a.kind<3)) (exprT a))),true⟩|78=>some<| .plain ⟨.d (.str (paren (decide (lvlN d.kind<4)) (exprT d))),true⟩|_=>none) ?_;simp;refine⟨by(repeat' with_reducible apply And.intro)<;>first|omega|(simpa using D)|(simpa using J),?_⟩;apply aH;simp[P]
theorem qV(x:Nd):rightN x=true->isExprK x.kind=true->weighN x<=1000000000->Ok prog 315 [x.d] ⟨.d (.str (exprT x)),true⟩:=
 pC (p:=λx=>rightN x=true->isExprK x.kind=true->weighN x<=1000000000->Ok prog 315 [x.d] ⟨.d (.str (exprT x)),true⟩) (λ_ _ _ _ d b a c=>MR _ b a c d) x
theorem PN{x:Nd}(h:Mz x.kind x.text x.n x.kids)(l:x.kind=15\/x.kind=22\/x.kind=16\/x.kind=23\/x.kind=24):∃e,x.kids=[e]/\rightN e=true/\isExprK e.kind=true/\x.n=0:=by
 obtain⟨_,_,_,a⟩:=yF h;have c:∀e,x.kids=[e]->x.n=0->∃e,x.kids=[e]/\rightN e=true/\isExprK e.kind=true/\x.n=0:=λe i k=>⟨e,i,(a e (by rw[i];simp)).1,(a e (by rw[i];simp)).2,k⟩;rcases h with⟨d,f,b,a⟩|⟨d,f,b,e,a,g,j⟩|⟨d,f,b,u,a,g⟩|⟨d,f,b,a,g⟩|⟨d,f,b,a⟩|⟨d,f,b,a⟩|⟨d,f,b,e,a,g,j⟩
 .omega
 .exact c _ a b
 .exact c _ a b
 .omega
 .omega
 .omega
 .exact c _ a b
theorem Vk{x:Nd}(h:Mz x.kind x.text x.n x.kids)(i:x.kind=13\/x.kind=14\/x.kind=17\/x.kind=18):x.kids=[]/\x.n=0:=by
 rcases h with⟨c,d,a,b⟩|⟨c,d,a,e,b,f,g⟩|⟨c,d,a,u,b,f⟩|⟨c,d,a,b,f⟩|⟨c,d,a,b⟩|⟨c,d,a,b⟩|⟨c,d,a,e,b,f,g⟩<;>first|exact⟨b,a⟩|omega
theorem JU{x:Nd}(h:Mz x.kind x.text x.n x.kids)(i:x.kind=19\/x.kind=21\/x.kind=25):x.kids=[]/\0<x.n:=by
 rcases h with⟨b,c,d,a⟩|⟨b,c,d,e,a,f,g⟩|⟨b,c,d,u,a,f⟩|⟨b,c,d,a,f⟩|⟨b,c,d,a⟩|⟨b,c,d,a⟩|⟨b,c,d,e,a,f,g⟩<;>first|exact⟨f,aE⟩|exact⟨a,aE⟩|omega
theorem Yk{x:Nd}(h:Mz x.kind x.text x.n x.kids)(i:x.kind=20):x.kids=[]/\x.n=0:=by
 rcases h with⟨c,d,a,b⟩|⟨c,d,a,e,b,f,g⟩|⟨c,d,a,u,b,f⟩|⟨c,d,a,b,f⟩|⟨c,d,a,b⟩|⟨c,d,a,b⟩|⟨c,d,a,e,b,f,g⟩<;>first|exact⟨b,a⟩|omega
theorem JV{x:Nd}(c:rightN x=true)(h:x.kind=12):x.kids.length=2:=by
 obtain⟨k,t,n,ks⟩:=x;have h:k=12:=h;subst h;obtain⟨_,_,d,_⟩:=right_mk.1 c;obtain⟨a,b,e,_⟩:=AO (ks:=ks) (f:=isExprK) (g:=isBlockK) d;show ks.length=2;rw[e];rfl
theorem EE:Ok prog 224 [] ⟨.d (.sl uX),true⟩:=by
 refine bT func224 rfl ntmps224 results224 λb X a=>?_;apply aD;simp;apply aD;simp;refine⟨bK,?_⟩;apply aH;simp;rfl
theorem MS(x:Nd)(d:jH x)(p:weighN x<=1000000000)(o:∀y∈x.kids,Ok prog 279 [y.d] ⟨.d (.str (stmtT y)),true⟩):Ok prog 225 [x.d] ⟨.d (.str (blockT x)),true⟩:=by
 refine bT func225 rfl ntmps225 results225 λv X e=>?_;have b:=(eT x).2 d;have n:=nN x;have a:∀y∈x.kids,rightN y=true/\isStmtK y.kind=true:=by obtain⟨q,rfl,h⟩:=d;exact h
 apply aD;simp;apply aD;simp;apply eP;simp;apply aW;refine aZ (ι:=Nat) (λi=>bA [(1,.bx 1 0),(3,.d (.str (123::32::stmtsT (x.kids.take i)))),(4,.d (aI i))]) (λi=>aK [(1,.box false [.d (aI x.kind),.d (.str x.text),.d (aI x.n),.d (ndsD x.kids)])]) (λi=>i<=x.kids.length) (λi=>x.kids.length-i) 0 (aA e [1,3,4] [(1,1)] (by simp[stmtsT])) (C0 _) λi k=>?_;apply aF;apply bE;simp;refine⟨λj=>?_,λj=>?_⟩
 .apply aG;simp;apply eG;have c:i<x.kids.length:=aE;have m:=o _ (A2 c);have f:=a _ (A2 c);have r:=(eT x.kids[i]).1 f.1 f.2;have s:=nM c;have t:=uP (l:=x.kids) (λy g=>(eT y).1 (a y g).1 (a y g).2) i;have u:=weighN_eq x;refine bG (og 18 (.plain ⟨.d (.str (stmtT x.kids[i])),true⟩)) ?_;simp[c];refine⟨⟨⟨by simpa using m,aE⟩,aE⟩,?_⟩;apply aJ;simp;refine⟨aE,?_⟩;refine On.mk (i+1) (aA e [1,3,4] [(1,1)] (by simp[Cz c])) ?_ ?_
  .omega
  .omega
 .apply bP;simp;apply aF;have c:i=x.kids.length:=aE;subst c;rw[B7];rw[sX]at b;simp only[C8,A3]at b;apply aJ;simp;refine⟨aE,?_⟩;apply aH;simp[sX]
theorem MT(x:Nd)(Y:rightN x=true)(hk:isStmtK x.kind=true)(hw:weighN x<=1000000000)(v:∀y∈x.kids,jH y->Ok prog 225 [y.d] ⟨.d (.str (blockT y)),true⟩):Ok prog 279 [x.d] ⟨.d (.str (stmtT x)),true⟩:=by
 refine bT func279 rfl ntmps279 results279 λo X n=>?_;obtain⟨f0,f9,S,A,U⟩:=Et Y hk;have a3:=weighN_eq x;have a2:=(eT x).1 Y hk;have wl:=sW x.kind;have a:∀(i:Nat) (hi:i<x.kids.length),weighN x.kids[i]<weighN x:=λi hi=>nM hi;apply aD;simp;apply aD;simp;apply eP;simp;apply aW;apply bE;simp;refine⟨λh3=>?_,λh3=>?_⟩
 .apply aF;obtain⟨l,g,d⟩:=f9 h3;have o:=a 0 l;have L:=dJ _ g.1 g.2;have j:=qV _ g.1 g.2 aE;refine fF.rd [[19],[19],[19],[19]] [[],[],[],[],[],[],[],[19]] (og 19 (.plain ⟨.d (.str (exprT x.kids[0])),true⟩)) ?_;simp[l];refine⟨by(repeat' with_reducible apply And.intro)<;>first|omega|(simpa using j),?_⟩;apply aH;simp[d,Rx]
 .apply bE;simp;refine⟨λh5=>?_,λh5=>?_⟩
  .apply aF;obtain⟨l,m,g,P,d⟩:=S h5;have o:=a 0 l;have w1:=a 1 m;have L:=dJ _ g.1 g.2;have l1:=dJ _ P.1 P.2;have j:=qV _ g.1 g.2 aE;have z:=qV _ P.1 P.2 aE;simp at j z;refine fF.rd [[],[],[],[],[32],[27],[27],[27]] [[],[],[],[27],[],[],[],[],[32]] (λ|27=>some<| .plain ⟨.d (.str (exprT x.kids[0])),true⟩|32=>some<| .plain ⟨.d (.str (exprT x.kids[1])),true⟩|_=>none) ?_;simp[l,m];refine⟨by(repeat' with_reducible apply And.intro)<;>first|omega|with_reducible assumption,?_⟩;apply aH;simp[d,Ry]
  .apply bE;simp;refine⟨λO=>?_,λO=>?_⟩
   .apply aF;obtain⟨l,m,g,w,d⟩:=A (.inr O);have w7:wordAt x.kind=[119,104,105,108,101]:=by rw[O];rfl
    have d:stmtT x=PE (wordAt x.kind) (exprT x.kids[0]) (blockT x.kids[1]):=by
     rcases d with⟨_,d⟩|⟨h2,_,d⟩
     .exact d
     .exfalso;have:=(JV Y O);omega
    have o:=a 0 l;have w1:=a 1 m;have L:=dJ _ g.1 g.2;have l1:=(eT x.kids[1]).2 w;have j:=qV _ g.1 g.2 aE;have z:=v _ (A2 m) w;simp at j z;refine fF.rd [[],[],[],[],[46],[46],[40],[40],[40]] [[],[],[],[40],[],[],[],[],[],[46]] (λ|40=>some<| .plain ⟨.d (.str (exprT x.kids[0])),true⟩|46=>some<| .plain ⟨.d (.str (blockT x.kids[1])),true⟩|_=>none) ?_;simp[l,m];refine⟨by(repeat' with_reducible apply And.intro)<;>first|omega|with_reducible assumption,?_⟩;apply aH;simp[d,PE,w7]
   .apply bE;simp;refine⟨λW=>?_,λW=>?_⟩
    .apply aF;obtain⟨l,m,g,w,d⟩:=A (.inl W);have w9:wordAt x.kind=[105,102]:=by rw[W];rfl
     have o:=a 0 l;have w1:=a 1 m;have L:=dJ _ g.1 g.2;have l1:=(eT x.kids[1]).2 w;have j:=qV _ g.1 g.2 aE;have z:=v _ (A2 m) w;simp at j z;refine fF.rd [[],[],[],[],[59],[59],[53],[53],[53]] [[],[],[],[53],[],[],[],[],[],[59]] (λ|53=>some<| .plain ⟨.d (.str (exprT x.kids[0])),true⟩|59=>some<| .plain ⟨.d (.str (blockT x.kids[1])),true⟩|_=>none) ?_;simp[l,m];refine⟨by(repeat' with_reducible apply And.intro)<;>first|omega|with_reducible assumption,?_⟩;refine bH (ι:=Unit) (λi=>bA [(1,.bx 1 0),(4,.d (.str (stmtT x)))]) (λi=>aK [(1,.box false [.d (aI x.kind),.d (.str x.text),.d (aI x.n),.d (ndsD x.kids)])]) (λi=>True) ?_ λi a1=>?_
     .apply bE;simp;refine⟨λV=>?_,λV=>?_⟩
      .have s:2<x.kids.length:=aE;rcases d with⟨d,_⟩|⟨_,b2,d⟩
       .omega
       have w2:=a 2 s;have l2:=(eT x.kids[2]).2 b2;have c2:=v _ (A2 s) b2;refine bG (og 69 (.plain ⟨.d (.str (blockT x.kids[2])),true⟩)) ?_;simp[s];refine⟨by(repeat' with_reducible apply And.intro)<;>first|omega|(simpa using c2),?_⟩;exact(aA n [1,4] [(1,1)] (by simp[d,PE,Gx,sElse,w9]))
      .apply aG;simp;exact(aA n [1,4] [(1,1)] (by simp[(d.resolve_right (λ⟨h2,_⟩=>aE)).2,PE,w9]))
     .apply aD;simp;apply aH;simp
    .apply aG;simp;apply aF;have h:=U aE;obtain⟨g1,g2,g3,g4⟩:=yF h;have d:=PG (x:=x) aE;have ml:=HV x.kind x.text;have nl:=BI x.n;have kl:=yJ g4;have il:=cH x.n;have q1:=yI (k:=x.kind) aE aE;have Z:=EE;have q2:=nP;refine fF.rd [[],[72],[72]] [[72]] (og 72 (.plain ⟨.d (.sl uX),true⟩)) ?_;simp[q1];refine⟨by(repeat' with_reducible apply And.intro)<;>first|omega|exact Z,?_⟩;apply eP;simp;apply aW;refine bH (ι:=BC) (λ⟨b⟩=>bA [(1,.bx 1 0),(3,.d (ndsD x.kids)),(5,.d (.str (wordAt x.kind))),(78,.d (aI (x.kind))),(79,.d (.bool b))]) (λ⟨b⟩=>aK [(1,.box false [.d (aI x.kind),.d (.str x.text),.d (aI x.n),.d (ndsD x.kids)])]) (λ⟨b⟩=>b=true↔(x.kind=13\/x.kind=14\/x.kind=17\/x.kind=18)) ?_ λ⟨b⟩ p=>?_
     .apply bE;simp;refine⟨λB=>?_,λB=>?_⟩
      .apply aG;simp;refine XV.mk ⟨decide (x.kind=13)⟩ (aA n [1,3,5,78,79] [(1,1)]) ?_;simp[B]
      .apply bE;simp;refine⟨λC=>?_,λC=>?_⟩
       .apply aG;simp;refine XV.mk ⟨decide (x.kind=14)⟩ (aA n [1,3,5,78,79] [(1,1)]) ?_;simp[C]
       .apply bE;simp;refine⟨λD=>?_,λD=>?_⟩
        .apply aG;simp;refine XV.mk ⟨decide (x.kind=17)⟩ (aA n [1,3,5,78,79] [(1,1)]) ?_;simp[D]
        .apply aJ;simp;refine XV.mk ⟨decide (x.kind=18)⟩ (aA n [1,3,5,78,79] [(1,1)]) ?_;simp only[decide_eq_true_eq];omega
     .apply aM;simp;refine⟨λt=>?_,λt=>?_⟩
      .have M:=p.1 t;apply aD;simp;refine⟨by(repeat' with_reducible apply And.intro)<;>omega,?_⟩;apply aH;have f:x.kids=[]/\x.n=0:=Vk h M;simp[d,f.1,f.2,withN,withE,midT,show¬(x.kind=19\/x.kind=20)by omega,show¬(x.kind=21\/x.kind=25\/x.kind=24)by omega]
      .have M:¬(x.kind=13\/x.kind=14\/x.kind=17\/x.kind=18):=λq=>by simp[p.2 q]at t
       refine bH (ι:=BC) (λ⟨b⟩=>bA [(1,.bx 1 0),(3,.d (ndsD x.kids)),(5,.d (.str (wordAt x.kind))),(78,.d (aI (x.kind))),(90,.d (.bool b))]) (λ⟨b⟩=>aK [(1,.box false [.d (aI x.kind),.d (.str x.text),.d (aI x.n),.d (ndsD x.kids)])]) (λ⟨b⟩=>b=true↔(x.kind=15\/x.kind=22\/x.kind=16\/x.kind=23)) ?_ λ⟨b⟩ r=>?_
       .apply bE;simp;refine⟨λE=>?_,λE=>?_⟩
        .apply aG;simp;refine XV.mk ⟨decide (x.kind=15)⟩ (aA n [1,3,5,78,90] [(1,1)]) ?_;simp[E]
        .apply bE;simp;refine⟨λF=>?_,λF=>?_⟩
         .apply aG;simp;refine XV.mk ⟨decide (x.kind=22)⟩ (aA n [1,3,5,78,90] [(1,1)]) ?_;simp[F]
         .apply bE;simp;refine⟨λG=>?_,λG=>?_⟩
          .apply aG;simp;refine XV.mk ⟨decide (x.kind=16)⟩ (aA n [1,3,5,78,90] [(1,1)]) ?_;simp[G]
          .apply aJ;simp;refine XV.mk ⟨decide (x.kind=23)⟩ (aA n [1,3,5,78,90] [(1,1)]) ?_;simp only[decide_eq_true_eq];omega
       .apply aM;simp;refine⟨λu=>?_,λu=>?_⟩
        .have a0:=r.1 u;apply aF;have c:∃e,x.kids=[e]/\rightN e=true/\isExprK e.kind=true/\x.n=0:=PN h aE;obtain⟨e,c,N,K,n0⟩:=c;have o:=a 0 (by simp[c]);have L:=dJ e N K;have j:=qV e N K (by simp only[c,B3]at o;omega);simp only[c,B3]at o;refine fF.rd [[104],[104],[104],[104],[104],[104]] [[],[],[],[],[],[],[],[],[],[104]] (og 104 (.plain ⟨.d (.str (exprT e)),true⟩)) ?_;simp[c];refine⟨by(repeat' with_reducible apply And.intro)<;>first|omega|(simpa using j),?_⟩;apply aH;simp[d,c,n0,withN,withE,midT,show¬(x.kind=19\/x.kind=20)by omega,show¬(x.kind=21\/x.kind=25\/x.kind=24)by omega]
        .have a0:¬(x.kind=15\/x.kind=22\/x.kind=16\/x.kind=23):=λq=>by simp[r.2 q]at u
         apply bE;simp;refine⟨λH=>?_,λH=>?_⟩
         .apply aF;have Q:=jK x.n aE aE;refine fF.rd [[117],[117],[117],[117],[117],[117]] [[],[],[],[],[],[],[],[],[117]] (og 117 (.plain ⟨.d (.str (itoaS x.n)),true⟩)) ?_;simp;refine⟨by(repeat' with_reducible apply And.intro)<;>first|omega|exact Q,?_⟩;apply aH;have f:x.kids=[]/\0<x.n:=JU h aE;simp[d,f.1,f.2,withN,withE,midT,H]
         .apply bE;simp;refine⟨λI=>?_,λI=>?_⟩
          .apply aD;simp;refine⟨by(repeat' with_reducible apply And.intro)<;>omega,?_⟩;apply aH;have f:x.kids=[]/\x.n=0:=Yk h aE;simp[d,f.1,f.2,withN,withE,midT,I]
          .apply bE;simp;refine⟨λJ=>?_,λJ=>?_⟩
           .apply aF;have c:∃e,x.kids=[e]/\rightN e=true/\isExprK e.kind=true/\x.n=0:=PN h aE;obtain⟨e,c,N,K,n0⟩:=c;have o:=a 0 (by simp[c]);have L:=dJ e N K;have j:=qV e N K (by simp only[c,B3]at o;omega);simp only[c,B3]at o;refine bG (og 135 (.plain ⟨.d (.str (exprT e)),true⟩)) ?_;simp[c];refine⟨by(repeat' with_reducible apply And.intro)<;>first|omega|(simpa using j),?_⟩;apply aH;simp[d,c,n0,withN,withE,midT,J]
           .apply aG;simp;apply aF;have Q:=jK x.n aE aE;refine bG (og 142 (.plain ⟨.d (.str (itoaS x.n)),true⟩)) ?_;simp;refine⟨by(repeat' with_reducible apply And.intro)<;>first|omega|exact Q,?_⟩;apply aH;have f:x.kids=[]/\0<x.n:=JU h aE;simp[d,f.1,f.2,withN,withE,midT,show¬(x.kind=19\/x.kind=20)by omega,show(x.kind=21\/x.kind=25\/x.kind=24)by omega]
theorem aAa(x:Nd):(rightN x=true->isStmtK x.kind=true->weighN x<=1000000000->Ok prog 279 [x.d] ⟨.d (.str (stmtT x)),true⟩)/\(jH x->weighN x<=1000000000->Ok prog 225 [x.d] ⟨.d (.str (blockT x)),true⟩):=by
 refine pC (p:=λx=>(rightN x=true->isStmtK x.kind=true->weighN x<=1000000000->Ok prog 279 [x.d] ⟨.d (.str (stmtT x)),true⟩)/\(jH x->weighN x<=1000000000->Ok prog 225 [x.d] ⟨.d (.str (blockT x)),true⟩)) (λk t n g f=>⟨?_,?_⟩) x
 .intro i h d;have c:∀y∈g,weighN y<=1000000000:=λy a=>by have:=weigh_mem a;rw[weighN]at d;omega
  exact MT _ i h d λy a e=>(f y a).2 e (c y a)
 .intro e d;have c:∀y∈g,weighN y<=1000000000:=λy a=>by have:=weigh_mem a;rw[weighN]at d;omega
  obtain⟨l,j,a⟩:=id e;injection j with i1 i2 i3 i4
  exact MS _ e d λy b=>(f y b).1 (a y (i4▸b)).1 (a y (i4▸b)).2 (c y b)
theorem Vl(x:Nd)(d:MC x)(U:weighN x<=1000000000):Ok prog 151 [x.d] ⟨.d (.str (textT x)),true⟩:=by
 refine bT func151 rfl ntmps151 results151 λZ X o=>?_;obtain⟨S,d⟩:=d;have n:=weighN_eq x;have wl:=sW x.kind;have N:0<=x.kind/\x.kind<=6:=by rcases d with⟨h|h,_⟩|⟨h,_⟩|⟨h,_⟩|⟨h,_⟩|⟨h|h,_⟩<;>omega
 have q1:=yI (k:=x.kind) aE aE;have V:=cH x.n;have u:=EE;have q2:=nP;apply aD;simp;apply aF;refine fF.rd [[],[5],[5],[],[],[],[5],[5]] [[5]] (og 5 (.plain ⟨.d (.sl uX),true⟩)) ?_;simp[q1];refine⟨by(repeat' with_reducible apply And.intro)<;>first|omega|exact u,?_⟩;apply eP;simp;apply aW;apply bE;simp;refine⟨λw=>?_,λw=>?_⟩
 .apply aF;have a: -999<=x.n/\x.n<=999:=by
   rcases d with⟨h|h,_⟩|⟨h,_⟩|⟨_,_,h⟩|⟨h,_⟩|⟨h|h,_⟩<;>omega
  have g:=jK x.n a.1 a.2;refine bG (og 22 (.plain ⟨.d (.str (itoaS x.n)),true⟩)) ?_;simp;refine⟨by(repeat' with_reducible apply And.intro)<;>first|omega|exact g,?_⟩;apply aH;simp[textT,w]
 .apply bE;simp;refine⟨λz=>?_,λz=>?_⟩
  .apply aF;have C:0<=x.n/\x.n<=3:=by
    rcases d with⟨h|h,_⟩|⟨h,_⟩|⟨h,_⟩|⟨_,_,h⟩|⟨h|h,_⟩<;>omega
   have g:=jK x.n aE aE;refine bG (og 31 (.plain ⟨.d (.str (itoaS x.n)),true⟩)) ?_;simp;refine⟨by(repeat' with_reducible apply And.intro)<;>first|omega|exact g,?_⟩;apply aH;simp[textT,z]
  .refine bH (ι:=BC) (λ⟨b⟩=>bA [(1,.bx 1 0),(3,.d (.str (wordAt x.kind++32::x.text))),(15,.d (aI (x.kind))),(34,.d (.bool b))]) (λ⟨b⟩=>aK [(1,.box false [.d (aI x.kind),.d (.str x.text),.d (aI x.n),.d (ndsD x.kids)])]) (λ⟨b⟩=>b=true↔(x.kind=3\/x.kind=4)) ?_ λ⟨b⟩ m=>?_
   .apply bE;simp;refine⟨λA=>?_,λA=>?_⟩
    .apply aG;simp;refine XV.mk ⟨decide (x.kind=3)⟩ (aA o [1,3,15,34] [(1,1)]) ?_;simp[A]
    .apply aJ;simp;refine XV.mk ⟨decide (x.kind=4)⟩ (aA o [1,3,15,34] [(1,1)]) ?_;simp only[decide_eq_true_eq];omega
   .apply aM;simp;refine⟨λr=>?_,λr=>?_⟩
    .have J:=m.1 r;apply aD;simp;refine⟨aE,?_⟩;apply aH;simp[textT,show¬(x.kind=5\/x.kind=6)by omega,show¬x.kind=1 by omega,show¬x.kind=0 by omega,show¬x.kind=2 by omega]
    .have J:¬(x.kind=3\/x.kind=4):=λq=>by simp[m.2 q]at r
     apply bE;simp;refine⟨λj=>?_,λj=>?_⟩
     .apply aF;have t:∀y∈x.kids,PB y:=by
       rcases d with⟨h|h,_⟩|⟨_,_,h⟩|⟨h,_⟩|⟨h,_⟩|⟨h|h,_⟩<;>first|exact h|omega
      apply aJ;simp;refine⟨aE,?_⟩;apply eP;simp;apply aW;refine aZ (ι:=Nat) (λi=>bA [(1,.bx 1 0),(3,.d (.str (wordAt x.kind++32::(x.text++32::123::32::kR (x.kids.take i))))),(4,.d (aI i))]) (λi=>aK [(1,.box false [.d (aI x.kind),.d (.str x.text),.d (aI x.n),.d (ndsD x.kids)])]) (λi=>i<=x.kids.length) (λi=>x.kids.length-i) 0 (aA o [1,3,4] [(1,1)] (by simp[kR])) (C0 _) λi D=>?_;apply aF;apply bE;simp;refine⟨λp=>?_,λp=>?_⟩
      .apply aG;simp;apply eG;have f:i<x.kids.length:=aE;obtain⟨Y,I,F,O,P,Q⟩:=t _ (A2 f);have M:x.kids[i].n=I:=by rw[F];rfl
       have g:=jK x.kids[i].n aE aE;have v:=wE (l:=x.kids) i;have W:=cH x.kids[i].n;have K:=nM f;rw[weighN_eq x.kids[i]]at K;have H:(kR (x.kids.take i)).length<=9*weighL x.kids:=v;refine fF.rd [[65],[65],[65],[65],[65],[65],[65],[65],[65]] [[],[],[],[],[],[],[],[],[],[],[],[],[],[],[],[65]] (og 65 (.plain ⟨.d (.str (itoaS x.kids[i].n)),true⟩)) ?_;simp[f];refine⟨by(repeat' with_reducible apply And.intro)<;>first|omega|exact g|(simp only[C8,A3];omega),?_⟩;have:=nN x;apply aJ;simp;refine⟨aE,?_⟩;refine On.mk (i+1) (aA o [1,3,4] [(1,1)] (by simp[kR,Eu f,itemT])) ?_ ?_
       .omega
       .omega
      .apply bP;simp;apply aF;have f:i=x.kids.length:=aE;subst f;rw[B7];have v:=qT x.kids;have H:(kR x.kids).length<=9*weighL x.kids:=v;apply aJ;simp;refine⟨aE,?_⟩;apply aH;simp[textT,j,kR]
     .apply aG;simp;apply aF;have s:∃b,x=.mk x.kind x.text 0 [b]/\jH b:=by
       rcases d with⟨_,h⟩|⟨h,_⟩|⟨h,_⟩|⟨h,_⟩|⟨h|h,_⟩<;>first|exact h|omega
      obtain⟨c,E,B⟩:=s;have e:x.kids=[c]:=by rw[E];rfl
      rw[e]at n;simp only[weighL]at n;have L:=(eT c).2 B;have G:=(aAa c).2 B aE;refine bG (og 76 (.plain ⟨.d (.str (blockT c)),true⟩)) ?_;simp[e];refine⟨by(repeat' with_reducible apply And.intro)<;>first|omega|(simpa using G),?_⟩;apply aH;simp[textT,show x.kind=5\/x.kind=6 by omega,e]
end
section
attribute[local simp] aR bJ bF aO aL aX aP
attribute[local simp] kH.cond Nd.d_eq nd_t nd_dr nd_td ndsD aQ
theorem EF(p:UInt8->Bool)(s:bC)(i:Nat):firstIs p (s.drop i)=(decide (i<s.length)&&p (s[i]?.getD 0)):=by
 by_cases h:i<s.length
 .rw[C9 h,A6 h];simp[firstIs,h]
 .rw[C3 aE];simp[firstIs,h]
theorem uB(s:bC)(i:Nat)(a:s.length<=9223372036854775807):Ok prog 108 [.str s,aI i] ⟨.d (.bool (firstIs letterB (s.drop i))),true⟩:=by
 refine bT func108 rfl ntmps108 results108 λc X b=>?_;apply aD;simp;apply aD;simp;refine⟨λh _=>h,?_⟩;apply aH;simp;rw[EF,zX];simp[F7]
theorem yO(s:bC)(i:Nat)(a:s.length<=9223372036854775807):Ok prog 109 [.str s,aI i] ⟨.d (.bool (firstIs digitB (s.drop i))),true⟩:=by
 refine bT func109 rfl ntmps109 results109 λc X b=>?_;apply aD;simp;apply aD;simp;refine⟨λh _=>h,?_⟩;apply aH;simp;rw[EF,BJ];simp[F7]
def CC(s:bC)(i:Nat):Int:=if 0<wordN (s.drop i)then(i:Int)+wordN (s.drop i)else -1
def ldB(c:UInt8):Bool:=letterB c||digitB c
theorem EG(p q:UInt8->Bool)(s:bC):(firstIs p s||firstIs q s)=firstIs (λc=>p c||q c) s:=by cases s<;>rfl
theorem JW(s:bC):wordN s=if firstIs letterB s=true then(if runP ldB s<=16 then runP ldB s else 0)else 0:=by
 cases s with
 |nil=>rfl
 |cons c r=>rfl
theorem BS{p:UInt8->Bool}:∀{s:bC} {k:Nat},(∀m (h:m<k),firstIs p (s.drop m)=true)->firstIs p (s.drop k)=false->runP p s=k
 |[],0,_,_=>rfl
 |[],k+1,h,_=>by have:=h 0 aE;simp[firstIs]at this
 |c::r,0,_,h=>by
  have h:p c=false:=h;simp[runP,h]
 |c::r,k+1,h,h2=>by
  have a:p c=true:=h 0 aE;simp only[runP,a,if_true];rw[BS (s:=r) (k:=k) (λm b=>h (m+1) aE) h2]
theorem Zp{s:bC}{i k:Nat}(g:firstIs letterB (s.drop (i+k))=true\/firstIs digitB (s.drop (i+k))=true):i+k<s.length:=by
 refine A9 λq=>?_;rw[C3 aE]at g;rcases g with g|g<;>cases g
theorem aA3{s:bC}{i k:Nat}(g:firstIs letterB (s.drop (i+k))=true\/firstIs digitB (s.drop (i+k))=true):firstIs ldB (s.drop (i+k))=true:=by
 show firstIs (λc=>letterB c||digitB c) (s.drop (i+k))=true;rw[<-EG];rcases g with g|g<;>simp[g]
theorem JX(s:bC)(i:Nat)(w:i<=s.length)(x:s.length<=9223372036854775000):Ok prog 261 [.str s,aI i] ⟨.d (aI (CC s i)),true⟩:=by
 refine bT func261 rfl ntmps261 results261 λy X p=>?_;apply aD;simp;apply fE;have b:=uB s i aE;refine bG (og 8 (.plain ⟨.d (.bool (firstIs letterB (s.drop i))),true⟩)) ?_;simp;refine⟨b,?_⟩;apply aM;simp;refine⟨λb=>?_,λb=>?_⟩
 .apply aD;simp;apply aH;simp;unfold CC;have f:wordN (s.drop i)=0:=by rw[JW,if_neg (by simp[b])]
  rw[f,if_neg aE]
 .apply aG;simp;apply aD;simp;apply eG;refine aZ (ι:=Nat) (λk=>bA [(0,.d (.str s)),(1,.d (aI i)),(5,.d (aI ((i+k:Nat):Int)))]) (λk=>aK []) (λk=>i+k<=s.length/\∀m,m<k->firstIs ldB (s.drop (i+m))=true) (λk=>s.length-i-k) 0 (aA p [0,1,5] []) (⟨aE,λm h=>absurd h (D5 m)⟩) λk d=>?_;apply fE;have r:=uB s (i+k) aE;have t:=yO s (i+k) aE;refine bG (λ|13=>some<| .plain ⟨.d (.bool (firstIs letterB (s.drop (i+k)))),true⟩|17=>some<| .plain ⟨.d (.bool (firstIs digitB (s.drop (i+k)))),true⟩|_=>none) ?_;simp[-Int.natCast_add];refine⟨⟨r,λ_=>t⟩,?_⟩;apply aM;simp;refine⟨λj=>?_,λg q=>?_⟩
  .apply aG;simp;apply aW;apply aJ;simp;refine⟨aE,?_⟩;refine On.mk (k+1) (aA p [0,1,5] [] (by simp[Int.add_assoc])) ?_ ?_
   .have n:i+k<s.length:=Zp j;refine⟨aE,λm o=>?_⟩;by_cases e:m=k
    .rw[e];exact aA3 j
    .exact d.2 m aE
   .have n:i+k<s.length:=Zp j;omega
  .apply bP;simp;apply fE;have v:runP ldB (s.drop i)=k:=BS (λm o=>by rw[B6];exact d.2 m o) (by
    rw[B6];show firstIs (λc=>letterB c||digitB c) (s.drop (i+k))=false;rw[<-EG,g,q];rfl)
   have f:=JW (s.drop i);rw[if_pos b,v]at f;have l:0<k:=by
    rcases Nat.eq_zero_or_pos k with z|z
    .rw[z]at g;rw[Nat.add_zero,b]at g;cases g
    .exact z
   apply aJ;simp;refine⟨aE,?_⟩;apply aM;simp;refine⟨λu=>?_,λu=>?_⟩
   .apply aD;simp;apply aH;simp;unfold CC;have a:wordN (s.drop i)=0:=by rw[f,if_neg aE]
    rw[a,if_neg aE]
   .apply aG;simp;apply aD;simp;apply aH;simp;unfold CC;have a:wordN (s.drop i)=k:=by rw[f,if_pos aE]
    rw[a,if_pos l]
theorem Vm(l:List bC)(w:bC):Ok prog 96 [qO l,.str w] ⟨.d (.bool (decide (w∈l))),true⟩:=by
 refine bT func96 rfl ntmps96 results96 λh X f=>?_;refine fF.len (t:=0) rfl λb=>?_;simp at b;apply aD;simp;apply eP;simp;apply aW;refine aZ (ι:=Nat) (λi=>bA [(0,.d (qO l)),(1,.d (.str w)),(5,.d (aI i))]) (λi=>aK []) (λi=>i<=l.length/\w∉l.take i) (λi=>l.length-i) 0 (aA f [0,1,5] []) (⟨C0 _,bB⟩) λi a=>?_;apply aF;apply bE;simp;refine⟨λg=>?_,λg=>?_⟩
 .apply aG;simp;apply eG;apply aF;have c:i<l.length:=aE;apply aJ;simp[c];apply aM;simp;refine⟨λd=>?_,λd=>?_⟩
  .apply aD;simp;apply aH;simp;rw[<-d];exact(A2 c)
  .apply aG;simp;apply aJ;simp;refine⟨aE,?_⟩;refine On.mk (i+1) (aA f [0,1,5] []) ?_ ?_
   .refine⟨aE,?_⟩;have c:i<l.length:=aE;rw[<-List.take_append_getElem c];simp only[C5,List.mem_singleton,not_or];exact⟨a.2,λe=>d e.symm⟩
   .omega
 .apply bP;simp;apply aD;simp;apply aH;simp;have e:=a.2;rw[List.take_of_length_le aE]at e;exact e
end
end Go.Eng
