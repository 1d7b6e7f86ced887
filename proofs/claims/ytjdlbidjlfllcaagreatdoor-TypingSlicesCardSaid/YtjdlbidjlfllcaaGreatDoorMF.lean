/- Part 6 of the proof. No condition. -/
import Derived.Test.YtjdlbidjlfllcaaGreatDoorME
import Derived.Shelf.SortM.Plain
import Derived.Shelf.SortM.SortNone
import Derived.Shelf.SlGeneric
import Derived.Test.YtjdlbidjlfllcaaGreatDoorProg
import Derived.RangeFuncNested
import Derived.Maps.RangeRun
import Derived.Shelf.SlIter.Collect
open Go.Proofs
open Go.Proofs.Tryz
set_option linter.unusedVariables false
set_option linter.unusedSimpArgs false
set_option maxRecDepth 20000
set_option maxHeartbeats 4000000
namespace Go.Eng
section
attribute[local simp] kQ.cond Nd.d_eq nd_t nd_dr nd_td ndsD
theorem RX(x:Nd)(hx:Ok prog 130 [x.d] ⟨.d (.bool (rightN x)),true⟩):Ok prog 166 [x.d] ⟨.d (.bool (!rightN x)),true⟩:=by
 refine Ok.ret func166 bY (c:=_) rfl ntmps166 aM results166 (by intro _ h;cases h) λw0 X hp=>?_;apply aD;simp;refine cJ (λ|4=>some<| .plain ⟨.d (.bool (rightN x)),true⟩|_=>none) ?_;simp;refine⟨by simpa using hx,?_⟩;apply aH;simp
theorem NF(x:Nd)(hw:weighN x<=1000000000)(ih:∀y∈x.kids,weighN y<=1000000000->Ok prog 130 [y.d] ⟨.d (.bool (rightN y)),true⟩):Ok prog 130 [x.d] ⟨.d (.bool (rightN x)),true⟩:=by
 refine Ok.ret func130 bY (c:=_) rfl ntmps130 aM results130 (by intro _ h;cases h) λw0 X hp=>?_;apply aD;simp;apply aG;have hs:=RM x;have hwo:=worded_ok x;have hl:x.text.length<=9223372036854775807:=by have:=weighN_eq x;omega
 have ha:=Kj x.kids (λy=> !rightN y) 166 [] (λy hy=>RX y (ih y hy (by have:=weigh_mem hy;have:=weighN_eq x;omega)));refine aP (λ|13=>some<| .plain ⟨.d (.bool (shapedB x)),true⟩|17=>some<| .plain ⟨.d (.bool (wordedB x)),true⟩|22=>some<| .plain ⟨.d (.bool (x.kids.any λy=> !rightN y)),true⟩|_=>none) ?_;simp;refine⟨⟨⟨λ_ _=>by simpa using hs,λh0 h1 _=>by simpa using hwo ⟨h0,h1⟩ hl⟩,λ_ _ _ _=>ha⟩,?_⟩;apply aH;simp;rw[rightN_eq,List.all_eq_not_any_not]
theorem Vi(x:Nd):weighN x<=1000000000->Ok prog 130 [x.d] ⟨.d (.bool (rightN x)),true⟩:=
 nE (p:=λx=>weighN x<=1000000000->Ok prog 130 [x.d] ⟨.d (.bool (rightN x)),true⟩) (λ_ _ _ _ ih hw=>NF _ hw (λy hy=>ih y hy)) x
theorem Kp(x:Nd)(hw:weighN x<=1000000000):Ok prog 74 [x.d] ⟨.d (.bool (validB x)),true⟩:=by
 refine Ok.ret func74 bY (c:=_) rfl ntmps74 aM results74 (by intro _ h;cases h) λw0 X hp=>?_;apply aD;simp;apply aG;have h1:=UV x hw;have h2:=Vi x hw;have h3:=PJ x;have h4:=@xF x;refine aP (λ|13=>some<| .plain ⟨.d (aI (depthN x)),true⟩|18=>some<| .plain ⟨.d (.bool (rightN x)),true⟩|22=>some<| .plain ⟨.d (.str (textT x)),true⟩|_=>none) ?_;simp;refine⟨⟨⟨λ_ _=>by simpa using h1,λ_ _ _=>by simpa using h2⟩,λa b _ d=>by simpa using h3 (h4 d a b) hw⟩,?_⟩;apply aH;simp[validB];rw[show decide ((depthN x:Int)<=24)=decide (depthN x<=24) from by rw[decide_eq_decide];omega,show decide (((textT x).length:Int)<=1024)=decide ((textT x).length<=1024) from by rw[decide_eq_decide];omega]
theorem RY{x:Nd}(h:validB x=true):Nw x:=by
 simp only[validB,Bool.and_eq_true,decide_eq_true_eq]at h;exact xF h.1.2 h.1.1.1.1 h.1.1.1.2
theorem Vj(x:Nd)(hw:weighN x<=1000000000):Ok prog 105 [x.d] ⟨.d (.str (printS x)),true⟩:=by
 refine Ok.ret func105 bY (c:=_) rfl ntmps105 aM results105 (by intro _ h;cases h) λw0 X hp=>?_;apply aD;simp;apply eA;have v1:=Kp x hw;refine aP (λ|4=>some<| .plain ⟨.d (.bool (validB x)),true⟩|_=>none) ?_;simp;refine⟨by simpa using v1,?_⟩;apply aJ;simp;refine⟨λh1=>?_,λh1=>?_⟩
 ·apply aD;simp;apply aH;simp[printS,h1]
 ·apply aF;simp;apply aG;have hv:=RY h1;have h4:=PJ x hv hw;refine aP (λ|7=>some<| .plain ⟨.d (.str (textT x)),true⟩|_=>none) ?_;simp;refine⟨by simpa using h4,?_⟩;apply aH;simp[printS,h1]
end
section
attribute[local simp] kQ.cond Nd.d_eq nd_t nd_dr nd_td ndsD aZ yP
theorem NG:Ok prog 76 [] ⟨.d fitD,false⟩:=by
 refine Ok.ret func76 bY (c:=_) rfl ntmps76 aM results76 (by intro _ h;cases h) λw0 X hp=>?_;apply aD;simp;apply aD;simp[cF];apply aH;simp[fitD,Eg,sJ]
theorem Ii(x:Nd):Ok prog 45 [x.d] ⟨.d (.fn 75 [.ro [aI x.kind,.str x.text,aI x.n,ndsD x.kids]]),false⟩:=by
 refine Ok.ret func45 bY (c:=_) rfl ntmps45 aM results45 (by intro _ h;cases h) λw0 X hp=>?_;apply aD;simp;apply aD;simp;apply aH;simp
structure Ij(F:Pw prog)(y wv:Value)(us:List cZ):Prop where
 yield:∀(i:Nat) (u:cZ),us[i]? =some u->oQ F (.val y) [aI u.bk,u.d] i 1 (.bool true)
 walk:∀K i W,F.T K i W->RD W (F.X K W) (.fn 77 [.ro [fitD],.ro [.val y],.ro [.val wv]]) wv
def yU(F:Pw prog)(wv:Value)(us:List cZ)(x:Nd):Prop:=
 ∀i,(∀(j:Nat) (u:cZ),(bJ x)[j]? =some u->us[i+j]? =some u)->oQ F (.val wv) [x.d] i (bJ x).length (.bool true)
theorem Ik{b:Bool}(w:World)(E:Nat->Prop)(v:Value)(h:RD w E (.bool b) v):v=.bool b:=by cases h;rfl
theorem ZR{n:Int}(w:World)(E:Nat->Prop)(v:Value)(h:RD w E (aI n) v):v=.int .i64 n:=by cases h;rfl
theorem ZS{F:Pw prog}{wv:Value}{us:List cZ}{x:Nd}(h:yU F wv us x)(i:Nat)(hu:∀(j:Nat) (u:cZ),(bJ x)[j]? =some u->us[i+j]? =some u):
 oQ F (.fn 80 [.ro [.val wv]]) [x.d] i (bJ x).length (.bool false):=by
 have hc:=h i hu;refine kU (pins:=[2]) func80 bY (c:=_) rfl ntmps80 aM results80 Ik bY ?_;repeat refine FB.seq ?_
 refine DU λw0 X hp=>Nx hT hW ?_;simp[gN];refine vK (λw0 hp=>(iH.freeze [2]).trans (oP [1,2] [(2,2)] bC bC (by simp[hp,dP]) rfl rfl)) ?_;simp;repeat refine FB.seq ?_
 refine nC hT hW [(2,.box true [.d (aI x.kind),.d (.str x.text),.d (aI x.n),.d (.sl (x.kids.map Nd.d))])] rfl (by rfl) aM 2 rfl rfl rfl rfl bC (rd:=.bool true) (r:=.bool true) (λ_ _=>.bool _) hc ?_;simp[gN];refine⟨rfl,?_⟩;refine FB.ret ?_;exact⟨trivial,rfl,aM⟩
theorem Il{us:List cZ}{a b:List cZ}{i:Nat}(h:∀(j:Nat) (u:cZ),(a++b)[j]? =some u->us[i+j]? =some u):(∀(j:Nat) (u:cZ),a[j]? =some u->us[i+j]? =some u)/\∀(j:Nat) (u:cZ),b[j]? =some u->us[i+a.length+j]? =some u:=by
 refine⟨λj u hj=>h j u ?_,λj u hj=>?_⟩
 ·have:=(List.getElem?_eq_some_iff.1 hj).1;rw[List.getElem?_append_left this];exact hj
 ·rw[Nat.add_assoc];exact h (a.length+j) u (by rw[List.getElem?_append_right aE];rw[show a.length+j-a.length=j by omega];exact hj)
theorem XQ{F:Pw prog}{wv:Value}{us:List cZ}{ks:List Nd}(h:∀k∈ks,yU F wv us k)(i:Nat)(hu:∀(j:Nat) (u:cZ),(eJ ks)[j]? =some u->us[i+j]? =some u):
 oQ F (.fn 133 []) [ndsD ks,.fn 80 [.ro [.val wv]]] i (eJ ks).length (.int .i64 (-1)):=by
 refine kU (pins:=[]) func133 bY (c:=_) rfl ntmps133 aM results133 ZR bY ?_;refine FB.len (t:=0) rfl λhlen=>?_;simp at hlen;repeat refine FB.seq ?_
 refine jU hT hW (λ_=>none) ?_;simp[gN];repeat refine FB.seq ?_
 refine jU hT hW (λ_=>none) ?_;simp[gN];repeat refine FB.seq ?_
 refine FB.block ?_;refine FB.loop (ι:=Nat) (λj=>aR [(0,.d (ndsD ks)),(1,.d (.fn 80 [.ro [.val wv]])),(7,.d (aI (ks.length:Nat))),(8,.d (aI (j:Nat)))]) (λ_=>aL []) (λj=>i+(eJ (ks.take j)).length) (λj=>j<=ks.length) (λj=>ks.length-j) 0
  (λw0 hp=>aA hp [0,1,7,8] []) rfl (Nat.zero_le _) λj hj=>?_
 repeat refine FB.seq ?_
 refine jU hT hW (λ_=>none) ?_;simp[gN];repeat refine FB.seq ?_
 refine FB.cond (b:=decide (j<ks.length)) aM (λhlt=>?_) λhge=>?_
 ·have hlt:j<ks.length:=by simpa using hlt
  obtain⟨k,hk⟩:∃k,ks[j]=k:=⟨_,rfl⟩;have hkm:k∈ks:=by rw[<-hk];exact List.getElem_mem hlt
  have hsplit:eJ ks=eJ (ks.take j)++(bJ k++eJ (ks.drop (j+1))):=by
   conv=>lhs;rw[<-List.take_append_drop j ks]
   rw[usesL_append,List.drop_eq_getElem_cons hlt,eJ,hk]
  have hc:=ZS (h k hkm) (i+(eJ (ks.take j)).length) (Il (Il (by rw[<-hsplit];exact hu)).2).1;have hnext:(eJ (ks.take (j+1))).length=(eJ (ks.take j)).length+(bJ k).length:=by rw[usesL_succ hlt,List.length_append,hk]
  refine FB.skip ?_;simp[gN];repeat refine FB.seq ?_
  refine FB.block ?_;repeat refine FB.seq ?_
  refine jU hT hW (λ_=>none) ?_;simp[gN];repeat refine FB.seq ?_
  refine nC hT hW [] rfl (by rfl) aM 5 rfl rfl rfl rfl bC (rd:=.bool false) (r:=.bool false) (λ_ _=>.bool _) hc ?_;simp[gN,hlt,hk];refine⟨rfl,?_⟩;refine FB.cond (b:=false) aM (λh=>by cases h) λ_=>?_;refine FB.skip ?_;simp[gN,CV];refine jU hT hW (λ_=>none) ?_;simp[gN];refine⟨aE,j+1,λw0 hp=>aA hp [0,1,7,8] [],aE,aE,aE⟩
 ·have hge:¬j<ks.length:=by simpa using hge
  have he:j=ks.length:=aE;subst he;refine FB.exit ?_;simp[gN,CV];repeat refine FB.seq ?_
  refine jU hT hW (λ_=>none) ?_;simp[gN];refine FB.ret ?_;exact⟨trivial,aM,aM⟩
theorem PL{F:Pw prog}{wv:Value}{us:List cZ}{ks:List Nd}(h:∀k∈ks,yU F wv us k)(i:Nat)(hu:∀(j:Nat) (u:cZ),(eJ ks)[j]? =some u->us[i+j]? =some u):
 oQ F (.fn 79 []) [ndsD ks,.fn 80 [.ro [.val wv]]] i (eJ ks).length (.bool false):=by
 have hc:=XQ h i hu;refine kU (pins:=[]) func79 bY (c:=_) rfl ntmps79 aM results79 Ik bY ?_;repeat refine FB.seq ?_
 refine jU hT hW (λ_=>none) ?_;simp[gN];repeat refine FB.seq ?_
 refine nC hT hW [] rfl (by rfl) aM 2 rfl rfl rfl rfl bC (rd:=aI (-1)) (r:=.int .i64 (-1)) (λ_ _=>.int _ _) hc ?_;simp[gN];refine⟨rfl,?_⟩;refine FB.ret ?_;exact⟨trivial,rfl,aM⟩
theorem Vk{x:Nd}(h:Eg.findIdx? (λy=>decide (x.kind=y))=none):bJ x=eJ x.kids:=by rw[usesN_eq];unfold fG Ko;rw[h];rfl
theorem Kq{x:Nd}{j:Nat}(h:Eg.findIdx? (λy=>decide (x.kind=y))=some j):bJ x=⟨x.kind,sJ.getD j 0,qL 46 x.text,qM 46 x.text⟩::eJ x.kids:=by rw[usesN_eq];unfold fG Ko;rw[h];rfl
theorem ZT{j:Nat}:(sJ.map aI)[j]?.getD default=aI (sJ.getD j 0)\/sJ.length<=j:=by
 by_cases h:j<sJ.length
 ·left;simp[h,List.getD_eq_getElem?_getD]
 ·right;omega
theorem RZ{F:Pw prog}{y wv:Value}{us:List cZ}(C:Ij F y wv us)(x:Nd)(hw:weighN x<=1000000000)(h:∀k∈x.kids,yU F wv us k):yU F wv us x:=by
 intro i hu;have body:oQ F (.fn 77 [.ro [fitD],.ro [.val y],.ro [.val wv]]) [x.d] i (bJ x).length (.bool true):=by
  have hwx:=weighN_eq x;refine kU (pins:=[4]) func77 bY (c:=_) rfl ntmps77 aM results77 Ik bY ?_;repeat refine FB.seq ?_
  refine jU hT hW (λ_=>none) ?_;simp[gN];refine vK (λw0 hp=>(iH.freeze [4]).trans (oP [1,2,3,4] [(4,4)] bC bC (by simp[hp,dP]) rfl rfl)) ?_;simp;cases e:Eg.findIdx? (λy=>decide (x.kind=y))with
  |none=>
   rw[Vk e]at hu|-;have hc:=PL h i hu;repeat refine FB.seq ?_
   refine jU hT hW (λ_=>none) ?_;simp[gN,cR,fitD,findD_int,e,bD];repeat refine FB.seq ?_
   refine jU hT hW (λ_=>none) ?_;simp[gN];repeat refine FB.seq ?_
   refine FB.cond (b:=false) aM (λh=>by cases h) λ_=>?_;refine FB.skip ?_;simp[gN];repeat refine FB.seq ?_
   refine vK (λw0 hp=>oP [3,4] [(4,4)] bC bC (by simp[hp,dP]) rfl rfl) ?_;simp;refine nC hT hW [(4,.box true [.d (aI x.kind),.d (.str x.text),.d (aI x.n),.d (.sl (x.kids.map Nd.d))])] rfl (by rfl) aM 3 rfl rfl rfl rfl bC (rd:=.bool false) (r:=.bool false) (λ_ _=>.bool _) hc ?_;simp[gN];refine⟨rfl,?_⟩;refine FB.ret ?_;exact⟨trivial,by simp[Nat.add_assoc],aM⟩
  |some j=>
   have hj:j<10:=by
    have:=(List.findIdx?_eq_some_iff_getElem.1 e).1;exact this
   have hfit:(sJ.map aI)[j]?.getD default=aI (sJ.getD j 0):=ZT.resolve_right (by show¬10<=j;omega);simp at hfit;obtain⟨f,hf⟩:∃f,sJ.getD j 0=f:=⟨_,rfl⟩;rw[Kq e,hf]at hu;rw[Kq e,hf];simp[List.getD_eq_getElem?_getD]at hf;rw[hf]at hfit;have h0:=hu 0 _ rfl;have hy:=C.yield i _ h0;have hc:=PL h (i+1) (Il (a:=[_]) hu).2;have hcut:=Vh x.text 46 aE;repeat refine FB.seq ?_
   refine jU hT hW (λ_=>none) ?_;simp[gN,cR,fitD,findD_int,e,bD,hfit];repeat refine FB.seq ?_
   refine jU hT hW (λ_=>none) ?_;simp[gN];repeat refine FB.seq ?_
   refine FB.cond (b:=true) aM (λ_=>?_) λh=>by cases h
   repeat refine FB.seq ?_
   refine jU hT hW (λ|22=>some (.plain ⟨.tup [.d (.str (qL 46 x.text)),.d (.str (qM 46 x.text)),.d (.bool (Ah 46 x.text))],true⟩)|_=>none) ?_;simp[gN,bD];refine⟨hcut,?_⟩;repeat refine FB.seq ?_
   refine nC hT hW [(4,.box true [.d (aI x.kind),.d (.str x.text),.d (aI x.n),.d (.sl (x.kids.map Nd.d))])] rfl (by rfl) aM 7 rfl rfl rfl rfl bC (rd:=.bool true) (r:=.bool true) (λ_ _=>.bool _) hy ?_;simp[gN,cZ.d];refine⟨rfl,?_⟩;repeat refine FB.seq ?_
   refine FB.cond (b:=false) aM (λh=>by cases h) λ_=>?_;refine FB.skip ?_;simp[gN];repeat refine FB.seq ?_
   refine vK (λw0 hp=>oP [3,4] [(4,4)] bC bC (by simp[hp,dP]) rfl rfl) ?_;simp;refine nC hT hW [(4,.box true [.d (aI x.kind),.d (.str x.text),.d (aI x.n),.d (.sl (x.kids.map Nd.d))])] rfl (by rfl) aM 3 rfl rfl rfl rfl bC (rd:=.bool false) (r:=.bool false) (λ_ _=>.bool _) hc ?_;simp[gN];refine⟨rfl,?_⟩;refine FB.ret ?_;exact⟨trivial,by simp[Nat.add_assoc,Nat.add_comm 1],aM⟩
 intro K W v vs ht hv hvs;cases hv with
 |val _ _=>exact body K W wv vs ht (C.walk K i W ht) hvs
end
section
open Go.Proofs Go.RowKit
attribute[local simp] kQ.cond Nd.d_eq nd_t nd_dr nd_td ndsD aZ bF
theorem Vl{F:Pw prog}{y wv:Value}{us:List cZ}(C:Ij F y wv us)(x:Nd):weighN x<=1000000000->yU F wv us x:=
 nE (p:=λx=>weighN x<=1000000000->yU F wv us x) (λk t n ks ih hw=>RZ C (.mk k t n ks) hw λc hc=>ih c hc (by
  have h1:weighN c<=weighL ks:=weigh_mem hc;have h2:weighN (.mk k t n ks)=weighL ks+t.length+1:=weighN_eq _;omega)) x
def Ai(u:cZ):XI where
 ds:=[aI u.bk,u.d]
 vs:=[.int .i64 u.bk,.agg #[.int .i64 u.kind,.string ⟨u.name.toArray⟩,.string ⟨u.field.toArray⟩]]
 rd:=λw E=>.cons (.int _ _) (.cons (.agg [aI u.kind,.str u.name,.str u.field] [.int .i64 u.kind,.string ⟨u.name.toArray⟩,.string ⟨u.field.toArray⟩] rfl (by simp[Value.oneCell']) (by
  intro i c v hc hv
  match i,hc,hv with
  |0,hc,hv=>cases hc;cases hv;exact .int _ _
  |1,hc,hv=>cases hc;cases hv;exact .str _
  |2,hc,hv=>cases hc;cases hv;exact .str _)) .nil)
theorem Vm{w:World}{E:Nat->Prop}{u:cZ}{vs:List Value}(h:Mm w E [aI u.bk,u.d] vs):vs=(Ai u).vs:=by
 match vs,h.1 with
 |[a,b],_=>
  have h0:=h.2 0 _ _ rfl rfl;have h1:=h.2 1 _ _ rfl rfl;cases h0;cases h1 with
  |agg _ us hl _ hc=>
   match us,hl with
   |[p,q,r],_=>
    have c0:=hc 0 _ _ rfl rfl;have c1:=hc 1 _ _ rfl rfl;have c2:=hc 2 _ _ rfl rfl;cases c0;cases c1;cases c2;rfl
theorem Aj{P:Program}{N:Nat}{w0:cX}{X:Nat->Prop}{env:eD}{H:dM}{β:Nat->Option Nat}{a:Act}{w:World}{x:Code}{K:Exit->Act->World->Prop}(E':eD)(O':dM)(s:mC N w0 X env H β a w)(hf:w0.flat=true)(hc:mY x=true)
 (h:eW P N w0 X x (JZ w0 E' O') env H)(k:∀β' a' w',mC N w0 X E' O' β' a' w'->K .normal a' w'):x.wpIn (RF none) 0 P K a w:=by
 refine wpIn_mono (h none (.inr ⟨hc,hf⟩) β a w s) ?_;rintro e a' w' ⟨lx,env',H',β',g1,s1,g2,g3⟩;cases lx with
 |exit id=>exact g2.elim
 |ret=>exact g2.elim
 |normal=>
  cases e<;>simp only[gM]at g1;obtain⟨β2,s2⟩:=g3 _ _ _ _ _ s1;exact k β2 a' w' s2
theorem Im{w:World}{E:Nat->Prop}{β:Nat->Option Nat}{H:dM}{id:Nat}{fz:Bool}{l:LV}(h:dO w E β H id)(hH:H id=.box fz [l]):∃b e u,β id=some b/\w.heap[b]? =some (.cells #[u] e (0,0))/\u.oneCell'=true/\Eng.R w E β H l u:=by
 unfold dO at h;rw[hH]at h;obtain⟨b,e,us,h1,h2,h3,h4,h5⟩:=h
 match us,h3 with
 |[u],_=>exact⟨b,e,u,h1,h2,h4 u aM,h5 0 _ _ rfl rfl⟩
theorem xI{w:World}{E:Nat->Prop}{β:Nat->Option Nat}{H:dM}{id b off:Nat}{v:Value}(h:Eng.R w E β H (.bx id off) v)(hb:β id=some b)(hl:(H id).live=true):v=.pointer (some ⟨b,off,none⟩):=by
 cases h with
 |bx _ _ b' _ _ _ hb'=>rw[hb]at hb';cases hb';rfl
 |bxdead _ _ _ hH _=>rw[hH]at hl;cases hl
theorem Bh(x:Nd)(hw:weighN x<=1000000000):UH prog 75 [.ro [aI x.kind,.str x.text,aI x.n,ndsD x.kids]] ((bJ x).map Ai):=by
 refine⟨⟨_,func75,bY,rfl⟩,?_⟩;intro w X lb l J hX hlb hj0 hjg hjy;obtain⟨yv,hyv⟩:∃yv,yv=Value.func (.yield l) #[] #[]:=⟨_,rfl⟩;rw[<-hyv];refine(callsIn_wide (n:=0)).1 (callsIn_of_wp func75 rfl trivial ?_ rfl);have s0:mC 10 ⟨w,λ_=>none,λ_=>.absent,[],true⟩ X (gY [.val yv,.ro [aI x.kind,.str x.text,aI x.n,ndsD x.kids]]) (aL []) (λ_=>none) ⟨(#[yv]++lb.toArray)++Array.replicate (Tryz.f75.ntmps-(#[yv]++lb.toArray).size) undef,[]⟩ w:=by
  match lb,hlb.1 with
  |[p],_=>
  refine⟨FS.nil,?_,⟨rfl,rfl,rfl,Nat.le_refl _,λ_ _ _=>rfl,Nat.le_refl _⟩,⟨λk hk=>⟨hX.1 k hk,λ⟨id,h,_⟩=>by cases h⟩,hX.2.anti λk hk=>hk.resolve_right λ⟨id,h,_⟩=>by cases h⟩,λid b hl _=>by simp[aL,fI,bB.live]at hl,λi j b hi _=>by simp[aL,fI,bB.live]at hi,λt=>?_,λid=>?_,λid h=>by cases h⟩
  ·simp[ntmps75]
  ·rw[qW]
   match t with
   |0=>exact .d _ _ (by simp;exact .val yv (by rw[hyv];rfl))
   |1=>exact .d _ _ (by
     simp;exact(hlb.2 0 _ _ rfl rfl).anti λk hk=>hk.resolve_right λ⟨id,h1,_⟩=>by simp[aL,fI,bB.mut]at h1)
   |t+2=>exact .junk _
  ·simp[dO,aL,fI]
 generalize hA:(⟨(#[yv]++lb.toArray)++Array.replicate (Tryz.f75.ntmps-(#[yv]++lb.toArray).size) undef,[]⟩:Act)=act at s0|-;clear hA;have kf:=NG;obtain⟨rd,hrd⟩:∃rd:DV,rd=.ro [aI x.kind,.str x.text,aI x.n,ndsD x.kids]:=⟨_,rfl⟩;repeat refine wpIn_seq ?_
 refine Aj (aR [(1,.d rd),(2,.bx 2 0)]) (aL [(2,.box false [.d (.val yv)])]) s0 rfl bY ?_ λβ1 a1 w1 s1=>?_
 ·apply aK;simp[hrd];exact oP [1,2] [(2,2)] bC bC aM aM (by simp;rfl)
 show Code.wpIn _ _ _ _ _ _ _;repeat refine wpIn_seq ?_
 refine Aj (aR [(1,.d rd),(2,.bx 2 0),(3,.bx 3 0)]) (aL [(2,.box false [.d (.val yv)]),(3,.box false [.d fitD])]) s1 rfl bY ?_ λβ2 a2 w2 s2=>?_
 ·refine aP (λ|5=>some (.plain ⟨.d fitD,false⟩)|_=>none) ?_;simp;refine⟨⟨kf,rfl⟩,?_⟩;exact oP [1,2,3] [(2,2),(3,3)] bC bC aM aM (by simp;rfl)
 show Code.wpIn _ _ _ _ _ _ _;repeat refine wpIn_seq ?_
 refine Aj (aR [(1,.d rd),(2,.bx 2 0),(3,.bx 3 0),(4,.bx 4 0)]) (aL [(2,.box false [.d (.val yv)]),(3,.box false [.d fitD]),(4,.box false [.d (.val Value.nilFunc)])]) s2 rfl bY ?_ λβ3 a3 w3 s3=>?_
 ·apply aK;simp;exact oP [1,2,3,4] [(2,2),(3,3),(4,4)] bC bC aM aM aM
 show Code.wpIn _ _ _ _ _ _ _;repeat refine wpIn_seq ?_
 refine Aj (aR [(1,.d rd),(2,.bx 2 0),(3,.bx 3 0),(4,.bx 4 0)]) (aL [(2,.box true [.d (.val yv)]),(3,.box true [.d fitD]),(4,.box true [.fn 77 [.bx 3 0,.bx 2 0,.bx 4 0]])]) s3 rfl bY ?_ λβ4 a4 W2 s4=>?_
 ·apply aK;simp;refine(iH.freeze [2,3,4]).trans (oP [1,2,3,4] [(2,2),(3,3),(4,4)] bC bC aM ?_ ?_)<;>simp
 show Code.wpIn _ _ _ _ _ _ _;have bel:zN w.heap.size w W2:=s4.ext.bel λk ⟨id,h,_⟩=>by cases h
 obtain⟨b2,e2,u2,hb2,hh2,ho2,hr2⟩:=Im (s4.obj 2) (fz:=true) (l:=.d (.val yv)) rfl;obtain⟨b3,e3,u3,hb3,hh3,ho3,hr3⟩:=Im (s4.obj 3) (fz:=true) (l:=.d fitD) rfl;obtain⟨b4,e4,wv,hb4,hh4,ho4,hr4⟩:=Im (s4.obj 4) (fz:=true) (l:=.fn 77 [.bx 3 0,.bx 2 0,.bx 4 0]) rfl;have hu2:u2=yv:=by cases hr2 with|d _ _ h=>cases h;rfl
 subst hu2;have new:∀id b,(aL [(2,bB.box true [.d (.val u2)]),(3,.box true [.d fitD]),(4,.box true [.fn 77 [.bx 3 0,.bx 2 0,.bx 4 0]])] id).live=true->β4 id=some b->w.heap.size<=b/\b<W2.heap.size:=λid b h1 h2=>by
  have h3:=s4.fresh id b h1 h2;refine⟨h3.1.resolve_right λh=>?_,h3.2⟩;obtain⟨⟨i0,h0,_⟩,_⟩:=h;cases h0
 have n2:=new 2 b2 rfl hb2;have n3:=new 3 b3 rfl hb3;have n4:=new 4 b4 rfl hb4;have nomut:∀id,(aL [(2,bB.box true [.d (.val u2)]),(3,.box true [.d fitD]),(4,.box true [.fn 77 [.bx 3 0,.bx 2 0,.bx 4 0]])] id).mut=false:=AX rfl;obtain⟨p3,p2,p4,hwv,hp3,hp2,hp4⟩:∃p3 p2 p4,wv=.func (.func 77) #[] #[p3,p2,p4]/\p3=.pointer (some ⟨b3,0,none⟩)/\p2=.pointer (some ⟨b2,0,none⟩)/\p4=.pointer (some ⟨b4,0,none⟩):=by
  cases hr4 with
  |fn _ _ vs hl hc=>
   match vs,hl with
   |[q3,q2,q4],_=>exact⟨q3,q2,q4,rfl,xI (hc 0 _ _ rfl rfl) hb3 rfl,xI (hc 1 _ _ rfl rfl) hb2 rfl,xI (hc 2 _ _ rfl rfl) hb4 rfl⟩
 have hfit:RD W2 X fitD u3:=by
  cases hr3 with
  |d _ _ h=>exact h.anti λk hk=>.inl hk
 have hGX:yI W2 X:=hX.2.step (λk hk _=>bel.block k hk) bel.size λ_ _ h=>h
 let F:Pw prog:={
  T:=λK i W=>J K i W/\(∀k,w.heap.size<=k->k<W2.heap.size->K k)/\W2.heap.size<=W.heap.size/\(∀k,k<W2.heap.size->¬X k->W.heap[k]? =W2.heap[k]?)/\∀k,K k->k<W.heap.size
  S:=λk=>k<W2.heap.size/\¬X k
  grow:=λK i W W' ⟨h1,h2,h3,h4,h5⟩ bel=>⟨hjg K i W W' h1 bel,λk a b=>.inl (h2 k a b),Nat.le_trans h3 bel.size,λk a b=>(bel.block k aE).trans (h4 k a b),λk hk=>by
   have:=bel.size;rcases hk with hk|hk
   ·have:=h5 k hk;omega
   ·exact hk.2⟩
  low:=λK i W k h hk=>h.2.2.2.2 k hk
  same:=λK i W K' i' W' k h h' hs=>(h'.2.2.2.1 k hs.1 hs.2).trans (h.2.2.2.1 k hs.1 hs.2).symm
  glob:=λK i W h=>hGX.step (λk hk hn=>h.2.2.2.1 k hk hn) h.2.2.1 λk hk he=>Classical.byContradiction λhx=>he.2 (.inr ⟨hk,hx⟩)}
 have ht0:F.T (λk=>w.heap.size<=k/\k<W2.heap.size) 0 W2:=⟨hj0 W2 bel,λk a b=>⟨a,b⟩,Nat.le_refl _,λ_ _ _=>rfl,λk hk=>hk.2⟩;have hXlt:∀k,X k->k<w.heap.size:=hX.1;have C:Ij F u2 wv (bJ x):=by
  refine⟨λi u hu K W v vs ht hv hvs=>?_,λK i W ht=>?_⟩
  ·have hv:v=u2:=by cases hv;rfl
   refine .inr ⟨l,hv.trans hyv,?_⟩;have hvs:=Vm hvs;subst hvs;obtain⟨fn,tm,ag,bo,r1,r2⟩:=hjy K i W (Ai u) ht.1 (by rw[List.getElem?_map,hu];rfl);refine⟨fn,tm,ag,bo,r1,r2.mono ?_⟩;rintro e W' ⟨rfl,q1,q2,q3⟩;have hsz:=ht.2.2.1;refine⟨rfl,K,⟨q1,ht.2.1,Nat.le_trans hsz q2,λk a b=>?_,λk hk=>Nat.lt_of_lt_of_le (ht.2.2.2.2 k hk) q2⟩,q2,λk hk=>⟨hk,q3 k (.inl hk)⟩⟩;refine(q3 k ?_).trans (ht.2.2.2.1 k a b);by_cases h:k<w.heap.size
   ·exact .inr ⟨h,b⟩
   ·exact .inl (ht.2.1 k aE a)
  ·have hsz:=ht.2.2.1;have blk:∀b,w.heap.size<=b->b<W2.heap.size->¬F.X K W b/\b<W.heap.size/\W.heap[b]? =W2.heap[b]? :=λb h1 h2=>
    ⟨λh=>h.2.elim (.inl (ht.2.1 b h1 h2)),aE,ht.2.2.2.1 b h2 λhx=>by have:=hXlt b hx;omega⟩
   have box:∀b u (d:DV) (e:TypeId),w.heap.size<=b/\b<W2.heap.size->W2.heap[b]? =some (.cells #[u] e (0,0))->u.oneCell'=true->RD W (F.X K W) d u->RD W (F.X K W) (.ro [d]) (.pointer (some ⟨b,0,none⟩)):=λb u d e hb hh h1 hd=>by
    obtain⟨z1,z2,z3⟩:=blk b hb.1 hb.2;refine .ro [d] b 0 [u] z1 rfl (by simpa using h1) z2 (λj v hj=>?_) λi c v hc hv=>?_
    ·match j,hj with
     |0,hj=>cases hj;simp[World.cell?,z3,hh]
    ·match i,hc,hv with
     |0,hc,hv=>cases hc;cases hv;exact hd
   have key:RD W (F.X K W) (.fn 77 [.ro [fitD],.ro [.val u2],.ro [.val wv]]) (.func (.func 77) #[] [p3,p2,p4].toArray):=by
    refine .fn _ _ [p3,p2,p4] rfl λi c v hc hv=>?_
    match i,hc,hv with
    |0,hc,hv=>
     cases hc;cases hv;rw[hp3];exact box b3 u3 fitD e3 n3 hh3 ho3 (hfit.step (λk hk hn=>ht.2.2.2.1 k hk hn) hsz λk hk he=>Classical.byContradiction λhx=>he.2 (.inr ⟨hk,hx⟩))
    |1,hc,hv=>
     cases hc;cases hv;rw[hp2];exact box b2 u2 _ e2 n2 hh2 ho2 (.val _ ho2)
    |2,hc,hv=>
     cases hc;cases hv;rw[hp4];exact box b4 wv (.val wv) e4 n4 hh4 ho4 (.val _ ho4)
   have e:(Value.func (.func 77) #[] [p3,p2,p4].toArray)=wv:=hwv.symm;rw[e]at key;exact key
 have hroot:=Vl C x hw 0 (λj u hj=>by rw[Nat.zero_add];exact hj);obtain⟨m6,g6⟩:=s4.mem.rebox (b:=4) (fz:=true) (cs:=[.fn 77 [.bx 3 0,.bx 2 0,.bx 4 0]]) (cs':=[.d (.val wv)]) rfl rfl λi c c' v hc hc' hr=>by
  match i,hc,hc' with
  |0,hc,hc'=>
   cases hc;cases hc';have:v=wv:=by
    rw[hwv];cases hr with
    |fn _ _ vs hl hc=>
     match vs,hl with
     |[q3,q2,q4],_=>rw[hp3,hp2,hp4,xI (hc 0 _ _ rfl rfl) hb3 rfl,xI (hc 1 _ _ rfl rfl) hb2 rfl,xI (hc 2 _ _ rfl rfl) hb4 rfl]
   rw[this];exact .d _ _ (.val wv ho4)
 have hO:cE (aL [(2,bB.box true [.d (.val u2)]),(3,.box true [.d fitD]),(4,.box true [.fn 77 [.bx 3 0,.bx 2 0,.bx 4 0]])]) 4 (.box true [.d (.val wv)])=aL [(2,bB.box true [.d (.val u2)]),(3,.box true [.d fitD]),(4,.box true [.d (.val wv)])]:=by
  funext j;by_cases h2:j=2
  ·subst h2;rfl
  ·by_cases h3:j=3
   ·subst h3;rfl
   ·by_cases h4:j=4
    ·subst h4;rfl
    ·simp[cE,aL,fI,h2,h3,h4]
 rw[hO]at m6 g6;have s4b:mC 10 ⟨w,λ_=>none,λ_=>.absent,[],true⟩ X (aR [(1,.d rd),(2,.bx 2 0),(3,.bx 3 0),(4,.bx 4 0)]) (aL [(2,bB.box true [.d (.val u2)]),(3,.box true [.d fitD]),(4,.box true [.d (.val wv)])]) β4 a4 W2:=
  ⟨g6.marks s4.defers,s4.size,m6.ext,m6.xold,m6.fresh,m6.inj,λt=>g6.R (s4.env t),m6.obj,m6.pin⟩
 have nomut2:∀id,(aL [(2,bB.box true [.d (.val u2)]),(3,.box true [.d fitD]),(4,.box true [.d (.val wv)])] id).mut=false:=AX rfl;have s5:=s4b.effect (X':=F.X (λk=>w.heap.size<=k/\k<W2.heap.size) W2) [2,3,4] (λid h=>by
  have:=nX id h;simpa using this) (s4b.nodefer rfl) (Nat.le_refl _) (λ_ _ _=>rfl) (λk hk he=>Classical.byContradiction λhx=>he.2 (.inr ⟨hk,hx⟩)) (λk he=>he.1) (F.glob _ _ _ ht0)
 refine wpIn_mono ((nC (F:=F) (pins:=[2,3,4]) (Q:=λe _ _ i'=>(match e with| .normal=>True|_=>False)/\i'=0+(bJ x).length) hT hW [(2,.box true [.d (.val u2)]),(3,.box true [.d fitD]),(4,.box true [.d (.val wv)])] rfl (by rfl) aM 2 rfl rfl rfl rfl bC
  (rd:=.bool true) (r:=.bool true) (λ_ _=>.bool _) hroot ?_) bY ⟨W2,β4,_,[2,3,4],true⟩ _ β4 a4 W2 rfl rfl (λk ⟨id,_,h,_⟩=>by rw[nomut2 id]at h;cases h) ht0 s5) ?_
 ·simp[hrd,yP];rfl
 ·rintro e a' w' ⟨lx,env',H',i',w1,K',β',q1,q2,q3,q4,q5,q6,q7,q8,q9,q10⟩;subst q10;cases lx with
  |exit id=>exact q9.elim
  |ret=>exact q9.elim
  |normal=>
  cases e<;>simp only[gM]at q1;have bel2:=q8.ext.bel q4;have hg:=F.grow K' _ _ _ q5 bel2;exact⟨q8.nodefer q2,.tuple #[],by simp[results,results75],⟨_,rfl⟩,_,by rw[List.length_map];have:=hg.1;rw[Nat.zero_add]at this;exact this⟩
end
section
attribute[local simp] kQ.cond Nd.d_eq nd_t nd_dr nd_td ndsD aZ
def gH(l:List Nd):List aW:=(l.filter λk=>decide (k.kind=7)).map Nd.text
def bL(x:Nd):List aW:=gH x.kids
theorem Ak{l:List Nd}{i:Nat}(hi:i<l.length):gH (l.take (i+1))=if l[i].kind=7 then gH (l.take i)++[l[i].text]else gH (l.take i):=by
 unfold gH;rw[List.take_succ_eq_append_getElem hi,List.filter_append];by_cases h:l[i].kind=7<;>simp[h]
theorem vR(l:List Nd):(gH l).length<=l.length:=by unfold gH;rw[List.length_map];exact List.length_filter_le _ _
theorem GB(x:Nd)(hw:weighN x<=1000000000):Ok prog 100 [x.d] ⟨.own 1 ((bL x).map .str),true⟩:=by
 refine Ok.ret func100 bY (c:=_) rfl ntmps100 aM results100 (by intro _ h;cases h) λw0 X hp=>?_;have hwx:=weighN_eq x;have hkl:=weigh_len (l:=x.kids);apply aD;simp;apply aD;simp;apply dT;simp;apply aO;refine aU (ι:=Nat) (λi=>aR [(3,.ow 3 0 (gH (x.kids.take i)).length),(7,.d (ndsD x.kids)),(8,.d (aI (x.kids.length:Nat))),(9,.d (aI (i:Nat)))]) (λi=>aL [(3,.row false 1 ((gH (x.kids.take i)).map .str))]) (λi=>i<=x.kids.length) (λi=>x.kids.length-i) 0 (aA hp [3,7,8,9] [(3,3)] (by simp[gH]) (by simp[gH])) (Nat.zero_le _) λi hi3=>?_;apply aD;simp;apply aG;apply aJ;simp;refine⟨λh3=>?_,λh3=>?_⟩
 ·apply aF;simp;apply dH;apply aG;have hi:i<x.kids.length:=aE;obtain⟨k,hk⟩:∃k,x.kids[i]=k:=⟨_,rfl⟩;have hn:=Ak hi;have hfl:=vR (x.kids.take i);rw[List.length_take]at hfl;rw[hk]at hn;apply aK;simp[hi,hk];apply aV;simp;refine⟨λh5=>?_,λh5=>?_⟩
  ·simp only[if_pos h5]at hn;apply aK;simp;refine⟨aE,?_⟩;apply aK;simp;refine⟨aE,?_⟩;refine Pq.mk (i+1) (aA hp [3,7,8,9] [(20,3)] (by simp[hn]) (by simp[hn])) ?_ ?_
   ·omega
   ·omega
  ·simp only[if_neg h5]at hn;apply aF;simp;apply aK;simp;refine⟨aE,?_⟩;refine Pq.mk (i+1) (aA hp [3,7,8,9] [(3,3)] (by simp[hn]) (by simp[hn])) ?_ ?_
   ·omega
   ·omega
 ·apply bE;simp;apply aD;simp;apply aH;have he:i=x.kids.length:=aE;subst he;rw[List.take_length];simp[bL]
def oJ(ts:List Nd):List DV:=ts.map λt=>.str t.text
def oV(n:Nat):List DV:=(List.range n).map λ(i:Nat)=>aI (i:Int)
def yV(ts:List Nd):DV:=.agg [ndsD ts,.mp (oJ ts) (oV ts.length)]
def oH(ts:List Nd)(name:aW):Option Nat:=ts.findIdx? λt=>decide (name=t.text)
theorem sK(name:aW):∀(ts:List Nd) (i:Nat),iF (.str name) (oJ ts) i=some ((oH ts name).map (·+i))
 |[],i=>rfl
 |x::r,i=>by
  have e:kI (.str name) (.str x.text)=some (decide (name=x.text)):=by
   simp only[kI,Jk,Option.some.injEq];by_cases h:name=x.text<;>simp[h]
  unfold oJ oH;rw[List.map_cons,iF,e,List.findIdx?_cons];by_cases h:name=x.text
  ·simp[h]
  ·simp only[h,decide_false,Bool.false_eq_true,if_false];have:=sK name r (i+1);unfold oJ oH at this;rw[this];cases r.findIdx? (λt=>decide (name=t.text))with
   |none=>rfl
   |some j=>simp;omega
theorem vS{ts:List Nd}{name:aW}{j:Nat}(h:oH ts name=some j):j<ts.length:=by
 unfold oH at h;exact(List.findIdx?_eq_some_iff_getElem.1 h).1
theorem PM{n j:Nat}(h:j<n):(oV n)[j]?.getD default=aI (j:Nat):=by simp[oV,h]
def iP(ts:List Nd)(u:cZ):Int:=match oH ts u.name with
 |none=>6
 |some j=>if(ts.getD j default).kind≠u.kind then 12 else if u.kind=1/\u.field∉bL (ts.getD j default)then -1 else 0
def Kr(e:Int):Int:=if e=12 then 1 else if e= -1 then 2 else 0
def jH(out e:Int):Int:=if out=0\/Kr e<Kr out then e else out
def Bi(ts:List Nd)(us:List cZ):Int:=us.foldl (λout u=>if iP ts u=0 then out else jH out (iP ts u)) 0
def FG(ts:List Nd)(x:Nd):Int:=if Bi ts (bJ x)= -1 then 6 else Bi ts (bJ x)
def oK(e:Int):Prop:=e=0\/e=6\/e=12\/e= -1
theorem Bj(ts:List Nd)(u:cZ):oK (iP ts u):=by
 unfold iP oK;split
 ·simp
 ·split
  ·simp
  ·split<;>simp
theorem Sa(ts:List Nd)(us:List cZ):oK (Bi ts us):=by
 have key:∀(us:List cZ) (o:Int),oK o->oK (us.foldl (λout u=>if iP ts u=0 then out else jH out (iP ts u)) o):=λus=>by
  induction us with
  |nil=>exact λo h=>h
  |cons u r ih=>
   intro o h;refine ih _ ?_;show oK (if iP ts u=0 then o else jH o (iP ts u));split
   ·exact h
   ·unfold jH;split
    ·exact Bj ts u
    ·exact h
 exact key us 0 (.inl rfl)
def Al:DV:=.mp [aI 6,aI 12,aI (-1)] [aI 0,aI 1,aI 2]
theorem GC{H:Nat->bB}{e:Int}(h:oK e):cR T H 152 (.d Al) (.d (aI e)) false=⟨.d (aI (Kr e)),True,[]⟩:=by
 rcases h with rfl|rfl|rfl|rfl<;>simp[cR,Al,iF,kI,Jk,Kr]
theorem Eh(out e:Int)(ho:oK out)(he:oK e):iG prog 103 [.d (aI e),.d Al,.bx 0 0] [(0,.box false [.d (aI out)])] [(0,.box false [.d (aI (jH out e))])] (.tup []):=by
 refine fY func103 bY (c:=_) rfl ntmps103 aM results103 λw0 X hp=>?_;apply aD;simp[GC ho,GC he];apply aJ;simp;refine⟨λh0=>?_,λh0 h1=>?_⟩
 ·have hwr:jH out e=e:=by unfold jH;rw[if_pos h0]
  apply aK;simp;simp[hwr];exact aA hp [] [(0,0)]
 ·have hwr:jH out e=out:=by unfold jH;rw[if_neg aE]
  apply aF;simp;simp[hwr];exact aA hp [] [(0,0)]
def Xj(ts:List Nd)(name:aW):Int:=((oH ts name).getD 0:Nat)
theorem In{H:Nat->bB}{ts:List Nd}{n:Nat}(hn:n=ts.length){name:aW}:cR T H 52 (.d (.mp (oJ ts) (oV n))) (.d (.str name)) true=⟨.tup [.d (aI (Xj ts name)),.d (.bool (oH ts name).isSome)],True,[]⟩:=by
 subst hn;unfold Xj;cases h:oH ts name with
 |none=>simp[cR,sK,h]
 |some j=>
  have:=PM (vS h);simp[cR,sK,h,this]
def rK(x:Nd)(i:Nat):cZ:=(bJ x).getD i ⟨0,0,[],[]⟩
theorem xJ{x:Nd}{i:Nat}{u:cZ}(h:(bJ x)[i]? =some u):rK x i=u:=by unfold rK;rw[List.getD_eq_getElem?_getD,h];rfl
end
end Go.Eng
namespace Go.Proofs
open Go.Shelf
def Tryz.sortStr_ren:Go.Shelf.Ren:=⟨λ|6=>35|8=>69|9=>68|19=>115|20=>116|21=>106|22=>107|23=>108|24=>109|25=>110|26=>111|27=>112|28=>113|29=>114|36=>149|31=>150|32=>151|37=>152|38=>153|39=>71|41=>176|n=>n,λ|27=>32|29=>9|3=>3|32=>107|26=>32|0=>0|44=>163|46=>165|4=>4|36=>156|35=>155|41=>88|5=>5|9=>9|53=>178|57=>182|63=>192|64=>193|n=>n,λ|n=>n⟩
theorem Tryz.sortStr:Go.Proofs.SlLaysM.n6 prog Tryz.sortStr_ren:={
 mixed:=by kernel_rfl,
 f6:=⟨Tryz.f35.name,by decide,func35.trans (congrArg some (by kernel_rfl))⟩,
 f8:=func69.trans (congrArg some (by kernel_rfl)),
 f9:=⟨Tryz.f68.name,by decide,func68.trans (congrArg some (by kernel_rfl))⟩,
 f19:=func115.trans (congrArg some (by kernel_rfl)),
 f20:=func116.trans (congrArg some (by kernel_rfl)),
 f21:=⟨Tryz.f106.name,by decide,func106.trans (congrArg some (by kernel_rfl))⟩,
 f22:=⟨Tryz.f107.name,by decide,func107.trans (congrArg some (by kernel_rfl))⟩,
 f23:=⟨Tryz.f108.name,by decide,func108.trans (congrArg some (by kernel_rfl))⟩,
 f24:=⟨Tryz.f109.name,by decide,func109.trans (congrArg some (by kernel_rfl))⟩,
 f25:=⟨Tryz.f110.name,by decide,func110.trans (congrArg some (by kernel_rfl))⟩,
 f26:=⟨Tryz.f111.name,by decide,func111.trans (congrArg some (by kernel_rfl))⟩,
 f27:=⟨Tryz.f112.name,by decide,func112.trans (congrArg some (by kernel_rfl))⟩,
 f28:=⟨Tryz.f113.name,by decide,func113.trans (congrArg some (by kernel_rfl))⟩,
 f29:=⟨Tryz.f114.name,by decide,func114.trans (congrArg some (by kernel_rfl))⟩,
 f31:=func150.trans (congrArg some (by kernel_rfl)),
 f32:=func151.trans (congrArg some (by kernel_rfl)),
 f36:=⟨Tryz.f149.name,by decide,func149.trans (congrArg some (by kernel_rfl))⟩,
 f37:=⟨Tryz.f152.name,by decide,func152.trans (congrArg some (by kernel_rfl))⟩,
 f38:=⟨Tryz.f153.name,by decide,func153.trans (congrArg some (by kernel_rfl))⟩,
 f39:=⟨Tryz.f71.name,by decide,func71.trans (congrArg some (by kernel_rfl))⟩,
 f41:=⟨Tryz.f176.name,by decide,func176.trans (congrArg some (by kernel_rfl))⟩,
 t0:=underlying0,
 a0:=isAgg0,
 z0:=sizeOf0,
 v0:=zeroValue0,
 t3:=underlying3,
 a3:=isAgg3,
 z3:=sizeOf3,
 v3:=zeroValue3,
 t4:=underlying4,
 a4:=isAgg4,
 z4:=sizeOf4,
 v4:=zeroValue4,
 t5:=underlying5,
 a5:=isAgg5,
 z5:=sizeOf5,
 v5:=zeroValue5,
 t9:=underlying9,
 a9:=isAgg9,
 z9:=sizeOf9,
 v9:=zeroValue9,
 t26:=underlying32,
 a26:=isAgg32,
 z26:=sizeOf32,
 v26:=zeroValue32,
 t27:=underlying32,
 a27:=isAgg32,
 z27:=sizeOf32,
 v27:=zeroValue32,
 t29:=underlying9,
 a29:=isAgg9,
 z29:=sizeOf9,
 v29:=zeroValue9,
 t32:=underlying107,
 a32:=isAgg107,
 z32:=sizeOf107,
 v32:=zeroValue107,
 t35:=underlying155,
 a35:=isAgg155,
 z35:=sizeOf155,
 v35:=zeroValue155,
 t36:=underlying156,
 a36:=isAgg156,
 z36:=sizeOf156,
 v36:=zeroValue156,
 t41:=underlying88,
 a41:=isAgg88,
 z41:=sizeOf88,
 v41:=zeroValue88,
 t44:=underlying163,
 a44:=isAgg163,
 z44:=sizeOf163,
 v44:=zeroValue163,
 t46:=underlying165,
 a46:=isAgg165,
 z46:=sizeOf165,
 v46:=zeroValue165,
 t53:=underlying178,
 a53:=isAgg178,
 z53:=sizeOf178,
 v53:=zeroValue178,
 t57:=underlying182,
 a57:=isAgg182,
 z57:=sizeOf182,
 v57:=zeroValue182,
 t63:=underlying192,
 a63:=isAgg192,
 z63:=sizeOf192,
 v63:=zeroValue192,
 t64:=underlying193,
 a64:=isAgg193,
 z64:=sizeOf193,
 v64:=zeroValue193}
end Go.Proofs
namespace Go.Eng
open Go.Proofs Go.Sort Go.Shelf Go.RowKit
def tK(x:aW):Value:=.string ⟨x.toArray⟩
def aW.enc(x:aW):List Value:=[tK x]
theorem qB:zX 1 DV.str aW.enc where
 pos:=bC
 len:=λ_=>rfl
 lenD:=λ_=>rfl
 one:=λx v hv=>by simp[aW.enc]at hv;subst hv;rfl
 cell:=λx i c v hc hv w E u=>by
  match i,hc,hv with
  |0,hc,hv=>simp[aW.enc,aQ]at hc hv;subst hc;subst hv;exact⟨λh=>by cases h;rfl,λh=>h▸ .str _⟩
def dS(l:List aW):List aW:=l.mergeSort λx y=>decide (x<=y)
theorem jW(l:List aW):(dS l).length=l.length:=List.length_mergeSort _
theorem Io{cur:Array Value}{s:List aW}(h:s.length<=cur.size):putCells encStr 0 s.toArray cur=(dI 0 cur.toList (s.flatMap aW.enc)).toArray:=by
 have hsf:(s.flatMap aW.enc).length=s.length:=by have:=qB.flat_len s;simpa using this
 apply Array.ext_getElem?;intro i;rw[show(dI 0 cur.toList (s.flatMap aW.enc)).toArray[i]? =(dI 0 cur.toList (s.flatMap aW.enc))[i]? from aM,gL (by rw[Nat.zero_add,hsf];simpa using h)];simp only[putCells,Array.getElem?_mapIdx,Nat.not_lt_zero,if_false,Nat.zero_add,List.size_toArray,hsf,Nat.sub_zero,Nat.zero_le,true_and];by_cases hi:i<s.length
 ·have hic:i<cur.size:=aE;have hm:s.flatMap aW.enc=s.map tK:=by
   clear h hsf hi;induction s with
   |nil=>rfl
   |cons x t ih=>simp[aW.enc,ih]
  simp only[hi,if_true,Array.getElem?_eq_getElem hic,Option.map_some];rw[hm];simp[hi,getElem!_def,encStr,tK]
 ·simp only[hi,if_false];rw[Array.getElem?_toList];cases cur[i]? <;>rfl
set_option maxRecDepth 100000 in
theorem yW(l:List aW)(hl:l.length<=8000000000000):iG prog 35 [.ow 0 0 l.length] [(0,.row false 1 (l.map .str))] [(0,.row false 1 ((dS l).map .str))] (.tup []):=by
 refine⟨⟨_,func35,bY,by rfl⟩,λw X β vs m hvl hr=>?_⟩;have hH:aL [(0,bB.row false 1 (l.map DV.str))] 0=.row false 1 (l.map .str):=by simp[aL,fI]
 have hfin:∀o,aL [(0,o)]=cE (aL [(0,bB.row false 1 (l.map DV.str))]) 0 o:=λo=>by
  funext j;simp only[aL,fI,cE];split<;>rfl
 generalize hHd:aL [(0,bB.row false 1 (l.map DV.str))]=H at*
 match vs,hvl with
 |[v0],_=>
 have r0:=hr 0 _ _ rfl rfl;rcases zS m hH r0 with⟨b,c,cur,e,rfl,hb,hkn,hn,hc,hblk,hroom,hcap⟩|⟨p,rfl,hz,_⟩
 ·have hob:=m.obj 0;simp only[dO,hH]at hob;obtain⟨hpos,hall,hob⟩:=hob;rcases hob with⟨hnone,_⟩|⟨b',e',cur',hb',hblk2,hlen',hpo⟩
  ·rw[hnone]at hb;cases hb
  rw[hb]at hb';injection hb' with hb';subst hb'
  rw[hblk]at hblk2;injection hblk2 with hblk2;injection hblk2 with p1 p2;subst p1;subst p2
  rw[List.length_map]at hlen';have htk:=qB.holds hlen' (λi c v hc hv=>(hpo i c v hc hv).2);have hfl:(l.flatMap aW.enc).length=l.length:=by have:=qB.flat_len l;simpa using this
  have hmap:∀l:List aW,l.flatMap aW.enc=l.map tK:=λl=>by
   induction l with
   |nil=>rfl
   |cons x t ih=>simp[aW.enc,ih]
  have hlb:=(Array.getElem?_eq_some_iff.1 hblk).1;have hhold:Holds encStr w b 0 l.toArray:=by
   intro j hj;simp only[List.size_toArray]at hj;have hjc:j<cur.size:=aE;refine⟨?_,by simp[World.frozen?,hblk]⟩;rw[cell_of_row w b _ cur e (0,0) hblk,Nat.zero_add,Array.getElem?_eq_getElem hjc];have h1:(cur.toList.take (l.length*1))[j]? =some cur[j]:=by rw[List.getElem?_take,if_pos aE];simp[hjc]
   rw[htk,hmap]at h1;simp[hj]at h1;rw[<-h1];simp[encStr,tK,hj]
  have hcon:=AnyM.slices_Sort_string Tryz.sortStr b 0 c l w hhold hlb aE;rw[show #[Value.slice (some ⟨b,0,none⟩) l.length c]=[Value.slice (some ⟨b,0*1,none⟩) l.length c].toArray from rfl]at hcon;refine hcon.mono ?_;rintro ee w' ⟨rfl,n,os,rfl⟩;have hsl:=jW l;change ∃v β',_/\dR _ X _ β' (grow (putRow encStr (Sort.ahead w n) b 0 (dS l).toArray) os)/\R (grow (putRow encStr (Sort.ahead w n) b 0 (dS l).toArray) os) _ _ _ _ v;generalize dS l=s at*;have hsf:(s.flatMap aW.enc).length=s.length:=by have:=qB.flat_len s;simpa using this
  have hput:(putRow encStr (Sort.ahead w n) b 0 s.toArray).heap[b]? =some (.cells (dI 0 cur.toList (s.flatMap aW.enc)).toArray e (0,0)):=by
   rw[<-Io aE];unfold putRow mapBlock;simp only[heap_ahead,Array.getElem?_modify,if_pos,hblk,Option.map_some];rfl
  have hother:∀j,j≠b->(putRow encStr (Sort.ahead w n) b 0 s.toArray).heap[j]? =w.heap[j]? :=λj hj=>by
   unfold putRow mapBlock;simp only[heap_ahead,Array.getElem?_modify,Ne.symm hj,if_false]
  have hsize:(putRow encStr (Sort.ahead w n) b 0 s.toArray).heap.size=w.heap.size:=aM;have hcl:cur.toList.length=cur.size:=aM;have hpl:(dI 0 cur.toList (s.flatMap aW.enc)).toArray.size=cur.size:=by rw[List.size_toArray,fW (by rw[Nat.zero_add,hsf,hcl];omega)];exact hcl
  have hstk:(dI 0 cur.toList (s.flatMap aW.enc)).toArray.toList.take (s.length*1)=s.flatMap aW.enc:=by
   unfold dI;simp[hsf]
  obtain⟨m1,g1⟩:=m.rewriteG (id:=0) (b:=b) (o':=.row false 1 (s.map .str)) (w':=putRow encStr (Sort.ahead w n) b 0 s.toArray) (by rw[hH];rfl) hb rfl rfl rfl (Nat.le_add_right _ _) hsize hother (by
   unfold bQ;rw[hH,aX];refine .inr ⟨⟨false,s.map .str,rfl,by simp[hsl]⟩,rfl,λb' c' t hbb hblk'=>?_⟩;rw[hb]at hbb;injection hbb with hbb;subst hbb
   rw[hblk]at hblk';injection hblk' with hblk';injection hblk' with q1 q2;subst q1;subst q2
   exact⟨_,e,hput,hpl⟩) (λ_ _=>by
   unfold dO;rw[aX];obtain⟨z1,z2⟩:=qB.reads hstk;exact⟨hpos,qB.all s,.inr ⟨b,e,_,hb,hput,by simpa using z1,z2 _ _⟩⟩)
  obtain⟨m2,g2⟩:=m1.grow (w':=grow (putRow encStr (Sort.ahead w n) b 0 s.toArray) os) ⟨rfl,rfl,rfl,aM,λj hj=>heap_grow_old _ _ hj,Nat.le_refl _⟩;refine⟨_,β,rfl,?_,.tup [] [] rfl aM⟩;rw[hfin];exact m2
 ·have hl0:l=[]:=List.eq_nil_of_length_eq_zero hz;subst hl0;refine(AnyM.slices_Sort_string_none Tryz.sortStr p 0 w).mono ?_;rintro e w' ⟨rfl,rfl⟩;refine⟨_,β,rfl,?_,.tup [] [] rfl aM⟩;rw[hfin,show dS []=[] from by simp[dS],DF hH];exact m
theorem oW(l:List aW):(dS l).Pairwise λx y=>x<=y:=by
 have:=List.pairwise_mergeSort (le:=λx y:aW=>decide (x<=y)) (λa b c h1 h2=>by simp at*;exact List.le_trans h1 h2) (λa b=>by simp;exact List.le_total a b) l;exact this.imp λh=>by simpa using h
theorem NH{p s:List aW}(h:p.Perm s):dS p=dS s:=
 List.Perm.eq_of_pairwise (le:=λx y:aW=>x<=y) (λa b _ _ h1 h2=>List.le_antisymm h1 h2) (oW p) (oW s) (((List.mergeSort_perm p _).trans h).trans (List.mergeSort_perm s _).symm)
section
open Go.RowKit Go.Maps Go.Sort Go.Shelf Go.Proofs
open Go.ChangeMaps (setBlock)
open Go.ChangeMaps (setBlock)
section
variable{P:Program} {F:Fence} {n:Nat} (w:World) {ops:Array Oper} {rest:List Oper} {o:Oper} {a:Act} {Q:Exit->Act->World->Prop}
structure NI(es:Array MapEntry)(vs:List MapEntry)(seen:Array Nat):Prop where
 mem:∀e∈vs,e∈es.toList
 nd:(vs.map (·.born)).Nodup
 seen:seen.toList=vs.map (·.born)
theorem Ei{es:Array MapEntry}{clock:Nat}(h:gD es clock):(es.toList.map (·.born)).Nodup:=by
 rw[List.Nodup,List.pairwise_map,List.pairwise_iff_getElem];intro i j hi hj hij e;have:=h.2 i j _ _ aM aM e;omega
theorem tL{α β:Type}{f:α->β}:∀{l:List α},(l.map f).Nodup->l.Nodup
 |[],_=>aM
 |a::l,h=>by
  simp only[List.map_cons,List.nodup_cons]at h|-;exact⟨λhm=>h.1 (List.mem_map.2 ⟨a,hm,rfl⟩),tL h.2⟩
theorem NI.perm{es:Array MapEntry}{clock:Nat}{vs:List MapEntry}{seen:Array Nat}(h:NI es vs seen)(hb:gD es clock)(hl:(leftOf es seen).size=0):vs.Perm es.toList:=by
 refine(List.perm_ext_iff_of_nodup (tL h.nd) (tL (Ei hb))).2 λe=>⟨h.mem e,λhe=>?_⟩;have hs:e.born∈seen:=by
  have:leftOf es seen= #[]:=Array.eq_empty_of_size_eq_zero hl;unfold leftOf at this;rw[Array.filter_eq_empty_iff]at this;have:=this e (by simpa using he);simpa using this
 have hs':e.born∈vs.map (·.born):=by rw[<-h.seen];simpa using hs
 obtain⟨e',he',hee⟩:=List.mem_map.1 hs';obtain⟨i,hi,hie⟩:=List.getElem_of_mem he;obtain⟨j,hj,hje⟩:=List.getElem_of_mem (h.mem e' he');have:=hb.2 j i e' e (by rw[<-hje];simp) (by rw[<-hie];simp) hee;subst this;rw[<-hie,hje];exact he'
theorem NI.step{es:Array MapEntry}{vs:List MapEntry}{seen:Array Nat}(h:NI es vs seen){e:MapEntry}(he:e∈(leftOf es seen).toList):NI es (vs++[e]) (seen.push e.born):=by
 unfold leftOf at he;simp only[Array.toList_filter,List.mem_filter,Bool.not_eq_true']at he;refine⟨λx hx=>?_,?_,by simp[h.seen]⟩
 ·rcases List.mem_append.1 hx with hx|hx
  ·exact h.mem x hx
  ·simp at hx;subst hx;exact he.1
 ·rw[List.map_append,List.nodup_append];refine⟨h.nd,aM,λx hx y hy e'=>?_⟩;simp at hy;subst hy;subst e';rw[<-h.seen]at hx;have:=he.2;simp at this;exact this (by simpa using hx)
theorem Ej:∀{l m:List Nat},l.Nodup->(∀x∈l,x∈m)->l.length<=m.length
 |[],_,_,_=>Nat.zero_le _
 |a::l,m,h,hs=>by
  simp only[List.nodup_cons]at h;have ha:a∈m:=hs a (List.mem_cons_self ..);have:=Ej h.2 (m:=m.erase a) (λx hx=>(List.mem_erase_of_ne (show x≠a from λe=>by subst e;exact h.1 hx)).2 (hs x (List.mem_cons_of_mem _ hx)));rw[List.length_erase_of_mem ha]at this;have:=List.length_pos_of_mem ha;simp only[List.length_cons];omega
theorem NI.size{es:Array MapEntry}{clock:Nat}{vs:List MapEntry}{seen:Array Nat}(h:NI es vs seen)(hb:gD es clock):seen.size<=es.size:=by
 have h1:seen.size=vs.length:=by have:=congrArg List.length h.seen;simpa using this
 rw[h1];have:=Ej h.nd (m:=es.toList.map (·.born)) (λx hx=>by obtain⟨e,he,rfl⟩:=List.mem_map.1 hx;exact List.mem_map.2 ⟨e,h.mem e he,rfl⟩);simpa using this
theorem FH{w:World}{r:Nat}{o o':Obj}(h:w.heap[r]? =some o):(setBlock w r o').heap[r]? =some o'/\∀k,k≠r->(setBlock w r o').heap[k]? =w.heap[k]? :=by
 have hlt:=(Array.getElem?_eq_some_iff.1 h).1;refine⟨by simp[setBlock,hlt],λk hk=>?_⟩;simp only[setBlock];rw[Array.getElem?_setIfInBounds_ne (λe=>hk e.symm)]
theorem yX(hg:o.guard=none)(m:Operand)(t:TypeId)(hop:o.op=Op.range t m)(k e:TypeId)(ht:P.underlying t=some (.map k e)){b clock:Nat}{es:Array MapEntry}(hm:a.eval m=.map (some b))(hb:w.heap[b]? =some (.map es clock))
 (hK:wpListIn F n P ops Q rest (a.put o.dst (.pointer (some ⟨w.heap.size,0,none⟩))) (w.alloc (.mapIter (some b) clock #[] clock))):wpListIn F n P ops Q (o::rest) a w:=by
 refine wpListIn_plain hg λK' hK'=>?_;have hrun:(Instr.range t (.map (some b))).run P w=.ok (.pointer (some ⟨w.heap.size,0,none⟩)) (w.alloc (.mapIter (some b) clock #[] clock)):=by
  simp[Instr.range,run_underlying ht,getObj,Sem.run,hb,Result.andThen,run_newObj_alloc]
 unfold Oper.wpIn;refine⟨by simp[Oper.about,hop],?_⟩;rw[Oper.semAt_plain F _ _ (by rw[hop];intro c hc';cases hc')];simp[execOp,hop,hm,hrun,Result.andThen];exact hK' _ _ hK
theorem Am(hg:o.guard=none)(it:Operand)(hop:o.op=Op.next it false){b r clock since c0:Nat}{es:Array MapEntry}{seen:Array Nat}{vs:List MapEntry}(hne:r≠b)(hit:a.eval it=.pointer (some ⟨r,0,none⟩))
 (hr:w.heap[r]? =some (.mapIter (some b) since seen c0))(hb:w.heap[b]? =some (.map es clock))(hborn:gD es clock)(hsc:since<=c0)(hcs:clock<=since)(hC:NI es vs seen)
 (hDone:vs.Perm es.toList->wpListIn F n P ops Q rest (a.put o.dst (.tuple #[.bool false])) w)
 (hMore:∀(e:MapEntry) (w':World),e∈es.toList->NI es (vs++[e]) (seen.push e.born)->w'.heap[r]? =some (.mapIter (some b) since (seen.push e.born) clock)->w.grownBy w' (some r)->w.drawn<=w'.drawn->
   (Instr.entry (.pointer (some ⟨r,0,none⟩))).run P w'=.ok (.tuple #[e.key,e.val]) w'->wpListIn F n P ops Q rest (a.put o.dst (.tuple #[.bool true,e.key,e.val])) w'):
 wpListIn F n P ops Q (o::rest) a w:=by
 refine wpListIn_plain hg λK' hK'=>?_;unfold Oper.wpIn;refine⟨by simp[Oper.about,hop],?_⟩;rw[Oper.semAt_plain F _ _ (by rw[hop];intro c hc';cases hc')];have hold:∀x∈es.toList,x.born<since:=λx hx=>by
  obtain⟨i,hi,hix⟩:=List.getElem_of_mem hx;have:=hborn.1 i x (by rw[<-hix];simp);omega
 rcases run_next_at (P:=P) w o.type r b since c0 seen es clock hr hb hold hsc with⟨h0,hrun⟩|⟨e,he,w1,hal,hrun⟩
 ·simp[execOp,hop,hit,hrun,Result.andThen];exact hK' _ _ (hDone (hC.perm hborn h0))
 ·have hr1:w1.heap[r]? =some (.mapIter (some b) since seen c0):=by rcases hal with rfl|rfl<;>exact hr
  have hb1:w1.heap[b]? =some (.map es clock):=by rcases hal with rfl|rfl<;>exact hb
  have hset:=FH (o':=.mapIter (some b) since (seen.push e.born) clock) hr1;have hb':(setBlock w1 r (.mapIter (some b) since (seen.push e.born) clock)).heap[b]? =some (.map es clock):=(hset.2 b (λe1=>hne e1.symm)).trans hb1;have hem:e∈es.toList:=(mem_left he).1;simp[execOp,hop,hit,hrun,Result.andThen];refine hK' _ _ (hMore e _ hem (hC.step he) hset.1 ?_ ?_ (run_entry_at _ r b since seen es clock e hset.1 hb' hem (Ei hborn)))
  ·rcases hal with rfl|rfl<;>exact⟨rfl,rfl,rfl,by simp[setBlock],λi _ hi=>hset.2 i (λe1=>hi (by rw[e1]))⟩
  ·rcases hal with rfl|rfl
   ·exact Nat.le_refl _
   ·exact Nat.le_succ _
end
def NJ(n r:Nat)(W:World):Nat:=n-(match W.heap[r]? with|some (.mapIter _ _ seen _)=>seen.size|_=>0)
theorem GD{n r:Nat}{W:World}{m:Option Nat}{a c:Nat}{seen:Array Nat}(h:W.heap[r]? =some (.mapIter m a seen c)):NJ n r W=n-seen.size:=by simp[NJ,h]
set_option maxRecDepth 100000 in
theorem FI(F:Fence)(n:Nat)(hf:F.fn 82)(hro:F.round=none)(hn:1<=n){Bm ob b clock:Nat}{es:Array MapEntry}(W:World)(hm':W.cell? ⟨Bm,ob,none⟩=some (.map (some b)))
 (hb':W.heap[b]? =some (.map es clock))(hborn:gD es clock)(key:MapEntry->aW)(hkey:∀e∈es.toList,e.key=tK (key e))(l:Nat)(J:List aW->World->Prop)(hJ:ZN W.heap.size J)
 (hY:∀pre x W1,J pre W1->pre.length<es.size->YieldAt F (n-1) prog l #[tK x] W1 λe W'=>e=.returned (.bool true)/\J (pre++[x]) W'/\KeepsWalks W1 W')(h0:J [] W):
 CallsIn F n prog 82 #[.func (.yield l) #[] #[],.pointer (some ⟨Bm,ob,none⟩)] W λe W'=>(∃v,e=.returned v)/\∃ss:List aW,ss.Perm (es.toList.map key)/\J ss W':=by
 have hbW:b<W.heap.size:=(Array.getElem?_eq_some_iff.1 hb').1;refine callsIn_of_wp func82 rfl hf ?_ hro;simp only[ntmps82,List.size_toArray,List.length_cons,List.length_nil,Nat.reduceAdd,Nat.reduceSub,Array.replicate_succ,Array.replicate_zero,List.push_toArray,List.append_toArray,List.nil_append,List.cons_append]
 gi_wp2_with (first
  |(gi_at_range;refine yX _ rfl _ _ rfl _ _ underlying73 rfl hb' ?_)
  |gi_in)
 have hg0:W.grownBy (W.alloc (.mapIter (some b) clock #[] clock)) none:=World.grownBy_alloc W _ none;have hr0:(W.alloc (.mapIter (some b) clock #[] clock)).heap[W.heap.size]? =some (.mapIter (some b) clock #[] clock):=heap_alloc_new W _;have hb0:(W.alloc (.mapIter (some b) clock #[] clock)).heap[b]? =some (.map es clock):=(hg0.block b hbW aM).trans hb';have hJ0:=hJ [] W _ none h0 hg0 (Nat.le_refl _) (λr e=>by cases e);generalize W.alloc (.mapIter (some b) clock #[] clock)=w0 at*;try go_frame
 gi_loopw [3] (λ_ wr=>∃(vs:List MapEntry) (seen:Array Nat) (c0:Nat),wr.heap[W.heap.size]? =some (.mapIter (some b) clock seen c0)/\wr.heap[b]? =some (.map es clock)/\clock<=c0/\NI es vs seen/\J (vs.map key) wr)
  (λ_ wr=>NJ es.size W.heap.size wr)
 case atStart=>
  exact⟨[],#[],clock,hr0,hb0,Nat.le_refl _,⟨aM,aM,aM⟩,hJ0⟩
 case round=>
  obtain⟨vs,seen,c0,hr,hbr,hcc,hC,hJs⟩:=hrel
  gi_wp2_with (first
   |(gi_at_next;refine Am _ rfl _ rfl (Nat.ne_of_gt hbW) rfl hr hbr hborn hcc (Nat.le_refl _) hC ?_ ?_)
   |gi_in)
  ·intro hp
   gi_wp2
   go_end0
   exact⟨⟨_,rfl⟩,vs.map key,hp.map key,hJs⟩
  ·intro e w2 he hC2 hr2 hg2 hd2 hen;have hJ2:J (vs.map key) w2:=hJ _ wr w2 (some W.heap.size) hJs hg2 hd2 (λr e=>by cases e;exact⟨Nat.le_refl _,_,hr,rfl⟩);have hb2:w2.heap[b]? =some (.map es clock):=(hg2.block b (Array.getElem?_eq_some_iff.1 hbr).1 (λe=>by injection e with e;omega)).trans hbr;have hsz:=hC2.size hborn;have hvs:seen.size=vs.length:=by have:=congrArg List.length hC.seen;simpa using this
   obtain⟨fn,tmps,assign,body,hy,hR⟩:=hY (vs.map key) (key e) _ hJ2 (by simp at hsz|-;omega);rw[hkey e (by simpa using he)]at hen|-;unfold tK at hen hy|-
   gi_wp2
   refine hR.mono ?_;rintro e' W3 ⟨rfl,hJ3,hk3⟩
   gi_wp2
   have hr4:=hk3.same _ _ hr2 rfl;have hb4:=hk3.same _ _ hb2 rfl
   go_roundw
   case rel=>exact⟨vs++[e],seen.push e.born,clock,hr4,hb4,Nat.le_refl _,hC2,by simpa using hJ3⟩
   case measure=>rw[GD hr4,GD hr];simp at hsz|-;omega
def aAO(b0:Option Nat)(W0:World)(l:List aW)(ss:List aW)(W:World):Prop:=
 ∃v gb,W.heap[W0.heap.size]? =some (.cells #[v] 32 (0,0))/\uE 1 b0 W0.heap.size W v (l.length+ss.length) ((l++ss).flatMap aW.enc) gb/\gb≠some W0.heap.size/\Gn b0 W0 W/\Ca (l.length*1) b0 W0 W
theorem Vn(b0:Option Nat)(W0:World)(l:List aW)(hb0:∀b,b0=some b->b<W0.heap.size):ZN (W0.heap.size+1) (aAO b0 W0 l):=by
 rintro ss W W' row ⟨v,gb,h1,h2,h3,h4,h5⟩ hg hd hr;have hrow:∀{k:Nat} {cur:Array Value} {e:TypeId},W.heap[k]? =some (.cells cur e (0,0))->some k≠row:=λhk e=>by
  obtain⟨_,o,ho,hc⟩:=hr _ e.symm;rw[hk]at ho;cases ho;cases hc
 refine⟨v,gb,(hg.block _ (Array.getElem?_eq_some_iff.1 h1).1 (hrow h1)).trans h1,h2.kept hg ?_,h3,h4.step hg hd (λr e=>.inr (by have:=(hr r e).1;omega)),h5.step hg ?_⟩;rcases h2.lies with⟨rfl,_⟩|⟨g,cap,cur,e,rfl,_,_,hb,_⟩
 ·exact .inl rfl
 ·exact .inr (hrow hb)
 ·cases hb:b0 with
  |none=>exact .inl rfl
  |some g=>exact .inr λe=>by have:=(hr g e.symm).1;have:=hb0 g hb;omega
set_option maxRecDepth 100000 in
theorem Ip(W0:World)(v0:Value)(l:List aW)(b0:Option Nat)(hrow:uE 1 b0 W0.heap.size W0 v0 l.length (l.flatMap aW.enc) b0)(hb0:∀b,b0=some b->b<W0.heap.size){Bm ob b clock:Nat}{es:Array MapEntry}(hm:W0.cell? ⟨Bm,ob,none⟩=some (.map (some b)))(hBm:some Bm≠b0)
 (hb:W0.heap[b]? =some (.map es clock))(hbb:some b≠b0)(hborn:gD es clock)(key:MapEntry->aW)(hkey:∀e∈es.toList,e.key=tK (key e))(hN:(l.length+es.size)*16<=140737488355328):
 Calls prog 134 #[v0,.func (.func 82) #[] #[.pointer (some ⟨Bm,ob,none⟩)]] W0 λe W'=>
  ∃v ss gb,e=.returned v/\List.Perm ss (es.toList.map key)/\uE 1 b0 W0.heap.size W' v (l.length+ss.length) ((l++ss).flatMap aW.enc) gb/\Gn b0 W0 W'/\Ca (l.length*1) b0 W0 W':=by
 refine(callsIn_wide (n:=6)).1 ?_;obtain⟨ba,bn,bc,hv0⟩:∃ba bn bc,v0=.slice ba bn bc:=by
  rcases hrow.lies with⟨_,_,a,rfl⟩|⟨g,cap,cur,e,_,rfl,_⟩
  ·exact⟨_,_,_,rfl⟩
  ·exact⟨_,_,_,rfl⟩
 subst hv0;have hBml:Bm<W0.heap.size:=World.block_lt_of_cell? W0 _ hm;have hbl:b<W0.heap.size:=(Array.getElem?_eq_some_iff.1 hb).1;refine callsIn_of_wp_marks func134 rfl trivial ?_ rfl;simp only[ntmps134,List.size_toArray,List.length_cons,List.length_nil,Nat.reduceAdd,Nat.reduceSub,Array.replicate_succ,Array.replicate_zero,List.push_toArray,List.append_toArray,List.nil_append,List.cons_append]
 gi_wp2
 obtain⟨W1,hW1⟩:∃W1,W0.alloc (.cells #[.slice ba bn bc] 32)=W1:=⟨_,rfl⟩;have hs1:W1.heap.size=W0.heap.size+1:=by rw[<-hW1];simp
 have hg1:W0.grownBy W1 none:=by rw[<-hW1];exact World.grownBy_alloc W0 _ none
 have hd1:W0.drawn<=W1.drawn:=by rw[<-hW1];exact Nat.le_refl _
 have hv1:W1.heap[W0.heap.size]? =some (.cells #[.slice ba bn bc] 32 (0,0)):=by rw[<-hW1];exact heap_alloc_new W0 _
 rw[hW1];clear hW1;refine vL (enc:=tK) (N:=es.size) (S:=λss=>List.Perm ss (es.toList.map key)) rfl aE rfl trivial (enters_of func82 bY rfl) (aAO b0 W0 l) (by rw[hs1];exact Vn b0 W0 l hb0)
  ⟨.slice ba bn bc,b0,hv1,by simpa using hrow.kept hg1 (by cases b0<;>simp),λe=>by have:=hb0 _ e;omega,(Gn.refl b0 W0).step hg1 hd1 (λr e=>by cases e),(Ca.refl _ b0 W0).step hg1 (by cases b0<;>simp)⟩ ?_
  (λx a' W=>a'=⟨#[.slice ba bn bc,.func (.func 82) #[] #[.pointer (some ⟨Bm,ob,none⟩)],.pointer (some ⟨W0.heap.size,0,none⟩),undef,.slice none 0 0,.string ⟨x.toArray⟩,.func (.func 82) #[] #[.pointer (some ⟨Bm,ob,none⟩)],tK x,undef,undef,undef,undef,undef],[]⟩) ?_ ?_ ?_ ?_
 ·intro l' J W2 hI hsz hJ hY hJ0;obtain⟨v,gb,q1,q2,q3,q4,q6⟩:=hI;exact FI _ 5 trivial rfl aE W2 ((World.cell?_of_block (q4.block Bm hBml hBm)).trans hm) ((q4.block b hbl hbb).trans hb) hborn key hkey l' J hJ hY hJ0
 ·exact λx a' s W W' row h _ _ _=>h
 ·intro l' pre x W K hI hK;change Code.wpIn (Fence.wide.inRound l') (6-1-1) prog _ _ ⟨#[.slice ba bn bc,.func (.func 82) #[] #[.pointer (some ⟨Bm,ob,none⟩)],.pointer (some ⟨W0.heap.size,0,none⟩),undef,.slice none 0 0,undef,.func (.func 82) #[] #[.pointer (some ⟨Bm,ob,none⟩)],tK x,undef,undef,undef,undef,undef],[]⟩ W;have hK':=hK _ W ⟨rfl,rfl,rfl,Nat.le_refl _,λ_ _ _=>rfl⟩ (Nat.le_refl _) rfl;clear hK;unfold tK at hK'|-
  gi_wp2_with gi_round_op_a
  exact hK'
 ·rintro l' pre x a' W ⟨v,gb,q1,q2,q3,q4,q6⟩ rfl hlen;obtain⟨hc1,hf1⟩:=cell_of_box_a q1;obtain⟨inf,d,z,i1,i2,i3,i4,i5,i6,i7⟩:=hT.parts (t:=9) (by simp[TK.isNone]);simp at i4 i5 i7;obtain⟨va,vn,vc,hv⟩:∃va vn vc,v=.slice va vn vc:=by
   rcases q2.lies with⟨_,_,a,rfl⟩|⟨g,cap,cur,e,_,rfl,_⟩
   ·exact⟨_,_,_,rfl⟩
   ·exact⟨_,_,_,rfl⟩
  subst hv;have hWs:W0.heap.size<W.heap.size:=(Array.getElem?_eq_some_iff.1 q1).1;have q5:uE 1 b0 W0.heap.size (W.alloc (.cells #[.string ⟨x.toArray⟩] 9)) (.slice va vn vc) (l.length+pre.length) ((l++pre).flatMap aW.enc) gb:=q2.kept (World.grownBy_alloc W _ none) (by cases gb<;>simp);have hnew:∀(j:Nat) (u:Value),[Value.string ⟨x.toArray⟩][j]? =some u->(W.alloc (.cells #[.string ⟨x.toArray⟩] 9)).cell? ⟨W.heap.size,j,none⟩=some u:=λj u hj=>by
   have:=heap_alloc_new W (.cells #[.string ⟨x.toArray⟩] 9);simp only[World.cell?,this];simpa using hj
  gi_wp2_with (first
   |(gi_at_builtin;refine xX _ rfl _ _ 32 rfl underlying32 i1 i6 i4 (by rw[<-Array.length_toList,i7];rfl) bC rfl q5 kG rfl (news:=[.string ⟨x.toArray⟩]) rfl (by simp[Value.oneCell']) hnew (by rw[i5];omega) aE ?_;intro v' W3 g' r1 r2 r3 r4 r5
     have hv3:W3.heap[W0.heap.size]? =some (.cells #[.slice va vn vc] 32 (0,0)):=(r2.block _ kG (λe=>q3 e.symm)).trans ((heap_alloc_old W _ hWs).trans q1);obtain⟨hc3,hf3⟩:=cell_of_box_a hv3;obtain⟨cap',cur',e',rfl,s2,s3,s4,s5,s6,s7⟩:∃cap' cur' e',v'=.slice (some ⟨g',0,none⟩) (l.length+pre.length+1) cap'/\(b0=some g'\/W0.heap.size<=g')/\W3.heap[g']? =some (.cells cur' e' (0,0))/\l.length+pre.length+1<=cap'/\cap'<=maxLen/\cap'*1=cur'.size/\cur'.toList.take ((l.length+pre.length+1)*1)=(l++pre).flatMap aW.enc++[.string ⟨x.toArray⟩]:=by
      rcases r1.lies with⟨h,_⟩|⟨g,cap,cur,e,h,h1,h2,h3,h4,h5,h6,h7⟩
      ·cases h
      ·injection h with h;subst h;exact⟨cap,cur,e,h1,h2,h3,h4,h5,h6,h7⟩
     go_frame)
   |gi_round_op_a)
  have hg0:W.grownBy (W.alloc (.cells #[.string ⟨x.toArray⟩] 9)) none:=World.grownBy_alloc W _ none;have hd0:W.drawn<=(W.alloc (.cells #[.string ⟨x.toArray⟩] 9)).drawn:=Nat.le_refl _;have hgb:∀r,gb=some r->(b0=some r\/W0.heap.size<=r)/\∃cur e,W.heap[r]? =some (.cells cur e (0,0)):=λr e=>by
   rcases q2.lies with⟨h,_⟩|⟨g,cap,cur,e',h,_,h2,h3,_⟩
   ·rw[h]at e;cases e
   ·rw[h]at e;injection e with e;subst e;exact⟨h2,cur,e',h3⟩
  have hgne:g'≠W0.heap.size:=by
   rcases r4 with h|h
   ·exact λe=>q3 (by rw[h,e])
   ·rw[h];simp;omega
  generalize W.alloc (.cells #[.string ⟨x.toArray⟩] 9)=W2 at*;have hg4:W3.grownBy (W3.setCell ⟨W0.heap.size,0,none⟩ (.slice (some ⟨g',0,none⟩) (l.length+pre.length+1) cap')) (some W0.heap.size):=grownBy_setCell0_a _ _ _;refine⟨⟨Nat.le_trans hg0.size (Nat.le_trans r2.size hg4.size),λk o hk ho hcell=>?_⟩,((KeepsWalks.of_grownBy hg0 (λj o e=>by cases e)).trans (KeepsWalks.of_grownBy r2 (λj o e ho=>?_))).trans (KeepsWalks.setCell _ _ _),
   .slice (some ⟨g',0,none⟩) (l.length+pre.length+1) cap',some g',heap_setCell_box_a _ hv3,?_,λe=>hgne (by injection e),((q4.step hg0 hd0 (λr e=>by cases e)).step r2 r3 (λr e=>(hgb r e).1)).step hg4 (Nat.le_refl _) (λr e=>.inr (by injection e with e;omega)),((q6.step hg0 (by cases b0<;>simp)).write (by rw[Nat.add_mul];omega) r2 r5).step hg4 ?_⟩
  ·have h2:=(hg0.block k (Array.getElem?_eq_some_iff.1 ho).1 aM).trans ho;have h3:=(r2.block k (Array.getElem?_eq_some_iff.1 h2).1 (λe=>by
    obtain⟨_,cur,e',h⟩:=hgb k e.symm;rw[ho]at h;cases h;cases hcell)).trans h2
   exact(hg4.block k (Array.getElem?_eq_some_iff.1 h3).1 (λe=>by injection e with e;omega)).trans h3
  ·obtain⟨_,cur,e',h⟩:=hgb j e;have h2:=(hg0.block j (Array.getElem?_eq_some_iff.1 h).1 aM).trans h;rw[ho]at h2;cases h2;rfl
  ·have:=r1.kept hg4 (.inr (λe=>hgne (by injection e)));simpa [aW.enc,tK,Nat.add_assoc]using this
  ·cases hb:b0 with
   |none=>exact .inl rfl
   |some g=>exact .inr λe=>by injection e with e;have:=hb0 g hb;omega
 ·rintro D xs W hD hS ⟨v,gb,q1,q2,q3,q4,q6⟩ hdef;obtain⟨hc1,hf1⟩:=cell_of_box_a q1
  gi_wp2
  refine⟨aM,.inl ⟨_,_,rfl,run_takeDeferred hdef,?_⟩⟩;refine⟨_,results_tmp rfl _ _ _,v,xs,gb,rfl,hS,q2.kept (grownBy_putObj_a _ _ _) ?_,q4.step (grownBy_putObj_a _ _ _) (Nat.le_refl _) (λr e=>.inr (by injection e with e;omega)),q6.step (grownBy_putObj_a _ _ _) ?_⟩;rcases q2.lies with⟨h,_⟩|⟨g,cap,cur,e',h,_,h2,h3,_⟩
  ·exact .inl h
  ·refine .inr λe=>?_;rw[h]at e;injection e with e;subst e
   rw[hdef]at h3;cases h3
  ·cases hb:b0 with
   |none=>exact .inl rfl
   |some g=>exact .inr λe=>by injection e with e;have:=hb0 g hb;omega
end
section
attribute[local simp] kQ.cond Nd.d_eq nd_t nd_dr nd_td ndsD aZ bF vJ Ai cZ.d
theorem Sb{ts:List Nd}{us:List cZ}{i:Nat}{u:cZ}(h:us[i]? =some u):Bi ts (us.take (i+1))=if iP ts u=0 then Bi ts (us.take i)else jH (Bi ts (us.take i)) (iP ts u):=by
 obtain⟨hi,he⟩:=List.getElem?_eq_some_iff.1 h;unfold Bi;rw[List.take_succ_eq_append_getElem hi,List.foldl_append,he];rfl
theorem NK(ts:List Nd)(x:Nd)(hx:weighN x<=1000000000)(hts:∀t∈ts,weighN t<=1000000000):Ok prog 62 [yV ts,x.d] ⟨.d (aI (FG ts x)),true⟩:=by
 refine Ok.ret func62 bY (c:=_) rfl ntmps62 aM results62 (by intro _ h;cases h) λw0 X hp=>?_;have ku:=Ii x;simp at ku;apply aD;simp[yV];apply aD;simp;apply aD;simp;apply aD;simp[cF,iF,kI,Jk];refine eI (bN 7 [13] (fz:=false) (cs:=[.mp 13]) (ds:=[Al]) aM aM (by simp[Al]) (by simp[bB.mut])) ?_;apply aG;refine cJ (λ|16=>some<| .plain ⟨.d (.fn 75 [.ro [aI x.kind,.str x.text,aI x.n,.sl (x.kids.map Nd.d)]]),false⟩|_=>none) ?_;simp;refine⟨ku,?_⟩;apply aO;refine eI (aA hp [2,5,6,7,16] [(2,2),(5,5),(6,6),(7,7)] (env':=aR [(2,.bx 2 0),(5,.bx 5 0),(6,.bx 6 0),(7,.bx 7 0),(16,.d (.fn 75 [.ro [aI x.kind,.str x.text,aI x.n,.sl (x.kids.map Nd.d)]]))]) (H':=aL [(2,.box false [.d (ndsD ts),.d (.mp (oJ ts) (oV ts.length))]),(5,.box false [.d (aI 0)]),(6,.box false [.fn 103 [.bx 5 0]]),(7,.box false [.d Al])]) aM aM) ?_;refine eW.rangeFunc (items:=(bJ x).map Ai) (by simpa using Bh x hx) aM (by intro it hit;obtain⟨u,_,rfl⟩:=List.mem_map.1 hit;rfl) aM bY bY (λi=>aL [(2,.box false [.d (ndsD ts),.d (.mp (oJ ts) (oV ts.length))]),(5,.box false [.d (aI (Bi ts ((bJ x).take i)))]),(6,.box false [.fn 103 [.bx 5 0]]),(7,.box false [.d Al])]) (λi=>aL [(2,.box false [.d (ndsD ts),.d (.mp (oJ ts) (oV ts.length))]),(5,.box false [.d (aI (Bi ts ((bJ x).take (i+1))))]),(6,.box false [.fn 103 [.bx 5 0]]),(7,.box false [.d Al]),(9,.box false [.d (aI (rK x i).kind),.d (.str (rK x i).name),.d (.str (rK x i).field)])]) (rfl) [2,5,6,7] bC (by simp[hp]) (λi id h=>by simpa using nX id h) (λi=>aR [(2,.bx 2 0),(5,.bx 5 0),(6,.bx 6 0),(7,.bx 7 0),(9,.bx 9 0)]) (λi=>aL [(2,.box false [.d (ndsD ts),.d (.mp (oJ ts) (oV ts.length))]),(5,.box false [.d (aI (Bi ts ((bJ x).take i)))]),(6,.box false [.fn 103 [.bx 5 0]]),(7,.box false [.d Al]),(9,.box false [.d (aI (rK x i).kind),.d (.str (rK x i).name),.d (.str (rK x i).field)])]) [2,5,6,7,9] (λi id h=>by simpa using nX id h) (λi hi=>?_) (λw1 X1 i it hp hit=>?_) (λw1 X1 i it hp hit=>?_) ?_
 ·simp
 ·obtain⟨u,hu,rfl⟩:=eG hit;have hU:=xJ hu;apply aK;simp;exact aA hp [2,5,6,7,9] [(2,2),(5,5),(6,6),(7,7),(9,9)] (hH:=by simp[hU])
 ·obtain⟨u,hu,rfl⟩:=eG hit;have hU:=xJ hu;obtain⟨o,ho⟩:∃o,Bi ts ((bJ x).take i)=o:=⟨_,rfl⟩;have ho4:oK o:=by rw[<-ho];exact Sa _ _
  have hs:=Sb (ts:=ts) hu;have he4:=Bj ts u;rw[ho]at hs;simp[hU,ho];apply aO;apply aD;simp[In,bD];apply aO;apply aV;simp;refine⟨λh7=>?_,λh7=>?_⟩
  ·have he:iP ts u=6:=by unfold iP;cases h:oH ts u.name<;>simp_all
   have kw:=Eh o 6 ho4 (by simp[oK]);rw[he,if_neg bC]at hs;refine aP (λ|32=>some (.gen ⟨[(5,0)],[],[],[(0,.box false [.d (aI (jH o 6))])],.tup []⟩)|_=>none) ?_;simp;refine⟨by simpa using kw,?_⟩;exact aA hp [] [(2,2),(5,5),(6,6),(7,7),(9,9)] (hH:=by simp[hU,hs])
  ·obtain⟨j,hj⟩:∃j,oH ts u.name=some j:=by cases h:oH ts u.name<;>simp_all
   have hjl:=vS hj;obtain⟨t,ht⟩:∃t,ts[j]=t:=⟨_,rfl⟩;have htm:t∈ts:=by rw[<-ht];exact List.getElem_mem hjl
   have hat:Xj ts u.name=(j:Nat):=by unfold Xj;rw[hj];rfl
   have hget:ts.getD j default=t:=(by rw[List.getD_eq_getElem?_getD,List.getElem?_eq_getElem hjl,ht];rfl);apply aG;refine eW.rd [] [] (λ_=>none) ?_;simp[hat,hjl,ht];apply aJ;simp;refine⟨λh9=>?_,λh9=>?_⟩
   ·have he:iP ts u=12:=by unfold iP;rw[hj];simp only[hget];rw[if_pos h9]
    have kw:=Eh o 12 ho4 (by simp[oK]);rw[he,if_neg bC]at hs;refine aP (λ|45=>some (.gen ⟨[(5,0)],[],[],[(0,.box false [.d (aI (jH o 12))])],.tup []⟩)|_=>none) ?_;simp;refine⟨by simpa using kw,?_⟩;exact aA hp [] [(2,2),(5,5),(6,6),(7,7),(9,9)] (hH:=by simp[hU,hs])
   ·have hk9:t.kind=u.kind:=aE;apply aG;by_cases h1:u.kind=1
    rotate_left
    ·refine eW.rd [[],[],[],[],[],[],[],[],[],[],[56],[56]] [[],[],[],[],[],[],[],[],[],[56],[],[],[59]] (λ_=>none) ?_;simp[hat,hjl,ht,h1];have he:iP ts u=0:=by unfold iP;rw[hj];simp only[hget];rw[if_neg (by simp[hk9]),if_neg (by simp[h1])]
     rw[he,if_pos rfl]at hs;apply aJ;simp[hat,hjl,ht,h1];apply aF;simp;exact aA hp [] [(2,2),(5,5),(6,6),(7,7),(9,9)] (hH:=by simp[hU,hs])
    ·have kf:=GB t (hts t htm);have ki:=Ki (bL t) u.field;simp at kf;refine eW.rd [[],[],[],[],[],[],[],[],[],[],[56],[56]] [[],[],[],[],[],[],[],[],[],[56],[],[],[59]] (λ|56=>some<| .plain ⟨.own 1 ((bL t).map .str),true⟩|59=>some<| .plain ⟨.d (.bool (decide (u.field∈bL t))),true⟩|_=>none) ?_;simp[hat,hjl,ht,h1];refine⟨⟨kf,by simpa using ki⟩,?_⟩;apply aJ;simp;refine⟨λh11=>?_,λh11=>?_⟩
     ·have he:iP ts u= -1:=by unfold iP;rw[hj];simp only[hget];rw[if_neg (by simp[hk9]),if_pos (by simp_all)]
      have kw:=Eh o (-1) ho4 (by simp[oK]);rw[he,if_neg bC]at hs;refine aP (λ|64=>some (.gen ⟨[(5,0)],[],[],[(0,.box false [.d (aI (jH o (-1)))])],.tup []⟩)|_=>none) ?_;simp;refine⟨by simpa using kw,?_⟩;exact aA hp [] [(2,2),(5,5),(6,6),(7,7),(9,9)] (hH:=by simp[hU,hs])
     ·have he:iP ts u=0:=by unfold iP;rw[hj];simp only[hget];rw[if_neg (by simp[hk9]),if_neg (by simp_all)]
      rw[he,if_pos rfl]at hs;apply aF;simp;exact aA hp [] [(2,2),(5,5),(6,6),(7,7),(9,9)] (hH:=by simp[hU,hs])
 ·apply aG;apply aV;simp;refine⟨λh13=>?_,λh13=>?_⟩
  ·apply aD;simp;apply aH;unfold FG;rw[if_pos h13];simp
  ·apply aF;simp;apply aD;simp;apply aH;unfold FG;rw[if_neg h13];simp
end
section
attribute[local simp] kQ.cond Nd.d_eq nd_t nd_dr nd_td ndsD aZ bF vJ Ai cZ.d
def kE(ts:List Nd)(b:Int->Bool)(f:Nat->List Nat->List Nat)(M:List Nat)(u:cZ):List Nat:=match oH ts u.name with
 |some k=>if b u.bk=true/\k∉M then f k (M++[k])else M
 |none=>M
def gQ(ts:List Nd)(b:Int->Bool):Nat->Nat->List Nat->List Nat
 |0,_,M=>M
 |f+1,i,M=>(bJ (ts.getD i default)).foldl (kE ts b (gQ ts b f)) M
theorem Bk(ts:List Nd)(b:Int->Bool)(f i:Nat)(M:List Nat):gQ ts b (f+1) i M=(bJ (ts.getD i default)).foldl (kE ts b (gQ ts b f)) M:=rfl
def Sc(n:Nat)(M:List Nat):Nat:=((List.range n).filter λk=>decide (k∉M)).length
theorem Vo{n:Nat}{M M':List Nat}(h:∀k∈M,k∈M'):Sc n M'<=Sc n M:=by
 unfold Sc;have:(List.range n).filter (λk=>decide (k∉M'))=((List.range n).filter (λk=>decide (k∉M))).filter λk=>decide (k∉M'):=by
  rw[List.filter_filter];congr 1;funext k;by_cases hk:k∈M'
  ·simp[hk]
  ·have:k∉M:=λh'=>hk (h k h');simp[hk,this]
 rw[this];exact List.length_filter_le _ _
theorem yY{α:Type}{p q:α->Bool}:∀{l:List α} {x:α},(∀y,q y=true->p y=true)->x∈l->p x=true->q x=false->(l.filter q).length<(l.filter p).length
 |a::l,x,hpq,hx,hp,hq=>by
  have le:(l.filter q).length<=(l.filter p).length:=by
   have:l.filter q=(l.filter p).filter q:=by
    rw[List.filter_filter];congr 1;funext y;cases h:q y with
    |true=>simp[hpq y h]
    |false=>simp
   rw[this];exact List.length_filter_le _ _
  rcases List.mem_cons.1 hx with rfl|hx
  ·rw[List.filter_cons_of_pos hp,List.filter_cons_of_neg (by simp[hq])];simp only[List.length_cons];omega
  ·have ih:=yY hpq hx hp hq;by_cases h1:p a=true
   ·by_cases h2:q a=true
    ·rw[List.filter_cons_of_pos h1,List.filter_cons_of_pos h2];simpa using ih
    ·rw[List.filter_cons_of_pos h1,List.filter_cons_of_neg h2];simp only[List.length_cons];omega
   ·have h2:¬q a=true:=λh=>h1 (hpq a h);rw[List.filter_cons_of_neg h1,List.filter_cons_of_neg h2];exact ih
theorem Vp{n:Nat}{M:List Nat}{k:Nat}(hk:k<n)(h:k∉M):Sc n (M++[k])<Sc n M:=by
 unfold Sc;exact yY (x:=k) (λy hy=>by simp at hy|-;exact hy.1) (List.mem_range.2 hk) (by simpa using h) aM
theorem qZ{α:Type}{f:List Nat->α->List Nat}(h:∀M x k,k∈M->k∈f M x):∀(l:List α) (M:List Nat),∀k∈M,k∈l.foldl f M
 |[],_,_,hk=>hk
 |x::l,M,k,hk=>qZ h l (f M x) k (h M x k hk)
theorem yZ(ts:List Nd)(b:Int->Bool):∀(f i:Nat) (M:List Nat),∀k∈M,k∈gQ ts b f i M
 |0,_,_,_,hk=>hk
 |f+1,i,M,k,hk=>by
  refine qZ (λM u k hk=>?_) _ M k hk;unfold kE;split
  ·split
   ·exact yZ ts b f _ _ k (List.mem_append_left _ hk)
   ·exact hk
  ·exact hk
theorem zA(ts:List Nd)(b:Int->Bool)(f:Nat)(M:List Nat)(u:cZ):∀k∈M,k∈kE ts b (gQ ts b f) M u:=λk hk=>by
 unfold kE;split
 ·split
  ·exact yZ ts b f _ _ k (List.mem_append_left _ hk)
  ·exact hk
 ·exact hk
def An(M:List Nat):List DV:=M.map λ(k:Nat)=>aI (k:Int)
def FJ(M:List Nat):List DV:=M.map λ_=>.bool true
theorem Bl(k:Nat):∀(M:List Nat) (i:Nat),iF (aI (k:Int)) (An M) i=some ((M.findIdx? (λx=>decide (k=x))).map (·+i))
 |[],i=>rfl
 |x::r,i=>by
  have e:kI (aI (k:Int)) (aI (x:Int))=some (decide (k=x)):=by
   simp only[kI,Jk,Option.some.injEq];by_cases h:k=x
   ·simp[h]
   ·have:¬((k:Int)=x):=aE;simp[h,this]
  unfold An;rw[List.map_cons,iF,e,List.findIdx?_cons];by_cases h:k=x
  ·simp[h]
  ·simp only[h,decide_false,Bool.false_eq_true,if_false];have:=Bl k r (i+1);unfold An at this;rw[this];cases r.findIdx? (λx=>decide (k=x))with
   |none=>rfl
   |some j=>simp;omega
theorem Ek{M:List Nat}{m:Nat}(h:m∉M):(M.findIdx? λx=>decide (m=x))=none:=by
 rw[List.findIdx?_eq_none_iff];intro x hx;simp;intro e;subst e;exact h hx
theorem NL{M:List Nat}{m:Nat}(h:m∈M):∃j,(M.findIdx? λx=>decide (m=x))=some j/\j<M.length:=by
 cases q:(M.findIdx? λx=>decide (m=x))with
 |none=>rw[List.findIdx?_eq_none_iff]at q;have:=q m h;simp at this
 |some j=>exact⟨j,rfl,(List.findIdx?_eq_some_iff_getElem.1 q).1⟩
theorem Ks(M:List Nat){H:dM}{x:LV}{k:Nat}(h:rP H x=some (An M,FJ M)):
 cR T H 89 x (.d (aI (k:Int))) false=⟨.d (.bool (decide (k∈M))),True,[]⟩:=by
 unfold cR;simp only[t89,h,Bl];by_cases hm:k∈M
 ·obtain⟨j,hj,hl⟩:=NL hm;simp[hj,hl,hm,rO,bZ,gJ,FJ]
 ·simp[Ek hm,hm,rO,bZ,gJ,iV,uM,TK.isNone,TK.agg]
theorem XR(M:List Nat){H:dM}{id:Nat}{k:Nat}(hm:k∉M)(h:H id=.map false (An M) (FJ M)):
 cF T H 89 (.mp id) (.d (aI (k:Int))) (.d (.bool true))=⟨.junk,True,[(id,.map false (An (M++[k])) (FJ (M++[k])))]⟩:=by
 unfold cF;simp only[t89,h,Bl,Ek hm];simp[rO,bZ,gJ,An,FJ]
def CL(ts:List Nd)(g:FuncId)(M:List Nat):List (Nat×bB):=[(1,.box false [.d (ndsD ts),.d (.mp (oJ ts) (oV ts.length))]),(2,.box false [.d (.fn g [])]),(3,.box false [.mp 100]),(4,.box false [.fn 88 [.bx 1 0,.bx 2 0,.bx 3 0,.bx 4 0]]),(100,.map false (An M) (FJ M))]
theorem Vq(ts:List Nd)(b:Int->Bool)(g:FuncId)(f i0:Nat)(M:List Nat)(hts:∀t∈ts,weighN t<=1000000000)(hby:∀k,Ok prog g [aI k] ⟨.d (.bool (b k)),true⟩)(hi0:i0<ts.length)(hf:Sc ts.length M<f+1)(ih:∀k M',k<ts.length->Sc ts.length M'<f->iG prog 88 [.d (aI (k:Int)),.bx 1 0,.bx 2 0,.bx 3 0,.bx 4 0] (CL ts g M') (CL ts g (gQ ts b f k M')) (.tup [])):iG prog 88 [.d (aI (i0:Int)),.bx 1 0,.bx 2 0,.bx 3 0,.bx 4 0] (CL ts g M) (CL ts g (gQ ts b (f+1) i0 M)) (.tup []):=by
 unfold CL at*;refine fY func88 bY (c:=_) rfl ntmps88 aM results88 λw0 X hp=>?_;obtain⟨x,hx⟩:∃x,ts[i0]=x:=⟨_,rfl⟩;have hxm:x∈ts:=by rw[<-hx];exact List.getElem_mem hi0
 have hget:ts.getD i0 default=x:=by rw[List.getD_eq_getElem?_getD,List.getElem?_eq_getElem hi0,hx];rfl
 have hxw:=hts x hxm;have hF:gQ ts b (f+1) i0 M=(bJ x).foldl (kE ts b (gQ ts b f)) M:=by rw[Bk,hget]
 have ku:=Ii x;simp at ku;refine cJ (λ|15=>some<| .plain ⟨.d (.fn 75 [.ro [aI x.kind,.str x.text,aI x.n,.sl (x.kids.map Nd.d)]]),false⟩|_=>none) ?_;simp[hi0,hx];refine⟨ku,?_⟩;apply aO;refine eI (aA hp [1,2,3,4,15] [(1,1),(2,2),(3,3),(4,4),(100,100)] (env':=aR [(1,.bx 1 0),(2,.bx 2 0),(3,.bx 3 0),(4,.bx 4 0),(15,.d (.fn 75 [.ro [aI x.kind,.str x.text,aI x.n,.sl (x.kids.map Nd.d)]]))]) (H':=aL [(1,.box false [.d (ndsD ts),.d (.mp (oJ ts) (oV ts.length))]),(2,.box false [.d (.fn g [])]),(3,.box false [.mp 100]),(4,.box false [.fn 88 [.bx 1 0,.bx 2 0,.bx 3 0,.bx 4 0]]),(100,.map false (An M) (FJ M))]) aM aM) ?_;refine eW.rangeFunc (items:=(bJ x).map Ai) (by simpa using Bh x hxw) aM (by intro it hit;obtain⟨u,_,rfl⟩:=List.mem_map.1 hit;rfl) aM bY bY (λi=>aL [(1,.box false [.d (ndsD ts),.d (.mp (oJ ts) (oV ts.length))]),(2,.box false [.d (.fn g [])]),(3,.box false [.mp 100]),(4,.box false [.fn 88 [.bx 1 0,.bx 2 0,.bx 3 0,.bx 4 0]]),(100,.map false (An (((bJ x).take i).foldl (kE ts b (gQ ts b f)) M)) (FJ (((bJ x).take i).foldl (kE ts b (gQ ts b f)) M)))]) (λi=>aL [(1,.box false [.d (ndsD ts),.d (.mp (oJ ts) (oV ts.length))]),(2,.box false [.d (.fn g [])]),(3,.box false [.mp 100]),(4,.box false [.fn 88 [.bx 1 0,.bx 2 0,.bx 3 0,.bx 4 0]]),(7,.box false [.d (aI (rK x i).kind),.d (.str (rK x i).name),.d (.str (rK x i).field)]),(100,.map false (An (((bJ x).take (i+1)).foldl (kE ts b (gQ ts b f)) M)) (FJ (((bJ x).take (i+1)).foldl (kE ts b (gQ ts b f)) M)))]) (rfl) [1,2,3,4,100] bC (by simp[hp]) (λi id h=>by simpa using nX id h) (λi=>aR [(1,.bx 1 0),(2,.bx 2 0),(3,.bx 3 0),(4,.bx 4 0),(6,.d (aI (rK x i).bk)),(7,.bx 7 0)]) (λi=>aL [(1,.box false [.d (ndsD ts),.d (.mp (oJ ts) (oV ts.length))]),(2,.box false [.d (.fn g [])]),(3,.box false [.mp 100]),(4,.box false [.fn 88 [.bx 1 0,.bx 2 0,.bx 3 0,.bx 4 0]]),(7,.box false [.d (aI (rK x i).kind),.d (.str (rK x i).name),.d (.str (rK x i).field)]),(100,.map false (An (((bJ x).take i).foldl (kE ts b (gQ ts b f)) M)) (FJ (((bJ x).take i).foldl (kE ts b (gQ ts b f)) M)))]) [1,2,3,4,7,100] (λi id h=>by simpa using nX id h) (λi hi=>?_) (λw1 X1 i it hp hit=>?_) (λw1 X1 i it hp hit=>?_) ?_
 ·simp
 ·obtain⟨u,hu,rfl⟩:=eG hit;have hU:=xJ hu;apply aD;simp;apply aK;simp;exact aA hp [1,2,3,4,6,7] [(1,1),(2,2),(3,3),(4,4),(7,7),(100,100)] (by simp[hU]) (by simp[hU])
 ·obtain⟨u,hu,rfl⟩:=eG hit;have hU:=xJ hu;obtain⟨o,ho⟩:∃o,((bJ x).take i).foldl (kE ts b (gQ ts b f)) M=o:=⟨_,rfl⟩;have hs:((bJ x).take (i+1)).foldl (kE ts b (gQ ts b f)) M=kE ts b (gQ ts b f) o u:=by
   obtain⟨hi,he⟩:=List.getElem?_eq_some_iff.1 hu;rw[List.take_succ_eq_append_getElem hi,List.foldl_append,he,ho];rfl
  have hmo:Sc ts.length o<f+1:=by
   refine Nat.lt_of_le_of_lt (Vo λk hk=>?_) hf;rw[<-ho];exact qZ (zA ts b f) _ M k hk
  simp[hU,ho];apply aO;apply aD;simp[In,bD];apply aG;by_cases ha:(oH ts u.name).isSome=true
  rotate_left
  ·refine tC hT hW (λ_=>none) (by intro d;first|exact⟨rfl,λ_ h=>h⟩|(split<;>exact⟨rfl,λ_ h=>h⟩)) ?_;simp[ha];have hS:kE ts b (gQ ts b f) o u=o:=by unfold kE;rw[show oH ts u.name=none by simpa using ha]
   apply aJ;simp[ha];apply aF;simp;exact aA hp [] [(1,1),(2,2),(3,3),(4,4),(7,7),(100,100)] (hH:=by simp[hU,hs,hS])
  ·obtain⟨j,hj⟩:∃j,oH ts u.name=some j:=by cases h:oH ts u.name<;>simp_all
   have hjl:=vS hj;have hat:Xj ts u.name=(j:Nat):=by unfold Xj;rw[hj];rfl
   have kb:=hby u.bk;have hl:=λ(H:dM) (h:rP H (.mp 100)=some (An o,FJ o))=>Ks o (k:=j) h;refine aP (λ|30=>some<| .plain ⟨.d (.bool (b u.bk)),true⟩|_=>none) ?_;simp[ha,hat,hl,rP];refine⟨kb,?_⟩;apply aJ;simp;refine⟨λh4 ho4=>?_,λh4=>?_⟩
   ·have hS:kE ts b (gQ ts b f) o u=gQ ts b f j (o++[j]):=by unfold kE;rw[hj];exact if_pos ⟨h4,ho4⟩
    apply aD;simp[XR o ho4];refine aP (λ|42=>some (.gen ⟨[(1,1),(2,2),(3,3),(4,4),(100,100)],[],[],CL ts g (gQ ts b f j (o++[j])),.tup []⟩)|_=>none) ?_;simp[CL];have hI:=ih j (o++[j]) hjl (by have:=Vp hjl ho4;omega);refine⟨by simpa using hI,?_⟩;exact aA hp [] [(1,1),(2,2),(3,3),(4,4),(7,7),(100,100)] (hH:=by simp[hU,hs,hS])
   ·have hS:kE ts b (gQ ts b f) o u=o:=by unfold kE;rw[hj];exact if_neg (by simpa using h4)
    apply aF;simp;exact aA hp [] [(1,1),(2,2),(3,3),(4,4),(7,7),(100,100)] (hH:=by simp[hU,hs,hS])
 ·simp;exact aA hp [] [(1,1),(2,2),(3,3),(4,4),(100,100)] (hH:=by simp[hF])
theorem Vr(ts:List Nd)(b:Int->Bool)(g:FuncId)(hts:∀t∈ts,weighN t<=1000000000)(hby:∀k,Ok prog g [aI k] ⟨.d (.bool (b k)),true⟩):∀(f k:Nat) (M:List Nat),k<ts.length->Sc ts.length M<f->iG prog 88 [.d (aI (k:Int)),.bx 1 0,.bx 2 0,.bx 3 0,.bx 4 0] (CL ts g M) (CL ts g (gQ ts b f k M)) (.tup [])
 |0,_,_,_,h=>absurd h (Nat.not_lt_zero _)
 |f+1,k,M,hk,h=>Vq ts b g f k M hts hby hk h λk' M' hk' h'=>Vr ts b g hts hby f k' M' hk' h'
def jI(ts:List Nd)(b:Int->Bool)(i:Nat):List Nat:=gQ ts b (ts.length+1) i []
theorem El(ts:List Nd)(b:Int->Bool)(g:FuncId)(i:Nat)(hts:∀t∈ts,weighN t<=1000000000)(hby:∀k,Ok prog g [aI k] ⟨.d (.bool (b k)),true⟩)(hi:i<ts.length):Ok prog 51 [yV ts,aI (i:Int),.fn g []] ⟨.d (.mp (An (jI ts b i)) (FJ (jI ts b i))),false⟩:=by
 refine Ok.ret func51 bY (c:=_) rfl ntmps51 aM results51 (by intro _ h;cases h) λw0 X hp=>?_;apply aD;simp[yV];apply aD;simp;apply aD;simp;apply aD;simp;refine cJ (λ|13=>some (.gen ⟨[(3,1),(5,2),(7,3),(8,4),(9,100)],[],[],CL ts g (jI ts b i),.tup []⟩)|_=>none) ?_;simp[CL];refine⟨by simpa [CL,jI,An,FJ]using Vr ts b g hts hby (ts.length+1) i [] hi (Nat.lt_succ_of_le (Nat.le_trans (List.length_filter_le _ _) aM)),?_⟩;apply aD;simp;apply aH;simp
theorem Sd(k:Int):Ok prog 63 [aI k] ⟨.d (.bool (decide (k=14))),true⟩:=by
 refine Ok.ret func63 bY (c:=_) rfl ntmps63 aM results63 (by intro _ h;cases h) λw0 X hp=>?_;apply aD;simp;apply aD;simp;apply aH;simp
theorem Se(k:Int):Ok prog 52 [aI k] ⟨.d (.bool true),true⟩:=by
 refine Ok.ret func52 bY (c:=_) rfl ntmps52 aM results52 (by intro _ h;cases h) λw0 X hp=>?_;apply aD;simp;apply aD;simp;apply aH;simp
end
def eM{α:Type}[DecidableEq α]:List α->List α
 |a::b::r=>if a=b then eM (b::r)else a::eM (b::r)
 |l=>l
theorem Em{α:Type}[DecidableEq α]:∀(l:List α) (x:α) (h:l≠[]),eM (l++[x])=if l.getLast h=x then eM l else eM l++[x]
 |[a],x,_=>by
  simp only[List.cons_append,List.nil_append,eM,List.getLast_singleton];split<;>rename_i e<;>simp[e]
 |a::b::r,x,_=>by
  have ih:=Em (b::r) x aM;have hl:(a::b::r).getLast aM=(b::r).getLast aM:=aM;rw[hl];simp only[List.cons_append]at ih|-;simp only[eM];rw[ih];by_cases h1:a=b
  ·simp only[if_pos h1]
  ·simp only[if_neg h1];split<;>rfl
theorem Sf{α:Type}{l:List α}{p:Nat}(h0:0<p)(hp:p<=l.length)(hne:l.take p≠[]):(l.take p).getLast hne=l[p-1]:=by
 rw[List.getLast_eq_getElem];simp[Nat.min_eq_left hp]
theorem tM{α:Type}[DecidableEq α]{l:List α}{p:Nat}(h0:0<p)(hp:p<l.length):eM (l.take (p+1))=if l[p-1]=l[p]then eM (l.take p)else eM (l.take p)++[l[p]]:=by
 have hne:l.take p≠[]:=λe=>by have:=congrArg List.length e;rw[List.length_take,List.length_nil]at this;omega
 have h1:l.take (p+1)=l.take p++[l[p]]:=aM;rw[h1,Em _ _ hne,Sf h0 aE]
theorem tN{α:Type}[DecidableEq α]:∀l:List α,(eM l).length<=l.length
 |a::b::r=>by
  have:=tN (b::r);simp only[eM];split
  ·simp at*;omega
  ·simp at*;omega
 |[]=>Nat.le_refl _
 |[_]=>Nat.le_refl _
theorem GE{α:Type}[DecidableEq α]{x:α}:∀l:List α,x∈eM l↔x∈l
 |a::b::r=>by
  have:=GE (x:=x) (b::r);simp only[eM];split
  ·rename_i e;rw[this];subst e;simp
  ·rw[List.mem_cons,this];simp
 |[]=>Iff.rfl
 |[_]=>Iff.rfl
def fB{α:Type}(lt:α->α->Bool)(l:List α):Prop:=l.Pairwise λa b=>lt a b=true
structure STO{α:Type}(lt:α->α->Bool):Prop where
 irrefl:∀a,lt a a=false
 trans:∀a b c,lt a b=true->lt b c=true->lt a c=true
 total:∀a b,lt a b=false->lt b a=false->a=b
theorem STO.asym{α:Type}{lt:α->α->Bool}(O:STO lt){a b:α}(h:lt a b=true):lt b a=false:=by
 cases q:lt b a with
 |false=>rfl
 |true=>have:=O.trans a b a h q;rw[O.irrefl]at this;cases this
theorem xK{α:Type}{lt:α->α->Bool}(O:STO lt):∀{l m:List α},fB lt l->fB lt m->(∀x,x∈l↔x∈m)->l=m
 |[],[],_,_,_=>rfl
 |[],b::m,_,_,h=>by have:=(h b).2 aM;cases this
 |a::l,[],_,_,h=>by have:=(h a).1 aM;cases this
 |a::l,b::m,hl,hm,h=>by
  have hl':=List.pairwise_cons.1 hl;have hm':=List.pairwise_cons.1 hm;have hab:a=b:=by
   have h1:=(h a).1 aM;have h2:=(h b).2 aM;rcases List.mem_cons.1 h1 with h1|h1
   ·exact h1
   ·rcases List.mem_cons.1 h2 with h2|h2
    ·exact h2.symm
    ·have:=O.asym (hl'.1 b h2);rw[hm'.1 a h1]at this;cases this
  subst hab;rw[xK O hl'.2 hm'.2 λx=>?_];constructor
  ·intro hx;rcases List.mem_cons.1 ((h x).1 (by simp[hx]))with e|h'
   ·subst e;have:=hl'.1 x hx;rw[O.irrefl]at this;cases this
   ·exact h'
  ·intro hx;rcases List.mem_cons.1 ((h x).2 (by simp[hx]))with e|h'
   ·subst e;have:=hm'.1 x hx;rw[O.irrefl]at this;cases this
   ·exact h'
theorem oX{α:Type}[DecidableEq α]{lt:α->α->Bool}(O:STO lt):∀{l:List α},l.Pairwise (λa b=>lt b a=false)->fB lt (eM l)
 |[],_=>.nil
 |[_],_=>List.pairwise_singleton _ _
 |a::b::r,h=>by
  have h':=List.pairwise_cons.1 h;have ih:=oX O h'.2;simp only[eM];split
  ·exact ih
  ·rename_i hne;refine List.pairwise_cons.2 ⟨λx hx=>?_,ih⟩;have hx:=(GE _).1 hx;have h1:=h'.1 b aM;have hab:lt a b=true:=by
    cases q:lt a b with
    |true=>rfl
    |false=>exact absurd (O.total a b q h1) hne
   rcases List.mem_cons.1 hx with rfl|hx
   ·exact hab
   ·have h2:=(List.pairwise_cons.1 h'.2).1 x hx;cases q:lt b x with
    |true=>exact O.trans _ _ _ hab q
    |false=>have:=O.total b x q h2;subst this;exact hab
theorem Sg{α:Type}{k:Nat}{x y:α}{out:List α}:y∈gP k x out↔y=x\/y∈out:=by
 unfold gP;rw[List.mem_append,List.mem_cons]
 conv=>rhs;rw[<-List.take_append_drop k out,List.mem_append]
 constructor
 ·rintro(h|h|h)<;>simp[h]
 ·rintro(h|h|h)<;>simp[h]
theorem Bn{α:Type}{p:α->Bool}{out:List α}:∀k,k<=out.length->(∀i (h:i<out.length),kM p out k<=i->i<k->p out[i]=true)/\(∀i (h:i<out.length),kM p out k=i+1->p out[i]=false)
 |0,_=>⟨λi _ _ h=>aE,λi _ h=>by simp[kM]at h⟩
 |k+1,hk=>by
  have hlt:k<out.length:=aE;obtain⟨h1,h2⟩:=Bn k aE (p:=p) (out:=out);cases q:p out[k]with
  |true=>
   rw[wZ hlt q];refine⟨λi hi hle hik=>?_,h2⟩;by_cases e:i=k
   ·subst e;exact q
   ·exact h1 i hi hle aE
  |false=>
   have:kM p out (k+1)=k+1:=pG λi e hi=>by
    have:i=k:=aE;subst this;exact q
   rw[this];exact⟨λi _ h1 h2=>aE,λi hi e=>by
    have:i=k:=aE;subst this;exact q⟩
section
attribute[local simp] kQ.cond Nd.d_eq nd_t nd_dr nd_td ndsD
theorem Sh{l:List aW}:eM (l.take 1)=l.take 1:=by cases l<;>simp[eM]
theorem Ce{l:List aW}(h:l.length<2):eM l=l:=by
 match l,h with
 |[],_=>rfl
 |[_],_=>rfl
theorem Kt{α:Type}{a b:List α}{p i:Nat}(h:a.drop p=b.drop p)(hp:p<=i)(ha:i<a.length)(hb:i<b.length):a[i]=b[i]:=by
 have h1:=congrArg (·[i-p]?) h;simp only[List.getElem?_drop,show p+(i-p)=i by omega,List.getElem?_eq_getElem ha,List.getElem?_eq_getElem hb]at h1;exact Option.some.inj h1
theorem Ku(l:List aW)(hl:l.length<=1000000000000):Ok prog 102 [gO l] ⟨.own 1 (l.map .str),true⟩:=by
 refine Ok.ret func102 bY (c:=_) rfl ntmps102 aM results102 (by intro _ h;cases h) λw0 X hp=>?_;apply aD;simp;apply eA;refine DS hT hW 4 (decide (l=[])) (λ_=>none) (λ_=>⟨rfl,λ_ h=>h⟩) bY λb1 hb1=>?_;simp;apply aJ;simp;refine⟨λh1=>?_,λh1=>?_⟩
 ·apply aD;simp;apply aH;have:=hb1 h1;simp at this;simp[this]
 ·apply aF;simp;apply aD;simp;refine⟨aE,?_⟩;apply aH;simp
theorem FK(l:List aW)(hl:l.length<=8000000000000):iG prog 101 [.ow 0 0 l.length] [(0,.row false 1 (l.map .str))] [(0,.row false 1 ((eM l).map .str++List.replicate (l.length-(eM l).length) (.str [])))] (.ow 0 0 (eM l).length):=by
 refine iG.one func101 bY (c:=_) rfl ntmps101 aM results101 λw0 X hp=>?_;apply aD;simp;apply aG;apply aV;simp;refine⟨λh1=>?_,λh1=>?_⟩
 ·apply aD;simp;apply aH;simp;refine aA hp [2] [(0,0)] ?_ ?_
  ·simp[Ce (by omega:l.length<2)]
  ·simp[Ce (by omega:l.length<2)]
 ·apply aF;simp;apply dT;simp;apply aO;refine aU (ι:=Nat) (λk=>aR [(0,.ow 0 0 l.length),(3,.d (aI k))]) (λk=>aL [(0,.row false 1 (l.map .str))]) (λk=>1<=k/\k<=l.length/\eM (l.take k)=l.take k) (λk=>l.length-k) 1 (aA hp [0,3] [(0,0)]) (⟨aE,aE,Sh⟩) λk hi4=>?_;apply aG;apply aV;simp;refine⟨λh4=>?_,λh4=>?_⟩
  ·apply aF;simp;apply dH;apply aG;refine eW.rd [] [] (λ_=>none) ?_;simp[(show((k:Int)- 1).toNat=k-1 by omega),h4,(show k-1<l.length by omega)];refine⟨aE,?_⟩;apply aJ;simp;refine⟨λh6=>?_,λh6=>?_⟩
   ·apply aD;simp;refine⟨aE,?_⟩;apply dT;simp;apply aO;refine aU (ι:=Nat×Nat×List aW) (λ⟨q,k',r⟩=>aR [(0,.ow 0 0 l.length),(3,.d (aI k')),(4,.ow 0 k (l.length-k)),(5,.d (aI q))]) (λ⟨q,k',r⟩=>aL [(0,.row false 1 (r.map .str))]) (λ⟨q,k',r⟩=>1<=q/\k+q<=l.length/\1<=k'/\k'+1<=k+q/\r.length=l.length/\r.take k'=eM (l.take (k+q))/\r.drop (k+q-1)=l.drop (k+q-1)) (λ⟨q,k',r⟩=>l.length-k-q) (1,k,l) (aA hp [0,3,4,5] [(0,0)]) (⟨aE,aE,aE,aE,rfl,by rw[tM aE h4,if_pos h6.symm,hi4.2.2],rfl⟩) λ⟨q,k',r⟩ hi9=>?_;apply aG;apply aV;simp;refine⟨λh9=>?_,λh9=>?_⟩
    ·apply aF;simp;apply dH;apply aG;obtain⟨g1,g2,g3,g4,g5,g6,g7⟩:=hi9;have hq:k+q<l.length:=aE;have e1:r[k+q]'aE=l[k+q]:=Kt g7 aE aE hq;have e2:r[k+(q-1)]'aE=l[k+(q-1)]:=Kt g7 aE aE aE;refine eW.rd [] [] (λ_=>none) ?_;simp[(show((q:Int)- 1).toNat=q-1 by omega),(show k+q<r.length by omega),(show k+(q-1)<r.length by omega),e1,e2];refine⟨aE,?_⟩;apply aJ;simp;refine⟨λh11=>?_,λh11=>?_⟩
     ·apply aD;simp[(show k+q<r.length by omega),e1];refine⟨aE,?_⟩;apply aK;simp;refine⟨aE,?_⟩;apply aK;simp;refine⟨aE,?_⟩;refine Pq.mk (q+1,k'+1,r.set k' l[k+q]) (aA hp [0,3,4,5] [(0,0)]) ?_ ?_
      ·have hk':k'<r.length:=aE;have e3:¬l[k+q-1]=l[k+q]:=λe=>h11 (by rw[<-e];congr 1;omega);dsimp only;refine⟨aE,aE,aE,aE,by simp[g5],?_,?_⟩
       ·rw[List.take_succ_eq_append_getElem (by simpa using hk'),List.getElem_set_self,List.take_set_of_le aE,g6,<-Nat.add_assoc,tM aE hq,if_neg e3]
       ·have g8:=congrArg (List.drop 1) g7;rw[List.drop_drop,List.drop_drop,show k+q-1+1=k+q by omega]at g8;rw[show k+(q+1)- 1=k+q by omega,List.drop_set_of_lt aE,g8]
      ·omega
     ·apply aF;simp;apply aK;simp;refine⟨aE,?_⟩;refine Pq.mk (q+1,k',r) (aA hp [0,3,4,5] [(0,0)]) ?_ ?_
      ·have e3:l[k+q-1]=l[k+q]:=by rw[h11];congr 1;omega
       dsimp only;refine⟨aE,aE,aE,aE,g5,?_,?_⟩
       ·rw[g6,<-Nat.add_assoc,tM aE hq,if_pos e3]
       ·have g8:=congrArg (List.drop 1) g7;rw[List.drop_drop,List.drop_drop,show k+q-1+1=k+q by omega]at g8;rw[show k+(q+1)- 1=k+q by omega,g8]
      ·omega
    ·apply bE;simp;apply aD;simp;refine⟨aE,?_⟩;apply aD;simp;refine⟨aE,?_⟩;apply aH;simp;obtain⟨g1,g2,g3,g4,g5,g6,g7⟩:=hi9;have hq:k+q=l.length:=aE;rw[hq,List.take_length]at g6;have hkl:(eM l).length=k':=by rw[<-g6];simp;omega
     refine aA hp [2] [(0,0)] ?_ ?_
     ·simp[hkl]
     ·have hd:List.drop (k'+(l.length-k')) (List.map DV.str r)=[]:=List.drop_eq_nil_of_le kG;simp;rw[hd,hkl,<-g6,List.map_take,List.append_nil]
   ·apply aF;simp;apply aK;simp;refine⟨aE,?_⟩;refine Pq.mk (k+1) (aA hp [0,3] [(0,0)]) ?_ ?_
    ·have e6:¬l[k-1]=l[k]:=λe=>h6 e.symm;exact⟨aE,h4,by rw[tM aE h4,if_neg e6,hi4.2.2];simp⟩
    ·omega
  ·apply bE;simp;apply aD;simp;apply aH;simp;have q:k=l.length:=aE;have e:=hi4.2.2;rw[q,List.take_length]at e;refine aA hp [2] [(0,0)] ?_ ?_
   ·simp[e]
   ·simp[e]
end
section
attribute[local simp] kQ.cond Nd.d_eq nd_t nd_dr nd_td ndsD aZ
theorem yE(s t:aW)(hl:s.length<=9223372036854775807)(ht:t.length<=9223372036854775807):Ok prog 179 [.str s,.str t] ⟨.d (.bool (decide (s.take t.length=t))),true⟩:=by
 refine Ok.ret func179 bY (c:=_) rfl ntmps179 aM results179 (by intro _ h;cases h) λw0 X hp=>?_;apply aD;simp;apply aD;simp;apply aH;simp;rw[Bool.beq_eq_decide_eq,Bool.eq_iff_iff];simp only[Bool.and_eq_true,decide_eq_true_eq];refine⟨λh=>h.2,λh=>⟨?_,h⟩⟩;have e:=congrArg List.length h;rw[List.length_take]at e;omega
theorem oY(s t:aW)(hl:s.length<=9223372036854775807)(ht:t.length<=9223372036854775807):Ok prog 159 [.str s,.str t] ⟨.d (.bool (decide (s.take t.length=t))),true⟩:=by
 refine Ok.ret func159 bY (c:=_) rfl ntmps159 aM results159 (by intro _ h;cases h) λw0 X hp=>?_;apply aD;simp;apply aG;have h:=yE s t hl ht;refine aP (λ|7=>some<| .plain ⟨.d (.bool (decide (s.take t.length=t))),true⟩|_=>none) ?_;simp;refine⟨h,?_⟩;apply aH;simp
theorem CM(s:aW)(c:UInt8):Ok prog 160 [.str s,.int .u8 (c.toNat:Int)] ⟨.d (aI (uJ c s)),true⟩:=by
 refine Ok.ret func160 bY (c:=_) rfl ntmps160 aM results160 (by intro _ h;cases h) λw0 X hp=>?_;apply aD;simp;apply aG;have h:=Ag s c;refine aP (λ|7=>some<| .plain ⟨.d (aI (uJ c s)),true⟩|_=>none) ?_;simp;refine⟨h,?_⟩;apply aH;simp
theorem kW(c:UInt8)(r:aW):nextN (c::r)=if letterB c then wordN (c::r)else if c=36 then(if 0<wordN r then wordN r+1 else 0)
 else if digitB c then(if runP digitB (c::r)<=3 then runP digitB (c::r)else 0)
 else if(c::r).take 2=[60,61]\/(c::r).take 2=[61,61]then 2 else if c∈signs then 1 else 0:=rfl
theorem PN{c:UInt8}:((c.toNat:Int)=36)↔c=36:=by
 rw[<-UInt8.toNat_inj];have:(36:UInt8).toNat=36:=rfl;omega
theorem oA(c:UInt8)(r:aW)(a b:UInt8):(c::r).take 2=[a,b]↔c=a/\r.take 1=[b]:=aM
theorem En(c:UInt8):∀l:aW,0<=uJ c l↔c∈l
 |[]=>by simp[uJ,cutAt]
 |d::l=>by
  have ih:=En c l;unfold uJ at ih|-;unfold cutAt;by_cases h:d=c
  ·simp[h]
  ·rw[if_neg h];have h':¬c=d:=λe=>h e.symm;cases q:cutAt c l with
   |none=>rw[q]at ih;simp only[Option.map_none,List.mem_cons,h',false_or];exact ih
   |some q2=>rw[q]at ih;simp only[Option.map_some,List.mem_cons,h',false_or,List.length_cons];exact⟨λ_=>ih.1 aM,λ_=>aE⟩
theorem XS(c:UInt8)(r:aW)(hl:(c::r).length<=9223372036854775807):Ok prog 119 [.str (c::r)] ⟨.d (aI (nextN (c::r))),true⟩:=by
 refine Ok.ret func119 bY (c:=_) rfl ntmps119 aM results119 (by intro _ h;cases h) λw0 X hp=>?_;have hr:r.length+1<=9223372036854775807:=by simpa using hl
 apply aD;simp;apply dH;apply aG;have l1:=xH c;refine aP (λ|8=>some<| .plain ⟨.d (.bool (letterB c)),true⟩|_=>none) ?_;simp;refine⟨l1,?_⟩;apply aJ;simp;refine⟨λh1=>?_,λh1=>?_⟩
 ·apply aG;have w1:=Ih (c::r) hl;refine aP (λ|10=>some<| .plain ⟨.d (aI (wordN (c::r))),true⟩|_=>none) ?_;simp;refine⟨w1,?_⟩;apply aH;simp;rw[kW,if_pos h1]
 ·apply aV;simp;refine⟨λh3=>?_,λh3=>?_⟩
  ·apply eA;have w4:=Ih r aE;refine aP (λ|17=>some<| .plain ⟨.d (aI (wordN r)),true⟩|_=>none) ?_;simp;refine⟨⟨aE,w4⟩,?_⟩;apply aV;simp;refine⟨λh5=>?_,λh5=>?_⟩
   ·apply aG;have b6:=zZ r;apply aK;simp;refine⟨aE,?_⟩;apply aH;simp;rw[kW,if_neg (by simp[h1]),if_pos (PN.1 h3),if_pos h5];rfl
   ·apply aF;simp;apply aD;simp;apply aH;simp;rw[kW,if_neg (by simp[h1]),if_pos (PN.1 h3),if_neg aE];rfl
  ·apply aG;have l8:=vQ c;refine aP (λ|25=>some<| .plain ⟨.d (.bool (digitB c)),true⟩|_=>none) ?_;simp;refine⟨l8,?_⟩;apply aJ;simp;refine⟨λh8=>?_,λh8=>?_⟩
   ·apply eA;have w9:=Vf (c::r) digitB 157 (λc=>vQ c) hl;refine aP (λ|27=>some<| .plain ⟨.d (aI (runP digitB (c::r))),true⟩|_=>none) ?_;simp;refine⟨w9,?_⟩;apply aV;simp;refine⟨λh10=>?_,λh10=>?_⟩
    ·apply aD;simp;apply aH;simp;rw[kW,if_neg (by simp[h1]),if_neg (λe=>h3 (PN.2 e)),if_pos h8,if_pos aE]
    ·apply aF;simp;apply aD;simp;apply aH;simp;rw[kW,if_neg (by simp[h1]),if_neg (λe=>h3 (PN.2 e)),if_pos h8,if_neg aE];rfl
   ·apply aG;have w13:=oY (c::r) [60,61] hl bC;have v13:=oY (c::r) [61,61] hl bC;refine aP (λ|33=>some<| .plain ⟨.d (.bool (decide ((c::r).take 2=[60,61]))),true⟩|36=>some<| .plain ⟨.d (.bool (decide ((c::r).take 2=[61,61]))),true⟩|_=>none) ?_;simp;refine⟨⟨⟨by simpa using w13,λ_=>by simpa using v13⟩,λh=>Classical.not_and_iff_not_or_not.1 λq=>h q.1 q.2⟩,?_⟩;apply aJ;simp;refine⟨λg=>?_,λg1 g2=>?_⟩
    ·apply aD;simp;apply aH;simp;rw[kW,if_neg (by simp[h1]),if_neg (λe=>h3 (PN.2 e)),if_neg (by simp[h8]),if_pos (by rw[oA,oA];exact g)];rfl
    ·apply aG;have w15:=CM [40,41,123,125,61,43,45,42,60,59,46] c;refine aP (λ|41=>some<| .plain ⟨.d (aI (uJ c [40,41,123,125,61,43,45,42,60,59,46])),true⟩|_=>none) ?_;simp;refine⟨w15,?_⟩;apply aJ;simp;refine⟨λh15=>?_,λh15=>?_⟩
     ·apply aD;simp;apply aH;simp;rw[kW,if_neg (by simp[h1]),if_neg (λe=>h3 (PN.2 e)),if_neg (by simp[h8]),if_neg (by rw[oA,oA];rintro(⟨e1,e2⟩|⟨e1,e2⟩);exact g1 e1 e2;exact g2 e1 e2),if_pos ((En c signs).1 h15)];rfl
     ·apply aF;simp;apply aD;simp;apply aH;simp;rw[kW,if_neg (by simp[h1]),if_neg (λe=>h3 (PN.2 e)),if_neg (by simp[h8]),if_neg (by rw[oA,oA];rintro(⟨e1,e2⟩|⟨e1,e2⟩);exact g1 e1 e2;exact g2 e1 e2),if_neg (λe=>by have:=(En c signs).2 e;unfold signs at this;omega)];rfl
end
section
attribute[local simp] kQ.cond Nd.d_eq nd_t nd_dr nd_td ndsD
theorem Kv(x:Nd)(hw:weighN x<=1000000000)(ih:∀y∈x.kids,weighN y<=1000000000->Ok prog 85 [y.d] ⟨.d (aI (depthN y)),true⟩):Ok prog 85 [x.d] ⟨.d (aI (depthN x)),true⟩:=by
 refine Ok.ret func85 bY (c:=_) rfl ntmps85 aM results85 (by intro _ h;cases h) λw0 X hp=>?_;apply aD;simp;apply aD;simp;apply dT;simp;apply aO;refine aU (ι:=Nat) (λi=>aR [(1,.bx 1 0),(3,.d (aI (depthL (x.kids.take i)))),(4,.d (aI i))]) (λi=>aL [(1,.box false [.d (aI x.kind),.d (.str x.text),.d (aI x.n),.d (ndsD x.kids)])]) (λi=>i<=x.kids.length) (λi=>x.kids.length-i) 0 (aA hp [1,3,4] [(1,1)] (by simp[depthL])) (Nat.zero_le _) λi hi3=>?_;apply aG;apply aV;simp;refine⟨λh3=>?_,λh3=>?_⟩
 ·apply aF;simp;apply dH;have hi:i<x.kids.length:=aE;have hk:=ih _ (List.getElem_mem hi) (by have:=lW hi;omega);refine aP (λ|18=>some<| .plain ⟨.d (aI (depthN x.kids[i])),true⟩|_=>none) ?_;simp[hi];refine⟨by simpa using hk,?_⟩;have:=lF x;apply aK;simp;refine⟨aE,?_⟩;refine Pq.mk (i+1) (aA hp [1,3,4] [(1,1)] (by simp[depthL_succ hi,PD])) ?_ ?_
  ·omega
  ·omega
 ·apply bE;simp;apply aG;have hi:i=x.kids.length:=aE;subst hi;rw[List.take_length];have q1:=depth_size x;have q2:=size_weigh x;have q3:=depthN_eq x;apply aK;simp;refine⟨aE,?_⟩;apply aH;simp[q3]
theorem Si(x:Nd):weighN x<=1000000000->Ok prog 85 [x.d] ⟨.d (aI (depthN x)),true⟩:=
 nE (p:=λx=>weighN x<=1000000000->Ok prog 85 [x.d] ⟨.d (aI (depthN x)),true⟩) (λ_ _ _ _ ih hw=>Kv _ hw ih) x
theorem Sj(x:Nd):Ok prog 222 [x.d] ⟨.d (aI (lvlN x.kind)),true⟩:=by
 refine Ok.ret func222 bY (c:=_) rfl ntmps222 aM results222 (by intro _ h;cases h) λw0 X hp=>?_;apply aD;simp;apply dT;simp;apply aO;refine aY (ι:=BC) (λ⟨b⟩=>aR [(1,.bx 1 0),(4,.d (aI (x.kind))),(5,.d (.bool b))]) (λ⟨b⟩=>aL [(1,.box false [.d (aI x.kind),.d (.str x.text),.d (aI x.n),.d (ndsD x.kids)])]) (λ⟨b⟩=>b=true↔(x.kind=26\/x.kind=27\/x.kind=28)) ?_ λ⟨b⟩ hc5=>?_
 ·apply aV;simp;refine⟨λh2=>?_,λh2=>?_⟩
  ·apply aF;simp;refine XG.mk ⟨decide (x.kind=26)⟩ (aA hp [1,4,5] [(1,1)]) ?_;simp[h2]
  ·apply aV;simp;refine⟨λh3=>?_,λh3=>?_⟩
   ·apply aF;simp;refine XG.mk ⟨decide (x.kind=27)⟩ (aA hp [1,4,5] [(1,1)]) ?_;simp[h3]
   ·apply aK;simp;refine XG.mk ⟨decide (x.kind=28)⟩ (aA hp [1,4,5] [(1,1)]) ?_;simp only[decide_eq_true_eq];omega
 ·apply aJ;simp;refine⟨λh5=>?_,λh5=>?_⟩
  ·have q5:=hc5.1 h5;apply aD;simp;apply aH;have e:lvlN x.kind=1:=by rcases q5 with h|h|h<;>rw[h]<;>rfl
   simp[e]
  ·have q5:¬(x.kind=26\/x.kind=27\/x.kind=28):=λq=>by simp[hc5.2 q]at h5
   refine aY (ι:=BC) (λ⟨b⟩=>aR [(1,.bx 1 0),(4,.d (aI (x.kind))),(9,.d (.bool b))]) (λ⟨b⟩=>aL [(1,.box false [.d (aI x.kind),.d (.str x.text),.d (aI x.n),.d (ndsD x.kids)])]) (λ⟨b⟩=>b=true↔(x.kind=29\/x.kind=30)) ?_ λ⟨b⟩ hc8=>?_
   ·apply aV;simp;refine⟨λh6=>?_,λh6=>?_⟩
    ·apply aF;simp;refine XG.mk ⟨decide (x.kind=29)⟩ (aA hp [1,4,9] [(1,1)]) ?_;simp[h6]
    ·apply aK;simp;refine XG.mk ⟨decide (x.kind=30)⟩ (aA hp [1,4,9] [(1,1)]) ?_;simp only[decide_eq_true_eq];omega
   ·apply aJ;simp;refine⟨λh8=>?_,λh8=>?_⟩
    ·have q8:=hc8.1 h8;apply aD;simp;apply aH;have e:lvlN x.kind=2:=by rcases q8 with h|h<;>rw[h]<;>rfl
     simp[e]
    ·have q8:¬(x.kind=29\/x.kind=30):=λq=>by simp[hc8.2 q]at h8
     apply aV;simp;refine⟨λh9=>?_,λh9=>?_⟩
     ·apply aD;simp;apply aH;have e:lvlN x.kind=3:=by rw[h9];rfl
      simp[e]
     ·apply aF;simp;apply aD;simp;apply aH;have e:lvlN x.kind=4:=by unfold lvlN;rw[if_neg aE]
      simp[e]
theorem Eo(x:Nd)(least:Int)(hx:Ok prog 175 [x.d] ⟨.d (.str (exprT x)),true⟩)(hl:(exprT x).length<=10000000000):Ok prog 205 [x.d,aI least] ⟨.d (.str (paren (decide (lvlN x.kind<least)) (exprT x))),true⟩:=by
 refine Ok.ret func205 bY (c:=_) rfl ntmps205 aM results205 (by intro _ h;cases h) λw0 X hp=>?_;apply aD;simp;apply eA;have hv:=Sj x;refine aP (λ|6=>some<| .plain ⟨.d (aI (lvlN x.kind)),true⟩|_=>none) ?_;simp;refine⟨by simpa using hv,?_⟩;apply aJ;simp;refine⟨λh1=>?_,λh1=>?_⟩
 ·refine cJ (λ|10=>some<| .plain ⟨.d (.str (exprT x)),true⟩|_=>none) ?_;simp;refine⟨by simpa using hx,?_⟩;apply aH;simp[paren];intro h;omega
 ·apply aF;simp;refine cJ (λ|12=>some<| .plain ⟨.d (.str (exprT x)),true⟩|_=>none) ?_;simp;refine⟨⟨⟨by simpa using hx,aE⟩,aE⟩,?_⟩;apply aH;simp[paren];intro h;omega
theorem PO{x:Int}(h0:0<=x)(h:x<256):IntKind.u8.wrap x=x:=by
 unfold IntKind.wrap;simp[IntKind.bits,IntKind.signed];omega
theorem sL(m:Nat):itoaS (m:Int)=decS m:=by unfold itoaS;rw[if_neg aE];rfl
theorem Kw{m:Nat}(h:0<m):itoaS (-(m:Int))=45::decS m:=by unfold itoaS;rw[if_pos aE,Int.natAbs_neg];rfl
theorem GF{n:Nat}(h:n<1000)(h1:10<=n):decS n=decS (n / 10)++decS (n%10):=by
 have h2:n%10<10:=Nat.mod_lt _ bC;unfold decS;rw[if_neg aE,if_pos h2];by_cases q:n<100
 ·rw[if_pos q,if_pos aE];rfl
 ·rw[if_neg q,if_neg aE,if_pos aE,Nat.div_div_eq_div_mul];rfl
theorem PP{n:Nat}(h:n<10):decS n=[UInt8.ofNat (48+n)]:=by unfold decS;rw[if_pos h]
theorem yF(n:Int)(h1: -999<=n)(h2:n<=999)(ih:∀m:Int,0<=m->m<=999->(n<0\/m<n)->Ok prog 91 [aI m] ⟨.d (.str (itoaS m)),true⟩):Ok prog 91 [aI n] ⟨.d (.str (itoaS n)),true⟩:=by
 refine Ok.ret func91 bY (c:=_) rfl ntmps91 aM results91 (by intro _ h;cases h) λw0 X hp=>?_;apply aD;simp;apply aG;apply aV;simp;refine⟨λh1=>?_,λh1=>?_⟩
 ·apply aG;obtain⟨m,hm⟩:∃m:Nat,n= -(m:Int):=⟨n.natAbs,aE⟩;obtain⟨a,ha⟩:∃a,a=m / 10:=⟨_,rfl⟩;obtain⟨b,hb⟩:∃b,b=m%10:=⟨_,rfl⟩;have e1:n.tdiv 10= -(a:Int):=by subst hm ha;rw[Int.neg_tdiv];rfl
  have e2:n.tmod 10= -(b:Int):=by subst hm hb;rw[Int.neg_tmod];rfl
  have c1:=ih (a:Int) aE aE aE;have c2:=ih (b:Int) aE aE aE;have l1:=cC (a:Int);have l2:=cC (b:Int);have z1:0- -(a:Int)=(a:Int):=aE;have z2:0- -(b:Int)=(b:Int):=aE;refine aP (λ|8=>some<| .plain ⟨.d (.str (itoaS (a:Int))),true⟩|13=>some<| .plain ⟨.d (.str (itoaS (b:Int))),true⟩|_=>none) ?_;simp[e1,e2];refine⟨by(repeat' with_reducible apply And.intro)<;>first|omega|exact c1|exact c2|(simp only[List.length_cons];omega),?_⟩;apply aH;simp;subst hm ha hb;rw[Kw aE,sL,sL,GF (n:=m) aE aE]
 ·apply aF;simp;apply aG;apply aV;simp;refine⟨λh3=>?_,λh3=>?_⟩
  ·apply aG;obtain⟨m,hm⟩:∃m:Nat,n= -(m:Int):=⟨n.natAbs,aE⟩;have c1:=ih (m:Int) aE aE aE;have l1:=cC (m:Int);have z1:0-n=(m:Int):=aE;refine aP (λ|19=>some<| .plain ⟨.d (.str (itoaS (m:Int))),true⟩|_=>none) ?_;simp[z1];refine⟨by(repeat' with_reducible apply And.intro)<;>first|omega|exact c1,?_⟩;apply aH;simp;subst hm;rw[Kw aE,sL]
  ·apply aF;simp;apply aG;apply aV;simp;refine⟨λh5=>?_,λh5=>?_⟩
   ·apply aG;obtain⟨m,hm⟩:∃m:Nat,n=(m:Int):=⟨n.natAbs,aE⟩;have w1:IntKind.u8.wrap (48+n)=48+n:=PO aE aE;apply aK;simp[w1];refine⟨by(repeat' with_reducible apply And.intro)<;>first|omega|decide,?_⟩;apply aH;simp;subst hm;rw[sL,PP aE];rfl
   ·apply aF;simp;apply aG;obtain⟨m,hm⟩:∃m:Nat,n=(m:Int):=⟨n.natAbs,aE⟩;obtain⟨a,ha⟩:∃a,a=m / 10:=⟨_,rfl⟩;obtain⟨b,hb⟩:∃b,b=m%10:=⟨_,rfl⟩;have e1:n.tdiv 10=(a:Int):=by subst hm ha;rfl
    have e2:n.tmod 10=(b:Int):=by subst hm hb;rfl
    have c1:=ih (a:Int) aE aE aE;have l1:=cC (a:Int);have w1:IntKind.u8.wrap (48+(b:Int))=48+(b:Int):=PO aE aE;refine eW.rd [[35],[35],[35],[30],[30],[30],[30],[30],[30]] [[],[],[30],[],[],[],[],[35]] (λ|30=>some<| .plain ⟨.d (.str (itoaS (a:Int))),true⟩|_=>none) ?_;simp[e1,e2,w1];refine⟨by(repeat' with_reducible apply And.intro)<;>first|omega|exact c1|decide,?_⟩;apply aH;simp;subst hm ha hb;rw[sL,sL,GF (n:=m) aE aE,PP (n:=m%10) aE];rfl
theorem jJ(n:Int)(h1: -999<=n)(h2:n<=999):Ok prog 91 [aI n] ⟨.d (.str (itoaS n)),true⟩:=by
 have pos:∀k:Nat,k<=999->Ok prog 91 [aI (k:Int)] ⟨.d (.str (itoaS (k:Int))),true⟩:=λk=>by
  induction k using Nat.strongRecOn with
  |ind k ih=>
   intro hk;refine yF _ aE aE λm h0 _ hm=>?_;obtain⟨j,rfl⟩:=Int.eq_ofNat_of_zero_le h0;exact ih j aE aE
 refine yF n h1 h2 λm h0 hm _=>?_;obtain⟨j,rfl⟩:=Int.eq_ofNat_of_zero_le h0;exact pos j aE
theorem GG{x a b:Nd}(h:exprT x=paren (decide (lvlN a.kind<(if levelAt x.kind=1 then 2 else levelAt x.kind))) (exprT a)++32::(signAt x.kind++32::paren (decide (lvlN b.kind<levelAt x.kind+1)) (exprT b))){l m:Int}{s:aW}
 (hl:(if levelAt x.kind=1 then 2 else levelAt x.kind)=l)(hm:levelAt x.kind+1=m)(hs:signAt x.kind=s):exprT x=paren (decide (lvlN a.kind<l)) (exprT a)++32::(s++32::paren (decide (lvlN b.kind<m)) (exprT b)):=by
 rw[h,hl,hm,hs]
theorem NM(x:Nd)(hr:rightN x=true)(he:isExprK x.kind=true)(hw:weighN x<=1000000000)(ih:∀y∈x.kids,rightN y=true->isExprK y.kind=true->weighN y<=1000000000->Ok prog 175 [y.d] ⟨.d (.str (exprT y)),true⟩):Ok prog 175 [x.d] ⟨.d (.str (exprT x)),true⟩:=by
 refine Ok.ret func175 bY (c:=_) rfl ntmps175 aM results175 (by intro _ h;cases h) λw0 X hp=>?_;obtain⟨f0,f32,f33,f36,f34,f26⟩:=Eb hr he;have hwx:=weighN_eq x;apply aD;simp;apply dT;simp;apply aO;apply aV;simp;refine⟨λh2=>?_,λh2=>?_⟩
 ·apply aG;obtain⟨q1,q2,q3⟩:=f32 h2;have hi:=jJ x.n aE q3;refine aP (λ|11=>some<| .plain ⟨.d (.str (itoaS x.n)),true⟩|_=>none) ?_;simp;refine⟨hi,?_⟩;apply aH;simp[q1]
 ·apply aV;simp;refine⟨λh4=>?_,λh4=>?_⟩
  ·apply aD;simp;refine⟨aE,?_⟩;apply aH;simp[f33 h4]
  ·refine aY (ι:=BC) (λ⟨b⟩=>aR [(1,.bx 1 0),(6,.d (aI (x.kind))),(17,.d (.bool b))]) (λ⟨b⟩=>aL [(1,.box false [.d (aI x.kind),.d (.str x.text),.d (aI x.n),.d (ndsD x.kids)])]) (λ⟨b⟩=>b=true↔(x.kind=34\/x.kind=35)) ?_ λ⟨b⟩ hc8=>?_
   ·apply aV;simp;refine⟨λh6=>?_,λh6=>?_⟩
    ·apply aF;simp;refine XG.mk ⟨decide (x.kind=34)⟩ (aA hp [1,6,17] [(1,1)]) ?_;simp[h6]
    ·apply aK;simp;refine XG.mk ⟨decide (x.kind=35)⟩ (aA hp [1,6,17] [(1,1)]) ?_;simp only[decide_eq_true_eq];omega
   ·apply aJ;simp;refine⟨λh8=>?_,λh8=>?_⟩
    ·have q8:=hc8.1 h8;apply aD;simp;apply aH;simp[f34 q8]
    ·have q8:¬(x.kind=34\/x.kind=35):=λq=>by simp[hc8.2 q]at h8
     apply aV;simp;refine⟨λh9=>?_,λh9=>?_⟩
     ·apply aD;simp;apply aH;simp[f36 h9,sKind]
     ·apply aF;simp;apply aG;have hk31:x.kind<=31:=aE;obtain⟨a,b',hks,ra,ea,rb,eb,hTx⟩:=f26 hk31;rw[hks]at hwx ih;simp only[weighL]at hwx;have la:=dC a ra ea;have lb:=dC b' rb eb;have pa:=λc=>pI c (exprT a);have pb:=λc=>pI c (exprT b');have ka:=λl=>Eo a l (ih a aM ra ea aE) aE;have kb:=λl=>Eo b' l (ih b' aM rb eb aE) aE;apply aK;simp[hks];apply aD;simp[hks];apply dT;simp;apply aO;apply aV;simp;refine⟨λh14=>?_,λh14=>?_⟩
      ·apply aG;have pa15:=pa (decide (lvlN a.kind<2));have pb15:=pb (decide (lvlN b'.kind<2));have ka15:=ka 2;have kb15:=kb 2;have e15:=GG hTx (l:=2) (m:=2) (s:=[60]) (by rw[h14];rfl) (by rw[h14];rfl) (by rw[h14];rfl);refine eW.rd [[],[],[40],[37]] [[],[37],[],[],[40]] (λ|37=>some<| .plain ⟨.d (.str (paren (decide (lvlN a.kind<2)) (exprT a))),true⟩|40=>some<| .plain ⟨.d (.str (paren (decide (lvlN b'.kind<2)) (exprT b'))),true⟩|_=>none) ?_;simp;refine⟨by(repeat' with_reducible apply And.intro)<;>first|omega|(simpa using ka15)|(simpa using kb15),?_⟩;apply aH;simp[e15]
      ·apply aV;simp;refine⟨λh16=>?_,λh16=>?_⟩
       ·apply aG;have pa17:=pa (decide (lvlN a.kind<2));have pb17:=pb (decide (lvlN b'.kind<2));have ka17:=ka 2;have kb17:=kb 2;have e17:=GG hTx (l:=2) (m:=2) (s:=[60,61]) (by rw[h16];rfl) (by rw[h16];rfl) (by rw[h16];rfl);refine eW.rd [[],[],[48],[45]] [[],[45],[],[],[48]] (λ|45=>some<| .plain ⟨.d (.str (paren (decide (lvlN a.kind<2)) (exprT a))),true⟩|48=>some<| .plain ⟨.d (.str (paren (decide (lvlN b'.kind<2)) (exprT b'))),true⟩|_=>none) ?_;simp;refine⟨by(repeat' with_reducible apply And.intro)<;>first|omega|(simpa using ka17)|(simpa using kb17),?_⟩;apply aH;simp[e17]
       ·apply aV;simp;refine⟨λh18=>?_,λh18=>?_⟩
        ·apply aG;have pa19:=pa (decide (lvlN a.kind<2));have pb19:=pb (decide (lvlN b'.kind<2));have ka19:=ka 2;have kb19:=kb 2;have e19:=GG hTx (l:=2) (m:=2) (s:=[61,61]) (by rw[h18];rfl) (by rw[h18];rfl) (by rw[h18];rfl);refine eW.rd [[],[],[56],[53]] [[],[53],[],[],[56]] (λ|53=>some<| .plain ⟨.d (.str (paren (decide (lvlN a.kind<2)) (exprT a))),true⟩|56=>some<| .plain ⟨.d (.str (paren (decide (lvlN b'.kind<2)) (exprT b'))),true⟩|_=>none) ?_;simp;refine⟨by(repeat' with_reducible apply And.intro)<;>first|omega|(simpa using ka19)|(simpa using kb19),?_⟩;apply aH;simp[e19]
        ·apply aV;simp;refine⟨λh20=>?_,λh20=>?_⟩
         ·apply aG;have pa21:=pa (decide (lvlN a.kind<2));have pb21:=pb (decide (lvlN b'.kind<3));have ka21:=ka 2;have kb21:=kb 3;have e21:=GG hTx (l:=2) (m:=3) (s:=[43]) (by rw[h20];rfl) (by rw[h20];rfl) (by rw[h20];rfl);refine eW.rd [[],[],[64],[61]] [[],[61],[],[],[64]] (λ|61=>some<| .plain ⟨.d (.str (paren (decide (lvlN a.kind<2)) (exprT a))),true⟩|64=>some<| .plain ⟨.d (.str (paren (decide (lvlN b'.kind<3)) (exprT b'))),true⟩|_=>none) ?_;simp;refine⟨by(repeat' with_reducible apply And.intro)<;>first|omega|(simpa using ka21)|(simpa using kb21),?_⟩;apply aH;simp[e21]
         ·apply aV;simp;refine⟨λh22=>?_,λh22=>?_⟩
          ·apply aG;have pa23:=pa (decide (lvlN a.kind<2));have pb23:=pb (decide (lvlN b'.kind<3));have ka23:=ka 2;have kb23:=kb 3;have e23:=GG hTx (l:=2) (m:=3) (s:=[45]) (by rw[h22];rfl) (by rw[h22];rfl) (by rw[h22];rfl);refine eW.rd [[],[],[72],[69]] [[],[69],[],[],[72]] (λ|69=>some<| .plain ⟨.d (.str (paren (decide (lvlN a.kind<2)) (exprT a))),true⟩|72=>some<| .plain ⟨.d (.str (paren (decide (lvlN b'.kind<3)) (exprT b'))),true⟩|_=>none) ?_;simp;refine⟨by(repeat' with_reducible apply And.intro)<;>first|omega|(simpa using ka23)|(simpa using kb23),?_⟩;apply aH;simp[e23]
          ·apply aF;simp;apply aG;have pa24:=pa (decide (lvlN a.kind<3));have pb24:=pb (decide (lvlN b'.kind<4));have ka24:=ka 3;have kb24:=kb 4;have e24:=GG hTx (l:=3) (m:=4) (s:=[42]) (by rw[(show x.kind=31 by omega)];rfl) (by rw[(show x.kind=31 by omega)];rfl) (by rw[(show x.kind=31 by omega)];rfl);refine eW.rd [[],[],[78],[75]] [[],[75],[],[],[78]] (λ|75=>some<| .plain ⟨.d (.str (paren (decide (lvlN a.kind<3)) (exprT a))),true⟩|78=>some<| .plain ⟨.d (.str (paren (decide (lvlN b'.kind<4)) (exprT b'))),true⟩|_=>none) ?_;simp;refine⟨by(repeat' with_reducible apply And.intro)<;>first|omega|(simpa using ka24)|(simpa using kb24),?_⟩;apply aH;simp[e24]
theorem qC(x:Nd):rightN x=true->isExprK x.kind=true->weighN x<=1000000000->Ok prog 175 [x.d] ⟨.d (.str (exprT x)),true⟩:=
 nE (p:=λx=>rightN x=true->isExprK x.kind=true->weighN x<=1000000000->Ok prog 175 [x.d] ⟨.d (.str (exprT x)),true⟩) (λ_ _ _ _ ih hr he hw=>NM _ hr he hw ih) x
end
section
attribute[local simp] kQ.cond Nd.d_eq nd_t nd_dr nd_td ndsD
theorem PQ{x:Nd}(h:Nt x.kind x.text x.n x.kids)(hk:x.kind=15\/x.kind=22\/x.kind=16\/x.kind=23\/x.kind=24):∃e,x.kids=[e]/\rightN e=true/\isExprK e.kind=true/\x.n=0:=by
 obtain⟨_,_,_,h4⟩:=xE h;have key:∀e,x.kids=[e]->x.n=0->∃e,x.kids=[e]/\rightN e=true/\isExprK e.kind=true/\x.n=0:=λe he hn=>⟨e,he,(h4 e (by rw[he];simp)).1,(h4 e (by rw[he];simp)).2,hn⟩;rcases h with⟨h1,h2,h3,h4⟩|⟨h1,h2,h3,e,h4,h5,h6⟩|⟨h1,h2,h3,u,h4,h5⟩|⟨h1,h2,h3,h4,h5⟩|⟨h1,h2,h3,h4⟩|⟨h1,h2,h3,h4⟩|⟨h1,h2,h3,e,h4,h5,h6⟩
 ·omega
 ·exact key _ h4 h3
 ·exact key _ h4 h3
 ·omega
 ·omega
 ·omega
 ·exact key _ h4 h3
theorem Vs{x:Nd}(h:Nt x.kind x.text x.n x.kids)(hk:x.kind=13\/x.kind=14\/x.kind=17\/x.kind=18):x.kids=[]/\x.n=0:=by
 rcases h with⟨h1,h2,h3,h4⟩|⟨h1,h2,h3,e,h4,h5,h6⟩|⟨h1,h2,h3,u,h4,h5⟩|⟨h1,h2,h3,h4,h5⟩|⟨h1,h2,h3,h4⟩|⟨h1,h2,h3,h4⟩|⟨h1,h2,h3,e,h4,h5,h6⟩<;>first|exact⟨h4,h3⟩|omega
theorem Kx{x:Nd}(h:Nt x.kind x.text x.n x.kids)(hk:x.kind=19\/x.kind=21\/x.kind=25):x.kids=[]/\0<x.n:=by
 rcases h with⟨h1,h2,h3,h4⟩|⟨h1,h2,h3,e,h4,h5,h6⟩|⟨h1,h2,h3,u,h4,h5⟩|⟨h1,h2,h3,h4,h5⟩|⟨h1,h2,h3,h4⟩|⟨h1,h2,h3,h4⟩|⟨h1,h2,h3,e,h4,h5,h6⟩<;>first|exact⟨h5,aE⟩|exact⟨h4,aE⟩|omega
theorem XT{x:Nd}(h:Nt x.kind x.text x.n x.kids)(hk:x.kind=20):x.kids=[]/\x.n=0:=by
 rcases h with⟨h1,h2,h3,h4⟩|⟨h1,h2,h3,e,h4,h5,h6⟩|⟨h1,h2,h3,u,h4,h5⟩|⟨h1,h2,h3,h4,h5⟩|⟨h1,h2,h3,h4⟩|⟨h1,h2,h3,h4⟩|⟨h1,h2,h3,e,h4,h5,h6⟩<;>first|exact⟨h4,h3⟩|omega
theorem Ky{x:Nd}(hr:rightN x=true)(h:x.kind=12):x.kids.length=2:=by
 obtain⟨k,t,n,ks⟩:=x;have h:k=12:=h;subst h;obtain⟨_,_,hs,_⟩:=right_mk.1 hr;obtain⟨a,b,e,_⟩:=Ac (ks:=ks) (f:=isExprK) (g:=isBlockK) hs;show ks.length=2;rw[e];rfl
theorem tP:Ok prog 98 [] ⟨.d (.sl rM),true⟩:=by
 refine Ok.ret func98 bY (c:=_) rfl ntmps98 aM results98 (by intro _ h;cases h) λw0 X hp=>?_;apply aD;simp;apply aD;simp;refine⟨bC,?_⟩;apply aH;simp;rfl
theorem NN(x:Nd)(hb:jG x)(hw:weighN x<=1000000000)(ih:∀y∈x.kids,Ok prog 148 [y.d] ⟨.d (.str (stmtT y)),true⟩):Ok prog 99 [x.d] ⟨.d (.str (blockT x)),true⟩:=by
 refine Ok.ret func99 bY (c:=_) rfl ntmps99 aM results99 (by intro _ h;cases h) λw0 X hp=>?_;have hlen:=(eL x).2 hb;have hwx:=lF x;have hstm:∀y∈x.kids,rightN y=true/\isStmtK y.kind=true:=by obtain⟨ks,rfl,h⟩:=hb;exact h
 apply aD;simp;apply aD;simp;apply dT;simp;apply aO;refine aU (ι:=Nat) (λi=>aR [(1,.bx 1 0),(3,.d (.str (123::32::stmtsT (x.kids.take i)))),(4,.d (aI i))]) (λi=>aL [(1,.box false [.d (aI x.kind),.d (.str x.text),.d (aI x.n),.d (ndsD x.kids)])]) (λi=>i<=x.kids.length) (λi=>x.kids.length-i) 0 (aA hp [1,3,4] [(1,1)] (by simp[stmtsT])) (Nat.zero_le _) λi hi3=>?_;apply aG;apply aV;simp;refine⟨λh3=>?_,λh3=>?_⟩
 ·apply aF;simp;apply dH;have hi:i<x.kids.length:=aE;have hk:=ih _ (List.getElem_mem hi);have hs:=hstm _ (List.getElem_mem hi);have l1:=(eL x.kids[i]).1 hs.1 hs.2;have l2:=lW hi;have l3:=uF (l:=x.kids) (λy hy=>(eL y).1 (hstm y hy).1 (hstm y hy).2) i;have l4:=weighN_eq x;refine aP (λ|18=>some<| .plain ⟨.d (.str (stmtT x.kids[i])),true⟩|_=>none) ?_;simp[hi];refine⟨⟨⟨by simpa using hk,aE⟩,aE⟩,?_⟩;apply aK;simp;refine⟨aE,?_⟩;refine Pq.mk (i+1) (aA hp [1,3,4] [(1,1)] (by simp[Cd hi])) ?_ ?_
  ·omega
  ·omega
 ·apply bE;simp;apply aG;have hi:i=x.kids.length:=aE;subst hi;rw[List.take_length];rw[sI]at hlen;simp only[List.length_append,List.length_cons]at hlen;apply aK;simp;refine⟨aE,?_⟩;apply aH;simp[sI]
theorem NO(x:Nd)(hr:rightN x=true)(hk:isStmtK x.kind=true)(hw:weighN x<=1000000000)(ihb:∀y∈x.kids,jG y->Ok prog 99 [y.d] ⟨.d (.str (blockT y)),true⟩):Ok prog 148 [x.d] ⟨.d (.str (stmtT x)),true⟩:=by
 refine Ok.ret func148 bY (c:=_) rfl ntmps148 aM results148 (by intro _ h;cases h) λw0 X hp=>?_;obtain⟨f0,f9,f10,f11,f13⟩:=Ee hr hk;have hwx:=weighN_eq x;have hlen:=(eL x).1 hr hk;have wl:=sH x.kind;have hmem:∀(i:Nat) (hi:i<x.kids.length),weighN x.kids[i]<weighN x:=λi hi=>lW hi;apply aD;simp;apply aD;simp;apply dT;simp;apply aO;apply aV;simp;refine⟨λh3=>?_,λh3=>?_⟩
 ·apply aG;obtain⟨h0,k0,e0⟩:=f9 h3;have w0:=hmem 0 h0;have l0:=dC _ k0.1 k0.2;have c0:=qC _ k0.1 k0.2 aE;refine eW.rd [[19],[19],[19],[19]] [[],[],[],[],[],[],[],[19]] (λ|19=>some<| .plain ⟨.d (.str (exprT x.kids[0])),true⟩|_=>none) ?_;simp[h0];refine⟨by(repeat' with_reducible apply And.intro)<;>first|omega|(simpa using c0),?_⟩;apply aH;simp[e0,RQ]
 ·apply aV;simp;refine⟨λh5=>?_,λh5=>?_⟩
  ·apply aG;obtain⟨h0,h1,k0,k1,e0⟩:=f10 h5;have w0:=hmem 0 h0;have w1:=hmem 1 h1;have l0:=dC _ k0.1 k0.2;have l1:=dC _ k1.1 k1.2;have c0:=qC _ k0.1 k0.2 aE;have c1:=qC _ k1.1 k1.2 aE;simp at c0 c1;refine eW.rd [[],[],[],[],[32],[27],[27],[27]] [[],[],[],[27],[],[],[],[],[32]] (λ|27=>some<| .plain ⟨.d (.str (exprT x.kids[0])),true⟩|32=>some<| .plain ⟨.d (.str (exprT x.kids[1])),true⟩|_=>none) ?_;simp[h0,h1];refine⟨by(repeat' with_reducible apply And.intro)<;>first|omega|with_reducible assumption,?_⟩;apply aH;simp[e0,RS]
  ·apply aV;simp;refine⟨λh7=>?_,λh7=>?_⟩
   ·apply aG;obtain⟨h0,h1,k0,b1,e0⟩:=f11 (.inr h7);have w7:wordAt x.kind=[119,104,105,108,101]:=by rw[h7];rfl
    have e0:stmtT x=PG (wordAt x.kind) (exprT x.kids[0]) (blockT x.kids[1]):=by
     rcases e0 with⟨_,e0⟩|⟨h2,_,e0⟩
     ·exact e0
     ·exfalso;have:=(Ky hr h7);omega
    have w0:=hmem 0 h0;have w1:=hmem 1 h1;have l0:=dC _ k0.1 k0.2;have l1:=(eL x.kids[1]).2 b1;have c0:=qC _ k0.1 k0.2 aE;have c1:=ihb _ (List.getElem_mem h1) b1;simp at c0 c1;refine eW.rd [[],[],[],[],[46],[46],[40],[40],[40]] [[],[],[],[40],[],[],[],[],[],[46]] (λ|40=>some<| .plain ⟨.d (.str (exprT x.kids[0])),true⟩|46=>some<| .plain ⟨.d (.str (blockT x.kids[1])),true⟩|_=>none) ?_;simp[h0,h1];refine⟨by(repeat' with_reducible apply And.intro)<;>first|omega|with_reducible assumption,?_⟩;apply aH;simp[e0,PG,w7]
   ·apply aV;simp;refine⟨λh9=>?_,λh9=>?_⟩
    ·apply aG;obtain⟨h0,h1,k0,b1,e0⟩:=f11 (.inl h9);have w9:wordAt x.kind=[105,102]:=by rw[h9];rfl
     have w0:=hmem 0 h0;have w1:=hmem 1 h1;have l0:=dC _ k0.1 k0.2;have l1:=(eL x.kids[1]).2 b1;have c0:=qC _ k0.1 k0.2 aE;have c1:=ihb _ (List.getElem_mem h1) b1;simp at c0 c1;refine eW.rd [[],[],[],[],[59],[59],[53],[53],[53]] [[],[],[],[53],[],[],[],[],[],[59]] (λ|53=>some<| .plain ⟨.d (.str (exprT x.kids[0])),true⟩|59=>some<| .plain ⟨.d (.str (blockT x.kids[1])),true⟩|_=>none) ?_;simp[h0,h1];refine⟨by(repeat' with_reducible apply And.intro)<;>first|omega|with_reducible assumption,?_⟩;refine aY (ι:=Unit) (λi=>aR [(1,.bx 1 0),(4,.d (.str (stmtT x)))]) (λi=>aL [(1,.box false [.d (aI x.kind),.d (.str x.text),.d (aI x.n),.d (ndsD x.kids)])]) (λi=>True) ?_ λi hc13=>?_
     ·apply aV;simp;refine⟨λh11=>?_,λh11=>?_⟩
      ·have h2':2<x.kids.length:=aE;rcases e0 with⟨e0,_⟩|⟨_,b2,e0⟩
       ·omega
       have w2:=hmem 2 h2';have l2:=(eL x.kids[2]).2 b2;have c2:=ihb _ (List.getElem_mem h2') b2;refine aP (λ|69=>some<| .plain ⟨.d (.str (blockT x.kids[2])),true⟩|_=>none) ?_;simp[h2'];refine⟨by(repeat' with_reducible apply And.intro)<;>first|omega|(simpa using c2),?_⟩;exact(aA hp [1,4] [(1,1)] (by simp[e0,PG,Gx,sElse,w9]))
      ·apply aF;simp;exact(aA hp [1,4] [(1,1)] (by simp[(e0.resolve_right (λ⟨h2,_⟩=>aE)).2,PG,w9]))
     ·apply aD;simp;apply aH;simp
    ·apply aF;simp;apply aG;have hcm:=f13 aE;obtain⟨g1,g2,g3,g4⟩:=xE hcm;have e0:=PI (x:=x) aE;have ml:=Ig x.kind x.text;have nl:=Bd x.n;have kl:=xG g4;have il:=cC x.n;have q1:=qY (k:=x.kind) aE aE;have hst:=tP;have q2:=jV;refine eW.rd [[],[72],[72]] [[72]] (λ|72=>some<| .plain ⟨.d (.sl rM),true⟩|_=>none) ?_;simp[q1];refine⟨by(repeat' with_reducible apply And.intro)<;>first|omega|exact hst,?_⟩;apply dT;simp;apply aO;refine aY (ι:=BC) (λ⟨b⟩=>aR [(1,.bx 1 0),(3,.d (ndsD x.kids)),(5,.d (.str (wordAt x.kind))),(78,.d (aI (x.kind))),(79,.d (.bool b))]) (λ⟨b⟩=>aL [(1,.box false [.d (aI x.kind),.d (.str x.text),.d (aI x.n),.d (ndsD x.kids)])]) (λ⟨b⟩=>b=true↔(x.kind=13\/x.kind=14\/x.kind=17\/x.kind=18)) ?_ λ⟨b⟩ hc20=>?_
     ·apply aV;simp;refine⟨λh16=>?_,λh16=>?_⟩
      ·apply aF;simp;refine XG.mk ⟨decide (x.kind=13)⟩ (aA hp [1,3,5,78,79] [(1,1)]) ?_;simp[h16]
      ·apply aV;simp;refine⟨λh17=>?_,λh17=>?_⟩
       ·apply aF;simp;refine XG.mk ⟨decide (x.kind=14)⟩ (aA hp [1,3,5,78,79] [(1,1)]) ?_;simp[h17]
       ·apply aV;simp;refine⟨λh18=>?_,λh18=>?_⟩
        ·apply aF;simp;refine XG.mk ⟨decide (x.kind=17)⟩ (aA hp [1,3,5,78,79] [(1,1)]) ?_;simp[h18]
        ·apply aK;simp;refine XG.mk ⟨decide (x.kind=18)⟩ (aA hp [1,3,5,78,79] [(1,1)]) ?_;simp only[decide_eq_true_eq];omega
     ·apply aJ;simp;refine⟨λh20=>?_,λh20=>?_⟩
      ·have q20:=hc20.1 h20;apply aD;simp;refine⟨by(repeat' with_reducible apply And.intro)<;>omega,?_⟩;apply aH;have hk0:x.kids=[]/\x.n=0:=Vs hcm q20;simp[e0,hk0.1,hk0.2,withN,withE,midT,show¬(x.kind=19\/x.kind=20)by omega,show¬(x.kind=21\/x.kind=25\/x.kind=24)by omega]
      ·have q20:¬(x.kind=13\/x.kind=14\/x.kind=17\/x.kind=18):=λq=>by simp[hc20.2 q]at h20
       refine aY (ι:=BC) (λ⟨b⟩=>aR [(1,.bx 1 0),(3,.d (ndsD x.kids)),(5,.d (.str (wordAt x.kind))),(78,.d (aI (x.kind))),(90,.d (.bool b))]) (λ⟨b⟩=>aL [(1,.box false [.d (aI x.kind),.d (.str x.text),.d (aI x.n),.d (ndsD x.kids)])]) (λ⟨b⟩=>b=true↔(x.kind=15\/x.kind=22\/x.kind=16\/x.kind=23)) ?_ λ⟨b⟩ hc25=>?_
       ·apply aV;simp;refine⟨λh21=>?_,λh21=>?_⟩
        ·apply aF;simp;refine XG.mk ⟨decide (x.kind=15)⟩ (aA hp [1,3,5,78,90] [(1,1)]) ?_;simp[h21]
        ·apply aV;simp;refine⟨λh22=>?_,λh22=>?_⟩
         ·apply aF;simp;refine XG.mk ⟨decide (x.kind=22)⟩ (aA hp [1,3,5,78,90] [(1,1)]) ?_;simp[h22]
         ·apply aV;simp;refine⟨λh23=>?_,λh23=>?_⟩
          ·apply aF;simp;refine XG.mk ⟨decide (x.kind=16)⟩ (aA hp [1,3,5,78,90] [(1,1)]) ?_;simp[h23]
          ·apply aK;simp;refine XG.mk ⟨decide (x.kind=23)⟩ (aA hp [1,3,5,78,90] [(1,1)]) ?_;simp only[decide_eq_true_eq];omega
       ·apply aJ;simp;refine⟨λh25=>?_,λh25=>?_⟩
        ·have q25:=hc25.1 h25;apply aG;have hks:∃e,x.kids=[e]/\rightN e=true/\isExprK e.kind=true/\x.n=0:=PQ hcm aE;obtain⟨e,hks,r0,i0,n0⟩:=hks;have w0:=hmem 0 (by simp[hks]);have l0:=dC e r0 i0;have c0:=qC e r0 i0 (by simp only[hks,List.getElem_cons_zero]at w0;omega);simp only[hks,List.getElem_cons_zero]at w0;refine eW.rd [[104],[104],[104],[104],[104],[104]] [[],[],[],[],[],[],[],[],[],[104]] (λ|104=>some<| .plain ⟨.d (.str (exprT e)),true⟩|_=>none) ?_;simp[hks];refine⟨by(repeat' with_reducible apply And.intro)<;>first|omega|(simpa using c0),?_⟩;apply aH;simp[e0,hks,n0,withN,withE,midT,show¬(x.kind=19\/x.kind=20)by omega,show¬(x.kind=21\/x.kind=25\/x.kind=24)by omega]
        ·have q25:¬(x.kind=15\/x.kind=22\/x.kind=16\/x.kind=23):=λq=>by simp[hc25.2 q]at h25
         apply aV;simp;refine⟨λh26=>?_,λh26=>?_⟩
         ·apply aG;have d1:=jJ x.n aE aE;refine eW.rd [[117],[117],[117],[117],[117],[117]] [[],[],[],[],[],[],[],[],[117]] (λ|117=>some<| .plain ⟨.d (.str (itoaS x.n)),true⟩|_=>none) ?_;simp;refine⟨by(repeat' with_reducible apply And.intro)<;>first|omega|exact d1,?_⟩;apply aH;have hk0:x.kids=[]/\0<x.n:=Kx hcm aE;simp[e0,hk0.1,hk0.2,withN,withE,midT,h26]
         ·apply aV;simp;refine⟨λh28=>?_,λh28=>?_⟩
          ·apply aD;simp;refine⟨by(repeat' with_reducible apply And.intro)<;>omega,?_⟩;apply aH;have hk0:x.kids=[]/\x.n=0:=XT hcm aE;simp[e0,hk0.1,hk0.2,withN,withE,midT,h28]
          ·apply aV;simp;refine⟨λh30=>?_,λh30=>?_⟩
           ·apply aG;have hks:∃e,x.kids=[e]/\rightN e=true/\isExprK e.kind=true/\x.n=0:=PQ hcm aE;obtain⟨e,hks,r0,i0,n0⟩:=hks;have w0:=hmem 0 (by simp[hks]);have l0:=dC e r0 i0;have c0:=qC e r0 i0 (by simp only[hks,List.getElem_cons_zero]at w0;omega);simp only[hks,List.getElem_cons_zero]at w0;refine aP (λ|135=>some<| .plain ⟨.d (.str (exprT e)),true⟩|_=>none) ?_;simp[hks];refine⟨by(repeat' with_reducible apply And.intro)<;>first|omega|(simpa using c0),?_⟩;apply aH;simp[e0,hks,n0,withN,withE,midT,h30]
           ·apply aF;simp;apply aG;have d1:=jJ x.n aE aE;refine aP (λ|142=>some<| .plain ⟨.d (.str (itoaS x.n)),true⟩|_=>none) ?_;simp;refine⟨by(repeat' with_reducible apply And.intro)<;>first|omega|exact d1,?_⟩;apply aH;have hk0:x.kids=[]/\0<x.n:=Kx hcm aE;simp[e0,hk0.1,hk0.2,withN,withE,midT,show¬(x.kind=19\/x.kind=20)by omega,show(x.kind=21\/x.kind=25\/x.kind=24)by omega]
theorem ZU(x:Nd):(rightN x=true->isStmtK x.kind=true->weighN x<=1000000000->Ok prog 148 [x.d] ⟨.d (.str (stmtT x)),true⟩)/\(jG x->weighN x<=1000000000->Ok prog 99 [x.d] ⟨.d (.str (blockT x)),true⟩):=by
 refine nE (p:=λx=>(rightN x=true->isStmtK x.kind=true->weighN x<=1000000000->Ok prog 148 [x.d] ⟨.d (.str (stmtT x)),true⟩)/\(jG x->weighN x<=1000000000->Ok prog 99 [x.d] ⟨.d (.str (blockT x)),true⟩)) (λk t n ks ih=>⟨?_,?_⟩) x
 ·intro hr hk hw;have hwk:∀y∈ks,weighN y<=1000000000:=λy hy=>by have:=weigh_mem hy;rw[weighN]at hw;omega
  exact NO _ hr hk hw λy hy hb=>(ih y hy).2 hb (hwk y hy)
 ·intro hb hw;have hwk:∀y∈ks,weighN y<=1000000000:=λy hy=>by have:=weigh_mem hy;rw[weighN]at hw;omega
  obtain⟨ks',hx,hy⟩:=id hb;injection hx with i1 i2 i3 i4
  exact NN _ hb hw λy hyk=>(ih y hyk).1 (hy y (i4▸hyk)).1 (hy y (i4▸hyk)).2 (hwk y hyk)
theorem Kz(x:Nd)(hd:Nw x)(hw:weighN x<=1000000000):Ok prog 60 [x.d] ⟨.d (.str (textT x)),true⟩:=by
 refine Ok.ret func60 bY (c:=_) rfl ntmps60 aM results60 (by intro _ h;cases h) λw0 X hp=>?_;obtain⟨ht,hd⟩:=hd;have hwx:=weighN_eq x;have wl:=sH x.kind;have f0:0<=x.kind/\x.kind<=6:=by rcases hd with⟨h|h,_⟩|⟨h,_⟩|⟨h,_⟩|⟨h,_⟩|⟨h|h,_⟩<;>omega
 have q1:=qY (k:=x.kind) aE aE;have il:=cC x.n;have hst:=tP;have q2:=jV;apply aD;simp;apply aG;refine eW.rd [[],[5],[5],[],[],[],[5],[5]] [[5]] (λ|5=>some<| .plain ⟨.d (.sl rM),true⟩|_=>none) ?_;simp[q1];refine⟨by(repeat' with_reducible apply And.intro)<;>first|omega|exact hst,?_⟩;apply dT;simp;apply aO;apply aV;simp;refine⟨λh3=>?_,λh3=>?_⟩
 ·apply aG;have hd15: -999<=x.n/\x.n<=999:=by
   rcases hd with⟨h|h,_⟩|⟨h,_⟩|⟨_,_,h⟩|⟨h,_⟩|⟨h|h,_⟩<;>omega
  have ci:=jJ x.n hd15.1 hd15.2;refine aP (λ|22=>some<| .plain ⟨.d (.str (itoaS x.n)),true⟩|_=>none) ?_;simp;refine⟨by(repeat' with_reducible apply And.intro)<;>first|omega|exact ci,?_⟩;apply aH;simp[textT,h3]
 ·apply aV;simp;refine⟨λh5=>?_,λh5=>?_⟩
  ·apply aG;have hd17:0<=x.n/\x.n<=3:=by
    rcases hd with⟨h|h,_⟩|⟨h,_⟩|⟨h,_⟩|⟨_,_,h⟩|⟨h|h,_⟩<;>omega
   have ci:=jJ x.n aE aE;refine aP (λ|31=>some<| .plain ⟨.d (.str (itoaS x.n)),true⟩|_=>none) ?_;simp;refine⟨by(repeat' with_reducible apply And.intro)<;>first|omega|exact ci,?_⟩;apply aH;simp[textT,h5]
  ·refine aY (ι:=BC) (λ⟨b⟩=>aR [(1,.bx 1 0),(3,.d (.str (wordAt x.kind++32::x.text))),(15,.d (aI (x.kind))),(34,.d (.bool b))]) (λ⟨b⟩=>aL [(1,.box false [.d (aI x.kind),.d (.str x.text),.d (aI x.n),.d (ndsD x.kids)])]) (λ⟨b⟩=>b=true↔(x.kind=3\/x.kind=4)) ?_ λ⟨b⟩ hc9=>?_
   ·apply aV;simp;refine⟨λh7=>?_,λh7=>?_⟩
    ·apply aF;simp;refine XG.mk ⟨decide (x.kind=3)⟩ (aA hp [1,3,15,34] [(1,1)]) ?_;simp[h7]
    ·apply aK;simp;refine XG.mk ⟨decide (x.kind=4)⟩ (aA hp [1,3,15,34] [(1,1)]) ?_;simp only[decide_eq_true_eq];omega
   ·apply aJ;simp;refine⟨λh9=>?_,λh9=>?_⟩
    ·have q9:=hc9.1 h9;apply aD;simp;refine⟨aE,?_⟩;apply aH;simp[textT,show¬(x.kind=5\/x.kind=6)by omega,show¬x.kind=1 by omega,show¬x.kind=0 by omega,show¬x.kind=2 by omega]
    ·have q9:¬(x.kind=3\/x.kind=4):=λq=>by simp[hc9.2 q]at h9
     apply aV;simp;refine⟨λh10=>?_,λh10=>?_⟩
     ·apply aG;have hd7:∀y∈x.kids,PC y:=by
       rcases hd with⟨h|h,_⟩|⟨_,_,h⟩|⟨h,_⟩|⟨h,_⟩|⟨h|h,_⟩<;>first|exact h|omega
      apply aK;simp;refine⟨aE,?_⟩;apply dT;simp;apply aO;refine aU (ι:=Nat) (λi=>aR [(1,.bx 1 0),(3,.d (.str (wordAt x.kind++32::(x.text++32::123::32::kV (x.kids.take i))))),(4,.d (aI i))]) (λi=>aL [(1,.box false [.d (aI x.kind),.d (.str x.text),.d (aI x.n),.d (ndsD x.kids)])]) (λi=>i<=x.kids.length) (λi=>x.kids.length-i) 0 (aA hp [1,3,4] [(1,1)] (by simp[kV])) (Nat.zero_le _) λi hi13=>?_;apply aG;apply aV;simp;refine⟨λh13=>?_,λh13=>?_⟩
      ·apply aF;simp;apply dH;have hi:i<x.kids.length:=aE;obtain⟨t',n',hy,g1,g2,g3⟩:=hd7 _ (List.getElem_mem hi);have en:x.kids[i].n=n':=by rw[hy];rfl
       have ci:=jJ x.kids[i].n aE aE;have lt:=vP (l:=x.kids) i;have li:=cC x.kids[i].n;have wi:=lW hi;rw[weighN_eq x.kids[i]]at wi;have lo:(kV (x.kids.take i)).length<=9*weighL x.kids:=lt;refine eW.rd [[65],[65],[65],[65],[65],[65],[65],[65],[65]] [[],[],[],[],[],[],[],[],[],[],[],[],[],[],[],[65]] (λ|65=>some<| .plain ⟨.d (.str (itoaS x.kids[i].n)),true⟩|_=>none) ?_;simp[hi];refine⟨by(repeat' with_reducible apply And.intro)<;>first|omega|exact ci|(simp only[List.length_append,List.length_cons];omega),?_⟩;have:=lF x;apply aK;simp;refine⟨aE,?_⟩;refine Pq.mk (i+1) (aA hp [1,3,4] [(1,1)] (by simp[kV,Ef hi,itemT])) ?_ ?_
       ·omega
       ·omega
      ·apply bE;simp;apply aG;have hi:i=x.kids.length:=aE;subst hi;rw[List.take_length];have lt:=qA x.kids;have lo:(kV x.kids).length<=9*weighL x.kids:=lt;apply aK;simp;refine⟨aE,?_⟩;apply aH;simp[textT,h10,kV]
     ·apply aF;simp;apply aG;have hd5:∃b,x=.mk x.kind x.text 0 [b]/\jG b:=by
       rcases hd with⟨_,h⟩|⟨h,_⟩|⟨h,_⟩|⟨h,_⟩|⟨h|h,_⟩<;>first|exact h|omega
      obtain⟨c,hx,hb⟩:=hd5;have hks:x.kids=[c]:=by rw[hx];rfl
      rw[hks]at hwx;simp only[weighL]at hwx;have bl:=(eL c).2 hb;have kb:=(ZU c).2 hb aE;refine aP (λ|76=>some<| .plain ⟨.d (.str (blockT c)),true⟩|_=>none) ?_;simp[hks];refine⟨by(repeat' with_reducible apply And.intro)<;>first|omega|(simpa using kb),?_⟩;apply aH;simp[textT,show x.kind=5\/x.kind=6 by omega,hks]
end
end Go.Eng
