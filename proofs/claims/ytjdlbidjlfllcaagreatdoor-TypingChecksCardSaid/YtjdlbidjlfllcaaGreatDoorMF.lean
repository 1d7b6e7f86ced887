/- Part 6 of the proof. No condition. -/
import Derived.Test.YtjdlbidjlfllcaaGreatDoorME
import Derived.Shelf.SortM.Plain
import Derived.Shelf.SortM.SortNone
import Derived.Shelf.SlGeneric
import Derived.Test.YtjdlbidjlfllcaaGreatDoorProg
import Derived.RangeFuncNested
import Derived.Maps.RangeRun
import Derived.Shelf.SlIter.Collect
open Go.Proofs
set_option linter.unusedVariables false
set_option linter.unusedSimpArgs false
set_option maxRecDepth 20000
set_option maxHeartbeats 4000000
namespace Go.Eng
section
attribute[local simp] jO.cond Nd.d_eq nd_t nd_dr nd_td ndsD
theorem PD(x:Nd)(hx:Ok Tryz.prog 130 [x.d] ⟨.d (.bool (rightN x)),true⟩):Ok Tryz.prog 166 [x.d] ⟨.d (.bool (!rightN x)),true⟩:=by
 refine aZ Tryz.func166 rfl Tryz.ntmps166 Tryz.results166 λw0 X hp=>?_;refine aA ?_;simp;refine aX hT hW (λ|4=>some<| .plain ⟨.d (.bool (rightN x)),true⟩|_=>none) ?_;simp;refine⟨by simpa using hx,?_⟩;refine aF ?_;simp
theorem LB(x:Nd)(hw:weighN x<=1000000000)(ih:∀y∈x.kids,weighN y<=1000000000->Ok Tryz.prog 130 [y.d] ⟨.d (.bool (rightN y)),true⟩):Ok Tryz.prog 130 [x.d] ⟨.d (.bool (rightN x)),true⟩:=by
 refine aZ Tryz.func130 rfl Tryz.ntmps130 Tryz.results130 λw0 X hp=>?_;refine aA ?_;simp;refine aD ?_;have hs:=Pu x;have hwo:=worded_ok x;have hl:x.text.length<=9223372036854775807:=by have:=weighN_eq x;omega
 have ha:=Iz x.kids (λy=> !rightN y) 166 [] (λy hy=>PD y (ih y hy (by have:=weigh_mem hy;have:=weighN_eq x;omega)));refine eF.ro hT hW (λ|13=>some<| .plain ⟨.d (.bool (shapedB x)),true⟩|17=>some<| .plain ⟨.d (.bool (wordedB x)),true⟩|22=>some<| .plain ⟨.d (.bool (x.kids.any λy=> !rightN y)),true⟩|_=>none) ?_;simp;refine⟨⟨⟨λ_ _=>by simpa using hs,λh0 h1 _=>by simpa using hwo ⟨h0,h1⟩ hl⟩,λ_ _ _ _=>ha⟩,?_⟩;refine aF ?_;simp;rw[rightN_eq,List.all_eq_not_any_not]
theorem SJ(x:Nd):weighN x<=1000000000->Ok Tryz.prog 130 [x.d] ⟨.d (.bool (rightN x)),true⟩:=
 lX (p:=λx=>weighN x<=1000000000->Ok Tryz.prog 130 [x.d] ⟨.d (.bool (rightN x)),true⟩) (λ_ _ _ _ ih hw=>LB _ hw (λy hy=>ih y hy)) x
theorem IE(x:Nd)(hw:weighN x<=1000000000):Ok Tryz.prog 74 [x.d] ⟨.d (.bool (validB x)),true⟩:=by
 refine aZ Tryz.func74 rfl Tryz.ntmps74 Tryz.results74 λw0 X hp=>?_;refine aA ?_;simp;refine aD ?_;have h1:=Sw x hw;have h2:=SJ x hw;have h3:=NB x;have h4:=@vT x;refine eF.ro hT hW (λ|13=>some<| .plain ⟨.d (aG (depthN x)),true⟩|18=>some<| .plain ⟨.d (.bool (rightN x)),true⟩|22=>some<| .plain ⟨.d (.str (textT x)),true⟩|_=>none) ?_;simp;refine⟨⟨⟨λ_ _=>by simpa using h1,λ_ _ _=>by simpa using h2⟩,λa b _ d=>by simpa using h3 (h4 d a b) hw⟩,?_⟩;refine aF ?_;simp[validB];rw[show decide ((depthN x:Int)<=24)=decide (depthN x<=24) from by rw[decide_eq_decide];omega,show decide (((textT x).length:Int)<=1024)=decide ((textT x).length<=1024) from by rw[decide_eq_decide];omega]
theorem PE{x:Nd}(h:validB x=true):Ls x:=by
 simp only[validB,Bool.and_eq_true,decide_eq_true_eq]at h;exact vT h.1.2 h.1.1.1.1 h.1.1.1.2
theorem SK(x:Nd)(hw:weighN x<=1000000000):Ok Tryz.prog 105 [x.d] ⟨.d (.str (printS x)),true⟩:=by
 refine aZ Tryz.func105 rfl Tryz.ntmps105 Tryz.results105 λw0 X hp=>?_;refine aA ?_;simp;refine aD ?_;refine aD ?_;have v1:=IE x hw;refine eF.ro hT hW (λ|4=>some<| .plain ⟨.d (.bool (validB x)),true⟩|_=>none) ?_;simp;refine⟨by simpa using v1,?_⟩;refine aC ?_;simp;refine⟨λh1=>?_,λh1=>?_⟩
 ·refine aA ?_;simp;refine aF ?_;simp[printS,h1]
 ·refine aE ?_;simp;refine aD ?_;have hv:=PE h1;have h4:=NB x hv hw;refine eF.ro hT hW (λ|7=>some<| .plain ⟨.d (.str (textT x)),true⟩|_=>none) ?_;simp;refine⟨by simpa using h4,?_⟩;refine aF ?_;simp[printS,h1]
end
section
attribute[local simp] jO.cond Nd.d_eq nd_t nd_dr nd_td ndsD aQ wW
theorem LC:Ok Tryz.prog 76 [] ⟨.d fitD,false⟩:=by
 refine aZ Tryz.func76 rfl Tryz.ntmps76 Tryz.results76 λw0 X hp=>?_;refine aA ?_;simp;refine aA ?_;simp[bZ];refine aF ?_;simp[fitD,CP,qV]
theorem GC(x:Nd):Ok Tryz.prog 45 [x.d] ⟨.d (.fn 75 [.ro [aG x.kind,.str x.text,aG x.n,ndsD x.kids]]),false⟩:=by
 refine aZ Tryz.func45 rfl Tryz.ntmps45 Tryz.results45 λw0 X hp=>?_;refine aA ?_;simp;refine aA ?_;simp;refine aF ?_;simp
structure GD(F:Nl Tryz.prog)(y wv:Value)(us:List bX):Prop where
 yield:∀(i:Nat) (u:bX),us[i]? =some u->nJ F (.val y) [aG u.bk,u.d] i 1 (.bool true)
 walk:∀K i W,F.T K i W->RD W (F.X K W) (.fn 77 [.ro [fitD],.ro [.val y],.ro [.val wv]]) wv
def xB(F:Nl Tryz.prog)(wv:Value)(us:List bX)(x:Nd):Prop:=
 ∀i,(∀(j:Nat) (u:bX),(bB x)[j]? =some u->us[i+j]? =some u)->nJ F (.val wv) [x.d] i (bB x).length (.bool true)
theorem GE{b:Bool}(w:World)(E:Nat->Prop)(v:Value)(h:RD w E (.bool b) v):v=.bool b:=by cases h;rfl
theorem Xd{n:Int}(w:World)(E:Nat->Prop)(v:Value)(h:RD w E (aG n) v):v=.int .i64 n:=by cases h;rfl
theorem Xe{F:Nl Tryz.prog}{wv:Value}{us:List bX}{x:Nd}(h:xB F wv us x)(i:Nat)(hu:∀(j:Nat) (u:bX),(bB x)[j]? =some u->us[i+j]? =some u):
 nJ F (.fn 80 [.ro [.val wv]]) [x.d] i (bB x).length (.bool false):=by
 have hc:=h i hu;refine jR (pins:=[2]) Tryz.func80 (by kernel_rfl) (c:=_) rfl Tryz.ntmps80 (by simp) Tryz.results80 GE (by kernel_rfl) ?_;repeat refine Eb.seq ?_
 refine CF λw0 X hp=>Lt hT hW ?_;simp[fU];refine tY (λw0 hp=>(gO.freeze [2]).trans (nI [1,2] [(2,2)] (by decide) (by decide) (by simp[hp,dG]) rfl rfl)) ?_;simp;repeat refine Eb.seq ?_
 refine lV hT hW [(2,.box true [.d (aG x.kind),.d (.str x.text),.d (aG x.n),.d (.sl (x.kids.map Nd.d))])] rfl (by rfl) (by simp) 2 rfl rfl rfl rfl (by decide) (rd:=.bool true) (r:=.bool true) (λ_ _=>.bool _) hc ?_;simp[fU];refine⟨rfl,?_⟩;refine Eb.ret ?_;exact⟨trivial,rfl,by simp⟩
theorem GF{us:List bX}{a b:List bX}{i:Nat}(h:∀(j:Nat) (u:bX),(a++b)[j]? =some u->us[i+j]? =some u):(∀(j:Nat) (u:bX),a[j]? =some u->us[i+j]? =some u)/\∀(j:Nat) (u:bX),b[j]? =some u->us[i+a.length+j]? =some u:=by
 refine⟨λj u hj=>h j u ?_,λj u hj=>?_⟩
 ·have:=(List.getElem?_eq_some_iff.1 hj).1;rw[List.getElem?_append_left this];exact hj
 ·rw[Nat.add_assoc];exact h (a.length+j) u (by rw[List.getElem?_append_right (by omega)];rw[show a.length+j-a.length=j by omega];exact hj)
theorem Vf{F:Nl Tryz.prog}{wv:Value}{us:List bX}{ks:List Nd}(h:∀k∈ks,xB F wv us k)(i:Nat)(hu:∀(j:Nat) (u:bX),(dU ks)[j]? =some u->us[i+j]? =some u):
 nJ F (.fn 133 []) [ndsD ks,.fn 80 [.ro [.val wv]]] i (dU ks).length (.int .i64 (-1)):=by
 refine jR (pins:=[]) Tryz.func133 (by kernel_rfl) (c:=_) rfl Tryz.ntmps133 (by simp) Tryz.results133 Xd (by kernel_rfl) ?_;refine Eb.len (t:=0) rfl λhlen=>?_;simp at hlen;repeat refine Eb.seq ?_
 refine iV hT hW (λ_=>none) ?_;simp[fU];repeat refine Eb.seq ?_
 refine iV hT hW (λ_=>none) ?_;simp[fU];repeat refine Eb.seq ?_
 refine Eb.block ?_;refine Eb.loop (ι:=Nat) (λj=>aO [(0,.d (ndsD ks)),(1,.d (.fn 80 [.ro [.val wv]])),(7,.d (aG (ks.length:Nat))),(8,.d (aG (j:Nat)))]) (λ_=>aI []) (λj=>i+(dU (ks.take j)).length) (λj=>j<=ks.length) (λj=>ks.length-j) 0
  (λw0 hp=>aB hp [0,1,7,8] []) rfl (Nat.zero_le _) λj hj=>?_
 repeat refine Eb.seq ?_
 refine iV hT hW (λ_=>none) ?_;simp[fU];repeat refine Eb.seq ?_
 refine Eb.cond (b:=decide (j<ks.length)) (by simp) (λhlt=>?_) λhge=>?_
 ·have hlt:j<ks.length:=by simpa using hlt
  obtain⟨k,hk⟩:∃k,ks[j]=k:=⟨_,rfl⟩;have hkm:k∈ks:=by rw[<-hk];exact List.getElem_mem hlt
  have hsplit:dU ks=dU (ks.take j)++(bB k++dU (ks.drop (j+1))):=by
   conv=>lhs;rw[<-List.take_append_drop j ks]
   rw[usesL_append,List.drop_eq_getElem_cons hlt,dU,hk]
  have hc:=Xe (h k hkm) (i+(dU (ks.take j)).length) (GF (GF (by rw[<-hsplit];exact hu)).2).1;have hnext:(dU (ks.take (j+1))).length=(dU (ks.take j)).length+(bB k).length:=by rw[usesL_succ hlt,List.length_append,hk]
  refine Eb.skip ?_;simp[fU];repeat refine Eb.seq ?_
  refine Eb.block ?_;repeat refine Eb.seq ?_
  refine iV hT hW (λ_=>none) ?_;simp[fU];repeat refine Eb.seq ?_
  refine lV hT hW [] rfl (by rfl) (by simp) 5 rfl rfl rfl rfl (by decide) (rd:=.bool false) (r:=.bool false) (λ_ _=>.bool _) hc ?_;simp[fU,hlt,hk];refine⟨rfl,?_⟩;refine Eb.cond (b:=false) (by simp) (λh=>by cases h) λ_=>?_;refine Eb.skip ?_;simp[fU,BM];refine iV hT hW (λ_=>none) ?_;simp[fU];refine⟨by omega,j+1,λw0 hp=>aB hp [0,1,7,8] [],by omega,by omega,by omega⟩
 ·have hge:¬j<ks.length:=by simpa using hge
  have he:j=ks.length:=by omega
  subst he;refine Eb.exit ?_;simp[fU,BM];repeat refine Eb.seq ?_
  refine iV hT hW (λ_=>none) ?_;simp[fU];refine Eb.ret ?_;exact⟨trivial,by simp,by simp⟩
theorem ND{F:Nl Tryz.prog}{wv:Value}{us:List bX}{ks:List Nd}(h:∀k∈ks,xB F wv us k)(i:Nat)(hu:∀(j:Nat) (u:bX),(dU ks)[j]? =some u->us[i+j]? =some u):
 nJ F (.fn 79 []) [ndsD ks,.fn 80 [.ro [.val wv]]] i (dU ks).length (.bool false):=by
 have hc:=Vf h i hu;refine jR (pins:=[]) Tryz.func79 (by kernel_rfl) (c:=_) rfl Tryz.ntmps79 (by simp) Tryz.results79 GE (by kernel_rfl) ?_;repeat refine Eb.seq ?_
 refine iV hT hW (λ_=>none) ?_;simp[fU];repeat refine Eb.seq ?_
 refine lV hT hW [] rfl (by rfl) (by simp) 2 rfl rfl rfl rfl (by decide) (rd:=aG (-1)) (r:=.int .i64 (-1)) (λ_ _=>.int _ _) hc ?_;simp[fU];refine⟨rfl,?_⟩;refine Eb.ret ?_;exact⟨trivial,rfl,by simp⟩
theorem SL{x:Nd}(h:CP.findIdx? (λy=>decide (x.kind=y))=none):bB x=dU x.kids:=by rw[usesN_eq];unfold eS ID;rw[h];rfl
theorem IF{x:Nd}{j:Nat}(h:CP.findIdx? (λy=>decide (x.kind=y))=some j):bB x=⟨x.kind,qV.getD j 0,pC 46 x.text,pD 46 x.text⟩::dU x.kids:=by rw[usesN_eq];unfold eS ID;rw[h];rfl
theorem Xf{j:Nat}:(qV.map aG)[j]?.getD default=aG (qV.getD j 0)\/qV.length<=j:=by
 by_cases h:j<qV.length
 ·left;simp[h,List.getD_eq_getElem?_getD]
 ·right;omega
theorem PF{F:Nl Tryz.prog}{y wv:Value}{us:List bX}(C:GD F y wv us)(x:Nd)(hw:weighN x<=1000000000)(h:∀k∈x.kids,xB F wv us k):xB F wv us x:=by
 intro i hu;have body:nJ F (.fn 77 [.ro [fitD],.ro [.val y],.ro [.val wv]]) [x.d] i (bB x).length (.bool true):=by
  have hwx:=weighN_eq x;refine jR (pins:=[4]) Tryz.func77 (by kernel_rfl) (c:=_) rfl Tryz.ntmps77 (by simp) Tryz.results77 GE (by kernel_rfl) ?_;repeat refine Eb.seq ?_
  refine iV hT hW (λ_=>none) ?_;simp[fU];refine tY (λw0 hp=>(gO.freeze [4]).trans (nI [1,2,3,4] [(4,4)] (by decide) (by decide) (by simp[hp,dG]) rfl rfl)) ?_;simp;cases e:CP.findIdx? (λy=>decide (x.kind=y))with
  |none=>
   rw[SL e]at hu|-;have hc:=ND h i hu;repeat refine Eb.seq ?_
   refine iV hT hW (λ_=>none) ?_;simp[fU,cI,fitD,findD_int,e,aW];repeat refine Eb.seq ?_
   refine iV hT hW (λ_=>none) ?_;simp[fU];repeat refine Eb.seq ?_
   refine Eb.cond (b:=false) (by simp) (λh=>by cases h) λ_=>?_;refine Eb.skip ?_;simp[fU];repeat refine Eb.seq ?_
   refine tY (λw0 hp=>nI [3,4] [(4,4)] (by decide) (by decide) (by simp[hp,dG]) rfl rfl) ?_;simp;refine lV hT hW [(4,.box true [.d (aG x.kind),.d (.str x.text),.d (aG x.n),.d (.sl (x.kids.map Nd.d))])] rfl (by rfl) (by simp) 3 rfl rfl rfl rfl (by decide) (rd:=.bool false) (r:=.bool false) (λ_ _=>.bool _) hc ?_;simp[fU];refine⟨rfl,?_⟩;refine Eb.ret ?_;exact⟨trivial,by simp[Nat.add_assoc],by simp⟩
  |some j=>
   have hj:j<10:=by
    have:=(List.findIdx?_eq_some_iff_getElem.1 e).1;exact this
   have hfit:(qV.map aG)[j]?.getD default=aG (qV.getD j 0):=Xf.resolve_right (by show¬10<=j;omega);simp at hfit;obtain⟨f,hf⟩:∃f,qV.getD j 0=f:=⟨_,rfl⟩;rw[IF e,hf]at hu;rw[IF e,hf];simp[List.getD_eq_getElem?_getD]at hf;rw[hf]at hfit;have h0:=hu 0 _ rfl;have hy:=C.yield i _ h0;have hc:=ND h (i+1) (GF (a:=[_]) hu).2;have hcut:=SI x.text 46 (by omega);repeat refine Eb.seq ?_
   refine iV hT hW (λ_=>none) ?_;simp[fU,cI,fitD,findD_int,e,aW,hfit];repeat refine Eb.seq ?_
   refine iV hT hW (λ_=>none) ?_;simp[fU];repeat refine Eb.seq ?_
   refine Eb.cond (b:=true) (by simp) (λ_=>?_) λh=>by cases h
   repeat refine Eb.seq ?_
   refine iV hT hW (λ|22=>some (.plain ⟨.tup [.d (.str (pC 46 x.text)),.d (.str (pD 46 x.text)),.d (.bool (yJ 46 x.text))],true⟩)|_=>none) ?_;simp[fU,aW];refine⟨hcut,?_⟩;repeat refine Eb.seq ?_
   refine lV hT hW [(4,.box true [.d (aG x.kind),.d (.str x.text),.d (aG x.n),.d (.sl (x.kids.map Nd.d))])] rfl (by rfl) (by simp) 7 rfl rfl rfl rfl (by decide) (rd:=.bool true) (r:=.bool true) (λ_ _=>.bool _) hy ?_;simp[fU,bX.d];refine⟨rfl,?_⟩;repeat refine Eb.seq ?_
   refine Eb.cond (b:=false) (by simp) (λh=>by cases h) λ_=>?_;refine Eb.skip ?_;simp[fU];repeat refine Eb.seq ?_
   refine tY (λw0 hp=>nI [3,4] [(4,4)] (by decide) (by decide) (by simp[hp,dG]) rfl rfl) ?_;simp;refine lV hT hW [(4,.box true [.d (aG x.kind),.d (.str x.text),.d (aG x.n),.d (.sl (x.kids.map Nd.d))])] rfl (by rfl) (by simp) 3 rfl rfl rfl rfl (by decide) (rd:=.bool false) (r:=.bool false) (λ_ _=>.bool _) hc ?_;simp[fU];refine⟨rfl,?_⟩;refine Eb.ret ?_;exact⟨trivial,by simp[Nat.add_assoc,Nat.add_comm 1],by simp⟩
 intro K W v vs ht hv hvs;cases hv with
 |val _ _=>exact body K W wv vs ht (C.walk K i W ht) hvs
end
section
open Go.Proofs Go.RowKit
attribute[local simp] jO.cond Nd.d_eq nd_t nd_dr nd_td ndsD aQ bD
theorem SM{F:Nl Tryz.prog}{y wv:Value}{us:List bX}(C:GD F y wv us)(x:Nd):weighN x<=1000000000->xB F wv us x:=
 lX (p:=λx=>weighN x<=1000000000->xB F wv us x) (λk t n ks ih hw=>PF C (.mk k t n ks) hw λc hc=>ih c hc (by
  have h1:weighN c<=weighL ks:=weigh_mem hc;have h2:weighN (.mk k t n ks)=weighL ks+t.length+1:=weighN_eq _;omega)) x
def yK(u:bX):UX where
 ds:=[aG u.bk,u.d]
 vs:=[.int .i64 u.bk,.agg #[.int .i64 u.kind,.string ⟨u.name.toArray⟩,.string ⟨u.field.toArray⟩]]
 rd:=λw E=>.cons (.int _ _) (.cons (.agg [aG u.kind,.str u.name,.str u.field] [.int .i64 u.kind,.string ⟨u.name.toArray⟩,.string ⟨u.field.toArray⟩] rfl (by simp[Value.oneCell']) (by
  intro i c v hc hv
  match i,hc,hv with
  |0,hc,hv=>cases hc;cases hv;exact .int _ _
  |1,hc,hv=>cases hc;cases hv;exact .str _
  |2,hc,hv=>cases hc;cases hv;exact .str _)) .nil)
theorem SN{w:World}{E:Nat->Prop}{u:bX}{vs:List Value}(h:Kk w E [aG u.bk,u.d] vs):vs=(yK u).vs:=by
 match vs,h.1 with
 |[a,b],_=>
  have h0:=h.2 0 _ _ rfl rfl;have h1:=h.2 1 _ _ rfl rfl;cases h0;cases h1 with
  |agg _ us hl _ hc=>
   match us,hl with
   |[p,q,r],_=>
    have c0:=hc 0 _ _ rfl rfl;have c1:=hc 1 _ _ rfl rfl;have c2:=hc 2 _ _ rfl rfl;cases c0;cases c1;cases c2;rfl
theorem yL{P:Program}{N:Nat}{w0:cQ}{X:Nat->Prop}{env:dQ}{H:dC}{β:Nat->Option Nat}{a:Act}{w:World}{x:Code}{K:Exit->Act->World->Prop}(E':dQ)(O':dC)(s:kW N w0 X env H β a w)(hf:w0.flat=true)(hc:lT x=true)
 (h:eF P N w0 X x (Io w0 E' O') env H)(k:∀β' a' w',kW N w0 X E' O' β' a' w'->K .normal a' w'):x.wpIn (RF none) 0 P K a w:=by
 refine wpIn_mono (h none (.inr ⟨hc,hf⟩) β a w s) ?_;rintro e a' w' ⟨lx,env',H',β',g1,s1,g2,g3⟩;cases lx with
 |exit id=>exact g2.elim
 |ret=>exact g2.elim
 |normal=>
  cases e<;>simp only[fT]at g1;obtain⟨β2,s2⟩:=g3 _ _ _ _ _ s1;exact k β2 a' w' s2
theorem GG{w:World}{E:Nat->Prop}{β:Nat->Option Nat}{H:dC}{id:Nat}{fz:Bool}{l:LV}(h:dF w E β H id)(hH:H id=.box fz [l]):∃b e u,β id=some b/\w.heap[b]? =some (.cells #[u] e (0,0))/\u.oneCell'=true/\Eng.R w E β H l u:=by
 unfold dF at h;rw[hH]at h;obtain⟨b,e,us,h1,h2,h3,h4,h5⟩:=h
 match us,h3 with
 |[u],_=>exact⟨b,e,u,h1,h2,h4 u (by simp),h5 0 _ _ rfl rfl⟩
theorem vW{w:World}{E:Nat->Prop}{β:Nat->Option Nat}{H:dC}{id b off:Nat}{v:Value}(h:Eng.R w E β H (.bx id off) v)(hb:β id=some b)(hl:(H id).live=true):v=.pointer (some ⟨b,off,none⟩):=by
 cases h with
 |bx _ _ b' _ _ _ hb'=>rw[hb]at hb';cases hb';rfl
 |bxdead _ _ _ hH _=>rw[hH]at hl;cases hl
theorem Af(x:Nd)(hw:weighN x<=1000000000):Si Tryz.prog 75 [.ro [aG x.kind,.str x.text,aG x.n,ndsD x.kids]] ((bB x).map yK):=by
 refine⟨⟨_,Tryz.func75,by kernel_rfl,rfl⟩,?_⟩;intro w X lb l J hX hlb hj0 hjg hjy;obtain⟨yv,hyv⟩:∃yv,yv=Value.func (.yield l) #[] #[]:=⟨_,rfl⟩;rw[<-hyv];refine(callsIn_wide (n:=0)).1 (callsIn_of_wp Tryz.func75 rfl trivial ?_ rfl);have s0:kW 10 ⟨w,λ_=>none,λ_=>.absent,[],true⟩ X (gF [.val yv,.ro [aG x.kind,.str x.text,aG x.n,ndsD x.kids]]) (aI []) (λ_=>none) ⟨(#[yv]++lb.toArray)++Array.replicate (Tryz.f75.ntmps-(#[yv]++lb.toArray).size) undef,[]⟩ w:=by
  match lb,hlb.1 with
  |[p],_=>
  refine⟨Er.nil,?_,⟨rfl,rfl,rfl,Nat.le_refl _,λ_ _ _=>rfl,Nat.le_refl _⟩,⟨λk hk=>⟨hX.1 k hk,λ⟨id,h,_⟩=>by cases h⟩,hX.2.anti λk hk=>hk.resolve_right λ⟨id,h,_⟩=>by cases h⟩,λid b hl _=>by simp[aI,eT,aV.live]at hl,λi j b hi _=>by simp[aI,eT,aV.live]at hi,λt=>?_,λid=>?_,λid h=>by cases h⟩
  ·simp[Tryz.ntmps75]
  ·rw[pO]
   match t with
   |0=>exact .d _ _ (by simp;exact .val yv (by rw[hyv];rfl))
   |1=>exact .d _ _ (by
     simp;exact(hlb.2 0 _ _ rfl rfl).anti λk hk=>hk.resolve_right λ⟨id,h1,_⟩=>by simp[aI,eT,aV.mut]at h1)
   |t+2=>exact .junk _
  ·simp[dF,aI,eT]
 generalize hA:(⟨(#[yv]++lb.toArray)++Array.replicate (Tryz.f75.ntmps-(#[yv]++lb.toArray).size) undef,[]⟩:Act)=act at s0|-;clear hA;have kf:=LC;obtain⟨rd,hrd⟩:∃rd:DV,rd=.ro [aG x.kind,.str x.text,aG x.n,ndsD x.kids]:=⟨_,rfl⟩;repeat refine wpIn_seq ?_
 refine yL (aO [(1,.d rd),(2,.bx 2 0)]) (aI [(2,.box false [.d (.val yv)])]) s0 rfl (by kernel_rfl) ?_ λβ1 a1 w1 s1=>?_
 ·refine aJ ?_;simp[hrd];exact nI [1,2] [(2,2)] (by decide) (by decide) (by simp) (by simp) (by simp;rfl)
 show Code.wpIn _ _ _ _ _ _ _;repeat refine wpIn_seq ?_
 refine yL (aO [(1,.d rd),(2,.bx 2 0),(3,.bx 3 0)]) (aI [(2,.box false [.d (.val yv)]),(3,.box false [.d fitD])]) s1 rfl (by kernel_rfl) ?_ λβ2 a2 w2 s2=>?_
 ·refine eF.ro hT hW (λ|5=>some (.plain ⟨.d fitD,false⟩)|_=>none) ?_;simp;refine⟨⟨kf,rfl⟩,?_⟩;exact nI [1,2,3] [(2,2),(3,3)] (by decide) (by decide) (by simp) (by simp) (by simp;rfl)
 show Code.wpIn _ _ _ _ _ _ _;repeat refine wpIn_seq ?_
 refine yL (aO [(1,.d rd),(2,.bx 2 0),(3,.bx 3 0),(4,.bx 4 0)]) (aI [(2,.box false [.d (.val yv)]),(3,.box false [.d fitD]),(4,.box false [.d (.val Value.nilFunc)])]) s2 rfl (by kernel_rfl) ?_ λβ3 a3 w3 s3=>?_
 ·refine aJ ?_;simp;exact nI [1,2,3,4] [(2,2),(3,3),(4,4)] (by decide) (by decide) (by simp) (by simp) (by simp)
 show Code.wpIn _ _ _ _ _ _ _;repeat refine wpIn_seq ?_
 refine yL (aO [(1,.d rd),(2,.bx 2 0),(3,.bx 3 0),(4,.bx 4 0)]) (aI [(2,.box true [.d (.val yv)]),(3,.box true [.d fitD]),(4,.box true [.fn 77 [.bx 3 0,.bx 2 0,.bx 4 0]])]) s3 rfl (by kernel_rfl) ?_ λβ4 a4 W2 s4=>?_
 ·refine aJ ?_;simp;refine(gO.freeze [2,3,4]).trans (nI [1,2,3,4] [(2,2),(3,3),(4,4)] (by decide) (by decide) (by simp) ?_ ?_)<;>simp
 show Code.wpIn _ _ _ _ _ _ _;have bel:xP w.heap.size w W2:=s4.ext.bel λk ⟨id,h,_⟩=>by cases h
 obtain⟨b2,e2,u2,hb2,hh2,ho2,hr2⟩:=GG (s4.obj 2) (fz:=true) (l:=.d (.val yv)) rfl;obtain⟨b3,e3,u3,hb3,hh3,ho3,hr3⟩:=GG (s4.obj 3) (fz:=true) (l:=.d fitD) rfl;obtain⟨b4,e4,wv,hb4,hh4,ho4,hr4⟩:=GG (s4.obj 4) (fz:=true) (l:=.fn 77 [.bx 3 0,.bx 2 0,.bx 4 0]) rfl;have hu2:u2=yv:=by cases hr2 with|d _ _ h=>cases h;rfl
 subst hu2;have new:∀id b,(aI [(2,aV.box true [.d (.val u2)]),(3,.box true [.d fitD]),(4,.box true [.fn 77 [.bx 3 0,.bx 2 0,.bx 4 0]])] id).live=true->β4 id=some b->w.heap.size<=b/\b<W2.heap.size:=λid b h1 h2=>by
  have h3:=s4.fresh id b h1 h2;refine⟨h3.1.resolve_right λh=>?_,h3.2⟩;obtain⟨⟨i0,h0,_⟩,_⟩:=h;cases h0
 have n2:=new 2 b2 rfl hb2;have n3:=new 3 b3 rfl hb3;have n4:=new 4 b4 rfl hb4;have nomut:∀id,(aI [(2,aV.box true [.d (.val u2)]),(3,.box true [.d fitD]),(4,.box true [.fn 77 [.bx 3 0,.bx 2 0,.bx 4 0]])] id).mut=false:=zU rfl;obtain⟨p3,p2,p4,hwv,hp3,hp2,hp4⟩:∃p3 p2 p4,wv=.func (.func 77) #[] #[p3,p2,p4]/\p3=.pointer (some ⟨b3,0,none⟩)/\p2=.pointer (some ⟨b2,0,none⟩)/\p4=.pointer (some ⟨b4,0,none⟩):=by
  cases hr4 with
  |fn _ _ vs hl hc=>
   match vs,hl with
   |[q3,q2,q4],_=>exact⟨q3,q2,q4,rfl,vW (hc 0 _ _ rfl rfl) hb3 rfl,vW (hc 1 _ _ rfl rfl) hb2 rfl,vW (hc 2 _ _ rfl rfl) hb4 rfl⟩
 have hfit:RD W2 X fitD u3:=by
  cases hr3 with
  |d _ _ h=>exact h.anti λk hk=>.inl hk
 have hGX:wP W2 X:=hX.2.step (λk hk _=>bel.block k hk) bel.size λ_ _ h=>h
 let F:Nl Tryz.prog:={
  T:=λK i W=>J K i W/\(∀k,w.heap.size<=k->k<W2.heap.size->K k)/\W2.heap.size<=W.heap.size/\(∀k,k<W2.heap.size->¬X k->W.heap[k]? =W2.heap[k]?)/\∀k,K k->k<W.heap.size
  S:=λk=>k<W2.heap.size/\¬X k
  grow:=λK i W W' ⟨h1,h2,h3,h4,h5⟩ bel=>⟨hjg K i W W' h1 bel,λk a b=>.inl (h2 k a b),Nat.le_trans h3 bel.size,λk a b=>(bel.block k (by omega)).trans (h4 k a b),λk hk=>by
   have:=bel.size;rcases hk with hk|hk
   ·have:=h5 k hk;omega
   ·exact hk.2⟩
  low:=λK i W k h hk=>h.2.2.2.2 k hk
  same:=λK i W K' i' W' k h h' hs=>(h'.2.2.2.1 k hs.1 hs.2).trans (h.2.2.2.1 k hs.1 hs.2).symm
  glob:=λK i W h=>hGX.step (λk hk hn=>h.2.2.2.1 k hk hn) h.2.2.1 λk hk he=>Classical.byContradiction λhx=>he.2 (.inr ⟨hk,hx⟩)}
 have ht0:F.T (λk=>w.heap.size<=k/\k<W2.heap.size) 0 W2:=⟨hj0 W2 bel,λk a b=>⟨a,b⟩,Nat.le_refl _,λ_ _ _=>rfl,λk hk=>hk.2⟩;have hXlt:∀k,X k->k<w.heap.size:=hX.1;have C:GD F u2 wv (bB x):=by
  refine⟨λi u hu K W v vs ht hv hvs=>?_,λK i W ht=>?_⟩
  ·have hv:v=u2:=by cases hv;rfl
   refine .inr ⟨l,hv.trans hyv,?_⟩;have hvs:=SN hvs;subst hvs;obtain⟨fn,tm,ag,bo,r1,r2⟩:=hjy K i W (yK u) ht.1 (by rw[List.getElem?_map,hu];rfl);refine⟨fn,tm,ag,bo,r1,r2.mono ?_⟩;rintro e W' ⟨rfl,q1,q2,q3⟩;have hsz:=ht.2.2.1;refine⟨rfl,K,⟨q1,ht.2.1,Nat.le_trans hsz q2,λk a b=>?_,λk hk=>Nat.lt_of_lt_of_le (ht.2.2.2.2 k hk) q2⟩,q2,λk hk=>⟨hk,q3 k (.inl hk)⟩⟩;refine(q3 k ?_).trans (ht.2.2.2.1 k a b);by_cases h:k<w.heap.size
   ·exact .inr ⟨h,b⟩
   ·exact .inl (ht.2.1 k (by omega) a)
  ·have hsz:=ht.2.2.1;have blk:∀b,w.heap.size<=b->b<W2.heap.size->¬F.X K W b/\b<W.heap.size/\W.heap[b]? =W2.heap[b]? :=λb h1 h2=>
    ⟨λh=>h.2.elim (.inl (ht.2.1 b h1 h2)),by omega,ht.2.2.2.1 b h2 λhx=>by have:=hXlt b hx;omega⟩
   have box:∀b u (d:DV) (e:TypeId),w.heap.size<=b/\b<W2.heap.size->W2.heap[b]? =some (.cells #[u] e (0,0))->u.oneCell'=true->RD W (F.X K W) d u->RD W (F.X K W) (.ro [d]) (.pointer (some ⟨b,0,none⟩)):=λb u d e hb hh h1 hd=>by
    obtain⟨z1,z2,z3⟩:=blk b hb.1 hb.2;refine .ro [d] b 0 [u] z1 rfl (by simpa using h1) z2 (λj v hj=>?_) λi c v hc hv=>?_
    ·match j,hj with
     |0,hj=>cases hj;simp[World.cell?,z3,hh]
    ·match i,hc,hv with
     |0,hc,hv=>cases hc;cases hv;exact hd
   have key:RD W (F.X K W) (.fn 77 [.ro [fitD],.ro [.val u2],.ro [.val wv]]) (.func (.func 77) #[] [p3,p2,p4].toArray):=by
    refine .fn _ _ [p3,p2,p4] rfl λi c v hc hv=>?_
    match i,hc,hv with
    |0,hc,hv=>
     cases hc;cases hv;rw[hp3];exact box b3 u3 fitD e3 n3 hh3 ho3 (hfit.step (λk hk hn=>ht.2.2.2.1 k hk hn) hsz λk hk he=>Classical.byContradiction λhx=>he.2 (.inr ⟨hk,hx⟩))
    |1,hc,hv=>
     cases hc;cases hv;rw[hp2];exact box b2 u2 _ e2 n2 hh2 ho2 (.val _ ho2)
    |2,hc,hv=>
     cases hc;cases hv;rw[hp4];exact box b4 wv (.val wv) e4 n4 hh4 ho4 (.val _ ho4)
   have e:(Value.func (.func 77) #[] [p3,p2,p4].toArray)=wv:=hwv.symm;rw[e]at key;exact key
 have hroot:=SM C x hw 0 (λj u hj=>by rw[Nat.zero_add];exact hj);obtain⟨m6,g6⟩:=s4.mem.rebox (b:=4) (fz:=true) (cs:=[.fn 77 [.bx 3 0,.bx 2 0,.bx 4 0]]) (cs':=[.d (.val wv)]) rfl rfl λi c c' v hc hc' hr=>by
  match i,hc,hc' with
  |0,hc,hc'=>
   cases hc;cases hc';have:v=wv:=by
    rw[hwv];cases hr with
    |fn _ _ vs hl hc=>
     match vs,hl with
     |[q3,q2,q4],_=>rw[hp3,hp2,hp4,vW (hc 0 _ _ rfl rfl) hb3 rfl,vW (hc 1 _ _ rfl rfl) hb2 rfl,vW (hc 2 _ _ rfl rfl) hb4 rfl]
   rw[this];exact .d _ _ (.val wv ho4)
 have hO:bY (aI [(2,aV.box true [.d (.val u2)]),(3,.box true [.d fitD]),(4,.box true [.fn 77 [.bx 3 0,.bx 2 0,.bx 4 0]])]) 4 (.box true [.d (.val wv)])=aI [(2,aV.box true [.d (.val u2)]),(3,.box true [.d fitD]),(4,.box true [.d (.val wv)])]:=by
  funext j;by_cases h2:j=2
  ·subst h2;rfl
  ·by_cases h3:j=3
   ·subst h3;rfl
   ·by_cases h4:j=4
    ·subst h4;rfl
    ·simp[bY,aI,eT,h2,h3,h4]
 rw[hO]at m6 g6;have s4b:kW 10 ⟨w,λ_=>none,λ_=>.absent,[],true⟩ X (aO [(1,.d rd),(2,.bx 2 0),(3,.bx 3 0),(4,.bx 4 0)]) (aI [(2,aV.box true [.d (.val u2)]),(3,.box true [.d fitD]),(4,.box true [.d (.val wv)])]) β4 a4 W2:=
  ⟨g6.marks s4.defers,s4.size,m6.ext,m6.xold,m6.fresh,m6.inj,λt=>g6.R (s4.env t),m6.obj,m6.pin⟩
 have nomut2:∀id,(aI [(2,aV.box true [.d (.val u2)]),(3,.box true [.d fitD]),(4,.box true [.d (.val wv)])] id).mut=false:=zU rfl;have s5:=s4b.effect (X':=F.X (λk=>w.heap.size<=k/\k<W2.heap.size) W2) [2,3,4] (λid h=>by
  have:=mQ id h;simpa using this) (s4b.nodefer rfl) (Nat.le_refl _) (λ_ _ _=>rfl) (λk hk he=>Classical.byContradiction λhx=>he.2 (.inr ⟨hk,hx⟩)) (λk he=>he.1) (F.glob _ _ _ ht0)
 refine wpIn_mono ((lV (F:=F) (pins:=[2,3,4]) (Q:=λe _ _ i'=>(match e with| .normal=>True|_=>False)/\i'=0+(bB x).length) hT hW [(2,.box true [.d (.val u2)]),(3,.box true [.d fitD]),(4,.box true [.d (.val wv)])] rfl (by rfl) (by simp) 2 rfl rfl rfl rfl (by decide)
  (rd:=.bool true) (r:=.bool true) (λ_ _=>.bool _) hroot ?_) (by kernel_rfl) ⟨W2,β4,_,[2,3,4],true⟩ _ β4 a4 W2 rfl rfl (λk ⟨id,_,h,_⟩=>by rw[nomut2 id]at h;cases h) ht0 s5) ?_
 ·simp[hrd,wW];rfl
 ·rintro e a' w' ⟨lx,env',H',i',w1,K',β',q1,q2,q3,q4,q5,q6,q7,q8,q9,q10⟩;subst q10;cases lx with
  |exit id=>exact q9.elim
  |ret=>exact q9.elim
  |normal=>
  cases e<;>simp only[fT]at q1;have bel2:=q8.ext.bel q4;have hg:=F.grow K' _ _ _ q5 bel2;exact⟨q8.nodefer q2,.tuple #[],by simp[results,Tryz.results75],⟨_,rfl⟩,_,by rw[List.length_map];have:=hg.1;rw[Nat.zero_add]at this;exact this⟩
end
section
attribute[local simp] jO.cond Nd.d_eq nd_t nd_dr nd_td ndsD aQ
def fN(l:List Nd):List aM:=(l.filter λk=>decide (k.kind=7)).map Nd.text
def bG(x:Nd):List aM:=fN x.kids
theorem yM{l:List Nd}{i:Nat}(hi:i<l.length):fN (l.take (i+1))=if l[i].kind=7 then fN (l.take i)++[l[i].text]else fN (l.take i):=by
 unfold fN;rw[List.take_succ_eq_append_getElem hi,List.filter_append];by_cases h:l[i].kind=7<;>simp[h]
theorem uF(l:List Nd):(fN l).length<=l.length:=by unfold fN;rw[List.length_map];exact List.length_filter_le _ _
theorem Fa(x:Nd)(hw:weighN x<=1000000000):Ok Tryz.prog 100 [x.d] ⟨.own 1 ((bG x).map .str),true⟩:=by
 refine aZ Tryz.func100 rfl Tryz.ntmps100 Tryz.results100 λw0 X hp=>?_;have hwx:=weighN_eq x;have hkl:=weigh_len (l:=x.kids);refine aA ?_;simp;refine aA ?_;simp;refine aD ?_;refine aA ?_;simp;refine aH ?_;refine aR (ι:=Nat) (λi=>aO [(3,.ow 3 0 (fN (x.kids.take i)).length),(7,.d (ndsD x.kids)),(8,.d (aG (x.kids.length:Nat))),(9,.d (aG (i:Nat)))]) (λi=>aI [(3,.row false 1 ((fN (x.kids.take i)).map .str))]) (λi=>i<=x.kids.length) (λi=>x.kids.length-i) 0 (aB hp [3,7,8,9] [(3,3)] (by simp[fN]) (by simp[fN])) (Nat.zero_le _) λi hi3=>?_;refine aA ?_;simp;refine aD ?_;refine aC ?_;simp;refine⟨λh3=>?_,λh3=>?_⟩
 ·refine aE ?_;simp;refine aD ?_;refine aH ?_;refine aD ?_;have hi:i<x.kids.length:=by omega
  obtain⟨k,hk⟩:∃k,x.kids[i]=k:=⟨_,rfl⟩;have hn:=yM hi;have hfl:=uF (x.kids.take i);rw[List.length_take]at hfl;rw[hk]at hn;refine aJ ?_;simp[hi,hk];refine aA ?_;simp;refine aC ?_;simp;refine⟨λh5=>?_,λh5=>?_⟩
  ·simp only[if_pos h5]at hn;refine aJ ?_;simp;refine⟨by omega,?_⟩;refine aJ ?_;simp;refine⟨by omega,?_⟩;refine Nf.mk (i+1) (aB hp [3,7,8,9] [(20,3)] (by simp[hn]) (by simp[hn])) ?_ ?_
   ·omega
   ·omega
  ·simp only[if_neg h5]at hn;refine aE ?_;simp;refine aJ ?_;simp;refine⟨by omega,?_⟩;refine Nf.mk (i+1) (aB hp [3,7,8,9] [(3,3)] (by simp[hn]) (by simp[hn])) ?_ ?_
   ·omega
   ·omega
 ·refine bA ?_;simp;refine aA ?_;simp;refine aF ?_;have he:i=x.kids.length:=by omega
  subst he;rw[List.take_length];simp[bG]
def nB(ts:List Nd):List DV:=ts.map λt=>.str t.text
def nM(n:Nat):List DV:=(List.range n).map λ(i:Nat)=>aG (i:Int)
def xC(ts:List Nd):DV:=.agg [ndsD ts,.mp (nB ts) (nM ts.length)]
def mX(ts:List Nd)(name:aM):Option Nat:=ts.findIdx? λt=>decide (name=t.text)
theorem qW(name:aM):∀(ts:List Nd) (i:Nat),gN (.str name) (nB ts) i=some ((mX ts name).map (·+i))
 |[],i=>rfl
 |x::r,i=>by
  have e:jH (.str name) (.str x.text)=some (decide (name=x.text)):=by
   simp only[jH,Hz,Option.some.injEq];by_cases h:name=x.text<;>simp[h]
  unfold nB mX;rw[List.map_cons,gN,e,List.findIdx?_cons];by_cases h:name=x.text
  ·simp[h]
  ·simp only[h,decide_false,Bool.false_eq_true,if_false];have:=qW name r (i+1);unfold nB mX at this;rw[this];cases r.findIdx? (λt=>decide (name=t.text))with
   |none=>rfl
   |some j=>simp;omega
theorem uG{ts:List Nd}{name:aM}{j:Nat}(h:mX ts name=some j):j<ts.length:=by
 unfold mX at h;exact(List.findIdx?_eq_some_iff_getElem.1 h).1
theorem NE{n j:Nat}(h:j<n):(nM n)[j]?.getD default=aG (j:Nat):=by simp[nM,h]
def gU(ts:List Nd)(u:bX):Int:=match mX ts u.name with
 |none=>6
 |some j=>if(ts.getD j default).kind≠u.kind then 12 else if u.kind=1/\u.field∉bG (ts.getD j default)then -1 else 0
def IG(e:Int):Int:=if e=12 then 1 else if e= -1 then 2 else 0
def iJ(out e:Int):Int:=if out=0\/IG e<IG out then e else out
def Ag(ts:List Nd)(us:List bX):Int:=us.foldl (λout u=>if gU ts u=0 then out else iJ out (gU ts u)) 0
def Ei(ts:List Nd)(x:Nd):Int:=if Ag ts (bB x)= -1 then 6 else Ag ts (bB x)
def nC(e:Int):Prop:=e=0\/e=6\/e=12\/e= -1
theorem Ah(ts:List Nd)(u:bX):nC (gU ts u):=by
 unfold gU nC;split
 ·simp
 ·split
  ·simp
  ·split<;>simp
theorem PG(ts:List Nd)(us:List bX):nC (Ag ts us):=by
 have key:∀(us:List bX) (o:Int),nC o->nC (us.foldl (λout u=>if gU ts u=0 then out else iJ out (gU ts u)) o):=λus=>by
  induction us with
  |nil=>exact λo h=>h
  |cons u r ih=>
   intro o h;refine ih _ ?_;show nC (if gU ts u=0 then o else iJ o (gU ts u));split
   ·exact h
   ·unfold iJ;split
    ·exact Ah ts u
    ·exact h
 exact key us 0 (.inl rfl)
def yN:DV:=.mp [aG 6,aG 12,aG (-1)] [aG 0,aG 1,aG 2]
theorem Fb{H:Nat->aV}{e:Int}(h:nC e):cI T H 152 (.d yN) (.d (aG e)) false=⟨.d (aG (IG e)),True,[]⟩:=by
 rcases h with rfl|rfl|rfl|rfl<;>simp[cI,yN,gN,jH,Hz,IG]
theorem CQ(out e:Int)(ho:nC out)(he:nC e):iE Tryz.prog 103 [.d (aG e),.d yN,.bx 0 0] [(0,.box false [.d (aG out)])] [(0,.box false [.d (aG (iJ out e))])] (.tup []):=by
 refine rX Tryz.func103 rfl Tryz.ntmps103 Tryz.results103 λw0 X hp=>?_;refine aA ?_;simp[Fb ho,Fb he];refine aC ?_;simp;refine⟨λh0=>?_,λh0 h1=>?_⟩
 ·have hwr:iJ out e=e:=by unfold iJ;rw[if_pos h0]
  refine aJ ?_;simp;simp[hwr];exact aB hp [] [(0,0)]
 ·have hwr:iJ out e=out:=by unfold iJ;rw[if_neg (by omega)]
  refine aE ?_;simp;simp[hwr];exact aB hp [] [(0,0)]
def Uy(ts:List Nd)(name:aM):Int:=((mX ts name).getD 0:Nat)
theorem GH{H:Nat->aV}{ts:List Nd}{n:Nat}(hn:n=ts.length){name:aM}:cI T H 52 (.d (.mp (nB ts) (nM n))) (.d (.str name)) true=⟨.tup [.d (aG (Uy ts name)),.d (.bool (mX ts name).isSome)],True,[]⟩:=by
 subst hn;unfold Uy;cases h:mX ts name with
 |none=>simp[cI,qW,h]
 |some j=>
  have:=NE (uG h);simp[cI,qW,h,this]
def qC(x:Nd)(i:Nat):bX:=(bB x).getD i ⟨0,0,[],[]⟩
theorem vX{x:Nd}{i:Nat}{u:bX}(h:(bB x)[i]? =some u):qC x i=u:=by unfold qC;rw[List.getD_eq_getElem?_getD,h];rfl
end
end Go.Eng
namespace Go.Proofs
open Go.Shelf
def Tryz.sortStr_ren:Go.Shelf.Ren:=⟨λ|6=>35|8=>69|9=>68|19=>115|20=>116|21=>106|22=>107|23=>108|24=>109|25=>110|26=>111|27=>112|28=>113|29=>114|36=>149|31=>150|32=>151|37=>152|38=>153|39=>71|41=>176|n=>n,λ|27=>32|29=>9|3=>3|32=>107|26=>32|0=>0|44=>163|46=>165|4=>4|36=>156|35=>155|41=>88|5=>5|9=>9|53=>178|57=>182|63=>192|64=>193|n=>n,λ|n=>n⟩
theorem Tryz.sortStr:Go.Proofs.SlLaysM.n6 Tryz.prog Tryz.sortStr_ren:={
 mixed:=by kernel_rfl,
 f6:=⟨Tryz.f35.name,by decide,Tryz.func35.trans (congrArg some (by kernel_rfl))⟩,
 f8:=Tryz.func69.trans (congrArg some (by kernel_rfl)),
 f9:=⟨Tryz.f68.name,by decide,Tryz.func68.trans (congrArg some (by kernel_rfl))⟩,
 f19:=Tryz.func115.trans (congrArg some (by kernel_rfl)),
 f20:=Tryz.func116.trans (congrArg some (by kernel_rfl)),
 f21:=⟨Tryz.f106.name,by decide,Tryz.func106.trans (congrArg some (by kernel_rfl))⟩,
 f22:=⟨Tryz.f107.name,by decide,Tryz.func107.trans (congrArg some (by kernel_rfl))⟩,
 f23:=⟨Tryz.f108.name,by decide,Tryz.func108.trans (congrArg some (by kernel_rfl))⟩,
 f24:=⟨Tryz.f109.name,by decide,Tryz.func109.trans (congrArg some (by kernel_rfl))⟩,
 f25:=⟨Tryz.f110.name,by decide,Tryz.func110.trans (congrArg some (by kernel_rfl))⟩,
 f26:=⟨Tryz.f111.name,by decide,Tryz.func111.trans (congrArg some (by kernel_rfl))⟩,
 f27:=⟨Tryz.f112.name,by decide,Tryz.func112.trans (congrArg some (by kernel_rfl))⟩,
 f28:=⟨Tryz.f113.name,by decide,Tryz.func113.trans (congrArg some (by kernel_rfl))⟩,
 f29:=⟨Tryz.f114.name,by decide,Tryz.func114.trans (congrArg some (by kernel_rfl))⟩,
 f31:=Tryz.func150.trans (congrArg some (by kernel_rfl)),
 f32:=Tryz.func151.trans (congrArg some (by kernel_rfl)),
 f36:=⟨Tryz.f149.name,by decide,Tryz.func149.trans (congrArg some (by kernel_rfl))⟩,
 f37:=⟨Tryz.f152.name,by decide,Tryz.func152.trans (congrArg some (by kernel_rfl))⟩,
 f38:=⟨Tryz.f153.name,by decide,Tryz.func153.trans (congrArg some (by kernel_rfl))⟩,
 f39:=⟨Tryz.f71.name,by decide,Tryz.func71.trans (congrArg some (by kernel_rfl))⟩,
 f41:=⟨Tryz.f176.name,by decide,Tryz.func176.trans (congrArg some (by kernel_rfl))⟩,
 t0:=Tryz.underlying0,
 a0:=Tryz.isAgg0,
 z0:=Tryz.sizeOf0,
 v0:=Tryz.zeroValue0,
 t3:=Tryz.underlying3,
 a3:=Tryz.isAgg3,
 z3:=Tryz.sizeOf3,
 v3:=Tryz.zeroValue3,
 t4:=Tryz.underlying4,
 a4:=Tryz.isAgg4,
 z4:=Tryz.sizeOf4,
 v4:=Tryz.zeroValue4,
 t5:=Tryz.underlying5,
 a5:=Tryz.isAgg5,
 z5:=Tryz.sizeOf5,
 v5:=Tryz.zeroValue5,
 t9:=Tryz.underlying9,
 a9:=Tryz.isAgg9,
 z9:=Tryz.sizeOf9,
 v9:=Tryz.zeroValue9,
 t26:=Tryz.underlying32,
 a26:=Tryz.isAgg32,
 z26:=Tryz.sizeOf32,
 v26:=Tryz.zeroValue32,
 t27:=Tryz.underlying32,
 a27:=Tryz.isAgg32,
 z27:=Tryz.sizeOf32,
 v27:=Tryz.zeroValue32,
 t29:=Tryz.underlying9,
 a29:=Tryz.isAgg9,
 z29:=Tryz.sizeOf9,
 v29:=Tryz.zeroValue9,
 t32:=Tryz.underlying107,
 a32:=Tryz.isAgg107,
 z32:=Tryz.sizeOf107,
 v32:=Tryz.zeroValue107,
 t35:=Tryz.underlying155,
 a35:=Tryz.isAgg155,
 z35:=Tryz.sizeOf155,
 v35:=Tryz.zeroValue155,
 t36:=Tryz.underlying156,
 a36:=Tryz.isAgg156,
 z36:=Tryz.sizeOf156,
 v36:=Tryz.zeroValue156,
 t41:=Tryz.underlying88,
 a41:=Tryz.isAgg88,
 z41:=Tryz.sizeOf88,
 v41:=Tryz.zeroValue88,
 t44:=Tryz.underlying163,
 a44:=Tryz.isAgg163,
 z44:=Tryz.sizeOf163,
 v44:=Tryz.zeroValue163,
 t46:=Tryz.underlying165,
 a46:=Tryz.isAgg165,
 z46:=Tryz.sizeOf165,
 v46:=Tryz.zeroValue165,
 t53:=Tryz.underlying178,
 a53:=Tryz.isAgg178,
 z53:=Tryz.sizeOf178,
 v53:=Tryz.zeroValue178,
 t57:=Tryz.underlying182,
 a57:=Tryz.isAgg182,
 z57:=Tryz.sizeOf182,
 v57:=Tryz.zeroValue182,
 t63:=Tryz.underlying192,
 a63:=Tryz.isAgg192,
 z63:=Tryz.sizeOf192,
 v63:=Tryz.zeroValue192,
 t64:=Tryz.underlying193,
 a64:=Tryz.isAgg193,
 z64:=Tryz.sizeOf193,
 v64:=Tryz.zeroValue193}
end Go.Proofs
namespace Go.Eng
open Go.Proofs Go.Sort Go.Shelf Go.RowKit
def rY(x:aM):Value:=.string ⟨x.toArray⟩
def aM.enc(x:aM):List Value:=[rY x]
theorem oQ:xZ 1 DV.str aM.enc where
 pos:=by decide
 len:=λ_=>rfl
 lenD:=λ_=>rfl
 one:=λx v hv=>by simp[aM.enc]at hv;subst hv;rfl
 cell:=λx i c v hc hv w E u=>by
  match i,hc,hv with
  |0,hc,hv=>simp[aM.enc,aK]at hc hv;subst hc;subst hv;exact⟨λh=>by cases h;rfl,λh=>h▸ .str _⟩
def dJ(l:List aM):List aM:=l.mergeSort λx y=>decide (x<=y)
theorem iX(l:List aM):(dJ l).length=l.length:=List.length_mergeSort _
theorem GI{cur:Array Value}{s:List aM}(h:s.length<=cur.size):putCells encStr 0 s.toArray cur=(cZ 0 cur.toList (s.flatMap aM.enc)).toArray:=by
 have hsf:(s.flatMap aM.enc).length=s.length:=by have:=oQ.flat_len s;simpa using this
 apply Array.ext_getElem?;intro i;rw[show(cZ 0 cur.toList (s.flatMap aM.enc)).toArray[i]? =(cZ 0 cur.toList (s.flatMap aM.enc))[i]? from by simp,fS (by rw[Nat.zero_add,hsf];simpa using h)];simp only[putCells,Array.getElem?_mapIdx,Nat.not_lt_zero,if_false,Nat.zero_add,List.size_toArray,hsf,Nat.sub_zero,Nat.zero_le,true_and];by_cases hi:i<s.length
 ·have hic:i<cur.size:=by omega
  have hm:s.flatMap aM.enc=s.map rY:=by
   clear h hsf hi;induction s with
   |nil=>rfl
   |cons x t ih=>simp[aM.enc,ih]
  simp only[hi,if_true,Array.getElem?_eq_getElem hic,Option.map_some];rw[hm];simp[hi,getElem!_def,encStr,rY]
 ·simp only[hi,if_false];rw[Array.getElem?_toList];cases cur[i]? <;>rfl
set_option maxRecDepth 100000 in
theorem xD(l:List aM)(hl:l.length<=8000000000000):iE Tryz.prog 35 [.ow 0 0 l.length] [(0,.row false 1 (l.map .str))] [(0,.row false 1 ((dJ l).map .str))] (.tup []):=by
 refine⟨⟨_,Tryz.func35,by kernel_rfl,by rfl⟩,λw X β vs m hvl hr=>?_⟩;have hH:aI [(0,aV.row false 1 (l.map DV.str))] 0=.row false 1 (l.map .str):=by simp[aI,eT]
 have hfin:∀o,aI [(0,o)]=bY (aI [(0,aV.row false 1 (l.map DV.str))]) 0 o:=λo=>by
  funext j;simp only[aI,eT,bY];split<;>rfl
 generalize hHd:aI [(0,aV.row false 1 (l.map DV.str))]=H at*
 match vs,hvl with
 |[v0],_=>
 have r0:=hr 0 _ _ rfl rfl;rcases xU m hH r0 with⟨b,c,cur,e,rfl,hb,hkn,hn,hc,hblk,hroom,hcap⟩|⟨p,rfl,hz,_⟩
 ·have hob:=m.obj 0;simp only[dF,hH]at hob;obtain⟨hpos,hall,hob⟩:=hob;rcases hob with⟨hnone,_⟩|⟨b',e',cur',hb',hblk2,hlen',hpo⟩
  ·rw[hnone]at hb;cases hb
  rw[hb]at hb';injection hb' with hb';subst hb'
  rw[hblk]at hblk2;injection hblk2 with hblk2;injection hblk2 with p1 p2;subst p1;subst p2
  rw[List.length_map]at hlen';have htk:=oQ.holds hlen' (λi c v hc hv=>(hpo i c v hc hv).2);have hfl:(l.flatMap aM.enc).length=l.length:=by have:=oQ.flat_len l;simpa using this
  have hmap:∀l:List aM,l.flatMap aM.enc=l.map rY:=λl=>by
   induction l with
   |nil=>rfl
   |cons x t ih=>simp[aM.enc,ih]
  have hlb:=(Array.getElem?_eq_some_iff.1 hblk).1;have hhold:Holds encStr w b 0 l.toArray:=by
   intro j hj;simp only[List.size_toArray]at hj;have hjc:j<cur.size:=by omega
   refine⟨?_,by simp[World.frozen?,hblk]⟩;rw[cell_of_row w b _ cur e (0,0) hblk,Nat.zero_add,Array.getElem?_eq_getElem hjc];have h1:(cur.toList.take (l.length*1))[j]? =some cur[j]:=by rw[List.getElem?_take,if_pos (by omega)];simp[hjc]
   rw[htk,hmap]at h1;simp[hj]at h1;rw[<-h1];simp[encStr,rY,hj]
  have hcon:=AnyM.slices_Sort_string Tryz.sortStr b 0 c l w hhold hlb (by omega);rw[show #[Value.slice (some ⟨b,0,none⟩) l.length c]=[Value.slice (some ⟨b,0*1,none⟩) l.length c].toArray from rfl]at hcon;refine hcon.mono ?_;rintro ee w' ⟨rfl,n,os,rfl⟩;have hsl:=iX l;change ∃v β',_/\dI _ X _ β' (grow (putRow encStr (Sort.ahead w n) b 0 (dJ l).toArray) os)/\R (grow (putRow encStr (Sort.ahead w n) b 0 (dJ l).toArray) os) _ _ _ _ v;generalize dJ l=s at*;have hsf:(s.flatMap aM.enc).length=s.length:=by have:=oQ.flat_len s;simpa using this
  have hput:(putRow encStr (Sort.ahead w n) b 0 s.toArray).heap[b]? =some (.cells (cZ 0 cur.toList (s.flatMap aM.enc)).toArray e (0,0)):=by
   rw[<-GI (by omega)];unfold putRow mapBlock;simp only[heap_ahead,Array.getElem?_modify,if_pos,hblk,Option.map_some];rfl
  have hother:∀j,j≠b->(putRow encStr (Sort.ahead w n) b 0 s.toArray).heap[j]? =w.heap[j]? :=λj hj=>by
   unfold putRow mapBlock;simp only[heap_ahead,Array.getElem?_modify,Ne.symm hj,if_false]
  have hsize:(putRow encStr (Sort.ahead w n) b 0 s.toArray).heap.size=w.heap.size:=by simp
  have hcl:cur.toList.length=cur.size:=by simp
  have hpl:(cZ 0 cur.toList (s.flatMap aM.enc)).toArray.size=cur.size:=by rw[List.size_toArray,fF (by rw[Nat.zero_add,hsf,hcl];omega)];exact hcl
  have hstk:(cZ 0 cur.toList (s.flatMap aM.enc)).toArray.toList.take (s.length*1)=s.flatMap aM.enc:=by
   unfold cZ;simp[hsf]
  obtain⟨m1,g1⟩:=m.rewriteG (id:=0) (b:=b) (o':=.row false 1 (s.map .str)) (w':=putRow encStr (Sort.ahead w n) b 0 s.toArray) (by rw[hH];rfl) hb rfl rfl rfl (Nat.le_add_right _ _) hsize hother (by
   unfold bK;rw[hH,aL];refine .inr ⟨⟨false,s.map .str,rfl,by simp[hsl]⟩,rfl,λb' c' t hbb hblk'=>?_⟩;rw[hb]at hbb;injection hbb with hbb;subst hbb
   rw[hblk]at hblk';injection hblk' with hblk';injection hblk' with q1 q2;subst q1;subst q2
   exact⟨_,e,hput,hpl⟩) (λ_ _=>by
   unfold dF;rw[aL];obtain⟨z1,z2⟩:=oQ.reads hstk;exact⟨hpos,oQ.all s,.inr ⟨b,e,_,hb,hput,by simpa using z1,z2 _ _⟩⟩)
  obtain⟨m2,g2⟩:=m1.grow (w':=grow (putRow encStr (Sort.ahead w n) b 0 s.toArray) os) ⟨rfl,rfl,rfl,by simp,λj hj=>heap_grow_old _ _ hj,Nat.le_refl _⟩;refine⟨_,β,rfl,?_,.tup [] [] rfl (by simp)⟩;rw[hfin];exact m2
 ·have hl0:l=[]:=List.eq_nil_of_length_eq_zero hz;subst hl0;refine(AnyM.slices_Sort_string_none Tryz.sortStr p 0 w).mono ?_;rintro e w' ⟨rfl,rfl⟩;refine⟨_,β,rfl,?_,.tup [] [] rfl (by simp)⟩;rw[hfin,show dJ []=[] from by simp[dJ],Cq hH];exact m
theorem nN(l:List aM):(dJ l).Pairwise λx y=>x<=y:=by
 have:=List.pairwise_mergeSort (le:=λx y:aM=>decide (x<=y)) (λa b c h1 h2=>by simp at*;exact List.le_trans h1 h2) (λa b=>by simp;exact List.le_total a b) l;exact this.imp λh=>by simpa using h
theorem LD{p s:List aM}(h:p.Perm s):dJ p=dJ s:=
 List.Perm.eq_of_pairwise (le:=λx y:aM=>x<=y) (λa b _ _ h1 h2=>List.le_antisymm h1 h2) (nN p) (nN s) (((List.mergeSort_perm p _).trans h).trans (List.mergeSort_perm s _).symm)
section
open Go.RowKit Go.Maps Go.Sort Go.Shelf Go.Proofs
open Go.ChangeMaps (setBlock)
open Go.ChangeMaps (setBlock)
section
variable{P:Program} {F:Fence} {n:Nat} (w:World) {ops:Array Oper} {rest:List Oper} {o:Oper} {a:Act} {Q:Exit->Act->World->Prop}
structure LE(es:Array MapEntry)(vs:List MapEntry)(seen:Array Nat):Prop where
 mem:∀e∈vs,e∈es.toList
 nd:(vs.map (·.born)).Nodup
 seen:seen.toList=vs.map (·.born)
theorem CR{es:Array MapEntry}{clock:Nat}(h:fJ es clock):(es.toList.map (·.born)).Nodup:=by
 rw[List.Nodup,List.pairwise_map,List.pairwise_iff_getElem];intro i j hi hj hij e;have:=h.2 i j _ _ (by simp) (by simp) e;omega
theorem rZ{α β:Type}{f:α->β}:∀{l:List α},(l.map f).Nodup->l.Nodup
 |[],_=>by simp
 |a::l,h=>by
  simp only[List.map_cons,List.nodup_cons]at h|-;exact⟨λhm=>h.1 (List.mem_map.2 ⟨a,hm,rfl⟩),rZ h.2⟩
theorem LE.perm{es:Array MapEntry}{clock:Nat}{vs:List MapEntry}{seen:Array Nat}(h:LE es vs seen)(hb:fJ es clock)(hl:(leftOf es seen).size=0):vs.Perm es.toList:=by
 refine(List.perm_ext_iff_of_nodup (rZ h.nd) (rZ (CR hb))).2 λe=>⟨h.mem e,λhe=>?_⟩;have hs:e.born∈seen:=by
  have:leftOf es seen= #[]:=Array.eq_empty_of_size_eq_zero hl;unfold leftOf at this;rw[Array.filter_eq_empty_iff]at this;have:=this e (by simpa using he);simpa using this
 have hs':e.born∈vs.map (·.born):=by rw[<-h.seen];simpa using hs
 obtain⟨e',he',hee⟩:=List.mem_map.1 hs';obtain⟨i,hi,hie⟩:=List.getElem_of_mem he;obtain⟨j,hj,hje⟩:=List.getElem_of_mem (h.mem e' he');have:=hb.2 j i e' e (by rw[<-hje];simp) (by rw[<-hie];simp) hee;subst this;rw[<-hie,hje];exact he'
theorem LE.step{es:Array MapEntry}{vs:List MapEntry}{seen:Array Nat}(h:LE es vs seen){e:MapEntry}(he:e∈(leftOf es seen).toList):LE es (vs++[e]) (seen.push e.born):=by
 unfold leftOf at he;simp only[Array.toList_filter,List.mem_filter,Bool.not_eq_true']at he;refine⟨λx hx=>?_,?_,by simp[h.seen]⟩
 ·rcases List.mem_append.1 hx with hx|hx
  ·exact h.mem x hx
  ·simp at hx;subst hx;exact he.1
 ·rw[List.map_append,List.nodup_append];refine⟨h.nd,by simp,λx hx y hy e'=>?_⟩;simp at hy;subst hy;subst e';rw[<-h.seen]at hx;have:=he.2;simp at this;exact this (by simpa using hx)
theorem CS:∀{l m:List Nat},l.Nodup->(∀x∈l,x∈m)->l.length<=m.length
 |[],_,_,_=>Nat.zero_le _
 |a::l,m,h,hs=>by
  simp only[List.nodup_cons]at h;have ha:a∈m:=hs a (List.mem_cons_self ..);have:=CS h.2 (m:=m.erase a) (λx hx=>(List.mem_erase_of_ne (show x≠a from λe=>by subst e;exact h.1 hx)).2 (hs x (List.mem_cons_of_mem _ hx)));rw[List.length_erase_of_mem ha]at this;have:=List.length_pos_of_mem ha;simp only[List.length_cons];omega
theorem LE.size{es:Array MapEntry}{clock:Nat}{vs:List MapEntry}{seen:Array Nat}(h:LE es vs seen)(hb:fJ es clock):seen.size<=es.size:=by
 have h1:seen.size=vs.length:=by have:=congrArg List.length h.seen;simpa using this
 rw[h1];have:=CS h.nd (m:=es.toList.map (·.born)) (λx hx=>by obtain⟨e,he,rfl⟩:=List.mem_map.1 hx;exact List.mem_map.2 ⟨e,h.mem e he,rfl⟩);simpa using this
theorem Ej{w:World}{r:Nat}{o o':Obj}(h:w.heap[r]? =some o):(setBlock w r o').heap[r]? =some o'/\∀k,k≠r->(setBlock w r o').heap[k]? =w.heap[k]? :=by
 have hlt:=(Array.getElem?_eq_some_iff.1 h).1;refine⟨by simp[setBlock,hlt],λk hk=>?_⟩;simp only[setBlock];rw[Array.getElem?_setIfInBounds_ne (λe=>hk e.symm)]
theorem xE(hg:o.guard=none)(m:Operand)(t:TypeId)(hop:o.op=Op.range t m)(k e:TypeId)(ht:P.underlying t=some (.map k e)){b clock:Nat}{es:Array MapEntry}(hm:a.eval m=.map (some b))(hb:w.heap[b]? =some (.map es clock))
 (hK:wpListIn F n P ops Q rest (a.put o.dst (.pointer (some ⟨w.heap.size,0,none⟩))) (w.alloc (.mapIter (some b) clock #[] clock))):wpListIn F n P ops Q (o::rest) a w:=by
 refine wpListIn_plain hg λK' hK'=>?_;have hrun:(Instr.range t (.map (some b))).run P w=.ok (.pointer (some ⟨w.heap.size,0,none⟩)) (w.alloc (.mapIter (some b) clock #[] clock)):=by
  simp[Instr.range,run_underlying ht,getObj,Sem.run,hb,Result.andThen,run_newObj_alloc]
 unfold Oper.wpIn;refine⟨by simp[Oper.about,hop],?_⟩;rw[Oper.semAt_plain F _ _ (by rw[hop];intro c hc';cases hc')];simp[execOp,hop,hm,hrun,Result.andThen];exact hK' _ _ hK
theorem yO(hg:o.guard=none)(it:Operand)(hop:o.op=Op.next it false){b r clock since c0:Nat}{es:Array MapEntry}{seen:Array Nat}{vs:List MapEntry}(hne:r≠b)(hit:a.eval it=.pointer (some ⟨r,0,none⟩))
 (hr:w.heap[r]? =some (.mapIter (some b) since seen c0))(hb:w.heap[b]? =some (.map es clock))(hborn:fJ es clock)(hsc:since<=c0)(hcs:clock<=since)(hC:LE es vs seen)
 (hDone:vs.Perm es.toList->wpListIn F n P ops Q rest (a.put o.dst (.tuple #[.bool false])) w)
 (hMore:∀(e:MapEntry) (w':World),e∈es.toList->LE es (vs++[e]) (seen.push e.born)->w'.heap[r]? =some (.mapIter (some b) since (seen.push e.born) clock)->w.grownBy w' (some r)->w.drawn<=w'.drawn->
   (Instr.entry (.pointer (some ⟨r,0,none⟩))).run P w'=.ok (.tuple #[e.key,e.val]) w'->wpListIn F n P ops Q rest (a.put o.dst (.tuple #[.bool true,e.key,e.val])) w'):
 wpListIn F n P ops Q (o::rest) a w:=by
 refine wpListIn_plain hg λK' hK'=>?_;unfold Oper.wpIn;refine⟨by simp[Oper.about,hop],?_⟩;rw[Oper.semAt_plain F _ _ (by rw[hop];intro c hc';cases hc')];have hold:∀x∈es.toList,x.born<since:=λx hx=>by
  obtain⟨i,hi,hix⟩:=List.getElem_of_mem hx;have:=hborn.1 i x (by rw[<-hix];simp);omega
 rcases run_next_at (P:=P) w o.type r b since c0 seen es clock hr hb hold hsc with⟨h0,hrun⟩|⟨e,he,w1,hal,hrun⟩
 ·simp[execOp,hop,hit,hrun,Result.andThen];exact hK' _ _ (hDone (hC.perm hborn h0))
 ·have hr1:w1.heap[r]? =some (.mapIter (some b) since seen c0):=by rcases hal with rfl|rfl<;>exact hr
  have hb1:w1.heap[b]? =some (.map es clock):=by rcases hal with rfl|rfl<;>exact hb
  have hset:=Ej (o':=.mapIter (some b) since (seen.push e.born) clock) hr1;have hb':(setBlock w1 r (.mapIter (some b) since (seen.push e.born) clock)).heap[b]? =some (.map es clock):=(hset.2 b (λe1=>hne e1.symm)).trans hb1;have hem:e∈es.toList:=(mem_left he).1;simp[execOp,hop,hit,hrun,Result.andThen];refine hK' _ _ (hMore e _ hem (hC.step he) hset.1 ?_ ?_ (run_entry_at _ r b since seen es clock e hset.1 hb' hem (CR hborn)))
  ·rcases hal with rfl|rfl<;>exact⟨rfl,rfl,rfl,by simp[setBlock],λi _ hi=>hset.2 i (λe1=>hi (by rw[e1]))⟩
  ·rcases hal with rfl|rfl
   ·exact Nat.le_refl _
   ·exact Nat.le_succ _
end
def LF(n r:Nat)(W:World):Nat:=n-(match W.heap[r]? with|some (.mapIter _ _ seen _)=>seen.size|_=>0)
theorem Fc{n r:Nat}{W:World}{m:Option Nat}{a c:Nat}{seen:Array Nat}(h:W.heap[r]? =some (.mapIter m a seen c)):LF n r W=n-seen.size:=by simp[LF,h]
set_option maxRecDepth 100000 in
theorem Ek(F:Fence)(n:Nat)(hf:F.fn 82)(hro:F.round=none)(hn:1<=n){Bm ob b clock:Nat}{es:Array MapEntry}(W:World)(hm':W.cell? ⟨Bm,ob,none⟩=some (.map (some b)))
 (hb':W.heap[b]? =some (.map es clock))(hborn:fJ es clock)(key:MapEntry->aM)(hkey:∀e∈es.toList,e.key=rY (key e))(l:Nat)(J:List aM->World->Prop)(hJ:WZ W.heap.size J)
 (hY:∀pre x W1,J pre W1->pre.length<es.size->YieldAt F (n-1) Tryz.prog l #[rY x] W1 λe W'=>e=.returned (.bool true)/\J (pre++[x]) W'/\KeepsWalks W1 W')(h0:J [] W):
 CallsIn F n Tryz.prog 82 #[.func (.yield l) #[] #[],.pointer (some ⟨Bm,ob,none⟩)] W λe W'=>(∃v,e=.returned v)/\∃ss:List aM,ss.Perm (es.toList.map key)/\J ss W':=by
 have hbW:b<W.heap.size:=(Array.getElem?_eq_some_iff.1 hb').1;refine callsIn_of_wp Tryz.func82 rfl hf ?_ hro;simp only[Tryz.ntmps82,List.size_toArray,List.length_cons,List.length_nil,Nat.reduceAdd,Nat.reduceSub,Array.replicate_succ,Array.replicate_zero,List.push_toArray,List.append_toArray,List.nil_append,List.cons_append]
 gi_wp2_with (first
  |(gi_at_range;refine xE _ rfl _ _ rfl _ _ Tryz.underlying73 rfl hb' ?_)
  |gi_in)
 have hg0:W.grownBy (W.alloc (.mapIter (some b) clock #[] clock)) none:=World.grownBy_alloc W _ none;have hr0:(W.alloc (.mapIter (some b) clock #[] clock)).heap[W.heap.size]? =some (.mapIter (some b) clock #[] clock):=heap_alloc_new W _;have hb0:(W.alloc (.mapIter (some b) clock #[] clock)).heap[b]? =some (.map es clock):=(hg0.block b hbW (by simp)).trans hb';have hJ0:=hJ [] W _ none h0 hg0 (Nat.le_refl _) (λr e=>by cases e);generalize W.alloc (.mapIter (some b) clock #[] clock)=w0 at*;try go_frame
 gi_loopw [3] (λ_ wr=>∃(vs:List MapEntry) (seen:Array Nat) (c0:Nat),wr.heap[W.heap.size]? =some (.mapIter (some b) clock seen c0)/\wr.heap[b]? =some (.map es clock)/\clock<=c0/\LE es vs seen/\J (vs.map key) wr)
  (λ_ wr=>LF es.size W.heap.size wr)
 case atStart=>
  exact⟨[],#[],clock,hr0,hb0,Nat.le_refl _,⟨by simp,by simp,by simp⟩,hJ0⟩
 case round=>
  obtain⟨vs,seen,c0,hr,hbr,hcc,hC,hJs⟩:=hrel
  gi_wp2_with (first
   |(gi_at_next;refine yO _ rfl _ rfl (Nat.ne_of_gt hbW) rfl hr hbr hborn hcc (Nat.le_refl _) hC ?_ ?_)
   |gi_in)
  ·intro hp
   gi_wp2
   go_end0
   exact⟨⟨_,rfl⟩,vs.map key,hp.map key,hJs⟩
  ·intro e w2 he hC2 hr2 hg2 hd2 hen;have hJ2:J (vs.map key) w2:=hJ _ wr w2 (some W.heap.size) hJs hg2 hd2 (λr e=>by cases e;exact⟨Nat.le_refl _,_,hr,rfl⟩);have hb2:w2.heap[b]? =some (.map es clock):=(hg2.block b (Array.getElem?_eq_some_iff.1 hbr).1 (λe=>by injection e with e;omega)).trans hbr;have hsz:=hC2.size hborn;have hvs:seen.size=vs.length:=by have:=congrArg List.length hC.seen;simpa using this
   obtain⟨fn,tmps,assign,body,hy,hR⟩:=hY (vs.map key) (key e) _ hJ2 (by simp at hsz|-;omega);rw[hkey e (by simpa using he)]at hen|-;unfold rY at hen hy|-
   gi_wp2
   refine hR.mono ?_;rintro e' W3 ⟨rfl,hJ3,hk3⟩
   gi_wp2
   have hr4:=hk3.same _ _ hr2 rfl;have hb4:=hk3.same _ _ hb2 rfl
   go_roundw
   case rel=>exact⟨vs++[e],seen.push e.born,clock,hr4,hb4,Nat.le_refl _,hC2,by simpa using hJ3⟩
   case measure=>rw[Fc hr4,Fc hr];simp at hsz|-;omega
def XZ(b0:Option Nat)(W0:World)(l:List aM)(ss:List aM)(W:World):Prop:=
 ∃v gb,W.heap[W0.heap.size]? =some (.cells #[v] 32 (0,0))/\sS 1 b0 W0.heap.size W v (l.length+ss.length) ((l++ss).flatMap aM.enc) gb/\gb≠some W0.heap.size/\EN b0 W0 W/\AT (l.length*1) b0 W0 W
theorem SO(b0:Option Nat)(W0:World)(l:List aM)(hb0:∀b,b0=some b->b<W0.heap.size):WZ (W0.heap.size+1) (XZ b0 W0 l):=by
 rintro ss W W' row ⟨v,gb,h1,h2,h3,h4,h5⟩ hg hd hr;have hrow:∀{k:Nat} {cur:Array Value} {e:TypeId},W.heap[k]? =some (.cells cur e (0,0))->some k≠row:=λhk e=>by
  obtain⟨_,o,ho,hc⟩:=hr _ e.symm;rw[hk]at ho;cases ho;cases hc
 refine⟨v,gb,(hg.block _ (Array.getElem?_eq_some_iff.1 h1).1 (hrow h1)).trans h1,h2.kept hg ?_,h3,h4.step hg hd (λr e=>.inr (by have:=(hr r e).1;omega)),h5.step hg ?_⟩;rcases h2.lies with⟨rfl,_⟩|⟨g,cap,cur,e,rfl,_,_,hb,_⟩
 ·exact .inl rfl
 ·exact .inr (hrow hb)
 ·cases hb:b0 with
  |none=>exact .inl rfl
  |some g=>exact .inr λe=>by have:=(hr g e.symm).1;have:=hb0 g hb;omega
set_option maxRecDepth 100000 in
theorem GJ(W0:World)(v0:Value)(l:List aM)(b0:Option Nat)(hrow:sS 1 b0 W0.heap.size W0 v0 l.length (l.flatMap aM.enc) b0)(hb0:∀b,b0=some b->b<W0.heap.size){Bm ob b clock:Nat}{es:Array MapEntry}(hm:W0.cell? ⟨Bm,ob,none⟩=some (.map (some b)))(hBm:some Bm≠b0)
 (hb:W0.heap[b]? =some (.map es clock))(hbb:some b≠b0)(hborn:fJ es clock)(key:MapEntry->aM)(hkey:∀e∈es.toList,e.key=rY (key e))(hN:(l.length+es.size)*16<=140737488355328):
 Calls Tryz.prog 134 #[v0,.func (.func 82) #[] #[.pointer (some ⟨Bm,ob,none⟩)]] W0 λe W'=>
  ∃v ss gb,e=.returned v/\List.Perm ss (es.toList.map key)/\sS 1 b0 W0.heap.size W' v (l.length+ss.length) ((l++ss).flatMap aM.enc) gb/\EN b0 W0 W'/\AT (l.length*1) b0 W0 W':=by
 refine(callsIn_wide (n:=6)).1 ?_;obtain⟨ba,bn,bc,hv0⟩:∃ba bn bc,v0=.slice ba bn bc:=by
  rcases hrow.lies with⟨_,_,a,rfl⟩|⟨g,cap,cur,e,_,rfl,_⟩
  ·exact⟨_,_,_,rfl⟩
  ·exact⟨_,_,_,rfl⟩
 subst hv0;have hBml:Bm<W0.heap.size:=World.block_lt_of_cell? W0 _ hm;have hbl:b<W0.heap.size:=(Array.getElem?_eq_some_iff.1 hb).1;refine callsIn_of_wp_marks Tryz.func134 rfl trivial ?_ rfl;simp only[Tryz.ntmps134,List.size_toArray,List.length_cons,List.length_nil,Nat.reduceAdd,Nat.reduceSub,Array.replicate_succ,Array.replicate_zero,List.push_toArray,List.append_toArray,List.nil_append,List.cons_append]
 gi_wp2
 obtain⟨W1,hW1⟩:∃W1,W0.alloc (.cells #[.slice ba bn bc] 32)=W1:=⟨_,rfl⟩;have hs1:W1.heap.size=W0.heap.size+1:=by rw[<-hW1];simp
 have hg1:W0.grownBy W1 none:=by rw[<-hW1];exact World.grownBy_alloc W0 _ none
 have hd1:W0.drawn<=W1.drawn:=by rw[<-hW1];exact Nat.le_refl _
 have hv1:W1.heap[W0.heap.size]? =some (.cells #[.slice ba bn bc] 32 (0,0)):=by rw[<-hW1];exact heap_alloc_new W0 _
 rw[hW1];clear hW1;refine tZ (enc:=rY) (N:=es.size) (S:=λss=>List.Perm ss (es.toList.map key)) rfl (by omega) rfl trivial (enters_of Tryz.func82 (by kernel_rfl) rfl) (XZ b0 W0 l) (by rw[hs1];exact SO b0 W0 l hb0)
  ⟨.slice ba bn bc,b0,hv1,by simpa using hrow.kept hg1 (by cases b0<;>simp),λe=>by have:=hb0 _ e;omega,(EN.refl b0 W0).step hg1 hd1 (λr e=>by cases e),(AT.refl _ b0 W0).step hg1 (by cases b0<;>simp)⟩ ?_
  (λx a' W=>a'=⟨#[.slice ba bn bc,.func (.func 82) #[] #[.pointer (some ⟨Bm,ob,none⟩)],.pointer (some ⟨W0.heap.size,0,none⟩),undef,.slice none 0 0,.string ⟨x.toArray⟩,.func (.func 82) #[] #[.pointer (some ⟨Bm,ob,none⟩)],rY x,undef,undef,undef,undef,undef],[]⟩) ?_ ?_ ?_ ?_
 ·intro l' J W2 hI hsz hJ hY hJ0;obtain⟨v,gb,q1,q2,q3,q4,q6⟩:=hI;exact Ek _ 5 trivial rfl (by omega) W2 ((World.cell?_of_block (q4.block Bm hBml hBm)).trans hm) ((q4.block b hbl hbb).trans hb) hborn key hkey l' J hJ hY hJ0
 ·exact λx a' s W W' row h _ _ _=>h
 ·intro l' pre x W K hI hK;change Code.wpIn (Fence.wide.inRound l') (6-1-1) Tryz.prog _ _ ⟨#[.slice ba bn bc,.func (.func 82) #[] #[.pointer (some ⟨Bm,ob,none⟩)],.pointer (some ⟨W0.heap.size,0,none⟩),undef,.slice none 0 0,undef,.func (.func 82) #[] #[.pointer (some ⟨Bm,ob,none⟩)],rY x,undef,undef,undef,undef,undef],[]⟩ W;have hK':=hK _ W ⟨rfl,rfl,rfl,Nat.le_refl _,λ_ _ _=>rfl⟩ (Nat.le_refl _) rfl;clear hK;unfold rY at hK'|-
  gi_wp2_with gi_round_op_a
  exact hK'
 ·rintro l' pre x a' W ⟨v,gb,q1,q2,q3,q4,q6⟩ rfl hlen;obtain⟨hc1,hf1⟩:=cell_of_box_a q1;obtain⟨inf,d,z,i1,i2,i3,i4,i5,i6,i7⟩:=hT.parts (t:=9) (by simp[TK.isNone]);simp at i4 i5 i7;obtain⟨va,vn,vc,hv⟩:∃va vn vc,v=.slice va vn vc:=by
   rcases q2.lies with⟨_,_,a,rfl⟩|⟨g,cap,cur,e,_,rfl,_⟩
   ·exact⟨_,_,_,rfl⟩
   ·exact⟨_,_,_,rfl⟩
  subst hv;have hWs:W0.heap.size<W.heap.size:=(Array.getElem?_eq_some_iff.1 q1).1;have q5:sS 1 b0 W0.heap.size (W.alloc (.cells #[.string ⟨x.toArray⟩] 9)) (.slice va vn vc) (l.length+pre.length) ((l++pre).flatMap aM.enc) gb:=q2.kept (World.grownBy_alloc W _ none) (by cases gb<;>simp);have hnew:∀(j:Nat) (u:Value),[Value.string ⟨x.toArray⟩][j]? =some u->(W.alloc (.cells #[.string ⟨x.toArray⟩] 9)).cell? ⟨W.heap.size,j,none⟩=some u:=λj u hj=>by
   have:=heap_alloc_new W (.cells #[.string ⟨x.toArray⟩] 9);simp only[World.cell?,this];simpa using hj
  gi_wp2_with (first
   |(gi_at_builtin;refine wG _ rfl _ _ 32 rfl Tryz.underlying32 i1 i6 i4 (by rw[<-Array.length_toList,i7];rfl) (by decide) rfl q5 (by simp;omega) rfl (news:=[.string ⟨x.toArray⟩]) rfl (by simp[Value.oneCell']) hnew (by rw[i5];omega) (by omega) ?_;intro v' W3 g' r1 r2 r3 r4 r5
     have hv3:W3.heap[W0.heap.size]? =some (.cells #[.slice va vn vc] 32 (0,0)):=(r2.block _ (by simp;omega) (λe=>q3 e.symm)).trans ((heap_alloc_old W _ hWs).trans q1);obtain⟨hc3,hf3⟩:=cell_of_box_a hv3;obtain⟨cap',cur',e',rfl,s2,s3,s4,s5,s6,s7⟩:∃cap' cur' e',v'=.slice (some ⟨g',0,none⟩) (l.length+pre.length+1) cap'/\(b0=some g'\/W0.heap.size<=g')/\W3.heap[g']? =some (.cells cur' e' (0,0))/\l.length+pre.length+1<=cap'/\cap'<=maxLen/\cap'*1=cur'.size/\cur'.toList.take ((l.length+pre.length+1)*1)=(l++pre).flatMap aM.enc++[.string ⟨x.toArray⟩]:=by
      rcases r1.lies with⟨h,_⟩|⟨g,cap,cur,e,h,h1,h2,h3,h4,h5,h6,h7⟩
      ·cases h
      ·injection h with h;subst h;exact⟨cap,cur,e,h1,h2,h3,h4,h5,h6,h7⟩
     go_frame)
   |gi_round_op_a)
  have hg0:W.grownBy (W.alloc (.cells #[.string ⟨x.toArray⟩] 9)) none:=World.grownBy_alloc W _ none;have hd0:W.drawn<=(W.alloc (.cells #[.string ⟨x.toArray⟩] 9)).drawn:=Nat.le_refl _;have hgb:∀r,gb=some r->(b0=some r\/W0.heap.size<=r)/\∃cur e,W.heap[r]? =some (.cells cur e (0,0)):=λr e=>by
   rcases q2.lies with⟨h,_⟩|⟨g,cap,cur,e',h,_,h2,h3,_⟩
   ·rw[h]at e;cases e
   ·rw[h]at e;injection e with e;subst e;exact⟨h2,cur,e',h3⟩
  have hgne:g'≠W0.heap.size:=by
   rcases r4 with h|h
   ·exact λe=>q3 (by rw[h,e])
   ·rw[h];simp;omega
  generalize W.alloc (.cells #[.string ⟨x.toArray⟩] 9)=W2 at*;have hg4:W3.grownBy (W3.setCell ⟨W0.heap.size,0,none⟩ (.slice (some ⟨g',0,none⟩) (l.length+pre.length+1) cap')) (some W0.heap.size):=grownBy_setCell0_a _ _ _;refine⟨⟨Nat.le_trans hg0.size (Nat.le_trans r2.size hg4.size),λk o hk ho hcell=>?_⟩,((KeepsWalks.of_grownBy hg0 (λj o e=>by cases e)).trans (KeepsWalks.of_grownBy r2 (λj o e ho=>?_))).trans (KeepsWalks.setCell _ _ _),
   .slice (some ⟨g',0,none⟩) (l.length+pre.length+1) cap',some g',heap_setCell_box_a _ hv3,?_,λe=>hgne (by injection e),((q4.step hg0 hd0 (λr e=>by cases e)).step r2 r3 (λr e=>(hgb r e).1)).step hg4 (Nat.le_refl _) (λr e=>.inr (by injection e with e;omega)),((q6.step hg0 (by cases b0<;>simp)).write (by rw[Nat.add_mul];omega) r2 r5).step hg4 ?_⟩
  ·have h2:=(hg0.block k (Array.getElem?_eq_some_iff.1 ho).1 (by simp)).trans ho;have h3:=(r2.block k (Array.getElem?_eq_some_iff.1 h2).1 (λe=>by
    obtain⟨_,cur,e',h⟩:=hgb k e.symm;rw[ho]at h;cases h;cases hcell)).trans h2
   exact(hg4.block k (Array.getElem?_eq_some_iff.1 h3).1 (λe=>by injection e with e;omega)).trans h3
  ·obtain⟨_,cur,e',h⟩:=hgb j e;have h2:=(hg0.block j (Array.getElem?_eq_some_iff.1 h).1 (by simp)).trans h;rw[ho]at h2;cases h2;rfl
  ·have:=r1.kept hg4 (.inr (λe=>hgne (by injection e)));simpa [aM.enc,rY,Nat.add_assoc]using this
  ·cases hb:b0 with
   |none=>exact .inl rfl
   |some g=>exact .inr λe=>by injection e with e;have:=hb0 g hb;omega
 ·rintro D xs W hD hS ⟨v,gb,q1,q2,q3,q4,q6⟩ hdef;obtain⟨hc1,hf1⟩:=cell_of_box_a q1
  gi_wp2
  refine⟨by simp,.inl ⟨_,_,rfl,run_takeDeferred hdef,?_⟩⟩;refine⟨_,results_tmp rfl _ _ _,v,xs,gb,rfl,hS,q2.kept (grownBy_putObj_a _ _ _) ?_,q4.step (grownBy_putObj_a _ _ _) (Nat.le_refl _) (λr e=>.inr (by injection e with e;omega)),q6.step (grownBy_putObj_a _ _ _) ?_⟩;rcases q2.lies with⟨h,_⟩|⟨g,cap,cur,e',h,_,h2,h3,_⟩
  ·exact .inl h
  ·refine .inr λe=>?_;rw[h]at e;injection e with e;subst e
   rw[hdef]at h3;cases h3
  ·cases hb:b0 with
   |none=>exact .inl rfl
   |some g=>exact .inr λe=>by injection e with e;have:=hb0 g hb;omega
end
section
attribute[local simp] jO.cond Nd.d_eq nd_t nd_dr nd_td ndsD aQ bD tX yK bX.d
theorem PH{ts:List Nd}{us:List bX}{i:Nat}{u:bX}(h:us[i]? =some u):Ag ts (us.take (i+1))=if gU ts u=0 then Ag ts (us.take i)else iJ (Ag ts (us.take i)) (gU ts u):=by
 obtain⟨hi,he⟩:=List.getElem?_eq_some_iff.1 h;unfold Ag;rw[List.take_succ_eq_append_getElem hi,List.foldl_append,he];rfl
theorem LG(ts:List Nd)(x:Nd)(hx:weighN x<=1000000000)(hts:∀t∈ts,weighN t<=1000000000):Ok Tryz.prog 62 [xC ts,x.d] ⟨.d (aG (Ei ts x)),true⟩:=by
 refine aZ Tryz.func62 rfl Tryz.ntmps62 Tryz.results62 λw0 X hp=>?_;have ku:=GC x;simp at ku;refine aA ?_;simp[xC];refine aA ?_;simp;refine aA ?_;simp;refine aA ?_;simp[bZ,gN,jH,Hz];refine eL (bJ 7 [13] (fz:=false) (cs:=[.mp 13]) (ds:=[yN]) (by simp) (by simp) (by simp[yN]) (by simp[aV.mut])) ?_;refine aD ?_;refine aX hT hW (λ|16=>some<| .plain ⟨.d (.fn 75 [.ro [aG x.kind,.str x.text,aG x.n,.sl (x.kids.map Nd.d)]]),false⟩|_=>none) ?_;simp;refine⟨ku,?_⟩;refine aH ?_;refine eL (aB hp [2,5,6,7,16] [(2,2),(5,5),(6,6),(7,7)] (env':=aO [(2,.bx 2 0),(5,.bx 5 0),(6,.bx 6 0),(7,.bx 7 0),(16,.d (.fn 75 [.ro [aG x.kind,.str x.text,aG x.n,.sl (x.kids.map Nd.d)]]))]) (H':=aI [(2,.box false [.d (ndsD ts),.d (.mp (nB ts) (nM ts.length))]),(5,.box false [.d (aG 0)]),(6,.box false [.fn 103 [.bx 5 0]]),(7,.box false [.d yN])]) (by simp) (by simp)) ?_;refine eF.rangeFunc (items:=(bB x).map yK) (by simpa using Af x hx) (by simp) (by intro it hit;obtain⟨u,_,rfl⟩:=List.mem_map.1 hit;rfl) (by simp) (by kernel_rfl) (by kernel_rfl) (λi=>aI [(2,.box false [.d (ndsD ts),.d (.mp (nB ts) (nM ts.length))]),(5,.box false [.d (aG (Ag ts ((bB x).take i)))]),(6,.box false [.fn 103 [.bx 5 0]]),(7,.box false [.d yN])]) (λi=>aI [(2,.box false [.d (ndsD ts),.d (.mp (nB ts) (nM ts.length))]),(5,.box false [.d (aG (Ag ts ((bB x).take (i+1))))]),(6,.box false [.fn 103 [.bx 5 0]]),(7,.box false [.d yN]),(9,.box false [.d (aG (qC x i).kind),.d (.str (qC x i).name),.d (.str (qC x i).field)])]) (rfl) [2,5,6,7] (by decide) (by simp[hp]) (λi id h=>by simpa using mQ id h) (λi=>aO [(2,.bx 2 0),(5,.bx 5 0),(6,.bx 6 0),(7,.bx 7 0),(9,.bx 9 0)]) (λi=>aI [(2,.box false [.d (ndsD ts),.d (.mp (nB ts) (nM ts.length))]),(5,.box false [.d (aG (Ag ts ((bB x).take i)))]),(6,.box false [.fn 103 [.bx 5 0]]),(7,.box false [.d yN]),(9,.box false [.d (aG (qC x i).kind),.d (.str (qC x i).name),.d (.str (qC x i).field)])]) [2,5,6,7,9] (λi id h=>by simpa using mQ id h) (λi hi=>?_) (λw1 X1 i it hp hit=>?_) (λw1 X1 i it hp hit=>?_) ?_
 ·simp
 ·obtain⟨u,hu,rfl⟩:=dT hit;have hU:=vX hu;refine aJ ?_;simp;exact aB hp [2,5,6,7,9] [(2,2),(5,5),(6,6),(7,7),(9,9)] (hH:=by simp[hU])
 ·obtain⟨u,hu,rfl⟩:=dT hit;have hU:=vX hu;obtain⟨o,ho⟩:∃o,Ag ts ((bB x).take i)=o:=⟨_,rfl⟩;have ho4:nC o:=by rw[<-ho];exact PG _ _
  have hs:=PH (ts:=ts) hu;have he4:=Ah ts u;rw[ho]at hs;simp[hU,ho];refine aH ?_;refine aA ?_;simp[GH,aW];refine aH ?_;refine aA ?_;simp;refine aC ?_;simp;refine⟨λh7=>?_,λh7=>?_⟩
  ·have he:gU ts u=6:=by unfold gU;cases h:mX ts u.name<;>simp_all
   have kw:=CQ o 6 ho4 (by simp[nC]);rw[he,if_neg (by decide)]at hs;refine eF.ro hT hW (λ|32=>some (.gen ⟨[(5,0)],[],[],[(0,.box false [.d (aG (iJ o 6))])],.tup []⟩)|_=>none) ?_;simp;refine⟨by simpa using kw,?_⟩;exact aB hp [] [(2,2),(5,5),(6,6),(7,7),(9,9)] (hH:=by simp[hU,hs])
  ·obtain⟨j,hj⟩:∃j,mX ts u.name=some j:=by cases h:mX ts u.name<;>simp_all
   have hjl:=uG hj;obtain⟨t,ht⟩:∃t,ts[j]=t:=⟨_,rfl⟩;have htm:t∈ts:=by rw[<-ht];exact List.getElem_mem hjl
   have hat:Uy ts u.name=(j:Nat):=by unfold Uy;rw[hj];rfl
   have hget:ts.getD j default=t:=(by rw[List.getD_eq_getElem?_getD,List.getElem?_eq_getElem hjl,ht];rfl);refine aD ?_;refine eF.rd [] [] (λ_=>none) ?_;simp[hat,hjl,ht];refine aC ?_;simp;refine⟨λh9=>?_,λh9=>?_⟩
   ·have he:gU ts u=12:=by unfold gU;rw[hj];simp only[hget];rw[if_pos h9]
    have kw:=CQ o 12 ho4 (by simp[nC]);rw[he,if_neg (by decide)]at hs;refine eF.ro hT hW (λ|45=>some (.gen ⟨[(5,0)],[],[],[(0,.box false [.d (aG (iJ o 12))])],.tup []⟩)|_=>none) ?_;simp;refine⟨by simpa using kw,?_⟩;exact aB hp [] [(2,2),(5,5),(6,6),(7,7),(9,9)] (hH:=by simp[hU,hs])
   ·have hk9:t.kind=u.kind:=(by omega);refine aD ?_;by_cases h1:u.kind=1
    rotate_left
    ·refine eF.rd [[],[],[],[],[],[],[],[],[],[],[56],[56]] [[],[],[],[],[],[],[],[],[],[56],[],[],[59]] (λ_=>none) ?_;simp[hat,hjl,ht,h1];have he:gU ts u=0:=by unfold gU;rw[hj];simp only[hget];rw[if_neg (by simp[hk9]),if_neg (by simp[h1])]
     rw[he,if_pos rfl]at hs;refine aC ?_;simp[hat,hjl,ht,h1];refine aE ?_;simp;exact aB hp [] [(2,2),(5,5),(6,6),(7,7),(9,9)] (hH:=by simp[hU,hs])
    ·have kf:=Fa t (hts t htm);have ki:=Iy (bG t) u.field;simp at kf;refine eF.rd [[],[],[],[],[],[],[],[],[],[],[56],[56]] [[],[],[],[],[],[],[],[],[],[56],[],[],[59]] (λ|56=>some<| .plain ⟨.own 1 ((bG t).map .str),true⟩|59=>some<| .plain ⟨.d (.bool (decide (u.field∈bG t))),true⟩|_=>none) ?_;simp[hat,hjl,ht,h1];refine⟨⟨kf,by simpa using ki⟩,?_⟩;refine aC ?_;simp;refine⟨λh11=>?_,λh11=>?_⟩
     ·have he:gU ts u= -1:=by unfold gU;rw[hj];simp only[hget];rw[if_neg (by simp[hk9]),if_pos (by simp_all)]
      have kw:=CQ o (-1) ho4 (by simp[nC]);rw[he,if_neg (by decide)]at hs;refine eF.ro hT hW (λ|64=>some (.gen ⟨[(5,0)],[],[],[(0,.box false [.d (aG (iJ o (-1)))])],.tup []⟩)|_=>none) ?_;simp;refine⟨by simpa using kw,?_⟩;exact aB hp [] [(2,2),(5,5),(6,6),(7,7),(9,9)] (hH:=by simp[hU,hs])
     ·have he:gU ts u=0:=by unfold gU;rw[hj];simp only[hget];rw[if_neg (by simp[hk9]),if_neg (by simp_all)]
      rw[he,if_pos rfl]at hs;refine aE ?_;simp;exact aB hp [] [(2,2),(5,5),(6,6),(7,7),(9,9)] (hH:=by simp[hU,hs])
 ·refine aD ?_;refine aA ?_;simp;refine aC ?_;simp;refine⟨λh13=>?_,λh13=>?_⟩
  ·refine aA ?_;simp;refine aF ?_;unfold Ei;rw[if_pos h13];simp
  ·refine aE ?_;simp;refine aA ?_;simp;refine aF ?_;unfold Ei;rw[if_neg h13];simp
end
section
attribute[local simp] jO.cond Nd.d_eq nd_t nd_dr nd_td ndsD aQ bD tX yK bX.d
def jE(ts:List Nd)(b:Int->Bool)(f:Nat->List Nat->List Nat)(M:List Nat)(u:bX):List Nat:=match mX ts u.name with
 |some k=>if b u.bk=true/\k∉M then f k (M++[k])else M
 |none=>M
def fV(ts:List Nd)(b:Int->Bool):Nat->Nat->List Nat->List Nat
 |0,_,M=>M
 |f+1,i,M=>(bB (ts.getD i default)).foldl (jE ts b (fV ts b f)) M
theorem Ai(ts:List Nd)(b:Int->Bool)(f i:Nat)(M:List Nat):fV ts b (f+1) i M=(bB (ts.getD i default)).foldl (jE ts b (fV ts b f)) M:=rfl
def PI(n:Nat)(M:List Nat):Nat:=((List.range n).filter λk=>decide (k∉M)).length
theorem SP{n:Nat}{M M':List Nat}(h:∀k∈M,k∈M'):PI n M'<=PI n M:=by
 unfold PI;have:(List.range n).filter (λk=>decide (k∉M'))=((List.range n).filter (λk=>decide (k∉M))).filter λk=>decide (k∉M'):=by
  rw[List.filter_filter];congr 1;funext k;by_cases hk:k∈M'
  ·simp[hk]
  ·have:k∉M:=λh'=>hk (h k h');simp[hk,this]
 rw[this];exact List.length_filter_le _ _
theorem xF{α:Type}{p q:α->Bool}:∀{l:List α} {x:α},(∀y,q y=true->p y=true)->x∈l->p x=true->q x=false->(l.filter q).length<(l.filter p).length
 |a::l,x,hpq,hx,hp,hq=>by
  have le:(l.filter q).length<=(l.filter p).length:=by
   have:l.filter q=(l.filter p).filter q:=by
    rw[List.filter_filter];congr 1;funext y;cases h:q y with
    |true=>simp[hpq y h]
    |false=>simp
   rw[this];exact List.length_filter_le _ _
  rcases List.mem_cons.1 hx with rfl|hx
  ·rw[List.filter_cons_of_pos hp,List.filter_cons_of_neg (by simp[hq])];simp only[List.length_cons];omega
  ·have ih:=xF hpq hx hp hq;by_cases h1:p a=true
   ·by_cases h2:q a=true
    ·rw[List.filter_cons_of_pos h1,List.filter_cons_of_pos h2];simpa using ih
    ·rw[List.filter_cons_of_pos h1,List.filter_cons_of_neg h2];simp only[List.length_cons];omega
   ·have h2:¬q a=true:=λh=>h1 (hpq a h);rw[List.filter_cons_of_neg h1,List.filter_cons_of_neg h2];exact ih
theorem SQ{n:Nat}{M:List Nat}{k:Nat}(hk:k<n)(h:k∉M):PI n (M++[k])<PI n M:=by
 unfold PI;exact xF (x:=k) (λy hy=>by simp at hy|-;exact hy.1) (List.mem_range.2 hk) (by simpa using h) (by simp)
theorem pR{α:Type}{f:List Nat->α->List Nat}(h:∀M x k,k∈M->k∈f M x):∀(l:List α) (M:List Nat),∀k∈M,k∈l.foldl f M
 |[],_,_,hk=>hk
 |x::l,M,k,hk=>pR h l (f M x) k (h M x k hk)
theorem xG(ts:List Nd)(b:Int->Bool):∀(f i:Nat) (M:List Nat),∀k∈M,k∈fV ts b f i M
 |0,_,_,_,hk=>hk
 |f+1,i,M,k,hk=>by
  refine pR (λM u k hk=>?_) _ M k hk;unfold jE;split
  ·split
   ·exact xG ts b f _ _ k (List.mem_append_left _ hk)
   ·exact hk
  ·exact hk
theorem xH(ts:List Nd)(b:Int->Bool)(f:Nat)(M:List Nat)(u:bX):∀k∈M,k∈jE ts b (fV ts b f) M u:=λk hk=>by
 unfold jE;split
 ·split
  ·exact xG ts b f _ _ k (List.mem_append_left _ hk)
  ·exact hk
 ·exact hk
def yP(M:List Nat):List DV:=M.map λ(k:Nat)=>aG (k:Int)
def El(M:List Nat):List DV:=M.map λ_=>.bool true
theorem Aj(k:Nat):∀(M:List Nat) (i:Nat),gN (aG (k:Int)) (yP M) i=some ((M.findIdx? (λx=>decide (k=x))).map (·+i))
 |[],i=>rfl
 |x::r,i=>by
  have e:jH (aG (k:Int)) (aG (x:Int))=some (decide (k=x)):=by
   simp only[jH,Hz,Option.some.injEq];by_cases h:k=x
   ·simp[h]
   ·have:¬((k:Int)=x):=(by omega);simp[h,this]
  unfold yP;rw[List.map_cons,gN,e,List.findIdx?_cons];by_cases h:k=x
  ·simp[h]
  ·simp only[h,decide_false,Bool.false_eq_true,if_false];have:=Aj k r (i+1);unfold yP at this;rw[this];cases r.findIdx? (λx=>decide (k=x))with
   |none=>rfl
   |some j=>simp;omega
theorem CT{M:List Nat}{m:Nat}(h:m∉M):(M.findIdx? λx=>decide (m=x))=none:=by
 rw[List.findIdx?_eq_none_iff];intro x hx;simp;intro e;subst e;exact h hx
theorem LH{M:List Nat}{m:Nat}(h:m∈M):∃j,(M.findIdx? λx=>decide (m=x))=some j/\j<M.length:=by
 cases q:(M.findIdx? λx=>decide (m=x))with
 |none=>rw[List.findIdx?_eq_none_iff]at q;have:=q m h;simp at this
 |some j=>exact⟨j,rfl,(List.findIdx?_eq_some_iff_getElem.1 q).1⟩
theorem IH(M:List Nat){H:dC}{x:LV}{k:Nat}(h:qG H x=some (yP M,El M)):
 cI T H 89 x (.d (aG (k:Int))) false=⟨.d (.bool (decide (k∈M))),True,[]⟩:=by
 unfold cI;simp only[YU,h,Aj];by_cases hm:k∈M
 ·obtain⟨j,hj,hl⟩:=LH hm;simp[hj,hl,hm,qF,bS,fP,El]
 ·simp[CT hm,hm,qF,bS,fP,gZ,tA,TK.isNone,TK.agg]
theorem Vg(M:List Nat){H:dC}{id:Nat}{k:Nat}(hm:k∉M)(h:H id=.map false (yP M) (El M)):
 bZ T H 89 (.mp id) (.d (aG (k:Int))) (.d (.bool true))=⟨.junk,True,[(id,.map false (yP (M++[k])) (El (M++[k])))]⟩:=by
 unfold bZ;simp only[YU,h,Aj,CT hm];simp[qF,bS,fP,yP,El]
def BE(ts:List Nd)(g:FuncId)(M:List Nat):List (Nat×aV):=[(1,.box false [.d (ndsD ts),.d (.mp (nB ts) (nM ts.length))]),(2,.box false [.d (.fn g [])]),(3,.box false [.mp 100]),(4,.box false [.fn 88 [.bx 1 0,.bx 2 0,.bx 3 0,.bx 4 0]]),(100,.map false (yP M) (El M))]
theorem SR(ts:List Nd)(b:Int->Bool)(g:FuncId)(f i0:Nat)(M:List Nat)(hts:∀t∈ts,weighN t<=1000000000)(hby:∀k,Ok Tryz.prog g [aG k] ⟨.d (.bool (b k)),true⟩)(hi0:i0<ts.length)(hf:PI ts.length M<f+1)(ih:∀k M',k<ts.length->PI ts.length M'<f->iE Tryz.prog 88 [.d (aG (k:Int)),.bx 1 0,.bx 2 0,.bx 3 0,.bx 4 0] (BE ts g M') (BE ts g (fV ts b f k M')) (.tup [])):iE Tryz.prog 88 [.d (aG (i0:Int)),.bx 1 0,.bx 2 0,.bx 3 0,.bx 4 0] (BE ts g M) (BE ts g (fV ts b (f+1) i0 M)) (.tup []):=by
 unfold BE at*;refine rX Tryz.func88 rfl Tryz.ntmps88 Tryz.results88 λw0 X hp=>?_;obtain⟨x,hx⟩:∃x,ts[i0]=x:=⟨_,rfl⟩;have hxm:x∈ts:=by rw[<-hx];exact List.getElem_mem hi0
 have hget:ts.getD i0 default=x:=by rw[List.getD_eq_getElem?_getD,List.getElem?_eq_getElem hi0,hx];rfl
 have hxw:=hts x hxm;have hF:fV ts b (f+1) i0 M=(bB x).foldl (jE ts b (fV ts b f)) M:=by rw[Ai,hget]
 have ku:=GC x;simp at ku;refine aX hT hW (λ|15=>some<| .plain ⟨.d (.fn 75 [.ro [aG x.kind,.str x.text,aG x.n,.sl (x.kids.map Nd.d)]]),false⟩|_=>none) ?_;simp[hi0,hx];refine⟨ku,?_⟩;refine aH ?_;refine eL (aB hp [1,2,3,4,15] [(1,1),(2,2),(3,3),(4,4),(100,100)] (env':=aO [(1,.bx 1 0),(2,.bx 2 0),(3,.bx 3 0),(4,.bx 4 0),(15,.d (.fn 75 [.ro [aG x.kind,.str x.text,aG x.n,.sl (x.kids.map Nd.d)]]))]) (H':=aI [(1,.box false [.d (ndsD ts),.d (.mp (nB ts) (nM ts.length))]),(2,.box false [.d (.fn g [])]),(3,.box false [.mp 100]),(4,.box false [.fn 88 [.bx 1 0,.bx 2 0,.bx 3 0,.bx 4 0]]),(100,.map false (yP M) (El M))]) (by simp) (by simp)) ?_;refine eF.rangeFunc (items:=(bB x).map yK) (by simpa using Af x hxw) (by simp) (by intro it hit;obtain⟨u,_,rfl⟩:=List.mem_map.1 hit;rfl) (by simp) (by kernel_rfl) (by kernel_rfl) (λi=>aI [(1,.box false [.d (ndsD ts),.d (.mp (nB ts) (nM ts.length))]),(2,.box false [.d (.fn g [])]),(3,.box false [.mp 100]),(4,.box false [.fn 88 [.bx 1 0,.bx 2 0,.bx 3 0,.bx 4 0]]),(100,.map false (yP (((bB x).take i).foldl (jE ts b (fV ts b f)) M)) (El (((bB x).take i).foldl (jE ts b (fV ts b f)) M)))]) (λi=>aI [(1,.box false [.d (ndsD ts),.d (.mp (nB ts) (nM ts.length))]),(2,.box false [.d (.fn g [])]),(3,.box false [.mp 100]),(4,.box false [.fn 88 [.bx 1 0,.bx 2 0,.bx 3 0,.bx 4 0]]),(7,.box false [.d (aG (qC x i).kind),.d (.str (qC x i).name),.d (.str (qC x i).field)]),(100,.map false (yP (((bB x).take (i+1)).foldl (jE ts b (fV ts b f)) M)) (El (((bB x).take (i+1)).foldl (jE ts b (fV ts b f)) M)))]) (rfl) [1,2,3,4,100] (by decide) (by simp[hp]) (λi id h=>by simpa using mQ id h) (λi=>aO [(1,.bx 1 0),(2,.bx 2 0),(3,.bx 3 0),(4,.bx 4 0),(6,.d (aG (qC x i).bk)),(7,.bx 7 0)]) (λi=>aI [(1,.box false [.d (ndsD ts),.d (.mp (nB ts) (nM ts.length))]),(2,.box false [.d (.fn g [])]),(3,.box false [.mp 100]),(4,.box false [.fn 88 [.bx 1 0,.bx 2 0,.bx 3 0,.bx 4 0]]),(7,.box false [.d (aG (qC x i).kind),.d (.str (qC x i).name),.d (.str (qC x i).field)]),(100,.map false (yP (((bB x).take i).foldl (jE ts b (fV ts b f)) M)) (El (((bB x).take i).foldl (jE ts b (fV ts b f)) M)))]) [1,2,3,4,7,100] (λi id h=>by simpa using mQ id h) (λi hi=>?_) (λw1 X1 i it hp hit=>?_) (λw1 X1 i it hp hit=>?_) ?_
 ·simp
 ·obtain⟨u,hu,rfl⟩:=dT hit;have hU:=vX hu;refine aA ?_;simp;refine aJ ?_;simp;exact aB hp [1,2,3,4,6,7] [(1,1),(2,2),(3,3),(4,4),(7,7),(100,100)] (by simp[hU]) (by simp[hU])
 ·obtain⟨u,hu,rfl⟩:=dT hit;have hU:=vX hu;obtain⟨o,ho⟩:∃o,((bB x).take i).foldl (jE ts b (fV ts b f)) M=o:=⟨_,rfl⟩;have hs:((bB x).take (i+1)).foldl (jE ts b (fV ts b f)) M=jE ts b (fV ts b f) o u:=by
   obtain⟨hi,he⟩:=List.getElem?_eq_some_iff.1 hu;rw[List.take_succ_eq_append_getElem hi,List.foldl_append,he,ho];rfl
  have hmo:PI ts.length o<f+1:=by
   refine Nat.lt_of_le_of_lt (SP λk hk=>?_) hf;rw[<-ho];exact pR (xH ts b f) _ M k hk
  simp[hU,ho];refine aH ?_;refine aA ?_;simp[GH,aW];refine aD ?_;by_cases ha:(mX ts u.name).isSome=true
  rotate_left
  ·refine rM hT hW (λ_=>none) (by intro d;first|exact⟨rfl,λ_ h=>h⟩|(split<;>exact⟨rfl,λ_ h=>h⟩)) ?_;simp[ha];have hS:jE ts b (fV ts b f) o u=o:=by unfold jE;rw[show mX ts u.name=none by simpa using ha]
   refine aC ?_;simp[ha];refine aE ?_;simp;exact aB hp [] [(1,1),(2,2),(3,3),(4,4),(7,7),(100,100)] (hH:=by simp[hU,hs,hS])
  ·obtain⟨j,hj⟩:∃j,mX ts u.name=some j:=by cases h:mX ts u.name<;>simp_all
   have hjl:=uG hj;have hat:Uy ts u.name=(j:Nat):=by unfold Uy;rw[hj];rfl
   have kb:=hby u.bk;have hl:=λ(H:dC) (h:qG H (.mp 100)=some (yP o,El o))=>IH o (k:=j) h;refine eF.ro hT hW (λ|30=>some<| .plain ⟨.d (.bool (b u.bk)),true⟩|_=>none) ?_;simp[ha,hat,hl,qG];refine⟨kb,?_⟩;refine aC ?_;simp;refine⟨λh4 ho4=>?_,λh4=>?_⟩
   ·have hS:jE ts b (fV ts b f) o u=fV ts b f j (o++[j]):=by unfold jE;rw[hj];exact if_pos ⟨h4,ho4⟩
    refine aA ?_;simp[Vg o ho4];refine eF.ro hT hW (λ|42=>some (.gen ⟨[(1,1),(2,2),(3,3),(4,4),(100,100)],[],[],BE ts g (fV ts b f j (o++[j])),.tup []⟩)|_=>none) ?_;simp[BE];have hI:=ih j (o++[j]) hjl (by have:=SQ hjl ho4;omega);refine⟨by simpa using hI,?_⟩;exact aB hp [] [(1,1),(2,2),(3,3),(4,4),(7,7),(100,100)] (hH:=by simp[hU,hs,hS])
   ·have hS:jE ts b (fV ts b f) o u=o:=by unfold jE;rw[hj];exact if_neg (by simpa using h4)
    refine aE ?_;simp;exact aB hp [] [(1,1),(2,2),(3,3),(4,4),(7,7),(100,100)] (hH:=by simp[hU,hs,hS])
 ·simp;exact aB hp [] [(1,1),(2,2),(3,3),(4,4),(100,100)] (hH:=by simp[hF])
theorem SS(ts:List Nd)(b:Int->Bool)(g:FuncId)(hts:∀t∈ts,weighN t<=1000000000)(hby:∀k,Ok Tryz.prog g [aG k] ⟨.d (.bool (b k)),true⟩):∀(f k:Nat) (M:List Nat),k<ts.length->PI ts.length M<f->iE Tryz.prog 88 [.d (aG (k:Int)),.bx 1 0,.bx 2 0,.bx 3 0,.bx 4 0] (BE ts g M) (BE ts g (fV ts b f k M)) (.tup [])
 |0,_,_,_,h=>absurd h (Nat.not_lt_zero _)
 |f+1,k,M,hk,h=>SR ts b g f k M hts hby hk h λk' M' hk' h'=>SS ts b g hts hby f k' M' hk' h'
def iK(ts:List Nd)(b:Int->Bool)(i:Nat):List Nat:=fV ts b (ts.length+1) i []
theorem CU(ts:List Nd)(b:Int->Bool)(g:FuncId)(i:Nat)(hts:∀t∈ts,weighN t<=1000000000)(hby:∀k,Ok Tryz.prog g [aG k] ⟨.d (.bool (b k)),true⟩)(hi:i<ts.length):Ok Tryz.prog 51 [xC ts,aG (i:Int),.fn g []] ⟨.d (.mp (yP (iK ts b i)) (El (iK ts b i))),false⟩:=by
 refine aZ Tryz.func51 rfl Tryz.ntmps51 Tryz.results51 λw0 X hp=>?_;refine aA ?_;simp[xC];refine aA ?_;simp;refine aA ?_;simp;refine aA ?_;simp;refine aX hT hW (λ|13=>some (.gen ⟨[(3,1),(5,2),(7,3),(8,4),(9,100)],[],[],BE ts g (iK ts b i),.tup []⟩)|_=>none) ?_;simp[BE];refine⟨by simpa [BE,iK,yP,El]using SS ts b g hts hby (ts.length+1) i [] hi (Nat.lt_succ_of_le (Nat.le_trans (List.length_filter_le _ _) (by simp))),?_⟩;refine aA ?_;simp;refine aF ?_;simp
theorem PJ(k:Int):Ok Tryz.prog 63 [aG k] ⟨.d (.bool (decide (k=14))),true⟩:=by
 refine aZ Tryz.func63 rfl Tryz.ntmps63 Tryz.results63 λw0 X hp=>?_;refine aA ?_;simp;refine aA ?_;simp;refine aF ?_;simp
theorem PK(k:Int):Ok Tryz.prog 52 [aG k] ⟨.d (.bool true),true⟩:=by
 refine aZ Tryz.func52 rfl Tryz.ntmps52 Tryz.results52 λw0 X hp=>?_;refine aA ?_;simp;refine aA ?_;simp;refine aF ?_;simp
end
def dX{α:Type}[DecidableEq α]:List α->List α
 |a::b::r=>if a=b then dX (b::r)else a::dX (b::r)
 |l=>l
theorem CV{α:Type}[DecidableEq α]:∀(l:List α) (x:α) (h:l≠[]),dX (l++[x])=if l.getLast h=x then dX l else dX l++[x]
 |[a],x,_=>by
  simp only[List.cons_append,List.nil_append,dX,List.getLast_singleton];split<;>rename_i e<;>simp[e]
 |a::b::r,x,_=>by
  have ih:=CV (b::r) x (by simp);have hl:(a::b::r).getLast (by simp)=(b::r).getLast (by simp):=by simp
  rw[hl];simp only[List.cons_append]at ih|-;simp only[dX];rw[ih];by_cases h1:a=b
  ·simp only[if_pos h1]
  ·simp only[if_neg h1];split<;>rfl
theorem PL{α:Type}{l:List α}{p:Nat}(h0:0<p)(hp:p<=l.length)(hne:l.take p≠[]):(l.take p).getLast hne=l[p-1]:=by
 rw[List.getLast_eq_getElem];simp[Nat.min_eq_left hp]
theorem sC{α:Type}[DecidableEq α]{l:List α}{p:Nat}(h0:0<p)(hp:p<l.length):dX (l.take (p+1))=if l[p-1]=l[p]then dX (l.take p)else dX (l.take p)++[l[p]]:=by
 have hne:l.take p≠[]:=λe=>by have:=congrArg List.length e;rw[List.length_take,List.length_nil]at this;omega
 have h1:l.take (p+1)=l.take p++[l[p]]:=by simp
 rw[h1,CV _ _ hne,PL h0 (by omega)]
theorem sD{α:Type}[DecidableEq α]:∀l:List α,(dX l).length<=l.length
 |a::b::r=>by
  have:=sD (b::r);simp only[dX];split
  ·simp at*;omega
  ·simp at*;omega
 |[]=>Nat.le_refl _
 |[_]=>Nat.le_refl _
theorem Fd{α:Type}[DecidableEq α]{x:α}:∀l:List α,x∈dX l↔x∈l
 |a::b::r=>by
  have:=Fd (x:=x) (b::r);simp only[dX];split
  ·rename_i e;rw[this];subst e;simp
  ·rw[List.mem_cons,this];simp
 |[]=>Iff.rfl
 |[_]=>Iff.rfl
def eW{α:Type}(lt:α->α->Bool)(l:List α):Prop:=l.Pairwise λa b=>lt a b=true
structure Ya{α:Type}(lt:α->α->Bool):Prop where
 irrefl:∀a,lt a a=false
 trans:∀a b c,lt a b=true->lt b c=true->lt a c=true
 total:∀a b,lt a b=false->lt b a=false->a=b
theorem Ya.asym{α:Type}{lt:α->α->Bool}(O:Ya lt){a b:α}(h:lt a b=true):lt b a=false:=by
 cases q:lt b a with
 |false=>rfl
 |true=>have:=O.trans a b a h q;rw[O.irrefl]at this;cases this
theorem vY{α:Type}{lt:α->α->Bool}(O:Ya lt):∀{l m:List α},eW lt l->eW lt m->(∀x,x∈l↔x∈m)->l=m
 |[],[],_,_,_=>rfl
 |[],b::m,_,_,h=>by have:=(h b).2 (by simp);cases this
 |a::l,[],_,_,h=>by have:=(h a).1 (by simp);cases this
 |a::l,b::m,hl,hm,h=>by
  have hl':=List.pairwise_cons.1 hl;have hm':=List.pairwise_cons.1 hm;have hab:a=b:=by
   have h1:=(h a).1 (by simp);have h2:=(h b).2 (by simp);rcases List.mem_cons.1 h1 with h1|h1
   ·exact h1
   ·rcases List.mem_cons.1 h2 with h2|h2
    ·exact h2.symm
    ·have:=O.asym (hl'.1 b h2);rw[hm'.1 a h1]at this;cases this
  subst hab;rw[vY O hl'.2 hm'.2 λx=>?_];constructor
  ·intro hx;rcases List.mem_cons.1 ((h x).1 (by simp[hx]))with e|h'
   ·subst e;have:=hl'.1 x hx;rw[O.irrefl]at this;cases this
   ·exact h'
  ·intro hx;rcases List.mem_cons.1 ((h x).2 (by simp[hx]))with e|h'
   ·subst e;have:=hm'.1 x hx;rw[O.irrefl]at this;cases this
   ·exact h'
theorem nO{α:Type}[DecidableEq α]{lt:α->α->Bool}(O:Ya lt):∀{l:List α},l.Pairwise (λa b=>lt b a=false)->eW lt (dX l)
 |[],_=>.nil
 |[_],_=>List.pairwise_singleton _ _
 |a::b::r,h=>by
  have h':=List.pairwise_cons.1 h;have ih:=nO O h'.2;simp only[dX];split
  ·exact ih
  ·rename_i hne;refine List.pairwise_cons.2 ⟨λx hx=>?_,ih⟩;have hx:=(Fd _).1 hx;have h1:=h'.1 b (by simp);have hab:lt a b=true:=by
    cases q:lt a b with
    |true=>rfl
    |false=>exact absurd (O.total a b q h1) hne
   rcases List.mem_cons.1 hx with rfl|hx
   ·exact hab
   ·have h2:=(List.pairwise_cons.1 h'.2).1 x hx;cases q:lt b x with
    |true=>exact O.trans _ _ _ hab q
    |false=>have:=O.total b x q h2;subst this;exact hab
theorem PM{α:Type}{k:Nat}{x y:α}{out:List α}:y∈lI k x out↔y=x\/y∈out:=by
 unfold lI;rw[List.mem_append,List.mem_cons]
 conv=>rhs;rw[<-List.take_append_drop k out,List.mem_append]
 constructor
 ·rintro(h|h|h)<;>simp[h]
 ·rintro(h|h|h)<;>simp[h]
theorem Ak{α:Type}{p:α->Bool}{out:List α}:∀k,k<=out.length->(∀i (h:i<out.length),mY p out k<=i->i<k->p out[i]=true)/\(∀i (h:i<out.length),mY p out k=i+1->p out[i]=false)
 |0,_=>⟨λi _ _ h=>by omega,λi _ h=>by simp[mY]at h⟩
 |k+1,hk=>by
  have hlt:k<out.length:=by omega
  obtain⟨h1,h2⟩:=Ak k (by omega) (p:=p) (out:=out);cases q:p out[k]with
  |true=>
   rw[Gw hlt q];refine⟨λi hi hle hik=>?_,h2⟩;by_cases e:i=k
   ·subst e;exact q
   ·exact h1 i hi hle (by omega)
  |false=>
   have:mY p out (k+1)=k+1:=zV λi e hi=>by
    have:i=k:=(by omega);subst this;exact q
   rw[this];exact⟨λi _ h1 h2=>by omega,λi hi e=>by
    have:i=k:=(by omega);subst this;exact q⟩
section
attribute[local simp] jO.cond Nd.d_eq nd_t nd_dr nd_td ndsD
theorem PN{l:List aM}:dX (l.take 1)=l.take 1:=by cases l<;>simp[dX]
theorem AX{l:List aM}(h:l.length<2):dX l=l:=by
 match l,h with
 |[],_=>rfl
 |[_],_=>rfl
theorem II{α:Type}{a b:List α}{p i:Nat}(h:a.drop p=b.drop p)(hp:p<=i)(ha:i<a.length)(hb:i<b.length):a[i]=b[i]:=by
 have h1:=congrArg (·[i-p]?) h;simp only[List.getElem?_drop,show p+(i-p)=i by omega,List.getElem?_eq_getElem ha,List.getElem?_eq_getElem hb]at h1;exact Option.some.inj h1
theorem IJ(l:List aM)(hl:l.length<=1000000000000):Ok Tryz.prog 102 [jD l] ⟨.own 1 (l.map .str),true⟩:=by
 refine aZ Tryz.func102 rfl Tryz.ntmps102 Tryz.results102 λw0 X hp=>?_;refine aA ?_;simp;refine aD ?_;refine aD ?_;refine CD hT hW 4 (decide (l=[])) (λ_=>none) (λ_=>⟨rfl,λ_ h=>h⟩) (by kernel_rfl) λb1 hb1=>?_;simp;refine aC ?_;simp;refine⟨λh1=>?_,λh1=>?_⟩
 ·refine aA ?_;simp;refine aF ?_;have:=hb1 h1;simp at this;simp[this]
 ·refine aE ?_;simp;refine aA ?_;simp;refine⟨by omega,?_⟩;refine aF ?_;simp
theorem Em(l:List aM)(hl:l.length<=8000000000000):iE Tryz.prog 101 [.ow 0 0 l.length] [(0,.row false 1 (l.map .str))] [(0,.row false 1 ((dX l).map .str++List.replicate (l.length-(dX l).length) (.str [])))] (.ow 0 0 (dX l).length):=by
 refine gJ Tryz.func101 rfl Tryz.ntmps101 Tryz.results101 λw0 X hp=>?_;refine aA ?_;simp;refine aD ?_;refine aA ?_;simp;refine aC ?_;simp;refine⟨λh1=>?_,λh1=>?_⟩
 ·refine aA ?_;simp;refine aF ?_;simp;refine aB hp [2] [(0,0)] ?_ ?_
  ·simp[AX (by omega:l.length<2)]
  ·simp[AX (by omega:l.length<2)]
 ·refine aE ?_;simp;refine aD ?_;refine aA ?_;simp;refine aH ?_;refine aR (ι:=Nat) (λk=>aO [(0,.ow 0 0 l.length),(3,.d (aG k))]) (λk=>aI [(0,.row false 1 (l.map .str))]) (λk=>1<=k/\k<=l.length/\dX (l.take k)=l.take k) (λk=>l.length-k) 1 (aB hp [0,3] [(0,0)]) (⟨by omega,by omega,PN⟩) λk hi4=>?_;refine aD ?_;refine aA ?_;simp;refine aC ?_;simp;refine⟨λh4=>?_,λh4=>?_⟩
  ·refine aE ?_;simp;refine aD ?_;refine aH ?_;refine aD ?_;refine eF.rd [] [] (λ_=>none) ?_;simp[(show((k:Int)- 1).toNat=k-1 by omega),h4,(show k-1<l.length by omega)];refine⟨by omega,?_⟩;refine aC ?_;simp;refine⟨λh6=>?_,λh6=>?_⟩
   ·refine aA ?_;simp;refine⟨by omega,?_⟩;refine aD ?_;refine aA ?_;simp;refine aH ?_;refine aR (ι:=Nat×Nat×List aM) (λ⟨q,k',r⟩=>aO [(0,.ow 0 0 l.length),(3,.d (aG k')),(4,.ow 0 k (l.length-k)),(5,.d (aG q))]) (λ⟨q,k',r⟩=>aI [(0,.row false 1 (r.map .str))]) (λ⟨q,k',r⟩=>1<=q/\k+q<=l.length/\1<=k'/\k'+1<=k+q/\r.length=l.length/\r.take k'=dX (l.take (k+q))/\r.drop (k+q-1)=l.drop (k+q-1)) (λ⟨q,k',r⟩=>l.length-k-q) (1,k,l) (aB hp [0,3,4,5] [(0,0)]) (⟨by omega,by omega,by omega,by omega,rfl,by rw[sC (by omega) h4,if_pos h6.symm,hi4.2.2],rfl⟩) λ⟨q,k',r⟩ hi9=>?_;refine aD ?_;refine aA ?_;simp;refine aC ?_;simp;refine⟨λh9=>?_,λh9=>?_⟩
    ·refine aE ?_;simp;refine aD ?_;refine aH ?_;refine aD ?_;obtain⟨g1,g2,g3,g4,g5,g6,g7⟩:=hi9;have hq:k+q<l.length:=by omega
     have e1:r[k+q]'(by omega)=l[k+q]:=II g7 (by omega) (by omega) hq;have e2:r[k+(q-1)]'(by omega)=l[k+(q-1)]:=II g7 (by omega) (by omega) (by omega);refine eF.rd [] [] (λ_=>none) ?_;simp[(show((q:Int)- 1).toNat=q-1 by omega),(show k+q<r.length by omega),(show k+(q-1)<r.length by omega),e1,e2];refine⟨by omega,?_⟩;refine aC ?_;simp;refine⟨λh11=>?_,λh11=>?_⟩
     ·refine aA ?_;simp[(show k+q<r.length by omega),e1];refine⟨by omega,?_⟩;refine aJ ?_;simp;refine⟨by omega,?_⟩;refine aJ ?_;simp;refine⟨by omega,?_⟩;refine Nf.mk (q+1,k'+1,r.set k' l[k+q]) (aB hp [0,3,4,5] [(0,0)]) ?_ ?_
      ·have hk':k'<r.length:=(by omega);have e3:¬l[k+q-1]=l[k+q]:=λe=>h11 (by rw[<-e];congr 1;omega);dsimp only;refine⟨by omega,by omega,by omega,by omega,by simp[g5],?_,?_⟩
       ·rw[List.take_succ_eq_append_getElem (by simpa using hk'),List.getElem_set_self,List.take_set_of_le (by omega),g6,<-Nat.add_assoc,sC (by omega) hq,if_neg e3]
       ·have g8:=congrArg (List.drop 1) g7;rw[List.drop_drop,List.drop_drop,show k+q-1+1=k+q by omega]at g8;rw[show k+(q+1)- 1=k+q by omega,List.drop_set_of_lt (by omega),g8]
      ·omega
     ·refine aE ?_;simp;refine aJ ?_;simp;refine⟨by omega,?_⟩;refine Nf.mk (q+1,k',r) (aB hp [0,3,4,5] [(0,0)]) ?_ ?_
      ·have e3:l[k+q-1]=l[k+q]:=by rw[h11];congr 1;omega
       dsimp only;refine⟨by omega,by omega,by omega,by omega,g5,?_,?_⟩
       ·rw[g6,<-Nat.add_assoc,sC (by omega) hq,if_pos e3]
       ·have g8:=congrArg (List.drop 1) g7;rw[List.drop_drop,List.drop_drop,show k+q-1+1=k+q by omega]at g8;rw[show k+(q+1)- 1=k+q by omega,g8]
      ·omega
    ·refine bA ?_;simp;refine aA ?_;simp;refine⟨by omega,?_⟩;refine aA ?_;simp;refine⟨by omega,?_⟩;refine aF ?_;simp;obtain⟨g1,g2,g3,g4,g5,g6,g7⟩:=hi9;have hq:k+q=l.length:=by omega
     rw[hq,List.take_length]at g6;have hkl:(dX l).length=k':=by rw[<-g6];simp;omega
     refine aB hp [2] [(0,0)] ?_ ?_
     ·simp[hkl]
     ·have hd:List.drop (k'+(l.length-k')) (List.map DV.str r)=[]:=List.drop_eq_nil_of_le (by simp;omega);simp;rw[hd,hkl,<-g6,List.map_take,List.append_nil]
   ·refine aE ?_;simp;refine aJ ?_;simp;refine⟨by omega,?_⟩;refine Nf.mk (k+1) (aB hp [0,3] [(0,0)]) ?_ ?_
    ·have e6:¬l[k-1]=l[k]:=λe=>h6 e.symm;exact⟨by omega,h4,by rw[sC (by omega) h4,if_neg e6,hi4.2.2];simp⟩
    ·omega
  ·refine bA ?_;simp;refine aA ?_;simp;refine aF ?_;simp;have q:k=l.length:=by omega
   have e:=hi4.2.2;rw[q,List.take_length]at e;refine aB hp [2] [(0,0)] ?_ ?_
   ·simp[e]
   ·simp[e]
end
section
attribute[local simp] jO.cond Nd.d_eq nd_t nd_dr nd_td ndsD aQ
theorem wL(s t:aM)(hl:s.length<=9223372036854775807)(ht:t.length<=9223372036854775807):Ok Tryz.prog 179 [.str s,.str t] ⟨.d (.bool (decide (s.take t.length=t))),true⟩:=by
 refine aZ Tryz.func179 rfl Tryz.ntmps179 Tryz.results179 λw0 X hp=>?_;refine aA ?_;simp;refine aA ?_;simp;refine aF ?_;simp;rw[Bool.beq_eq_decide_eq,Bool.eq_iff_iff];simp only[Bool.and_eq_true,decide_eq_true_eq];refine⟨λh=>h.2,λh=>⟨?_,h⟩⟩;have e:=congrArg List.length h;rw[List.length_take]at e;omega
theorem nP(s t:aM)(hl:s.length<=9223372036854775807)(ht:t.length<=9223372036854775807):Ok Tryz.prog 159 [.str s,.str t] ⟨.d (.bool (decide (s.take t.length=t))),true⟩:=by
 refine aZ Tryz.func159 rfl Tryz.ntmps159 Tryz.results159 λw0 X hp=>?_;refine aA ?_;simp;refine aD ?_;have h:=wL s t hl ht;refine eF.ro hT hW (λ|7=>some<| .plain ⟨.d (.bool (decide (s.take t.length=t))),true⟩|_=>none) ?_;simp;refine⟨h,?_⟩;refine aF ?_;simp
theorem BF(s:aM)(c:UInt8):Ok Tryz.prog 160 [.str s,.int .u8 (c.toNat:Int)] ⟨.d (aG (sW c s)),true⟩:=by
 refine aZ Tryz.func160 rfl Tryz.ntmps160 Tryz.results160 λw0 X hp=>?_;refine aA ?_;simp;refine aD ?_;have h:=yI s c;refine eF.ro hT hW (λ|7=>some<| .plain ⟨.d (aG (sW c s)),true⟩|_=>none) ?_;simp;refine⟨h,?_⟩;refine aF ?_;simp
theorem jT(c:UInt8)(r:aM):nextN (c::r)=if letterB c then wordN (c::r)else if c=36 then(if 0<wordN r then wordN r+1 else 0)
 else if digitB c then(if runP digitB (c::r)<=3 then runP digitB (c::r)else 0)
 else if(c::r).take 2=[60,61]\/(c::r).take 2=[61,61]then 2 else if c∈signs then 1 else 0:=rfl
theorem NF{c:UInt8}:((c.toNat:Int)=36)↔c=36:=by
 rw[<-UInt8.toNat_inj];have:(36:UInt8).toNat=36:=rfl;omega
theorem mS(c:UInt8)(r:aM)(a b:UInt8):(c::r).take 2=[a,b]↔c=a/\r.take 1=[b]:=by simp
theorem CW(c:UInt8):∀l:aM,0<=sW c l↔c∈l
 |[]=>by simp[sW,cutAt]
 |d::l=>by
  have ih:=CW c l;unfold sW at ih|-;unfold cutAt;by_cases h:d=c
  ·simp[h]
  ·rw[if_neg h];have h':¬c=d:=λe=>h e.symm;cases q:cutAt c l with
   |none=>rw[q]at ih;simp only[Option.map_none,List.mem_cons,h',false_or];exact ih
   |some q2=>rw[q]at ih;simp only[Option.map_some,List.mem_cons,h',false_or,List.length_cons];exact⟨λ_=>ih.1 (by simp),λ_=>by omega⟩
theorem Vh(c:UInt8)(r:aM)(hl:(c::r).length<=9223372036854775807):Ok Tryz.prog 119 [.str (c::r)] ⟨.d (aG (nextN (c::r))),true⟩:=by
 refine aZ Tryz.func119 rfl Tryz.ntmps119 Tryz.results119 λw0 X hp=>?_;have hr:r.length+1<=9223372036854775807:=by simpa using hl
 refine aA ?_;simp;refine aD ?_;refine aH ?_;refine aD ?_;have l1:=vV c;refine eF.ro hT hW (λ|8=>some<| .plain ⟨.d (.bool (letterB c)),true⟩|_=>none) ?_;simp;refine⟨l1,?_⟩;refine aC ?_;simp;refine⟨λh1=>?_,λh1=>?_⟩
 ·refine aD ?_;have w1:=GB (c::r) hl;refine eF.ro hT hW (λ|10=>some<| .plain ⟨.d (aG (wordN (c::r))),true⟩|_=>none) ?_;simp;refine⟨w1,?_⟩;refine aF ?_;simp;rw[jT,if_pos h1]
 ·refine aA ?_;simp;refine aC ?_;simp;refine⟨λh3=>?_,λh3=>?_⟩
  ·refine aD ?_;refine aD ?_;have w4:=GB r (by omega);refine eF.ro hT hW (λ|17=>some<| .plain ⟨.d (aG (wordN r)),true⟩|_=>none) ?_;simp;refine⟨⟨by omega,w4⟩,?_⟩;refine aA ?_;simp;refine aC ?_;simp;refine⟨λh5=>?_,λh5=>?_⟩
   ·refine aD ?_;have b6:=yB r;refine aJ ?_;simp;refine⟨by omega,?_⟩;refine aF ?_;simp;rw[jT,if_neg (by simp[h1]),if_pos (NF.1 h3),if_pos h5];rfl
   ·refine aE ?_;simp;refine aA ?_;simp;refine aF ?_;simp;rw[jT,if_neg (by simp[h1]),if_pos (NF.1 h3),if_neg (by omega)];rfl
  ·refine aD ?_;have l8:=uE c;refine eF.ro hT hW (λ|25=>some<| .plain ⟨.d (.bool (digitB c)),true⟩|_=>none) ?_;simp;refine⟨l8,?_⟩;refine aC ?_;simp;refine⟨λh8=>?_,λh8=>?_⟩
   ·refine aD ?_;refine aD ?_;have w9:=SG (c::r) digitB 157 (λc=>uE c) hl;refine eF.ro hT hW (λ|27=>some<| .plain ⟨.d (aG (runP digitB (c::r))),true⟩|_=>none) ?_;simp;refine⟨w9,?_⟩;refine aA ?_;simp;refine aC ?_;simp;refine⟨λh10=>?_,λh10=>?_⟩
    ·refine aA ?_;simp;refine aF ?_;simp;rw[jT,if_neg (by simp[h1]),if_neg (λe=>h3 (NF.2 e)),if_pos h8,if_pos (by omega)]
    ·refine aE ?_;simp;refine aA ?_;simp;refine aF ?_;simp;rw[jT,if_neg (by simp[h1]),if_neg (λe=>h3 (NF.2 e)),if_pos h8,if_neg (by omega)];rfl
   ·refine aD ?_;have w13:=nP (c::r) [60,61] hl (by decide);have v13:=nP (c::r) [61,61] hl (by decide);refine eF.ro hT hW (λ|33=>some<| .plain ⟨.d (.bool (decide ((c::r).take 2=[60,61]))),true⟩|36=>some<| .plain ⟨.d (.bool (decide ((c::r).take 2=[61,61]))),true⟩|_=>none) ?_;simp;refine⟨⟨⟨by simpa using w13,λ_=>by simpa using v13⟩,λh=>Classical.not_and_iff_not_or_not.1 λq=>h q.1 q.2⟩,?_⟩;refine aC ?_;simp;refine⟨λg=>?_,λg1 g2=>?_⟩
    ·refine aA ?_;simp;refine aF ?_;simp;rw[jT,if_neg (by simp[h1]),if_neg (λe=>h3 (NF.2 e)),if_neg (by simp[h8]),if_pos (by rw[mS,mS];exact g)];rfl
    ·refine aD ?_;have w15:=BF [40,41,123,125,61,43,45,42,60,59,46] c;refine eF.ro hT hW (λ|41=>some<| .plain ⟨.d (aG (sW c [40,41,123,125,61,43,45,42,60,59,46])),true⟩|_=>none) ?_;simp;refine⟨w15,?_⟩;refine aC ?_;simp;refine⟨λh15=>?_,λh15=>?_⟩
     ·refine aA ?_;simp;refine aF ?_;simp;rw[jT,if_neg (by simp[h1]),if_neg (λe=>h3 (NF.2 e)),if_neg (by simp[h8]),if_neg (by rw[mS,mS];rintro(⟨e1,e2⟩|⟨e1,e2⟩);exact g1 e1 e2;exact g2 e1 e2),if_pos ((CW c signs).1 h15)];rfl
     ·refine aE ?_;simp;refine aA ?_;simp;refine aF ?_;simp;rw[jT,if_neg (by simp[h1]),if_neg (λe=>h3 (NF.2 e)),if_neg (by simp[h8]),if_neg (by rw[mS,mS];rintro(⟨e1,e2⟩|⟨e1,e2⟩);exact g1 e1 e2;exact g2 e1 e2),if_neg (λe=>by have:=(CW c signs).2 e;unfold signs at this;omega)];rfl
end
section
attribute[local simp] jO.cond Nd.d_eq nd_t nd_dr nd_td ndsD
theorem IK(x:Nd)(hw:weighN x<=1000000000)(ih:∀y∈x.kids,weighN y<=1000000000->Ok Tryz.prog 85 [y.d] ⟨.d (aG (depthN y)),true⟩):Ok Tryz.prog 85 [x.d] ⟨.d (aG (depthN x)),true⟩:=by
 refine aZ Tryz.func85 rfl Tryz.ntmps85 Tryz.results85 λw0 X hp=>?_;refine aA ?_;simp;refine aA ?_;simp;refine aD ?_;refine aA ?_;simp;refine aH ?_;refine aR (ι:=Nat) (λi=>aO [(1,.bx 1 0),(3,.d (aG (depthL (x.kids.take i)))),(4,.d (aG i))]) (λi=>aI [(1,.box false [.d (aG x.kind),.d (.str x.text),.d (aG x.n),.d (ndsD x.kids)])]) (λi=>i<=x.kids.length) (λi=>x.kids.length-i) 0 (aB hp [1,3,4] [(1,1)] (by simp[depthL])) (Nat.zero_le _) λi hi3=>?_;refine aD ?_;refine aA ?_;simp;refine aC ?_;simp;refine⟨λh3=>?_,λh3=>?_⟩
 ·refine aE ?_;simp;refine aD ?_;refine aH ?_;have hi:i<x.kids.length:=by omega
  have hk:=ih _ (List.getElem_mem hi) (by have:=kR hi;omega);refine eF.ro hT hW (λ|18=>some<| .plain ⟨.d (aG (depthN x.kids[i])),true⟩|_=>none) ?_;simp[hi];refine⟨by simpa using hk,?_⟩;have:=kC x;refine aJ ?_;simp;refine⟨by omega,?_⟩;refine Nf.mk (i+1) (aB hp [1,3,4] [(1,1)] (by simp[depthL_succ hi,Nv])) ?_ ?_
  ·omega
  ·omega
 ·refine bA ?_;simp;refine aD ?_;have hi:i=x.kids.length:=by omega
  subst hi;rw[List.take_length];have q1:=depth_size x;have q2:=size_weigh x;have q3:=depthN_eq x;refine aJ ?_;simp;refine⟨by omega,?_⟩;refine aF ?_;simp[q3]
theorem PO(x:Nd):weighN x<=1000000000->Ok Tryz.prog 85 [x.d] ⟨.d (aG (depthN x)),true⟩:=
 lX (p:=λx=>weighN x<=1000000000->Ok Tryz.prog 85 [x.d] ⟨.d (aG (depthN x)),true⟩) (λ_ _ _ _ ih hw=>IK _ hw ih) x
theorem PP(x:Nd):Ok Tryz.prog 222 [x.d] ⟨.d (aG (lvlN x.kind)),true⟩:=by
 refine aZ Tryz.func222 rfl Tryz.ntmps222 Tryz.results222 λw0 X hp=>?_;refine aA ?_;simp;refine aD ?_;refine aA ?_;simp;refine aH ?_;refine aP (ι:=BC) (λ⟨b⟩=>aO [(1,.bx 1 0),(4,.d (aG (x.kind))),(5,.d (.bool b))]) (λ⟨b⟩=>aI [(1,.box false [.d (aG x.kind),.d (.str x.text),.d (aG x.n),.d (ndsD x.kids)])]) (λ⟨b⟩=>b=true↔(x.kind=26\/x.kind=27\/x.kind=28)) ?_ λ⟨b⟩ hc5=>?_
 ·refine aA ?_;simp;refine aC ?_;simp;refine⟨λh2=>?_,λh2=>?_⟩
  ·refine aE ?_;simp;refine UV.mk ⟨decide (x.kind=26)⟩ (aB hp [1,4,5] [(1,1)]) ?_;simp[h2]
  ·refine aA ?_;simp;refine aC ?_;simp;refine⟨λh3=>?_,λh3=>?_⟩
   ·refine aE ?_;simp;refine UV.mk ⟨decide (x.kind=27)⟩ (aB hp [1,4,5] [(1,1)]) ?_;simp[h3]
   ·refine aJ ?_;simp;refine UV.mk ⟨decide (x.kind=28)⟩ (aB hp [1,4,5] [(1,1)]) ?_;simp only[decide_eq_true_eq];omega
 ·refine aC ?_;simp;refine⟨λh5=>?_,λh5=>?_⟩
  ·have q5:=hc5.1 h5;refine aA ?_;simp;refine aF ?_;have e:lvlN x.kind=1:=by rcases q5 with h|h|h<;>rw[h]<;>rfl
   simp[e]
  ·have q5:¬(x.kind=26\/x.kind=27\/x.kind=28):=λq=>by simp[hc5.2 q]at h5
   refine aP (ι:=BC) (λ⟨b⟩=>aO [(1,.bx 1 0),(4,.d (aG (x.kind))),(9,.d (.bool b))]) (λ⟨b⟩=>aI [(1,.box false [.d (aG x.kind),.d (.str x.text),.d (aG x.n),.d (ndsD x.kids)])]) (λ⟨b⟩=>b=true↔(x.kind=29\/x.kind=30)) ?_ λ⟨b⟩ hc8=>?_
   ·refine aA ?_;simp;refine aC ?_;simp;refine⟨λh6=>?_,λh6=>?_⟩
    ·refine aE ?_;simp;refine UV.mk ⟨decide (x.kind=29)⟩ (aB hp [1,4,9] [(1,1)]) ?_;simp[h6]
    ·refine aJ ?_;simp;refine UV.mk ⟨decide (x.kind=30)⟩ (aB hp [1,4,9] [(1,1)]) ?_;simp only[decide_eq_true_eq];omega
   ·refine aC ?_;simp;refine⟨λh8=>?_,λh8=>?_⟩
    ·have q8:=hc8.1 h8;refine aA ?_;simp;refine aF ?_;have e:lvlN x.kind=2:=by rcases q8 with h|h<;>rw[h]<;>rfl
     simp[e]
    ·have q8:¬(x.kind=29\/x.kind=30):=λq=>by simp[hc8.2 q]at h8
     refine aA ?_;simp;refine aC ?_;simp;refine⟨λh9=>?_,λh9=>?_⟩
     ·refine aA ?_;simp;refine aF ?_;have e:lvlN x.kind=3:=by rw[h9];rfl
      simp[e]
     ·refine aE ?_;simp;refine aA ?_;simp;refine aF ?_;have e:lvlN x.kind=4:=by unfold lvlN;rw[if_neg (by omega)]
      simp[e]
theorem CX(x:Nd)(least:Int)(hx:Ok Tryz.prog 175 [x.d] ⟨.d (.str (exprT x)),true⟩)(hl:(exprT x).length<=10000000000):Ok Tryz.prog 205 [x.d,aG least] ⟨.d (.str (paren (decide (lvlN x.kind<least)) (exprT x))),true⟩:=by
 refine aZ Tryz.func205 rfl Tryz.ntmps205 Tryz.results205 λw0 X hp=>?_;refine aA ?_;simp;refine aD ?_;refine aD ?_;have hv:=PP x;refine eF.ro hT hW (λ|6=>some<| .plain ⟨.d (aG (lvlN x.kind)),true⟩|_=>none) ?_;simp;refine⟨by simpa using hv,?_⟩;refine aC ?_;simp;refine⟨λh1=>?_,λh1=>?_⟩
 ·refine aX hT hW (λ|10=>some<| .plain ⟨.d (.str (exprT x)),true⟩|_=>none) ?_;simp;refine⟨by simpa using hx,?_⟩;refine aF ?_;simp[paren];intro h;omega
 ·refine aE ?_;simp;refine aX hT hW (λ|12=>some<| .plain ⟨.d (.str (exprT x)),true⟩|_=>none) ?_;simp;refine⟨⟨⟨by simpa using hx,by omega⟩,by omega⟩,?_⟩;refine aF ?_;simp[paren];intro h;omega
theorem NG{x:Int}(h0:0<=x)(h:x<256):IntKind.u8.wrap x=x:=by
 unfold IntKind.wrap;simp[IntKind.bits,IntKind.signed];omega
theorem qX(m:Nat):itoaS (m:Int)=decS m:=by unfold itoaS;rw[if_neg (by omega)];rfl
theorem IL{m:Nat}(h:0<m):itoaS (-(m:Int))=45::decS m:=by unfold itoaS;rw[if_pos (by omega),Int.natAbs_neg];rfl
theorem Fe{n:Nat}(h:n<1000)(h1:10<=n):decS n=decS (n / 10)++decS (n%10):=by
 have h2:n%10<10:=Nat.mod_lt _ (by decide);unfold decS;rw[if_neg (by omega),if_pos h2];by_cases q:n<100
 ·rw[if_pos q,if_pos (by omega)];rfl
 ·rw[if_neg q,if_neg (by omega),if_pos (by omega),Nat.div_div_eq_div_mul];rfl
theorem NH{n:Nat}(h:n<10):decS n=[UInt8.ofNat (48+n)]:=by unfold decS;rw[if_pos h]
theorem wM(n:Int)(h1: -999<=n)(h2:n<=999)(ih:∀m:Int,0<=m->m<=999->(n<0\/m<n)->Ok Tryz.prog 91 [aG m] ⟨.d (.str (itoaS m)),true⟩):Ok Tryz.prog 91 [aG n] ⟨.d (.str (itoaS n)),true⟩:=by
 refine aZ Tryz.func91 rfl Tryz.ntmps91 Tryz.results91 λw0 X hp=>?_;refine aA ?_;simp;refine aD ?_;refine aA ?_;simp;refine aC ?_;simp;refine⟨λh1=>?_,λh1=>?_⟩
 ·refine aD ?_;obtain⟨m,hm⟩:∃m:Nat,n= -(m:Int):=⟨n.natAbs,by omega⟩;obtain⟨a,ha⟩:∃a,a=m / 10:=⟨_,rfl⟩;obtain⟨b,hb⟩:∃b,b=m%10:=⟨_,rfl⟩;have e1:n.tdiv 10= -(a:Int):=by subst hm ha;rw[Int.neg_tdiv];rfl
  have e2:n.tmod 10= -(b:Int):=by subst hm hb;rw[Int.neg_tmod];rfl
  have c1:=ih (a:Int) (by omega) (by omega) (by omega);have c2:=ih (b:Int) (by omega) (by omega) (by omega);have l1:=bV (a:Int);have l2:=bV (b:Int);have z1:0- -(a:Int)=(a:Int):=by omega
  have z2:0- -(b:Int)=(b:Int):=by omega
  refine eF.ro hT hW (λ|8=>some<| .plain ⟨.d (.str (itoaS (a:Int))),true⟩|13=>some<| .plain ⟨.d (.str (itoaS (b:Int))),true⟩|_=>none) ?_;simp[e1,e2];refine⟨by(repeat' with_reducible apply And.intro)<;>first|omega|exact c1|exact c2|(simp only[List.length_cons];omega),?_⟩;refine aF ?_;simp;subst hm ha hb;rw[IL (by omega),qX,qX,Fe (n:=m) (by omega) (by omega)]
 ·refine aE ?_;simp;refine aD ?_;refine aA ?_;simp;refine aC ?_;simp;refine⟨λh3=>?_,λh3=>?_⟩
  ·refine aD ?_;obtain⟨m,hm⟩:∃m:Nat,n= -(m:Int):=⟨n.natAbs,by omega⟩;have c1:=ih (m:Int) (by omega) (by omega) (by omega);have l1:=bV (m:Int);have z1:0-n=(m:Int):=by omega
   refine eF.ro hT hW (λ|19=>some<| .plain ⟨.d (.str (itoaS (m:Int))),true⟩|_=>none) ?_;simp[z1];refine⟨by(repeat' with_reducible apply And.intro)<;>first|omega|exact c1,?_⟩;refine aF ?_;simp;subst hm;rw[IL (by omega),qX]
  ·refine aE ?_;simp;refine aD ?_;refine aA ?_;simp;refine aC ?_;simp;refine⟨λh5=>?_,λh5=>?_⟩
   ·refine aD ?_;obtain⟨m,hm⟩:∃m:Nat,n=(m:Int):=⟨n.natAbs,by omega⟩;have w1:IntKind.u8.wrap (48+n)=48+n:=NG (by omega) (by omega);refine aJ ?_;simp[w1];refine⟨by(repeat' with_reducible apply And.intro)<;>first|omega|decide,?_⟩;refine aF ?_;simp;subst hm;rw[qX,NH (by omega)];rfl
   ·refine aE ?_;simp;refine aD ?_;obtain⟨m,hm⟩:∃m:Nat,n=(m:Int):=⟨n.natAbs,by omega⟩;obtain⟨a,ha⟩:∃a,a=m / 10:=⟨_,rfl⟩;obtain⟨b,hb⟩:∃b,b=m%10:=⟨_,rfl⟩;have e1:n.tdiv 10=(a:Int):=by subst hm ha;rfl
    have e2:n.tmod 10=(b:Int):=by subst hm hb;rfl
    have c1:=ih (a:Int) (by omega) (by omega) (by omega);have l1:=bV (a:Int);have w1:IntKind.u8.wrap (48+(b:Int))=48+(b:Int):=NG (by omega) (by omega);refine eF.rd [[35],[35],[35],[30],[30],[30],[30],[30],[30]] [[],[],[30],[],[],[],[],[35]] (λ|30=>some<| .plain ⟨.d (.str (itoaS (a:Int))),true⟩|_=>none) ?_;simp[e1,e2,w1];refine⟨by(repeat' with_reducible apply And.intro)<;>first|omega|exact c1|decide,?_⟩;refine aF ?_;simp;subst hm ha hb;rw[qX,qX,Fe (n:=m) (by omega) (by omega),NH (n:=m%10) (by omega)];rfl
theorem iL(n:Int)(h1: -999<=n)(h2:n<=999):Ok Tryz.prog 91 [aG n] ⟨.d (.str (itoaS n)),true⟩:=by
 have pos:∀k:Nat,k<=999->Ok Tryz.prog 91 [aG (k:Int)] ⟨.d (.str (itoaS (k:Int))),true⟩:=λk=>by
  induction k using Nat.strongRecOn with
  |ind k ih=>
   intro hk;refine wM _ (by omega) (by omega) λm h0 _ hm=>?_;obtain⟨j,rfl⟩:=Int.eq_ofNat_of_zero_le h0;exact ih j (by omega) (by omega)
 refine wM n h1 h2 λm h0 hm _=>?_;obtain⟨j,rfl⟩:=Int.eq_ofNat_of_zero_le h0;exact pos j (by omega)
theorem Ff{x a b:Nd}(h:exprT x=paren (decide (lvlN a.kind<(if levelAt x.kind=1 then 2 else levelAt x.kind))) (exprT a)++32::(signAt x.kind++32::paren (decide (lvlN b.kind<levelAt x.kind+1)) (exprT b))){l m:Int}{s:aM}
 (hl:(if levelAt x.kind=1 then 2 else levelAt x.kind)=l)(hm:levelAt x.kind+1=m)(hs:signAt x.kind=s):exprT x=paren (decide (lvlN a.kind<l)) (exprT a)++32::(s++32::paren (decide (lvlN b.kind<m)) (exprT b)):=by
 rw[h,hl,hm,hs]
theorem LI(x:Nd)(hr:rightN x=true)(he:isExprK x.kind=true)(hw:weighN x<=1000000000)(ih:∀y∈x.kids,rightN y=true->isExprK y.kind=true->weighN y<=1000000000->Ok Tryz.prog 175 [y.d] ⟨.d (.str (exprT y)),true⟩):Ok Tryz.prog 175 [x.d] ⟨.d (.str (exprT x)),true⟩:=by
 refine aZ Tryz.func175 rfl Tryz.ntmps175 Tryz.results175 λw0 X hp=>?_;obtain⟨f0,f32,f33,f36,f34,f26⟩:=CL hr he;have hwx:=weighN_eq x;refine aA ?_;simp;refine aD ?_;refine aA ?_;simp;refine aH ?_;refine aA ?_;simp;refine aC ?_;simp;refine⟨λh2=>?_,λh2=>?_⟩
 ·refine aD ?_;obtain⟨q1,q2,q3⟩:=f32 h2;have hi:=iL x.n (by omega) q3;refine eF.ro hT hW (λ|11=>some<| .plain ⟨.d (.str (itoaS x.n)),true⟩|_=>none) ?_;simp;refine⟨hi,?_⟩;refine aF ?_;simp[q1]
 ·refine aA ?_;simp;refine aC ?_;simp;refine⟨λh4=>?_,λh4=>?_⟩
  ·refine aA ?_;simp;refine⟨by omega,?_⟩;refine aF ?_;simp[f33 h4]
  ·refine aP (ι:=BC) (λ⟨b⟩=>aO [(1,.bx 1 0),(6,.d (aG (x.kind))),(17,.d (.bool b))]) (λ⟨b⟩=>aI [(1,.box false [.d (aG x.kind),.d (.str x.text),.d (aG x.n),.d (ndsD x.kids)])]) (λ⟨b⟩=>b=true↔(x.kind=34\/x.kind=35)) ?_ λ⟨b⟩ hc8=>?_
   ·refine aA ?_;simp;refine aC ?_;simp;refine⟨λh6=>?_,λh6=>?_⟩
    ·refine aE ?_;simp;refine UV.mk ⟨decide (x.kind=34)⟩ (aB hp [1,6,17] [(1,1)]) ?_;simp[h6]
    ·refine aJ ?_;simp;refine UV.mk ⟨decide (x.kind=35)⟩ (aB hp [1,6,17] [(1,1)]) ?_;simp only[decide_eq_true_eq];omega
   ·refine aC ?_;simp;refine⟨λh8=>?_,λh8=>?_⟩
    ·have q8:=hc8.1 h8;refine aA ?_;simp;refine aF ?_;simp[f34 q8]
    ·have q8:¬(x.kind=34\/x.kind=35):=λq=>by simp[hc8.2 q]at h8
     refine aA ?_;simp;refine aC ?_;simp;refine⟨λh9=>?_,λh9=>?_⟩
     ·refine aA ?_;simp;refine aF ?_;simp[f36 h9,sKind]
     ·refine aE ?_;simp;refine aD ?_;have hk31:x.kind<=31:=by omega
      obtain⟨a,b',hks,ra,ea,rb,eb,hTx⟩:=f26 hk31;rw[hks]at hwx ih;simp only[weighL]at hwx;have la:=cU a ra ea;have lb:=cU b' rb eb;have pa:=λc=>nW c (exprT a);have pb:=λc=>nW c (exprT b');have ka:=λl=>CX a l (ih a (by simp) ra ea (by omega)) (by omega);have kb:=λl=>CX b' l (ih b' (by simp) rb eb (by omega)) (by omega);refine aJ ?_;simp[hks];refine aA ?_;simp[hks];refine aD ?_;refine aA ?_;simp;refine aH ?_;refine aA ?_;simp;refine aC ?_;simp;refine⟨λh14=>?_,λh14=>?_⟩
      ·refine aD ?_;have pa15:=pa (decide (lvlN a.kind<2));have pb15:=pb (decide (lvlN b'.kind<2));have ka15:=ka 2;have kb15:=kb 2;have e15:=Ff hTx (l:=2) (m:=2) (s:=[60]) (by rw[h14];rfl) (by rw[h14];rfl) (by rw[h14];rfl);refine eF.rd [[],[],[40],[37]] [[],[37],[],[],[40]] (λ|37=>some<| .plain ⟨.d (.str (paren (decide (lvlN a.kind<2)) (exprT a))),true⟩|40=>some<| .plain ⟨.d (.str (paren (decide (lvlN b'.kind<2)) (exprT b'))),true⟩|_=>none) ?_;simp;refine⟨by(repeat' with_reducible apply And.intro)<;>first|omega|(simpa using ka15)|(simpa using kb15),?_⟩;refine aF ?_;simp[e15]
      ·refine aA ?_;simp;refine aC ?_;simp;refine⟨λh16=>?_,λh16=>?_⟩
       ·refine aD ?_;have pa17:=pa (decide (lvlN a.kind<2));have pb17:=pb (decide (lvlN b'.kind<2));have ka17:=ka 2;have kb17:=kb 2;have e17:=Ff hTx (l:=2) (m:=2) (s:=[60,61]) (by rw[h16];rfl) (by rw[h16];rfl) (by rw[h16];rfl);refine eF.rd [[],[],[48],[45]] [[],[45],[],[],[48]] (λ|45=>some<| .plain ⟨.d (.str (paren (decide (lvlN a.kind<2)) (exprT a))),true⟩|48=>some<| .plain ⟨.d (.str (paren (decide (lvlN b'.kind<2)) (exprT b'))),true⟩|_=>none) ?_;simp;refine⟨by(repeat' with_reducible apply And.intro)<;>first|omega|(simpa using ka17)|(simpa using kb17),?_⟩;refine aF ?_;simp[e17]
       ·refine aA ?_;simp;refine aC ?_;simp;refine⟨λh18=>?_,λh18=>?_⟩
        ·refine aD ?_;have pa19:=pa (decide (lvlN a.kind<2));have pb19:=pb (decide (lvlN b'.kind<2));have ka19:=ka 2;have kb19:=kb 2;have e19:=Ff hTx (l:=2) (m:=2) (s:=[61,61]) (by rw[h18];rfl) (by rw[h18];rfl) (by rw[h18];rfl);refine eF.rd [[],[],[56],[53]] [[],[53],[],[],[56]] (λ|53=>some<| .plain ⟨.d (.str (paren (decide (lvlN a.kind<2)) (exprT a))),true⟩|56=>some<| .plain ⟨.d (.str (paren (decide (lvlN b'.kind<2)) (exprT b'))),true⟩|_=>none) ?_;simp;refine⟨by(repeat' with_reducible apply And.intro)<;>first|omega|(simpa using ka19)|(simpa using kb19),?_⟩;refine aF ?_;simp[e19]
        ·refine aA ?_;simp;refine aC ?_;simp;refine⟨λh20=>?_,λh20=>?_⟩
         ·refine aD ?_;have pa21:=pa (decide (lvlN a.kind<2));have pb21:=pb (decide (lvlN b'.kind<3));have ka21:=ka 2;have kb21:=kb 3;have e21:=Ff hTx (l:=2) (m:=3) (s:=[43]) (by rw[h20];rfl) (by rw[h20];rfl) (by rw[h20];rfl);refine eF.rd [[],[],[64],[61]] [[],[61],[],[],[64]] (λ|61=>some<| .plain ⟨.d (.str (paren (decide (lvlN a.kind<2)) (exprT a))),true⟩|64=>some<| .plain ⟨.d (.str (paren (decide (lvlN b'.kind<3)) (exprT b'))),true⟩|_=>none) ?_;simp;refine⟨by(repeat' with_reducible apply And.intro)<;>first|omega|(simpa using ka21)|(simpa using kb21),?_⟩;refine aF ?_;simp[e21]
         ·refine aA ?_;simp;refine aC ?_;simp;refine⟨λh22=>?_,λh22=>?_⟩
          ·refine aD ?_;have pa23:=pa (decide (lvlN a.kind<2));have pb23:=pb (decide (lvlN b'.kind<3));have ka23:=ka 2;have kb23:=kb 3;have e23:=Ff hTx (l:=2) (m:=3) (s:=[45]) (by rw[h22];rfl) (by rw[h22];rfl) (by rw[h22];rfl);refine eF.rd [[],[],[72],[69]] [[],[69],[],[],[72]] (λ|69=>some<| .plain ⟨.d (.str (paren (decide (lvlN a.kind<2)) (exprT a))),true⟩|72=>some<| .plain ⟨.d (.str (paren (decide (lvlN b'.kind<3)) (exprT b'))),true⟩|_=>none) ?_;simp;refine⟨by(repeat' with_reducible apply And.intro)<;>first|omega|(simpa using ka23)|(simpa using kb23),?_⟩;refine aF ?_;simp[e23]
          ·refine aE ?_;simp;refine aD ?_;have pa24:=pa (decide (lvlN a.kind<3));have pb24:=pb (decide (lvlN b'.kind<4));have ka24:=ka 3;have kb24:=kb 4;have e24:=Ff hTx (l:=3) (m:=4) (s:=[42]) (by rw[(show x.kind=31 by omega)];rfl) (by rw[(show x.kind=31 by omega)];rfl) (by rw[(show x.kind=31 by omega)];rfl);refine eF.rd [[],[],[78],[75]] [[],[75],[],[],[78]] (λ|75=>some<| .plain ⟨.d (.str (paren (decide (lvlN a.kind<3)) (exprT a))),true⟩|78=>some<| .plain ⟨.d (.str (paren (decide (lvlN b'.kind<4)) (exprT b'))),true⟩|_=>none) ?_;simp;refine⟨by(repeat' with_reducible apply And.intro)<;>first|omega|(simpa using ka24)|(simpa using kb24),?_⟩;refine aF ?_;simp[e24]
theorem oS(x:Nd):rightN x=true->isExprK x.kind=true->weighN x<=1000000000->Ok Tryz.prog 175 [x.d] ⟨.d (.str (exprT x)),true⟩:=
 lX (p:=λx=>rightN x=true->isExprK x.kind=true->weighN x<=1000000000->Ok Tryz.prog 175 [x.d] ⟨.d (.str (exprT x)),true⟩) (λ_ _ _ _ ih hr he hw=>LI _ hr he hw ih) x
end
section
attribute[local simp] jO.cond Nd.d_eq nd_t nd_dr nd_td ndsD
theorem NI{x:Nd}(h:Lp x.kind x.text x.n x.kids)(hk:x.kind=15\/x.kind=22\/x.kind=16\/x.kind=23\/x.kind=24):∃e,x.kids=[e]/\rightN e=true/\isExprK e.kind=true/\x.n=0:=by
 obtain⟨_,_,_,h4⟩:=vS h;have key:∀e,x.kids=[e]->x.n=0->∃e,x.kids=[e]/\rightN e=true/\isExprK e.kind=true/\x.n=0:=λe he hn=>⟨e,he,(h4 e (by rw[he];simp)).1,(h4 e (by rw[he];simp)).2,hn⟩;rcases h with⟨h1,h2,h3,h4⟩|⟨h1,h2,h3,e,h4,h5,h6⟩|⟨h1,h2,h3,u,h4,h5⟩|⟨h1,h2,h3,h4,h5⟩|⟨h1,h2,h3,h4⟩|⟨h1,h2,h3,h4⟩|⟨h1,h2,h3,e,h4,h5,h6⟩
 ·omega
 ·exact key _ h4 h3
 ·exact key _ h4 h3
 ·omega
 ·omega
 ·omega
 ·exact key _ h4 h3
theorem ST{x:Nd}(h:Lp x.kind x.text x.n x.kids)(hk:x.kind=13\/x.kind=14\/x.kind=17\/x.kind=18):x.kids=[]/\x.n=0:=by
 rcases h with⟨h1,h2,h3,h4⟩|⟨h1,h2,h3,e,h4,h5,h6⟩|⟨h1,h2,h3,u,h4,h5⟩|⟨h1,h2,h3,h4,h5⟩|⟨h1,h2,h3,h4⟩|⟨h1,h2,h3,h4⟩|⟨h1,h2,h3,e,h4,h5,h6⟩<;>first|exact⟨h4,h3⟩|omega
theorem IM{x:Nd}(h:Lp x.kind x.text x.n x.kids)(hk:x.kind=19\/x.kind=21\/x.kind=25):x.kids=[]/\0<x.n:=by
 rcases h with⟨h1,h2,h3,h4⟩|⟨h1,h2,h3,e,h4,h5,h6⟩|⟨h1,h2,h3,u,h4,h5⟩|⟨h1,h2,h3,h4,h5⟩|⟨h1,h2,h3,h4⟩|⟨h1,h2,h3,h4⟩|⟨h1,h2,h3,e,h4,h5,h6⟩<;>first|exact⟨h5,by omega⟩|exact⟨h4,by omega⟩|omega
theorem Vi{x:Nd}(h:Lp x.kind x.text x.n x.kids)(hk:x.kind=20):x.kids=[]/\x.n=0:=by
 rcases h with⟨h1,h2,h3,h4⟩|⟨h1,h2,h3,e,h4,h5,h6⟩|⟨h1,h2,h3,u,h4,h5⟩|⟨h1,h2,h3,h4,h5⟩|⟨h1,h2,h3,h4⟩|⟨h1,h2,h3,h4⟩|⟨h1,h2,h3,e,h4,h5,h6⟩<;>first|exact⟨h4,h3⟩|omega
theorem IN{x:Nd}(hr:rightN x=true)(h:x.kind=12):x.kids.length=2:=by
 obtain⟨k,t,n,ks⟩:=x;have h:k=12:=h;subst h;obtain⟨_,_,hs,_⟩:=right_mk.1 hr;obtain⟨a,b,e,_⟩:=yE (ks:=ks) (f:=isExprK) (g:=isBlockK) hs;show ks.length=2;rw[e];rfl
theorem sE:Ok Tryz.prog 98 [] ⟨.d (.sl qD),true⟩:=by
 refine aZ Tryz.func98 rfl Tryz.ntmps98 Tryz.results98 λw0 X hp=>?_;refine aA ?_;simp;refine aA ?_;simp;refine⟨by decide,?_⟩;refine aF ?_;simp;rfl
theorem LJ(x:Nd)(hb:iI x)(hw:weighN x<=1000000000)(ih:∀y∈x.kids,Ok Tryz.prog 148 [y.d] ⟨.d (.str (stmtT y)),true⟩):Ok Tryz.prog 99 [x.d] ⟨.d (.str (blockT x)),true⟩:=by
 refine aZ Tryz.func99 rfl Tryz.ntmps99 Tryz.results99 λw0 X hp=>?_;have hlen:=(dW x).2 hb;have hwx:=kC x;have hstm:∀y∈x.kids,rightN y=true/\isStmtK y.kind=true:=by obtain⟨ks,rfl,h⟩:=hb;exact h
 refine aA ?_;simp;refine aA ?_;simp;refine aD ?_;refine aA ?_;simp;refine aH ?_;refine aR (ι:=Nat) (λi=>aO [(1,.bx 1 0),(3,.d (.str (123::32::stmtsT (x.kids.take i)))),(4,.d (aG i))]) (λi=>aI [(1,.box false [.d (aG x.kind),.d (.str x.text),.d (aG x.n),.d (ndsD x.kids)])]) (λi=>i<=x.kids.length) (λi=>x.kids.length-i) 0 (aB hp [1,3,4] [(1,1)] (by simp[stmtsT])) (Nat.zero_le _) λi hi3=>?_;refine aD ?_;refine aA ?_;simp;refine aC ?_;simp;refine⟨λh3=>?_,λh3=>?_⟩
 ·refine aE ?_;simp;refine aD ?_;refine aH ?_;have hi:i<x.kids.length:=by omega
  have hk:=ih _ (List.getElem_mem hi);have hs:=hstm _ (List.getElem_mem hi);have l1:=(dW x.kids[i]).1 hs.1 hs.2;have l2:=kR hi;have l3:=sT (l:=x.kids) (λy hy=>(dW y).1 (hstm y hy).1 (hstm y hy).2) i;have l4:=weighN_eq x;refine eF.ro hT hW (λ|18=>some<| .plain ⟨.d (.str (stmtT x.kids[i])),true⟩|_=>none) ?_;simp[hi];refine⟨⟨⟨by simpa using hk,by omega⟩,by omega⟩,?_⟩;refine aJ ?_;simp;refine⟨by omega,?_⟩;refine Nf.mk (i+1) (aB hp [1,3,4] [(1,1)] (by simp[AW hi])) ?_ ?_
  ·omega
  ·omega
 ·refine bA ?_;simp;refine aD ?_;have hi:i=x.kids.length:=by omega
  subst hi;rw[List.take_length];rw[qU]at hlen;simp only[List.length_append,List.length_cons]at hlen;refine aJ ?_;simp;refine⟨by omega,?_⟩;refine aF ?_;simp[qU]
theorem LK(x:Nd)(hr:rightN x=true)(hk:isStmtK x.kind=true)(hw:weighN x<=1000000000)(ihb:∀y∈x.kids,iI y->Ok Tryz.prog 99 [y.d] ⟨.d (.str (blockT y)),true⟩):Ok Tryz.prog 148 [x.d] ⟨.d (.str (stmtT x)),true⟩:=by
 refine aZ Tryz.func148 rfl Tryz.ntmps148 Tryz.results148 λw0 X hp=>?_;obtain⟨f0,f9,f10,f11,f13⟩:=CN hr hk;have hwx:=weighN_eq x;have hlen:=(dW x).1 hr hk;have wl:=qT x.kind;have hmem:∀(i:Nat) (hi:i<x.kids.length),weighN x.kids[i]<weighN x:=λi hi=>kR hi;refine aA ?_;simp;refine aA ?_;simp;refine aD ?_;refine aA ?_;simp;refine aH ?_;refine aA ?_;simp;refine aC ?_;simp;refine⟨λh3=>?_,λh3=>?_⟩
 ·refine aD ?_;obtain⟨h0,k0,e0⟩:=f9 h3;have w0:=hmem 0 h0;have l0:=cU _ k0.1 k0.2;have c0:=oS _ k0.1 k0.2 (by omega);refine eF.rd [[19],[19],[19],[19]] [[],[],[],[],[],[],[],[19]] (λ|19=>some<| .plain ⟨.d (.str (exprT x.kids[0])),true⟩|_=>none) ?_;simp[h0];refine⟨by(repeat' with_reducible apply And.intro)<;>first|omega|(simpa using c0),?_⟩;refine aF ?_;simp[e0,Py]
 ·refine aA ?_;simp;refine aC ?_;simp;refine⟨λh5=>?_,λh5=>?_⟩
  ·refine aD ?_;obtain⟨h0,h1,k0,k1,e0⟩:=f10 h5;have w0:=hmem 0 h0;have w1:=hmem 1 h1;have l0:=cU _ k0.1 k0.2;have l1:=cU _ k1.1 k1.2;have c0:=oS _ k0.1 k0.2 (by omega);have c1:=oS _ k1.1 k1.2 (by omega);simp at c0 c1;refine eF.rd [[],[],[],[],[32],[27],[27],[27]] [[],[],[],[27],[],[],[],[],[32]] (λ|27=>some<| .plain ⟨.d (.str (exprT x.kids[0])),true⟩|32=>some<| .plain ⟨.d (.str (exprT x.kids[1])),true⟩|_=>none) ?_;simp[h0,h1];refine⟨by(repeat' with_reducible apply And.intro)<;>first|omega|with_reducible assumption,?_⟩;refine aF ?_;simp[e0,Pz]
  ·refine aA ?_;simp;refine aC ?_;simp;refine⟨λh7=>?_,λh7=>?_⟩
   ·refine aD ?_;obtain⟨h0,h1,k0,b1,e0⟩:=f11 (.inr h7);have w7:wordAt x.kind=[119,104,105,108,101]:=by rw[h7];rfl
    have e0:stmtT x=Ny (wordAt x.kind) (exprT x.kids[0]) (blockT x.kids[1]):=by
     rcases e0 with⟨_,e0⟩|⟨h2,_,e0⟩
     ·exact e0
     ·exfalso;have:=(IN hr h7);omega
    have w0:=hmem 0 h0;have w1:=hmem 1 h1;have l0:=cU _ k0.1 k0.2;have l1:=(dW x.kids[1]).2 b1;have c0:=oS _ k0.1 k0.2 (by omega);have c1:=ihb _ (List.getElem_mem h1) b1;simp at c0 c1;refine eF.rd [[],[],[],[],[46],[46],[40],[40],[40]] [[],[],[],[40],[],[],[],[],[],[46]] (λ|40=>some<| .plain ⟨.d (.str (exprT x.kids[0])),true⟩|46=>some<| .plain ⟨.d (.str (blockT x.kids[1])),true⟩|_=>none) ?_;simp[h0,h1];refine⟨by(repeat' with_reducible apply And.intro)<;>first|omega|with_reducible assumption,?_⟩;refine aF ?_;simp[e0,Ny,w7]
   ·refine aA ?_;simp;refine aC ?_;simp;refine⟨λh9=>?_,λh9=>?_⟩
    ·refine aD ?_;obtain⟨h0,h1,k0,b1,e0⟩:=f11 (.inl h9);have w9:wordAt x.kind=[105,102]:=by rw[h9];rfl
     have w0:=hmem 0 h0;have w1:=hmem 1 h1;have l0:=cU _ k0.1 k0.2;have l1:=(dW x.kids[1]).2 b1;have c0:=oS _ k0.1 k0.2 (by omega);have c1:=ihb _ (List.getElem_mem h1) b1;simp at c0 c1;refine eF.rd [[],[],[],[],[59],[59],[53],[53],[53]] [[],[],[],[53],[],[],[],[],[],[59]] (λ|53=>some<| .plain ⟨.d (.str (exprT x.kids[0])),true⟩|59=>some<| .plain ⟨.d (.str (blockT x.kids[1])),true⟩|_=>none) ?_;simp[h0,h1];refine⟨by(repeat' with_reducible apply And.intro)<;>first|omega|with_reducible assumption,?_⟩;refine aP (ι:=Unit) (λi=>aO [(1,.bx 1 0),(4,.d (.str (stmtT x)))]) (λi=>aI [(1,.box false [.d (aG x.kind),.d (.str x.text),.d (aG x.n),.d (ndsD x.kids)])]) (λi=>True) ?_ λi hc13=>?_
     ·refine aA ?_;simp;refine aC ?_;simp;refine⟨λh11=>?_,λh11=>?_⟩
      ·have h2':2<x.kids.length:=(by omega);rcases e0 with⟨e0,_⟩|⟨_,b2,e0⟩
       ·omega
       have w2:=hmem 2 h2';have l2:=(dW x.kids[2]).2 b2;have c2:=ihb _ (List.getElem_mem h2') b2;refine eF.ro hT hW (λ|69=>some<| .plain ⟨.d (.str (blockT x.kids[2])),true⟩|_=>none) ?_;simp[h2'];refine⟨by(repeat' with_reducible apply And.intro)<;>first|omega|(simpa using c2),?_⟩;exact(aB hp [1,4] [(1,1)] (by simp[e0,Ny,EW,sElse,w9]))
      ·refine aE ?_;simp;exact(aB hp [1,4] [(1,1)] (by simp[(e0.resolve_right (λ⟨h2,_⟩=>by omega)).2,Ny,w9]))
     ·refine aA ?_;simp;refine aF ?_;simp
    ·refine aE ?_;simp;refine aD ?_;have hcm:=f13 (by omega);obtain⟨g1,g2,g3,g4⟩:=vS hcm;have e0:=NA (x:=x) (by omega);have ml:=GA x.kind x.text;have nl:=Ab x.n;have kl:=vU g4;have il:=bV x.n;have q1:=pQ (k:=x.kind) (by omega) (by omega);have hst:=sE;have q2:=iW;refine eF.rd [[],[72],[72]] [[72]] (λ|72=>some<| .plain ⟨.d (.sl qD),true⟩|_=>none) ?_;simp[q1];refine⟨by(repeat' with_reducible apply And.intro)<;>first|omega|exact hst,?_⟩;refine aD ?_;refine aA ?_;simp;refine aH ?_;refine aP (ι:=BC) (λ⟨b⟩=>aO [(1,.bx 1 0),(3,.d (ndsD x.kids)),(5,.d (.str (wordAt x.kind))),(78,.d (aG (x.kind))),(79,.d (.bool b))]) (λ⟨b⟩=>aI [(1,.box false [.d (aG x.kind),.d (.str x.text),.d (aG x.n),.d (ndsD x.kids)])]) (λ⟨b⟩=>b=true↔(x.kind=13\/x.kind=14\/x.kind=17\/x.kind=18)) ?_ λ⟨b⟩ hc20=>?_
     ·refine aA ?_;simp;refine aC ?_;simp;refine⟨λh16=>?_,λh16=>?_⟩
      ·refine aE ?_;simp;refine UV.mk ⟨decide (x.kind=13)⟩ (aB hp [1,3,5,78,79] [(1,1)]) ?_;simp[h16]
      ·refine aA ?_;simp;refine aC ?_;simp;refine⟨λh17=>?_,λh17=>?_⟩
       ·refine aE ?_;simp;refine UV.mk ⟨decide (x.kind=14)⟩ (aB hp [1,3,5,78,79] [(1,1)]) ?_;simp[h17]
       ·refine aA ?_;simp;refine aC ?_;simp;refine⟨λh18=>?_,λh18=>?_⟩
        ·refine aE ?_;simp;refine UV.mk ⟨decide (x.kind=17)⟩ (aB hp [1,3,5,78,79] [(1,1)]) ?_;simp[h18]
        ·refine aJ ?_;simp;refine UV.mk ⟨decide (x.kind=18)⟩ (aB hp [1,3,5,78,79] [(1,1)]) ?_;simp only[decide_eq_true_eq];omega
     ·refine aC ?_;simp;refine⟨λh20=>?_,λh20=>?_⟩
      ·have q20:=hc20.1 h20;refine aA ?_;simp;refine⟨by(repeat' with_reducible apply And.intro)<;>omega,?_⟩;refine aF ?_;have hk0:x.kids=[]/\x.n=0:=ST hcm q20;simp[e0,hk0.1,hk0.2,withN,withE,midT,show¬(x.kind=19\/x.kind=20)by omega,show¬(x.kind=21\/x.kind=25\/x.kind=24)by omega]
      ·have q20:¬(x.kind=13\/x.kind=14\/x.kind=17\/x.kind=18):=λq=>by simp[hc20.2 q]at h20
       refine aP (ι:=BC) (λ⟨b⟩=>aO [(1,.bx 1 0),(3,.d (ndsD x.kids)),(5,.d (.str (wordAt x.kind))),(78,.d (aG (x.kind))),(90,.d (.bool b))]) (λ⟨b⟩=>aI [(1,.box false [.d (aG x.kind),.d (.str x.text),.d (aG x.n),.d (ndsD x.kids)])]) (λ⟨b⟩=>b=true↔(x.kind=15\/x.kind=22\/x.kind=16\/x.kind=23)) ?_ λ⟨b⟩ hc25=>?_
       ·refine aA ?_;simp;refine aC ?_;simp;refine⟨λh21=>?_,λh21=>?_⟩
        ·refine aE ?_;simp;refine UV.mk ⟨decide (x.kind=15)⟩ (aB hp [1,3,5,78,90] [(1,1)]) ?_;simp[h21]
        ·refine aA ?_;simp;refine aC ?_;simp;refine⟨λh22=>?_,λh22=>?_⟩
         ·refine aE ?_;simp;refine UV.mk ⟨decide (x.kind=22)⟩ (aB hp [1,3,5,78,90] [(1,1)]) ?_;simp[h22]
         ·refine aA ?_;simp;refine aC ?_;simp;refine⟨λh23=>?_,λh23=>?_⟩
          ·refine aE ?_;simp;refine UV.mk ⟨decide (x.kind=16)⟩ (aB hp [1,3,5,78,90] [(1,1)]) ?_;simp[h23]
          ·refine aJ ?_;simp;refine UV.mk ⟨decide (x.kind=23)⟩ (aB hp [1,3,5,78,90] [(1,1)]) ?_;simp only[decide_eq_true_eq];omega
       ·refine aC ?_;simp;refine⟨λh25=>?_,λh25=>?_⟩
        ·have q25:=hc25.1 h25;refine aD ?_;have hks:∃e,x.kids=[e]/\rightN e=true/\isExprK e.kind=true/\x.n=0:=NI hcm (by omega);obtain⟨e,hks,r0,i0,n0⟩:=hks;have w0:=hmem 0 (by simp[hks]);have l0:=cU e r0 i0;have c0:=oS e r0 i0 (by simp only[hks,List.getElem_cons_zero]at w0;omega);simp only[hks,List.getElem_cons_zero]at w0;refine eF.rd [[104],[104],[104],[104],[104],[104]] [[],[],[],[],[],[],[],[],[],[104]] (λ|104=>some<| .plain ⟨.d (.str (exprT e)),true⟩|_=>none) ?_;simp[hks];refine⟨by(repeat' with_reducible apply And.intro)<;>first|omega|(simpa using c0),?_⟩;refine aF ?_;simp[e0,hks,n0,withN,withE,midT,show¬(x.kind=19\/x.kind=20)by omega,show¬(x.kind=21\/x.kind=25\/x.kind=24)by omega]
        ·have q25:¬(x.kind=15\/x.kind=22\/x.kind=16\/x.kind=23):=λq=>by simp[hc25.2 q]at h25
         refine aA ?_;simp;refine aC ?_;simp;refine⟨λh26=>?_,λh26=>?_⟩
         ·refine aD ?_;have d1:=iL x.n (by omega) (by omega);refine eF.rd [[117],[117],[117],[117],[117],[117]] [[],[],[],[],[],[],[],[],[117]] (λ|117=>some<| .plain ⟨.d (.str (itoaS x.n)),true⟩|_=>none) ?_;simp;refine⟨by(repeat' with_reducible apply And.intro)<;>first|omega|exact d1,?_⟩;refine aF ?_;have hk0:x.kids=[]/\0<x.n:=IM hcm (by omega);simp[e0,hk0.1,hk0.2,withN,withE,midT,h26]
         ·refine aA ?_;simp;refine aC ?_;simp;refine⟨λh28=>?_,λh28=>?_⟩
          ·refine aA ?_;simp;refine⟨by(repeat' with_reducible apply And.intro)<;>omega,?_⟩;refine aF ?_;have hk0:x.kids=[]/\x.n=0:=Vi hcm (by omega);simp[e0,hk0.1,hk0.2,withN,withE,midT,h28]
          ·refine aA ?_;simp;refine aC ?_;simp;refine⟨λh30=>?_,λh30=>?_⟩
           ·refine aD ?_;have hks:∃e,x.kids=[e]/\rightN e=true/\isExprK e.kind=true/\x.n=0:=NI hcm (by omega);obtain⟨e,hks,r0,i0,n0⟩:=hks;have w0:=hmem 0 (by simp[hks]);have l0:=cU e r0 i0;have c0:=oS e r0 i0 (by simp only[hks,List.getElem_cons_zero]at w0;omega);simp only[hks,List.getElem_cons_zero]at w0;refine eF.ro hT hW (λ|135=>some<| .plain ⟨.d (.str (exprT e)),true⟩|_=>none) ?_;simp[hks];refine⟨by(repeat' with_reducible apply And.intro)<;>first|omega|(simpa using c0),?_⟩;refine aF ?_;simp[e0,hks,n0,withN,withE,midT,h30]
           ·refine aE ?_;simp;refine aD ?_;have d1:=iL x.n (by omega) (by omega);refine eF.ro hT hW (λ|142=>some<| .plain ⟨.d (.str (itoaS x.n)),true⟩|_=>none) ?_;simp;refine⟨by(repeat' with_reducible apply And.intro)<;>first|omega|exact d1,?_⟩;refine aF ?_;have hk0:x.kids=[]/\0<x.n:=IM hcm (by omega);simp[e0,hk0.1,hk0.2,withN,withE,midT,show¬(x.kind=19\/x.kind=20)by omega,show(x.kind=21\/x.kind=25\/x.kind=24)by omega]
theorem Xg(x:Nd):(rightN x=true->isStmtK x.kind=true->weighN x<=1000000000->Ok Tryz.prog 148 [x.d] ⟨.d (.str (stmtT x)),true⟩)/\(iI x->weighN x<=1000000000->Ok Tryz.prog 99 [x.d] ⟨.d (.str (blockT x)),true⟩):=by
 refine lX (p:=λx=>(rightN x=true->isStmtK x.kind=true->weighN x<=1000000000->Ok Tryz.prog 148 [x.d] ⟨.d (.str (stmtT x)),true⟩)/\(iI x->weighN x<=1000000000->Ok Tryz.prog 99 [x.d] ⟨.d (.str (blockT x)),true⟩)) (λk t n ks ih=>⟨?_,?_⟩) x
 ·intro hr hk hw;have hwk:∀y∈ks,weighN y<=1000000000:=λy hy=>by have:=weigh_mem hy;rw[weighN]at hw;omega
  exact LK _ hr hk hw λy hy hb=>(ih y hy).2 hb (hwk y hy)
 ·intro hb hw;have hwk:∀y∈ks,weighN y<=1000000000:=λy hy=>by have:=weigh_mem hy;rw[weighN]at hw;omega
  obtain⟨ks',hx,hy⟩:=id hb;injection hx with i1 i2 i3 i4
  exact LJ _ hb hw λy hyk=>(ih y hyk).1 (hy y (i4▸hyk)).1 (hy y (i4▸hyk)).2 (hwk y hyk)
theorem IP(x:Nd)(hd:Ls x)(hw:weighN x<=1000000000):Ok Tryz.prog 60 [x.d] ⟨.d (.str (textT x)),true⟩:=by
 refine aZ Tryz.func60 rfl Tryz.ntmps60 Tryz.results60 λw0 X hp=>?_;obtain⟨ht,hd⟩:=hd;have hwx:=weighN_eq x;have wl:=qT x.kind;have f0:0<=x.kind/\x.kind<=6:=by rcases hd with⟨h|h,_⟩|⟨h,_⟩|⟨h,_⟩|⟨h,_⟩|⟨h|h,_⟩<;>omega
 have q1:=pQ (k:=x.kind) (by omega) (by omega);have il:=bV x.n;have hst:=sE;have q2:=iW;refine aA ?_;simp;refine aD ?_;refine eF.rd [[],[5],[5],[],[],[],[5],[5]] [[5]] (λ|5=>some<| .plain ⟨.d (.sl qD),true⟩|_=>none) ?_;simp[q1];refine⟨by(repeat' with_reducible apply And.intro)<;>first|omega|exact hst,?_⟩;refine aD ?_;refine aA ?_;simp;refine aH ?_;refine aA ?_;simp;refine aC ?_;simp;refine⟨λh3=>?_,λh3=>?_⟩
 ·refine aD ?_;have hd15: -999<=x.n/\x.n<=999:=by
   rcases hd with⟨h|h,_⟩|⟨h,_⟩|⟨_,_,h⟩|⟨h,_⟩|⟨h|h,_⟩<;>omega
  have ci:=iL x.n hd15.1 hd15.2;refine eF.ro hT hW (λ|22=>some<| .plain ⟨.d (.str (itoaS x.n)),true⟩|_=>none) ?_;simp;refine⟨by(repeat' with_reducible apply And.intro)<;>first|omega|exact ci,?_⟩;refine aF ?_;simp[textT,h3]
 ·refine aA ?_;simp;refine aC ?_;simp;refine⟨λh5=>?_,λh5=>?_⟩
  ·refine aD ?_;have hd17:0<=x.n/\x.n<=3:=by
    rcases hd with⟨h|h,_⟩|⟨h,_⟩|⟨h,_⟩|⟨_,_,h⟩|⟨h|h,_⟩<;>omega
   have ci:=iL x.n (by omega) (by omega);refine eF.ro hT hW (λ|31=>some<| .plain ⟨.d (.str (itoaS x.n)),true⟩|_=>none) ?_;simp;refine⟨by(repeat' with_reducible apply And.intro)<;>first|omega|exact ci,?_⟩;refine aF ?_;simp[textT,h5]
  ·refine aP (ι:=BC) (λ⟨b⟩=>aO [(1,.bx 1 0),(3,.d (.str (wordAt x.kind++32::x.text))),(15,.d (aG (x.kind))),(34,.d (.bool b))]) (λ⟨b⟩=>aI [(1,.box false [.d (aG x.kind),.d (.str x.text),.d (aG x.n),.d (ndsD x.kids)])]) (λ⟨b⟩=>b=true↔(x.kind=3\/x.kind=4)) ?_ λ⟨b⟩ hc9=>?_
   ·refine aA ?_;simp;refine aC ?_;simp;refine⟨λh7=>?_,λh7=>?_⟩
    ·refine aE ?_;simp;refine UV.mk ⟨decide (x.kind=3)⟩ (aB hp [1,3,15,34] [(1,1)]) ?_;simp[h7]
    ·refine aJ ?_;simp;refine UV.mk ⟨decide (x.kind=4)⟩ (aB hp [1,3,15,34] [(1,1)]) ?_;simp only[decide_eq_true_eq];omega
   ·refine aC ?_;simp;refine⟨λh9=>?_,λh9=>?_⟩
    ·have q9:=hc9.1 h9;refine aA ?_;simp;refine⟨by omega,?_⟩;refine aF ?_;simp[textT,show¬(x.kind=5\/x.kind=6)by omega,show¬x.kind=1 by omega,show¬x.kind=0 by omega,show¬x.kind=2 by omega]
    ·have q9:¬(x.kind=3\/x.kind=4):=λq=>by simp[hc9.2 q]at h9
     refine aA ?_;simp;refine aC ?_;simp;refine⟨λh10=>?_,λh10=>?_⟩
     ·refine aD ?_;have hd7:∀y∈x.kids,Nt y:=by
       rcases hd with⟨h|h,_⟩|⟨_,_,h⟩|⟨h,_⟩|⟨h,_⟩|⟨h|h,_⟩<;>first|exact h|omega
      refine aJ ?_;simp;refine⟨by omega,?_⟩;refine aD ?_;refine aA ?_;simp;refine aH ?_;refine aR (ι:=Nat) (λi=>aO [(1,.bx 1 0),(3,.d (.str (wordAt x.kind++32::(x.text++32::123::32::jS (x.kids.take i))))),(4,.d (aG i))]) (λi=>aI [(1,.box false [.d (aG x.kind),.d (.str x.text),.d (aG x.n),.d (ndsD x.kids)])]) (λi=>i<=x.kids.length) (λi=>x.kids.length-i) 0 (aB hp [1,3,4] [(1,1)] (by simp[jS])) (Nat.zero_le _) λi hi13=>?_;refine aD ?_;refine aA ?_;simp;refine aC ?_;simp;refine⟨λh13=>?_,λh13=>?_⟩
      ·refine aE ?_;simp;refine aD ?_;refine aH ?_;have hi:i<x.kids.length:=by omega
       obtain⟨t',n',hy,g1,g2,g3⟩:=hd7 _ (List.getElem_mem hi);have en:x.kids[i].n=n':=by rw[hy];rfl
       have ci:=iL x.kids[i].n (by omega) (by omega);have lt:=uD (l:=x.kids) i;have li:=bV x.kids[i].n;have wi:=kR hi;rw[weighN_eq x.kids[i]]at wi;have lo:(jS (x.kids.take i)).length<=9*weighL x.kids:=lt;refine eF.rd [[65],[65],[65],[65],[65],[65],[65],[65],[65]] [[],[],[],[],[],[],[],[],[],[],[],[],[],[],[],[65]] (λ|65=>some<| .plain ⟨.d (.str (itoaS x.kids[i].n)),true⟩|_=>none) ?_;simp[hi];refine⟨by(repeat' with_reducible apply And.intro)<;>first|omega|exact ci|(simp only[List.length_append,List.length_cons];omega),?_⟩;have:=kC x;refine aJ ?_;simp;refine⟨by omega,?_⟩;refine Nf.mk (i+1) (aB hp [1,3,4] [(1,1)] (by simp[jS,CO hi,itemT])) ?_ ?_
       ·omega
       ·omega
      ·refine bA ?_;simp;refine aD ?_;have hi:i=x.kids.length:=by omega
       subst hi;rw[List.take_length];have lt:=oP x.kids;have lo:(jS x.kids).length<=9*weighL x.kids:=lt;refine aJ ?_;simp;refine⟨by omega,?_⟩;refine aF ?_;simp[textT,h10,jS]
     ·refine aE ?_;simp;refine aD ?_;have hd5:∃b,x=.mk x.kind x.text 0 [b]/\iI b:=by
       rcases hd with⟨_,h⟩|⟨h,_⟩|⟨h,_⟩|⟨h,_⟩|⟨h|h,_⟩<;>first|exact h|omega
      obtain⟨c,hx,hb⟩:=hd5;have hks:x.kids=[c]:=by rw[hx];rfl
      rw[hks]at hwx;simp only[weighL]at hwx;have bl:=(dW c).2 hb;have kb:=(Xg c).2 hb (by omega);refine eF.ro hT hW (λ|76=>some<| .plain ⟨.d (.str (blockT c)),true⟩|_=>none) ?_;simp[hks];refine⟨by(repeat' with_reducible apply And.intro)<;>first|omega|(simpa using kb),?_⟩;refine aF ?_;simp[textT,show x.kind=5\/x.kind=6 by omega,hks]
end
end Go.Eng
