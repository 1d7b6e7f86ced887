/- Part 11 of the proof. No condition. -/
import Derived.Test.YtepoffhhiddlkaaGreatDoorMJ
import Derived.Test.YtepoffhhiddlkaaGreatDoorProg
import Derived.RangeFuncNested
import Derived.Maps.RangeRun
import Derived.Shelf.SlIter.Collect
open Go.Proofs
open Go.Proofs.Tryz
set_option linter.unusedVariables false
set_option linter.unusedSimpArgs false
set_option maxRecDepth 20000
set_option maxHeartbeats 4000000
open List renaming take_of_length_le→A0,getElem?_eq_getElem→A1,take_succ_eq_append_getElem→A2,getD_eq_getElem?_getD→A5,length_map→A6,map→A7,findIdx?_eq_some_iff_getElem→A8,take→A9,eraseIdx_eq_take_drop_succ→B0,map_append→B1,mem_map→B2,length_append→B3,findIdx?_eq_none_iff→B5,nodup_cons→B7,length_cons→B8,mem_cons_of_mem→B9,mem_cons_self→C0,getElem_of_mem→C1,map_take→C2,mem_cons→C3,length_take→C4,take_length→C5,getElem_mem→C6,mem_of_getElem?→C7,length_nil→C8,foldl_cons→C9,length_eraseIdx_of_lt→D0,pairwise_iff_getElem→D1,getElem?_eq_some_iff→D2,drop_eq_getElem_cons→D3,nodup_append→D4,map_cons→D6,getElem_map→D7,mem_filter→E0,mem_append→E1,take_append_drop→E3,length_filter_le→E4,length_singleton→E5,eraseIdx_sublist→E6,length→E7,append_toArray→F0,any_cons→F1,size_toArray→F2,push_toArray→F3,getElem?_map→F5,findIdx?_map→F6,cons_append→F7,ext_getElem→F8,mem_flatMap→F9,le_antisymm→G0,any_eq_true→G1,nil_append→G2,replicate→G4,range→G5,take_take→G6,mem_range→G7,map_drop→H0,not_lt→H1
open Nat renaming le_refl→A3,zero_le→B4,le_trans→D9,min_eq_left→E2,not_lt_zero→G3,reduceAdd→G8,reduceSub→G9
open Int renaming toNat_natCast→D5
open Option renaming getD_some→D8
open Array renaming getElem?_eq_some_iff→A4,replicate_succ→E8,replicate_zero→E9
open Bool renaming eq_false_iff→F4
open Classical renaming byContradiction→B6
namespace Go.Eng
section
attribute[local simp] aW bJ bE aR
attribute[local simp] lB.cond Nd.d_eq nd_t nd_dr nd_td ndsD aX bK
theorem Nx:∀(n:Nat) (P B C S:List Df) (a m b N:Nat),aDs P B C S a m b N->B.length+C.length<n->Jf P B C S a m b N
 |0,_,_,_,_,_,_,_,_,_,h=>aE
 |n+1,P,B,C,S,a,m,b,N,h,hn=>Qf P B C S a m b N h λe c d f g k i j l=>Nx n e c d f g k i N j aE
theorem Qg(l:List Df)(q:20<=l.length)(I:l.length<40):iP prog 152 [.ow 0 0 l.length,.d (aJ l.length),.d (.fn 83 [])] [(0,.row false 2 (l.map Df.d))] [(0,.row false 2 ((bP l).map Df.d))] (.tup []):=by
 obtain⟨A,y⟩:∃A,l.take 20=A:=⟨_,rfl⟩;obtain⟨B,G⟩:∃B,l.drop 20=B:=⟨_,rfl⟩;have b:l=A++B:=by rw[<-y,<-G,E3]
 have J:A.length=20:=by rw[<-y,C4];omega
 obtain⟨n,z⟩:∃n,l.length=n:=⟨_,rfl⟩;have x:20+B.length=n:=by rw[<-z,b,B3];omega
 have C:=GR [] A B jJ;have c:=GR (bP A) B [] (by simp[dW];omega);have v:Jf [] (bP A) (bP B) [] 0 20 n n\/B.length=0:=by
  by_cases e:B.length=0
  .exact .inr e
  .exact .inl (Nx _ _ _ _ _ _ _ _ _ ⟨by rw[dW];omega,by rw[dW];omega,oT A,oT B,rfl,by rw[dW];omega,by rw[dW];omega,rfl,aE⟩ (Nat.lt_succ_self _))
 unfold Jf at v;rw[z]at q I|-;have f:lT (bP A) (bP B)=bP l:=by rw[VD,b]
 simp[dW,J,x,show(20:Int)+(B.length:Int)=(n:Int)by omega]at C c;simp[f]at v;refine oH func152 rfl ntmps152 results152 λK X d=>?_;apply aD;simp;apply aD;simp;apply cR;refine aO (ι:=Nat×List Df) (λ⟨i,r⟩=>aQ [(0,.ow 0 0 n),(1,.d (aJ (n:Nat))),(2,.d (.fn 83 [])),(6,.d (aJ 20)),(7,.d (aJ (20*i:Nat))),(8,.d (aJ (20*i+20:Nat)))]) (λ⟨i,r⟩=>aL [(0,.row false 2 (r.map Df.d))]) (λ⟨i,r⟩=>i<=1/\(i=0->l=r)/\(i=1->bP A++B=r)) (λ⟨i,r⟩=>1-i) (0,l) (aA d [0,1,2,6,7,8] [(0,0)]) (⟨aE,λ_=>rfl,λh=>aE⟩) λ⟨i,r⟩ t=>?_;apply eG;obtain⟨D,g,p⟩:=t;apply aI;simp;apply aK;simp;refine⟨λE=>?_,λE=>?_⟩
 .have j:i=0:=aE;subst j;have a:=g rfl;subst a;apply aG;simp;apply aM;refine cP (oh 18 [(0,.row false 2 ((bP A++B).map Df.d))] (.tup [])) ?_;simp[b];refine⟨by simpa using C,?_⟩;apply aD;simp;apply aI;simp;refine QT.mk (1,bP A++B) (aA d [0,1,2,6,7,8] [(0,0)]) ?_ ?_
  .exact⟨A3 _,(λh=>by cases h),λ_=>rfl⟩
  .dsimp only;omega
 .have j:i=1:=aE;subst j;have a:=p rfl;subst a;apply bG;simp;refine cP (oh 27 [(0,.row false 2 ((bP A++bP B).map Df.d))] (.tup [])) ?_;simp;refine⟨by simpa using c,?_⟩;apply aM;refine aO (ι:=Nat×List Df) (λ⟨k,r⟩=>aQ [(0,.ow 0 0 n),(1,.d (aJ (n:Nat))),(2,.d (.fn 83 [])),(6,.d (aJ (20*k+20:Nat)))]) (λ⟨k,r⟩=>aL [(0,.row false 2 (r.map Df.d))]) (λ⟨k,r⟩=>k<=1/\(k=0->bP A++bP B=r)/\(k=1->bP l=r)) (λ⟨k,r⟩=>1-k) (0,bP A++bP B) (aA d [0,1,2,6] [(0,0)]) (⟨aE,λ_=>rfl,λh=>aE⟩) λ⟨k,r⟩ u=>?_;apply eG;obtain⟨D,g,p⟩:=u;apply aI;simp;apply aK;simp;refine⟨λF=>?_,λF=>?_⟩
  .have m:k=0:=aE;subst m;have a:=g rfl;subst a;have w:=v.resolve_right (λe=>by rw[e]at x;simp at x;omega);apply aG;simp;apply aM;apply aD;simp;apply cR;refine aO (ι:=Nat) (λc=>aQ [(0,.ow 0 0 n),(1,.d (aJ (n:Nat))),(2,.d (.fn 83 [])),(6,.d (aJ 20)),(7,.d (aJ 0)),(8,.d (aJ 40))]) (λc=>aL [(0,.row false 2 ((bP A++bP B).map Df.d))]) (λc=>True) (λc=>0) 0 (aA d [0,1,2,6,7,8] [(0,0)]) (trivial) λc H=>?_;apply aF;apply aP;simp[(show¬(40<=(n:Int))by omega)];apply bG;simp;apply dA;simp;apply aP;simp[(show(20:Int)<n by omega)];refine aU (oh 60 [(0,.row false 2 ((bP l).map Df.d))] (.tup [])) ?_;simp;refine⟨by simpa using w,?_⟩;apply aI;simp;refine QT.mk (1,bP l) (aA d [0,1,2,6] [(0,0)]) ?_ ?_
   .exact⟨A3 _,(λh=>by cases h),λ_=>rfl⟩
   .dsimp only;omega
  .have a:bP l=r:=by
    by_cases m:k=1
    .exact p m
    .have o:k=0:=aE;subst o;have s:B.length=0:=aE;rw[<-g rfl,<-f,List.eq_nil_of_length_eq_zero s];simp[bP,GV]
   subst a;apply bG;simp;exact aA d [] [(0,0)]
theorem Qh(l:List Df)(e:l.length<20):iP prog 152 [.ow 0 0 l.length,.d (aJ l.length),.d (.fn 83 [])] [(0,.row false 2 (l.map Df.d))] [(0,.row false 2 ((bP l).map Df.d))] (.tup []):=by
 refine oH func152 rfl ntmps152 results152 λf X a=>?_;apply aD;simp;apply aD;simp;apply cR;refine aO (ι:=Nat) (λi=>aQ [(0,.ow 0 0 l.length),(1,.d (aJ (l.length:Nat))),(2,.d (.fn 83 [])),(6,.d (aJ 20)),(7,.d (aJ 0)),(8,.d (aJ 20))]) (λi=>aL [(0,.row false 2 (l.map Df.d))]) (λi=>True) (λi=>0) 0 (aA a [0,1,2,6,7,8] [(0,0)]) (trivial) λi b=>?_;apply aF;apply aP;simp[(show¬(20<=(l.length:Int))by omega)];apply bG;simp;apply aF;have d:=GR [] l [] jJ;refine aU (oh 27 [(0,.row false 2 ((bP l).map Df.d))] (.tup [])) ?_;simp;refine⟨by simpa using d,?_⟩;apply aM;refine aO (ι:=Nat) (λi=>aQ [(0,.ow 0 0 l.length),(1,.d (aJ (l.length:Nat))),(2,.d (.fn 83 [])),(6,.d (aJ 20)),(7,.d (aJ 0)),(8,.d (aJ 20))]) (λi=>aL [(0,.row false 2 ((bP l).map Df.d))]) (λi=>True) (λi=>0) 0 (aA a [0,1,2,6,7,8] [(0,0)]) (trivial) λi c=>?_;apply aF;apply aP;simp[(show¬(20<(l.length:Int))by omega)];apply bG;simp;exact aA a [] [(0,0)]
theorem VG(l:List Df)(a:l.length<40):iP prog 152 [.ow 0 0 l.length,.d (aJ l.length),.d (.fn 83 [])] [(0,.row false 2 (l.map Df.d))] [(0,.row false 2 ((bP l).map Df.d))] (.tup []):=by
 by_cases e:l.length<20
 .exact Qh l e
 .exact Qg l aE a
theorem Hw(l:List Df)(a:l.length<40):iP prog 82 [.ow 0 0 l.length,.d (.fn 83 [])] [(0,.row false 2 (l.map Df.d))] [(0,.row false 2 ((bP l).map Df.d))] (.tup []):=by
 refine oH func82 rfl ntmps82 results82 λd X b=>?_;have c:=VG l a;refine aU (oh 8 [(0,.row false 2 ((bP l).map Df.d))] (.tup [])) ?_;simp;refine⟨by simpa using c,?_⟩;exact aA b [] [(0,0)]
theorem Qi(l:List Df)(d:l.length<=1000000000000):Ok prog 81 [gG l] ⟨.own 2 (l.map Df.d),true⟩:=by
 refine bL func81 rfl ntmps81 results81 λf X e=>?_;apply aD;simp;apply eG;refine FN hT hW 4 (decide (l=[])) (λ_=>none) (λ_=>⟨rfl,λ_ h=>h⟩) jQ λc a=>?_;simp;apply aK;simp;refine⟨λb=>?_,λb=>?_⟩
 .apply aD;simp;apply aH;have:=a b;simp at this;simp[this]
 .apply aG;simp;apply aD;simp;refine⟨aE,?_⟩;apply aH;simp
theorem CB(l:List Df)(b:l.length<40):Ok prog 24 [gG l] ⟨.own 2 ((bP l).map Df.d),true⟩:=by
 refine bL func24 rfl ntmps24 results24 λf X e=>?_;apply aD;simp;apply aF;have c:=Qi l aE;refine aU (og 5 (.plain ⟨.own 2 (l.map Df.d),true⟩)) ?_;simp;refine⟨by simpa using c,?_⟩;apply aF;have d:=Hw l b;refine aU (og 7 (.gen ⟨[(5,0)],[],[],[(0,.row false 2 ((bP l).map Df.d))],.tup []⟩)) ?_;simp;refine⟨by simpa using d,?_⟩;apply aD;simp;apply aH;have a:A9 l.length (A7 Df.d (bP l))=A7 Df.d (bP l):=A0 (by rw[A6,dW];exact A3 _);simp[dW,a]
theorem ZO(l:List Df):Ok prog 34 [gG l] ⟨.tup [.d (aJ (nS l).2.1),.d (aJ (nS l).2.2)],true⟩:=by
 refine Ok.two func34 jQ (c:=_) rfl ntmps34 bC results34 rfl λd X b=>?_;apply aD;simp;apply aF;have a:=GQ l;refine aU (og 9 (.plain ⟨.tup [.d (Bn (nS l).1),.d (aJ (nS l).2.1),.d (aJ (nS l).2.2)],false⟩)) ?_;simp[bM];refine⟨⟨by simpa using a,by simp[Bn]⟩,?_⟩;simp[Bn];apply aD;simp;apply aH;simp
def jA(ts:List Nd):List bA:=(ts.filter λt=>decide (t.kind=6)).map Nd.text
theorem Ny{a:List Nd}{i:Nat}(h:i<a.length):jA (a.take (i+1))=if a[i].kind=6 then jA (a.take i)++[a[i].text]else jA (a.take i):=by
 unfold jA;rw[A2 h,List.filter_append,B1];by_cases e:a[i].kind=6<;>simp[e]
theorem GW(a:List Nd):(jA a).length<=a.length:=by unfold jA;rw[A6];exact E4 _ _
def KM(l:List Df):List bA:=if(nS l).2.2≠0 then []else eE (jA (nS l).1)
theorem KN(l:List Df):(nS l).1=(dR l).1:=by
 unfold nS;split
 .rfl
 .split
  .rfl
  .split<;>rfl
theorem ZP(l:List Df):Ok prog 36 [gG l] ⟨.own 1 ((KM l).map .str),true⟩:=by
 refine bL func36 rfl ntmps36 results36 λu X j=>?_;obtain⟨a,d⟩:∃a,(nS l).1=a:=⟨_,rfl⟩;have n:a.length<=24:=by rw[<-d,KN];exact(wK l).2.1
 have b:KM l=if(nS l).2.2≠0 then []else eE (jA a):=by rw[<-d];rfl
 apply aD;simp;apply aF;have p:=GQ l;rw[d]at p;refine aU (og 11 (.plain ⟨.tup [.d (Bn a),.d (aJ (nS l).2.1),.d (aJ (nS l).2.2)],false⟩)) ?_;simp[bM];refine⟨⟨by simpa using p,by simp[Bn]⟩,?_⟩;simp[Bn];apply aF;apply aP;simp;refine⟨λg=>?_,λg=>?_⟩
 .rw[if_pos g]at b;apply aD;simp;apply aH;simp[b]
 .rw[if_neg (by simpa using g)]at b;apply aG;simp;apply aD;simp;apply dA;simp;apply aM;refine aO (ι:=Nat) (λi=>aQ [(6,.ow 6 0 (jA (a.take i)).length),(18,.d (ndsD a)),(19,.d (aJ (a.length:Nat))),(20,.d (aJ (i:Nat)))]) (λi=>aL [(6,.row false 1 ((jA (a.take i)).map .str))]) (λi=>i<=a.length) (λi=>a.length-i) 0 (aA j [6,18,19,20] [(6,6)] (by simp[jA]) (by simp[jA])) (B4 _) λi r=>?_;apply aD;simp;apply aF;apply aK;simp;refine⟨λq=>?_,λq=>?_⟩
  .apply aG;simp;apply cR;apply aF;have m:i<a.length:=aE;obtain⟨t,o⟩:∃t,a[i]=t:=⟨_,rfl⟩;have c:=Ny m;have f:=GW (a.take i);rw[C4]at f;rw[o]at c;apply aI;simp[m,o];apply aP;simp;refine⟨λh=>?_,λh=>?_⟩
   .simp only[if_pos h]at c;apply aI;simp;refine⟨aE,?_⟩;apply aI;simp;refine⟨aE,?_⟩;refine QT.mk (i+1) (aA j [6,18,19,20] [(31,6)] (by simp[c]) (by simp[c])) ?_ ?_
    .omega
    .omega
   .simp only[if_neg h]at c;apply aG;simp;apply aI;simp;refine⟨aE,?_⟩;refine QT.mk (i+1) (aA j [6,18,19,20] [(6,6)] (by simp[c]) (by simp[c])) ?_ ?_
    .omega
    .omega
  .apply bG;simp;apply aF;have e:i=a.length:=aE;subst e;rw[C5];have f:=GW a;have s:=Bu (jA a) aE;refine aU (og 34 (.gen ⟨[(6,0)],[],[],[(0,.row false 1 ((eE (jA a)).map .str))],.tup []⟩)) ?_;simp;refine⟨by simpa using s,?_⟩;apply aD;simp;apply aH;have k:A9 (jA a).length (A7 DV.str (eE (jA a)))=A7 DV.str (eE (jA a)):=A0 (by rw[A6,kW];exact A3 _);simp[b,kW,k]
def gW(d:Df):bA:=if(parseS d.text).2.2≠0 then d.text else printS (parseS d.text).1
theorem Bw(d:Df):Ok prog 89 [d.d] ⟨.d (.str (gW d)),true⟩:=by
 refine bL func89 rfl ntmps89 results89 λj X i=>?_;obtain⟨P,f⟩:∃P,parseS d.text=P:=⟨_,rfl⟩;have e:=Cz d.text;have a:=pT d.text;have b:gW d=if P.2.2≠0 then d.text else printS P.1:=by unfold gW;rw[f]
 rw[f]at e a;obtain⟨x,g⟩:∃x,P.1=x:=⟨_,rfl⟩;rw[g]at e a b;apply aD;simp;refine cP (og 9 (.plain ⟨.tup [.d x.d,.d (aJ P.2.1),.d (aJ P.2.2)],false⟩)) ?_;simp[bM];refine⟨by simpa using e,?_⟩;apply aF;apply aP;simp;refine⟨λc=>?_,λc=>?_⟩
 .rw[if_pos c]at b;apply aD;simp;apply aH;simp[b]
 .rw[if_neg (by simpa using c)]at b;apply aG;simp;apply aF;have h:=Print_ok x a;refine aU (og 18 (.plain ⟨.d (.str (printS x)),true⟩)) ?_;simp;refine⟨by simpa using h,?_⟩;apply aH;simp[b]
end
section
open Go.RowKit Go.Maps Go.Sort Go.Shelf Go.Proofs
open Go.ChangeMaps (setBlock)
open Go.ChangeMaps (setBlock)
section
variable{P:Program} {F:Fence} {n:Nat} (w:World) {ops:Array Oper} {rest:List Oper} {o:Oper} {a:Act} {Q:Exit->Act->World->Prop}
structure Qj(es:Array MapEntry)(vs:List MapEntry)(seen:Array Nat):Prop where
 mem:∀e∈vs,e∈es.toList
 nd:(vs.map (·.born)).Nodup
 seen:seen.toList=vs.map (·.born)
theorem GX{b:Array MapEntry}{a:Nat}(h:gO b a):(b.toList.map (·.born)).Nodup:=by
 rw[List.Nodup,List.pairwise_map,D1];intro i j d f c e;have:=h.2 i j _ _ bC bC e;omega
theorem wM{α β:Type}{f:α->β}:∀{l:List α},(l.map f).Nodup->l.Nodup
 |[],_=>bC
 |a::l,h=>by
  simp only[D6,B7]at h|-;exact⟨λb=>h.1 (B2.2 ⟨a,b,rfl⟩),wM h.2⟩
theorem Qj.perm{c:Array MapEntry}{b:Nat}{m:List MapEntry}{a:Array Nat}(h:Qj c m a)(o:gO c b)(q:(leftOf c a).size=0):m.Perm c.toList:=by
 refine(List.perm_ext_iff_of_nodup (wM h.nd) (wM (GX o))).2 λe=>⟨h.mem e,λp=>?_⟩;have r:e.born∈a:=by
  have:leftOf c a= #[]:=Array.eq_empty_of_size_eq_zero q;unfold leftOf at this;rw[Array.filter_eq_empty_iff]at this;have:=this e (by simpa using p);simpa using this
 have l:e.born∈m.map (·.born):=by rw[<-h.seen];simpa using r
 obtain⟨n,d,k⟩:=B2.1 l;obtain⟨i,s,f⟩:=C1 p;obtain⟨j,t,g⟩:=C1 (h.mem n d);have:=o.2 j i n e (by rw[<-g];simp) (by rw[<-f];simp) k;subst this;rw[<-f,g];exact d
theorem Qj.step{d:Array MapEntry}{g:List MapEntry}{a:Array Nat}(h:Qj d g a){e:MapEntry}(c:e∈(leftOf d a).toList):Qj d (g++[e]) (a.push e.born):=by
 unfold leftOf at c;simp only[Array.toList_filter,E0,Bool.not_eq_true']at c;refine⟨λx b=>?_,?_,by simp[h.seen]⟩
 .rcases E1.1 b with b|b
  .exact h.mem x b
  .simp at b;subst b;exact c.1
 .rw[B1,D4];refine⟨h.nd,bC,λx b y f i=>?_⟩;simp at f;subst f;subst i;rw[<-h.seen]at b;have:=c.2;simp at this;exact this (by simpa using b)
theorem GY:∀{l m:List Nat},l.Nodup->(∀x∈l,x∈m)->l.length<=m.length
 |[],_,_,_=>B4 _
 |a::l,m,h,hs=>by
  simp only[B7]at h;have b:a∈m:=hs a (C0 ..);have:=GY h.2 (m:=m.erase a) (λx c=>(List.mem_erase_of_ne (show x≠a from λe=>by subst e;exact h.1 c)).2 (hs x (B9 _ c)));rw[List.length_erase_of_mem b]at this;have:=List.length_pos_of_mem b;simp only[B8];omega
theorem Qj.size{c:Array MapEntry}{b:Nat}{vs:List MapEntry}{a:Array Nat}(h:Qj c vs a)(i:gO c b):a.size<=c.size:=by
 have d:a.size=vs.length:=by have:=congrArg E7 h.seen;simpa using this
 rw[d];have:=GY h.nd (m:=c.toList.map (·.born)) (λx g=>by obtain⟨e,f,rfl⟩:=B2.1 g;exact B2.2 ⟨e,h.mem e f,rfl⟩);simpa using this
theorem Hx{w:World}{r:Nat}{o o':Obj}(h:w.heap[r]? =some o):(setBlock w r o').heap[r]? =some o'/\∀k,k≠r->(setBlock w r o').heap[k]? =w.heap[k]? :=by
 have a:=(A4.1 h).1;refine⟨by simp[setBlock,a],λk b=>?_⟩;simp only[setBlock];rw[Array.getElem?_setIfInBounds_ne (λe=>b e.symm)]
theorem Bx(q:o.guard=none)(m:Operand)(t:TypeId)(f:o.op=Op.range t m)(k e:TypeId)(s:P.underlying t=some (.map k e)){b d:Nat}{j:Array MapEntry}(r:a.eval m=.map (some b))(p:w.heap[b]? =some (.map j d))
 (l:wpListIn F n P ops Q rest (a.put o.dst (.pointer (some ⟨w.heap.size,0,none⟩))) (w.alloc (.mapIter (some b) d #[] d))):wpListIn F n P ops Q (o::rest) a w:=by
 refine wpListIn_plain q λu h=>?_;have g:(Instr.range t (.map (some b))).run P w=.ok (.pointer (some ⟨w.heap.size,0,none⟩)) (w.alloc (.mapIter (some b) d #[] d)):=by
  simp[Instr.range,run_underlying s,getObj,Sem.run,p,Result.andThen,run_newObj_alloc]
 unfold Oper.wpIn;refine⟨by simp[Oper.about,f],?_⟩;rw[Oper.semAt_plain F _ _ (by rw[f];intro c i;cases i)];simp[execOp,f,r,g,Result.andThen];exact h _ _ l
theorem CC(Y:o.guard=none)(V:Operand)(p:o.op=Op.next V false){b r d f A:Nat}{k:Array MapEntry}{g:Array Nat}{K:List MapEntry}(H:r≠b)(y:a.eval V=.pointer (some ⟨r,0,none⟩))
 (U:w.heap[r]? =some (.mapIter (some b) f g A))(N:w.heap[b]? =some (.map k d))(h:gO k d)(J:f<=A)(X:d<=f)(M:Qj k K g)
 (q:K.Perm k.toList->wpListIn F n P ops Q rest (a.put o.dst (.tuple #[.bool false])) w)
 (s:∀(e:MapEntry) (t:World),e∈k.toList->Qj k (K++[e]) (g.push e.born)->t.heap[r]? =some (.mapIter (some b) f (g.push e.born) d)->w.grownBy t (some r)->w.drawn<=t.drawn->
   (Instr.entry (.pointer (some ⟨r,0,none⟩))).run P t=.ok (.tuple #[e.key,e.val]) t->wpListIn F n P ops Q rest (a.put o.dst (.tuple #[.bool true,e.key,e.val])) t):
 wpListIn F n P ops Q (o::rest) a w:=by
 refine wpListIn_plain Y λK' u=>?_;unfold Oper.wpIn;refine⟨by simp[Oper.about,p],?_⟩;rw[Oper.semAt_plain F _ _ (by rw[p];intro c E;cases E)];have z:∀x∈k.toList,x.born<f:=λx Z=>by
  obtain⟨i,S,G⟩:=C1 Z;have:=h.1 i x (by rw[<-G];simp);omega
 rcases run_next_at (P:=P) w o.type r b f A g k d U N z J with⟨W,l⟩|⟨e,O,L,m,l⟩
 .simp[execOp,p,y,l,Result.andThen];exact u _ _ (q (M.perm h W))
 .have I:L.heap[r]? =some (.mapIter (some b) f g A):=by rcases m with rfl|rfl<;>exact U
  have D:L.heap[b]? =some (.map k d):=by rcases m with rfl|rfl<;>exact N
  have j:=Hx (o':=.mapIter (some b) f (g.push e.born) d) I;have C:(setBlock L r (.mapIter (some b) f (g.push e.born) d)).heap[b]? =some (.map k d):=(j.2 b (λB=>H B.symm)).trans D;have v:e∈k.toList:=(mem_left O).1;simp[execOp,p,y,l,Result.andThen];refine u _ _ (s e _ v (M.step O) j.1 ?_ ?_ (run_entry_at _ r b f g k d e j.1 C v (GX h)))
  .rcases m with rfl|rfl<;>exact⟨rfl,rfl,rfl,by simp[setBlock],λi _ S=>j.2 i (λB=>S (by rw[B]))⟩
  .rcases m with rfl|rfl
   .exact A3 _
   .exact Nat.le_succ _
end
def Qk(n r:Nat)(W:World):Nat:=n-(match W.heap[r]? with|some (.mapIter _ _ seen _)=>seen.size|_=>0)
theorem Jg{n r:Nat}{W:World}{m:Option Nat}{a c:Nat}{b:Array Nat}(h:W.heap[r]? =some (.mapIter m a b c)):Qk n r W=n-b.size:=by simp[Qk,h]
set_option maxRecDepth 100000 in
theorem Hy(F:Fence)(n:Nat)(hf:F.fn 181)(hro:F.round=none)(hn:1<=n){Bm ob b clock:Nat}{es:Array MapEntry}(W:World)(hm':W.cell? ⟨Bm,ob,none⟩=some (.map (some b)))
 (hb':W.heap[b]? =some (.map es clock))(hborn:gO es clock)(key:MapEntry->bA)(hkey:∀e∈es.toList,e.key=wI (key e))(l:Nat)(J:List bA->World->Prop)(hJ:AbW W.heap.size J)
 (hY:∀pre x W1,J pre W1->pre.length<es.size->YieldAt F (n-1) prog l #[wI x] W1 λe W'=>e=.returned (.bool true)/\J (pre++[x]) W'/\KeepsWalks W1 W')(h0:J [] W):
 CallsIn F n prog 181 #[.func (.yield l) #[] #[],.pointer (some ⟨Bm,ob,none⟩)] W λe W'=>(∃v,e=.returned v)/\∃ss:List bA,ss.Perm (es.toList.map key)/\J ss W':=by
 have hbW:b<W.heap.size:=(A4.1 hb').1;refine callsIn_of_wp func181 rfl hf ?_ hro;simp only[ntmps181,F2,B8,C8,G8,G9,E8,E9,F3,F0,G2,F7]
 gi_wp2_with (first
  |(gi_at_range;refine Bx _ rfl _ _ rfl _ _ underlying144 rfl hb' ?_)
  |gi_in)
 have hg0:W.grownBy (W.alloc (.mapIter (some b) clock #[] clock)) none:=World.grownBy_alloc W _ none;have hr0:(W.alloc (.mapIter (some b) clock #[] clock)).heap[W.heap.size]? =some (.mapIter (some b) clock #[] clock):=heap_alloc_new W _;have hb0:(W.alloc (.mapIter (some b) clock #[] clock)).heap[b]? =some (.map es clock):=(hg0.block b hbW bC).trans hb';have hJ0:=hJ [] W _ none h0 hg0 (A3 _) (λr e=>by cases e);generalize W.alloc (.mapIter (some b) clock #[] clock)=w0 at*;try go_frame
 gi_loopw [3] (λ_ wr=>∃(vs:List MapEntry) (seen:Array Nat) (c0:Nat),wr.heap[W.heap.size]? =some (.mapIter (some b) clock seen c0)/\wr.heap[b]? =some (.map es clock)/\clock<=c0/\Qj es vs seen/\J (vs.map key) wr)
  (λ_ wr=>Qk es.size W.heap.size wr)
 case atStart=>
  exact⟨[],#[],clock,hr0,hb0,A3 _,⟨bC,bC,bC⟩,hJ0⟩
 case round=>
  obtain⟨vs,seen,c0,hr,hbr,hcc,hC,hJs⟩:=hrel
  gi_wp2_with (first
   |(gi_at_next;refine CC _ rfl _ rfl (Nat.ne_of_gt hbW) rfl hr hbr hborn hcc (A3 _) hC ?_ ?_)
   |gi_in)
  .intro hp
   gi_wp2
   go_end0
   exact⟨⟨_,rfl⟩,vs.map key,hp.map key,hJs⟩
  .intro e w2 he hC2 hr2 hg2 hd2 hen;have hJ2:J (vs.map key) w2:=hJ _ wr w2 (some W.heap.size) hJs hg2 hd2 (λr e=>by cases e;exact⟨A3 _,_,hr,rfl⟩);have hb2:w2.heap[b]? =some (.map es clock):=(hg2.block b (A4.1 hbr).1 (λe=>by injection e with e;omega)).trans hbr;have hsz:=hC2.size hborn;have hvs:seen.size=vs.length:=by have:=congrArg E7 hC.seen;simpa using this
   obtain⟨fn,tmps,assign,body,hy,hR⟩:=hY (vs.map key) (key e) _ hJ2 (by simp at hsz|-;omega);rw[hkey e (by simpa using he)]at hen|-;unfold wI at hen hy|-
   gi_wp2
   refine hR.mono ?_;rintro e' W3 ⟨rfl,hJ3,hk3⟩
   gi_wp2
   have hr4:=hk3.same _ _ hr2 rfl;have hb4:=hk3.same _ _ hb2 rfl
   go_roundw
   case rel=>exact⟨vs++[e],seen.push e.born,clock,hr4,hb4,A3 _,hC2,by simpa using hJ3⟩
   case measure=>rw[Jg hr4,Jg hr];simp at hsz|-;omega
def aEg(b0:Option Nat)(W0:World)(l:List bA)(ss:List bA)(W:World):Prop:=
 ∃v gb,W.heap[W0.heap.size]? =some (.cells #[v] 44 (0,0))/\wS 1 b0 W0.heap.size W v (l.length+ss.length) ((l++ss).flatMap bA.enc) gb/\gb≠some W0.heap.size/\HY b0 W0 W/\DQ (l.length*1) b0 W0 W
theorem ZQ(h:Option Nat)(f:World)(l:List bA)(m:∀b,h=some b->b<f.heap.size):AbW (f.heap.size+1) (aEg h f l):=by
 rintro D W C p ⟨v,u,i,q,w,x,y⟩ d A n;have a:∀{k:Nat} {c:Array Value} {e:TypeId},W.heap[k]? =some (.cells c e (0,0))->some k≠p:=λB e=>by
  obtain⟨_,o,s,z⟩:=n _ e.symm;rw[B]at s;cases s;cases z
 refine⟨v,u,(d.block _ (A4.1 i).1 (a i)).trans i,q.kept d ?_,w,x.step d A (λr e=>.inr (by have:=(n r e).1;omega)),y.step d ?_⟩;rcases q.lies with⟨rfl,_⟩|⟨g,t,c,e,rfl,_,_,j,_⟩
 .exact .inl rfl
 .exact .inr (a j)
 .cases j:h with
  |none=>exact .inl rfl
  |some g=>exact .inr λe=>by have:=(n g e.symm).1;have:=m g j;omega
set_option maxRecDepth 100000 in
theorem KO(W0:World)(v0:Value)(l:List bA)(b0:Option Nat)(hrow:wS 1 b0 W0.heap.size W0 v0 l.length (l.flatMap bA.enc) b0)(hb0:∀b,b0=some b->b<W0.heap.size){Bm ob b clock:Nat}{es:Array MapEntry}(hm:W0.cell? ⟨Bm,ob,none⟩=some (.map (some b)))(hBm:some Bm≠b0)
 (hb:W0.heap[b]? =some (.map es clock))(hbb:some b≠b0)(hborn:gO es clock)(key:MapEntry->bA)(hkey:∀e∈es.toList,e.key=wI (key e))(hN:(l.length+es.size)*16<=140737488355328):
 Calls prog 260 #[v0,.func (.func 181) #[] #[.pointer (some ⟨Bm,ob,none⟩)]] W0 λe W'=>
  ∃v ss gb,e=.returned v/\List.Perm ss (es.toList.map key)/\wS 1 b0 W0.heap.size W' v (l.length+ss.length) ((l++ss).flatMap bA.enc) gb/\HY b0 W0 W'/\DQ (l.length*1) b0 W0 W':=by
 refine(callsIn_wide (n:=6)).1 ?_;obtain⟨ba,bn,bc,hv0⟩:∃ba bn bc,v0=.slice ba bn bc:=by
  rcases hrow.lies with⟨_,_,a,rfl⟩|⟨g,cap,cur,e,_,rfl,_⟩
  .exact⟨_,_,_,rfl⟩
  .exact⟨_,_,_,rfl⟩
 subst hv0;have hBml:Bm<W0.heap.size:=World.block_lt_of_cell? W0 _ hm;have hbl:b<W0.heap.size:=(A4.1 hb).1;refine callsIn_of_wp_marks func260 rfl trivial ?_ rfl;simp only[ntmps260,F2,B8,C8,G8,G9,E8,E9,F3,F0,G2,F7]
 gi_wp2
 obtain⟨W1,hW1⟩:∃W1,W0.alloc (.cells #[.slice ba bn bc] 44)=W1:=⟨_,rfl⟩;have hs1:W1.heap.size=W0.heap.size+1:=by rw[<-hW1];simp
 have hg1:W0.grownBy W1 none:=by rw[<-hW1];exact World.grownBy_alloc W0 _ none
 have hd1:W0.drawn<=W1.drawn:=by rw[<-hW1];exact A3 _
 have hv1:W1.heap[W0.heap.size]? =some (.cells #[.slice ba bn bc] 44 (0,0)):=by rw[<-hW1];exact heap_alloc_new W0 _
 rw[hW1];clear hW1;refine yA (enc:=wI) (N:=es.size) (S:=λss=>List.Perm ss (es.toList.map key)) rfl aE rfl trivial (enters_of func181 jQ rfl) (aEg b0 W0 l) (by rw[hs1];exact ZQ b0 W0 l hb0)
  ⟨.slice ba bn bc,b0,hv1,by simpa using hrow.kept hg1 (by cases b0<;>simp),λe=>by have:=hb0 _ e;omega,(HY.refl b0 W0).step hg1 hd1 (λr e=>by cases e),(DQ.refl _ b0 W0).step hg1 (by cases b0<;>simp)⟩ ?_
  (λx a' W=>a'=⟨#[.slice ba bn bc,.func (.func 181) #[] #[.pointer (some ⟨Bm,ob,none⟩)],.pointer (some ⟨W0.heap.size,0,none⟩),undef,.slice none 0 0,.string ⟨x.toArray⟩,.func (.func 181) #[] #[.pointer (some ⟨Bm,ob,none⟩)],wI x,undef,undef,undef,undef,undef],[]⟩) ?_ ?_ ?_ ?_
 .intro l' J W2 hI hsz hJ hY hJ0;obtain⟨v,gb,q1,q2,q3,q4,q6⟩:=hI;exact Hy _ 5 trivial rfl aE W2 ((World.cell?_of_block (q4.block Bm hBml hBm)).trans hm) ((q4.block b hbl hbb).trans hb) hborn key hkey l' J hJ hY hJ0
 .exact λx a' s W W' row h _ _ _=>h
 .intro l' pre x W K hI hK;change Code.wpIn (Fence.wide.inRound l') (6-1-1) prog _ _ ⟨#[.slice ba bn bc,.func (.func 181) #[] #[.pointer (some ⟨Bm,ob,none⟩)],.pointer (some ⟨W0.heap.size,0,none⟩),undef,.slice none 0 0,undef,.func (.func 181) #[] #[.pointer (some ⟨Bm,ob,none⟩)],wI x,undef,undef,undef,undef,undef],[]⟩ W;have hK':=hK _ W ⟨rfl,rfl,rfl,A3 _,λ_ _ _=>rfl⟩ (A3 _) rfl;clear hK;unfold wI at hK'|-
  gi_wp2_with gi_round_op_a
  exact hK'
 .rintro l' pre x a' W ⟨v,gb,q1,q2,q3,q4,q6⟩ rfl hlen;obtain⟨hc1,hf1⟩:=cell_of_box_a q1;obtain⟨inf,d,z,i1,i2,i3,i4,i5,i6,i7⟩:=hT.parts (t:=9) (by simp[TK.isNone]);simp at i4 i5 i7;obtain⟨va,vn,vc,hv⟩:∃va vn vc,v=.slice va vn vc:=by
   rcases q2.lies with⟨_,_,a,rfl⟩|⟨g,cap,cur,e,_,rfl,_⟩
   .exact⟨_,_,_,rfl⟩
   .exact⟨_,_,_,rfl⟩
  subst hv;have hWs:W0.heap.size<W.heap.size:=(A4.1 q1).1;have q5:wS 1 b0 W0.heap.size (W.alloc (.cells #[.string ⟨x.toArray⟩] 9)) (.slice va vn vc) (l.length+pre.length) ((l++pre).flatMap bA.enc) gb:=q2.kept (World.grownBy_alloc W _ none) (by cases gb<;>simp);have hnew:∀(j:Nat) (u:Value),[Value.string ⟨x.toArray⟩][j]? =some u->(W.alloc (.cells #[.string ⟨x.toArray⟩] 9)).cell? ⟨W.heap.size,j,none⟩=some u:=λj u hj=>by
   have:=heap_alloc_new W (.cells #[.string ⟨x.toArray⟩] 9);simp only[World.cell?,this];simpa using hj
  gi_wp2_with (first
   |(gi_at_builtin;refine AG _ rfl _ _ 44 rfl underlying44 i1 i6 i4 (by rw[<-Array.length_toList,i7];rfl) bF rfl q5 jJ rfl (news:=[.string ⟨x.toArray⟩]) rfl (by simp[Value.oneCell']) hnew (by rw[i5];omega) aE ?_;intro v' W3 g' r1 r2 r3 r4 r5
     have hv3:W3.heap[W0.heap.size]? =some (.cells #[.slice va vn vc] 44 (0,0)):=(r2.block _ jJ (λe=>q3 e.symm)).trans ((heap_alloc_old W _ hWs).trans q1);obtain⟨hc3,hf3⟩:=cell_of_box_a hv3;obtain⟨cap',cur',e',rfl,s2,s3,s4,s5,s6,s7⟩:∃cap' cur' e',v'=.slice (some ⟨g',0,none⟩) (l.length+pre.length+1) cap'/\(b0=some g'\/W0.heap.size<=g')/\W3.heap[g']? =some (.cells cur' e' (0,0))/\l.length+pre.length+1<=cap'/\cap'<=maxLen/\cap'*1=cur'.size/\cur'.toList.take ((l.length+pre.length+1)*1)=(l++pre).flatMap bA.enc++[.string ⟨x.toArray⟩]:=by
      rcases r1.lies with⟨h,_⟩|⟨g,cap,cur,e,h,h1,h2,h3,h4,h5,h6,h7⟩
      .cases h
      .injection h with h;subst h;exact⟨cap,cur,e,h1,h2,h3,h4,h5,h6,h7⟩
     go_frame)
   |gi_round_op_a)
  have hg0:W.grownBy (W.alloc (.cells #[.string ⟨x.toArray⟩] 9)) none:=World.grownBy_alloc W _ none;have hd0:W.drawn<=(W.alloc (.cells #[.string ⟨x.toArray⟩] 9)).drawn:=A3 _;have hgb:∀r,gb=some r->(b0=some r\/W0.heap.size<=r)/\∃cur e,W.heap[r]? =some (.cells cur e (0,0)):=λr e=>by
   rcases q2.lies with⟨h,_⟩|⟨g,cap,cur,e',h,_,h2,h3,_⟩
   .rw[h]at e;cases e
   .rw[h]at e;injection e with e;subst e;exact⟨h2,cur,e',h3⟩
  have hgne:g'≠W0.heap.size:=by
   rcases r4 with h|h
   .exact λe=>q3 (by rw[h,e])
   .rw[h];simp;omega
  generalize W.alloc (.cells #[.string ⟨x.toArray⟩] 9)=W2 at*;have hg4:W3.grownBy (W3.setCell ⟨W0.heap.size,0,none⟩ (.slice (some ⟨g',0,none⟩) (l.length+pre.length+1) cap')) (some W0.heap.size):=grownBy_setCell0_a _ _ _;refine⟨⟨D9 hg0.size (D9 r2.size hg4.size),λk o hk ho hcell=>?_⟩,((KeepsWalks.of_grownBy hg0 (λj o e=>by cases e)).trans (KeepsWalks.of_grownBy r2 (λj o e ho=>?_))).trans (KeepsWalks.setCell _ _ _),
   .slice (some ⟨g',0,none⟩) (l.length+pre.length+1) cap',some g',heap_setCell_box_a _ hv3,?_,λe=>hgne (by injection e),((q4.step hg0 hd0 (λr e=>by cases e)).step r2 r3 (λr e=>(hgb r e).1)).step hg4 (A3 _) (λr e=>.inr (by injection e with e;omega)),((q6.step hg0 (by cases b0<;>simp)).write (by rw[Nat.add_mul];omega) r2 r5).step hg4 ?_⟩
  .have h2:=(hg0.block k (A4.1 ho).1 bC).trans ho;have h3:=(r2.block k (A4.1 h2).1 (λe=>by
    obtain⟨_,cur,e',h⟩:=hgb k e.symm;rw[ho]at h;cases h;cases hcell)).trans h2
   exact(hg4.block k (A4.1 h3).1 (λe=>by injection e with e;omega)).trans h3
  .obtain⟨_,cur,e',h⟩:=hgb j e;have h2:=(hg0.block j (A4.1 h).1 bC).trans h;rw[ho]at h2;cases h2;rfl
  .have:=r1.kept hg4 (.inr (λe=>hgne (by injection e)));simpa [bA.enc,wI,Nat.add_assoc]using this
  .cases hb:b0 with
   |none=>exact .inl rfl
   |some g=>exact .inr λe=>by injection e with e;have:=hb0 g hb;omega
 .rintro D xs W hD hS ⟨v,gb,q1,q2,q3,q4,q6⟩ hdef;obtain⟨hc1,hf1⟩:=cell_of_box_a q1
  gi_wp2
  refine⟨bC,.inl ⟨_,_,rfl,run_takeDeferred hdef,?_⟩⟩;refine⟨_,results_tmp rfl _ _ _,v,xs,gb,rfl,hS,q2.kept (grownBy_putObj_a _ _ _) ?_,q4.step (grownBy_putObj_a _ _ _) (A3 _) (λr e=>.inr (by injection e with e;omega)),q6.step (grownBy_putObj_a _ _ _) ?_⟩;rcases q2.lies with⟨h,_⟩|⟨g,cap,cur,e',h,_,h2,h3,_⟩
  .exact .inl h
  .refine .inr λe=>?_;rw[h]at e;injection e with e;subst e
   rw[hdef]at h3;cases h3
  .cases hb:b0 with
   |none=>exact .inl rfl
   |some g=>exact .inr λe=>by injection e with e;have:=hb0 g hb;omega
end
section
open Go.Proofs Go.Sort Go.Shelf Go.RowKit
attribute[local simp] aW bJ bE aR
theorem aDt{w:World}{E:Nat->Prop}{s:bA}{v:Value}(h:RD w E (.str s) v):v=wI s:=by cases h;rfl
def zF(e:MapEntry):bA:=match e.key with
 | .string b=>b.data.toList
 |_=>[]
theorem KP(s:List bA)(S:List DV)(U:s.length*16<=140737488355328):
 aAB prog 260 [.nl,.d (.fn 181 [.ro [.mp (s.map .str) S]])] []
  (λD L=>∃p:List bA,p.Perm s/\D=[(0,.dead),(1,.row false 1 (p.map .str))]/\L=.ow 1 0 p.length):=by
 refine⟨⟨_,func260,jQ,by rfl⟩,λw X β vs m0 K Q=>?_⟩
 match vs,K with
 |[v0,v1],_=>
 have r0:=Q 0 _ _ rfl rfl;have r1:=Q 1 _ _ rfl rfl;obtain⟨N,rfl⟩:∃a,v0=.slice a 0 0:=by cases r0 with|nl a=>exact⟨a,rfl⟩
 obtain⟨y,B,b,f,c,rfl,n,o,z,k,q⟩:∃y B b f c,v1=.func (.func 181) #[] #[.pointer (some ⟨y,B,none⟩)]/\w.cell? ⟨y,B,none⟩=some (.map (some b))/\w.heap[b]? =some (.map c f)/\
  (s.map DV.str).length=c.size/\gO c f/\∀(i:Nat) (d:DV) (e:MapEntry),(s.map DV.str)[i]? =some d->c[i]? =some e->RD w (Ex X β (aL [])) d e.key:=by
  cases r1 with
  |d _ _ h=>cases h with
   |fn _ _ us hl hc=>
    match us,hl with
    |[u],_=>
    have O:=hc 0 _ u rfl rfl;cases O with
    |ro _ y B us2 hBm hul _ _ n h=>
     match us2,hul with
     |[u2],_=>
     have x:=h 0 _ u2 rfl rfl;have E:=n 0 u2 rfl;cases x with
     |mp _ _ b f c hb _ o z _ k q _=>exact⟨y,B,b,f,c,rfl,by simpa using E,o,z,k,q⟩
 rw[A6]at z;have r:∀(i:Nat) (C:i<s.length) (x:i<c.size),c[i].key=wI s[i]:=λi C x=>aDt (q i _ _ (by simp[C]) (Array.getElem?_eq_getElem x));have H:∀e∈c.toList,e.key=wI (zF e):=λe W=>by
  obtain⟨i,Z,rfl⟩:=C1 W;have G:i<c.size:=by simpa using Z
  have:=r i aE G;simp only[Array.getElem_toList];simp[zF,this,wI]
 have A:c.toList.map zF=s:=by
  apply F8 (by simpa using z.symm);intro i C x;have:=r i x aE;simp[zF,this,wI]
 obtain⟨m,_⟩:=xI m0 (d:=0) (by simp[aL,fU]) (s:=1) bF;refine(KO w (.slice N 0 0) [] none ⟨rfl,bC,.inl ⟨rfl,rfl,N,rfl⟩⟩ (λg Y=>by cases Y) n bC o bC k zF H (by rw[<-z];simpa using U)).mono ?_;rintro e w' ⟨v,M,gb,rfl,P,I,J,F⟩;rw[A]at P;obtain⟨β',hm,V⟩:=m.appended sG (id:=0) (new:=1) (l:=[]) (by rw[bB];rfl) (by rw[cJ _ _ bF];simp[aL,fU]) (.inl ⟨rfl,rfl⟩) I J F;have t:aL [(0,.dead),(1,.row false 1 (M.map .str))]=cK (cK (cK (aL []) 0 (.row false 1 [])) 0 .dead) 1 (.row false 1 (M.map .str)):=by
  funext j;simp only[aL,fU,cK];by_cases O:j=0<;>by_cases C:j=1<;>simp_all
 exact⟨v,β',_,_,⟨M,P,rfl,rfl⟩,rfl,by rw[t];simpa using hm,by rw[t];simpa using V⟩
theorem Ql(s:List bA)(g:List DV)(k:s.length*16<=140737488355328):OkR prog 180 [.fn 181 [.ro [.mp (s.map .str) g]]] (λr=>(λv=>∃p:List bA,p.Perm s/\v=.own 1 (p.map .str)) r.v/\r.fresh=true):=by
 refine OkR.ret (Rel:=λv=>∃p:List bA,p.Perm s/\v=.own 1 (p.map .str)) func180 jQ (c:=_) rfl ntmps180 bC results180 λn X m=>?_;apply aD;simp;apply aF;refine LL hT hW 4 [] [(1,4)] [1] (λa f=>∃p:List bA,p.Perm s/\a=[(0,.dead),(1,.row false 1 (p.map .str))]/\f=.ow 1 0 p.length) _ _ ⟨s,List.Perm.refl _,rfl,rfl⟩ (λ|99=>none|_=>none) (by intro d;first|exact⟨rfl,λ_ h=>h⟩|(split<;>exact⟨rfl,λ_ h=>h⟩)) jQ λl e=>?_;obtain⟨i,j⟩:=l;obtain⟨p,b,rfl,rfl⟩:=e;simp;refine⟨KP s g k,?_⟩;apply aH;simp only[Xq];refine⟨_,⟨p,b,rfl⟩,bC,?_⟩;simp
theorem VH(s:List bA)(c:List DV)(k:s.length<=8000000000000):Ok prog 102 [.fn 181 [.ro [.mp (s.map .str) c]]] ⟨.own 1 ((eE s).map .str),true⟩:=by
 refine bL func102 rfl ntmps102 results102 λn X l=>?_;apply aD;simp;apply aF;refine OY hT hW 5 (λr=>(∃p:List bA,p.Perm s/\r.v=.own 1 (p.map .str))/\r.fresh=true) true ⟨.own 1 (s.map .str),true⟩ ⟨⟨⟨s,List.Perm.refl _,rfl⟩,rfl⟩,rfl⟩ (λ|99=>none|_=>none) (by intro d;first|exact⟨rfl,λ_ h=>h⟩|(split<;>exact⟨rfl,λ_ h=>h⟩)) jQ λi b=>?_;obtain⟨m,j⟩:=i;obtain⟨⟨p,a,f⟩,e⟩:=b;dsimp only at f e;subst f;subst e;have g:=a.length_eq;simp;refine⟨Ql s c aE,?_⟩;refine cP (og 7 (.gen ⟨[(5,0)],[],[],[(0,.row false 1 ((eE p).map .str))],.tup []⟩)) ?_;simp;refine⟨by simpa using Bu p aE,?_⟩;apply aD;simp;apply aH;rw[<-Qc a];simp[kW];rw[A0 (by simp[kW])]
theorem Qm(a b:List DV):Ok prog 103 [.mp a b] ⟨.d (.fn 181 [.ro [.mp a b]]),false⟩:=by
 refine bL func103 rfl ntmps103 results103 λd X c=>?_;apply aD;simp;apply aD;simp;apply aH;simp
end
section
attribute[local simp] aW bJ bE aR
attribute[local simp] lB.cond Nd.d_eq nd_t nd_dr nd_td ndsD aX bK xY Cf dF.d
def Du(M:List bA)(s:bA):List bA:=if s∈M then M else M++[s]
def fC(us:List dF):List bA:=us.foldl (λM u=>Du M u.name) []
theorem Nz{a:List dF}{i:Nat}{u:dF}(h:a[i]? =some u):fC (a.take (i+1))=Du (fC (a.take i)) u.name:=by
 obtain⟨c,b⟩:=D2.1 h;unfold fC;rw[A2 c,List.foldl_append,b];rfl
theorem Qn(a:List dF):(fC a).length<=a.length:=by
 have:∀(a:List dF) (M:List bA),(a.foldl (λM u=>Du M u.name) M).length<=M.length+a.length:=λa=>by
  induction a with
  |nil=>intro M;exact A3 _
  |cons u r ih=>
   intro M;rw[C9];refine D9 (ih _) ?_;unfold Du;split<;>simp<;>omega
 simpa [fC]using this a []
mutual
theorem Jh:∀x:Nd,(bZ x).length<=weighN x
 | .mk k t n ks=>by
   have h:=Ji ks;have a:(Ar k t).length<=1:=by unfold Ar;split<;>simp
   rw[bZ,weighN,B3];omega
theorem Ji:∀l:List Nd,(gV l).length<=weighL l
 |[]=>A3 _
 |x::r=>by
  have a:=Jh x;have b:=Ji r;rw[gV,weighL,B3];omega
end
theorem NA(s:bA):∀(M:List bA) (i:Nat),jB (.str s) (M.map .str) i=some ((M.findIdx? (λx=>decide (s=x))).map (·+i))
 |[],i=>rfl
 |x::r,i=>by
  have e:lD (.str s) (.str x)=some (decide (s=x)):=by
   simp only[lD,HC,Option.some.injEq];by_cases h:s=x<;>simp[h]
  rw[D6,jB,e,List.findIdx?_cons];by_cases h:s=x
  .simp[h]
  .simp only[h,decide_false,Bool.false_eq_true,if_false];rw[NA s r (i+1)];cases r.findIdx? (λx=>decide (s=x))with
   |none=>rfl
   |some j=>simp;omega
def We(M:List bA):List DV:=M.map λ_=>.bool true
theorem ZR(M:List bA){H:dQ}{id:Nat}{s:bA}(h:H id=.map false (M.map .str) (We M)):
 cI T H 144 (.mp id) (.d (.str s)) (.d (.bool true))=⟨.junk,True,[(id,.map false ((Du M s).map .str) (We (Du M s)))]⟩:=by
 unfold cI Du;simp only[aEE,h,NA];by_cases a:s∈M
 .obtain⟨j,b,l⟩:∃j,(M.findIdx? λx=>decide (s=x))=some j/\j<M.length:=by
   cases q:(M.findIdx? λx=>decide (s=x))with
   |none=>rw[B5]at q;have:=q s a;simp at this
   |some j=>exact⟨j,rfl,(A8.1 q).1⟩
  have d:(We M).set j (.bool true)=We M:=by
   unfold We;apply F8 bC;intro i g k;rw[List.getElem_set];split<;>simp
  simp[b,a,d,tQ,gP]
 .have c:(M.findIdx? λx=>decide (s=x))=none:=by
   rw[B5];intro x f;simp;intro e;subst e;exact a f
  simp[c,a,tQ,gP,We]
def uZ(l:List Df)(name:bA):Int:=qA (λd=>decide (d.name=name)) l
def xA:Option Nat->Int
 |some i=>(i:Int)
 |none=> -1
theorem zG{α:Type}(p:α->Bool)(l:List α):qA p l=xA (l.findIdx? p):=by unfold qA xA;cases l.findIdx? p<;>rfl
def GZ(l:List Df):Option Nat->List bA×Int
 |none=>([],6)
 |some i=>if(parseS (l.getD i default).text).2.2≠0 then([],(parseS (l.getD i default).text).2.2)else(eE (fC (bZ (parseS (l.getD i default).text).1)),0)
def Jj(l:List Df)(name:bA):List bA×Int:=GZ l (l.findIdx? λd=>decide (d.name=name))
theorem Qo(l:List Df)(p:Df->Bool)(g:FuncId)(d:List DV)(h:∀x∈l,Ok prog g (x.d::d) ⟨.d (.bool (p x)),true⟩):Ok prog 99 [gG l,.fn g d] ⟨.d (aJ (qA p l)),true⟩:=by
 refine bL func99 rfl ntmps99 results99 λj X f=>?_;refine fL.len (t:=0) rfl λc=>?_;simp at c;apply aD;simp;apply dA;simp;apply aM;refine aO (ι:=Nat) (λi=>aQ [(0,.d (gG l)),(1,.d (.fn g d)),(7,.d (aJ l.length)),(8,.d (aJ i))]) (λi=>aL []) (λi=>i<=l.length/\Pre p l i) (λi=>l.length-i) 0 (aA f [0,1,7,8] []) (⟨B4 _,Pre.zero⟩) λi a=>?_;apply aD;simp;apply aF;apply aK;simp;refine⟨λb=>?_,λb=>?_⟩
 .apply aG;simp;apply cR;apply aD;simp;refine cP (og 16 (.plain ⟨.d (.bool (p l[i])),true⟩)) ?_;simp[b];refine⟨h l[i] (C6 b),?_⟩;apply aK;simp;refine⟨λe=>?_,λe=>?_⟩
  .apply aD;simp;apply aH;simp[An (a.2.found b e)]
  .apply aG;simp;apply aI;simp;refine⟨aE,?_⟩;refine QT.mk (i+1) (aA f [0,1,7,8] []) ?_ ?_
   .exact⟨b,a.2.succ b e⟩
   .omega
 .apply bG;simp;apply aD;simp;apply aH;simp[Ao (a.2.none aE)]
theorem VI(d:Df)(a:bA):Ok prog 100 [d.d,.ro [.str a]] ⟨.d (.bool (decide (d.name=a))),true⟩:=by
 refine bL func100 rfl ntmps100 results100 λc X b=>?_;apply aD;simp;apply aD;simp;apply aH;simp;by_cases h:d.name=a<;>simp[h]
theorem SR(l:List Df)(a:bA):Ok prog 37 [gG l,.str a] ⟨.tup [.own 1 ((Jj l a).1.map .str),.d (aJ (Jj l a).2)],true⟩:=by
 refine Ok.two func37 jQ (c:=_) rfl ntmps37 bC results37 rfl λL X k=>?_;obtain⟨f,g⟩:∃f,l.findIdx? (λd=>decide (d.name=a))=f:=⟨_,rfl⟩;have b:Jj l a=GZ l f:=by unfold Jj;rw[g]
 have p:qA (λd=>decide (d.name=a)) l=xA f:=by rw[zG,g]
 apply aD;simp;refine fQ (jD.freeze [3]) ?_;simp;apply aF;have G:=Qo l (λd=>decide (d.name=a)) 100 [.ro [.str a]] λx _=>VI x a;refine aU (og 15 (.plain ⟨.d (aJ (qA (λd=>decide (d.name=a)) l)),true⟩)) ?_;simp;refine⟨by simpa using G,?_⟩;apply aF;apply aP;simp;refine⟨λm=>?_,λm=>?_⟩
 .have B:f=none:=by cases f with|none=>rfl|some i=>rw[p]at m;simp[xA]at m;omega
  subst B;simp only[GZ]at b;apply aD;simp;apply aH;simp[b]
 .obtain⟨i,rfl⟩:∃i,f=some i:=by cases f with|some i=>exact⟨i,rfl⟩|none=>rw[p]at m;simp[xA]at m
  simp only[GZ]at b;simp only[xA]at p;have o:i<l.length:=(A8.1 g).1;obtain⟨d,v⟩:∃d,l[i]=d:=⟨_,rfl⟩;have n:l.getD i default=d:=by rw[A5,A1 o,v];rfl
  rw[n]at b;obtain⟨P,A⟩:∃P,parseS d.text=P:=⟨_,rfl⟩;have t:=Cz d.text;have j:=pT d.text;rw[A]at t j b;obtain⟨x,F⟩:∃x,P.1=x:=⟨_,rfl⟩;rw[F]at t j b;apply aG;simp;refine cP (og 24 (.plain ⟨.tup [.d x.d,.d (aJ P.2.1),.d (aJ P.2.2)],false⟩)) ?_;simp[bM,p,o,v];refine⟨by simpa using t,?_⟩;apply aF;apply aP;simp;refine⟨λr=>?_,λr=>?_⟩
  .rw[if_pos r]at b;apply aD;simp;apply aH;simp[b]
  .rw[if_neg (by simpa using r)]at b;apply aG;simp;apply aD;simp;apply eG;have y:=Kd x;simp at y;refine aU (og 33 (.plain ⟨.d (.fn 174 [.ro [aJ x.kind,.str x.text,aJ x.n,.sl (x.kids.map Nd.d)]]),false⟩)) ?_;simp;refine⟨by simpa using y,?_⟩;apply aM;refine fQ (aA k [10,33] [(10,10),(31,31)] (env':=aQ [(10,.bx 10 0),(33,.d (.fn 174 [.ro [aJ x.kind,.str x.text,aJ x.n,.sl (x.kids.map Nd.d)]]))]) (H':=aL [(10,.box false [.mp 31]),(31,.map false [] [])]) bC bC) ?_;refine fL.rangeFunc (items:=(bZ x).map Cf) (by simpa using Dd x j) bC (by intro w e;obtain⟨u,_,rfl⟩:=B2.1 e;rfl) bC jQ jQ (λi=>aL [(10,.box false [.mp 31]),(31,.map false ((fC ((bZ x).take i)).map .str) (We (fC ((bZ x).take i))))]) (λi=>aL [(10,.box false [.mp 31]),(12,.box false [.d (aJ (tM x i).kind),.d (.str (tM x i).name),.d (.str (tM x i).field)]),(31,.map false ((fC ((bZ x).take (i+1))).map .str) (We (fC ((bZ x).take (i+1)))))]) (rfl) [10,31] bF (by simp[k]) (λi id h=>by simpa using pA id h) (λi=>aQ [(10,.bx 10 0),(12,.bx 12 0)]) (λi=>aL [(10,.box false [.mp 31]),(12,.box false [.d (aJ (tM x i).kind),.d (.str (tM x i).name),.d (.str (tM x i).field)]),(31,.map false ((fC ((bZ x).take i)).map .str) (We (fC ((bZ x).take i))))]) [10,12,31] (λi id h=>by simpa using pA id h) (λi K=>?_) (λJ z i w k e=>?_) (λJ z i w k e=>?_) ?_
   .simp
   .obtain⟨u,q,rfl⟩:=eT e;have b:=At q;apply aI;simp;exact aA k [10,12] [(10,10),(12,12),(31,31)] (by simp[b]) (by simp[b])
   .obtain⟨u,q,rfl⟩:=eT e;have b:=At q;have D:=Nz q;simp[b];apply aM;apply aI;simp[ZR (fC ((bZ x).take i))];exact aA k [] [(10,10),(12,12),(31,31)] (hH:=by simp[b,D])
   .apply aF;have C:=Qn (bZ x);have E:=Jh x;have I:=VH (fC (bZ x)) (We (fC (bZ x))) aE;have H:=Qm ((fC (bZ x)).map .str) (We (fC (bZ x)));refine aU (λ|40=>some<| .plain ⟨.d (.fn 181 [.ro [.mp ((fC (bZ x)).map .str) (We (fC (bZ x)))]]),false⟩|41=>some<| .plain ⟨.own 1 ((eE (fC (bZ x))).map .str),true⟩|_=>none) ?_;simp;refine⟨⟨by simpa using H,by simpa using I⟩,?_⟩;apply aH;have s:A9 (fC (bZ x)).length (A7 DV.str (eE (fC (bZ x))))=A7 DV.str (eE (fC (bZ x))):=A0 (by rw[A6,kW];exact A3 _);simp[b,kW,s]
theorem VJ(a b:Df):Ok prog 93 [a.d,b.d] ⟨.d (.bool (decide (a.name=b.name/\gW a=gW b))),true⟩:=by
 refine bL func93 rfl ntmps93 results93 λh X g=>?_;apply aD;simp;apply aF;have e:=Bw a;have f:=Bw b;refine fL.rd [[],[],[],[],[],[],[],[],[12]] [[],[],[],[],[],[],[],[12],[],[14]] (λ|12=>some<| .plain ⟨.d (.str (gW a)),true⟩|14=>some<| .plain ⟨.d (.str (gW b)),true⟩|_=>none) ?_;simp;refine⟨⟨λ_=>by simpa using e,λ_=>by simpa using f⟩,?_⟩;apply aH;simp;by_cases c:a.name=b.name<;>by_cases d:gW a=gW b<;>simp[c,d]
def KQ(d:Df):bA×bA:=(d.name,gW d)
theorem Fb{a b:Df}:KQ a=KQ b↔a.name=b.name/\gW a=gW b:=by simp[KQ]
def CD(a b:List Df):Bool:=decide (a.map KQ=b.map KQ)
theorem Jk{a b:List Df}(h:CD a b=true):a.length=b.length:=by
 have:=congrArg E7 (of_decide_eq_true h);simpa using this
theorem ZS(l m:List Df):Ok prog 92 [gG l,gG m,.fn 93 []] ⟨.d (.bool (CD l m)),true⟩:=by
 refine bL func92 rfl ntmps92 results92 λs X k=>?_;refine fL.len (t:=0) rfl λb=>?_;simp at b;apply aD;simp;apply aF;apply aP;simp;refine⟨λj=>?_,λj=>?_⟩
 .apply aD;simp;apply aH;simp;rw[F4];intro q;exact j (by rw[Jk q])
 .apply aG;simp;apply dA;simp;apply aM;refine aO (ι:=Nat) (λi=>aQ [(0,.d (gG l)),(1,.d (gG m)),(2,.d (.fn 93 [])),(15,.d (gG l)),(16,.d (aJ l.length)),(17,.d (aJ i))]) (λi=>aL []) (λi=>i<=l.length/\(l.map KQ).take i=(m.map KQ).take i) (λi=>l.length-i) 0 (aA k [0,1,2,15,16,17] []) (⟨B4 _,rfl⟩) λi a=>?_;apply aD;simp;apply aF;apply aK;simp;refine⟨λo=>?_,λo=>?_⟩
  .apply aG;simp;apply cR;apply aF;have g:i<l.length:=aE;apply aI;simp[g];apply aF;have c:i<m.length:=aE;apply aI;simp[c];apply aF;have p:=VJ l[i] m[i];refine aU (og 29 (.plain ⟨.d (.bool (decide (l[i].name=m[i].name/\gW l[i]=gW m[i]))),true⟩)) ?_;simp;refine⟨by simpa using p,?_⟩;apply aK;simp;refine⟨λd=>?_,λd f=>?_⟩
   .apply aD;simp;apply aH;simp;rw[F4];intro q;have n:=congrArg (·[i]?) (of_decide_eq_true q);simp only[F5,A1 g,A1 c,Option.map_some,Option.some.injEq]at n;have:=Fb.1 n;rcases d with h|h
    .exact h this.1
    .exact h this.2
   .apply aG;simp;apply aI;simp;refine⟨aE,?_⟩;refine QT.mk (i+1) (aA k [0,1,2,15,16,17] []) ?_ ?_
    .refine⟨aE,?_⟩;have c:i<m.length:=aE;rw[A2 (by simpa using g),A2 (by simpa using c),a.2,D7,D7,Fb.2 ⟨d,f⟩]
    .omega
  .apply bG;simp;apply aD;simp;apply aH;simp;have e:i=l.length:=aE;have r:i=m.length:=aE;have h:=a.2;rw[A0 jJ,A0 jJ]at h;exact decide_eq_true h
theorem Jl(a b:List Df)(e:a.length<40)(f:b.length<40):Ok prog 29 [gG a,gG b] ⟨.d (.bool (CD (bP a) (bP b))),true⟩:=by
 refine bL func29 rfl ntmps29 results29 λl X k=>?_;apply aD;simp;apply aF;have g:=CB a e;have h:=CB b f;have i:=ZS (bP a) (bP b);have c:=dW a;have d:=dW b;have j:A9 a.length (A7 Df.d (bP a))=A7 Df.d (bP a):=A0 (by rw[A6,c];exact A3 _);have t2:A9 b.length (A7 Df.d (bP b))=A7 Df.d (bP b):=A0 (by rw[A6,d];exact A3 _);refine aU (λ|6=>some<| .plain ⟨.own 2 ((bP a).map Df.d),true⟩|8=>some<| .plain ⟨.own 2 ((bP b).map Df.d),true⟩|9=>some<| .plain ⟨.d (.bool (CD (bP a) (bP b))),true⟩|_=>none) ?_;simp[c,d,j,t2];refine⟨⟨⟨by simpa using g,by simpa using h⟩,by simpa using i⟩,?_⟩;apply aH;simp
end
section
attribute[local simp] aW bJ bE aR
attribute[local simp] lB.cond Nd.d_eq nd_t nd_dr nd_td ndsD aX bK
def dF.r(u:dF):DV:=.agg [aJ u.bk,aJ u.kind,.str u.name,.str u.field]
theorem use_mem{l:List dF}{y:DV}(h:y∈l.map dF.r):(aV y).length=4:=by obtain⟨u,_,rfl⟩:=B2.1 h;rfl
theorem us_t{l:List dF}{k:Nat}:(∀y∈A9 k (A7 dF.r l),(aV y).length=4)↔True:=iff_true_intro λ_ h=>use_mem (List.mem_of_mem_take h)
theorem us_m{l:List dF}:(∀y∈A7 dF.r l,(aV y).length=4)↔True:=iff_true_intro λ_ h=>use_mem h
theorem us_d{u:dF}:(aV u.r).length=4:=rfl
attribute[local simp] us_t us_m us_d dF.r
end
section
attribute[local simp] aW bJ bE aR
attribute[local simp] lB.cond Nd.d_eq nd_t nd_dr nd_td ndsD aX bK bO
def firstE(l:List Df)(d:Df)(i:Nat):Int:=
 if(parseS d.text).2.2≠0 then(parseS d.text).2.2
 else if(parseS d.text).1.text≠d.name then 11
 else if uZ l d.name<(i:Int)then 7
 else if(cQ (parseS d.text).1).Nodup then 0 else 7
def putS(l:List bA)(s:bA):List bA:=if s∈l then l else gU (lH (λy=>Op.bytesLess s y) l l.length) s l
end
section
attribute[local simp] aW bJ bE aR
attribute[local simp] lB.cond Nd.d_eq nd_t nd_dr nd_td ndsD aX bK bO us_t us_m us_d dF.r
def tAt(l:List Df)(name:bA):Nd:=(parseS (l.getD (uZ l name).toNat default).text).1
def p1(l:List Df)(u:dF):Bool:=decide (uZ l u.name<0)
def p2(l:List Df)(u:dF):Bool:=decide ((tAt l u.name).kind≠u.kind)
def p3(l:List Df)(u:dF):Bool:=decide (u.kind=1/\u.field∉cQ (tAt l u.name))
def secondE(l:List Df)(us:List dF):Int:=if us.any (p1 l)=true then 6 else if us.any (p2 l)=true then 12 else if us.any (p3 l)=true then 6 else 0
theorem idxN_lt{l:List Df}{a:bA}(h:0<=uZ l a):∃i d,uZ l a=((i:Nat):Int)/\l[i]? =some d/\tAt l a=(parseS d.text).1:=by
 unfold uZ at h;rw[zG]at h;cases q:l.findIdx? (λd=>decide (d.name=a))with
 |none=>rw[q]at h;simp[xA]at h
 |some i=>
  have b:=(A8.1 q).1;have e:uZ l a=(i:Nat):=by unfold uZ;rw[zG,q];rfl
  refine⟨i,l[i],e,A1 b,?_⟩;unfold tAt;rw[e,D5,A5,A1 b];rfl
def cbR(c:Bool)(k:Int):Bool:= !c||decide (k=14)
def bfsS(c:Bool)(st:List bA×List bA)(u:dF):List bA×List bA:=if cbR c u.bk=true/\u.name∉st.1 then(putS st.1 u.name,st.2++[u.name])else st
def bfsN(l:List Df)(c:Bool)(st:List bA×List bA)(nm:bA):List bA×List bA:=if uZ l nm<0 then st else(bZ (tAt l nm)).foldl (bfsS c) st
def bfsF(l:List Df)(c:Bool):Nat->Nat->List bA×List bA->List bA
 |0,_,st=>st.1
 |f+1,n,st=>match st.2[n]? with
  |none=>st.1
  |some nm=>bfsF l c f (n+1) (bfsN l c st nm)
def allU(l:List Df):List bA:=l.flatMap λd=>(bZ (parseS d.text).1).map dF.name
def reachR(l:List Df)(name:bA)(c:Bool):List bA:=bfsF l c ((allU l).length+2) 0 ([],[name])
def muS(U out:List bA):Nat:=(U.filter λu=>decide (u∉out)).length
structure BfsJ(U:List bA)(st:List bA×List bA):Prop where
 room:st.1.length+muS U st.1<=U.length
 two:st.2.length=st.1.length+1
theorem putS_new{l:List bA}{s:bA}(h:s∉l):(putS l s).length=l.length+1:=by unfold putS;rw[if_neg h,vS]
theorem mem_putS{l:List bA}{s x:bA}:x∈putS l s↔x=s\/x∈l:=by
 unfold putS;split
 .rename_i h;exact⟨.inr,λa=>a.elim (λe=>e▸h) id⟩
 .exact US
theorem muS_put{U a:List bA}{s:bA}(c:s∈U)(h:s∉a):muS U (putS a s)<muS U a:=by
 unfold muS;exact Bo (x:=s) (λy b=>by simp[mem_putS]at b|-;exact b.2) c (by simpa using h) (by simp[mem_putS])
theorem bfsS_J{U:List bA}{c:Bool}{a:List bA×List bA}{u:dF}(d:u.name∈U)(h:BfsJ U a):BfsJ U (bfsS c a u)/\muS U (bfsS c a u).1+(bfsS c a u).2.length<=muS U a.1+a.2.length:=by
 unfold bfsS;split
 .rename_i b;have e:=muS_put d b.2;have f:=putS_new b.2;have g:=h.room;have i:=h.two;refine⟨⟨?_,?_⟩,?_⟩
  .show(putS a.1 u.name).length+muS U (putS a.1 u.name)<=U.length;omega
  .show(a.2++[u.name]).length=(putS a.1 u.name).length+1;rw[B3,E5];omega
  .show muS U (putS a.1 u.name)+(a.2++[u.name]).length<=_;rw[B3,E5];omega
 .exact⟨h,A3 _⟩
theorem uses_allU{l:List Df}{b:bA}(h:0<=uZ l b):∀u∈bZ (tAt l b),u.name∈allU l:=λu a=>by
 obtain⟨i,d,_,c,e⟩:=idxN_lt h;rw[e]at a;exact F9.2 ⟨d,C7 c,B2.2 ⟨u,a,rfl⟩⟩
theorem muS_nil(U:List bA):muS U []=U.length:=by unfold muS;rw[List.filter_eq_self.2 bC]
end
section
attribute[local simp] aW bJ bE aR
attribute[local simp] lB.cond Nd.d_eq nd_t nd_dr nd_td ndsD aX bK
def q1(l:List Df)(i:Nat):Bool:=decide (firstE l (l.getD i default) i≠0)
def q2(l:List Df)(i:Nat):Bool:=decide (secondE l (bZ (parseS (l.getD i default).text).1)≠0)
def q3(l:List Df)(i:Nat):Bool:=decide ((l.getD i default).name∈reachR l (l.getD i default).name true)
def chkR3(l:List Df):Int×Int:=match eV (q3 l) l.length with
 |some i=>((i:Int),13)
 |none=>((l.length:Int),0)
def chkR2(l:List Df):Int×Int:=match eV (q2 l) l.length with
 |some i=>((i:Int),secondE l (bZ (parseS (l.getD i default).text).1))
 |none=>chkR3 l
def chkR1(l:List Df):Int×Int:=match eV (q1 l) l.length with
 |some i=>((i:Int),firstE l (l.getD i default) i)
 |none=>chkR2 l
def chkR(l:List Df):Int×Int:=if 24<l.length then(0,4)else chkR1 l
theorem RSameDefs_ok(a b:List Df)(m:a.length<=1000000000000):Ok prog 39 [gG a,gG b] ⟨.d (.bool (decide (a=b))),true⟩:=by
 refine bL func39 rfl ntmps39 results39 λn X k=>?_;apply aD;simp;apply aF;apply aP;simp;refine⟨λh=>?_,λh=>?_⟩
 .apply aD;simp;apply aH;simp;exact λe=>h (by rw[e])
 .apply aG;simp;apply dA;simp;apply aM;refine aO (ι:=Nat) (λi=>aQ [(0,.d (gG a)),(1,.d (gG b)),(5,.d (aJ (i:Nat)))]) (λi=>aL []) (λi=>i<=a.length/\a.take i=b.take i) (λi=>a.length-i) 0 (aA k [0,1,5] []) (⟨B4 _,rfl⟩) λi c=>?_;apply aF;apply aP;simp;refine⟨λl=>?_,λl=>?_⟩
  .apply aG;simp;apply cR;apply aF;have j:i<a.length:=aE;have d:i<b.length:=aE;refine fL.rd [] [] (λ_=>none) ?_;simp[j,d];apply aK;simp;refine⟨λg=>?_,λg=>?_⟩
   .apply aD;simp;apply aH;simp;intro e;subst e;simp at g
   .apply aG;simp;apply aI;simp;refine⟨aE,?_⟩;refine QT.mk (i+1) (aA k [0,1,5] []) ?_ ?_
    .refine⟨aE,?_⟩;rw[A2 j,A2 d,c.2,g]
    .omega
  .apply bG;simp;apply aD;simp;apply aH;simp;have e:i=a.length:=aE;have:=c.2;rw[e,C5]at this;have f:a.length=b.length:=aE;rw[this,f,C5]
theorem RMean_ok(d:Df):Ok prog 91 [d.d] ⟨.d (.str (gW d)),true⟩:=by
 refine bL func91 rfl ntmps91 results91 λj X i=>?_;obtain⟨P,f⟩:∃P,parseS d.text=P:=⟨_,rfl⟩;have e:=Vn d.text;have a:=pT d.text;have b:gW d=if P.2.2≠0 then d.text else printS P.1:=by unfold gW;rw[f]
 rw[f]at e a;obtain⟨x,g⟩:∃x,P.1=x:=⟨_,rfl⟩;rw[g]at e a b;apply aD;simp;refine cP (og 9 (.plain ⟨.tup [.d x.d,.d (aJ P.2.1),.d (aJ P.2.2)],false⟩)) ?_;simp[bM];refine⟨by simpa using e,?_⟩;apply aF;apply aP;simp;refine⟨λc=>?_,λc=>?_⟩
 .rw[if_pos c]at b;apply aD;simp;apply aH;simp[b]
 .rw[if_neg (by simpa using c)]at b;apply aG;simp;apply aF;have h:=Vl x a;refine aU (og 18 (.plain ⟨.d (.str (printS x)),true⟩)) ?_;simp;refine⟨by simpa using h,?_⟩;apply aH;simp[b]
end
section
attribute[local simp] aW bJ bE aR
attribute[local simp] lB.cond Nd.d_eq nd_t nd_dr nd_td ndsD aX bK bO us_t us_m us_d dF.r
def putAll(us:List dF):List bA:=us.foldl (λM u=>putS M u.name) []
def usesRAt(l:List Df):Option Nat->List bA×Int
 |none=>([],6)
 |some i=>if(parseS (l.getD i default).text).2.2≠0 then([],(parseS (l.getD i default).text).2.2)else(putAll (bZ (parseS (l.getD i default).text).1),0)
def usesR(l:List Df)(name:bA):List bA×Int:=usesRAt l (l.findIdx? λd=>decide (d.name=name))
end
section
attribute[local simp] aW bJ bE aR
attribute[local simp] lB.cond Nd.d_eq nd_t nd_dr nd_td ndsD aX bK bO
theorem df_dm{l:List Df}{k:Nat}:(∀y∈List.drop k (A7 Df.d l),(aV y).length=2)↔True:=iff_true_intro λy a=>by
 obtain⟨d,_,rfl⟩:=B2.1 (List.mem_of_mem_drop a);rfl
theorem RSort_ok(l:List Df)(E:l.length<=1000000):Ok prog 90 [gG l] ⟨.own 2 ((bP l).map Df.d),true⟩:=by
 refine bL func90 rfl ntmps90 results90 λF X c=>?_;apply aD;simp;apply aD;simp;apply dA;simp;apply aM;refine aO (ι:=Nat) (λi=>aQ [(0,.d (gG l)),(3,.ow 3 0 i),(4,.d (aJ (i:Nat)))]) (λi=>aL [(3,.row false 2 ((bP (l.take i)).map Df.d))]) (λi=>i<=l.length) (λi=>l.length-i) 0 (aA c [0,3,4] [(3,3)] (hH:=by simp[bP])) (B4 _) λi B=>?_;apply aF;apply aP;simp;refine⟨λz=>?_,λz=>?_⟩
 .apply aG;simp;apply cR;apply aF;have m:i<l.length:=aE;obtain⟨x,v⟩:∃x,l[i]=x:=⟨_,rfl⟩;obtain⟨o,r⟩:∃o,bP (l.take i)=o:=⟨_,rfl⟩;have b:o.length=i:=by rw[<-r,dW,C4];omega
  have t:bP (l.take (i+1))=iG o x:=by rw[Bv m,r,v]
  apply aI;simp[r];refine aY (ι:=Nat) (λk=>aQ [(0,.d (gG l)),(3,.ow 3 0 i),(4,.d (aJ (i:Nat))),(5,.d (aJ (k:Nat)))]) (λk=>aL [(3,.row false 2 (o.map Df.d))]) (λk=>k<=i/\Is (lH (λy=>Op.bytesLess x.name y.name) o o.length) k) ?_ λk j=>?_
  .apply aM;refine aO (ι:=Nat) (λk=>aQ [(0,.d (gG l)),(3,.ow 3 0 i),(4,.d (aJ (i:Nat))),(5,.d (aJ (k:Nat)))]) (λk=>aL [(3,.row false 2 (o.map Df.d))]) (λk=>k<=i/\lH (λy=>Op.bytesLess x.name y.name) o o.length=lH (λy=>Op.bytesLess x.name y.name) o k) (λk=>k) i (aA c [0,3,4,5] [(3,3)]) (⟨A3 _,by rw[b]⟩) λk a=>?_;apply eG;rcases k with _|k
   .refine fL.rd [] [] (λ_=>none) ?_;simp[B4];apply aK;simp[B4];apply bG;simp;refine aAV.mk 0 (aA c [0,3,4,5] [(3,3)]) ?_;exact⟨B4 _,a.2⟩
   .have w:k<o.length:=by have:=a.1;omega
    have p:k<i:=aE;refine fL.rd [] [] (λ_=>none) ?_;simp[w,m,v,p];refine⟨aE,?_⟩;apply aK;simp;refine⟨λh=>?_,λh=>?_⟩
    .apply aG;simp;apply aM;apply aI;simp;refine⟨aE,?_⟩;refine QT.mk k (aA c [0,3,4,5] [(3,3)]) ?_ ?_
     .exact⟨aE,a.2.trans (Ac w (by simpa using h))⟩
     .omega
    .apply bG;simp;refine aAV.mk (k+1) (aA c [0,3,4,5] [(3,3)]) ?_;exact⟨a.1,a.2.trans (qW λD A C=>(by have e:D=k:=aE;subst e;simpa using h))⟩
  .obtain⟨d,s⟩:=j;have q:min k o.length=k:=E2 aE;have f:min (i-k) (o.length-k)=i-k:=by rw[b,Nat.min_self]
   have g:=Pd (acc:=o) (k:=k) (x:=x) aE;rw[b]at g;have n:iG o x=gU k x o:=by unfold iG;rw[show lH (λy=>Op.bytesLess x.name y.name) o o.length=k from s]
   refine fL.rd [[41],[32,41],[32,41],[32,41],[41],[32,36],[32,36],[32,36],[32,36],[32,36],[],[32,36,41,42],[32,36,41,42],[32,36,41,42]] [[32],[],[],[],[32,36],[],[],[],[],[41],[36,42],[],[],[],[42,46]] (λ_=>none) ?_;simp[m,v,d,df_dm,q,f];refine⟨⟨⟨⟨aE,aE⟩,aE,aE⟩,aE,aE⟩,?_⟩;apply aI;simp;refine⟨aE,?_⟩;refine QT.mk (i+1) (aA c [0,3,4] [(46,3)] (by simp[show k+1+(i-k)=i+1 by omega]) (by simp[t,n,g])) ?_ ?_
   .omega
   .omega
 .apply bG;simp;apply aD;simp;apply aH;have e:i=l.length:=aE;have u:A9 l.length (A7 Df.d (bP l))=A7 Df.d (bP l):=A0 (by rw[A6,dW];exact A3 _);simp[e,dW,u]
def testsR(l:List Df):List bA:=if(chkR l).2≠0 then []else l.foldl (λM d=>if(parseS d.text).1.kind=6 then putS M d.name else M) []
def testsRt(l:List Df):List bA:=l.foldl (λM d=>if(parseS d.text).1.kind=6 then putS M d.name else M) []
end
section
attribute[local simp] mP mQ pC mR jX pD mS mT sS pE pF pG pH nJ
attribute[local simp] sT qJ pJ yF pK pL iJ lB.cond aX KZ fX bO sU sV mV yH yI yG mW nO tJ pM pN yJ yK sW pO pP Bc Bd vV vW oI uD
def digP(l:List Df):List bA:=l.flatMap λd=>[d.name,gW d]
theorem digP_len:∀l:List Df,(digP l).length=2*l.length
 |[]=>rfl
 |d::l=>by have:=digP_len l;simp only[digP,List.flatMap_cons,B3,B8,C8]at*;omega
theorem digP_succ{l:List Df}{k:Nat}(h:k<l.length):digP (l.take (k+1))=digP (l.take k)++[l[k].name,gW l[k]]:=by
 unfold digP;rw[<-List.take_append_getElem h,List.flatMap_append];simp
theorem digP_tlen{l:List Df}{k:Nat}(h:k<=l.length):(digP (l.take k)).length=2*k:=by rw[digP_len,C4,E2 h]
def dig7(l:List Df):List DV:=dO (ER 8 (digP (bP l)))
def Hshort(l:List Df):Prop:=l.length<40/\∀d∈l,d.name.length<=2000000000/\(gW d).length<=2000000000
theorem Hshort.parts{l:List Df}(h:Hshort l):∀s∈digP (bP l),s.length<=2000000000:=λs a=>by
 obtain⟨d,b,a⟩:=F9.1 a;have:=h.2 d ((oN l).mem_iff.1 b);simp at a;rcases a with rfl|rfl<;>omega
theorem TDigest_ok(l:List Df)(h:Hshort l):Ok prog 27 [gG l] ⟨.d (.agg (dig7 l)),true⟩:=by
 refine uF func27 rfl ntmps27 results27 λC X u=>?_;obtain⟨A,_⟩:=id h;have q:=dW l;have d:=CB l A;have g:=digP_len (bP l);have j:=aCo 8 (digP (bP l)) aE h.parts;have m:dO (ER 8 (digP (bP l)))=dig7 l:=rfl;rw[m]at j;obtain⟨D,i⟩:∃D,D=dig7 l:=⟨_,rfl⟩;rw[<-i]at j;rw[<-i];have a:D.length=16:=by rw[i];simp[dig7,dO,Ad]
 have f:∀Z:List LV,Z.length<=16->bE 0 Z (D.map LV.d)=D.map LV.d:=λZ y=>cW (by rw[A6,a];exact y);have v:DV.int .u8 0=eZ 0:=rfl;obtain⟨S,x⟩:∃S,S=bP l:=⟨_,rfl⟩;rw[<-x]at q d g j;have B:A9 S.length (S.map Df.d)=S.map Df.d:=A0 bC;apply aD;simp;apply aD;simp;apply aF;refine cP (og 7 (.plain ⟨.own 2 (S.map Df.d),true⟩)) ?_;simp;refine⟨d,?_⟩;apply aM;refine aO (ι:=Nat) (λk=>aQ [(2,.bx 2 0),(3,.ow 3 0 (2*k)),(7,.ow 7 0 S.length),(8,.d (aJ S.length)),(9,.d (aJ k))]) (λk=>aL [(2,.box false (G4 16 (.d (eZ 0)))),(3,.row false 1 ((digP (S.take k)).map .str)),(7,.row false 2 (S.map Df.d))]) (λk=>k<=S.length) (λk=>S.length-k) 0 (aA u [2,3,7,8,9] [(2,2),(3,3),(7,7)] (hH:=by simp[v,digP])) (B4 _) λk z=>?_;apply aD;simp;apply aF;apply aK;simp;refine⟨λw=>?_,λw=>?_⟩
 .apply aG;simp;apply cR;apply aF;have e:k<S.length:=aE;apply aI;simp[e,bE];have o:=digP_tlen (l:=S) (k:=k) aE;have b:A9 (2*k) ((digP (S.take k)).map DV.str)=(digP (S.take k)).map DV.str:=A0 (by simp[o]);have p:=Bw S[k];refine fL.rd [[17,18],[17],[17]] [[],[],[],[],[17],[18],[3,19]] (og 17 (.plain ⟨.d (.str (gW S[k])),true⟩)) ?_;simp[e,b];refine⟨⟨⟨by simpa using p,rfl⟩,aE⟩,?_⟩;apply aI;simp;refine⟨aE,?_⟩;refine QT.mk (k+1) (aA u [2,3,7,8,9] [(2,2),(19,3),(7,7)] (by simp[show 2*k+2=2*(k+1)by omega]) (by simp[digP_succ e])) ?_ ?_
  .omega
  .omega
 .apply bG;simp;apply aF;have e:k=S.length:=aE;subst e;have b:A9 (2*S.length) ((digP S).map DV.str)=(digP S).map DV.str:=A0 (by simp[g]);refine aU (og 22 (.plain ⟨.d (.agg D),true⟩)) ?_;simp[b,a,f];refine⟨by simpa using j,?_⟩;apply aH;have s:A9 16 (D.map LV.d)=D.map LV.d:=A0 (by simp[a]);have r:=fS D;simp[a,s,r];intro c t;rw[i]at t;obtain⟨k,n,rfl⟩:=vT _ c t;rfl
theorem RDigest7_ok(l:List Df)(h:Hshort l):Ok prog 28 [gG l] ⟨.d (.agg (dig7 l)),true⟩:=by
 refine uF func28 rfl ntmps28 results28 λC X u=>?_;obtain⟨B,_⟩:=id h;have q:=dW l;have d:=RSort_ok l aE;have f:=digP_len (bP l);have i:=aBe 8 (digP (bP l)) aE h.parts;have m:dO (ER 8 (digP (bP l)))=dig7 l:=rfl;rw[m]at i;obtain⟨D,g⟩:∃D,D=dig7 l:=⟨_,rfl⟩;rw[<-g]at i;rw[<-g];have a:D.length=16:=by rw[g];simp[dig7,dO,Ad]
 have e:∀Z:List LV,Z.length<=16->bE 0 Z (D.map LV.d)=D.map LV.d:=λZ y=>cW (by rw[A6,a];exact y);have v:DV.int .u8 0=eZ 0:=rfl;obtain⟨S,x⟩:∃S,S=bP l:=⟨_,rfl⟩;rw[<-x]at q d f i;have A:A9 S.length (S.map Df.d)=S.map Df.d:=A0 bC;apply aD;simp;refine cP (og 7 (.plain ⟨.own 2 (S.map Df.d),true⟩)) ?_;simp;refine⟨by simpa using d,?_⟩;apply aD;simp;apply dA;simp;apply aM;refine aO (ι:=Nat) (λk=>aQ [(2,.bx 2 0),(3,.ow 3 0 S.length),(4,.ow 4 0 (2*k)),(5,.d (aJ k))]) (λk=>aL [(2,.box false (G4 16 (.d (eZ 0)))),(3,.row false 2 (S.map Df.d)),(4,.row false 1 ((digP (S.take k)).map .str))]) (λk=>k<=S.length) (λk=>S.length-k) 0 (aA u [2,3,4,5] [(2,2),(7,3),(4,4)] (hH:=by simp[v,digP])) (B4 _) λk z=>?_;apply aF;apply aP;simp;refine⟨λw=>?_,λw=>?_⟩
 .apply aG;simp;apply cR;have j:k<S.length:=aE;have o:=digP_tlen (l:=S) (k:=k) aE;have b:A9 (2*k) ((digP (S.take k)).map DV.str)=(digP (S.take k)).map DV.str:=A0 (by simp[o]);have p:=RMean_ok S[k];refine fL.rd [[24,25],[24],[24],[24],[24],[24]] [[],[],[],[],[],[],[],[],[],[],[24],[25],[4,26]] (og 24 (.plain ⟨.d (.str (gW S[k])),true⟩)) ?_;simp[j,b];refine⟨⟨⟨by simpa using p,rfl⟩,aE⟩,?_⟩;apply aI;simp;refine⟨aE,?_⟩;refine QT.mk (k+1) (aA u [2,3,4,5] [(2,2),(3,3),(26,4)] (by simp[show 2*k+2=2*(k+1)by omega]) (by simp[digP_succ j])) ?_ ?_
  .omega
  .omega
 .apply bG;simp;apply aF;have j:k=S.length:=aE;subst j;have b:A9 (2*S.length) ((digP S).map DV.str)=(digP S).map DV.str:=A0 (by simp[f]);refine aU (og 28 (.plain ⟨.d (.agg D),true⟩)) ?_;simp[b,a,e];refine⟨by simpa using i,?_⟩;apply aH;have s:A9 16 (D.map LV.d)=D.map LV.d:=A0 (by simp[a]);have r:=fS D;simp[a,s,r];intro c t;rw[g]at t;obtain⟨k,n,rfl⟩:=vT _ c t;rfl
end
section
attribute[local simp] aW bJ bE aR
attribute[local simp] lB.cond Nd.d_eq nd_t nd_dr nd_td ndsD aX bK bO
theorem RD_ok(n:Int)(a: -999<=n)(b:n<=999):Ok prog 149 [aJ n] ⟨.d (.str (itoaS n)),true⟩:=by
 refine bL func149 rfl ntmps149 results149 λd X c=>?_;apply aD;simp;refine cP (og 4 (.plain ⟨.d (.str (itoaS n)),true⟩)) ?_;simp;refine⟨kF n a b,?_⟩;apply aH;simp
def defG(word letter:bA)(i:Int)(text:bA):Df:=⟨letter++itoaS i,word++[32]++(letter++itoaS i)++text⟩
theorem RDef7_ok(c a:bA)(i:Int)(b:bA)(d: -999<=i)(e:i<=999)(g:(itoaS i).length<=1000)(k:c.length<=1000)(f:a.length<=1000)(j:b.length<=1000000):Ok prog 273 [.str c,.str a,aJ i,.str b] ⟨.d (defG c a i b).d,false⟩:=by
 refine uF func273 rfl ntmps273 results273 λl X h=>?_;apply aD;simp;refine cP (og 12 (.plain ⟨.d (.str (itoaS i)),true⟩)) ?_;simp;refine⟨⟨RD_ok i d e,aE⟩,?_⟩;apply aD;simp;refine⟨⟨⟨aE,aE⟩,aE⟩,?_⟩;apply aH;simp[defG,Df.d]
def turnI(n:Nat)(b:Int)(i:Nat):Nat:=let k:=(i+(bS b (n:Int)).toNat)%n;if b.tmod 2≠0 then n-1-k else k
def turnL(l:List Df)(b:Int):List Df:=(G5 l.length).map λi=>l.getD (turnI l.length b i) default
theorem RTurned_ok(l:List Df)(b:Int)(F:l.length<=1000000)(z: -9223372036854775808<=b)(A:b<=9223372036854775807):Ok prog 33 [gG l,aJ b] ⟨.own 2 ((turnL l b).map Df.d),true⟩:=by
 refine bL func33 rfl ntmps33 results33 λG X g=>?_;have d:(turnL l b).length=l.length:=by simp[turnL]
 apply aD;simp;apply aD;simp;apply dA;simp;apply aM;refine aO (ι:=Nat) (λi=>aQ [(0,.d (gG l)),(1,.d (aJ b)),(5,.ow 5 0 i),(6,.d (aJ (i:Nat)))]) (λi=>aL [(5,.row false 2 (((turnL l b).take i).map Df.d))]) (λi=>i<=l.length) (λi=>l.length-i) 0 (aA g [0,1,5,6] [(5,5)]) (B4 _) λi D=>?_;apply aF;apply aP;simp;refine⟨λB=>?_,λB=>?_⟩
 .apply aG;simp;apply cR;apply aF;have s:i<l.length:=aE;have y:=eW b (l.length:Int) z A aE;have E:=dP b (l.length:Int) aE;obtain⟨m,u⟩:∃m:Nat,bS b (l.length:Int)=(m:Int):=⟨(bS b (l.length:Int)).toNat,aE⟩;rw[u]at y E;have a:((i:Int)+(m:Int)).tmod (l.length:Int)=(((i+m)%l.length:Nat):Int):=by rw[<-Int.natCast_add];rfl
  have o:l≠[]:=λe=>by rw[e]at s;simp at s
  have j:(i+m)%l.length<l.length:=Nat.mod_lt _ aE;obtain⟨k,t⟩:∃k,(i+m)%l.length=k:=⟨_,rfl⟩;rw[t]at a j;have c:turnI l.length b i=if b.tmod 2≠0 then l.length-1-k else k:=by unfold turnI;rw[u];simp only[D5,t]
  refine aU (og 18 (.plain ⟨.d (aJ (m:Int)),true⟩)) ?_;simp[a];refine⟨⟨⟨by simpa using y,aE,aE⟩,o⟩,?_⟩;refine aY (ι:=Unit) (λw=>aQ [(0,.d (gG l)),(1,.d (aJ b)),(5,.ow 5 0 i),(6,.d (aJ (i:Nat))),(7,.d (aJ ((turnI l.length b i:Nat):Int)))]) (λw=>aL [(5,.row false 2 (((turnL l b).take i).map Df.d))]) (λw=>True) ?_ λw C=>?_
  .apply aP;simp;refine⟨λh=>?_,λh=>?_⟩
   .have q:turnI l.length b i=l.length-1-k:=(by rw[c,if_pos h]);apply aI;simp;refine⟨⟨aE,aE⟩,?_⟩;exact(aA g [0,1,5,6,7] [(5,5)] (by simp[q,show(l.length:Int)- 1-(k:Int)=((l.length-1-k:Nat):Int)by omega]))
   .have q:turnI l.length b i=k:=by rw[c,if_neg (by simpa using h)]
    apply aG;simp;exact(aA g [0,1,5,6,7] [(5,5)] (by simp[q]))
  .have f:turnI l.length b i<l.length:=by rw[c];split<;>omega
   obtain⟨x,v⟩:∃x,l[turnI l.length b i]=x:=⟨_,rfl⟩;have p:(turnL l b).take (i+1)=(turnL l b).take i++[x]:=by
    rw[A2 aE];simp[turnL,A1 f,v]
   have n:A9 (i+1) (A7 Df.d (turnL l b))=A9 i (A7 Df.d (turnL l b))++[x.d]:=(by rw[<-C2,p,B1,C2];rfl);apply aI;simp[f,v];refine⟨⟨aE,aE⟩,?_⟩;apply aI;simp;refine⟨aE,?_⟩;refine QT.mk (i+1) (aA g [0,1,5,6] [(37,5)] (hH:=by simp[n,G6,Df.d])) ?_ ?_
   .omega
   .omega
 .apply bG;simp;apply aD;simp;apply aH;have e:i=l.length:=aE;have r:A9 l.length (A7 Df.d (turnL l b))=A7 Df.d (turnL l b):=A0 (by rw[A6,d];exact A3 _);simp[e,d,r]
end
structure R3 where
 w:bA
 l:bA
 t:bA
def R3.d(r:R3):DV:=.agg [.str r.w,.str r.l,.str r.t]
def ofL(i:Nat)(rows:List R3):List Df:=rows.map λr=>defG r.w r.l (i:Int) (mO r.t i)
def twoL:List bA:=[[120,35,32,61,61,32,50],[49,32,60,61,32,120,35],[120,35,32,60,32,50],[120,35,32,61,61,32,51]]
def orderL:List bA:=[[97,99,113,117,105,114,101,32,97,35,59,32,97,99,113,117,105,114,101,32,98,35,59,32,114,101,108,101,97,115,101,32,98,35,59,32,114,101,108,101,97,115,101,32,97,35,59],[97,99,113,117,105,114,101,32,98,35,59,32,97,99,113,117,105,114,101,32,97,35,59,32,114,101,108,101,97,115,101,32,97,35,59,32,114,101,108,101,97,115,101,32,98,35,59]]
def rowL:List bA:=[[36,97,32,60,32,36,98],[36,98,32,60,32,36,97]]
def fiveL:List bA:=[[36,97,32,61,61,32,36,98],[36,97,32,43,32,36,98,32,60,32,51]]
def eightL:List bA:=[[],[32,119,114,105,116,101,32,102,35,32,55,59]]
def nineL:List bA:=[[32,123,32,99,104,101,99,107,32,115,104,97,114,101,100,32,61,61,32,48,59,32,115,104,97,114,101,100,32,61,32,49,59,32,125],[32,123,32,115,104,97,114,101,100,32,61,32,115,104,97,114,101,100,32,43,32,49,59,32,99,104,101,99,107,32,115,104,97,114,101,100,32,60,32,50,59,32,125]]
def lastL:List bA:=[[49],[36,97,32,61,61,32,48]]
def twoS(v:Nat):bA:=twoL.getD (v / 2%4) []
def orderS(v:Nat):bA:=orderL.getD (v%2) []
def rowS(v:Nat):bA:=rowL.getD (v / 2%2) []
def fiveS(v:Nat):bA:=fiveL.getD (v / 2%2) []
def eightS(v:Nat):bA:=eightL.getD (v%2) []
def nineS(v:Nat):bA:=nineL.getD (v%2) []
def lastS(v:Nat):bA:=lastL.getD (v / 9%2) []
def rowsP(v:Nat):Nat->List R3
 |0=>[⟨[118,97,114],[120],[32,61,32]++itoaS ((v%2:Nat):Int)++[59]⟩,⟨[99,104,97,110],[99],[32,49,59]⟩,⟨[112,114,111,99],[112],[32,123,32,120,35,32,61,32,120,35,32,43,32,49,59,32,115,101,110,100,32,99,35,32,49,59,32,125]⟩,⟨[116,101,115,116],[116],[32,123,32,103,111,32,112,35,59,32,120,35,32,61,32,120,35,32,43,32,49,59,32,114,101,99,118,32,99,35,32,36,97,59,32,99,104,101,99,107,32]++twoS v++[59,32,125]⟩]
 |1=>[⟨[118,97,114],[120],[32,61,32]++itoaS ((v%2:Nat):Int)++[59]⟩,⟨[108,111,99,107],[109],[59]⟩,⟨[99,104,97,110],[99],[32,49,59]⟩,⟨[112,114,111,99],[112],[32,123,32,97,99,113,117,105,114,101,32,109,35,59,32,120,35,32,61,32,120,35,32,43,32,49,59,32,114,101,108,101,97,115,101,32,109,35,59,32,115,101,110,100,32,99,35,32,49,59,32,125]⟩,⟨[116,101,115,116],[116],[32,123,32,103,111,32,112,35,59,32,97,99,113,117,105,114,101,32,109,35,59,32,120,35,32,61,32,120,35,32,43,32,49,59,32,114,101,108,101,97,115,101,32,109,35,59,32,114,101,99,118,32,99,35,32,36,97,59,32,99,104,101,99,107,32]++twoS v++[59,32,125]⟩]
 |2=>[⟨[99,104,97,110],[113],[32]++itoaS ((1+v%2:Nat):Int)++[59]⟩,⟨[112,114,111,99],[112],[32,123,32,115,101,110,100,32,113,35,32,49,59,32,115,101,110,100,32,113,35,32,50,59,32,125]⟩,⟨[116,101,115,116],[116],[32,123,32,103,111,32,112,35,59,32,114,101,99,118,32,113,35,32,36,97,59,32,114,101,99,118,32,113,35,32,36,98,59,32,99,104,101,99,107,32]++rowS v++[59,32,125]⟩]
 |3=>[⟨[99,104,97,110],[114],[32,48,59]⟩,⟨[99,104,97,110],[99],[32,49,59]⟩,⟨[118,97,114],[120],[32,61,32,48,59]⟩,⟨[112,114,111,99],[112],[32,123,32,114,101,99,118,32,114,35,32,36,118,59,32,120,35,32,61,32,49,59,32,115,101,110,100,32,99,35,32,49,59,32,125]⟩,⟨[112,114,111,99],[111],[32,123,32,114,101,99,118,32,114,35,32,36,118,59,32,120,35,32,61,32,50,59,32,115,101,110,100,32,99,35,32,49,59,32,125]⟩,⟨[116,101,115,116],[116],[32,123,32,103,111,32,112,35,59,32,103,111,32,111,35,59,32,115,101,110,100,32,114,35,32,53,59,32,114,101,99,118,32,99,35,32,36,97,59,32,99,104,101,99,107,32,120,35,32,61,61,32]++itoaS ((1+v%2:Nat):Int)++[59,32,125]⟩]
 |4=>[⟨[108,111,99,107],[97],[59]⟩,⟨[108,111,99,107],[98],[59]⟩,⟨[99,104,97,110],[99],[32,49,59]⟩,⟨[112,114,111,99],[112],[32,123,32,97,99,113,117,105,114,101,32,98,35,59,32,97,99,113,117,105,114,101,32,97,35,59,32,114,101,108,101,97,115,101,32,97,35,59,32,114,101,108,101,97,115,101,32,98,35,59,32,115,101,110,100,32,99,35,32,49,59,32,125]⟩,⟨[116,101,115,116],[116],[32,123,32,103,111,32,112,35,59,32]++orderS v++[32,114,101,99,118,32,99,35,32,36,120,59,32,125]⟩]
 |5=>[⟨[99,104,97,110],[99],[32,49,59]⟩,⟨[112,114,111,99],[112],[32,123,32,100,114,97,119,32,36,97,32]++itoaS ((2+v%2:Nat):Int)++[59,32,115,101,110,100,32,99,35,32,36,97,59,32,125]⟩,⟨[116,101,115,116],[116],[32,123,32,103,111,32,112,35,59,32,100,114,97,119,32,36,98,32,50,59,32,114,101,99,118,32,99,35,32,36,97,59,32,99,104,101,99,107,32]++fiveS v++[59,32,125]⟩]
 |6=>[⟨[116,101,115,116],[116],[32,123,32,100,114,97,119,32,36,97,32,51,59,32,100,114,97,119,32,36,98,32,50,59,32,99,104,101,99,107,32,36,97,32,42,32,36,98,32,60,32]++itoaS ((1+v%3:Nat):Int)++[59,32,125]⟩]
 |7=>[⟨[116,101,115,116],[116],[32,123,32,110,111,119,32,36,97,59,32,115,108,101,101,112,32,50,59,32,110,111,119,32,36,98,59,32,99,104,101,99,107,32,36,98,32,45,32,36,97,32,60,32]++itoaS ((3+v%3:Nat):Int)++[59,32,125]⟩]
 |8=>[⟨[102,105,108,101],[102],[59]⟩,⟨[116,101,115,116],[116],[32,123,32,119,114,105,116,101,32,102,35,32,55,59]++eightS v++[32,114,101,97,100,32,102,35,32,36,97,59,32,99,104,101,99,107,32,36,97,32,61,61,32,55,59,32,125]⟩]
 |9=>[⟨[116,101,115,116],[116],nineS v⟩]
 |10=>[⟨[118,97,114],[120],[32,61,32,48,59]⟩,⟨[116,101,115,116],[116],[32,123,32,119,104,105,108,101,32,36,105,32,60,32]++itoaS ((1+v%3:Nat):Int)++[32,123,32,120,35,32,61,32,120,35,32,43,32,49,59,32,36,105,32,61,32,36,105,32,43,32,49,59,32,125,32,99,104,101,99,107,32,120,35,32,61,61,32,50,59,32,125]⟩]
 |11=>[⟨[116,101,115,116],[116],[32,123,32,105,102,32,107,105,110,100,32,61,61,32]++itoaS ((v%3:Nat):Int)++[32,123,32,100,114,97,119,32,36,97,32,50,59,32,99,104,101,99,107,32,36,97,32,61,61,32,48,59,32,125,32,125]⟩]
 |12=>[⟨[114,101,99],[103],[32,123,32,97,32,61,32,49,59,32,98,32,61,32,50,59,32,125]⟩,⟨[112,114,111,99],[104],[32,123,32,103,35,46,97,32,61,32,103,35,46,98,32,43,32,49,59,32,125]⟩,⟨[116,101,115,116],[116],[32,123,32,99,97,108,108,32,104,35,59,32,99,97,108,108,32,104,35,59,32,99,104,101,99,107,32,103,35,46,97,32,61,61,32]++itoaS ((2+v%3:Nat):Int)++[59,32,125]⟩]
 |_=>[⟨[116,101,115,116],[116],[32,123,32,100,114,97,119,32,36,97,32,50,59,32,105,102,32,36,97,32,123,32,97,108,108,111,99,32,53,59,32,115,108,101,101,112,32,50,59,32,110,111,119,32,36,98,59,32,125,32,101,108,115,101,32,123,32,97,108,108,111,99,32]++itoaS ((1+v%9:Nat):Int)++[59,32,125,32,99,104,101,99,107,32]++lastS v++[59,32,125]⟩]
def patL(k i v:Nat):List Df:=ofL i (rowsP v k)
def sharedD:Df:=⟨[115,104,97,114,101,100],[118,97,114,32,115,104,97,114,101,100,32,61,32,48,59]⟩
def prgS(l:List Int)(st:List Df×Bool)(i:Nat):List Df×Bool:=
 let n:=(eA l (1+i) 4096).toNat
 let out:=st.1++patL (n%14) i (n / 14)
 if n%14=9/\st.2=false then(out++[sharedD],true)else(out,st.2)
def prgN(l:List Int):Nat:=1+(eA l 0 3).toNat
def prgO(l:List Int)(k:Nat):List Df×Bool:=(G5 k).foldl (prgS l) ([],false)
def prgL(l:List Int):List Df:=turnL (prgO l (prgN l)).1 (eA l 4 64)
section
attribute[local simp] aW bJ bE aR
attribute[local simp] lB.cond Nd.d_eq nd_t nd_dr nd_td ndsD aX bK bO
theorem fillS_len(s:bA)(i:Nat):(mO s i).length=s.length:=by simp[mO]
theorem RFilled_ok(s:bA)(i:Nat)(e:i<=9)(f:s.length<=1000000000):Ok prog 274 [.str s,aJ i] ⟨.d (.str (mO s i)),true⟩:=by
 refine bL func274 rfl ntmps274 results274 λh X g=>?_;apply aD;simp;have a:∀{b:Op} {d:Option Nat} {t:TypeId} {p:String} {c:Array Edge},oE ⟨d,b,t,p,c,none⟩ b d:=⟨rfl,rfl,rfl⟩;refine TX hT jQ jQ jQ jQ (λw=>cM (w:=w) hT (t:=5) rfl) rfl rfl rfl a a a a a a a a a a a a a a a a a a a a a a a a a a (s:=s) (i:=i) bC bC e f ?_;simp
theorem r3_mem{l:List R3}{y:DV}(h:y∈l.map R3.d):(aV y).length=3:=by obtain⟨u,_,rfl⟩:=B2.1 h;rfl
theorem r3_m{l:List R3}:(∀y∈A7 R3.d l,(aV y).length=3)↔True:=iff_true_intro λ_ h=>r3_mem h
theorem r3_d{u:R3}:(aV u.d).length=3:=rfl
attribute[local simp] r3_m r3_d R3.d
theorem ofL_len(i:Nat)(r:List R3):(ofL i r).length=r.length:=by simp[ofL]
theorem ROf_ok(i:Nat)(r:List R3)(l:i<=9)(s:r.length<=1000)(n:∀x∈r,x.w.length<=1000/\x.l.length<=1000/\x.t.length<=1000000):Ok prog 219 [aJ i,.sl (r.map R3.d)] ⟨.own 2 ((ofL i r).map Df.d),true⟩:=by
 refine bL func219 rfl ntmps219 results219 λu X h=>?_;apply aD;simp;apply aD;simp;apply dA;simp;apply aM;refine aO (ι:=Nat) (λk=>aQ [(0,.d (aJ (i:Nat))),(1,.d (.sl (r.map R3.d))),(5,.ow 5 0 k),(6,.d (aJ (k:Nat)))]) (λk=>aL [(5,.row false 2 (((ofL i r).take k).map Df.d))]) (λk=>k<=r.length) (λk=>r.length-k) 0 (aA h [0,1,5,6] [(5,5)]) (B4 _) λk m=>?_;apply aF;apply aP;simp;refine⟨λj=>?_,λj=>?_⟩
 .apply aG;simp;apply cR;have a:k<r.length:=aE;obtain⟨x,g⟩:∃x,r[k]=x:=⟨_,rfl⟩;obtain⟨o,b,t⟩:=n x (g▸C6 a);have q:=RFilled_ok x.t i l aE;have p:=RDef7_ok x.w x.l (i:Int) (mO x.t i) aE aE (by have:=cG (i:Int);omega) o b (by rw[fillS_len];omega);have d:(ofL i r).take (k+1)=(ofL i r).take k++[defG x.w x.l (i:Int) (mO x.t i)]:=by
   rw[A2 (by rw[ofL_len];exact a)];simp[ofL,g]
  have c:A9 (k+1) (A7 Df.d (ofL i r))=A9 k (A7 Df.d (ofL i r))++[(defG x.w x.l (i:Int) (mO x.t i)).d]:=by rw[<-C2,d,B1,C2];rfl
  refine fL.rd [[31,32,33],[31],[31],[31],[31],[31],[31],[31],[31],[31],[31],[31]] [[],[],[],[],[],[],[],[],[],[],[],[],[],[],[],[],[],[],[31],[32],[33],[5,34]] (λ|31=>some<| .plain ⟨.d (.str (mO x.t i)),true⟩|32=>some<| .plain ⟨.d (defG x.w x.l (i:Int) (mO x.t i)).d,false⟩|_=>none) ?_;simp[a,g];refine⟨⟨⟨by simpa using q,by simpa using p⟩,aE⟩,?_⟩;apply aI;simp;refine⟨aE,?_⟩;refine QT.mk (k+1) (aA h [0,1,5,6] [(34,5)] (hH:=by simp[c,G6,Df.d])) ?_ ?_
  .omega
  .omega
 .apply bG;simp;apply aD;simp;apply aH;have e:k=r.length:=aE;have f:A9 r.length (A7 Df.d (ofL i r))=A7 Df.d (ofL i r):=A0 (by rw[A6,ofL_len];exact A3 _);simp[e,f,ofL_len]
end
section
attribute[local simp] aW bJ bE aR
attribute[local simp] lB.cond Nd.d_eq nd_t nd_dr nd_td ndsD aX bK bO r3_m r3_d R3.d
theorem getD_len{L:List bA}{k b:Nat}(h:∀w∈L,w.length<=b):(L.getD k []).length<=b:=by
 rw[A5];cases e:L[k]? with
 |none=>exact B4 _
 |some w=>exact h w (C7 e)
theorem str_at{L:List bA}{k:Nat}(h:k<L.length):(L.map DV.str)[k]?.getD default=.str (L.getD k []):=by
 rw[F5,A1 h];simp[A5,h]
theorem twoL_le:∀w∈twoL,w.length<=60:=bF
theorem orderL_le:∀w∈orderL,w.length<=60:=bF
theorem rowL_le:∀w∈rowL,w.length<=60:=bF
theorem fiveL_le:∀w∈fiveL,w.length<=60:=bF
theorem eightL_le:∀w∈eightL,w.length<=60:=bF
theorem nineL_le:∀w∈nineL,w.length<=60:=bF
theorem lastL_le:∀w∈lastL,w.length<=60:=bF
theorem rowsP_small(v k:Nat):(rowsP v k).length<=6/\∀x∈rowsP v k,x.w.length<=1000/\x.l.length<=1000/\x.t.length<=1000:=by
 have a:=cG ((v%2:Nat):Int);have b:=cG ((1+v%2:Nat):Int);have c:=cG ((2+v%2:Nat):Int);have d:=cG ((v%3:Nat):Int);have e:=cG ((1+v%3:Nat):Int);have f:=cG ((2+v%3:Nat):Int);have g:=cG ((3+v%3:Nat):Int);have h:=cG ((1+v%9:Nat):Int);have i:(twoS v).length<=60:=getD_len twoL_le;have j:(orderS v).length<=60:=getD_len orderL_le;have l:(rowS v).length<=60:=getD_len rowL_le;have m:(fiveS v).length<=60:=getD_len fiveL_le;have n:(eightS v).length<=60:=getD_len eightL_le;have o:(nineS v).length<=60:=getD_len nineL_le;have p:(lastS v).length<=60:=getD_len lastL_le;unfold rowsP;split<;>(simp only[List.forall_mem_cons,B3,B8,C8,List.not_mem_nil,false_imp_iff,implies_true,and_true];(repeat' with_reducible apply And.intro)<;>omega)
theorem pat_ok(k i v:Nat)(a:i<=9):Ok prog 219 [aJ i,.sl ((rowsP v k).map R3.d)] ⟨.own 2 ((patL k i v).map Df.d),true⟩:=
 ROf_ok i (rowsP v k) a (by have:=(rowsP_small v k).1;omega) λx b=>by have:=(rowsP_small v k).2 x b;omega
theorem RThreads_ok(k i v:Nat)(hk:k<6)(E:i<=9)(hv:v<=1000000):Ok prog 218 [aJ k,aJ i,aJ v] ⟨.own 2 ((patL k i v).map Df.d),true⟩:=by
 refine bL func218 rfl ntmps218 results218 λw0 X hp=>?_;obtain⟨e,q2⟩:∃m:Nat,v%2=m:=⟨_,rfl⟩;obtain⟨m3,q3⟩:∃m:Nat,v%3=m:=⟨_,rfl⟩;obtain⟨m9,D⟩:∃m:Nat,v%9=m:=⟨_,rfl⟩;obtain⟨S,I⟩:∃m:Nat,v / 2%4=m:=⟨_,rfl⟩;obtain⟨H,F⟩:∃m:Nat,v / 2%2=m:=⟨_,rfl⟩;obtain⟨n9,G⟩:∃m:Nat,v / 9%2=m:=⟨_,rfl⟩;have w:(v:Int).tmod 2=(e:Int):=by rw[<-q2];rfl
 have y:(v:Int).tmod 3=(m3:Int):=by rw[<-q3];rfl
 have A:(v:Int).tmod 9=(m9:Int):=by rw[<-D];rfl
 have z:((v:Int) / 2).tmod 4=(S:Int):=by rw[<-I];rfl
 have s:((v:Int) / 2).tmod 2=(H:Int):=by rw[<-F];rfl
 have t:((v:Int) / 9).tmod 2=(n9:Int):=by rw[<-G];rfl
 have b2:(v:Int) / 2<=v:=aE;have b9:(v:Int) / 9<=v:=aE;apply aD;simp;apply aF;obtain⟨K,j⟩:∃x,twoS v=x:=⟨_,rfl⟩;have V:K.length<=60:=by rw[<-j];exact getD_len twoL_le
 have o:=str_at (L:=twoL) (k:=S) (by show _<4;omega);rw[show twoL.getD S []=K by rw[<-j];simp only[twoS,q2,I,F,G]]at o;simp[twoL]at o;apply aI;simp[w,y,A,z,s,t,o];refine⟨by(repeat' with_reducible apply And.intro)<;>first|omega|rfl,?_⟩;apply aF;obtain⟨r,d⟩:∃x,orderS v=x:=⟨_,rfl⟩;have M:r.length<=60:=by rw[<-d];exact getD_len orderL_le
 have c:=str_at (L:=orderL) (k:=e) (by show _<2;omega);rw[show orderL.getD e []=r by rw[<-d];simp only[orderS,q2,I,F,G]]at c;simp[orderL]at c;apply aI;simp[w,y,A,z,s,t,c];refine⟨by(repeat' with_reducible apply And.intro)<;>first|omega|rfl,?_⟩;apply aF;obtain⟨J,q⟩:∃x,rowS v=x:=⟨_,rfl⟩;have U:J.length<=60:=by rw[<-q];exact getD_len rowL_le
 have n:=str_at (L:=rowL) (k:=H) (by show _<2;omega);rw[show rowL.getD H []=J by rw[<-q];simp only[rowS,q2,I,F,G]]at n;simp[rowL]at n;apply aI;simp[w,y,A,z,s,t,n];refine⟨by(repeat' with_reducible apply And.intro)<;>first|omega|rfl,?_⟩;apply dA;simp;apply aM;apply aP;simp;refine⟨λW=>?_,λW=>?_⟩
 .have p:k=0:=aE;subst p;apply aF;obtain⟨P,f⟩:∃P,patL 0 i v=P:=⟨_,rfl⟩;have b:=pat_ok 0 i v E;rw[f]at b;have l:=RD_ok ((e:Nat):Int) aE aE;have B:=cG ((e:Nat):Int);obtain⟨u,a⟩:∃x,itoaS ((e:Nat):Int)=x:=⟨_,rfl⟩;rw[a]at l B;simp only[rowsP,q2,q3,D,j,a]at b;simp at b l;refine aU (λ|33=>some<| .plain ⟨.d (.str u),true⟩|44=>some<| .plain ⟨.own 2 (P.map Df.d),true⟩|_=>none) ?_;simp[w,y,A,z,s,t];refine⟨by(repeat' with_reducible apply And.intro)<;>first|omega|with_reducible assumption|rfl|simpa using b,?_⟩;apply aH;simp[f]
 .apply aP;simp;refine⟨λY=>?_,λY=>?_⟩
  .have p:k=1:=aE;subst p;apply aF;obtain⟨P,f⟩:∃P,patL 1 i v=P:=⟨_,rfl⟩;have b:=pat_ok 1 i v E;rw[f]at b;have l:=RD_ok ((e:Nat):Int) aE aE;have B:=cG ((e:Nat):Int);obtain⟨u,a⟩:∃x,itoaS ((e:Nat):Int)=x:=⟨_,rfl⟩;rw[a]at l B;simp only[rowsP,q2,q3,D,j,a]at b;simp at b l;refine aU (λ|50=>some<| .plain ⟨.d (.str u),true⟩|62=>some<| .plain ⟨.own 2 (P.map Df.d),true⟩|_=>none) ?_;simp[w,y,A,z,s,t];refine⟨by(repeat' with_reducible apply And.intro)<;>first|omega|with_reducible assumption|rfl|simpa using b,?_⟩;apply aH;simp[f]
  .apply aP;simp;refine⟨λZ=>?_,λZ=>?_⟩
   .have p:k=2:=aE;subst p;apply aF;obtain⟨P,f⟩:∃P,patL 2 i v=P:=⟨_,rfl⟩;have b:=pat_ok 2 i v E;rw[f]at b;have l:=RD_ok ((1+e:Nat):Int) aE aE;have B:=cG ((1+e:Nat):Int);obtain⟨u,a⟩:∃x,itoaS ((1+e:Nat):Int)=x:=⟨_,rfl⟩;rw[a]at l B;simp only[rowsP,q2,q3,D,q,a]at b;simp at b l;refine aU (λ|69=>some<| .plain ⟨.d (.str u),true⟩|79=>some<| .plain ⟨.own 2 (P.map Df.d),true⟩|_=>none) ?_;simp[w,y,A,z,s,t];refine⟨by(repeat' with_reducible apply And.intro)<;>first|omega|with_reducible assumption|rfl|simpa using b,?_⟩;apply aH;simp[f]
   .apply aP;simp;refine⟨λN=>?_,λN=>?_⟩
    .have p:k=3:=aE;subst p;apply aF;obtain⟨P,f⟩:∃P,patL 3 i v=P:=⟨_,rfl⟩;have b:=pat_ok 3 i v E;rw[f]at b;have l:=RD_ok ((1+e:Nat):Int) aE aE;have B:=cG ((1+e:Nat):Int);obtain⟨u,a⟩:∃x,itoaS ((1+e:Nat):Int)=x:=⟨_,rfl⟩;rw[a]at l B;simp only[rowsP,q2,q3,D,a]at b;simp at b l;refine aU (λ|91=>some<| .plain ⟨.d (.str u),true⟩|96=>some<| .plain ⟨.own 2 (P.map Df.d),true⟩|_=>none) ?_;simp[w,y,A,z,s,t];refine⟨by(repeat' with_reducible apply And.intro)<;>first|omega|with_reducible assumption|rfl|simpa using b,?_⟩;apply aH;simp[f]
    .apply aP;simp;refine⟨λO=>?_,λO=>?_⟩
     .have p:k=4:=aE;subst p;apply aF;obtain⟨P,f⟩:∃P,patL 4 i v=P:=⟨_,rfl⟩;have b:=pat_ok 4 i v E;rw[f]at b;simp only[rowsP,q2,q3,D,d]at b;simp at b;refine aU (og 109 (.plain ⟨.own 2 (P.map Df.d),true⟩)) ?_;simp[w,y,A,z,s,t];refine⟨by(repeat' with_reducible apply And.intro)<;>first|omega|with_reducible assumption|rfl|simpa using b,?_⟩;apply aH;simp[f]
     .apply aG;simp;apply aF;have p:k=5:=aE;subst p;obtain⟨P,f⟩:∃P,patL 5 i v=P:=⟨_,rfl⟩;have b:=pat_ok 5 i v E;rw[f]at b;obtain⟨C,h⟩:∃x,fiveS v=x:=⟨_,rfl⟩;have Q:C.length<=60:=by rw[<-h];exact getD_len fiveL_le
      have g:=str_at (L:=fiveL) (k:=H) (by show _<2;omega);rw[show fiveL.getD H []=C by rw[<-h];simp only[fiveS,q2,I,F,G]]at g;simp[fiveL]at g;have l:=RD_ok ((2+e:Nat):Int) aE aE;have B:=cG ((2+e:Nat):Int);obtain⟨u,a⟩:∃x,itoaS ((2+e:Nat):Int)=x:=⟨_,rfl⟩;rw[a]at l B;simp only[rowsP,q2,q3,D,h,a]at b;simp at b l;refine fL.rd [[115,119,128],[115,119],[119],[119],[119],[119],[119],[119],[119],[115],[115,119],[115,119],[115,119],[115],[115],[115],[115],[115]] [[],[],[],[],[],[115],[],[],[],[119],[],[],[],[],[],[],[],[],[128],[129]] (λ|115=>some<| .plain ⟨.d (.str u),true⟩|129=>some<| .plain ⟨.own 2 (P.map Df.d),true⟩|_=>none) ?_;simp[w,y,A,z,s,t,g];refine⟨by(repeat' with_reducible apply And.intro)<;>first|omega|with_reducible assumption|rfl|simpa using b,?_⟩;apply aH;simp[f]
theorem RPattern_ok(k i v:Nat)(hk:k<14)(t:i<=9)(hv:v<=1000000):Ok prog 147 [aJ k,aJ i,aJ v] ⟨.own 2 ((patL k i v).map Df.d),true⟩:=by
 refine bL func147 rfl ntmps147 results147 λw0 X F=>?_;obtain⟨G,q2⟩:∃m:Nat,v%2=m:=⟨_,rfl⟩;obtain⟨h,q3⟩:∃m:Nat,v%3=m:=⟨_,rfl⟩;obtain⟨K,u⟩:∃m:Nat,v%9=m:=⟨_,rfl⟩;obtain⟨m4,M⟩:∃m:Nat,v / 2%4=m:=⟨_,rfl⟩;obtain⟨n2,H⟩:∃m:Nat,v / 2%2=m:=⟨_,rfl⟩;obtain⟨Z,I⟩:∃m:Nat,v / 9%2=m:=⟨_,rfl⟩;have z:(v:Int).tmod 2=(G:Int):=by rw[<-q2];rfl
 have A:(v:Int).tmod 3=(h:Int):=by rw[<-q3];rfl
 have C:(v:Int).tmod 9=(K:Int):=by rw[<-u];rfl
 have B:((v:Int) / 2).tmod 4=(m4:Int):=by rw[<-M];rfl
 have w:((v:Int) / 2).tmod 2=(n2:Int):=by rw[<-H];rfl
 have y:((v:Int) / 9).tmod 2=(Z:Int):=by rw[<-I];rfl
 have b2:(v:Int) / 2<=v:=aE;have b9:(v:Int) / 9<=v:=aE;apply aD;simp;apply dA;simp;apply aM;refine aY (ι:=Unit) (λc=>aQ [(0,.d (aJ (k:Nat))),(1,.d (aJ (i:Nat))),(2,.d (aJ (v:Nat))),(7,.d (aJ (k:Nat))),(8,.d (.bool (decide (k<6))))]) (λc=>aL []) (λc=>True) ?_ λc a0=>?_
 .apply aP;simp;refine⟨λh2=>?_,λh2=>?_⟩
  .apply aG;simp;exact(aA F [0,1,2,7,8] [] (by simp[h2]))
  .apply aP;simp;refine⟨λh3=>?_,λh3=>?_⟩
   .apply aG;simp;exact(aA F [0,1,2,7,8] [] (by simp[show k<6 by omega,h3]))
   .apply aP;simp;refine⟨λh4=>?_,λh4=>?_⟩
    .apply aG;simp;exact(aA F [0,1,2,7,8] [] (by simp[show k<6 by omega,h4]))
    .apply aP;simp;refine⟨λh5=>?_,λh5=>?_⟩
     .apply aG;simp;exact(aA F [0,1,2,7,8] [] (by simp[show k<6 by omega,h5]))
     .apply aP;simp;refine⟨λh6=>?_,λh6=>?_⟩
      .apply aG;simp;exact(aA F [0,1,2,7,8] [] (by simp[show k<6 by omega,h6]))
      .apply aI;simp;exact(aA F [0,1,2,7,8] [] (by have e6:(k<6)=((k:Int)=5):=propext aE;simp[e6]))
 .apply aK;simp;refine⟨λh8=>?_,λh8=>?_⟩
  .apply aF;have k6:k<6:=h8;obtain⟨P,d⟩:∃P,patL k i v=P:=⟨_,rfl⟩;have kt:=RThreads_ok k i v k6 t hv;rw[d]at kt;refine aU (og 18 (.plain ⟨.own 2 (P.map Df.d),true⟩)) ?_;simp;refine⟨kt,?_⟩;apply aH;simp[d]
  .apply aP;simp;refine⟨λh9=>?_,λh9=>?_⟩
   .have n:k=6:=aE;subst n;apply aF;obtain⟨P,d⟩:∃P,patL 6 i v=P:=⟨_,rfl⟩;have a:=pat_ok 6 i v t;rw[d]at a;have g:=RD_ok ((1+h:Nat):Int) aE aE;have s:=cG ((1+h:Nat):Int);obtain⟨q,b⟩:∃x,itoaS ((1+h:Nat):Int)=x:=⟨_,rfl⟩;rw[b]at g s;simp only[rowsP,q2,q3,u,b]at a;simp at a g;refine aU (λ|25=>some<| .plain ⟨.d (.str q),true⟩|30=>some<| .plain ⟨.own 2 (P.map Df.d),true⟩|_=>none) ?_;simp[z,A,C,B,w,y];refine⟨by(repeat' with_reducible apply And.intro)<;>first|omega|with_reducible assumption|rfl|simpa using a,?_⟩;apply aH;simp[d]
   .apply aP;simp;refine⟨λN=>?_,λN=>?_⟩
    .have n:k=7:=aE;subst n;apply aF;obtain⟨P,d⟩:∃P,patL 7 i v=P:=⟨_,rfl⟩;have a:=pat_ok 7 i v t;rw[d]at a;have g:=RD_ok ((3+h:Nat):Int) aE aE;have s:=cG ((3+h:Nat):Int);obtain⟨q,b⟩:∃x,itoaS ((3+h:Nat):Int)=x:=⟨_,rfl⟩;rw[b]at g s;simp only[rowsP,q2,q3,u,b]at a;simp at a g;refine aU (λ|37=>some<| .plain ⟨.d (.str q),true⟩|42=>some<| .plain ⟨.own 2 (P.map Df.d),true⟩|_=>none) ?_;simp[z,A,C,B,w,y];refine⟨by(repeat' with_reducible apply And.intro)<;>first|omega|with_reducible assumption|rfl|simpa using a,?_⟩;apply aH;simp[d]
    .apply aP;simp;refine⟨λO=>?_,λO=>?_⟩
     .have n:k=8:=aE;subst n;apply aF;obtain⟨P,d⟩:∃P,patL 8 i v=P:=⟨_,rfl⟩;have a:=pat_ok 8 i v t;rw[d]at a;obtain⟨r,f⟩:∃x,eightS v=x:=⟨_,rfl⟩;have J:r.length<=60:=by rw[<-f];exact getD_len eightL_le
      have e:=str_at (L:=eightL) (k:=G) (by show _<2;omega);rw[show eightL.getD G []=r by rw[<-f];simp only[eightS,q2,M,H,I]]at e;simp[eightL]at e;simp only[rowsP,q2,q3,u,f]at a;simp at a;refine aU (og 56 (.plain ⟨.own 2 (P.map Df.d),true⟩)) ?_;simp[z,A,C,B,w,y,e];refine⟨by(repeat' with_reducible apply And.intro)<;>first|omega|with_reducible assumption|rfl|simpa using a,?_⟩;apply aH;simp[d]
     .apply aP;simp;refine⟨λQ=>?_,λQ=>?_⟩
      .have n:k=9:=aE;subst n;apply aF;obtain⟨P,d⟩:∃P,patL 9 i v=P:=⟨_,rfl⟩;have a:=pat_ok 9 i v t;rw[d]at a;obtain⟨E,p⟩:∃x,nineS v=x:=⟨_,rfl⟩;have Y:E.length<=60:=by rw[<-p];exact getD_len nineL_le
       have l:=str_at (L:=nineL) (k:=G) (by show _<2;omega);rw[show nineL.getD G []=E by rw[<-p];simp only[nineS,q2,M,H,I]]at l;simp[nineL]at l;simp only[rowsP,q2,q3,u,p]at a;simp at a;refine aU (og 67 (.plain ⟨.own 2 (P.map Df.d),true⟩)) ?_;simp[z,A,C,B,w,y,l];refine⟨by(repeat' with_reducible apply And.intro)<;>first|omega|with_reducible assumption|rfl|simpa using a,?_⟩;apply aH;simp[d]
      .apply aP;simp;refine⟨λS=>?_,λS=>?_⟩
       .have n:k=10:=aE;subst n;apply aF;obtain⟨P,d⟩:∃P,patL 10 i v=P:=⟨_,rfl⟩;have a:=pat_ok 10 i v t;rw[d]at a;have g:=RD_ok ((1+h:Nat):Int) aE aE;have s:=cG ((1+h:Nat):Int);obtain⟨q,b⟩:∃x,itoaS ((1+h:Nat):Int)=x:=⟨_,rfl⟩;rw[b]at g s;simp only[rowsP,q2,q3,u,b]at a;simp at a g;refine aU (λ|75=>some<| .plain ⟨.d (.str q),true⟩|80=>some<| .plain ⟨.own 2 (P.map Df.d),true⟩|_=>none) ?_;simp[z,A,C,B,w,y];refine⟨by(repeat' with_reducible apply And.intro)<;>first|omega|with_reducible assumption|rfl|simpa using a,?_⟩;apply aH;simp[d]
       .apply aP;simp;refine⟨λU=>?_,λU=>?_⟩
        .have n:k=11:=aE;subst n;apply aF;obtain⟨P,d⟩:∃P,patL 11 i v=P:=⟨_,rfl⟩;have a:=pat_ok 11 i v t;rw[d]at a;have g:=RD_ok ((h:Nat):Int) aE aE;have s:=cG ((h:Nat):Int);obtain⟨q,b⟩:∃x,itoaS ((h:Nat):Int)=x:=⟨_,rfl⟩;rw[b]at g s;simp only[rowsP,q2,q3,u,b]at a;simp at a g;refine aU (λ|86=>some<| .plain ⟨.d (.str q),true⟩|91=>some<| .plain ⟨.own 2 (P.map Df.d),true⟩|_=>none) ?_;simp[z,A,C,B,w,y];refine⟨by(repeat' with_reducible apply And.intro)<;>first|omega|with_reducible assumption|rfl|simpa using a,?_⟩;apply aH;simp[d]
        .apply aP;simp;refine⟨λV=>?_,λV=>?_⟩
         .have n:k=12:=aE;subst n;apply aF;obtain⟨P,d⟩:∃P,patL 12 i v=P:=⟨_,rfl⟩;have a:=pat_ok 12 i v t;rw[d]at a;have g:=RD_ok ((2+h:Nat):Int) aE aE;have s:=cG ((2+h:Nat):Int);obtain⟨q,b⟩:∃x,itoaS ((2+h:Nat):Int)=x:=⟨_,rfl⟩;rw[b]at g s;simp only[rowsP,q2,q3,u,b]at a;simp at a g;refine aU (λ|100=>some<| .plain ⟨.d (.str q),true⟩|105=>some<| .plain ⟨.own 2 (P.map Df.d),true⟩|_=>none) ?_;simp[z,A,C,B,w,y];refine⟨by(repeat' with_reducible apply And.intro)<;>first|omega|with_reducible assumption|rfl|simpa using a,?_⟩;apply aH;simp[d]
         .apply aG;simp;apply aF;have n:k=13:=aE;subst n;obtain⟨P,d⟩:∃P,patL 13 i v=P:=⟨_,rfl⟩;have a:=pat_ok 13 i v t;rw[d]at a;obtain⟨D,o⟩:∃x,lastS v=x:=⟨_,rfl⟩;have W:D.length<=60:=by rw[<-o];exact getD_len lastL_le
          have j:=str_at (L:=lastL) (k:=Z) (by show _<2;omega);rw[show lastL.getD Z []=D by rw[<-o];simp only[lastS,q2,M,H,I]]at j;simp[lastL]at j;have g:=RD_ok ((1+K:Nat):Int) aE aE;have s:=cG ((1+K:Nat):Int);obtain⟨q,b⟩:∃x,itoaS ((1+K:Nat):Int)=x:=⟨_,rfl⟩;rw[b]at g s;simp only[rowsP,q2,q3,u,o,b]at a;simp at a g;refine fL.rd [[110,113,122],[113],[113],[113],[113],[113],[113],[110],[110,113],[110,113],[110,113],[110],[110]] [[],[],[],[],[110],[],[],[113],[],[],[],[],[],[],[],[],[122],[123]] (λ|110=>some<| .plain ⟨.d (.str q),true⟩|123=>some<| .plain ⟨.own 2 (P.map Df.d),true⟩|_=>none) ?_;simp[z,A,C,B,w,y,j];refine⟨by(repeat' with_reducible apply And.intro)<;>first|omega|with_reducible assumption|rfl|simpa using a,?_⟩;apply aH;simp[d]
end
section
attribute[local simp] aW bJ bE aR
attribute[local simp] lB.cond Nd.d_eq nd_t nd_dr nd_td ndsD aX bK
theorem folF_in(a:List Nd)(b:Int->Bool):∀(f i:Nat) (M:List Nat),M.Nodup->(∀k∈M,k<a.length)->(iE a b f i M).Nodup/\∀k∈iE a b f i M,k<a.length
 |0,_,_,hn,g=>⟨hn,g⟩
 |f+1,i,M,hn,g=>by
  rw[Dh];have m:∀(j:List dF) (M:List Nat),M.Nodup->(∀k∈M,k<a.length)->(j.foldl (kZ a b (iE a b f)) M).Nodup/\∀k∈j.foldl (kZ a b (iE a b f)) M,k<a.length:=λj=>by
   induction j with
   |nil=>exact λM c d=>⟨c,d⟩
   |cons u r ihu=>
    intro M c d;rw[C9];have n:(kZ a b (iE a b f) M u).Nodup/\∀k∈kZ a b (iE a b f) M u,k<a.length:=by
     unfold kZ;split
     .rename_i k g;split
      .rename_i p;refine folF_in a b f k (M++[k]) ?_ λs l=>?_
       .rw[D4];exact⟨c,bC,λx q y o e=>by simp at o;subst o;subst e;exact p.2 q⟩
       .rcases E1.1 l with h|h
        .exact d s h
        .simp at h;subst h;exact yT g
      .exact⟨c,d⟩
     .exact⟨c,d⟩
    exact ihu _ n.1 n.2
  exact m _ M hn g
theorem reachI_in(a:List Nd)(b:Int->Bool)(i:Nat):(kE a b i).Nodup/\∀k∈kE a b i,k<a.length:=folF_in a b _ i [] List.nodup_nil bC
def allB(_:Int):Bool:=true
def restK(i:Nat)(S:List Nat):List Nat:=S.filter λk=>decide (k≠i)
def sliceAt(l:List Df)(ts:List Nd)(i:Nat):List Df:=l.getD i default::(restK i (kE ts allB i)).map λk=>l.getD k default
def sliceP(l:List Df)(name:bA):List Df×Int:=
 if(nS l).2.2≠0 then([],(nS l).2.2)
 else match pX (nS l).1 name with
  |none=>([],6)
  |some i=>(bP (sliceAt l (nS l).1 i),0)
theorem restK_len{n i:Nat}{S:List Nat}(b:S.Nodup)(c:∀k∈S,k<n)(e:i<n):(restK i S).length<n:=by
 have d:(i::restK i S).Nodup:=B7.2 ⟨λh=>by simp[restK]at h,b.filter _⟩;have:=GY d (m:=G5 n) λk a=>by
  rcases C3.1 a with rfl|a
  .exact G7.2 e
  .exact G7.2 (c k (E0.1 a).1)
 rw[B8,List.length_range]at this;omega
theorem nodup_injM{α β:Type}{f:α->β}:∀{l:List α},(l.map f).Nodup->∀a∈l,∀b∈l,f a=f b->a=b
 |x::l,h,a,ha,b,hb,e=>by
  obtain⟨j,k⟩:=B7.1 h;rcases C3.1 ha with i|d
  .rcases C3.1 hb with g|c
   .rw[i,g]
   .exact absurd (B2.2 ⟨b,c,by rw[<-e,i]⟩) j
  .rcases C3.1 hb with g|c
   .exact absurd (B2.2 ⟨a,d,by rw[e,g]⟩) j
   .exact nodup_injM k a d b c e
theorem sortD_uniq{l m:List Df}(c:l.Perm m)(h:(l.map Df.name).Nodup):bP l=bP m:=by
 refine List.Perm.eq_of_pairwise (le:=λa b:Df=>a.name<=b.name) (λa b f g d e=>?_) (qR l) (qR m) (((oN l).trans c).trans (oN m).symm);exact nodup_injM h a ((oN l).mem_iff.1 f) b (c.mem_iff.2 ((oN m).mem_iff.1 g)) (G0 d e)
theorem rdF_names:∀(l:List Df) (a:List Nd),(EY a l).2.2=0->(a.map Nd.text).Nodup->(EY a l).1.map Nd.text=a.map Nd.text++l.map Df.name/\((EY a l).1.map Nd.text).Nodup
 |[],a,_,h=>⟨by simp[EY],by simpa [EY]using h⟩
 |d::r,a,he,h=>by
  by_cases e:KD a d=0
  .rw[KF e]at he|-;have f:(parseS d.text).1.text=d.name/\pX a d.name=none:=by
    unfold KD at e;split at e
    .exact absurd e (by assumption)
    .split at e
     .cases e
     .rename_i b;split at e
      .cases e
      .rename_i c;exact⟨B6 b,by cases q:pX a d.name with
        |none=>rfl
        |some j=>exact absurd (.inl (by rw[q];rfl)) c⟩
   obtain⟨b,c⟩:=rdF_names r (a++[(parseS d.text).1]) he (by
    rw[B1,D4];refine⟨h,bC,λx k y m e=>?_⟩;simp at m;subst m;subst e;rw[f.1]at k;obtain⟨t,g,i⟩:=B2.1 k;have:=f.2;unfold pX at this;rw[B5]at this;have:=this t g;simp[i]at this)
   refine⟨?_,c⟩;rw[b,B1];simp[f.1]
  .rw[wJ e]at he;exact absurd he e
theorem readP_names{l:List Df}(h:(dR l).2.2=0):(dR l).1.map Nd.text=l.map Df.name/\(l.map Df.name).Nodup:=by
 unfold dR at h|-;split at h
 .cases h
 .rename_i a;rw[if_neg a];obtain⟨b,c⟩:=rdF_names l [] h bC;exact⟨by simpa using b,by rw[b]at c;simpa using c⟩
theorem chkP_ok{l:List Df}(h:(nS l).2.2=0):(dR l).2.2=0:=by
 unfold nS at h;split at h
 .exact h
 .rename_i a;exact B6 a
theorem perm_erase{α:Type}{l:List α}{j:Nat}(h:j<l.length):l.Perm (l[j]::l.eraseIdx j):=by
 have e:l=l.take j++l[j]::l.drop (j+1):=by
  have:=E3 j l;rw[D3 h]at this;exact this.symm
 have a:l.eraseIdx j=l.take j++l.drop (j+1):=B0 ..;rw[a]
 conv=>lhs;rw[e]
 exact List.perm_middle
theorem nkD_get{S:List Nat}{j:Nat}(h:j<(Ci S).length):(Ci S)[j]=aJ ((S[j]'(by simpa [Ci]using h):Nat):Int):=by simp[Ci]
theorem nkD_erase(S:List Nat)(j:Nat):(Ci S).eraseIdx j=Ci (S.eraseIdx j):=by
 unfold Ci;rw[B0,B0,B1,C2,H0]
theorem trD_erase(S:List Nat)(j:Nat):(Ht S).eraseIdx j=Ht (S.eraseIdx j):=by
 unfold Ht;rw[B0,B0,B1,C2,H0]
theorem ren_it{σ:List (Nat×Nat)}{n id:Nat}:ren σ (n+1) (.it id)=match dN σ id with|some j=>.it j|none=>.junk:=rfl
attribute[local simp] nkD_erase trD_erase ren_it
theorem restK_erase{S:List Nat}{i j:Nat}(h:j<S.length):(restK i S).Perm (if S[j]=i then restK i (S.eraseIdx j)else S[j]::restK i (S.eraseIdx j)):=by
 have:=(perm_erase h).filter λk=>decide (k≠i);refine List.Perm.trans this ?_;by_cases e:S[j]=i
 .rw[if_pos e,List.filter_cons_of_neg (by simpa using e)];exact List.Perm.refl _
 .rw[if_neg e,List.filter_cons_of_pos (by simpa using e)];exact List.Perm.refl _
theorem names_nodup{l:List Df}(h:(l.map Df.name).Nodup):∀{S:List Nat},S.Nodup->(∀k∈S,k<l.length)->((S.map λk=>l.getD k default).map Df.name).Nodup
 |[],_,_=>bC
 |a::S,hn,hk=>by
  obtain⟨m,n⟩:=B7.1 hn;rw[D6,D6,B7];refine⟨λj=>?_,names_nodup h n λk g=>hk k (B9 _ g)⟩;rw[List.map_map]at j;obtain⟨b,i,e⟩:=B2.1 j;have d:=hk a (C0 ..);have c:=hk b (B9 _ i);simp only[Function.comp,A5,A1 d,A1 c,D8]at e;have this:=D1.1 h;have f:a≠b:=λq=>m (q▸i);rcases Nat.lt_or_gt_of_ne f with q|q
  .exact this a b (by simpa using d) (by simpa using c) q (by simpa using e.symm)
  .exact this b a (by simpa using c) (by simpa using d) q (by simpa using e)
theorem sliceAt_eq(l:List Df)(ts:List Nd)(i:Nat):sliceAt l ts i=(i::restK i (kE ts allB i)).map λk=>l.getD k default:=rfl
theorem sliceAt_names{l:List Df}{ts:List Nd}{i:Nat}(h:(l.map Df.name).Nodup)(e:ts.length=l.length)(d:i<ts.length):((sliceAt l ts i).map Df.name).Nodup:=by
 obtain⟨b,c⟩:=reachI_in ts allB i;rw[sliceAt_eq];refine names_nodup h (B7.2 ⟨λh=>by simp[restK]at h,b.filter _⟩) λk a=>?_;rcases C3.1 a with rfl|a
 .omega
 .have:=c k (E0.1 a).1;omega
theorem Slice_ok(l:List Df)(b:bA)(hl:l.length<40):Ok prog 38 [gG l,.str b] ⟨.tup [.own 2 ((sliceP l b).1.map Df.d),.d (aJ (sliceP l b).2)],true⟩:=by
 refine Ok.two func38 jQ (c:=_) rfl ntmps38 bC results38 rfl λw0 X M=>?_;obtain⟨C,W⟩:∃C,nS l=C:=⟨_,rfl⟩;obtain⟨d,E⟩:∃d,C.1=d:=⟨_,rfl⟩;have P:=GQ l;have g:sliceP l b=if C.2.2≠0 then([],C.2.2)else match pX d b with|none=>([],6)|some i=>(bP (sliceAt l d i),0):=by rw[<-E,<-W];rfl
 have p:=KN l;have v:=chkP_ok (l:=l);have U:=wK l;rw[W]at P v p;rw[E]at P p;rw[<-p]at U;have hw:∀t∈d,weighN t<=1000000000:=λt ht=>by obtain⟨s,rfl⟩:=U.1 t ht;exact pT s
 apply aD;simp;refine cP (og 15 (.plain ⟨.tup [.d (Bn d),.d (aJ C.2.1),.d (aJ C.2.2)],false⟩)) ?_;simp[bM];refine⟨⟨by simpa using P,by simp[Bn]⟩,?_⟩;simp[Bn];apply aF;apply aP;simp;refine⟨λG=>?_,λG=>?_⟩
 .rw[if_pos G]at g;apply aD;simp;apply aH;simp[g]
 .have q:C.2.2=0:=by simpa using G
  rw[if_neg (by simpa using q)]at g;have B:=(U.2.2 (v q)).2.1;apply aG;simp;apply aD;simp[Kj,bM];apply aF;apply aP;simp;refine⟨λV=>?_,λV=>?_⟩
  .have hn:pX d b=none:=by simpa using V
   rw[hn]at g;dsimp only at g;apply aD;simp;apply aH;simp[g]
  .obtain⟨i,I⟩:∃i,pX d b=some i:=by cases h:pX d b<;>simp_all
   rw[I]at g;dsimp only at g;have r:i<d.length:=yT I;have z:atI d b=(i:Nat):=by unfold atI;rw[I];rfl
   have x:=reachI_in d allB i;apply aG;simp;apply aD;simp[z,(show i<l.length by omega)];apply eG;have Q:=Gi d allB 105 i hw (λk=>UQ k) r;refine aU (og 38 (.plain ⟨.d (.mp (Ci (kE d allB i)) (Ht (kE d allB i))),false⟩)) ?_;simp[z];refine⟨by simpa [Bn]using Q,?_⟩;apply aM;refine aO (ι:=List Nat×List Df) (λ⟨S,a⟩=>aQ [(0,.d (gG l)),(9,.d (aJ (i:Nat))),(11,.ow 35 0 a.length),(39,.it 39)]) (λ⟨S,a⟩=>aL [(35,.row false 2 (a.map Df.d)),(39,.iter false (Ci S) (Ht S))]) (λ⟨S,a⟩=>(a++(restK i S).map λk=>l.getD k default).Perm (sliceAt l d i)/\(∀k∈S,k<l.length)) (λ⟨S,a⟩=>S.length) (kE d allB i,[l.getD i default]) (aA M [0,9,11,39] [(35,35),(39,39)] (hH:=by simp[A1 (show i<l.length by omega)])) (⟨by simp[sliceAt],λk J=>by have:=x.2 k J;omega⟩) λ⟨S,a⟩ e=>?_;obtain⟨e,f⟩:=e;have L:a.length<40:=by
    have Z:=e.length_eq;have e2:=restK_len x.1 x.2 r;simp only[sliceAt_eq,B3,A6,B8]at Z;omega
   refine JM (it:=39) (id:=39) (ks:=Ci S) (vs:=Ht S) rfl rfl rfl rfl rfl rfl rfl rfl rfl rfl rfl rfl rfl rfl rfl bF bF bC bC (λJ=>?_) (λj hj=>?_)
   .have H:S=[]:=by simpa [Ci]using J
    subst H;simp;apply aF;have N:a.Perm (sliceAt l d i):=by simpa [restK]using e
    have ks:=CB a L;have Y:bP a=bP (sliceAt l d i):=by
     have K:=sliceAt_names (ts:=d) (i:=i) (readP_names (v q)).2 B r;exact(sortD_uniq N.symm K).symm
    refine aU (og 55 (.plain ⟨.own 2 ((bP a).map Df.d),true⟩)) ?_;simp;refine⟨by simpa using ks,?_⟩;apply aH;have y:=dW a;have D:A9 a.length (A7 Df.d (bP a))=A7 Df.d (bP a):=A0 (by rw[A6,y];exact A3 _);rw[Y]at y D;simp[g,Y,y,D]
   .have m:j<S.length:=by simpa [Ci]using hj
    obtain⟨k,n⟩:∃k,S[j]=k:=⟨_,rfl⟩;have A:k<l.length:=f k (by rw[<-n];exact C6 m);have o:=restK_erase (i:=i) m;simp[nkD_get,n];apply aP;simp;refine⟨λF=>?_,λF=>?_⟩
    .apply aI;simp[A];refine⟨aE,?_⟩;refine QT.mk (S.eraseIdx j,a++[l[k]]) (aA M [0,9,11,39] [(53,35),(39,39)]) ?_ ?_
     .refine⟨?_,λO u=>f O ((E6 S j).subset u)⟩;rw[n,if_neg aE]at o;have w:=(o.map λk=>l.getD k default).append_left a;refine List.Perm.trans ?_ (w.symm.trans e);simp[A1 A]
     .have:=D0 m;show(S.eraseIdx j).length<S.length;omega
    .apply aG;simp;refine QT.mk (S.eraseIdx j,a) (aA M [0,9,11,39] [(35,35),(39,39)]) ?_ ?_
     .refine⟨?_,λO u=>f O ((E6 S j).subset u)⟩;rw[n,if_pos aE]at o;have w:=(o.map λk=>l.getD k default).append_left a;exact w.symm.trans e
     .have:=D0 m;show(S.eraseIdx j).length<S.length;omega
end
theorem bA.sto:STO (λa b:bA=>Op.bytesLess a b):=by
 refine⟨λa=>?_,λa b c d e=>?_,λa b d e=>?_⟩
 .rw[bytesLess_eq,decide_eq_false_iff_not];exact List.lt_irrefl a
 .rw[bytesLess_eq,decide_eq_true_eq]at*;exact List.lt_trans d e
 .rw[bytesLess_eq,decide_eq_false_iff_not,H1]at d e;exact G0 e d
theorem dedup_sub{α:Type}[DecidableEq α]:∀l:List α,(fB l).Sublist l
 |a::b::r=>by
  have c:=dedup_sub (b::r);simp only[fB];split
  .exact c.cons _
  .exact c.cons_cons _
 |[]=>List.Sublist.refl _
 |[_]=>List.Sublist.refl _
theorem dedup_nodup{α:Type}[DecidableEq α]:∀{l:List α},l.Nodup->fB l=l
 |a::b::r,h=>by
  have c:=B7.1 h;simp only[fB];rw[if_neg (λe=>c.1 (by rw[e];exact C0 ..)),dedup_nodup c.2]
 |[],_=>rfl
 |[_],_=>rfl
theorem rising_nodup{α:Type}{c:α->α->Bool}(O:STO c){l:List α}(h:gE c l):l.Nodup:=h.imp λ{a b} h e=>by subst e;rw[O.irrefl]at h;cases h
theorem doubles{f:List bA}:(fB (eE f)).length<f.length↔¬f.Nodup:=by
 have c:(eE f).Perm f:=List.mergeSort_perm f _;have g:=kW f;constructor
 .intro h j;rw[dedup_nodup (c.nodup_iff.2 j),g]at h;exact Nat.lt_irrefl _ h
 .intro h;refine B6 λk=>h ?_;have i:=vZ (eE f);have e:fB (eE f)=eE f:=(dedup_sub (eE f)).eq_of_length aE;have d:gE (λa b:bA=>Op.bytesLess a b) (fB (eE f)):=qN bA.sto ((qQ f).imp λ{a b} h=>by
   rw[bytesLess_eq,decide_eq_false_iff_not,H1];exact h)
  rw[e]at d;exact c.nodup_iff.1 (rising_nodup bA.sto d)
def treeD(d:Df):Nd:=(parseS d.text).1
theorem idx_before{l:List Df}{b:List Nd}{i:Nat}{d:Df}(p:l[i]? =some d)(t:b.map Nd.text=(l.take i).map Df.name):uZ l d.name<(i:Int)↔(pX b d.name).isSome=true:=by
 obtain⟨v,u⟩:=D2.1 p;have x:b.length=i:=by have:=congrArg E7 t;simpa [E2 (Nat.le_of_lt v)]using this
 have c:∀j (g:j<b.length),b[j].text=(l[j]'aE).name:=λj g=>by
  have:=congrArg (·[j]?) t;simpa [A1 g,List.getElem?_take,show j<i by omega,A1 (show j<l.length by omega)]using this
 cases q:l.findIdx? (λe=>decide (e.name=d.name))with
 |none=>
  rw[B5]at q;have:=q d (C7 p);simp at this
 |some j=>
  have e:uZ l d.name=(j:Nat):=by unfold uZ;rw[zG,q];rfl
  obtain⟨g,f,m⟩:=A8.1 q;rw[e];constructor
  .intro h;have w:j<i:=aE;cases r:pX b d.name with
   |some _=>rfl
   |none=>
    unfold pX at r;rw[B5]at r;have:=r b[j] (C6 aE);rw[c j aE]at this;simp at f this;exact absurd f.symm this
  .intro h;obtain⟨k,s⟩:=Option.isSome_iff_exists.1 h;unfold pX at s;obtain⟨n,a,_⟩:=A8.1 s;simp at a;rw[c k n]at a;have:¬k<j:=λo=>by
    have:=m k o;simp[a]at this
   omega
theorem rdE_first{l:List Df}{k:List Nd}{i:Nat}{d:Df}(m:l[i]? =some d)(n:k.map Nd.text=(l.take i).map Df.name):KD k d=firstE l d i:=by
 unfold KD firstE;have g:=idx_before m n;have j:=doubles (f:=cQ (parseS d.text).1);by_cases a:(parseS d.text).2.2≠0
 .rw[if_pos a,if_pos a]
 .rw[if_neg a,if_neg a];by_cases b:(parseS d.text).1.text≠d.name
  .rw[if_pos b,if_pos b]
  .rw[if_neg b,if_neg b];by_cases c:uZ l d.name<(i:Int)
   .rw[if_pos c,if_pos (.inl (g.1 c))]
   .rw[if_neg c];by_cases e:(cQ (parseS d.text).1).Nodup
    .rw[if_pos e,if_neg];rintro(h|h)
     .exact c (g.2 h)
     .exact j.1 h e
    .rw[if_neg e,if_pos (.inr (j.2 e))]
theorem rdE_text{b:List Nd}{d:Df}(e:KD b d=0):(treeD d).text=d.name:=by
 unfold KD at e;split at e
 .exact absurd e (by assumption)
 .split at e
  .cases e
  .rename_i a;exact B6 a
theorem rdF_first{l:List Df}:∀(m i:Nat) (a:List Nd),i+m=l.length->a=(l.take i).map treeD->a.map Nd.text=(l.take i).map Df.name->(∀j<i,q1 l j=false)->
 (match eV (q1 l) l.length with|some k=>(EY a (l.drop i)).2=((k:Int),firstE l (l.getD k default) k)/\(EY a (l.drop i)).2.2≠0|none=>EY a (l.drop i)=(l.map treeD,(l.length:Int),0))
 |0,i,a,hm,ht,_,hq=>by
  have b:i=l.length:=aE;subst b;rw[zD hq,List.drop_length,EY,ht,C5];simp
 |m+1,i,a,hm,ht,hn,hq=>by
  have b:i<l.length:=aE;have o:l[i]? =some l[i]:=A1 b;have f:l.getD i default=l[i]:=by rw[A5,o];rfl
  have e:=rdE_first o hn;rw[D3 b];by_cases c:firstE l l[i] i=0
  .have h:q1 l i=false:=by unfold q1;rw[f];simpa using c
   have n:=rdE_text (e.trans c);have d:l.take (i+1)=l.take i++[l[i]]:=A2 b;have r:=rdF_first (l:=l) m (i+1) (a++[treeD l[i]]) aE (by rw[d,B1,ht];rfl) (by rw[d,B1,B1,hn];simp[n]) λj g=>by
    rcases Nat.lt_succ_iff_lt_or_eq.1 g with g|rfl
    .exact hq j g
    .exact h
   rw[KF (e.trans c)];exact r
  .have p:eV (q1 l) l.length=some i:=zC b hq (by unfold q1;rw[f];simpa using c);rw[p,wJ (by rw[e];exact c),e];have q:a.length=i:=by rw[ht];simp;omega
   simp only[f,q];exact⟨trivial,c⟩
theorem readP_first{l:List Df}(h:l.length<=24):(match eV (q1 l) l.length with|some k=>(dR l).2=((k:Int),firstE l (l.getD k default) k)/\(dR l).2.2≠0|none=>dR l=(l.map treeD,(l.length:Int),0)):=by
 have:=rdF_first (l:=l) l.length 0 [] aE bC bC (λj h=>absurd h (G3 _));unfold dR;rw[if_neg aE];simpa using this
def combE(a b:Int):Int:=if b=0 then a else kD a b
def clsB(a b c:Bool):Int:=if a=true then 6 else if b=true then 12 else if c=true then -1 else 0
def clsE(e:dF->Int)(us:List dF):Int:=clsB (us.any λu=>decide (e u=6)) (us.any λu=>decide (e u=12)) (us.any λu=>decide (e u= -1))
theorem combE_four{a b:Int}(c:qC a)(d:qC b):qC (combE a b):=by
 rcases c with rfl|rfl|rfl|rfl<;>rcases d with rfl|rfl|rfl|rfl<;>simp[combE,kD,Ms,qC]
theorem combE_assoc{a b c:Int}(d:qC a)(e:qC b)(f:qC c):combE (combE a b) c=combE a (combE b c):=by
 rcases d with rfl|rfl|rfl|rfl<;>rcases e with rfl|rfl|rfl|rfl<;>rcases f with rfl|rfl|rfl|rfl<;>decide
theorem clsB_four(a b c:Bool):qC (clsB a b c):=by cases a<;>cases b<;>cases c<;>simp[clsB,qC]
theorem clsE_four(e:dF->Int)(a:List dF):qC (clsE e a):=clsB_four _ _ _
theorem clsE_cons{e:dF->Int}{u:dF}{d:List dF}(h:qC (e u)):clsE e (u::d)=combE (e u) (clsE e d):=by
 unfold clsE;simp only[F1];generalize d.any (λu=>decide (e u=6))=a;generalize d.any (λu=>decide (e u=12))=b;generalize d.any (λu=>decide (e u= -1))=c;generalize e u=x at*;rcases h with rfl|rfl|rfl|rfl<;>cases a<;>cases b<;>cases c<;>decide
theorem misF_cls(a:List Nd)(b:List dF):De a b=clsE (jH a) b:=by
 have e:∀(b:List dF) (o:Int),qC o->b.foldl (λc u=>if jH a u=0 then c else kD c (jH a u)) o=combE o (clsE (jH a) b):=λb=>by
  induction b with
  |nil=>intro o _;simp[clsE,clsB,combE]
  |cons u r ih=>
   intro o f;have d:=Dg a u;have g:(if jH a u=0 then o else kD o (jH a u))=combE o (jH a u):=rfl;rw[C9,g,ih _ (combE_four f d),combE_assoc f d (clsE_four _ r),clsE_cons d]
 have:=e b 0 (.inl rfl);rw[De,this];rcases clsE_four (jH a) b with h|h|h|h<;>rw[h]<;>decide
theorem atN_find{l:List Df}{b:List Nd}(h:b.map Nd.text=l.map Df.name)(a:bA):pX b a=l.findIdx? λd=>decide (d.name=a):=by
 have c:(b.map Nd.text).findIdx? (λs=>decide (a=s))=b.findIdx? (λt=>decide (a=t.text)):=by rw[F6];rfl
 have e:(l.map Df.name).findIdx? (λs=>decide (a=s))=l.findIdx? (λd=>decide (a=d.name)):=by rw[F6];rfl
 unfold pX;rw[<-c,h,e];congr 1;funext d;simp[eq_comm]
theorem idxN_at{l:List Df}{ts:List Nd}(h:ts.map Nd.text=l.map Df.name)(a:bA):uZ l a=xA (pX ts a):=by
 rw[atN_find h];unfold uZ;rw[zG]
theorem tAt_at{l:List Df}(h:(l.map treeD).map Nd.text=l.map Df.name){d:bA}{j:Nat}(c:pX (l.map treeD) d=some j):tAt l d=(l.map treeD).getD j default:=by
 have a:=yT c;have b:j<l.length:=by simpa using a
 unfold tAt;rw[idxN_at h,c];simp only[xA,D5];rw[A5,A5,A1 b,A1 a,D8,D8,D7];rfl
theorem any_congr'{a:List dF}{p q:dF->Bool}(h:∀u∈a,p u=q u):a.any p=a.any q:=by
 induction a with
 |nil=>rfl
 |cons u r ih=>rw[F1,F1,h u (C0 ..),ih λv b=>h v (B9 _ b)]
theorem mis_second{l:List Df}(h:(l.map treeD).map Nd.text=l.map Df.name)(x:Nd):Hs (l.map treeD) x=secondE l (bZ x):=by
 have k:∀u,p1 l u=decide (jH (l.map treeD) u=6):=λu=>by
  unfold p1 jH;rw[idxN_at h];cases b:pX (l.map treeD) u.name with
  |none=>simp[xA]
  |some j=>
   simp only[xA];have:¬((j:Int)<0):=aE;split
   .simp[this]
   .split<;>simp[this]
 have n:∀u j,pX (l.map treeD) u.name=some j->jH (l.map treeD) u=if((l.map treeD).getD j default).kind≠u.kind then 12 else if u.kind=1/\u.field∉cQ ((l.map treeD).getD j default)then -1 else 0:=λu j b=>by unfold jH;rw[b]
 have m:∀u,p1 l u=false->p2 l u=decide (jH (l.map treeD) u=12):=λu a=>by
  unfold p1 at a;rw[idxN_at h]at a;unfold p2;cases b:pX (l.map treeD) u.name with
  |none=>rw[b]at a;simp[xA]at a
  |some j=>
   rw[tAt_at h b,n u j b];generalize(l.map treeD).getD j default=y;by_cases f:y.kind≠u.kind
   .rw[if_pos f];simp[f]
   .rw[if_neg f];by_cases d:u.kind=1/\u.field∉cQ y
    .rw[if_pos d];simpa using f
    .rw[if_neg d];simpa using f
 have r:∀u,p1 l u=false->p2 l u=false->p3 l u=decide (jH (l.map treeD) u= -1):=λu a e=>by
  unfold p1 at a;rw[idxN_at h]at a;unfold p2 at e;unfold p3;cases b:pX (l.map treeD) u.name with
  |none=>rw[b]at a;simp[xA]at a
  |some j=>
   rw[tAt_at h b]at e|-;rw[n u j b];generalize(l.map treeD).getD j default=y at*;rw[if_neg (by simpa using e)];by_cases d:u.kind=1/\u.field∉cQ y
   .rw[if_pos d];simp only[d,not_false_eq_true,and_self]
   .rw[if_neg d,decide_eq_false d];rfl
 unfold Hs;rw[misF_cls];unfold clsE clsB secondE;rw[any_congr' (p:=p1 l) λu _=>k u];by_cases i:(bZ x).any (λu=>decide (jH (l.map treeD) u=6))=true
 .simp only[i,if_true];decide
 .have g:∀u∈bZ x,p1 l u=false:=λu a=>by
   rw[k];have:=λq=>i (G1.2 ⟨u,a,q⟩);simpa using this
  rw[any_congr' (p:=p2 l) λu a=>m u (g u a)];simp only[if_neg i];by_cases c:(bZ x).any (λu=>decide (jH (l.map treeD) u=12))=true
  .simp only[c,if_true];decide
  .have s:∀u∈bZ x,p2 l u=false:=λu a=>by
    rw[m u (g u a)];have:=λq=>c (G1.2 ⟨u,a,q⟩);simpa using this
   rw[any_congr' (p:=p3 l) λu a=>r u (g u a) (s u a)];simp only[if_neg c];by_cases o:(bZ x).any (λu=>decide (jH (l.map treeD) u= -1))=true
   .simp only[o,if_true]
   .simp only[if_neg o];decide
inductive RchG{α:Type}(S:α->α->Prop):α->α->Prop
 |one {i k:α}:S i k->RchG S i k
 |more {i j k:α}:RchG S i j->S j k->RchG S i k
theorem RchG.head{α:Type}{S:α->α->Prop}{i j k:α}(h:S i j)(r:RchG S j k):RchG S i k:=by
 induction r with
 |one h2=>exact .more (.one h) h2
 |more _ h2 ih=>exact .more ih h2
def StepI(ts:List Nd)(b:Int->Bool)(i k:Nat):Prop:=∃u∈bZ (ts.getD i default),b u.bk=true/\pX ts u.name=some k
theorem folF_reach(a:List Nd)(b:Int->Bool):∀(f i:Nat) (M:List Nat),UO a.length M<f->
 (∀k∈iE a b f i M,k∈M\/RchG (StepI a b) i k)/\(∀k,StepI a b i k->k∈iE a b f i M)/\∀j∈iE a b f i M,j∉M->∀k,StepI a b j k->k∈iE a b f i M
 |0,_,_,h=>absurd h (G3 _)
 |f+1,i,M,h=>by
  rw[Dh];have G:∀(s:List dF) (m:List Nat),(∀u∈s,u∈bZ (a.getD i default))->UO a.length m<f+1->
   (∀k∈s.foldl (kZ a b (iE a b f)) m,k∈m\/RchG (StepI a b) i k)/\(∀u∈s,∀k,b u.bk=true->pX a u.name=some k->k∈s.foldl (kZ a b (iE a b f)) m)/\
   ∀j∈s.foldl (kZ a b (iE a b f)) m,j∉m->∀k,StepI a b j k->k∈s.foldl (kZ a b (iE a b f)) m:=λs=>by
   induction s with
   |nil=>exact λm _ _=>⟨λk g=>.inl g,bC,λj c p=>absurd c p⟩
   |cons u r ihr=>
    intro m w O;rw[C9];obtain⟨n,d⟩:∃n,kZ a b (iE a b f) m u=n:=⟨_,rfl⟩;have A:∀k∈m,k∈n:=λk g=>by rw[<-d];exact Bq a b f m u k g
    have F:UO a.length n<f+1:=Nat.lt_of_le_of_lt (YQ A) O;obtain⟨P,Q,S⟩:=ihr n (λv B=>w v (B9 _ B)) F;have o:∀k∈n,k∈r.foldl (kZ a b (iE a b f)) n:=λk g=>sY (Bq a b f) r n k g;have q:(∀k∈n,k∈m\/RchG (StepI a b) i k)/\(∀k,b u.bk=true->pX a u.name=some k->k∈n)/\∀j∈n,j∉m->∀k,StepI a b j k->k∈n:=by
     unfold kZ at d;split at d
     .rename_i k g;split at d
      .rename_i D;have z:StepI a b i k:=⟨u,w u (C0 ..),D.1,g⟩;obtain⟨H,I,J⟩:=folF_reach a b f k (m++[k]) (by have:=YR (yT g) D.2;omega);have E:k∈n:=by rw[<-d];exact Bp a b f k _ k bC
       rw[d]at H I J;refine⟨λj c=>?_,λC _ l=>?_,λj c p C y=>?_⟩
       .rcases H j c with c|c
        .rcases E1.1 c with c|c
         .exact .inl c
         .simp at c;subst c;exact .inr (.one z)
        .exact .inr (.head z c)
       .rw[g]at l;injection l with e;subst e;exact E
       .by_cases e:j=k
        .subst e;exact I C y
        .exact J j c (by simp[p,e]) C y
      .rename_i D;subst d;refine⟨λj c=>.inl c,λC t l=>?_,λj c p=>absurd c p⟩;rw[g]at l;injection l with e;subst e
       exact B6 λp=>D ⟨t,p⟩
     .rename_i g;subst d;exact⟨λj c=>.inl c,λC _ l=>(by rw[g]at l;cases l),λj c p=>absurd c p⟩
    rw[d];refine⟨λk g=>?_,λv B k t g=>?_,λj c p k y=>?_⟩
    .rcases P k g with h|h
     .exact q.1 k h
     .exact .inr h
    .rcases C3.1 B with rfl|B
     .exact o k (q.2.1 k t g)
     .exact Q v B k t g
    .by_cases x:j∈n
     .exact o k (q.2.2 j x p k y)
     .exact S j c x k y
  obtain⟨K,L,N⟩:=G (bZ (a.getD i default)) M (λu w=>w) h;exact⟨K,λk ⟨u,w,t,g⟩=>L u w k t g,N⟩
theorem reachI_iff(a:List Nd)(b:Int->Bool)(i k:Nat):k∈kE a b i↔RchG (StepI a b) i k:=by
 obtain⟨c,d,e⟩:=folF_reach a b (a.length+1) i [] (Nat.lt_succ_of_le (D9 (E4 _ _) bC));constructor
 .intro h;rcases c k h with h|h
  .cases h
  .exact h
 .intro h;induction h with
  |one hs=>exact d _ hs
  |more _ hs ih=>exact e _ ih bC _ hs
end Go.Eng
