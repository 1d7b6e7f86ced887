/- Part 10 of the proof. No condition. -/
import Derived.Test.YtepoffhhiddlkaaGreatDoorMI
import Derived.Test.YtepoffhhiddlkaaGreatDoorProg
import Derived.RangeFuncNested
import Derived.Maps.RangeRun
import Derived.Shelf.SlIter.Collect
open Go.Proofs
open Go.Proofs.Tryz
set_option linter.unusedVariables false
set_option linter.unusedSimpArgs false
set_option maxRecDepth 20000
set_option maxHeartbeats 4000000
open List renaming getElem?_eq_getElem→A0,take_of_length_le→A1,take_succ_eq_append_getElem→A2,length_map→A5,getD_eq_getElem?_getD→A6,map_append→A7,findIdx?_eq_some_iff_getElem→A8,eraseIdx_eq_take_drop_succ→A9,map→B0,mem_map→B2,length_append→B3,mem_cons_of_mem→B4,take→B5,findIdx?_eq_none_iff→B6,mem_cons_self→B7,nodup_cons→B8,length_cons→B9,foldl_cons→C0,getElem_of_mem→C2,map_cons→C3,map_take→C4,mem_cons→C5,mem_of_getElem?→C6,getElem?_eq_some_iff→C7,take_length→C8,getElem_mem→C9,mem_append→D0,length_nil→D1,length_eraseIdx_of_lt→D3,pairwise_iff_getElem→D4,drop_eq_getElem_cons→D5,getElem?_append_left→D6,nodup_append→D7,getElem?_map→D8,length_take→E0,getElem_map→E1,mem_filter→E3,take_append_drop→E5,length_filter_le→E6,length_singleton→E7,eraseIdx_sublist→E8,length→E9,append_toArray→F2,map_drop→F3,any_cons→F4,size_toArray→F5,push_toArray→F6,findIdx?_map→F8,cons_append→F9,ext_getElem→G0,mem_flatMap→G1,le_antisymm→G2,any_eq_true→G3,prefix_refl→G4,nil_append→G5,range→G8,take_take→G9,mem_range→H0,map_map→H3,not_lt→H4
open Nat renaming le_refl→A4,zero_le→C1,le_trans→D2,not_lt_zero→E4,min_eq_left→G7,reduceAdd→H1,reduceSub→H2
open Int renaming toNat_natCast→D9
open Option renaming getD_some→E2,map_some→G6
open Array renaming getElem?_eq_some_iff→A3,replicate_succ→F0,replicate_zero→F1
open Bool renaming eq_false_iff→F7
open Classical renaming byContradiction→B1
namespace Go.Eng
section
attribute[local simp] aR bK bE aO aL aZ aP
attribute[local simp] kJ.cond Nd.d_eq nd_t nd_dr nd_td ndsD aU bL
theorem KN:∀(n:Nat) (P B C S:List Df) (a m b N:Nat),aAc P B C S a m b N->B.length+C.length<n->GW P B C S a m b N
 |0,_,_,_,_,_,_,_,_,_,h=>aD
 |n+1,P,B,C,S,a,m,b,N,h,hn=>Ns P B C S a m b N h λe c d f g k i j l=>KN n e c d f g k i N j aD
theorem Nt(l:List Df)(p:20<=l.length)(H:l.length<40):mH prog 152 [.ow 0 0 l.length,.d (aI l.length),.d (.fn 83 [])] [(0,.row false 2 (l.map Df.d))] [(0,.row false 2 ((bR l).map Df.d))] (.tup []):=by
 obtain⟨A,x⟩:∃A,l.take 20=A:=⟨_,rfl⟩;obtain⟨B,F⟩:∃B,l.drop 20=B:=⟨_,rfl⟩;have a:l=A++B:=by rw[<-x,<-F,E5]
 have I:A.length=20:=by rw[<-x,E0];omega
 obtain⟨n,y⟩:∃n,l.length=n:=⟨_,rfl⟩;have w:20+B.length=n:=by rw[<-y,a,B3];omega
 have z:=ET [] A B kH;have b:=ET (bR A) B [] (by simp[fQ];omega);have u:GW [] (bR A) (bR B) [] 0 20 n n\/B.length=0:=by
  by_cases e:B.length=0
  .exact .inr e
  .exact .inl (KN _ _ _ _ _ _ _ _ _ ⟨by rw[fQ];omega,by rw[fQ];omega,nU A,nU B,rfl,by rw[fQ];omega,by rw[fQ];omega,rfl,aD⟩ (Nat.lt_succ_self _))
 unfold GW at u;rw[y]at p H|-;have d:kY (bR A) (bR B)=bR l:=by rw[Sr,a]
 simp[fQ,I,w,show(20:Int)+(B.length:Int)=(n:Int)by omega]at z b;simp[d]at u;refine oX func152 rfl ntmps152 results152 λJ X c=>?_;apply aE;simp;apply aE;simp;apply eE;refine bC (ι:=Nat×List Df) (λ⟨i,r⟩=>bB [(0,.ow 0 0 n),(1,.d (aI (n:Nat))),(2,.d (.fn 83 [])),(6,.d (aI 20)),(7,.d (aI (20*i:Nat))),(8,.d (aI (20*i+20:Nat)))]) (λ⟨i,r⟩=>aK [(0,.row false 2 (r.map Df.d))]) (λ⟨i,r⟩=>i<=1/\(i=0->l=r)/\(i=1->bR A++B=r)) (λ⟨i,r⟩=>1-i) (0,l) (aA c [0,1,2,6,7,8] [(0,0)]) (⟨aD,λ_=>rfl,λh=>aD⟩) λ⟨i,r⟩ s=>?_;apply fL;obtain⟨C,f,o⟩:=s;apply aJ;simp;apply aM;simp;refine⟨λD=>?_,λD=>?_⟩
 .have g:i=0:=aD;subst g;have er:=f rfl;subst er;apply aG;simp;apply aY;refine dF (oh 18 [(0,.row false 2 ((bR A++B).map Df.d))] (.tup [])) ?_;simp[a];refine⟨by simpa using z,?_⟩;apply aE;simp;apply aJ;simp;refine Oe.mk (1,bR A++B) (aA c [0,1,2,6,7,8] [(0,0)]) ?_ ?_
  .exact⟨A4 _,(λh=>by cases h),λ_=>rfl⟩
  .dsimp only;omega
 .have g:i=1:=aD;subst g;have er:=o rfl;subst er;apply bQ;simp;refine dF (oh 27 [(0,.row false 2 ((bR A++bR B).map Df.d))] (.tup [])) ?_;simp;refine⟨by simpa using b,?_⟩;apply aY;refine bC (ι:=Nat×List Df) (λ⟨k,r⟩=>bB [(0,.ow 0 0 n),(1,.d (aI (n:Nat))),(2,.d (.fn 83 [])),(6,.d (aI (20*k+20:Nat)))]) (λ⟨k,r⟩=>aK [(0,.row false 2 (r.map Df.d))]) (λ⟨k,r⟩=>k<=1/\(k=0->bR A++bR B=r)/\(k=1->bR l=r)) (λ⟨k,r⟩=>1-k) (0,bR A++bR B) (aA c [0,1,2,6] [(0,0)]) (⟨aD,λ_=>rfl,λh=>aD⟩) λ⟨k,r⟩ t=>?_;apply fL;obtain⟨C,f,o⟩:=t;apply aJ;simp;apply aM;simp;refine⟨λE=>?_,λE=>?_⟩
  .have j:k=0:=aD;subst j;have er:=f rfl;subst er;have v:=u.resolve_right (λe=>by rw[e]at w;simp at w;omega);apply aG;simp;apply aY;apply aE;simp;apply eE;refine bC (ι:=Nat) (λb=>bB [(0,.ow 0 0 n),(1,.d (aI (n:Nat))),(2,.d (.fn 83 [])),(6,.d (aI 20)),(7,.d (aI 0)),(8,.d (aI 40))]) (λb=>aK [(0,.row false 2 ((bR A++bR B).map Df.d))]) (λb=>True) (λb=>0) 0 (aA c [0,1,2,6,7,8] [(0,0)]) (trivial) λb G=>?_;apply aF;apply bF;simp[(show¬(40<=(n:Int))by omega)];apply bQ;simp;apply eT;simp;apply bF;simp[(show(20:Int)<n by omega)];refine bH (oh 60 [(0,.row false 2 ((bR l).map Df.d))] (.tup [])) ?_;simp;refine⟨by simpa using v,?_⟩;apply aJ;simp;refine Oe.mk (1,bR l) (aA c [0,1,2,6] [(0,0)]) ?_ ?_
   .exact⟨A4 _,(λh=>by cases h),λ_=>rfl⟩
   .dsimp only;omega
  .have er:bR l=r:=by
    by_cases j:k=1
    .exact o j
    .have m:k=0:=aD;subst m;have q:B.length=0:=aD;rw[<-f rfl,<-d,List.eq_nil_of_length_eq_zero q];simp[bR,EX]
   subst er;apply bQ;simp;exact aA c [] [(0,0)]
theorem Nu(l:List Df)(e:l.length<20):mH prog 152 [.ow 0 0 l.length,.d (aI l.length),.d (.fn 83 [])] [(0,.row false 2 (l.map Df.d))] [(0,.row false 2 ((bR l).map Df.d))] (.tup []):=by
 refine oX func152 rfl ntmps152 results152 λf X a=>?_;apply aE;simp;apply aE;simp;apply eE;refine bC (ι:=Nat) (λi=>bB [(0,.ow 0 0 l.length),(1,.d (aI (l.length:Nat))),(2,.d (.fn 83 [])),(6,.d (aI 20)),(7,.d (aI 0)),(8,.d (aI 20))]) (λi=>aK [(0,.row false 2 (l.map Df.d))]) (λi=>True) (λi=>0) 0 (aA a [0,1,2,6,7,8] [(0,0)]) (trivial) λi b=>?_;apply aF;apply bF;simp[(show¬(20<=(l.length:Int))by omega)];apply bQ;simp;apply aF;have d:=ET [] l [] kH;refine bH (oh 27 [(0,.row false 2 ((bR l).map Df.d))] (.tup [])) ?_;simp;refine⟨by simpa using d,?_⟩;apply aY;refine bC (ι:=Nat) (λi=>bB [(0,.ow 0 0 l.length),(1,.d (aI (l.length:Nat))),(2,.d (.fn 83 [])),(6,.d (aI 20)),(7,.d (aI 0)),(8,.d (aI 20))]) (λi=>aK [(0,.row false 2 ((bR l).map Df.d))]) (λi=>True) (λi=>0) 0 (aA a [0,1,2,6,7,8] [(0,0)]) (trivial) λi c=>?_;apply aF;apply bF;simp[(show¬(20<(l.length:Int))by omega)];apply bQ;simp;exact aA a [] [(0,0)]
theorem Su(l:List Df)(a:l.length<40):mH prog 152 [.ow 0 0 l.length,.d (aI l.length),.d (.fn 83 [])] [(0,.row false 2 (l.map Df.d))] [(0,.row false 2 ((bR l).map Df.d))] (.tup []):=by
 by_cases e:l.length<20
 .exact Nu l e
 .exact Nt l aD a
theorem Fv(l:List Df)(a:l.length<40):mH prog 82 [.ow 0 0 l.length,.d (.fn 83 [])] [(0,.row false 2 (l.map Df.d))] [(0,.row false 2 ((bR l).map Df.d))] (.tup []):=by
 refine oX func82 rfl ntmps82 results82 λd X b=>?_;have c:=Su l a;refine bH (oh 8 [(0,.row false 2 ((bR l).map Df.d))] (.tup [])) ?_;simp;refine⟨by simpa using c,?_⟩;exact aA b [] [(0,0)]
theorem Nv(l:List Df)(d:l.length<=1000000000000):Ok prog 81 [gB l] ⟨.own 2 (l.map Df.d),true⟩:=by
 refine bU func81 rfl ntmps81 results81 λf X e=>?_;apply aE;simp;apply fL;refine DW hT hW 4 (decide (l=[])) (λ_=>none) (λ_=>⟨rfl,λ_ h=>h⟩) jM λc a=>?_;simp;apply aM;simp;refine⟨λb=>?_,λb=>?_⟩
 .apply aE;simp;apply aH;have:=a b;simp at this;simp[this]
 .apply aG;simp;apply aE;simp;refine⟨aD,?_⟩;apply aH;simp
theorem Dj(l:List Df)(b:l.length<40):Ok prog 24 [gB l] ⟨.own 2 ((bR l).map Df.d),true⟩:=by
 refine bU func24 rfl ntmps24 results24 λf X e=>?_;apply aE;simp;apply aF;have c:=Nv l aD;refine bH (og 5 (.plain ⟨.own 2 (l.map Df.d),true⟩)) ?_;simp;refine⟨by simpa using c,?_⟩;apply aF;have d:=Fv l b;refine bH (og 7 (.gen ⟨[(5,0)],[],[],[(0,.row false 2 ((bR l).map Df.d))],.tup []⟩)) ?_;simp;refine⟨by simpa using d,?_⟩;apply aE;simp;apply aH;have a:B5 l.length (B0 Df.d (bR l))=B0 Df.d (bR l):=A1 (by rw[A5,fQ];exact A4 _);simp[fQ,a]
theorem Bb(l:List Df):Ok prog 34 [gB l] ⟨.tup [.d (aI (iV l).2.1),.d (aI (iV l).2.2)],true⟩:=by
 refine Ok.two func34 jM (c:=_) rfl ntmps34 bA results34 rfl λd X b=>?_;apply aE;simp;apply aF;have a:=ER l;refine bH (og 9 (.plain ⟨.tup [.d (pgD (iV l).1),.d (aI (iV l).2.1),.d (aI (iV l).2.2)],false⟩)) ?_;simp[bM];refine⟨⟨by simpa using a,by simp[pgD]⟩,?_⟩;simp[pgD];apply aE;simp;apply aH;simp
def iL(ts:List Nd):List aV:=(ts.filter λt=>decide (t.kind=6)).map Nd.text
theorem KO{a:List Nd}{i:Nat}(h:i<a.length):iL (a.take (i+1))=if a[i].kind=6 then iL (a.take i)++[a[i].text]else iL (a.take i):=by
 unfold iL;rw[A2 h,List.filter_append,A7];by_cases e:a[i].kind=6<;>simp[e]
theorem EY(a:List Nd):(iL a).length<=a.length:=by unfold iL;rw[A5];exact E6 _ _
def In(l:List Df):List aV:=if(iV l).2.2≠0 then []else dZ (iL (iV l).1)
theorem Io(l:List Df):(iV l).1=(dK l).1:=by
 unfold iV;split
 .rfl
 .split
  .rfl
  .split<;>rfl
theorem Wp(l:List Df):Ok prog 36 [gB l] ⟨.own 1 ((In l).map .str),true⟩:=by
 refine bU func36 rfl ntmps36 results36 λu X j=>?_;obtain⟨a,d⟩:∃a,(iV l).1=a:=⟨_,rfl⟩;have n:a.length<=24:=by rw[<-d,Io];exact(uB l).2.1
 have b:In l=if(iV l).2.2≠0 then []else dZ (iL a):=by rw[<-d];rfl
 apply aE;simp;apply aF;have p:=ER l;rw[d]at p;refine bH (og 11 (.plain ⟨.tup [.d (pgD a),.d (aI (iV l).2.1),.d (aI (iV l).2.2)],false⟩)) ?_;simp[bM];refine⟨⟨by simpa using p,by simp[pgD]⟩,?_⟩;simp[pgD];apply aF;apply bF;simp;refine⟨λg=>?_,λg=>?_⟩
 .rw[if_pos g]at b;apply aE;simp;apply aH;simp[b]
 .rw[if_neg (by simpa using g)]at b;apply aG;simp;apply aE;simp;apply eT;simp;apply aY;refine bC (ι:=Nat) (λi=>bB [(6,.ow 6 0 (iL (a.take i)).length),(18,.d (ndsD a)),(19,.d (aI (a.length:Nat))),(20,.d (aI (i:Nat)))]) (λi=>aK [(6,.row false 1 ((iL (a.take i)).map .str))]) (λi=>i<=a.length) (λi=>a.length-i) 0 (aA j [6,18,19,20] [(6,6)] (by simp[iL]) (by simp[iL])) (C1 _) λi r=>?_;apply aE;simp;apply aF;apply aM;simp;refine⟨λq=>?_,λq=>?_⟩
  .apply aG;simp;apply eE;apply aF;have m:i<a.length:=aD;obtain⟨t,o⟩:∃t,a[i]=t:=⟨_,rfl⟩;have c:=KO m;have f:=EY (a.take i);rw[E0]at f;rw[o]at c;apply aJ;simp[m,o];apply bF;simp;refine⟨λh=>?_,λh=>?_⟩
   .simp only[if_pos h]at c;apply aJ;simp;refine⟨aD,?_⟩;apply aJ;simp;refine⟨aD,?_⟩;refine Oe.mk (i+1) (aA j [6,18,19,20] [(31,6)] (by simp[c]) (by simp[c])) ?_ ?_
    .omega
    .omega
   .simp only[if_neg h]at c;apply aG;simp;apply aJ;simp;refine⟨aD,?_⟩;refine Oe.mk (i+1) (aA j [6,18,19,20] [(6,6)] (by simp[c]) (by simp[c])) ?_ ?_
    .omega
    .omega
  .apply bQ;simp;apply aF;have e:i=a.length:=aD;subst e;rw[C8];have f:=EY a;have s:=Ad (iL a) aD;refine bH (og 34 (.gen ⟨[(6,0)],[],[],[(0,.row false 1 ((dZ (iL a)).map .str))],.tup []⟩)) ?_;simp;refine⟨by simpa using s,?_⟩;apply aE;simp;apply aH;have k:B5 (iL a).length (B0 DV.str (dZ (iL a)))=B0 DV.str (dZ (iL a)):=A1 (by rw[A5,kF];exact A4 _);simp[b,kF,k]
def jT(d:Df):aV:=if(parseS d.text).2.2≠0 then d.text else printS (parseS d.text).1
theorem Ae(d:Df):Ok prog 89 [d.d] ⟨.d (.str (jT d)),true⟩:=by
 refine bU func89 rfl ntmps89 results89 λj X i=>?_;obtain⟨P,f⟩:∃P,parseS d.text=P:=⟨_,rfl⟩;have e:=wX d.text;have a:=qP d.text;have b:jT d=if P.2.2≠0 then d.text else printS P.1:=by unfold jT;rw[f]
 rw[f]at e a;obtain⟨x,g⟩:∃x,P.1=x:=⟨_,rfl⟩;rw[g]at e a b;apply aE;simp;refine dF (og 9 (.plain ⟨.tup [.d x.d,.d (aI P.2.1),.d (aI P.2.2)],false⟩)) ?_;simp[bM];refine⟨by simpa using e,?_⟩;apply aF;apply bF;simp;refine⟨λc=>?_,λc=>?_⟩
 .rw[if_pos c]at b;apply aE;simp;apply aH;simp[b]
 .rw[if_neg (by simpa using c)]at b;apply aG;simp;apply aF;have h:=JJ x a;refine bH (og 18 (.plain ⟨.d (.str (printS x)),true⟩)) ?_;simp;refine⟨by simpa using h,?_⟩;apply aH;simp[b]
end
section
open Go.RowKit Go.Maps Go.Sort Go.Shelf Go.Proofs
open Go.ChangeMaps (setBlock)
open Go.ChangeMaps (setBlock)
section
variable{P:Program} {F:Fence} {n:Nat} (w:World) {ops:Array Oper} {rest:List Oper} {o:Oper} {a:Act} {Q:Exit->Act->World->Prop}
structure Nw(es:Array MapEntry)(vs:List MapEntry)(seen:Array Nat):Prop where
 mem:∀e∈vs,e∈es.toList
 nd:(vs.map (·.born)).Nodup
 seen:seen.toList=vs.map (·.born)
theorem EZ{b:Array MapEntry}{a:Nat}(h:gF b a):(b.toList.map (·.born)).Nodup:=by
 rw[List.Nodup,List.pairwise_map,D4];intro i j d f c e;have:=h.2 i j _ _ bA bA e;omega
theorem uC{α β:Type}{f:α->β}:∀{l:List α},(l.map f).Nodup->l.Nodup
 |[],_=>bA
 |a::l,h=>by
  simp only[C3,B8]at h|-;exact⟨λb=>h.1 (B2.2 ⟨a,b,rfl⟩),uC h.2⟩
theorem Nw.perm{c:Array MapEntry}{b:Nat}{m:List MapEntry}{a:Array Nat}(h:Nw c m a)(o:gF c b)(q:(leftOf c a).size=0):m.Perm c.toList:=by
 refine(List.perm_ext_iff_of_nodup (uC h.nd) (uC (EZ o))).2 λe=>⟨h.mem e,λp=>?_⟩;have r:e.born∈a:=by
  have:leftOf c a= #[]:=Array.eq_empty_of_size_eq_zero q;unfold leftOf at this;rw[Array.filter_eq_empty_iff]at this;have:=this e (by simpa using p);simpa using this
 have l:e.born∈m.map (·.born):=by rw[<-h.seen];simpa using r
 obtain⟨n,d,k⟩:=B2.1 l;obtain⟨i,s,f⟩:=C2 p;obtain⟨j,t,g⟩:=C2 (h.mem n d);have:=o.2 j i n e (by rw[<-g];simp) (by rw[<-f];simp) k;subst this;rw[<-f,g];exact d
theorem Nw.step{d:Array MapEntry}{g:List MapEntry}{a:Array Nat}(h:Nw d g a){e:MapEntry}(c:e∈(leftOf d a).toList):Nw d (g++[e]) (a.push e.born):=by
 unfold leftOf at c;simp only[Array.toList_filter,E3,Bool.not_eq_true']at c;refine⟨λx b=>?_,?_,by simp[h.seen]⟩
 .rcases D0.1 b with b|b
  .exact h.mem x b
  .simp at b;subst b;exact c.1
 .rw[A7,D7];refine⟨h.nd,bA,λx b y f i=>?_⟩;simp at f;subst f;subst i;rw[<-h.seen]at b;have:=c.2;simp at this;exact this (by simpa using b)
theorem Fa:∀{l m:List Nat},l.Nodup->(∀x∈l,x∈m)->l.length<=m.length
 |[],_,_,_=>C1 _
 |a::l,m,h,hs=>by
  simp only[B8]at h;have b:a∈m:=hs a (B7 ..);have:=Fa h.2 (m:=m.erase a) (λx c=>(List.mem_erase_of_ne (show x≠a from λe=>by subst e;exact h.1 c)).2 (hs x (B4 _ c)));rw[List.length_erase_of_mem b]at this;have:=List.length_pos_of_mem b;simp only[B9];omega
theorem Nw.size{c:Array MapEntry}{b:Nat}{vs:List MapEntry}{a:Array Nat}(h:Nw c vs a)(i:gF c b):a.size<=c.size:=by
 have d:a.size=vs.length:=by have:=congrArg E9 h.seen;simpa using this
 rw[d];have:=Fa h.nd (m:=c.toList.map (·.born)) (λx g=>by obtain⟨e,f,rfl⟩:=B2.1 g;exact B2.2 ⟨e,h.mem e f,rfl⟩);simpa using this
theorem Fw{w:World}{r:Nat}{o o':Obj}(h:w.heap[r]? =some o):(setBlock w r o').heap[r]? =some o'/\∀k,k≠r->(setBlock w r o').heap[k]? =w.heap[k]? :=by
 have a:=(A3.1 h).1;refine⟨by simp[setBlock,a],λk b=>?_⟩;simp only[setBlock];rw[Array.getElem?_setIfInBounds_ne (λe=>b e.symm)]
theorem Af(q:o.guard=none)(m:Operand)(t:TypeId)(f:o.op=Op.range t m)(k e:TypeId)(s:P.underlying t=some (.map k e)){b d:Nat}{j:Array MapEntry}(r:a.eval m=.map (some b))(p:w.heap[b]? =some (.map j d))
 (l:wpListIn F n P ops Q rest (a.put o.dst (.pointer (some ⟨w.heap.size,0,none⟩))) (w.alloc (.mapIter (some b) d #[] d))):wpListIn F n P ops Q (o::rest) a w:=by
 refine wpListIn_plain q λu h=>?_;have g:(Instr.range t (.map (some b))).run P w=.ok (.pointer (some ⟨w.heap.size,0,none⟩)) (w.alloc (.mapIter (some b) d #[] d)):=by
  simp[Instr.range,run_underlying s,getObj,Sem.run,p,Result.andThen,run_newObj_alloc]
 unfold Oper.wpIn;refine⟨by simp[Oper.about,f],?_⟩;rw[Oper.semAt_plain F _ _ (by rw[f];intro c i;cases i)];simp[execOp,f,r,g,Result.andThen];exact h _ _ l
theorem Bc(Y:o.guard=none)(V:Operand)(p:o.op=Op.next V false){b r d f A:Nat}{k:Array MapEntry}{g:Array Nat}{K:List MapEntry}(H:r≠b)(y:a.eval V=.pointer (some ⟨r,0,none⟩))
 (U:w.heap[r]? =some (.mapIter (some b) f g A))(N:w.heap[b]? =some (.map k d))(h:gF k d)(J:f<=A)(X:d<=f)(M:Nw k K g)
 (q:K.Perm k.toList->wpListIn F n P ops Q rest (a.put o.dst (.tuple #[.bool false])) w)
 (s:∀(e:MapEntry) (t:World),e∈k.toList->Nw k (K++[e]) (g.push e.born)->t.heap[r]? =some (.mapIter (some b) f (g.push e.born) d)->w.grownBy t (some r)->w.drawn<=t.drawn->
   (Instr.entry (.pointer (some ⟨r,0,none⟩))).run P t=.ok (.tuple #[e.key,e.val]) t->wpListIn F n P ops Q rest (a.put o.dst (.tuple #[.bool true,e.key,e.val])) t):
 wpListIn F n P ops Q (o::rest) a w:=by
 refine wpListIn_plain Y λK' u=>?_;unfold Oper.wpIn;refine⟨by simp[Oper.about,p],?_⟩;rw[Oper.semAt_plain F _ _ (by rw[p];intro c E;cases E)];have z:∀x∈k.toList,x.born<f:=λx Z=>by
  obtain⟨i,S,G⟩:=C2 Z;have:=h.1 i x (by rw[<-G];simp);omega
 rcases run_next_at (P:=P) w o.type r b f A g k d U N z J with⟨W,l⟩|⟨e,O,L,m,l⟩
 .simp[execOp,p,y,l,Result.andThen];exact u _ _ (q (M.perm h W))
 .have I:L.heap[r]? =some (.mapIter (some b) f g A):=by rcases m with rfl|rfl<;>exact U
  have D:L.heap[b]? =some (.map k d):=by rcases m with rfl|rfl<;>exact N
  have j:=Fw (o':=.mapIter (some b) f (g.push e.born) d) I;have C:(setBlock L r (.mapIter (some b) f (g.push e.born) d)).heap[b]? =some (.map k d):=(j.2 b (λB=>H B.symm)).trans D;have v:e∈k.toList:=(mem_left O).1;simp[execOp,p,y,l,Result.andThen];refine u _ _ (s e _ v (M.step O) j.1 ?_ ?_ (run_entry_at _ r b f g k d e j.1 C v (EZ h)))
  .rcases m with rfl|rfl<;>exact⟨rfl,rfl,rfl,by simp[setBlock],λi _ S=>j.2 i (λB=>S (by rw[B]))⟩
  .rcases m with rfl|rfl
   .exact A4 _
   .exact Nat.le_succ _
end
def Nx(n r:Nat)(W:World):Nat:=n-(match W.heap[r]? with|some (.mapIter _ _ seen _)=>seen.size|_=>0)
theorem GX{n r:Nat}{W:World}{m:Option Nat}{a c:Nat}{b:Array Nat}(h:W.heap[r]? =some (.mapIter m a b c)):Nx n r W=n-b.size:=by simp[Nx,h]
set_option maxRecDepth 100000 in
theorem Fx(F:Fence)(n:Nat)(hf:F.fn 181)(hro:F.round=none)(hn:1<=n){Bm ob b clock:Nat}{es:Array MapEntry}(W:World)(hm':W.cell? ⟨Bm,ob,none⟩=some (.map (some b)))
 (hb':W.heap[b]? =some (.map es clock))(hborn:gF es clock)(key:MapEntry->aV)(hkey:∀e∈es.toList,e.key=tZ (key e))(l:Nat)(J:List aV->World->Prop)(hJ:Zv W.heap.size J)
 (hY:∀pre x W1,J pre W1->pre.length<es.size->YieldAt F (n-1) prog l #[tZ x] W1 λe W'=>e=.returned (.bool true)/\J (pre++[x]) W'/\KeepsWalks W1 W')(h0:J [] W):
 CallsIn F n prog 181 #[.func (.yield l) #[] #[],.pointer (some ⟨Bm,ob,none⟩)] W λe W'=>(∃v,e=.returned v)/\∃ss:List aV,ss.Perm (es.toList.map key)/\J ss W':=by
 have hbW:b<W.heap.size:=(A3.1 hb').1;refine callsIn_of_wp func181 rfl hf ?_ hro;simp only[ntmps181,F5,B9,D1,H1,H2,F0,F1,F6,F2,G5,F9]
 gi_wp2_with (first
  |(gi_at_range;refine Af _ rfl _ _ rfl _ _ underlying144 rfl hb' ?_)
  |gi_in)
 have hg0:W.grownBy (W.alloc (.mapIter (some b) clock #[] clock)) none:=World.grownBy_alloc W _ none;have hr0:(W.alloc (.mapIter (some b) clock #[] clock)).heap[W.heap.size]? =some (.mapIter (some b) clock #[] clock):=heap_alloc_new W _;have hb0:(W.alloc (.mapIter (some b) clock #[] clock)).heap[b]? =some (.map es clock):=(hg0.block b hbW bA).trans hb';have hJ0:=hJ [] W _ none h0 hg0 (A4 _) (λr e=>by cases e);generalize W.alloc (.mapIter (some b) clock #[] clock)=w0 at*;try go_frame
 gi_loopw [3] (λ_ wr=>∃(vs:List MapEntry) (seen:Array Nat) (c0:Nat),wr.heap[W.heap.size]? =some (.mapIter (some b) clock seen c0)/\wr.heap[b]? =some (.map es clock)/\clock<=c0/\Nw es vs seen/\J (vs.map key) wr)
  (λ_ wr=>Nx es.size W.heap.size wr)
 case atStart=>
  exact⟨[],#[],clock,hr0,hb0,A4 _,⟨bA,bA,bA⟩,hJ0⟩
 case round=>
  obtain⟨vs,seen,c0,hr,hbr,hcc,hC,hJs⟩:=hrel
  gi_wp2_with (first
   |(gi_at_next;refine Bc _ rfl _ rfl (Nat.ne_of_gt hbW) rfl hr hbr hborn hcc (A4 _) hC ?_ ?_)
   |gi_in)
  .intro hp
   gi_wp2
   go_end0
   exact⟨⟨_,rfl⟩,vs.map key,hp.map key,hJs⟩
  .intro e w2 he hC2 hr2 hg2 hd2 hen;have hJ2:J (vs.map key) w2:=hJ _ wr w2 (some W.heap.size) hJs hg2 hd2 (λr e=>by cases e;exact⟨A4 _,_,hr,rfl⟩);have hb2:w2.heap[b]? =some (.map es clock):=(hg2.block b (A3.1 hbr).1 (λe=>by injection e with e;omega)).trans hbr;have hsz:=hC2.size hborn;have hvs:seen.size=vs.length:=by have:=congrArg E9 hC.seen;simpa using this
   obtain⟨fn,tmps,assign,body,hy,hR⟩:=hY (vs.map key) (key e) _ hJ2 (by simp at hsz|-;omega);rw[hkey e (by simpa using he)]at hen|-;unfold tZ at hen hy|-
   gi_wp2
   refine hR.mono ?_;rintro e' W3 ⟨rfl,hJ3,hk3⟩
   gi_wp2
   have hr4:=hk3.same _ _ hr2 rfl;have hb4:=hk3.same _ _ hb2 rfl
   go_roundw
   case rel=>exact⟨vs++[e],seen.push e.born,clock,hr4,hb4,A4 _,hC2,by simpa using hJ3⟩
   case measure=>rw[GX hr4,GX hr];simp at hsz|-;omega
def aAQ(b0:Option Nat)(W0:World)(l:List aV)(ss:List aV)(W:World):Prop:=
 ∃v gb,W.heap[W0.heap.size]? =some (.cells #[v] 44 (0,0))/\uH 1 b0 W0.heap.size W v (l.length+ss.length) ((l++ss).flatMap aV.enc) gb/\gb≠some W0.heap.size/\FX b0 W0 W/\Cl (l.length*1) b0 W0 W
theorem Wq(h:Option Nat)(f:World)(l:List aV)(m:∀b,h=some b->b<f.heap.size):Zv (f.heap.size+1) (aAQ h f l):=by
 rintro D W C p ⟨v,u,i,q,w,x,y⟩ d A n;have a:∀{k:Nat} {c:Array Value} {e:TypeId},W.heap[k]? =some (.cells c e (0,0))->some k≠p:=λB e=>by
  obtain⟨_,o,s,z⟩:=n _ e.symm;rw[B]at s;cases s;cases z
 refine⟨v,u,(d.block _ (A3.1 i).1 (a i)).trans i,q.kept d ?_,w,x.step d A (λr e=>.inr (by have:=(n r e).1;omega)),y.step d ?_⟩;rcases q.lies with⟨rfl,_⟩|⟨g,t,c,e,rfl,_,_,j,_⟩
 .exact .inl rfl
 .exact .inr (a j)
 .cases j:h with
  |none=>exact .inl rfl
  |some g=>exact .inr λe=>by have:=(n g e.symm).1;have:=m g j;omega
set_option maxRecDepth 100000 in
theorem Ip(W0:World)(v0:Value)(l:List aV)(b0:Option Nat)(hrow:uH 1 b0 W0.heap.size W0 v0 l.length (l.flatMap aV.enc) b0)(hb0:∀b,b0=some b->b<W0.heap.size){Bm ob b clock:Nat}{es:Array MapEntry}(hm:W0.cell? ⟨Bm,ob,none⟩=some (.map (some b)))(hBm:some Bm≠b0)
 (hb:W0.heap[b]? =some (.map es clock))(hbb:some b≠b0)(hborn:gF es clock)(key:MapEntry->aV)(hkey:∀e∈es.toList,e.key=tZ (key e))(hN:(l.length+es.size)*16<=140737488355328):
 Calls prog 260 #[v0,.func (.func 181) #[] #[.pointer (some ⟨Bm,ob,none⟩)]] W0 λe W'=>
  ∃v ss gb,e=.returned v/\List.Perm ss (es.toList.map key)/\uH 1 b0 W0.heap.size W' v (l.length+ss.length) ((l++ss).flatMap aV.enc) gb/\FX b0 W0 W'/\Cl (l.length*1) b0 W0 W':=by
 refine(callsIn_wide (n:=6)).1 ?_;obtain⟨ba,bn,bc,hv0⟩:∃ba bn bc,v0=.slice ba bn bc:=by
  rcases hrow.lies with⟨_,_,a,rfl⟩|⟨g,cap,cur,e,_,rfl,_⟩
  .exact⟨_,_,_,rfl⟩
  .exact⟨_,_,_,rfl⟩
 subst hv0;have hBml:Bm<W0.heap.size:=World.block_lt_of_cell? W0 _ hm;have hbl:b<W0.heap.size:=(A3.1 hb).1;refine callsIn_of_wp_marks func260 rfl trivial ?_ rfl;simp only[ntmps260,F5,B9,D1,H1,H2,F0,F1,F6,F2,G5,F9]
 gi_wp2
 obtain⟨W1,hW1⟩:∃W1,W0.alloc (.cells #[.slice ba bn bc] 44)=W1:=⟨_,rfl⟩;have hs1:W1.heap.size=W0.heap.size+1:=by rw[<-hW1];simp
 have hg1:W0.grownBy W1 none:=by rw[<-hW1];exact World.grownBy_alloc W0 _ none
 have hd1:W0.drawn<=W1.drawn:=by rw[<-hW1];exact A4 _
 have hv1:W1.heap[W0.heap.size]? =some (.cells #[.slice ba bn bc] 44 (0,0)):=by rw[<-hW1];exact heap_alloc_new W0 _
 rw[hW1];clear hW1;refine vT (enc:=tZ) (N:=es.size) (S:=λss=>List.Perm ss (es.toList.map key)) rfl aD rfl trivial (enters_of func181 jM rfl) (aAQ b0 W0 l) (by rw[hs1];exact Wq b0 W0 l hb0)
  ⟨.slice ba bn bc,b0,hv1,by simpa using hrow.kept hg1 (by cases b0<;>simp),λe=>by have:=hb0 _ e;omega,(FX.refl b0 W0).step hg1 hd1 (λr e=>by cases e),(Cl.refl _ b0 W0).step hg1 (by cases b0<;>simp)⟩ ?_
  (λx a' W=>a'=⟨#[.slice ba bn bc,.func (.func 181) #[] #[.pointer (some ⟨Bm,ob,none⟩)],.pointer (some ⟨W0.heap.size,0,none⟩),undef,.slice none 0 0,.string ⟨x.toArray⟩,.func (.func 181) #[] #[.pointer (some ⟨Bm,ob,none⟩)],tZ x,undef,undef,undef,undef,undef],[]⟩) ?_ ?_ ?_ ?_
 .intro l' J W2 hI hsz hJ hY hJ0;obtain⟨v,gb,q1,q2,q3,q4,q6⟩:=hI;exact Fx _ 5 trivial rfl aD W2 ((World.cell?_of_block (q4.block Bm hBml hBm)).trans hm) ((q4.block b hbl hbb).trans hb) hborn key hkey l' J hJ hY hJ0
 .exact λx a' s W W' row h _ _ _=>h
 .intro l' pre x W K hI hK;change Code.wpIn (Fence.wide.inRound l') (6-1-1) prog _ _ ⟨#[.slice ba bn bc,.func (.func 181) #[] #[.pointer (some ⟨Bm,ob,none⟩)],.pointer (some ⟨W0.heap.size,0,none⟩),undef,.slice none 0 0,undef,.func (.func 181) #[] #[.pointer (some ⟨Bm,ob,none⟩)],tZ x,undef,undef,undef,undef,undef],[]⟩ W;have hK':=hK _ W ⟨rfl,rfl,rfl,A4 _,λ_ _ _=>rfl⟩ (A4 _) rfl;clear hK;unfold tZ at hK'|-
  gi_wp2_with gi_round_op_a
  exact hK'
 .rintro l' pre x a' W ⟨v,gb,q1,q2,q3,q4,q6⟩ rfl hlen;obtain⟨hc1,hf1⟩:=cell_of_box_a q1;obtain⟨inf,d,z,i1,i2,i3,i4,i5,i6,i7⟩:=hT.parts (t:=9) (by simp[TK.isNone]);simp at i4 i5 i7;obtain⟨va,vn,vc,hv⟩:∃va vn vc,v=.slice va vn vc:=by
   rcases q2.lies with⟨_,_,a,rfl⟩|⟨g,cap,cur,e,_,rfl,_⟩
   .exact⟨_,_,_,rfl⟩
   .exact⟨_,_,_,rfl⟩
  subst hv;have hWs:W0.heap.size<W.heap.size:=(A3.1 q1).1;have q5:uH 1 b0 W0.heap.size (W.alloc (.cells #[.string ⟨x.toArray⟩] 9)) (.slice va vn vc) (l.length+pre.length) ((l++pre).flatMap aV.enc) gb:=q2.kept (World.grownBy_alloc W _ none) (by cases gb<;>simp);have hnew:∀(j:Nat) (u:Value),[Value.string ⟨x.toArray⟩][j]? =some u->(W.alloc (.cells #[.string ⟨x.toArray⟩] 9)).cell? ⟨W.heap.size,j,none⟩=some u:=λj u hj=>by
   have:=heap_alloc_new W (.cells #[.string ⟨x.toArray⟩] 9);simp only[World.cell?,this];simpa using hj
  gi_wp2_with (first
   |(gi_at_builtin;refine yX _ rfl _ _ 44 rfl underlying44 i1 i6 i4 (by rw[<-Array.length_toList,i7];rfl) bG rfl q5 kH rfl (news:=[.string ⟨x.toArray⟩]) rfl (by simp[Value.oneCell']) hnew (by rw[i5];omega) aD ?_;intro v' W3 g' r1 r2 r3 r4 r5
     have hv3:W3.heap[W0.heap.size]? =some (.cells #[.slice va vn vc] 44 (0,0)):=(r2.block _ kH (λe=>q3 e.symm)).trans ((heap_alloc_old W _ hWs).trans q1);obtain⟨hc3,hf3⟩:=cell_of_box_a hv3;obtain⟨cap',cur',e',rfl,s2,s3,s4,s5,s6,s7⟩:∃cap' cur' e',v'=.slice (some ⟨g',0,none⟩) (l.length+pre.length+1) cap'/\(b0=some g'\/W0.heap.size<=g')/\W3.heap[g']? =some (.cells cur' e' (0,0))/\l.length+pre.length+1<=cap'/\cap'<=maxLen/\cap'*1=cur'.size/\cur'.toList.take ((l.length+pre.length+1)*1)=(l++pre).flatMap aV.enc++[.string ⟨x.toArray⟩]:=by
      rcases r1.lies with⟨h,_⟩|⟨g,cap,cur,e,h,h1,h2,h3,h4,h5,h6,h7⟩
      .cases h
      .injection h with h;subst h;exact⟨cap,cur,e,h1,h2,h3,h4,h5,h6,h7⟩
     go_frame)
   |gi_round_op_a)
  have hg0:W.grownBy (W.alloc (.cells #[.string ⟨x.toArray⟩] 9)) none:=World.grownBy_alloc W _ none;have hd0:W.drawn<=(W.alloc (.cells #[.string ⟨x.toArray⟩] 9)).drawn:=A4 _;have hgb:∀r,gb=some r->(b0=some r\/W0.heap.size<=r)/\∃cur e,W.heap[r]? =some (.cells cur e (0,0)):=λr e=>by
   rcases q2.lies with⟨h,_⟩|⟨g,cap,cur,e',h,_,h2,h3,_⟩
   .rw[h]at e;cases e
   .rw[h]at e;injection e with e;subst e;exact⟨h2,cur,e',h3⟩
  have hgne:g'≠W0.heap.size:=by
   rcases r4 with h|h
   .exact λe=>q3 (by rw[h,e])
   .rw[h];simp;omega
  generalize W.alloc (.cells #[.string ⟨x.toArray⟩] 9)=W2 at*;have hg4:W3.grownBy (W3.setCell ⟨W0.heap.size,0,none⟩ (.slice (some ⟨g',0,none⟩) (l.length+pre.length+1) cap')) (some W0.heap.size):=grownBy_setCell0_a _ _ _;refine⟨⟨D2 hg0.size (D2 r2.size hg4.size),λk o hk ho hcell=>?_⟩,((KeepsWalks.of_grownBy hg0 (λj o e=>by cases e)).trans (KeepsWalks.of_grownBy r2 (λj o e ho=>?_))).trans (KeepsWalks.setCell _ _ _),
   .slice (some ⟨g',0,none⟩) (l.length+pre.length+1) cap',some g',heap_setCell_box_a _ hv3,?_,λe=>hgne (by injection e),((q4.step hg0 hd0 (λr e=>by cases e)).step r2 r3 (λr e=>(hgb r e).1)).step hg4 (A4 _) (λr e=>.inr (by injection e with e;omega)),((q6.step hg0 (by cases b0<;>simp)).write (by rw[Nat.add_mul];omega) r2 r5).step hg4 ?_⟩
  .have h2:=(hg0.block k (A3.1 ho).1 bA).trans ho;have h3:=(r2.block k (A3.1 h2).1 (λe=>by
    obtain⟨_,cur,e',h⟩:=hgb k e.symm;rw[ho]at h;cases h;cases hcell)).trans h2
   exact(hg4.block k (A3.1 h3).1 (λe=>by injection e with e;omega)).trans h3
  .obtain⟨_,cur,e',h⟩:=hgb j e;have h2:=(hg0.block j (A3.1 h).1 bA).trans h;rw[ho]at h2;cases h2;rfl
  .have:=r1.kept hg4 (.inr (λe=>hgne (by injection e)));simpa [aV.enc,tZ,Nat.add_assoc]using this
  .cases hb:b0 with
   |none=>exact .inl rfl
   |some g=>exact .inr λe=>by injection e with e;have:=hb0 g hb;omega
 .rintro D xs W hD hS ⟨v,gb,q1,q2,q3,q4,q6⟩ hdef;obtain⟨hc1,hf1⟩:=cell_of_box_a q1
  gi_wp2
  refine⟨bA,.inl ⟨_,_,rfl,run_takeDeferred hdef,?_⟩⟩;refine⟨_,results_tmp rfl _ _ _,v,xs,gb,rfl,hS,q2.kept (grownBy_putObj_a _ _ _) ?_,q4.step (grownBy_putObj_a _ _ _) (A4 _) (λr e=>.inr (by injection e with e;omega)),q6.step (grownBy_putObj_a _ _ _) ?_⟩;rcases q2.lies with⟨h,_⟩|⟨g,cap,cur,e',h,_,h2,h3,_⟩
  .exact .inl h
  .refine .inr λe=>?_;rw[h]at e;injection e with e;subst e
   rw[hdef]at h3;cases h3
  .cases hb:b0 with
   |none=>exact .inl rfl
   |some g=>exact .inr λe=>by injection e with e;have:=hb0 g hb;omega
end
section
open Go.Proofs Go.Sort Go.Shelf Go.RowKit
attribute[local simp] aR bK bE aO aL aZ aP
theorem aAd{w:World}{E:Nat->Prop}{s:aV}{v:Value}(h:RD w E (.str s) v):v=tZ s:=by cases h;rfl
def xB(e:MapEntry):aV:=match e.key with
 | .string b=>b.data.toList
 |_=>[]
theorem Iq(s:List aV)(S:List DV)(U:s.length*16<=140737488355328):
 Xa prog 260 [.nl,.d (.fn 181 [.ro [.mp (s.map .str) S]])] []
  (λD L=>∃p:List aV,p.Perm s/\D=[(0,.dead),(1,.row false 1 (p.map .str))]/\L=.ow 1 0 p.length):=by
 refine⟨⟨_,func260,jM,by rfl⟩,λw X β vs m0 K Q=>?_⟩
 match vs,K with
 |[v0,v1],_=>
 have r0:=Q 0 _ _ rfl rfl;have r1:=Q 1 _ _ rfl rfl;obtain⟨N,rfl⟩:∃a,v0=.slice a 0 0:=by cases r0 with|nl a=>exact⟨a,rfl⟩
 obtain⟨y,B,b,f,c,rfl,n,o,z,k,q⟩:∃y B b f c,v1=.func (.func 181) #[] #[.pointer (some ⟨y,B,none⟩)]/\w.cell? ⟨y,B,none⟩=some (.map (some b))/\w.heap[b]? =some (.map c f)/\
  (s.map DV.str).length=c.size/\gF c f/\∀(i:Nat) (d:DV) (e:MapEntry),(s.map DV.str)[i]? =some d->c[i]? =some e->RD w (Ex X β (aK [])) d e.key:=by
  cases r1 with
  |d _ _ h=>cases h with
   |fn _ _ us hl hc=>
    match us,hl with
    |[u],_=>
    have O:=hc 0 _ u rfl rfl;cases O with
    |ro _ y B us2 hBm hul _ _ n h=>
     match us2,hul with
     |[u2],_=>
     have x:=h 0 _ u2 rfl rfl;have E:=n 0 u2 rfl;cases x with
     |mp _ _ b f c hb _ o z _ k q _=>exact⟨y,B,b,f,c,rfl,by simpa using E,o,z,k,q⟩
 rw[A5]at z;have r:∀(i:Nat) (C:i<s.length) (x:i<c.size),c[i].key=tZ s[i]:=λi C x=>aAd (q i _ _ (by simp[C]) (Array.getElem?_eq_getElem x));have H:∀e∈c.toList,e.key=tZ (xB e):=λe W=>by
  obtain⟨i,Z,rfl⟩:=C2 W;have G:i<c.size:=by simpa using Z
  have:=r i aD G;simp only[Array.getElem_toList];simp[xB,this,tZ]
 have A:c.toList.map xB=s:=by
  apply G0 (by simpa using z.symm);intro i C x;have:=r i x aD;simp[xB,this,tZ]
 obtain⟨m,_⟩:=uY m0 (d:=0) (by simp[aK,fN]) (s:=1) bG;refine(Ip w (.slice N 0 0) [] none ⟨rfl,bA,.inl ⟨rfl,rfl,N,rfl⟩⟩ (λg Y=>by cases Y) n bA o bA k xB H (by rw[<-z];simpa using U)).mono ?_;rintro e w' ⟨v,M,gb,rfl,P,I,J,F⟩;rw[A]at P;obtain⟨β',hm,V⟩:=m.appended qQ (id:=0) (new:=1) (l:=[]) (by rw[aW];rfl) (by rw[cO _ _ bG];simp[aK,fN]) (.inl ⟨rfl,rfl⟩) I J F;have t:aK [(0,.dead),(1,.row false 1 (M.map .str))]=cQ (cQ (cQ (aK []) 0 (.row false 1 [])) 0 .dead) 1 (.row false 1 (M.map .str)):=by
  funext j;simp only[aK,fN,cQ];by_cases O:j=0<;>by_cases C:j=1<;>simp_all
 exact⟨v,β',_,_,⟨M,P,rfl,rfl⟩,rfl,by rw[t];simpa using hm,by rw[t];simpa using V⟩
theorem Ny(s:List aV)(g:List DV)(k:s.length*16<=140737488355328):YY prog 180 [.fn 181 [.ro [.mp (s.map .str) g]]] (λr=>(λv=>∃p:List aV,p.Perm s/\v=.own 1 (p.map .str)) r.v/\r.fresh=true):=by
 refine YY.ret (Rel:=λv=>∃p:List aV,p.Perm s/\v=.own 1 (p.map .str)) func180 jM (c:=_) rfl ntmps180 bA results180 λn X m=>?_;apply aE;simp;apply aF;refine Jm hT hW 4 [] [(1,4)] [1] (λa f=>∃p:List aV,p.Perm s/\a=[(0,.dead),(1,.row false 1 (p.map .str))]/\f=.ow 1 0 p.length) _ _ ⟨s,List.Perm.refl _,rfl,rfl⟩ (λ|99=>none|_=>none) (by intro d;first|exact⟨rfl,λ_ h=>h⟩|(split<;>exact⟨rfl,λ_ h=>h⟩)) jM λl e=>?_;obtain⟨i,j⟩:=l;obtain⟨p,b,rfl,rfl⟩:=e;simp;refine⟨Iq s g k,?_⟩;apply aH;simp only[TW];refine⟨_,⟨p,b,rfl⟩,bA,?_⟩;simp
theorem Sv(s:List aV)(c:List DV)(k:s.length<=8000000000000):Ok prog 102 [.fn 181 [.ro [.mp (s.map .str) c]]] ⟨.own 1 ((dZ s).map .str),true⟩:=by
 refine bU func102 rfl ntmps102 results102 λn X l=>?_;apply aE;simp;apply aF;refine Mm hT hW 5 (λr=>(∃p:List aV,p.Perm s/\r.v=.own 1 (p.map .str))/\r.fresh=true) true ⟨.own 1 (s.map .str),true⟩ ⟨⟨⟨s,List.Perm.refl _,rfl⟩,rfl⟩,rfl⟩ (λ|99=>none|_=>none) (by intro d;first|exact⟨rfl,λ_ h=>h⟩|(split<;>exact⟨rfl,λ_ h=>h⟩)) jM λi b=>?_;obtain⟨m,j⟩:=i;obtain⟨⟨p,a,f⟩,e⟩:=b;dsimp only at f e;subst f;subst e;have g:=a.length_eq;simp;refine⟨Ny s c aD,?_⟩;refine dF (og 7 (.gen ⟨[(5,0)],[],[],[(0,.row false 1 ((dZ p).map .str))],.tup []⟩)) ?_;simp;refine⟨by simpa using Ad p aD,?_⟩;apply aE;simp;apply aH;rw[<-Np a];simp[kF];rw[A1 (by simp[kF])]
theorem Nz(a b:List DV):Ok prog 103 [.mp a b] ⟨.d (.fn 181 [.ro [.mp a b]]),false⟩:=by
 refine bU func103 rfl ntmps103 results103 λd X c=>?_;apply aE;simp;apply aE;simp;apply aH;simp
end
section
attribute[local simp] aR bK bE aO aL aZ aP
attribute[local simp] kJ.cond Nd.d_eq nd_t nd_dr nd_td ndsD aU bL vR itemU dC.d
def BO(M:List aV)(s:aV):List aV:=if s∈M then M else M++[s]
def eW(us:List dC):List aV:=us.foldl (λM u=>BO M u.name) []
theorem KP{a:List dC}{i:Nat}{u:dC}(h:a[i]? =some u):eW (a.take (i+1))=BO (eW (a.take i)) u.name:=by
 obtain⟨c,b⟩:=C7.1 h;unfold eW;rw[A2 c,List.foldl_append,b];rfl
theorem NA(a:List dC):(eW a).length<=a.length:=by
 have:∀(a:List dC) (M:List aV),(a.foldl (λM u=>BO M u.name) M).length<=M.length+a.length:=λa=>by
  induction a with
  |nil=>intro M;exact A4 _
  |cons u r ih=>
   intro M;rw[C0];refine D2 (ih _) ?_;unfold BO;split<;>simp<;>omega
 simpa [eW]using this a []
mutual
theorem GY:∀x:Nd,(cA x).length<=weighN x
 | .mk k t n ks=>by
   have h:=GZ ks;have a:(yP k t).length<=1:=by unfold yP;split<;>simp
   rw[cA,weighN,B3];omega
theorem GZ:∀l:List Nd,(gM l).length<=weighL l
 |[]=>A4 _
 |x::r=>by
  have a:=GY x;have b:=GZ r;rw[gM,weighL,B3];omega
end
theorem KQ(s:aV):∀(M:List aV) (i:Nat),iM (.str s) (M.map .str) i=some ((M.findIdx? (λx=>decide (s=x))).map (·+i))
 |[],i=>rfl
 |x::r,i=>by
  have e:kL (.str s) (.str x)=some (decide (s=x)):=by
   simp only[kL,FB,Option.some.injEq];by_cases h:s=x<;>simp[h]
  rw[C3,iM,e,List.findIdx?_cons];by_cases h:s=x
  .simp[h]
  .simp only[h,decide_false,Bool.false_eq_true,if_false];rw[KQ s r (i+1)];cases r.findIdx? (λx=>decide (s=x))with
   |none=>rfl
   |some j=>simp;omega
def SN(M:List aV):List DV:=M.map λ_=>.bool true
theorem Wr(M:List aV){H:dP}{id:Nat}{s:aV}(h:H id=.map false (M.map .str) (SN M)):
 cM T H 144 (.mp id) (.d (.str s)) (.d (.bool true))=⟨.junk,True,[(id,.map false ((BO M s).map .str) (SN (BO M s)))]⟩:=by
 unfold cM BO;simp only[aBc,h,KQ];by_cases a:s∈M
 .obtain⟨j,b,l⟩:∃j,(M.findIdx? λx=>decide (s=x))=some j/\j<M.length:=by
   cases q:(M.findIdx? λx=>decide (s=x))with
   |none=>rw[B6]at q;have:=q s a;simp at this
   |some j=>exact⟨j,rfl,(A8.1 q).1⟩
  have d:(SN M).set j (.bool true)=SN M:=by
   unfold SN;apply G0 bA;intro i g k;rw[List.getElem_set];split<;>simp
  simp[b,a,d,rX,gG]
 .have c:(M.findIdx? λx=>decide (s=x))=none:=by
   rw[B6];intro x f;simp;intro e;subst e;exact a f
  simp[c,a,rX,gG,SN]
def sY(l:List Df)(name:aV):Int:=oY (λd=>decide (d.name=name)) l
def uQ:Option Nat->Int
 |some i=>(i:Int)
 |none=> -1
theorem xC{α:Type}(p:α->Bool)(l:List α):oY p l=uQ (l.findIdx? p):=by unfold oY uQ;cases l.findIdx? p<;>rfl
def Fb(l:List Df):Option Nat->List aV×Int
 |none=>([],6)
 |some i=>if(parseS (l.getD i default).text).2.2≠0 then([],(parseS (l.getD i default).text).2.2)else(dZ (eW (cA (parseS (l.getD i default).text).1)),0)
def Ha(l:List Df)(name:aV):List aV×Int:=Fb l (l.findIdx? λd=>decide (d.name=name))
theorem NB(l:List Df)(p:Df->Bool)(g:FuncId)(d:List DV)(h:∀x∈l,Ok prog g (x.d::d) ⟨.d (.bool (p x)),true⟩):Ok prog 99 [gB l,.fn g d] ⟨.d (aI (oY p l)),true⟩:=by
 refine bU func99 rfl ntmps99 results99 λj X f=>?_;refine fF.len (t:=0) rfl λc=>?_;simp at c;apply aE;simp;apply eT;simp;apply aY;refine bC (ι:=Nat) (λi=>bB [(0,.d (gB l)),(1,.d (.fn g d)),(7,.d (aI l.length)),(8,.d (aI i))]) (λi=>aK []) (λi=>i<=l.length/\XA p l i) (λi=>l.length-i) 0 (aA f [0,1,7,8] []) (⟨C1 _,XA.zero⟩) λi a=>?_;apply aE;simp;apply aF;apply aM;simp;refine⟨λb=>?_,λb=>?_⟩
 .apply aG;simp;apply eE;apply aE;simp;refine dF (og 16 (.plain ⟨.d (.bool (p l[i])),true⟩)) ?_;simp[b];refine⟨h l[i] (C9 b),?_⟩;apply aM;simp;refine⟨λe=>?_,λe=>?_⟩
  .apply aE;simp;apply aH;simp[yB (a.2.found b e)]
  .apply aG;simp;apply aJ;simp;refine⟨aD,?_⟩;refine Oe.mk (i+1) (aA f [0,1,7,8] []) ?_ ?_
   .exact⟨b,a.2.succ b e⟩
   .omega
 .apply bQ;simp;apply aE;simp;apply aH;simp[yC (a.2.none aD)]
theorem Sw(d:Df)(a:aV):Ok prog 100 [d.d,.ro [.str a]] ⟨.d (.bool (decide (d.name=a))),true⟩:=by
 refine bU func100 rfl ntmps100 results100 λc X b=>?_;apply aE;simp;apply aE;simp;apply aH;simp;by_cases h:d.name=a<;>simp[h]
theorem Qb(l:List Df)(a:aV):Ok prog 37 [gB l,.str a] ⟨.tup [.own 1 ((Ha l a).1.map .str),.d (aI (Ha l a).2)],true⟩:=by
 refine Ok.two func37 jM (c:=_) rfl ntmps37 bA results37 rfl λL X k=>?_;obtain⟨f,g⟩:∃f,l.findIdx? (λd=>decide (d.name=a))=f:=⟨_,rfl⟩;have b:Ha l a=Fb l f:=by unfold Ha;rw[g]
 have p:oY (λd=>decide (d.name=a)) l=uQ f:=by rw[xC,g]
 apply aE;simp;refine gS (iO.freeze [3]) ?_;simp;apply aF;have G:=NB l (λd=>decide (d.name=a)) 100 [.ro [.str a]] λx _=>Sw x a;refine bH (og 15 (.plain ⟨.d (aI (oY (λd=>decide (d.name=a)) l)),true⟩)) ?_;simp;refine⟨by simpa using G,?_⟩;apply aF;apply bF;simp;refine⟨λm=>?_,λm=>?_⟩
 .have B:f=none:=by cases f with|none=>rfl|some i=>rw[p]at m;simp[uQ]at m;omega
  subst B;simp only[Fb]at b;apply aE;simp;apply aH;simp[b]
 .obtain⟨i,rfl⟩:∃i,f=some i:=by cases f with|some i=>exact⟨i,rfl⟩|none=>rw[p]at m;simp[uQ]at m
  simp only[Fb]at b;simp only[uQ]at p;have o:i<l.length:=(A8.1 g).1;obtain⟨d,v⟩:∃d,l[i]=d:=⟨_,rfl⟩;have n:l.getD i default=d:=by rw[A6,A0 o,v];rfl
  rw[n]at b;obtain⟨P,A⟩:∃P,parseS d.text=P:=⟨_,rfl⟩;have t:=wX d.text;have j:=qP d.text;rw[A]at t j b;obtain⟨x,F⟩:∃x,P.1=x:=⟨_,rfl⟩;rw[F]at t j b;apply aG;simp;refine dF (og 24 (.plain ⟨.tup [.d x.d,.d (aI P.2.1),.d (aI P.2.2)],false⟩)) ?_;simp[bM,p,o,v];refine⟨by simpa using t,?_⟩;apply aF;apply bF;simp;refine⟨λr=>?_,λr=>?_⟩
  .rw[if_pos r]at b;apply aE;simp;apply aH;simp[b]
  .rw[if_neg (by simpa using r)]at b;apply aG;simp;apply aE;simp;apply fL;have y:=uses_ok x;simp at y;refine bH (og 33 (.plain ⟨.d (.fn 174 [.ro [aI x.kind,.str x.text,aI x.n,.sl (x.kids.map Nd.d)]]),false⟩)) ?_;simp;refine⟨by simpa using y,?_⟩;apply aY;refine gS (aA k [10,33] [(10,10),(31,31)] (env':=bB [(10,.bx 10 0),(33,.d (.fn 174 [.ro [aI x.kind,.str x.text,aI x.n,.sl (x.kids.map Nd.d)]]))]) (H':=aK [(10,.box false [.mp 31]),(31,.map false [] [])]) bA bA) ?_;refine fF.rangeFunc (items:=(cA x).map itemU) (by simpa using uses_iter x j) bA (by intro w e;obtain⟨u,_,rfl⟩:=B2.1 e;rfl) bA jM jM (λi=>aK [(10,.box false [.mp 31]),(31,.map false ((eW ((cA x).take i)).map .str) (SN (eW ((cA x).take i))))]) (λi=>aK [(10,.box false [.mp 31]),(12,.box false [.d (aI (usAt x i).kind),.d (.str (usAt x i).name),.d (.str (usAt x i).field)]),(31,.map false ((eW ((cA x).take (i+1))).map .str) (SN (eW ((cA x).take (i+1)))))]) (rfl) [10,31] bG (by simp[k]) (λi id h=>by simpa using oC id h) (λi=>bB [(10,.bx 10 0),(12,.bx 12 0)]) (λi=>aK [(10,.box false [.mp 31]),(12,.box false [.d (aI (usAt x i).kind),.d (.str (usAt x i).name),.d (.str (usAt x i).field)]),(31,.map false ((eW ((cA x).take i)).map .str) (SN (eW ((cA x).take i))))]) [10,12,31] (λi id h=>by simpa using oC id h) (λi K=>?_) (λJ z i w k e=>?_) (λJ z i w k e=>?_) ?_
   .simp
   .obtain⟨u,q,rfl⟩:=eJ e;have b:=usAt_eq q;apply aJ;simp;exact aA k [10,12] [(10,10),(12,12),(31,31)] (by simp[b]) (by simp[b])
   .obtain⟨u,q,rfl⟩:=eJ e;have b:=usAt_eq q;have D:=KP q;simp[b];apply aY;apply aJ;simp[Wr (eW ((cA x).take i))];exact aA k [] [(10,10),(12,12),(31,31)] (hH:=by simp[b,D])
   .apply aF;have C:=NA (cA x);have E:=GY x;have I:=Sv (eW (cA x)) (SN (eW (cA x))) aD;have H:=Nz ((eW (cA x)).map .str) (SN (eW (cA x)));refine bH (λ|40=>some<| .plain ⟨.d (.fn 181 [.ro [.mp ((eW (cA x)).map .str) (SN (eW (cA x)))]]),false⟩|41=>some<| .plain ⟨.own 1 ((dZ (eW (cA x))).map .str),true⟩|_=>none) ?_;simp;refine⟨⟨by simpa using H,by simpa using I⟩,?_⟩;apply aH;have s:B5 (eW (cA x)).length (B0 DV.str (dZ (eW (cA x))))=B0 DV.str (dZ (eW (cA x))):=A1 (by rw[A5,kF];exact A4 _);simp[b,kF,s]
theorem Sx(a b:Df):Ok prog 93 [a.d,b.d] ⟨.d (.bool (decide (a.name=b.name/\jT a=jT b))),true⟩:=by
 refine bU func93 rfl ntmps93 results93 λh X g=>?_;apply aE;simp;apply aF;have e:=Ae a;have f:=Ae b;refine fF.rd [[],[],[],[],[],[],[],[],[12]] [[],[],[],[],[],[],[],[12],[],[14]] (λ|12=>some<| .plain ⟨.d (.str (jT a)),true⟩|14=>some<| .plain ⟨.d (.str (jT b)),true⟩|_=>none) ?_;simp;refine⟨⟨λ_=>by simpa using e,λ_=>by simpa using f⟩,?_⟩;apply aH;simp;by_cases c:a.name=b.name<;>by_cases d:jT a=jT b<;>simp[c,d]
def Fc(d:Df):aV×aV:=(d.name,jT d)
theorem Qc{a b:Df}:Fc a=Fc b↔a.name=b.name/\jT a=jT b:=by simp[Fc]
def sZ(a b:List Df):Bool:=decide (a.map Fc=b.map Fc)
theorem Sy{a b:List Df}(h:sZ a b=true):a.length=b.length:=by
 have:=congrArg E9 (of_decide_eq_true h);simpa using this
theorem Wu(l m:List Df):Ok prog 92 [gB l,gB m,.fn 93 []] ⟨.d (.bool (sZ l m)),true⟩:=by
 refine bU func92 rfl ntmps92 results92 λs X k=>?_;refine fF.len (t:=0) rfl λb=>?_;simp at b;apply aE;simp;apply aF;apply bF;simp;refine⟨λj=>?_,λj=>?_⟩
 .apply aE;simp;apply aH;simp;rw[F7];intro q;exact j (by rw[Sy q])
 .apply aG;simp;apply eT;simp;apply aY;refine bC (ι:=Nat) (λi=>bB [(0,.d (gB l)),(1,.d (gB m)),(2,.d (.fn 93 [])),(15,.d (gB l)),(16,.d (aI l.length)),(17,.d (aI i))]) (λi=>aK []) (λi=>i<=l.length/\(l.map Fc).take i=(m.map Fc).take i) (λi=>l.length-i) 0 (aA k [0,1,2,15,16,17] []) (⟨C1 _,rfl⟩) λi a=>?_;apply aE;simp;apply aF;apply aM;simp;refine⟨λo=>?_,λo=>?_⟩
  .apply aG;simp;apply eE;apply aF;have g:i<l.length:=aD;apply aJ;simp[g];apply aF;have c:i<m.length:=aD;apply aJ;simp[c];apply aF;have p:=Sx l[i] m[i];refine bH (og 29 (.plain ⟨.d (.bool (decide (l[i].name=m[i].name/\jT l[i]=jT m[i]))),true⟩)) ?_;simp;refine⟨by simpa using p,?_⟩;apply aM;simp;refine⟨λd=>?_,λd f=>?_⟩
   .apply aE;simp;apply aH;simp;rw[F7];intro q;have n:=congrArg (·[i]?) (of_decide_eq_true q);simp only[D8,A0 g,A0 c,G6,Option.some.injEq]at n;have:=Qc.1 n;rcases d with h|h
    .exact h this.1
    .exact h this.2
   .apply aG;simp;apply aJ;simp;refine⟨aD,?_⟩;refine Oe.mk (i+1) (aA k [0,1,2,15,16,17] []) ?_ ?_
    .refine⟨aD,?_⟩;have c:i<m.length:=aD;rw[A2 (by simpa using g),A2 (by simpa using c),a.2,E1,E1,Qc.2 ⟨d,f⟩]
    .omega
  .apply bQ;simp;apply aE;simp;apply aH;simp;have e:i=l.length:=aD;have r:i=m.length:=aD;have h:=a.2;rw[A1 kH,A1 kH]at h;exact decide_eq_true h
theorem BP(a b:List Df)(e:a.length<40)(f:b.length<40):Ok prog 29 [gB a,gB b] ⟨.d (.bool (sZ (bR a) (bR b))),true⟩:=by
 refine bU func29 rfl ntmps29 results29 λl X k=>?_;apply aE;simp;apply aF;have g:=Dj a e;have h:=Dj b f;have i:=Wu (bR a) (bR b);have c:=fQ a;have d:=fQ b;have j:B5 a.length (B0 Df.d (bR a))=B0 Df.d (bR a):=A1 (by rw[A5,c];exact A4 _);have t2:B5 b.length (B0 Df.d (bR b))=B0 Df.d (bR b):=A1 (by rw[A5,d];exact A4 _);refine bH (λ|6=>some<| .plain ⟨.own 2 ((bR a).map Df.d),true⟩|8=>some<| .plain ⟨.own 2 ((bR b).map Df.d),true⟩|9=>some<| .plain ⟨.d (.bool (sZ (bR a) (bR b))),true⟩|_=>none) ?_;simp[c,d,j,t2];refine⟨⟨⟨by simpa using g,by simpa using h⟩,by simpa using i⟩,?_⟩;apply aH;simp
end
section
attribute[local simp] aR bK bE aO aL aZ aP
attribute[local simp] kJ.cond Nd.d_eq nd_t nd_dr nd_td ndsD aU bL
def dC.r(u:dC):DV:=.agg [aI u.bk,aI u.kind,.str u.name,.str u.field]
theorem use_mem{l:List dC}{y:DV}(h:y∈l.map dC.r):(aQ y).length=4:=by obtain⟨u,_,rfl⟩:=B2.1 h;rfl
theorem us_t{l:List dC}{k:Nat}:(∀y∈B5 k (B0 dC.r l),(aQ y).length=4)↔True:=iff_true_intro λ_ h=>use_mem (List.mem_of_mem_take h)
theorem us_m{l:List dC}:(∀y∈B0 dC.r l,(aQ y).length=4)↔True:=iff_true_intro λ_ h=>use_mem h
theorem us_d{u:dC}:(aQ u.r).length=4:=rfl
attribute[local simp] us_t us_m us_d dC.r
end
section
attribute[local simp] aR bK bE aO aL aZ aP
attribute[local simp] kJ.cond Nd.d_eq nd_t nd_dr nd_td ndsD aU bL bO
def firstE(l:List Df)(d:Df)(i:Nat):Int:=
 if(parseS d.text).2.2≠0 then(parseS d.text).2.2
 else if(parseS d.text).1.text≠d.name then 11
 else if sY l d.name<(i:Int)then 7
 else if(fieldsN (parseS d.text).1).Nodup then 0 else 7
def putS(l:List aV)(s:aV):List aV:=if s∈l then l else iP (kQ (λy=>Op.bytesLess s y) l l.length) s l
end
section
attribute[local simp] aR bK bE aO aL aZ aP
attribute[local simp] kJ.cond Nd.d_eq nd_t nd_dr nd_td ndsD aU bL bO us_t us_m us_d dC.r
def tAt(l:List Df)(name:aV):Nd:=(parseS (l.getD (sY l name).toNat default).text).1
def p1(l:List Df)(u:dC):Bool:=decide (sY l u.name<0)
def p2(l:List Df)(u:dC):Bool:=decide ((tAt l u.name).kind≠u.kind)
def p3(l:List Df)(u:dC):Bool:=decide (u.kind=1/\u.field∉fieldsN (tAt l u.name))
def secondE(l:List Df)(us:List dC):Int:=if us.any (p1 l)=true then 6 else if us.any (p2 l)=true then 12 else if us.any (p3 l)=true then 6 else 0
theorem idxN_lt{l:List Df}{a:aV}(h:0<=sY l a):∃i d,sY l a=((i:Nat):Int)/\l[i]? =some d/\tAt l a=(parseS d.text).1:=by
 unfold sY at h;rw[xC]at h;cases q:l.findIdx? (λd=>decide (d.name=a))with
 |none=>rw[q]at h;simp[uQ]at h
 |some i=>
  have b:=(A8.1 q).1;have e:sY l a=(i:Nat):=by unfold sY;rw[xC,q];rfl
  refine⟨i,l[i],e,A0 b,?_⟩;unfold tAt;rw[e,D9,A6,A0 b];rfl
def cbR(c:Bool)(k:Int):Bool:= !c||decide (k=14)
def bfsS(c:Bool)(st:List aV×List aV)(u:dC):List aV×List aV:=if cbR c u.bk=true/\u.name∉st.1 then(putS st.1 u.name,st.2++[u.name])else st
def bfsN(l:List Df)(c:Bool)(st:List aV×List aV)(nm:aV):List aV×List aV:=if sY l nm<0 then st else(cA (tAt l nm)).foldl (bfsS c) st
def bfsF(l:List Df)(c:Bool):Nat->Nat->List aV×List aV->List aV
 |0,_,st=>st.1
 |f+1,n,st=>match st.2[n]? with
  |none=>st.1
  |some nm=>bfsF l c f (n+1) (bfsN l c st nm)
def allU(l:List Df):List aV:=l.flatMap λd=>(cA (parseS d.text).1).map dC.name
def reachR(l:List Df)(name:aV)(c:Bool):List aV:=bfsF l c ((allU l).length+2) 0 ([],[name])
def muS(U out:List aV):Nat:=(U.filter λu=>decide (u∉out)).length
structure BfsJ(U:List aV)(st:List aV×List aV):Prop where
 room:st.1.length+muS U st.1<=U.length
 two:st.2.length=st.1.length+1
theorem putS_new{l:List aV}{s:aV}(h:s∉l):(putS l s).length=l.length+1:=by unfold putS;rw[if_neg h,tL]
theorem mem_putS{l:List aV}{s x:aV}:x∈putS l s↔x=s\/x∈l:=by
 unfold putS;split
 .rename_i h;exact⟨.inr,λa=>a.elim (λe=>e▸h) id⟩
 .exact mem_insAt
theorem muS_put{U a:List aV}{s:aV}(c:s∈U)(h:s∉a):muS U (putS a s)<muS U a:=by
 unfold muS;exact filterN_lt (x:=s) (λy b=>by simp[mem_putS]at b|-;exact b.2) c (by simpa using h) (by simp[mem_putS])
theorem bfsS_J{U:List aV}{c:Bool}{a:List aV×List aV}{u:dC}(d:u.name∈U)(h:BfsJ U a):BfsJ U (bfsS c a u)/\muS U (bfsS c a u).1+(bfsS c a u).2.length<=muS U a.1+a.2.length:=by
 unfold bfsS;split
 .rename_i b;have e:=muS_put d b.2;have f:=putS_new b.2;have g:=h.room;have i:=h.two;refine⟨⟨?_,?_⟩,?_⟩
  .show(putS a.1 u.name).length+muS U (putS a.1 u.name)<=U.length;omega
  .show(a.2++[u.name]).length=(putS a.1 u.name).length+1;rw[B3,E7];omega
  .show muS U (putS a.1 u.name)+(a.2++[u.name]).length<=_;rw[B3,E7];omega
 .exact⟨h,A4 _⟩
theorem uses_allU{l:List Df}{b:aV}(h:0<=sY l b):∀u∈cA (tAt l b),u.name∈allU l:=λu a=>by
 obtain⟨i,d,_,c,e⟩:=idxN_lt h;rw[e]at a;exact G1.2 ⟨d,C6 c,B2.2 ⟨u,a,rfl⟩⟩
theorem muS_nil(U:List aV):muS U []=U.length:=by unfold muS;rw[List.filter_eq_self.2 bA]
end
section
attribute[local simp] aR bK bE aO aL aZ aP
attribute[local simp] kJ.cond Nd.d_eq nd_t nd_dr nd_td ndsD aU bL
def q1(l:List Df)(i:Nat):Bool:=decide (firstE l (l.getD i default) i≠0)
def q2(l:List Df)(i:Nat):Bool:=decide (secondE l (cA (parseS (l.getD i default).text).1)≠0)
def q3(l:List Df)(i:Nat):Bool:=decide ((l.getD i default).name∈reachR l (l.getD i default).name true)
def chkR3(l:List Df):Int×Int:=match eP (q3 l) l.length with
 |some i=>((i:Int),13)
 |none=>((l.length:Int),0)
def chkR2(l:List Df):Int×Int:=match eP (q2 l) l.length with
 |some i=>((i:Int),secondE l (cA (parseS (l.getD i default).text).1))
 |none=>chkR3 l
def chkR1(l:List Df):Int×Int:=match eP (q1 l) l.length with
 |some i=>((i:Int),firstE l (l.getD i default) i)
 |none=>chkR2 l
def chkR(l:List Df):Int×Int:=if 24<l.length then(0,4)else chkR1 l
theorem RSameDefs_ok(a b:List Df)(m:a.length<=1000000000000):Ok prog 39 [gB a,gB b] ⟨.d (.bool (decide (a=b))),true⟩:=by
 refine bU func39 rfl ntmps39 results39 λn X k=>?_;apply aE;simp;apply aF;apply bF;simp;refine⟨λh=>?_,λh=>?_⟩
 .apply aE;simp;apply aH;simp;exact λe=>h (by rw[e])
 .apply aG;simp;apply eT;simp;apply aY;refine bC (ι:=Nat) (λi=>bB [(0,.d (gB a)),(1,.d (gB b)),(5,.d (aI (i:Nat)))]) (λi=>aK []) (λi=>i<=a.length/\a.take i=b.take i) (λi=>a.length-i) 0 (aA k [0,1,5] []) (⟨C1 _,rfl⟩) λi c=>?_;apply aF;apply bF;simp;refine⟨λl=>?_,λl=>?_⟩
  .apply aG;simp;apply eE;apply aF;have j:i<a.length:=aD;have d:i<b.length:=aD;refine fF.rd [] [] (λ_=>none) ?_;simp[j,d];apply aM;simp;refine⟨λg=>?_,λg=>?_⟩
   .apply aE;simp;apply aH;simp;intro e;subst e;simp at g
   .apply aG;simp;apply aJ;simp;refine⟨aD,?_⟩;refine Oe.mk (i+1) (aA k [0,1,5] []) ?_ ?_
    .refine⟨aD,?_⟩;rw[A2 j,A2 d,c.2,g]
    .omega
  .apply bQ;simp;apply aE;simp;apply aH;simp;have e:i=a.length:=aD;have:=c.2;rw[e,C8]at this;have f:a.length=b.length:=aD;rw[this,f,C8]
end
section
attribute[local simp] aR bK bE aO aL aZ aP
attribute[local simp] kJ.cond Nd.d_eq nd_t nd_dr nd_td ndsD aU bL bO us_t us_m us_d dC.r
def putAll(us:List dC):List aV:=us.foldl (λM u=>putS M u.name) []
def usesRAt(l:List Df):Option Nat->List aV×Int
 |none=>([],6)
 |some i=>if(parseS (l.getD i default).text).2.2≠0 then([],(parseS (l.getD i default).text).2.2)else(putAll (cA (parseS (l.getD i default).text).1),0)
def usesR(l:List Df)(name:aV):List aV×Int:=usesRAt l (l.findIdx? λd=>decide (d.name=name))
end
section
attribute[local simp] aR bK bE aO aL aZ aP
attribute[local simp] kJ.cond Nd.d_eq nd_t nd_dr nd_td ndsD aU bL bO
def testsR(l:List Df):List aV:=if(chkR l).2≠0 then []else l.foldl (λM d=>if(parseS d.text).1.kind=6 then putS M d.name else M) []
def testsRt(l:List Df):List aV:=l.foldl (λM d=>if(parseS d.text).1.kind=6 then putS M d.name else M) []
end
section
attribute[local simp] lX lY oG lZ jR oH mC mD rD oI oJ oK oL oM
attribute[local simp] rE pK oN wM oO oP iA kJ.cond aU IA fP bO rF rG mE wO wP wN mF mN rV oQ oS wR wS rH oT oU Aa Ab tW wQ nN sU
def digP(l:List Df):List aV:=l.flatMap λd=>[d.name,jT d]
theorem digP_len:∀l:List Df,(digP l).length=2*l.length
 |[]=>rfl
 |d::l=>by have:=digP_len l;simp only[digP,List.flatMap_cons,B3,B9,D1]at*;omega
theorem digP_succ{l:List Df}{k:Nat}(h:k<l.length):digP (l.take (k+1))=digP (l.take k)++[l[k].name,jT l[k]]:=by
 unfold digP;rw[<-List.take_append_getElem h,List.flatMap_append];simp
theorem digP_tlen{l:List Df}{k:Nat}(h:k<=l.length):(digP (l.take k)).length=2*k:=by rw[digP_len,E0,G7 h]
def dig7(l:List Df):List DV:=jD (RU 8 (digP (bR l)))
def Hshort(l:List Df):Prop:=l.length<40/\∀d∈l,d.name.length<=2000000000/\(jT d).length<=2000000000
theorem Hshort.parts{l:List Df}(h:Hshort l):∀s∈digP (bR l),s.length<=2000000000:=λs a=>by
 obtain⟨d,b,a⟩:=G1.1 a;have:=h.2 d ((nO l).mem_iff.1 b);simp at a;rcases a with rfl|rfl<;>omega
theorem TDigest_ok(l:List Df)(h:Hshort l):Ok prog 27 [gB l] ⟨.d (.agg (dig7 l)),true⟩:=by
 refine Cp func27 rfl ntmps27 results27 λC X u=>?_;obtain⟨A,_⟩:=id h;have q:=fQ l;have d:=Dj l A;have g:=digP_len (bR l);have j:=aAN 8 (digP (bR l)) aD h.parts;have m:jD (RU 8 (digP (bR l)))=dig7 l:=rfl;rw[m]at j;obtain⟨D,i⟩:∃D,D=dig7 l:=⟨_,rfl⟩;rw[<-i]at j;rw[<-i];have a:D.length=16:=by rw[i];simp[dig7,jD,Dc]
 have f:∀Z:List LV,Z.length<=16->bE 0 Z (D.map LV.d)=D.map LV.d:=λZ y=>eO (by rw[A5,a];exact y);have v:DV.int .u8 0=pJ 0:=rfl;obtain⟨S,x⟩:∃S,S=bR l:=⟨_,rfl⟩;rw[<-x]at q d g j;have B:B5 S.length (S.map Df.d)=S.map Df.d:=A1 bA;apply aE;simp;apply aE;simp;apply aF;refine dF (og 7 (.plain ⟨.own 2 (S.map Df.d),true⟩)) ?_;simp;refine⟨d,?_⟩;apply aY;refine bC (ι:=Nat) (λk=>bB [(2,.bx 2 0),(3,.ow 3 0 (2*k)),(7,.ow 7 0 S.length),(8,.d (aI S.length)),(9,.d (aI k))]) (λk=>aK [(2,.box false (List.replicate 16 (.d (pJ 0)))),(3,.row false 1 ((digP (S.take k)).map .str)),(7,.row false 2 (S.map Df.d))]) (λk=>k<=S.length) (λk=>S.length-k) 0 (aA u [2,3,7,8,9] [(2,2),(3,3),(7,7)] (hH:=by simp[v,digP])) (C1 _) λk z=>?_;apply aE;simp;apply aF;apply aM;simp;refine⟨λw=>?_,λw=>?_⟩
 .apply aG;simp;apply eE;apply aF;have e:k<S.length:=aD;apply aJ;simp[e,bE];have o:=digP_tlen (l:=S) (k:=k) aD;have b:B5 (2*k) ((digP (S.take k)).map DV.str)=(digP (S.take k)).map DV.str:=A1 (by simp[o]);have p:=Ae S[k];refine fF.rd [[17,18],[17],[17]] [[],[],[],[],[17],[18],[3,19]] (og 17 (.plain ⟨.d (.str (jT S[k])),true⟩)) ?_;simp[e,b];refine⟨⟨⟨by simpa using p,rfl⟩,aD⟩,?_⟩;apply aJ;simp;refine⟨aD,?_⟩;refine Oe.mk (k+1) (aA u [2,3,7,8,9] [(2,2),(19,3),(7,7)] (by simp[show 2*k+2=2*(k+1)by omega]) (by simp[digP_succ e])) ?_ ?_
  .omega
  .omega
 .apply bQ;simp;apply aF;have e:k=S.length:=aD;subst e;have b:B5 (2*S.length) ((digP S).map DV.str)=(digP S).map DV.str:=A1 (by simp[g]);refine bH (og 22 (.plain ⟨.d (.agg D),true⟩)) ?_;simp[b,a,f];refine⟨by simpa using j,?_⟩;apply aH;have s:B5 16 (D.map LV.d)=D.map LV.d:=A1 (by simp[a]);have r:=kS D;simp[a,s,r];intro c t;rw[i]at t;obtain⟨k,n,rfl⟩:=Ib _ c t;rfl
end
structure Alike(d e:Df):Prop where
 nm:e.name=d.name
 tree:(parseS e.text).1=(parseS d.text).1
 err:(parseS e.text).2.2=(parseS d.text).2.2
 mean:jT e=jT d
theorem Alike.refl(d:Df):Alike d d:=⟨rfl,rfl,rfl,rfl⟩
def prD(d:Df):Df:=if(parseS d.text).2.2=0 then⟨d.name,printS (parseS d.text).1⟩else d
def spD(n:List Int)(d:Df):Df:=if(parseS d.text).2.2=0 then(if(parseS (spacedS d.text n)).2.2≠0/\1024<(spacedS d.text n).length then prD d else⟨d.name,spacedS d.text n⟩)else d
theorem alike_of{d e:Df}(b:e.name=d.name)(a:(parseS d.text).2.2=0)(h:parseS e.text=parseS d.text):Alike d e:=
 ⟨b,by rw[h],by rw[h],by unfold jT;rw[h,if_neg (by rw[a];decide),if_neg (by rw[a];decide)]⟩
theorem alike_pr(d:Df):Alike d (prD d):=by
 unfold prD;by_cases h:(parseS d.text).2.2=0
 .rw[if_pos h];obtain⟨_,_,_,a,b⟩:=EC h;refine alike_of rfl h ?_;show parseS (printS (parseS d.text).1)=_;unfold printS;rw[if_pos a,parse_text a,b]
 .rw[if_neg h];exact .refl d
theorem alike_sp(n:List Int)(d:Df):Alike d (spD n d):=by
 unfold spD;by_cases h:(parseS d.text).2.2=0
 .rw[if_pos h];by_cases b:(spacedS d.text n).length<=1024
  .have a:=HT h n b;rw[if_neg aD];exact alike_of rfl h a
  .rw[if_pos ⟨by unfold parseS;rw[if_pos aD];decide,aD⟩];exact alike_pr d
 .rw[if_neg h];exact .refl d
theorem rdE_f{f:Df->Df}(h:∀d,Alike d (f d))(a:List Nd)(d:Df):Fo a (f d)=Fo a d:=by
 unfold Fo;rw[(h d).tree,(h d).err,(h d).nm]
theorem rdF_f{f:Df->Df}(h:∀d,Alike d (f d)):∀(l:List Df) (a:List Nd),Bh a (l.map f)=Bh a l
 |[],_=>rfl
 |d::l,a=>by rw[C3,Bh,Bh,rdE_f h,(h d).tree,rdF_f h l]
theorem readP_f{f:Df->Df}(h:∀d,Alike d (f d))(l:List Df):dK (l.map f)=dK l:=by
 unfold dK;rw[A5,rdF_f h]
theorem chkP_f{f:Df->Df}(h:∀d,Alike d (f d))(l:List Df):iV (l.map f)=iV l:=by
 unfold iV;rw[A5,readP_f h]
theorem rpos_map{α:Type}{p:α->Bool}{f:α->α}{a:List α}(h:∀x,p (f x)=p x):∀k,kQ p (a.map f) k=kQ p a k
 |0=>rfl
 |k+1=>by
  rw[kQ,kQ,D8];cases a[k]? with
  |none=>rfl
  |some y=>simp only[G6,h,rpos_map h k]
theorem sortD_f{f:Df->Df}(h:∀d,(f d).name=d.name)(l:List Df):bR (l.map f)=(bR l).map f:=by
 unfold bR;have:∀(l a:List Df),(l.map f).foldl gX (a.map f)=(l.foldl gX a).map f:=λl=>by
  induction l with
  |nil=>intro a;rfl
  |cons x r ih=>
   intro a;rw[C3,C0,C0,<-ih];congr 1;unfold gX iP;rw[A5,rpos_map (λy=>by simp only[h]),A7,C3,C4,F3,h]
 exact this l []
theorem key_f{f:Df->Df}(h:∀d,Alike d (f d))(l:List Df):(bR (l.map f)).map Fc=(bR l).map Fc:=by
 rw[sortD_f λd=>(h d).nm,H3];congr 1;funext d;simp only[Function.comp_def,Fc,(h d).nm,(h d).mean]
theorem digP_key(l:List Df):digP l=(l.map Fc).flatMap λk=>[k.1,k.2]:=by
 unfold digP;rw[List.flatMap_map];rfl
theorem dig_f{f:Df->Df}(h:∀d,Alike d (f d))(l:List Df):dig7 (l.map f)=dig7 l:=by
 unfold dig7;rw[digP_key,key_f h,<-digP_key]
theorem short_f{f:Df->Df}(h:∀d,Alike d (f d)){l:List Df}(a:Hshort l):Hshort (l.map f):=by
 refine⟨by rw[A5];exact a.1,λe c=>?_⟩;obtain⟨d,b,rfl⟩:=B2.1 c;rw[(h d).nm,(h d).mean];exact a.2 d b
theorem same_f{f g:Df->Df}(h:∀d,Alike d (f d))(a:∀d,Alike d (g d))(l:List Df):sZ (bR (l.map f)) (bR (l.map g))=true:=by
 unfold sZ;rw[key_f h,key_f a];exact decide_eq_true rfl
theorem same_f0{f:Df->Df}(h:∀d,Alike d (f d))(l:List Df):sZ (bR l) (bR (l.map f))=true:=by
 unfold sZ;rw[key_f h];exact decide_eq_true rfl
section
attribute[local simp] aR bK bE aO aL aZ aP
attribute[local simp] kJ.cond Nd.d_eq nd_t nd_dr nd_td ndsD aU bL bO
theorem RD_ok(n:Int)(a: -999<=n)(b:n<=999):Ok prog 149 [aI n] ⟨.d (.str (itoaS n)),true⟩:=by
 refine bU func149 rfl ntmps149 results149 λd X c=>?_;apply aE;simp;refine dF (og 4 (.plain ⟨.d (.str (itoaS n)),true⟩)) ?_;simp;refine⟨jO n a b,?_⟩;apply aH;simp
def defG(word letter:aV)(i:Int)(text:aV):Df:=⟨letter++itoaS i,word++[32]++(letter++itoaS i)++text⟩
theorem RDef7_ok(c a:aV)(i:Int)(b:aV)(d: -999<=i)(e:i<=999)(g:(itoaS i).length<=1000)(k:c.length<=1000)(f:a.length<=1000)(j:b.length<=1000000):Ok prog 273 [.str c,.str a,aI i,.str b] ⟨.d (defG c a i b).d,false⟩:=by
 refine Cp func273 rfl ntmps273 results273 λl X h=>?_;apply aE;simp;refine dF (og 12 (.plain ⟨.d (.str (itoaS i)),true⟩)) ?_;simp;refine⟨⟨RD_ok i d e,aD⟩,?_⟩;apply aE;simp;refine⟨⟨⟨aD,aD⟩,aD⟩,?_⟩;apply aH;simp[defG,Df.d]
def turnI(n:Nat)(b:Int)(i:Nat):Nat:=let k:=(i+(bT b (n:Int)).toNat)%n;if b.tmod 2≠0 then n-1-k else k
def turnL(l:List Df)(b:Int):List Df:=(G8 l.length).map λi=>l.getD (turnI l.length b i) default
theorem RTurned_ok(l:List Df)(b:Int)(F:l.length<=1000000)(z: -9223372036854775808<=b)(A:b<=9223372036854775807):Ok prog 33 [gB l,aI b] ⟨.own 2 ((turnL l b).map Df.d),true⟩:=by
 refine bU func33 rfl ntmps33 results33 λG X g=>?_;have d:(turnL l b).length=l.length:=by simp[turnL]
 apply aE;simp;apply aE;simp;apply eT;simp;apply aY;refine bC (ι:=Nat) (λi=>bB [(0,.d (gB l)),(1,.d (aI b)),(5,.ow 5 0 i),(6,.d (aI (i:Nat)))]) (λi=>aK [(5,.row false 2 (((turnL l b).take i).map Df.d))]) (λi=>i<=l.length) (λi=>l.length-i) 0 (aA g [0,1,5,6] [(5,5)]) (C1 _) λi D=>?_;apply aF;apply bF;simp;refine⟨λB=>?_,λB=>?_⟩
 .apply aG;simp;apply eE;apply aF;have s:i<l.length:=aD;have y:=eR b (l.length:Int) z A aD;have E:=dN b (l.length:Int) aD;obtain⟨m,u⟩:∃m:Nat,bT b (l.length:Int)=(m:Int):=⟨(bT b (l.length:Int)).toNat,aD⟩;rw[u]at y E;have a:((i:Int)+(m:Int)).tmod (l.length:Int)=(((i+m)%l.length:Nat):Int):=by rw[<-Int.natCast_add];rfl
  have o:l≠[]:=λe=>by rw[e]at s;simp at s
  have j:(i+m)%l.length<l.length:=Nat.mod_lt _ aD;obtain⟨k,t⟩:∃k,(i+m)%l.length=k:=⟨_,rfl⟩;rw[t]at a j;have c:turnI l.length b i=if b.tmod 2≠0 then l.length-1-k else k:=by unfold turnI;rw[u];simp only[D9,t]
  refine bH (og 18 (.plain ⟨.d (aI (m:Int)),true⟩)) ?_;simp[a];refine⟨⟨⟨by simpa using y,aD,aD⟩,o⟩,?_⟩;refine bI (ι:=Unit) (λw=>bB [(0,.d (gB l)),(1,.d (aI b)),(5,.ow 5 0 i),(6,.d (aI (i:Nat))),(7,.d (aI ((turnI l.length b i:Nat):Int)))]) (λw=>aK [(5,.row false 2 (((turnL l b).take i).map Df.d))]) (λw=>True) ?_ λw C=>?_
  .apply bF;simp;refine⟨λh=>?_,λh=>?_⟩
   .have q:turnI l.length b i=l.length-1-k:=(by rw[c,if_pos h]);apply aJ;simp;refine⟨⟨aD,aD⟩,?_⟩;exact(aA g [0,1,5,6,7] [(5,5)] (by simp[q,show(l.length:Int)- 1-(k:Int)=((l.length-1-k:Nat):Int)by omega]))
   .have q:turnI l.length b i=k:=by rw[c,if_neg (by simpa using h)]
    apply aG;simp;exact(aA g [0,1,5,6,7] [(5,5)] (by simp[q]))
  .have f:turnI l.length b i<l.length:=by rw[c];split<;>omega
   obtain⟨x,v⟩:∃x,l[turnI l.length b i]=x:=⟨_,rfl⟩;have p:(turnL l b).take (i+1)=(turnL l b).take i++[x]:=by
    rw[A2 aD];simp[turnL,A0 f,v]
   have n:B5 (i+1) (B0 Df.d (turnL l b))=B5 i (B0 Df.d (turnL l b))++[x.d]:=(by rw[<-C4,p,A7,C4];rfl);apply aJ;simp[f,v];refine⟨⟨aD,aD⟩,?_⟩;apply aJ;simp;refine⟨aD,?_⟩;refine Oe.mk (i+1) (aA g [0,1,5,6] [(37,5)] (hH:=by simp[n,G9,Df.d])) ?_ ?_
   .omega
   .omega
 .apply bQ;simp;apply aE;simp;apply aH;have e:i=l.length:=aD;have r:B5 l.length (B0 Df.d (turnL l b))=B0 Df.d (turnL l b):=A1 (by rw[A5,d];exact A4 _);simp[e,d,r]
end
structure R3 where
 w:aV
 l:aV
 t:aV
def R3.d(r:R3):DV:=.agg [.str r.w,.str r.l,.str r.t]
def ofL(i:Nat)(rows:List R3):List Df:=rows.map λr=>defG r.w r.l (i:Int) (lV r.t i)
def twoL:List aV:=[[120,35,32,61,61,32,50],[49,32,60,61,32,120,35],[120,35,32,60,32,50],[120,35,32,61,61,32,51]]
def orderL:List aV:=[[97,99,113,117,105,114,101,32,97,35,59,32,97,99,113,117,105,114,101,32,98,35,59,32,114,101,108,101,97,115,101,32,98,35,59,32,114,101,108,101,97,115,101,32,97,35,59],[97,99,113,117,105,114,101,32,98,35,59,32,97,99,113,117,105,114,101,32,97,35,59,32,114,101,108,101,97,115,101,32,97,35,59,32,114,101,108,101,97,115,101,32,98,35,59]]
def rowL:List aV:=[[36,97,32,60,32,36,98],[36,98,32,60,32,36,97]]
def fiveL:List aV:=[[36,97,32,61,61,32,36,98],[36,97,32,43,32,36,98,32,60,32,51]]
def eightL:List aV:=[[],[32,119,114,105,116,101,32,102,35,32,55,59]]
def nineL:List aV:=[[32,123,32,99,104,101,99,107,32,115,104,97,114,101,100,32,61,61,32,48,59,32,115,104,97,114,101,100,32,61,32,49,59,32,125],[32,123,32,115,104,97,114,101,100,32,61,32,115,104,97,114,101,100,32,43,32,49,59,32,99,104,101,99,107,32,115,104,97,114,101,100,32,60,32,50,59,32,125]]
def lastL:List aV:=[[49],[36,97,32,61,61,32,48]]
def twoS(v:Nat):aV:=twoL.getD (v / 2%4) []
def orderS(v:Nat):aV:=orderL.getD (v%2) []
def rowS(v:Nat):aV:=rowL.getD (v / 2%2) []
def fiveS(v:Nat):aV:=fiveL.getD (v / 2%2) []
def eightS(v:Nat):aV:=eightL.getD (v%2) []
def nineS(v:Nat):aV:=nineL.getD (v%2) []
def lastS(v:Nat):aV:=lastL.getD (v / 9%2) []
def rowsP(v:Nat):Nat->List R3
 |0=>[⟨[118,97,114],[120],[32,61,32]++itoaS ((v%2:Nat):Int)++[59]⟩,⟨[99,104,97,110],[99],[32,49,59]⟩,⟨[112,114,111,99],[112],[32,123,32,120,35,32,61,32,120,35,32,43,32,49,59,32,115,101,110,100,32,99,35,32,49,59,32,125]⟩,⟨[116,101,115,116],[116],[32,123,32,103,111,32,112,35,59,32,120,35,32,61,32,120,35,32,43,32,49,59,32,114,101,99,118,32,99,35,32,36,97,59,32,99,104,101,99,107,32]++twoS v++[59,32,125]⟩]
 |1=>[⟨[118,97,114],[120],[32,61,32]++itoaS ((v%2:Nat):Int)++[59]⟩,⟨[108,111,99,107],[109],[59]⟩,⟨[99,104,97,110],[99],[32,49,59]⟩,⟨[112,114,111,99],[112],[32,123,32,97,99,113,117,105,114,101,32,109,35,59,32,120,35,32,61,32,120,35,32,43,32,49,59,32,114,101,108,101,97,115,101,32,109,35,59,32,115,101,110,100,32,99,35,32,49,59,32,125]⟩,⟨[116,101,115,116],[116],[32,123,32,103,111,32,112,35,59,32,97,99,113,117,105,114,101,32,109,35,59,32,120,35,32,61,32,120,35,32,43,32,49,59,32,114,101,108,101,97,115,101,32,109,35,59,32,114,101,99,118,32,99,35,32,36,97,59,32,99,104,101,99,107,32]++twoS v++[59,32,125]⟩]
 |2=>[⟨[99,104,97,110],[113],[32]++itoaS ((1+v%2:Nat):Int)++[59]⟩,⟨[112,114,111,99],[112],[32,123,32,115,101,110,100,32,113,35,32,49,59,32,115,101,110,100,32,113,35,32,50,59,32,125]⟩,⟨[116,101,115,116],[116],[32,123,32,103,111,32,112,35,59,32,114,101,99,118,32,113,35,32,36,97,59,32,114,101,99,118,32,113,35,32,36,98,59,32,99,104,101,99,107,32]++rowS v++[59,32,125]⟩]
 |3=>[⟨[99,104,97,110],[114],[32,48,59]⟩,⟨[99,104,97,110],[99],[32,49,59]⟩,⟨[118,97,114],[120],[32,61,32,48,59]⟩,⟨[112,114,111,99],[112],[32,123,32,114,101,99,118,32,114,35,32,36,118,59,32,120,35,32,61,32,49,59,32,115,101,110,100,32,99,35,32,49,59,32,125]⟩,⟨[112,114,111,99],[111],[32,123,32,114,101,99,118,32,114,35,32,36,118,59,32,120,35,32,61,32,50,59,32,115,101,110,100,32,99,35,32,49,59,32,125]⟩,⟨[116,101,115,116],[116],[32,123,32,103,111,32,112,35,59,32,103,111,32,111,35,59,32,115,101,110,100,32,114,35,32,53,59,32,114,101,99,118,32,99,35,32,36,97,59,32,99,104,101,99,107,32,120,35,32,61,61,32]++itoaS ((1+v%2:Nat):Int)++[59,32,125]⟩]
 |4=>[⟨[108,111,99,107],[97],[59]⟩,⟨[108,111,99,107],[98],[59]⟩,⟨[99,104,97,110],[99],[32,49,59]⟩,⟨[112,114,111,99],[112],[32,123,32,97,99,113,117,105,114,101,32,98,35,59,32,97,99,113,117,105,114,101,32,97,35,59,32,114,101,108,101,97,115,101,32,97,35,59,32,114,101,108,101,97,115,101,32,98,35,59,32,115,101,110,100,32,99,35,32,49,59,32,125]⟩,⟨[116,101,115,116],[116],[32,123,32,103,111,32,112,35,59,32]++orderS v++[32,114,101,99,118,32,99,35,32,36,120,59,32,125]⟩]
 |5=>[⟨[99,104,97,110],[99],[32,49,59]⟩,⟨[112,114,111,99],[112],[32,123,32,100,114,97,119,32,36,97,32]++itoaS ((2+v%2:Nat):Int)++[59,32,115,101,110,100,32,99,35,32,36,97,59,32,125]⟩,⟨[116,101,115,116],[116],[32,123,32,103,111,32,112,35,59,32,100,114,97,119,32,36,98,32,50,59,32,114,101,99,118,32,99,35,32,36,97,59,32,99,104,101,99,107,32]++fiveS v++[59,32,125]⟩]
 |6=>[⟨[116,101,115,116],[116],[32,123,32,100,114,97,119,32,36,97,32,51,59,32,100,114,97,119,32,36,98,32,50,59,32,99,104,101,99,107,32,36,97,32,42,32,36,98,32,60,32]++itoaS ((1+v%3:Nat):Int)++[59,32,125]⟩]
 |7=>[⟨[116,101,115,116],[116],[32,123,32,110,111,119,32,36,97,59,32,115,108,101,101,112,32,50,59,32,110,111,119,32,36,98,59,32,99,104,101,99,107,32,36,98,32,45,32,36,97,32,60,32]++itoaS ((3+v%3:Nat):Int)++[59,32,125]⟩]
 |8=>[⟨[102,105,108,101],[102],[59]⟩,⟨[116,101,115,116],[116],[32,123,32,119,114,105,116,101,32,102,35,32,55,59]++eightS v++[32,114,101,97,100,32,102,35,32,36,97,59,32,99,104,101,99,107,32,36,97,32,61,61,32,55,59,32,125]⟩]
 |9=>[⟨[116,101,115,116],[116],nineS v⟩]
 |10=>[⟨[118,97,114],[120],[32,61,32,48,59]⟩,⟨[116,101,115,116],[116],[32,123,32,119,104,105,108,101,32,36,105,32,60,32]++itoaS ((1+v%3:Nat):Int)++[32,123,32,120,35,32,61,32,120,35,32,43,32,49,59,32,36,105,32,61,32,36,105,32,43,32,49,59,32,125,32,99,104,101,99,107,32,120,35,32,61,61,32,50,59,32,125]⟩]
 |11=>[⟨[116,101,115,116],[116],[32,123,32,105,102,32,107,105,110,100,32,61,61,32]++itoaS ((v%3:Nat):Int)++[32,123,32,100,114,97,119,32,36,97,32,50,59,32,99,104,101,99,107,32,36,97,32,61,61,32,48,59,32,125,32,125]⟩]
 |12=>[⟨[114,101,99],[103],[32,123,32,97,32,61,32,49,59,32,98,32,61,32,50,59,32,125]⟩,⟨[112,114,111,99],[104],[32,123,32,103,35,46,97,32,61,32,103,35,46,98,32,43,32,49,59,32,125]⟩,⟨[116,101,115,116],[116],[32,123,32,99,97,108,108,32,104,35,59,32,99,97,108,108,32,104,35,59,32,99,104,101,99,107,32,103,35,46,97,32,61,61,32]++itoaS ((2+v%3:Nat):Int)++[59,32,125]⟩]
 |_=>[⟨[116,101,115,116],[116],[32,123,32,100,114,97,119,32,36,97,32,50,59,32,105,102,32,36,97,32,123,32,97,108,108,111,99,32,53,59,32,115,108,101,101,112,32,50,59,32,110,111,119,32,36,98,59,32,125,32,101,108,115,101,32,123,32,97,108,108,111,99,32]++itoaS ((1+v%9:Nat):Int)++[59,32,125,32,99,104,101,99,107,32]++lastS v++[59,32,125]⟩]
def patL(k i v:Nat):List Df:=ofL i (rowsP v k)
def sharedD:Df:=⟨[115,104,97,114,101,100],[118,97,114,32,115,104,97,114,101,100,32,61,32,48,59]⟩
def prgS(l:List Int)(st:List Df×Bool)(i:Nat):List Df×Bool:=
 let n:=(dM l (1+i) 4096).toNat
 let out:=st.1++patL (n%14) i (n / 14)
 if n%14=9/\st.2=false then(out++[sharedD],true)else(out,st.2)
def prgN(l:List Int):Nat:=1+(dM l 0 3).toNat
def prgO(l:List Int)(k:Nat):List Df×Bool:=(G8 k).foldl (prgS l) ([],false)
def prgL(l:List Int):List Df:=turnL (prgO l (prgN l)).1 (dM l 4 64)
section
attribute[local simp] aR bK bE aO aL aZ aP
attribute[local simp] kJ.cond Nd.d_eq nd_t nd_dr nd_td ndsD aU bL bO
theorem fillS_len(s:aV)(i:Nat):(lV s i).length=s.length:=by simp[lV]
theorem RFilled_ok(s:aV)(i:Nat)(e:i<=9)(f:s.length<=1000000000):Ok prog 274 [.str s,aI i] ⟨.d (.str (lV s i)),true⟩:=by
 refine bU func274 rfl ntmps274 results274 λh X g=>?_;apply aE;simp;have a:∀{b:Op} {d:Option Nat} {t:TypeId} {p:String} {c:Array Edge},mY ⟨d,b,t,p,c,none⟩ b d:=⟨rfl,rfl,rfl⟩;refine Re hT jM jM jM jM (λw=>cR (w:=w) hT (t:=5) rfl) rfl rfl rfl a a a a a a a a a a a a a a a a a a a a a a a a a a (s:=s) (i:=i) bA bA e f ?_;simp
theorem r3_mem{l:List R3}{y:DV}(h:y∈l.map R3.d):(aQ y).length=3:=by obtain⟨u,_,rfl⟩:=B2.1 h;rfl
theorem r3_m{l:List R3}:(∀y∈B0 R3.d l,(aQ y).length=3)↔True:=iff_true_intro λ_ h=>r3_mem h
theorem r3_d{u:R3}:(aQ u.d).length=3:=rfl
attribute[local simp] r3_m r3_d R3.d
theorem ofL_len(i:Nat)(r:List R3):(ofL i r).length=r.length:=by simp[ofL]
theorem ROf_ok(i:Nat)(r:List R3)(l:i<=9)(s:r.length<=1000)(n:∀x∈r,x.w.length<=1000/\x.l.length<=1000/\x.t.length<=1000000):Ok prog 219 [aI i,.sl (r.map R3.d)] ⟨.own 2 ((ofL i r).map Df.d),true⟩:=by
 refine bU func219 rfl ntmps219 results219 λu X h=>?_;apply aE;simp;apply aE;simp;apply eT;simp;apply aY;refine bC (ι:=Nat) (λk=>bB [(0,.d (aI (i:Nat))),(1,.d (.sl (r.map R3.d))),(5,.ow 5 0 k),(6,.d (aI (k:Nat)))]) (λk=>aK [(5,.row false 2 (((ofL i r).take k).map Df.d))]) (λk=>k<=r.length) (λk=>r.length-k) 0 (aA h [0,1,5,6] [(5,5)]) (C1 _) λk m=>?_;apply aF;apply bF;simp;refine⟨λj=>?_,λj=>?_⟩
 .apply aG;simp;apply eE;have a:k<r.length:=aD;obtain⟨x,g⟩:∃x,r[k]=x:=⟨_,rfl⟩;obtain⟨o,b,t⟩:=n x (g▸C9 a);have q:=RFilled_ok x.t i l aD;have p:=RDef7_ok x.w x.l (i:Int) (lV x.t i) aD aD (by have:=cI (i:Int);omega) o b (by rw[fillS_len];omega);have d:(ofL i r).take (k+1)=(ofL i r).take k++[defG x.w x.l (i:Int) (lV x.t i)]:=by
   rw[A2 (by rw[ofL_len];exact a)];simp[ofL,g]
  have c:B5 (k+1) (B0 Df.d (ofL i r))=B5 k (B0 Df.d (ofL i r))++[(defG x.w x.l (i:Int) (lV x.t i)).d]:=by rw[<-C4,d,A7,C4];rfl
  refine fF.rd [[31,32,33],[31],[31],[31],[31],[31],[31],[31],[31],[31],[31],[31]] [[],[],[],[],[],[],[],[],[],[],[],[],[],[],[],[],[],[],[31],[32],[33],[5,34]] (λ|31=>some<| .plain ⟨.d (.str (lV x.t i)),true⟩|32=>some<| .plain ⟨.d (defG x.w x.l (i:Int) (lV x.t i)).d,false⟩|_=>none) ?_;simp[a,g];refine⟨⟨⟨by simpa using q,by simpa using p⟩,aD⟩,?_⟩;apply aJ;simp;refine⟨aD,?_⟩;refine Oe.mk (k+1) (aA h [0,1,5,6] [(34,5)] (hH:=by simp[c,G9,Df.d])) ?_ ?_
  .omega
  .omega
 .apply bQ;simp;apply aE;simp;apply aH;have e:k=r.length:=aD;have f:B5 r.length (B0 Df.d (ofL i r))=B0 Df.d (ofL i r):=A1 (by rw[A5,ofL_len];exact A4 _);simp[e,f,ofL_len]
end
section
attribute[local simp] aR bK bE aO aL aZ aP
attribute[local simp] kJ.cond Nd.d_eq nd_t nd_dr nd_td ndsD aU bL bO r3_m r3_d R3.d
theorem getD_len{L:List aV}{k b:Nat}(h:∀w∈L,w.length<=b):(L.getD k []).length<=b:=by
 rw[A6];cases e:L[k]? with
 |none=>exact C1 _
 |some w=>exact h w (C6 e)
theorem str_at{L:List aV}{k:Nat}(h:k<L.length):(L.map DV.str)[k]?.getD default=.str (L.getD k []):=by
 rw[D8,A0 h];simp[A6,h]
theorem twoL_le:∀w∈twoL,w.length<=60:=bG
theorem orderL_le:∀w∈orderL,w.length<=60:=bG
theorem rowL_le:∀w∈rowL,w.length<=60:=bG
theorem fiveL_le:∀w∈fiveL,w.length<=60:=bG
theorem eightL_le:∀w∈eightL,w.length<=60:=bG
theorem nineL_le:∀w∈nineL,w.length<=60:=bG
theorem lastL_le:∀w∈lastL,w.length<=60:=bG
theorem rowsP_small(v k:Nat):(rowsP v k).length<=6/\∀x∈rowsP v k,x.w.length<=1000/\x.l.length<=1000/\x.t.length<=1000:=by
 have a:=cI ((v%2:Nat):Int);have b:=cI ((1+v%2:Nat):Int);have c:=cI ((2+v%2:Nat):Int);have d:=cI ((v%3:Nat):Int);have e:=cI ((1+v%3:Nat):Int);have f:=cI ((2+v%3:Nat):Int);have g:=cI ((3+v%3:Nat):Int);have h:=cI ((1+v%9:Nat):Int);have i:(twoS v).length<=60:=getD_len twoL_le;have j:(orderS v).length<=60:=getD_len orderL_le;have l:(rowS v).length<=60:=getD_len rowL_le;have m:(fiveS v).length<=60:=getD_len fiveL_le;have n:(eightS v).length<=60:=getD_len eightL_le;have o:(nineS v).length<=60:=getD_len nineL_le;have p:(lastS v).length<=60:=getD_len lastL_le;unfold rowsP;split<;>(simp only[List.forall_mem_cons,B3,B9,D1,List.not_mem_nil,false_imp_iff,implies_true,and_true];(repeat' with_reducible apply And.intro)<;>omega)
theorem pat_ok(k i v:Nat)(a:i<=9):Ok prog 219 [aI i,.sl ((rowsP v k).map R3.d)] ⟨.own 2 ((patL k i v).map Df.d),true⟩:=
 ROf_ok i (rowsP v k) a (by have:=(rowsP_small v k).1;omega) λx b=>by have:=(rowsP_small v k).2 x b;omega
theorem RThreads_ok(k i v:Nat)(hk:k<6)(E:i<=9)(hv:v<=1000000):Ok prog 218 [aI k,aI i,aI v] ⟨.own 2 ((patL k i v).map Df.d),true⟩:=by
 refine bU func218 rfl ntmps218 results218 λw0 X hp=>?_;obtain⟨e,q2⟩:∃m:Nat,v%2=m:=⟨_,rfl⟩;obtain⟨m3,q3⟩:∃m:Nat,v%3=m:=⟨_,rfl⟩;obtain⟨m9,D⟩:∃m:Nat,v%9=m:=⟨_,rfl⟩;obtain⟨S,I⟩:∃m:Nat,v / 2%4=m:=⟨_,rfl⟩;obtain⟨H,F⟩:∃m:Nat,v / 2%2=m:=⟨_,rfl⟩;obtain⟨n9,G⟩:∃m:Nat,v / 9%2=m:=⟨_,rfl⟩;have w:(v:Int).tmod 2=(e:Int):=by rw[<-q2];rfl
 have y:(v:Int).tmod 3=(m3:Int):=by rw[<-q3];rfl
 have A:(v:Int).tmod 9=(m9:Int):=by rw[<-D];rfl
 have z:((v:Int) / 2).tmod 4=(S:Int):=by rw[<-I];rfl
 have s:((v:Int) / 2).tmod 2=(H:Int):=by rw[<-F];rfl
 have t:((v:Int) / 9).tmod 2=(n9:Int):=by rw[<-G];rfl
 have b2:(v:Int) / 2<=v:=aD;have b9:(v:Int) / 9<=v:=aD;apply aE;simp;apply aF;obtain⟨K,j⟩:∃x,twoS v=x:=⟨_,rfl⟩;have V:K.length<=60:=by rw[<-j];exact getD_len twoL_le
 have o:=str_at (L:=twoL) (k:=S) (by show _<4;omega);rw[show twoL.getD S []=K by rw[<-j];simp only[twoS,q2,I,F,G]]at o;simp[twoL]at o;apply aJ;simp[w,y,A,z,s,t,o];refine⟨by(repeat' with_reducible apply And.intro)<;>first|omega|rfl,?_⟩;apply aF;obtain⟨r,d⟩:∃x,orderS v=x:=⟨_,rfl⟩;have M:r.length<=60:=by rw[<-d];exact getD_len orderL_le
 have c:=str_at (L:=orderL) (k:=e) (by show _<2;omega);rw[show orderL.getD e []=r by rw[<-d];simp only[orderS,q2,I,F,G]]at c;simp[orderL]at c;apply aJ;simp[w,y,A,z,s,t,c];refine⟨by(repeat' with_reducible apply And.intro)<;>first|omega|rfl,?_⟩;apply aF;obtain⟨J,q⟩:∃x,rowS v=x:=⟨_,rfl⟩;have U:J.length<=60:=by rw[<-q];exact getD_len rowL_le
 have n:=str_at (L:=rowL) (k:=H) (by show _<2;omega);rw[show rowL.getD H []=J by rw[<-q];simp only[rowS,q2,I,F,G]]at n;simp[rowL]at n;apply aJ;simp[w,y,A,z,s,t,n];refine⟨by(repeat' with_reducible apply And.intro)<;>first|omega|rfl,?_⟩;apply eT;simp;apply aY;apply bF;simp;refine⟨λW=>?_,λW=>?_⟩
 .have p:k=0:=aD;subst p;apply aF;obtain⟨P,f⟩:∃P,patL 0 i v=P:=⟨_,rfl⟩;have b:=pat_ok 0 i v E;rw[f]at b;have l:=RD_ok ((e:Nat):Int) aD aD;have B:=cI ((e:Nat):Int);obtain⟨u,a⟩:∃x,itoaS ((e:Nat):Int)=x:=⟨_,rfl⟩;rw[a]at l B;simp only[rowsP,q2,q3,D,j,a]at b;simp at b l;refine bH (λ|33=>some<| .plain ⟨.d (.str u),true⟩|44=>some<| .plain ⟨.own 2 (P.map Df.d),true⟩|_=>none) ?_;simp[w,y,A,z,s,t];refine⟨by(repeat' with_reducible apply And.intro)<;>first|omega|with_reducible assumption|rfl|simpa using b,?_⟩;apply aH;simp[f]
 .apply bF;simp;refine⟨λY=>?_,λY=>?_⟩
  .have p:k=1:=aD;subst p;apply aF;obtain⟨P,f⟩:∃P,patL 1 i v=P:=⟨_,rfl⟩;have b:=pat_ok 1 i v E;rw[f]at b;have l:=RD_ok ((e:Nat):Int) aD aD;have B:=cI ((e:Nat):Int);obtain⟨u,a⟩:∃x,itoaS ((e:Nat):Int)=x:=⟨_,rfl⟩;rw[a]at l B;simp only[rowsP,q2,q3,D,j,a]at b;simp at b l;refine bH (λ|50=>some<| .plain ⟨.d (.str u),true⟩|62=>some<| .plain ⟨.own 2 (P.map Df.d),true⟩|_=>none) ?_;simp[w,y,A,z,s,t];refine⟨by(repeat' with_reducible apply And.intro)<;>first|omega|with_reducible assumption|rfl|simpa using b,?_⟩;apply aH;simp[f]
  .apply bF;simp;refine⟨λZ=>?_,λZ=>?_⟩
   .have p:k=2:=aD;subst p;apply aF;obtain⟨P,f⟩:∃P,patL 2 i v=P:=⟨_,rfl⟩;have b:=pat_ok 2 i v E;rw[f]at b;have l:=RD_ok ((1+e:Nat):Int) aD aD;have B:=cI ((1+e:Nat):Int);obtain⟨u,a⟩:∃x,itoaS ((1+e:Nat):Int)=x:=⟨_,rfl⟩;rw[a]at l B;simp only[rowsP,q2,q3,D,q,a]at b;simp at b l;refine bH (λ|69=>some<| .plain ⟨.d (.str u),true⟩|79=>some<| .plain ⟨.own 2 (P.map Df.d),true⟩|_=>none) ?_;simp[w,y,A,z,s,t];refine⟨by(repeat' with_reducible apply And.intro)<;>first|omega|with_reducible assumption|rfl|simpa using b,?_⟩;apply aH;simp[f]
   .apply bF;simp;refine⟨λN=>?_,λN=>?_⟩
    .have p:k=3:=aD;subst p;apply aF;obtain⟨P,f⟩:∃P,patL 3 i v=P:=⟨_,rfl⟩;have b:=pat_ok 3 i v E;rw[f]at b;have l:=RD_ok ((1+e:Nat):Int) aD aD;have B:=cI ((1+e:Nat):Int);obtain⟨u,a⟩:∃x,itoaS ((1+e:Nat):Int)=x:=⟨_,rfl⟩;rw[a]at l B;simp only[rowsP,q2,q3,D,a]at b;simp at b l;refine bH (λ|91=>some<| .plain ⟨.d (.str u),true⟩|96=>some<| .plain ⟨.own 2 (P.map Df.d),true⟩|_=>none) ?_;simp[w,y,A,z,s,t];refine⟨by(repeat' with_reducible apply And.intro)<;>first|omega|with_reducible assumption|rfl|simpa using b,?_⟩;apply aH;simp[f]
    .apply bF;simp;refine⟨λO=>?_,λO=>?_⟩
     .have p:k=4:=aD;subst p;apply aF;obtain⟨P,f⟩:∃P,patL 4 i v=P:=⟨_,rfl⟩;have b:=pat_ok 4 i v E;rw[f]at b;simp only[rowsP,q2,q3,D,d]at b;simp at b;refine bH (og 109 (.plain ⟨.own 2 (P.map Df.d),true⟩)) ?_;simp[w,y,A,z,s,t];refine⟨by(repeat' with_reducible apply And.intro)<;>first|omega|with_reducible assumption|rfl|simpa using b,?_⟩;apply aH;simp[f]
     .apply aG;simp;apply aF;have p:k=5:=aD;subst p;obtain⟨P,f⟩:∃P,patL 5 i v=P:=⟨_,rfl⟩;have b:=pat_ok 5 i v E;rw[f]at b;obtain⟨C,h⟩:∃x,fiveS v=x:=⟨_,rfl⟩;have Q:C.length<=60:=by rw[<-h];exact getD_len fiveL_le
      have g:=str_at (L:=fiveL) (k:=H) (by show _<2;omega);rw[show fiveL.getD H []=C by rw[<-h];simp only[fiveS,q2,I,F,G]]at g;simp[fiveL]at g;have l:=RD_ok ((2+e:Nat):Int) aD aD;have B:=cI ((2+e:Nat):Int);obtain⟨u,a⟩:∃x,itoaS ((2+e:Nat):Int)=x:=⟨_,rfl⟩;rw[a]at l B;simp only[rowsP,q2,q3,D,h,a]at b;simp at b l;refine fF.rd [[115,119,128],[115,119],[119],[119],[119],[119],[119],[119],[119],[115],[115,119],[115,119],[115,119],[115],[115],[115],[115],[115]] [[],[],[],[],[],[115],[],[],[],[119],[],[],[],[],[],[],[],[],[128],[129]] (λ|115=>some<| .plain ⟨.d (.str u),true⟩|129=>some<| .plain ⟨.own 2 (P.map Df.d),true⟩|_=>none) ?_;simp[w,y,A,z,s,t,g];refine⟨by(repeat' with_reducible apply And.intro)<;>first|omega|with_reducible assumption|rfl|simpa using b,?_⟩;apply aH;simp[f]
theorem RPattern_ok(k i v:Nat)(hk:k<14)(t:i<=9)(hv:v<=1000000):Ok prog 147 [aI k,aI i,aI v] ⟨.own 2 ((patL k i v).map Df.d),true⟩:=by
 refine bU func147 rfl ntmps147 results147 λw0 X F=>?_;obtain⟨G,q2⟩:∃m:Nat,v%2=m:=⟨_,rfl⟩;obtain⟨h,q3⟩:∃m:Nat,v%3=m:=⟨_,rfl⟩;obtain⟨K,u⟩:∃m:Nat,v%9=m:=⟨_,rfl⟩;obtain⟨m4,M⟩:∃m:Nat,v / 2%4=m:=⟨_,rfl⟩;obtain⟨n2,H⟩:∃m:Nat,v / 2%2=m:=⟨_,rfl⟩;obtain⟨Z,I⟩:∃m:Nat,v / 9%2=m:=⟨_,rfl⟩;have z:(v:Int).tmod 2=(G:Int):=by rw[<-q2];rfl
 have A:(v:Int).tmod 3=(h:Int):=by rw[<-q3];rfl
 have C:(v:Int).tmod 9=(K:Int):=by rw[<-u];rfl
 have B:((v:Int) / 2).tmod 4=(m4:Int):=by rw[<-M];rfl
 have w:((v:Int) / 2).tmod 2=(n2:Int):=by rw[<-H];rfl
 have y:((v:Int) / 9).tmod 2=(Z:Int):=by rw[<-I];rfl
 have b2:(v:Int) / 2<=v:=aD;have b9:(v:Int) / 9<=v:=aD;apply aE;simp;apply eT;simp;apply aY;refine bI (ι:=Unit) (λc=>bB [(0,.d (aI (k:Nat))),(1,.d (aI (i:Nat))),(2,.d (aI (v:Nat))),(7,.d (aI (k:Nat))),(8,.d (.bool (decide (k<6))))]) (λc=>aK []) (λc=>True) ?_ λc a0=>?_
 .apply bF;simp;refine⟨λh2=>?_,λh2=>?_⟩
  .apply aG;simp;exact(aA F [0,1,2,7,8] [] (by simp[h2]))
  .apply bF;simp;refine⟨λh3=>?_,λh3=>?_⟩
   .apply aG;simp;exact(aA F [0,1,2,7,8] [] (by simp[show k<6 by omega,h3]))
   .apply bF;simp;refine⟨λh4=>?_,λh4=>?_⟩
    .apply aG;simp;exact(aA F [0,1,2,7,8] [] (by simp[show k<6 by omega,h4]))
    .apply bF;simp;refine⟨λh5=>?_,λh5=>?_⟩
     .apply aG;simp;exact(aA F [0,1,2,7,8] [] (by simp[show k<6 by omega,h5]))
     .apply bF;simp;refine⟨λh6=>?_,λh6=>?_⟩
      .apply aG;simp;exact(aA F [0,1,2,7,8] [] (by simp[show k<6 by omega,h6]))
      .apply aJ;simp;exact(aA F [0,1,2,7,8] [] (by have e6:(k<6)=((k:Int)=5):=propext aD;simp[e6]))
 .apply aM;simp;refine⟨λh8=>?_,λh8=>?_⟩
  .apply aF;have k6:k<6:=h8;obtain⟨P,d⟩:∃P,patL k i v=P:=⟨_,rfl⟩;have kt:=RThreads_ok k i v k6 t hv;rw[d]at kt;refine bH (og 18 (.plain ⟨.own 2 (P.map Df.d),true⟩)) ?_;simp;refine⟨kt,?_⟩;apply aH;simp[d]
  .apply bF;simp;refine⟨λh9=>?_,λh9=>?_⟩
   .have n:k=6:=aD;subst n;apply aF;obtain⟨P,d⟩:∃P,patL 6 i v=P:=⟨_,rfl⟩;have a:=pat_ok 6 i v t;rw[d]at a;have g:=RD_ok ((1+h:Nat):Int) aD aD;have s:=cI ((1+h:Nat):Int);obtain⟨q,b⟩:∃x,itoaS ((1+h:Nat):Int)=x:=⟨_,rfl⟩;rw[b]at g s;simp only[rowsP,q2,q3,u,b]at a;simp at a g;refine bH (λ|25=>some<| .plain ⟨.d (.str q),true⟩|30=>some<| .plain ⟨.own 2 (P.map Df.d),true⟩|_=>none) ?_;simp[z,A,C,B,w,y];refine⟨by(repeat' with_reducible apply And.intro)<;>first|omega|with_reducible assumption|rfl|simpa using a,?_⟩;apply aH;simp[d]
   .apply bF;simp;refine⟨λN=>?_,λN=>?_⟩
    .have n:k=7:=aD;subst n;apply aF;obtain⟨P,d⟩:∃P,patL 7 i v=P:=⟨_,rfl⟩;have a:=pat_ok 7 i v t;rw[d]at a;have g:=RD_ok ((3+h:Nat):Int) aD aD;have s:=cI ((3+h:Nat):Int);obtain⟨q,b⟩:∃x,itoaS ((3+h:Nat):Int)=x:=⟨_,rfl⟩;rw[b]at g s;simp only[rowsP,q2,q3,u,b]at a;simp at a g;refine bH (λ|37=>some<| .plain ⟨.d (.str q),true⟩|42=>some<| .plain ⟨.own 2 (P.map Df.d),true⟩|_=>none) ?_;simp[z,A,C,B,w,y];refine⟨by(repeat' with_reducible apply And.intro)<;>first|omega|with_reducible assumption|rfl|simpa using a,?_⟩;apply aH;simp[d]
    .apply bF;simp;refine⟨λO=>?_,λO=>?_⟩
     .have n:k=8:=aD;subst n;apply aF;obtain⟨P,d⟩:∃P,patL 8 i v=P:=⟨_,rfl⟩;have a:=pat_ok 8 i v t;rw[d]at a;obtain⟨r,f⟩:∃x,eightS v=x:=⟨_,rfl⟩;have J:r.length<=60:=by rw[<-f];exact getD_len eightL_le
      have e:=str_at (L:=eightL) (k:=G) (by show _<2;omega);rw[show eightL.getD G []=r by rw[<-f];simp only[eightS,q2,M,H,I]]at e;simp[eightL]at e;simp only[rowsP,q2,q3,u,f]at a;simp at a;refine bH (og 56 (.plain ⟨.own 2 (P.map Df.d),true⟩)) ?_;simp[z,A,C,B,w,y,e];refine⟨by(repeat' with_reducible apply And.intro)<;>first|omega|with_reducible assumption|rfl|simpa using a,?_⟩;apply aH;simp[d]
     .apply bF;simp;refine⟨λQ=>?_,λQ=>?_⟩
      .have n:k=9:=aD;subst n;apply aF;obtain⟨P,d⟩:∃P,patL 9 i v=P:=⟨_,rfl⟩;have a:=pat_ok 9 i v t;rw[d]at a;obtain⟨E,p⟩:∃x,nineS v=x:=⟨_,rfl⟩;have Y:E.length<=60:=by rw[<-p];exact getD_len nineL_le
       have l:=str_at (L:=nineL) (k:=G) (by show _<2;omega);rw[show nineL.getD G []=E by rw[<-p];simp only[nineS,q2,M,H,I]]at l;simp[nineL]at l;simp only[rowsP,q2,q3,u,p]at a;simp at a;refine bH (og 67 (.plain ⟨.own 2 (P.map Df.d),true⟩)) ?_;simp[z,A,C,B,w,y,l];refine⟨by(repeat' with_reducible apply And.intro)<;>first|omega|with_reducible assumption|rfl|simpa using a,?_⟩;apply aH;simp[d]
      .apply bF;simp;refine⟨λS=>?_,λS=>?_⟩
       .have n:k=10:=aD;subst n;apply aF;obtain⟨P,d⟩:∃P,patL 10 i v=P:=⟨_,rfl⟩;have a:=pat_ok 10 i v t;rw[d]at a;have g:=RD_ok ((1+h:Nat):Int) aD aD;have s:=cI ((1+h:Nat):Int);obtain⟨q,b⟩:∃x,itoaS ((1+h:Nat):Int)=x:=⟨_,rfl⟩;rw[b]at g s;simp only[rowsP,q2,q3,u,b]at a;simp at a g;refine bH (λ|75=>some<| .plain ⟨.d (.str q),true⟩|80=>some<| .plain ⟨.own 2 (P.map Df.d),true⟩|_=>none) ?_;simp[z,A,C,B,w,y];refine⟨by(repeat' with_reducible apply And.intro)<;>first|omega|with_reducible assumption|rfl|simpa using a,?_⟩;apply aH;simp[d]
       .apply bF;simp;refine⟨λU=>?_,λU=>?_⟩
        .have n:k=11:=aD;subst n;apply aF;obtain⟨P,d⟩:∃P,patL 11 i v=P:=⟨_,rfl⟩;have a:=pat_ok 11 i v t;rw[d]at a;have g:=RD_ok ((h:Nat):Int) aD aD;have s:=cI ((h:Nat):Int);obtain⟨q,b⟩:∃x,itoaS ((h:Nat):Int)=x:=⟨_,rfl⟩;rw[b]at g s;simp only[rowsP,q2,q3,u,b]at a;simp at a g;refine bH (λ|86=>some<| .plain ⟨.d (.str q),true⟩|91=>some<| .plain ⟨.own 2 (P.map Df.d),true⟩|_=>none) ?_;simp[z,A,C,B,w,y];refine⟨by(repeat' with_reducible apply And.intro)<;>first|omega|with_reducible assumption|rfl|simpa using a,?_⟩;apply aH;simp[d]
        .apply bF;simp;refine⟨λV=>?_,λV=>?_⟩
         .have n:k=12:=aD;subst n;apply aF;obtain⟨P,d⟩:∃P,patL 12 i v=P:=⟨_,rfl⟩;have a:=pat_ok 12 i v t;rw[d]at a;have g:=RD_ok ((2+h:Nat):Int) aD aD;have s:=cI ((2+h:Nat):Int);obtain⟨q,b⟩:∃x,itoaS ((2+h:Nat):Int)=x:=⟨_,rfl⟩;rw[b]at g s;simp only[rowsP,q2,q3,u,b]at a;simp at a g;refine bH (λ|100=>some<| .plain ⟨.d (.str q),true⟩|105=>some<| .plain ⟨.own 2 (P.map Df.d),true⟩|_=>none) ?_;simp[z,A,C,B,w,y];refine⟨by(repeat' with_reducible apply And.intro)<;>first|omega|with_reducible assumption|rfl|simpa using a,?_⟩;apply aH;simp[d]
         .apply aG;simp;apply aF;have n:k=13:=aD;subst n;obtain⟨P,d⟩:∃P,patL 13 i v=P:=⟨_,rfl⟩;have a:=pat_ok 13 i v t;rw[d]at a;obtain⟨D,o⟩:∃x,lastS v=x:=⟨_,rfl⟩;have W:D.length<=60:=by rw[<-o];exact getD_len lastL_le
          have j:=str_at (L:=lastL) (k:=Z) (by show _<2;omega);rw[show lastL.getD Z []=D by rw[<-o];simp only[lastS,q2,M,H,I]]at j;simp[lastL]at j;have g:=RD_ok ((1+K:Nat):Int) aD aD;have s:=cI ((1+K:Nat):Int);obtain⟨q,b⟩:∃x,itoaS ((1+K:Nat):Int)=x:=⟨_,rfl⟩;rw[b]at g s;simp only[rowsP,q2,q3,u,o,b]at a;simp at a g;refine fF.rd [[110,113,122],[113],[113],[113],[113],[113],[113],[110],[110,113],[110,113],[110,113],[110],[110]] [[],[],[],[],[110],[],[],[113],[],[],[],[],[],[],[],[],[122],[123]] (λ|110=>some<| .plain ⟨.d (.str q),true⟩|123=>some<| .plain ⟨.own 2 (P.map Df.d),true⟩|_=>none) ?_;simp[z,A,C,B,w,y,j];refine⟨by(repeat' with_reducible apply And.intro)<;>first|omega|with_reducible assumption|rfl|simpa using a,?_⟩;apply aH;simp[d]
end
section
attribute[local simp] aR bK bE aO aL aZ aP
attribute[local simp] kJ.cond Nd.d_eq nd_t nd_dr nd_td ndsD aU bL
theorem folF_in(a:List Nd)(b:Int->Bool):∀(f i:Nat) (M:List Nat),M.Nodup->(∀k∈M,k<a.length)->(folF a b f i M).Nodup/\∀k∈folF a b f i M,k<a.length
 |0,_,_,hn,g=>⟨hn,g⟩
 |f+1,i,M,hn,g=>by
  rw[folF_succ];have m:∀(j:List dC) (M:List Nat),M.Nodup->(∀k∈M,k<a.length)->(j.foldl (folS a b (folF a b f)) M).Nodup/\∀k∈j.foldl (folS a b (folF a b f)) M,k<a.length:=λj=>by
   induction j with
   |nil=>exact λM c d=>⟨c,d⟩
   |cons u r ihu=>
    intro M c d;rw[C0];have n:(folS a b (folF a b f) M u).Nodup/\∀k∈folS a b (folF a b f) M u,k<a.length:=by
     unfold folS;split
     .rename_i k g;split
      .rename_i p;refine folF_in a b f k (M++[k]) ?_ λs l=>?_
       .rw[D7];exact⟨c,bA,λx q y o e=>by simp at o;subst o;subst e;exact p.2 q⟩
       .rcases D0.1 l with h|h
        .exact d s h
        .simp at h;subst h;exact atN_lt g
      .exact⟨c,d⟩
     .exact⟨c,d⟩
    exact ihu _ n.1 n.2
  exact m _ M hn g
theorem reachI_in(a:List Nd)(b:Int->Bool)(i:Nat):(reachI a b i).Nodup/\∀k∈reachI a b i,k<a.length:=folF_in a b _ i [] List.nodup_nil bA
def allB(_:Int):Bool:=true
def restK(i:Nat)(S:List Nat):List Nat:=S.filter λk=>decide (k≠i)
def sliceAt(l:List Df)(ts:List Nd)(i:Nat):List Df:=l.getD i default::(restK i (reachI ts allB i)).map λk=>l.getD k default
def sliceP(l:List Df)(name:aV):List Df×Int:=
 if(iV l).2.2≠0 then([],(iV l).2.2)
 else match atN (iV l).1 name with
  |none=>([],6)
  |some i=>(bR (sliceAt l (iV l).1 i),0)
theorem restK_len{n i:Nat}{S:List Nat}(b:S.Nodup)(c:∀k∈S,k<n)(e:i<n):(restK i S).length<n:=by
 have d:(i::restK i S).Nodup:=B8.2 ⟨λh=>by simp[restK]at h,b.filter _⟩;have:=Fa d (m:=G8 n) λk a=>by
  rcases C5.1 a with rfl|a
  .exact H0.2 e
  .exact H0.2 (c k (E3.1 a).1)
 rw[B9,List.length_range]at this;omega
theorem nodup_injM{α β:Type}{f:α->β}:∀{l:List α},(l.map f).Nodup->∀a∈l,∀b∈l,f a=f b->a=b
 |x::l,h,a,ha,b,hb,e=>by
  obtain⟨j,k⟩:=B8.1 h;rcases C5.1 ha with i|d
  .rcases C5.1 hb with g|c
   .rw[i,g]
   .exact absurd (B2.2 ⟨b,c,by rw[<-e,i]⟩) j
  .rcases C5.1 hb with g|c
   .exact absurd (B2.2 ⟨a,d,by rw[e,g]⟩) j
   .exact nodup_injM k a d b c e
theorem sortD_uniq{l m:List Df}(c:l.Perm m)(h:(l.map Df.name).Nodup):bR l=bR m:=by
 refine List.Perm.eq_of_pairwise (le:=λa b:Df=>a.name<=b.name) (λa b f g d e=>?_) (pM l) (pM m) (((nO l).trans c).trans (nO m).symm);exact nodup_injM h a ((nO l).mem_iff.1 f) b (c.mem_iff.2 ((nO m).mem_iff.1 g)) (G2 d e)
theorem rdF_names:∀(l:List Df) (a:List Nd),(Bh a l).2.2=0->(a.map Nd.text).Nodup->(Bh a l).1.map Nd.text=a.map Nd.text++l.map Df.name/\((Bh a l).1.map Nd.text).Nodup
 |[],a,_,h=>⟨by simp[Bh],by simpa [Bh]using h⟩
 |d::r,a,he,h=>by
  by_cases e:Fo a d=0
  .rw[Ig e]at he|-;have f:(parseS d.text).1.text=d.name/\atN a d.name=none:=by
    unfold Fo at e;split at e
    .exact absurd e (by assumption)
    .split at e
     .cases e
     .rename_i b;split at e
      .cases e
      .rename_i c;exact⟨B1 b,by cases q:atN a d.name with
        |none=>rfl
        |some j=>exact absurd (.inl (by rw[q];rfl)) c⟩
   obtain⟨b,c⟩:=rdF_names r (a++[(parseS d.text).1]) he (by
    rw[A7,D7];refine⟨h,bA,λx k y m e=>?_⟩;simp at m;subst m;subst e;rw[f.1]at k;obtain⟨t,g,i⟩:=B2.1 k;have:=f.2;unfold atN at this;rw[B6]at this;have:=this t g;simp[i]at this)
   refine⟨?_,c⟩;rw[b,A7];simp[f.1]
  .rw[uA e]at he;exact absurd he e
theorem readP_names{l:List Df}(h:(dK l).2.2=0):(dK l).1.map Nd.text=l.map Df.name/\(l.map Df.name).Nodup:=by
 unfold dK at h|-;split at h
 .cases h
 .rename_i a;rw[if_neg a];obtain⟨b,c⟩:=rdF_names l [] h bA;exact⟨by simpa using b,by rw[b]at c;simpa using c⟩
theorem chkP_ok{l:List Df}(h:(iV l).2.2=0):(dK l).2.2=0:=by
 unfold iV at h;split at h
 .exact h
 .rename_i a;exact B1 a
theorem perm_erase{α:Type}{l:List α}{j:Nat}(h:j<l.length):l.Perm (l[j]::l.eraseIdx j):=by
 have e:l=l.take j++l[j]::l.drop (j+1):=by
  have:=E5 j l;rw[D5 h]at this;exact this.symm
 have a:l.eraseIdx j=l.take j++l.drop (j+1):=A9 ..;rw[a]
 conv=>lhs;rw[e]
 exact List.perm_middle
theorem nkD_get{S:List Nat}{j:Nat}(h:j<(nkD S).length):(nkD S)[j]=aI ((S[j]'(by simpa [nkD]using h):Nat):Int):=by simp[nkD]
theorem nkD_erase(S:List Nat)(j:Nat):(nkD S).eraseIdx j=nkD (S.eraseIdx j):=by
 unfold nkD;rw[A9,A9,A7,C4,F3]
theorem trD_erase(S:List Nat)(j:Nat):(trD S).eraseIdx j=trD (S.eraseIdx j):=by
 unfold trD;rw[A9,A9,A7,C4,F3]
theorem ren_it{σ:List (Nat×Nat)}{n id:Nat}:ren σ (n+1) (.it id)=match dL σ id with|some j=>.it j|none=>.junk:=rfl
attribute[local simp] nkD_erase trD_erase ren_it
theorem restK_erase{S:List Nat}{i j:Nat}(h:j<S.length):(restK i S).Perm (if S[j]=i then restK i (S.eraseIdx j)else S[j]::restK i (S.eraseIdx j)):=by
 have:=(perm_erase h).filter λk=>decide (k≠i);refine List.Perm.trans this ?_;by_cases e:S[j]=i
 .rw[if_pos e,List.filter_cons_of_neg (by simpa using e)];exact List.Perm.refl _
 .rw[if_neg e,List.filter_cons_of_pos (by simpa using e)];exact List.Perm.refl _
theorem names_nodup{l:List Df}(h:(l.map Df.name).Nodup):∀{S:List Nat},S.Nodup->(∀k∈S,k<l.length)->((S.map λk=>l.getD k default).map Df.name).Nodup
 |[],_,_=>bA
 |a::S,hn,hk=>by
  obtain⟨m,n⟩:=B8.1 hn;rw[C3,C3,B8];refine⟨λj=>?_,names_nodup h n λk g=>hk k (B4 _ g)⟩;rw[H3]at j;obtain⟨b,i,e⟩:=B2.1 j;have d:=hk a (B7 ..);have c:=hk b (B4 _ i);simp only[Function.comp,A6,A0 d,A0 c,E2]at e;have this:=D4.1 h;have f:a≠b:=λq=>m (q▸i);rcases Nat.lt_or_gt_of_ne f with q|q
  .exact this a b (by simpa using d) (by simpa using c) q (by simpa using e.symm)
  .exact this b a (by simpa using c) (by simpa using d) q (by simpa using e)
theorem sliceAt_eq(l:List Df)(ts:List Nd)(i:Nat):sliceAt l ts i=(i::restK i (reachI ts allB i)).map λk=>l.getD k default:=rfl
theorem sliceAt_names{l:List Df}{ts:List Nd}{i:Nat}(h:(l.map Df.name).Nodup)(e:ts.length=l.length)(d:i<ts.length):((sliceAt l ts i).map Df.name).Nodup:=by
 obtain⟨b,c⟩:=reachI_in ts allB i;rw[sliceAt_eq];refine names_nodup h (B8.2 ⟨λh=>by simp[restK]at h,b.filter _⟩) λk a=>?_;rcases C5.1 a with rfl|a
 .omega
 .have:=c k (E3.1 a).1;omega
theorem Slice_ok(l:List Df)(b:aV)(hl:l.length<40):Ok prog 38 [gB l,.str b] ⟨.tup [.own 2 ((sliceP l b).1.map Df.d),.d (aI (sliceP l b).2)],true⟩:=by
 refine Ok.two func38 jM (c:=_) rfl ntmps38 bA results38 rfl λw0 X M=>?_;obtain⟨C,W⟩:∃C,iV l=C:=⟨_,rfl⟩;obtain⟨d,E⟩:∃d,C.1=d:=⟨_,rfl⟩;have P:=ER l;have g:sliceP l b=if C.2.2≠0 then([],C.2.2)else match atN d b with|none=>([],6)|some i=>(bR (sliceAt l d i),0):=by rw[<-E,<-W];rfl
 have p:=Io l;have v:=chkP_ok (l:=l);have U:=uB l;rw[W]at P v p;rw[E]at P p;rw[<-p]at U;have hw:∀t∈d,weighN t<=1000000000:=λt ht=>by obtain⟨s,rfl⟩:=U.1 t ht;exact qP s
 apply aE;simp;refine dF (og 15 (.plain ⟨.tup [.d (pgD d),.d (aI C.2.1),.d (aI C.2.2)],false⟩)) ?_;simp[bM];refine⟨⟨by simpa using P,by simp[pgD]⟩,?_⟩;simp[pgD];apply aF;apply bF;simp;refine⟨λG=>?_,λG=>?_⟩
 .rw[if_pos G]at g;apply aE;simp;apply aH;simp[g]
 .have q:C.2.2=0:=by simpa using G
  rw[if_neg (by simpa using q)]at g;have B:=(U.2.2 (v q)).2.1;apply aG;simp;apply aE;simp[look_at,bM];apply aF;apply bF;simp;refine⟨λV=>?_,λV=>?_⟩
  .have hn:atN d b=none:=by simpa using V
   rw[hn]at g;dsimp only at g;apply aE;simp;apply aH;simp[g]
  .obtain⟨i,I⟩:∃i,atN d b=some i:=by cases h:atN d b<;>simp_all
   rw[I]at g;dsimp only at g;have r:i<d.length:=atN_lt I;have z:atI d b=(i:Nat):=by unfold atI;rw[I];rfl
   have x:=reachI_in d allB i;apply aG;simp;apply aE;simp[z,(show i<l.length by omega)];apply fL;have Q:=reached_ok d allB 105 i hw (λk=>slice1_ok k) r;refine bH (og 38 (.plain ⟨.d (.mp (nkD (reachI d allB i)) (trD (reachI d allB i))),false⟩)) ?_;simp[z];refine⟨by simpa [pgD]using Q,?_⟩;apply aY;refine bC (ι:=List Nat×List Df) (λ⟨S,a⟩=>bB [(0,.d (gB l)),(9,.d (aI (i:Nat))),(11,.ow 35 0 a.length),(39,.it 39)]) (λ⟨S,a⟩=>aK [(35,.row false 2 (a.map Df.d)),(39,.iter false (nkD S) (trD S))]) (λ⟨S,a⟩=>(a++(restK i S).map λk=>l.getD k default).Perm (sliceAt l d i)/\(∀k∈S,k<l.length)) (λ⟨S,a⟩=>S.length) (reachI d allB i,[l.getD i default]) (aA M [0,9,11,39] [(35,35),(39,39)] (hH:=by simp[A0 (show i<l.length by omega)])) (⟨by simp[sliceAt],λk J=>by have:=x.2 k J;omega⟩) λ⟨S,a⟩ e=>?_;obtain⟨e,f⟩:=e;have L:a.length<40:=by
    have Z:=e.length_eq;have e2:=restK_len x.1 x.2 r;simp only[sliceAt_eq,B3,A5,B9]at Z;omega
   refine HC (it:=39) (id:=39) (ks:=nkD S) (vs:=trD S) rfl rfl rfl rfl rfl rfl rfl rfl rfl rfl rfl rfl rfl rfl rfl bG bG bA bA (λJ=>?_) (λj hj=>?_)
   .have H:S=[]:=by simpa [nkD]using J
    subst H;simp;apply aF;have N:a.Perm (sliceAt l d i):=by simpa [restK]using e
    have ks:=Dj a L;have Y:bR a=bR (sliceAt l d i):=by
     have K:=sliceAt_names (ts:=d) (i:=i) (readP_names (v q)).2 B r;exact(sortD_uniq N.symm K).symm
    refine bH (og 55 (.plain ⟨.own 2 ((bR a).map Df.d),true⟩)) ?_;simp;refine⟨by simpa using ks,?_⟩;apply aH;have y:=fQ a;have D:B5 a.length (B0 Df.d (bR a))=B0 Df.d (bR a):=A1 (by rw[A5,y];exact A4 _);rw[Y]at y D;simp[g,Y,y,D]
   .have m:j<S.length:=by simpa [nkD]using hj
    obtain⟨k,n⟩:∃k,S[j]=k:=⟨_,rfl⟩;have A:k<l.length:=f k (by rw[<-n];exact C9 m);have o:=restK_erase (i:=i) m;simp[nkD_get,n];apply bF;simp;refine⟨λF=>?_,λF=>?_⟩
    .apply aJ;simp[A];refine⟨aD,?_⟩;refine Oe.mk (S.eraseIdx j,a++[l[k]]) (aA M [0,9,11,39] [(53,35),(39,39)]) ?_ ?_
     .refine⟨?_,λO u=>f O ((E8 S j).subset u)⟩;rw[n,if_neg aD]at o;have w:=(o.map λk=>l.getD k default).append_left a;refine List.Perm.trans ?_ (w.symm.trans e);simp[A0 A]
     .have:=D3 m;show(S.eraseIdx j).length<S.length;omega
    .apply aG;simp;refine Oe.mk (S.eraseIdx j,a) (aA M [0,9,11,39] [(35,35),(39,39)]) ?_ ?_
     .refine⟨?_,λO u=>f O ((E8 S j).subset u)⟩;rw[n,if_pos aD]at o;have w:=(o.map λk=>l.getD k default).append_left a;exact w.symm.trans e
     .have:=D3 m;show(S.eraseIdx j).length<S.length;omega
end
theorem aV.sto:STO (λa b:aV=>Op.bytesLess a b):=by
 refine⟨λa=>?_,λa b c d e=>?_,λa b d e=>?_⟩
 .rw[bytesLess_eq,decide_eq_false_iff_not];exact List.lt_irrefl a
 .rw[bytesLess_eq,decide_eq_true_eq]at*;exact List.lt_trans d e
 .rw[bytesLess_eq,decide_eq_false_iff_not,H4]at d e;exact G2 e d
theorem dedup_sub{α:Type}[DecidableEq α]:∀l:List α,(dedup l).Sublist l
 |a::b::r=>by
  have c:=dedup_sub (b::r);simp only[dedup];split
  .exact c.cons _
  .exact c.cons_cons _
 |[]=>List.Sublist.refl _
 |[_]=>List.Sublist.refl _
theorem dedup_nodup{α:Type}[DecidableEq α]:∀{l:List α},l.Nodup->dedup l=l
 |a::b::r,h=>by
  have c:=B8.1 h;simp only[dedup];rw[if_neg (λe=>c.1 (by rw[e];exact B7 ..)),dedup_nodup c.2]
 |[],_=>rfl
 |[_],_=>rfl
theorem rising_nodup{α:Type}{c:α->α->Bool}(O:STO c){l:List α}(h:Rising c l):l.Nodup:=h.imp λ{a b} h e=>by subst e;rw[O.irrefl]at h;cases h
theorem doubles{f:List aV}:(dedup (dZ f)).length<f.length↔¬f.Nodup:=by
 have c:(dZ f).Perm f:=List.mergeSort_perm f _;have g:=kF f;constructor
 .intro h j;rw[dedup_nodup (c.nodup_iff.2 j),g]at h;exact Nat.lt_irrefl _ h
 .intro h;refine B1 λk=>h ?_;have i:=dedup_length (dZ f);have e:dedup (dZ f)=dZ f:=(dedup_sub (dZ f)).eq_of_length aD;have d:Rising (λa b:aV=>Op.bytesLess a b) (dedup (dZ f)):=dedup_rising aV.sto ((pL f).imp λ{a b} h=>by
   rw[bytesLess_eq,decide_eq_false_iff_not,H4];exact h)
  rw[e]at d;exact c.nodup_iff.1 (rising_nodup aV.sto d)
def treeD(d:Df):Nd:=(parseS d.text).1
theorem idx_before{l:List Df}{b:List Nd}{i:Nat}{d:Df}(p:l[i]? =some d)(t:b.map Nd.text=(l.take i).map Df.name):sY l d.name<(i:Int)↔(atN b d.name).isSome=true:=by
 obtain⟨v,u⟩:=C7.1 p;have x:b.length=i:=by have:=congrArg E9 t;simpa [G7 (Nat.le_of_lt v)]using this
 have c:∀j (g:j<b.length),b[j].text=(l[j]'aD).name:=λj g=>by
  have:=congrArg (·[j]?) t;simpa [A0 g,List.getElem?_take,show j<i by omega,A0 (show j<l.length by omega)]using this
 cases q:l.findIdx? (λe=>decide (e.name=d.name))with
 |none=>
  rw[B6]at q;have:=q d (C6 p);simp at this
 |some j=>
  have e:sY l d.name=(j:Nat):=by unfold sY;rw[xC,q];rfl
  obtain⟨g,f,m⟩:=A8.1 q;rw[e];constructor
  .intro h;have w:j<i:=aD;cases r:atN b d.name with
   |some _=>rfl
   |none=>
    unfold atN at r;rw[B6]at r;have:=r b[j] (C9 aD);rw[c j aD]at this;simp at f this;exact absurd f.symm this
  .intro h;obtain⟨k,s⟩:=Option.isSome_iff_exists.1 h;unfold atN at s;obtain⟨n,a,_⟩:=A8.1 s;simp at a;rw[c k n]at a;have:¬k<j:=λo=>by
    have:=m k o;simp[a]at this
   omega
theorem rdE_first{l:List Df}{k:List Nd}{i:Nat}{d:Df}(m:l[i]? =some d)(n:k.map Nd.text=(l.take i).map Df.name):Fo k d=firstE l d i:=by
 unfold Fo firstE;have g:=idx_before m n;have j:=doubles (f:=fieldsN (parseS d.text).1);by_cases a:(parseS d.text).2.2≠0
 .rw[if_pos a,if_pos a]
 .rw[if_neg a,if_neg a];by_cases b:(parseS d.text).1.text≠d.name
  .rw[if_pos b,if_pos b]
  .rw[if_neg b,if_neg b];by_cases c:sY l d.name<(i:Int)
   .rw[if_pos c,if_pos (.inl (g.1 c))]
   .rw[if_neg c];by_cases e:(fieldsN (parseS d.text).1).Nodup
    .rw[if_pos e,if_neg];rintro(h|h)
     .exact c (g.2 h)
     .exact j.1 h e
    .rw[if_neg e,if_pos (.inr (j.2 e))]
theorem rdE_text{b:List Nd}{d:Df}(e:Fo b d=0):(treeD d).text=d.name:=by
 unfold Fo at e;split at e
 .exact absurd e (by assumption)
 .split at e
  .cases e
  .rename_i a;exact B1 a
theorem rdF_first{l:List Df}:∀(m i:Nat) (a:List Nd),i+m=l.length->a=(l.take i).map treeD->a.map Nd.text=(l.take i).map Df.name->(∀j<i,q1 l j=false)->
 (match eP (q1 l) l.length with|some k=>(Bh a (l.drop i)).2=((k:Int),firstE l (l.getD k default) k)/\(Bh a (l.drop i)).2.2≠0|none=>Bh a (l.drop i)=(l.map treeD,(l.length:Int),0))
 |0,i,a,hm,ht,_,hq=>by
  have b:i=l.length:=aD;subst b;rw[wZ hq,List.drop_length,Bh,ht,C8];simp
 |m+1,i,a,hm,ht,hn,hq=>by
  have b:i<l.length:=aD;have o:l[i]? =some l[i]:=A0 b;have f:l.getD i default=l[i]:=by rw[A6,o];rfl
  have e:=rdE_first o hn;rw[D5 b];by_cases c:firstE l l[i] i=0
  .have h:q1 l i=false:=by unfold q1;rw[f];simpa using c
   have n:=rdE_text (e.trans c);have d:l.take (i+1)=l.take i++[l[i]]:=A2 b;have r:=rdF_first (l:=l) m (i+1) (a++[treeD l[i]]) aD (by rw[d,A7,ht];rfl) (by rw[d,A7,A7,hn];simp[n]) λj g=>by
    rcases Nat.lt_succ_iff_lt_or_eq.1 g with g|rfl
    .exact hq j g
    .exact h
   rw[Ig (e.trans c)];exact r
  .have p:eP (q1 l) l.length=some i:=wY b hq (by unfold q1;rw[f];simpa using c);rw[p,uA (by rw[e];exact c),e];have q:a.length=i:=by rw[ht];simp;omega
   simp only[f,q];exact⟨trivial,c⟩
theorem readP_first{l:List Df}(h:l.length<=24):(match eP (q1 l) l.length with|some k=>(dK l).2=((k:Int),firstE l (l.getD k default) k)/\(dK l).2.2≠0|none=>dK l=(l.map treeD,(l.length:Int),0)):=by
 have:=rdF_first (l:=l) l.length 0 [] aD bA bA (λj h=>absurd h (E4 _));unfold dK;rw[if_neg aD];simpa using this
def combE(a b:Int):Int:=if b=0 then a else worseI a b
def clsB(a b c:Bool):Int:=if a=true then 6 else if b=true then 12 else if c=true then -1 else 0
def clsE(e:dC->Int)(us:List dC):Int:=clsB (us.any λu=>decide (e u=6)) (us.any λu=>decide (e u=12)) (us.any λu=>decide (e u= -1))
theorem combE_four{a b:Int}(c:Four a)(d:Four b):Four (combE a b):=by
 rcases c with rfl|rfl|rfl|rfl<;>rcases d with rfl|rfl|rfl|rfl<;>simp[combE,worseI,rankI,Four]
theorem combE_assoc{a b c:Int}(d:Four a)(e:Four b)(f:Four c):combE (combE a b) c=combE a (combE b c):=by
 rcases d with rfl|rfl|rfl|rfl<;>rcases e with rfl|rfl|rfl|rfl<;>rcases f with rfl|rfl|rfl|rfl<;>decide
theorem clsB_four(a b c:Bool):Four (clsB a b c):=by cases a<;>cases b<;>cases c<;>simp[clsB,Four]
theorem clsE_four(e:dC->Int)(a:List dC):Four (clsE e a):=clsB_four _ _ _
theorem clsE_cons{e:dC->Int}{u:dC}{d:List dC}(h:Four (e u)):clsE e (u::d)=combE (e u) (clsE e d):=by
 unfold clsE;simp only[F4];generalize d.any (λu=>decide (e u=6))=a;generalize d.any (λu=>decide (e u=12))=b;generalize d.any (λu=>decide (e u= -1))=c;generalize e u=x at*;rcases h with rfl|rfl|rfl|rfl<;>cases a<;>cases b<;>cases c<;>decide
theorem misF_cls(a:List Nd)(b:List dC):misF a b=clsE (errU a) b:=by
 have e:∀(b:List dC) (o:Int),Four o->b.foldl (λc u=>if errU a u=0 then c else worseI c (errU a u)) o=combE o (clsE (errU a) b):=λb=>by
  induction b with
  |nil=>intro o _;simp[clsE,clsB,combE]
  |cons u r ih=>
   intro o f;have d:=errU_four a u;have g:(if errU a u=0 then o else worseI o (errU a u))=combE o (errU a u):=rfl;rw[C0,g,ih _ (combE_four f d),combE_assoc f d (clsE_four _ r),clsE_cons d]
 have:=e b 0 (.inl rfl);rw[misF,this];rcases clsE_four (errU a) b with h|h|h|h<;>rw[h]<;>decide
theorem atN_find{l:List Df}{b:List Nd}(h:b.map Nd.text=l.map Df.name)(a:aV):atN b a=l.findIdx? λd=>decide (d.name=a):=by
 have c:(b.map Nd.text).findIdx? (λs=>decide (a=s))=b.findIdx? (λt=>decide (a=t.text)):=by rw[F8];rfl
 have e:(l.map Df.name).findIdx? (λs=>decide (a=s))=l.findIdx? (λd=>decide (a=d.name)):=by rw[F8];rfl
 unfold atN;rw[<-c,h,e];congr 1;funext d;simp[eq_comm]
theorem idxN_at{l:List Df}{ts:List Nd}(h:ts.map Nd.text=l.map Df.name)(a:aV):sY l a=uQ (atN ts a):=by
 rw[atN_find h];unfold sY;rw[xC]
theorem tAt_at{l:List Df}(h:(l.map treeD).map Nd.text=l.map Df.name){d:aV}{j:Nat}(c:atN (l.map treeD) d=some j):tAt l d=(l.map treeD).getD j default:=by
 have a:=atN_lt c;have b:j<l.length:=by simpa using a
 unfold tAt;rw[idxN_at h,c];simp only[uQ,D9];rw[A6,A6,A0 b,A0 a,E2,E2,E1];rfl
theorem any_congr'{a:List dC}{p q:dC->Bool}(h:∀u∈a,p u=q u):a.any p=a.any q:=by
 induction a with
 |nil=>rfl
 |cons u r ih=>rw[F4,F4,h u (B7 ..),ih λv b=>h v (B4 _ b)]
theorem mis_second{l:List Df}(h:(l.map treeD).map Nd.text=l.map Df.name)(x:Nd):misN (l.map treeD) x=secondE l (cA x):=by
 have k:∀u,p1 l u=decide (errU (l.map treeD) u=6):=λu=>by
  unfold p1 errU;rw[idxN_at h];cases b:atN (l.map treeD) u.name with
  |none=>simp[uQ]
  |some j=>
   simp only[uQ];have:¬((j:Int)<0):=aD;split
   .simp[this]
   .split<;>simp[this]
 have n:∀u j,atN (l.map treeD) u.name=some j->errU (l.map treeD) u=if((l.map treeD).getD j default).kind≠u.kind then 12 else if u.kind=1/\u.field∉fieldsN ((l.map treeD).getD j default)then -1 else 0:=λu j b=>by unfold errU;rw[b]
 have m:∀u,p1 l u=false->p2 l u=decide (errU (l.map treeD) u=12):=λu a=>by
  unfold p1 at a;rw[idxN_at h]at a;unfold p2;cases b:atN (l.map treeD) u.name with
  |none=>rw[b]at a;simp[uQ]at a
  |some j=>
   rw[tAt_at h b,n u j b];generalize(l.map treeD).getD j default=y;by_cases f:y.kind≠u.kind
   .rw[if_pos f];simp[f]
   .rw[if_neg f];by_cases d:u.kind=1/\u.field∉fieldsN y
    .rw[if_pos d];simpa using f
    .rw[if_neg d];simpa using f
 have r:∀u,p1 l u=false->p2 l u=false->p3 l u=decide (errU (l.map treeD) u= -1):=λu a e=>by
  unfold p1 at a;rw[idxN_at h]at a;unfold p2 at e;unfold p3;cases b:atN (l.map treeD) u.name with
  |none=>rw[b]at a;simp[uQ]at a
  |some j=>
   rw[tAt_at h b]at e|-;rw[n u j b];generalize(l.map treeD).getD j default=y at*;rw[if_neg (by simpa using e)];by_cases d:u.kind=1/\u.field∉fieldsN y
   .rw[if_pos d];simp only[d,not_false_eq_true,and_self]
   .rw[if_neg d,decide_eq_false d];rfl
 unfold misN;rw[misF_cls];unfold clsE clsB secondE;rw[any_congr' (p:=p1 l) λu _=>k u];by_cases i:(cA x).any (λu=>decide (errU (l.map treeD) u=6))=true
 .simp only[i,if_true];decide
 .have g:∀u∈cA x,p1 l u=false:=λu a=>by
   rw[k];have:=λq=>i (G3.2 ⟨u,a,q⟩);simpa using this
  rw[any_congr' (p:=p2 l) λu a=>m u (g u a)];simp only[if_neg i];by_cases c:(cA x).any (λu=>decide (errU (l.map treeD) u=12))=true
  .simp only[c,if_true];decide
  .have s:∀u∈cA x,p2 l u=false:=λu a=>by
    rw[m u (g u a)];have:=λq=>c (G3.2 ⟨u,a,q⟩);simpa using this
   rw[any_congr' (p:=p3 l) λu a=>r u (g u a) (s u a)];simp only[if_neg c];by_cases o:(cA x).any (λu=>decide (errU (l.map treeD) u= -1))=true
   .simp only[o,if_true]
   .simp only[if_neg o];decide
inductive RchG{α:Type}(S:α->α->Prop):α->α->Prop
 |one {i k:α}:S i k->RchG S i k
 |more {i j k:α}:RchG S i j->S j k->RchG S i k
theorem RchG.head{α:Type}{S:α->α->Prop}{i j k:α}(h:S i j)(r:RchG S j k):RchG S i k:=by
 induction r with
 |one h2=>exact .more (.one h) h2
 |more _ h2 ih=>exact .more ih h2
def StepI(ts:List Nd)(b:Int->Bool)(i k:Nat):Prop:=∃u∈cA (ts.getD i default),b u.bk=true/\atN ts u.name=some k
theorem folF_reach(a:List Nd)(b:Int->Bool):∀(f i:Nat) (M:List Nat),muN a.length M<f->
 (∀k∈folF a b f i M,k∈M\/RchG (StepI a b) i k)/\(∀k,StepI a b i k->k∈folF a b f i M)/\∀j∈folF a b f i M,j∉M->∀k,StepI a b j k->k∈folF a b f i M
 |0,_,_,h=>absurd h (E4 _)
 |f+1,i,M,h=>by
  rw[folF_succ];have G:∀(s:List dC) (m:List Nat),(∀u∈s,u∈cA (a.getD i default))->muN a.length m<f+1->
   (∀k∈s.foldl (folS a b (folF a b f)) m,k∈m\/RchG (StepI a b) i k)/\(∀u∈s,∀k,b u.bk=true->atN a u.name=some k->k∈s.foldl (folS a b (folF a b f)) m)/\
   ∀j∈s.foldl (folS a b (folF a b f)) m,j∉m->∀k,StepI a b j k->k∈s.foldl (folS a b (folF a b f)) m:=λs=>by
   induction s with
   |nil=>exact λm _ _=>⟨λk g=>.inl g,bA,λj c p=>absurd c p⟩
   |cons u r ihr=>
    intro m w O;rw[C0];obtain⟨n,d⟩:∃n,folS a b (folF a b f) m u=n:=⟨_,rfl⟩;have A:∀k∈m,k∈n:=λk g=>by rw[<-d];exact folS_keeps a b f m u k g
    have F:muN a.length n<f+1:=Nat.lt_of_le_of_lt (muN_le A) O;obtain⟨P,Q,S⟩:=ihr n (λv B=>w v (B4 _ B)) F;have o:∀k∈n,k∈r.foldl (folS a b (folF a b f)) n:=λk g=>foldl_keeps (folS_keeps a b f) r n k g;have q:(∀k∈n,k∈m\/RchG (StepI a b) i k)/\(∀k,b u.bk=true->atN a u.name=some k->k∈n)/\∀j∈n,j∉m->∀k,StepI a b j k->k∈n:=by
     unfold folS at d;split at d
     .rename_i k g;split at d
      .rename_i D;have z:StepI a b i k:=⟨u,w u (B7 ..),D.1,g⟩;obtain⟨H,I,J⟩:=folF_reach a b f k (m++[k]) (by have:=muN_lt (atN_lt g) D.2;omega);have E:k∈n:=by rw[<-d];exact folF_keeps a b f k _ k bA
       rw[d]at H I J;refine⟨λj c=>?_,λC _ l=>?_,λj c p C y=>?_⟩
       .rcases H j c with c|c
        .rcases D0.1 c with c|c
         .exact .inl c
         .simp at c;subst c;exact .inr (.one z)
        .exact .inr (.head z c)
       .rw[g]at l;injection l with e;subst e;exact E
       .by_cases e:j=k
        .subst e;exact I C y
        .exact J j c (by simp[p,e]) C y
      .rename_i D;subst d;refine⟨λj c=>.inl c,λC t l=>?_,λj c p=>absurd c p⟩;rw[g]at l;injection l with e;subst e
       exact B1 λp=>D ⟨t,p⟩
     .rename_i g;subst d;exact⟨λj c=>.inl c,λC _ l=>(by rw[g]at l;cases l),λj c p=>absurd c p⟩
    rw[d];refine⟨λk g=>?_,λv B k t g=>?_,λj c p k y=>?_⟩
    .rcases P k g with h|h
     .exact q.1 k h
     .exact .inr h
    .rcases C5.1 B with rfl|B
     .exact o k (q.2.1 k t g)
     .exact Q v B k t g
    .by_cases x:j∈n
     .exact o k (q.2.2 j x p k y)
     .exact S j c x k y
  obtain⟨K,L,N⟩:=G (cA (a.getD i default)) M (λu w=>w) h;exact⟨K,λk ⟨u,w,t,g⟩=>L u w k t g,N⟩
theorem reachI_iff(a:List Nd)(b:Int->Bool)(i k:Nat):k∈reachI a b i↔RchG (StepI a b) i k:=by
 obtain⟨c,d,e⟩:=folF_reach a b (a.length+1) i [] (Nat.lt_succ_of_le (D2 (E6 _ _) bA));constructor
 .intro h;rcases c k h with h|h
  .cases h
  .exact h
 .intro h;induction h with
  |one hs=>exact d _ hs
  |more _ hs ih=>exact e _ ih bA _ hs
def StepN(l:List Df)(c:Bool)(nm s:aV):Prop:=0<=sY l nm/\∃u∈cA (tAt l nm),cbR c u.bk=true/\u.name=s
structure BfsI(l:List Df)(c:Bool)(name:aV)(n:Nat)(st:List aV×List aV):Prop where
 reach:∀s∈st.1,RchG (StepN l c) name s
 todo:∀s,s∈st.2↔s=name\/s∈st.1
 done:∀j,j<n->∀nm,st.2[j]? =some nm->∀s,StepN l c nm s->s∈st.1
theorem bfsS_keep{c:Bool}{st:List aV×List aV}{u:dC}:(∀s∈st.1,s∈(bfsS c st u).1)/\st.2<+:(bfsS c st u).2/\(∀s∈(bfsS c st u).1,s∈st.1\/(cbR c u.bk=true/\s=u.name))/\(cbR c u.bk=true->u.name∈(bfsS c st u).1)/\∀s,s∈(bfsS c st u).2↔s∈st.2\/(s∈(bfsS c st u).1/\s∉st.1):=by
 unfold bfsS;split
 .rename_i h;refine⟨λs a=>mem_putS.2 (.inr a),List.prefix_append _ _,λs a=>?_,λ_=>mem_putS.2 (.inl rfl),λs=>?_⟩
  .rcases mem_putS.1 a with e|a
   .exact .inr ⟨h.1,e⟩
   .exact .inl a
  .constructor
   .intro a;rcases D0.1 a with a|a
    .exact .inl a
    .simp at a;subst a;exact .inr ⟨mem_putS.2 (.inl rfl),h.2⟩
   .rintro(a|⟨a,b⟩)
    .exact List.mem_append_left _ a
    .rcases mem_putS.1 a with e|a
     .subst e;simp
     .exact absurd a b
 .rename_i h;refine⟨λs a=>a,G4 _,λs a=>.inl a,λd=>?_,λs=>?_⟩
  .exact B1 λb=>h ⟨d,b⟩
  .constructor
   .exact λa=>.inl a
   .rintro(a|⟨a,b⟩)
    .exact a
    .exact absurd a b
theorem bfs_fold{U:List aV}{c:Bool}:∀(a:List dC) (st:List aV×List aV),(∀u∈a,u.name∈U)->BfsJ U st->
 (∀s∈st.1,s∈(a.foldl (bfsS c) st).1)/\st.2<+:(a.foldl (bfsS c) st).2/\(∀s∈(a.foldl (bfsS c) st).1,s∈st.1\/∃u∈a,cbR c u.bk=true/\u.name=s)/\(∀u∈a,cbR c u.bk=true->u.name∈(a.foldl (bfsS c) st).1)/\
   (∀s,s∈(a.foldl (bfsS c) st).2↔s∈st.2\/(s∈(a.foldl (bfsS c) st).1/\s∉st.1))/\BfsJ U (a.foldl (bfsS c) st)/\muS U (a.foldl (bfsS c) st).1+(a.foldl (bfsS c) st).2.length<=muS U st.1+st.2.length
 |[],st,_,hJ=>⟨λs b=>b,G4 _,λs b=>.inl b,bA,λs=>⟨.inl,λh=>h.elim id λh=>absurd h.1 h.2⟩,hJ,A4 _⟩
 |u::r,st,hU,hJ=>by
  obtain⟨i,k,l,m,n⟩:=bfsS_keep (c:=c) (st:=st) (u:=u);obtain⟨o,p⟩:=bfsS_J (c:=c) (hU u (B7 ..)) hJ;obtain⟨g,q,t,w,x,y,z⟩:=bfs_fold (c:=c) r (bfsS c st u) (λv d=>hU v (B4 _ d)) o;rw[C0];refine⟨λs b=>g s (i s b),k.trans q,λs b=>?_,λv d f=>?_,λs=>?_,y,D2 z p⟩
  .rcases t s b with h|⟨v,d,f,e⟩
   .rcases l s h with h|⟨f,e⟩
    .exact .inl h
    .exact .inr ⟨u,B7 ..,f,e.symm⟩
   .exact .inr ⟨v,B4 _ d,f,e⟩
  .rcases C5.1 d with rfl|d
   .exact g _ (m f)
   .exact w v d f
  .rw[x,n];constructor
   .rintro((h|⟨h1,h2⟩)|⟨h1,h2⟩)
    .exact .inl h
    .exact .inr ⟨g s h1,h2⟩
    .exact .inr ⟨h1,λh=>h2 (i s h)⟩
   .rintro(h|⟨h1,h2⟩)
    .exact .inl (.inl h)
    .by_cases j:s∈(bfsS c st u).1
     .exact .inl (.inr ⟨j,h2⟩)
     .exact .inr ⟨h1,j⟩
theorem bfsF_iff{l:List Df}{c:Bool}{d:aV}:∀(f n:Nat) (a:List aV×List aV),muS (allU l) a.1+a.2.length<f+n->n<=a.2.length->BfsJ (allU l) a->BfsI l c d n a->∀s,s∈bfsF l c f n a↔RchG (StepN l c) d s
 |0,n,a,h,hn,_,_=>aD
 |f+1,n,a,h,hn,hJ,hI=>by
  intro s;rw[bfsF];cases q:a.2[n]? with
  |none=>
   have E:a.2.length<=n:=List.getElem?_eq_none_iff.1 q;simp only;constructor
   .exact hI.reach s
   .have o:∀g,(g=d\/g∈a.1)->∀s,StepN l c g s->s∈a.1:=λg K s i=>by
     obtain⟨j,w,e⟩:=C2 ((hI.todo g).2 K);exact hI.done j aD g (by rw[A0 w,e]) s i
    intro M;induction M with
    |one i=>exact o d (.inl rfl) _ i
    |more _ i ih=>exact o _ (.inr ih) _ i
  |some g=>
   simp only;have z:n<a.2.length:=(C7.1 q).1;have m:=(hI.todo g).1 (C6 q);unfold bfsN;by_cases F:sY l g<0
   .rw[if_pos F];refine bfsF_iff f (n+1) a aD aD hJ ⟨hI.reach,hI.todo,λj w k b s i=>?_⟩ s;by_cases e:j=n
    .subst e;rw[q]at b;injection b with e;subst e;exact absurd i.1 aD
    .exact hI.done j aD k b s i
   .rw[if_neg F];obtain⟨C,r,G,H,I,J,N⟩:=bfs_fold (U:=allU l) (c:=c) (cA (tAt l g)) a (uses_allU aD) hJ;have L:=r.length_le;refine bfsF_iff f (n+1) _ aD aD J ⟨λs i=>?_,λs=>?_,λj w k b s i=>?_⟩ s
    .rcases G s i with h|⟨u,B,v,e⟩
     .exact hI.reach s h
     .have p:StepN l c g s:=⟨aD,u,B,v,e⟩;rcases m with rfl|m
      .exact .one p
      .exact .more (hI.reach g m) p
    .rw[I,hI.todo];constructor
     .rintro((h|h)|h)
      .exact .inl h
      .exact .inr (C s h)
      .exact .inr h.1
     .rintro(h|h)
      .exact .inl (.inl h)
      .by_cases D:s∈a.1
       .exact .inl (.inr D)
       .exact .inr ⟨h,D⟩
    .by_cases e:j=n
     .subst e;have x:(List.foldl (bfsS c) a (cA (tAt l g))).2[j]? =some g:=by
       obtain⟨t,A⟩:=r;rw[<-A,D6 z];exact q
      rw[x]at b;injection b with e;subst e
      obtain⟨_,u,B,v,e⟩:=i;rw[<-e];exact H u B v
     .have y:a.2[j]? =some k:=by
       obtain⟨t,A⟩:=r;rw[<-A,D6 aD]at b;exact b
      exact C s (hI.done j aD k y s i)
theorem reachR_iff(l:List Df)(c:Bool)(a s:aV):s∈reachR l a c↔RchG (StepN l c) a s:=by
 refine bfsF_iff ((allU l).length+2) 0 ([],[a]) (by rw[muS_nil];simp) (C1 _) ⟨by simp[muS_nil],rfl⟩ ⟨bA,bA,λj h=>absurd h (E4 _)⟩ s
end Go.Eng
