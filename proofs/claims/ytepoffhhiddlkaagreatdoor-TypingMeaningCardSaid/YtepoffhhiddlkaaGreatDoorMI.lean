/- Part 9 of the proof. No condition. -/
import Derived.Test.YtepoffhhiddlkaaGreatDoorMH
import Derived.Shelf.SortM.Plain
import Derived.Shelf.SortM.SortNone
import Derived.Shelf.SlGeneric
import Derived.Test.YtepoffhhiddlkaaGreatDoorProg
open Go.Proofs
open Go.Proofs.Tryz
set_option linter.unusedVariables false
set_option linter.unusedSimpArgs false
set_option maxRecDepth 20000
set_option maxHeartbeats 4000000
open List renaming getElem?_append_right→A1,length_append→A2,set_append_right→A3,getElem?_eq_getElem→A4,getElem_of_mem→A5,length_take→A6,take_append_drop→A7,getElem?_append_left→A8,take_of_length_le→A9,eq_nil_of_length_eq_zero→B1,take_succ_eq_append_getElem→B2,append_assoc→B4,foldl_cons→B5,drop_eq_getElem_cons→B6,length_drop→B7,getElem_take→B8,getElem_drop→B9,length_nil→C0,drop_of_length_le→C1,filter_eq_nil_iff→C2,append_nil→C3,foldl_append→C4,filter_congr→C5,getD_eq_getElem?_getD→C6,mem_cons_of_mem→C7,nil_append→C8,pairwise_cons→C9,mem_cons_self→D0,length_cons→D1,exists_cons_of_length_pos→D2,cons_append→D3,le_trans→D4,pairwise_iff_getElem→D9,getElem_append_right→E0,size_toArray→E1,length_range→E2,getElem_mem→E5,perm_middle→E6,map_set→E7,length_map→F0,mem_append→F1,length_singleton→F2,not_lt→F4,set_append_left→F5,mergeSort_perm→F6,length_pos_iff→F7,filter_eq_self→F8,mem_cons→F9,getElem?_drop→G0,take_sublist→G2,drop_sublist→G3,take_length→G4,map→G7,range→G8,mem_range→G9,lt_irrefl→H0,lt_trans→H4,take→H5
open Nat renaming add_sub_cancel_left→A0,le_refl→B0,zero_le→B3,mul_le_mul_right→D5,zero_add→D6,add_assoc→E3,lt_succ_iff_lt_or_eq→E4,add_zero→E8,not_lt_zero→E9,succ_mul→G1,reduceAdd→H1,reducePow→H2,reduceMul→H3,sub_self→H6
open Int renaming tdiv_nonneg→G5
open Option renaming map_some→G6
open Array renaming getElem?_eq_getElem→D8,getElem?_modify→F3
open Classical renaming byContradiction→D7
namespace Go.Eng
section
attribute[local simp] aR bK bE aO aL aZ aP
attribute[local simp] kJ.cond Nd.d_eq nd_t nd_dr nd_td ndsD aU bO mI Int.add_assoc dH Cu Cv Cw Kd jB
def PT(L:List Int)(g:FuncId)(d:Nat)(b:Nat)(x:Nat->Nd×Nat):Prop:=∀j,j<=b->mH prog g [.bx 0 0,.d (aI (d:Nat))] (jB L j) (jB L (x j).2) (.d (x j).1.d)
structure SmS where
 c:Nat
 ks:List Nd
 j:Nat
theorem Sc{L:List Int}{b:Nat->Nd×Nat}{m:Nat}{a:List Nd}{j:Nat}(h:m=0\/L.length<=j):somesM L b m a j=(a,j):=by
 cases m with
 |zero=>rfl
 |succ m=>
  unfold somesM;rw[if_pos aD]
theorem VV{L:List Int}{a:Nat->Nd×Nat}{m:Nat}{b:List Nd}{j:Nat}(c:0<m)(h:j<L.length):somesM L a m b j=somesM L a (m-1) (b++[(a j).1]) (a j).2:=by
 obtain⟨k,rfl⟩:∃k,m=k+1:=⟨m-1,aD⟩;rw[somesM,if_neg aD];rfl
theorem Nj(L:List Int)(d i:Nat)(a:Nat->Nd×Nat)(r:Iy L)(u:L.length<=1000000)(b:Nat)(A:i<=b)(z:b<=1800000)(s:PT L 223 d (b+40000) a)(k:∀j,(a j).2<=j+10000):mH prog 278 [.bx 0 0,.d (aI (d:Nat))] (jB L i) (jB L (someM L a i).2) (.d (someM L a i).1.d):=by
 unfold jB;refine lE func278 rfl ntmps278 results278 λC X l=>?_;apply aE;simp;apply aE;simp;refine lB (fz:=false) (cs:=[.d (aI 8),.d (.str []),.d (aI 0),.nl]) 5 3 1034 4 bG ⟨bA,bA,bA,?_⟩;simp;apply aF;have o:=fM L i 4 r aD bG;have B:=bY L i 4 bG;obtain⟨n,p⟩:∃n:Nat,dM L i 4=(n:Int):=⟨(dM L i 4).toNat,aD⟩;have m:someM L a i=(.mk 8 [] 0 (somesM L a n [] (i+1)).1,(somesM L a n [] (i+1)).2):=by unfold someM;simp only[];rw[p];rfl
 rw[p]at o;refine bH (oh 10 (jB L (i+1)) (.d (aI (n:Nat)))) ?_;simp;refine⟨by simpa using o,?_⟩;apply eT;simp;apply aY;refine bC (ι:=SmS) (λ⟨c,f,j⟩=>bB [(0,.bx 0 0),(1,.d (aI (d:Nat))),(4,.bx 4 0),(5,.bx 5 0),(6,.d (aI (n:Nat))),(7,.d (aI (c:Nat)))]) (λ⟨c,f,j⟩=>aK [(0,.box false [.d (.sl (L.map aI)),.d (aI (j:Nat))]),(4,.box false [.d (aI 0),.d (.str []),.d (aI 0),.nl]),(5,.box false [.d (aI 8),.d (.str []),.d (aI 0),.ow 1034 0 f.length]),(1034,.row false 4 (f.map Nd.d))]) (λ⟨c,f,j⟩=>c<=n/\j<=i+1+c*10000/\f.length<=c/\somesM L a n [] (i+1)=somesM L a (n-c) f j) (λ⟨c,f,j⟩=>n-c) ⟨0,[],i+1⟩ (aA l [0,1,4,5,6,7] [(0,0),(4,4),(5,5),(1034,1034)]) (⟨B3 _,aD,B0 _,rfl⟩) λ⟨c,f,j⟩ h=>?_;apply fL;refine fF.rd [] [] (λ_=>none) ?_;simp;apply aM;simp;refine⟨λw y=>?_,λg=>?_⟩
 .apply aG;simp;apply eE;have v:=s j (by have:=h.2.1;omega);have t:=h.2.2.1;refine fF.rd [[0,33],[0,33]] [[],[],[],[],[0],[33],[34,1034],[],[5]] (oh 32 (jB L (a j).2) (.d (a j).1.d)) ?_;simp;refine⟨by(repeat' with_reducible apply And.intro)<;>first|omega|(simpa using v),?_⟩;apply aJ;simp;refine⟨aD,?_⟩;refine Oe.mk ⟨c+1,f++[(a j).1],(a j).2⟩ (aA l [0,1,4,5,6,7] [(0,0),(4,4),(5,5),(34,1034)]) ?_ ?_
  .refine⟨(show c+1<=n by omega),?_,?_,?_⟩
   .have:=k j;show(a j).2<=i+1+(c+1)*10000;omega
   .show(f++[(a j).1]).length<=c+1;rw[A2,F2];omega
   .rw[h.2.2.2,VV aD aD];rfl
  .show n-(c+1)<n-c;omega
 .apply bQ;simp;apply aE;simp;apply aH;simp;have e:someM L a i=(.mk 8 [] 0 f,j):=by rw[m,h.2.2.2,Sc (by rcases Nat.lt_or_ge c n with q|q;exact .inr (by have:=g aD;omega);exact .inl aD)]
  refine cP (x:=(someM L a i).1.d) (by simp[e]) ?_;simp;exact aA l [0] [(0,0)] (hH:=by simp[e])
structure NdN where
 x:Nd
 j:Nat
def Nk(L:List Int)(d i:Nat):Int:=if d=0/\(9+dM L i 17=11\/9+dM L i 17=12)then 24 else 9+dM L i 17
def wU(L:List Int)(bl:Nat->Nd×Nat)(k:Int)(i:Nat):Nd×Nat:=
 if k=9 then(.mk k (ownM L i) 0 [(valueM L 2 (i+1)).1],(valueM L 2 (i+1)).2)
 else if k=10 then(.mk k [] 0 [(placeM L i).1,(valueM L 2 (placeM L i).2).1],(valueM L 2 (placeM L i).2).2)
 else if k=11\/k=12 then
  (if k=11 then(if dM L (bl (valueM L 1 i).2).2 2=0 then(.mk k [] 0 [(valueM L 1 i).1,(bl (valueM L 1 i).2).1,(bl ((bl (valueM L 1 i).2).2+1)).1],(bl ((bl (valueM L 1 i).2).2+1)).2)else(.mk k [] 0 [(valueM L 1 i).1,(bl (valueM L 1 i).2).1],(bl (valueM L 1 i).2).2+1))
  else(.mk k [] 0 [(valueM L 1 i).1,(bl (valueM L 1 i).2).1],(bl (valueM L 1 i).2).2))
 else if k=13\/k=14\/k=17\/k=18 then(.mk k (callM L i) 0 [],i+1)
 else if k=15\/k=22 then(.mk k (callM L i) 0 [(valueM L 1 (i+1)).1],(valueM L 1 (i+1)).2)
 else if k=16\/k=23 then(.mk k (callM L i) 0 [.mk 33 (ownM L (i+1)) 0 []],i+2)
 else if k=19 then(.mk k (ownM L i) (2+dM L (i+1) 5) [],i+2)
 else if k=20 then(.mk k (ownM L i) 0 [],i+1)
 else if k=21 then(.mk k [] (1+dM L i 9) [],i+1)
 else if k=25 then(.mk k [] (1+dM L i 99) [],i+1)
 else(.mk k [] 0 [(valueM L 2 i).1],(valueM L 2 i).2)
theorem gN{L:List Int}{d i:Nat}{a:Nat->Nd×Nat}{k:Int}(b:Nk L d i=k):oneB L d a i=wU L a k (i+1):=by subst b;rfl
theorem tY{L:List Int}{d i:Nat}{k:Int}(a:Nk L d i=k):9<=k/\k<=25/\(k=11\/k=12->0<d):=by
 subst a;have h:=bY L i 17 bG;unfold Nk;split<;>omega
theorem Yf{c:Prop}[Decidable c]{f:Nat->bJ}{l:DV}{a b:Int}{x:Nat}(h:f 0=.box false [.d l,.d (aI b)]):
 cD f (if c then [(0,.box false [.d l,.d (aI a)])]else []) x=if x=0 then .box false [.d l,.d (aI (if c then a else b))]else f x:=by
 by_cases d:c
 .simp only[d,if_true,cD,cQ]
 .simp only[d,if_false,cD];split
  .rename_i e;rw[e];exact h
  .rfl
theorem PU{L:List Int}{d i C:Nat}{bl:Nat->Nd×Nat}(b:∀j,(bl j).2<=j+C):(oneB L d bl i).2<=i+40+2*C:=by
 rw[gN rfl];have c:=λj=>value_to L 1 j;have a:=λj=>value_to L 2 j;have n:=place_to L (i+1);unfold wU;have e:=c (i+1);have f:=c (i+2);have g:=a (i+1);have h:=a (i+2);have k:=a (placeM L (i+1)).2;have l:=b (valueM L 1 (i+1)).2;have m:=b ((bl (valueM L 1 (i+1)).2).2+1);simp only[E3,H1,H2,H3]at*;split
 .simp only;omega
 .split
  .simp only;omega
  .split
   .split
    .split<;>simp only<;>omega
    .simp only;omega
   .split
    .simp only;omega
    .split
     .simp only;omega
     .split
      .simp only;omega
      .split
       .simp only;omega
       .split
        .simp only;omega
        .split
         .simp only;omega
         .split<;>simp only<;>omega
theorem GP(L:List Int)(d i:Nat)(s:Nat->Nd×Nat)(n:Iy L)(p:L.length<=1000000)(m:Nat)(hi:i<=m)(hm:m<=1800000)(hd:d<=1000)(hB:∀e,d=e+1->PT L 278 e (m+30000) s)(a3:∀j,(s j).2<=j+20000):mH prog 223 [.bx 0 0,.d (aI (d:Nat))] (jB L i) (jB L (oneB L d s i).2) (.d (oneB L d s i).1.d):=by
 unfold jB;refine lE func223 rfl ntmps223 results223 λw0 X h=>?_;apply aE;simp;apply aF;have ha:=fM L i 17 n aD bG;have hr:=bY L i 17 bG;refine bH (oh 8 (jB L (i+1)) (.d (aI (dM L i 17)))) ?_;simp;refine⟨by(repeat' with_reducible apply And.intro)<;>first|omega|(simpa using ha),?_⟩;refine bI (ι:=KC) (λ⟨k⟩=>bB [(0,.bx 0 0),(1,.d (aI (d:Nat))),(4,.bx 4 0),(5,.bx 5 0)]) (λ⟨k⟩=>aK [(0,.box false [.d (.sl (L.map aI)),.d (aI ((i+1:Nat):Int))]),(4,.box false [.d (aI 0),.d (.str []),.d (aI 0),.nl]),(5,.box false [.d (aI k),.d (.str []),.d (aI 0),.nl])]) (λ⟨k⟩=>Nk L d i=k) ?_ λ⟨k⟩ f=>?_
 .apply aE;simp;refine⟨λa b=>⟨a,b⟩,?_⟩;apply aM;simp;refine⟨λg1 g2=>?_,λg=>?_⟩
  .apply aJ;simp;refine Xv.mk ⟨24⟩ (aA h [0,1,4,5] [(0,0),(4,4),(5,5)]) ?_;unfold Nk;rw[if_pos ⟨aD,aD⟩]
  .apply aG;simp;refine Xv.mk ⟨9+dM L i 17⟩ (aA h [0,1,4,5] [(0,0),(4,4),(5,5)]) ?_;unfold Nk;rw[if_neg aD]
 .refine bI (ι:=NdN) (λ⟨x,j⟩=>bB [(0,.bx 0 0),(1,.d (aI (d:Nat))),(4,.bx 4 0),(5,.bx 5 0)]) (λ⟨x,j⟩=>aK [(0,.box false [.d (.sl (L.map aI)),.d (aI (j:Nat))]),(4,.box false [.d (aI 0),.d (.str []),.d (aI 0),.nl]),(5,.box false [.d (aI x.kind),.d (.str x.text),.d (aI x.n),.d (ndsD x.kids)])]) (λ⟨x,j⟩=>oneB L d s i=(x,j)) ?_ λ⟨x,j⟩ y=>?_
  .apply aE;simp;apply aY;apply bF;simp;refine⟨λh5=>?_,λh5=>?_⟩
   .apply aF;have l:=AQ L (i+1) n aD;refine bH (oh 29 (jB L (i+2)) (.d (.str (ownM L (i+1))))) ?_;simp;refine⟨by simpa using l,?_⟩;have r:=MValue_ok L n p 2 (i+2) aD;refine bH (oh 32 (jB L (valueM L 2 (i+2)).2) (.d (valueM L 2 (i+2)).1.d)) ?_;simp;refine⟨by simpa using r,?_⟩;refine iF (cB 5 [33] (fz:=false) (cs:=[.d (aI k),.d (.str (ownM L (i+1))),.d (aI (0)),.ow 33 0 1]) (ds:=[aI k,.str (ownM L (i+1)),aI (0),.sl [((valueM L 2 (i+2)).1).d]]) bA bA bA (by simp[bJ.mut])) ?_;simp;refine Xv.mk ⟨.mk k (ownM L (i+1)) (0) [(valueM L 2 (i+2)).1],(valueM L 2 (i+2)).2⟩ (aA h [0,1,4,5] [(0,0),(4,4),(5,5)]) ?_;rw[gN f];unfold wU;repeat(first|rw[if_pos aD]|rw[if_neg aD])
   .apply bF;simp;refine⟨λh8=>?_,λh8=>?_⟩
    .apply aF;have a4:=UY L (i+1) n aD;have a9:=place_to L (i+1);refine bH (oh 38 (jB L (placeM L (i+1)).2) (.d (placeM L (i+1)).1.d)) ?_;simp;refine⟨by simpa using a4,?_⟩;have r:=MValue_ok L n p 2 (placeM L (i+1)).2 aD;refine fF.rd [[0]] [[],[],[0],[42],[],[5]] (oh 41 (jB L (valueM L 2 (placeM L (i+1)).2).2) (.d (valueM L 2 (placeM L (i+1)).2).1.d)) ?_;simp;refine⟨⟨by simpa using r,bG⟩,?_⟩;refine iF (cB 5 [42] (fz:=false) (cs:=[.d (aI k),.d (.str ([])),.d (aI (0)),.ow 42 0 2]) (ds:=[aI k,.str ([]),aI (0),.sl [((placeM L (i+1)).1).d,((valueM L 2 (placeM L (i+1)).2).1).d]]) bA bA bA (by simp[bJ.mut])) ?_;simp;refine Xv.mk ⟨.mk k ([]) (0) [(placeM L (i+1)).1,(valueM L 2 (placeM L (i+1)).2).1],(valueM L 2 (placeM L (i+1)).2).2⟩ (aA h [0,1,4,5] [(0,0),(4,4),(5,5)]) ?_;rw[gN f];unfold wU;repeat(first|rw[if_pos aD]|rw[if_neg aD])
    .refine bI (ι:=BC) (λ⟨b⟩=>bB [(0,.bx 0 0),(1,.d (aI (d:Nat))),(4,.bx 4 0),(5,.bx 5 0),(25,.d (aI (k))),(44,.d (.bool b))]) (λ⟨b⟩=>aK [(0,.box false [.d (.sl (L.map aI)),.d (aI ((i+1:Nat):Int))]),(4,.box false [.d (aI 0),.d (.str []),.d (aI 0),.nl]),(5,.box false [.d (aI k),.d (.str []),.d (aI 0),.nl])]) (λ⟨b⟩=>b=true↔(k=11\/k=12)) ?_ λ⟨b⟩ t=>?_
     .apply bF;simp;refine⟨λH=>?_,λH=>?_⟩
      .apply aG;simp;refine Xv.mk ⟨decide (k=11)⟩ (aA h [0,1,4,5,25,44] [(0,0),(4,4),(5,5)]) ?_;simp[H]
      .apply aJ;simp;refine Xv.mk ⟨decide (k=12)⟩ (aA h [0,1,4,5,25,44] [(0,0),(4,4),(5,5)]) ?_;simp only[decide_eq_true_eq];omega
     .apply aM;simp;refine⟨λz=>?_,λz=>?_⟩
      .have Y:=t.1 z;apply aF;obtain⟨e,Q⟩:∃e,d=e+1:=⟨d-1,by have:=(tY f).2.2 Y;omega⟩;have O:=hB e Q;subst Q;have r:=MValue_ok L n p 1 (i+1) aD;have tv:=value_to L 1 (i+1);obtain⟨a,D⟩:∃a,a=valueM L 1 (i+1):=⟨_,rfl⟩;rw[<-D]at r tv;have V:=O a.2 aD;obtain⟨b,E⟩:∃b,b=s a.2:=⟨_,rfl⟩;have tb:=a3 a.2;rw[<-E]at V tb;have W:=O (b.2+1) aD;obtain⟨c,P⟩:∃c,c=s (b.2+1):=⟨_,rfl⟩;rw[<-P]at W;have a5:=fM L b.2 2 n aD bG;have ez:((e:Int)+1)- 1=e:=aD;refine bH (oh 48 (jB L a.2) (.d a.1.d)) ?_;simp;refine⟨by simpa using r,?_⟩;apply aF;refine fF.rd [[0,57],[0,57]] [[],[],[],[],[],[0],[57],[58,49],[],[5]] (oh 56 (jB L b.2) (.d b.1.d)) ?_;simp[ez];refine⟨by(repeat' with_reducible apply And.intro)<;>first|omega|(simpa using V)|decide,?_⟩;refine dF (oh 65 (jB L (b.2+1)) (.d (aI (dM L b.2 2)))) ?_;simp[Yf (b:=(b.2:Int))];refine⟨λ_=>by simpa using a5,?_⟩;apply aM;simp;refine⟨λG g4=>?_,λG=>?_⟩
       .simp only[if_pos G];refine fF.rd [[0,74],[0,74]] [[],[],[],[],[],[0],[74],[75,58],[],[5]] (oh 73 (jB L c.2) (.d c.1.d)) ?_;simp[ez];refine⟨by(repeat' with_reducible apply And.intro)<;>first|omega|(simpa using W)|decide,?_⟩;refine iF (cB 5 [75] (fz:=false) (cs:=[.d (aI k),.d (.str ([])),.d (aI (0)),.ow 75 0 3]) (ds:=[aI k,.str ([]),aI (0),.sl [(a.1).d,(b.1).d,(c.1).d]]) bA bA bA (by simp[bJ.mut])) ?_;simp;refine Xv.mk ⟨.mk k ([]) (0) [a.1,b.1,c.1],c.2⟩ (aA h [0,1,4,5] [(0,0),(4,4),(5,5)] (hH:=by simp[G])) ?_;rw[gN f];unfold wU;rw[<-D,<-E,<-P,if_neg aD,if_neg aD,if_pos aD,if_pos G,if_pos g4]
       .apply aG;simp;refine iF (cB 5 [58] (fz:=false) (cs:=[.d (aI k),.d (.str ([])),.d (aI (0)),.ow 58 0 2]) (ds:=[aI k,.str ([]),aI (0),.sl [(a.1).d,(b.1).d]]) bA bA bA (by simp[bJ.mut])) ?_;simp;refine Xv.mk ⟨.mk k ([]) (0) [a.1,b.1],if k=11 then b.2+1 else b.2⟩ (aA h [0,1,4,5] [(0,0),(4,4),(5,5)] (hH:=by by_cases F:k=11<;>simp[F])) ?_;rw[gN f];unfold wU;rw[<-D,<-E];by_cases F:k=11
        .rw[if_neg aD,if_neg aD,if_pos aD,if_pos F,if_neg (G F)];simp[F]
        .rw[if_neg aD,if_neg aD,if_pos aD,if_neg F];simp[F]
      .have Y:¬(k=11\/k=12):=λq=>by simp[t.2 q]at z
       refine bI (ι:=BC) (λ⟨b⟩=>bB [(0,.bx 0 0),(1,.d (aI (d:Nat))),(4,.bx 4 0),(5,.bx 5 0),(25,.d (aI (k))),(77,.d (.bool b))]) (λ⟨b⟩=>aK [(0,.box false [.d (.sl (L.map aI)),.d (aI ((i+1:Nat):Int))]),(4,.box false [.d (aI 0),.d (.str []),.d (aI 0),.nl]),(5,.box false [.d (aI k),.d (.str []),.d (aI 0),.nl])]) (λ⟨b⟩=>b=true↔(k=13\/k=14\/k=17\/k=18)) ?_ λ⟨b⟩ u=>?_
       .apply bF;simp;refine⟨λI=>?_,λI=>?_⟩
        .apply aG;simp;refine Xv.mk ⟨decide (k=13)⟩ (aA h [0,1,4,5,25,77] [(0,0),(4,4),(5,5)]) ?_;simp[I]
        .apply bF;simp;refine⟨λJ=>?_,λJ=>?_⟩
         .apply aG;simp;refine Xv.mk ⟨decide (k=14)⟩ (aA h [0,1,4,5,25,77] [(0,0),(4,4),(5,5)]) ?_;simp[J]
         .apply bF;simp;refine⟨λK=>?_,λK=>?_⟩
          .apply aG;simp;refine Xv.mk ⟨decide (k=17)⟩ (aA h [0,1,4,5,25,77] [(0,0),(4,4),(5,5)]) ?_;simp[K]
          .apply aJ;simp;refine Xv.mk ⟨decide (k=18)⟩ (aA h [0,1,4,5,25,77] [(0,0),(4,4),(5,5)]) ?_;simp only[decide_eq_true_eq];omega
       .apply aM;simp;refine⟨λA=>?_,λA=>?_⟩
        .have a6:=u.1 A;have l:=jQ L (i+1) n aD;refine bH (oh 83 (jB L (i+2)) (.d (.str (callM L (i+1))))) ?_;simp;refine⟨by simpa using l,?_⟩;refine iF (cB 5 [] (fz:=false) (cs:=[.d (aI k),.d (.str (callM L (i+1))),.d (aI (0)),.nl]) (ds:=[aI k,.str (callM L (i+1)),aI (0),.sl []]) bA bA bA (by simp[bJ.mut])) ?_;simp;refine Xv.mk ⟨.mk k (callM L (i+1)) (0) [],i+2⟩ (aA h [0,1,4,5] [(0,0),(4,4),(5,5)]) ?_;rw[gN f];unfold wU;repeat(first|rw[if_pos aD]|rw[if_neg aD])
        .have a6:¬(k=13\/k=14\/k=17\/k=18):=λq=>by simp[u.2 q]at A
         refine bI (ι:=BC) (λ⟨b⟩=>bB [(0,.bx 0 0),(1,.d (aI (d:Nat))),(4,.bx 4 0),(5,.bx 5 0),(25,.d (aI (k))),(85,.d (.bool b))]) (λ⟨b⟩=>aK [(0,.box false [.d (.sl (L.map aI)),.d (aI ((i+1:Nat):Int))]),(4,.box false [.d (aI 0),.d (.str []),.d (aI 0),.nl]),(5,.box false [.d (aI k),.d (.str []),.d (aI 0),.nl])]) (λ⟨b⟩=>b=true↔(k=15\/k=22)) ?_ λ⟨b⟩ v=>?_
         .apply bF;simp;refine⟨λM=>?_,λM=>?_⟩
          .apply aG;simp;refine Xv.mk ⟨decide (k=15)⟩ (aA h [0,1,4,5,25,85] [(0,0),(4,4),(5,5)]) ?_;simp[M]
          .apply aJ;simp;refine Xv.mk ⟨decide (k=22)⟩ (aA h [0,1,4,5,25,85] [(0,0),(4,4),(5,5)]) ?_;simp only[decide_eq_true_eq];omega
         .apply aM;simp;refine⟨λB=>?_,λB=>?_⟩
          .have a7:=v.1 B;apply aF;have l:=jQ L (i+1) n aD;refine bH (oh 89 (jB L (i+2)) (.d (.str (callM L (i+1))))) ?_;simp;refine⟨by simpa using l,?_⟩;have r:=MValue_ok L n p 1 (i+2) aD;refine bH (oh 92 (jB L (valueM L 1 (i+2)).2) (.d (valueM L 1 (i+2)).1.d)) ?_;simp;refine⟨by simpa using r,?_⟩;refine iF (cB 5 [93] (fz:=false) (cs:=[.d (aI k),.d (.str (callM L (i+1))),.d (aI (0)),.ow 93 0 1]) (ds:=[aI k,.str (callM L (i+1)),aI (0),.sl [((valueM L 1 (i+2)).1).d]]) bA bA bA (by simp[bJ.mut])) ?_;simp;refine Xv.mk ⟨.mk k (callM L (i+1)) (0) [(valueM L 1 (i+2)).1],(valueM L 1 (i+2)).2⟩ (aA h [0,1,4,5] [(0,0),(4,4),(5,5)]) ?_;rw[gN f];unfold wU;repeat(first|rw[if_pos aD]|rw[if_neg aD])
          .have a7:¬(k=15\/k=22):=λq=>by simp[v.2 q]at B
           refine bI (ι:=BC) (λ⟨b⟩=>bB [(0,.bx 0 0),(1,.d (aI (d:Nat))),(4,.bx 4 0),(5,.bx 5 0),(25,.d (aI (k))),(95,.d (.bool b))]) (λ⟨b⟩=>aK [(0,.box false [.d (.sl (L.map aI)),.d (aI ((i+1:Nat):Int))]),(4,.box false [.d (aI 0),.d (.str []),.d (aI 0),.nl]),(5,.box false [.d (aI k),.d (.str []),.d (aI 0),.nl])]) (λ⟨b⟩=>b=true↔(k=16\/k=23)) ?_ λ⟨b⟩ w=>?_
           .apply bF;simp;refine⟨λN=>?_,λN=>?_⟩
            .apply aG;simp;refine Xv.mk ⟨decide (k=16)⟩ (aA h [0,1,4,5,25,95] [(0,0),(4,4),(5,5)]) ?_;simp[N]
            .apply aJ;simp;refine Xv.mk ⟨decide (k=23)⟩ (aA h [0,1,4,5,25,95] [(0,0),(4,4),(5,5)]) ?_;simp only[decide_eq_true_eq];omega
           .apply aM;simp;refine⟨λC=>?_,λC=>?_⟩
            .have a8:=w.1 C;apply aF;have l:=jQ L (i+1) n aD;refine bH (oh 99 (jB L (i+2)) (.d (.str (callM L (i+1))))) ?_;simp;refine⟨by simpa using l,?_⟩;have o:=AQ L (i+2) n aD;refine bH (oh 102 (jB L (i+3)) (.d (.str (ownM L (i+2))))) ?_;simp;refine⟨by simpa using o,?_⟩;refine iF (cB 5 [104] (fz:=false) (cs:=[.d (aI k),.d (.str (callM L (i+1))),.d (aI (0)),.ow 104 0 1]) (ds:=[aI k,.str (callM L (i+1)),aI (0),.sl [(Nd.mk 33 (ownM L (i+2)) 0 []).d]]) bA bA bA (by simp[bJ.mut])) ?_;simp;refine Xv.mk ⟨.mk k (callM L (i+1)) (0) [Nd.mk 33 (ownM L (i+2)) 0 []],i+3⟩ (aA h [0,1,4,5] [(0,0),(4,4),(5,5)]) ?_;rw[gN f];unfold wU;repeat(first|rw[if_pos aD]|rw[if_neg aD])
            .have a8:¬(k=16\/k=23):=λq=>by simp[w.2 q]at C
             apply bF;simp;refine⟨λZ=>?_,λZ=>?_⟩
             .apply aF;have l:=AQ L (i+1) n aD;refine bH (oh 109 (jB L (i+2)) (.d (.str (ownM L (i+1))))) ?_;simp;refine⟨by simpa using l,?_⟩;have o:=fM L (i+2) 5 n aD bG;have U:=bY L ((i:Int)+2) 5 bG;refine bH (oh 112 (jB L (i+3)) (.d (aI (dM L ((i:Int)+2) 5)))) ?_;simp;refine⟨⟨by simpa using o,aD⟩,?_⟩;refine iF (cB 5 [] (fz:=false) (cs:=[.d (aI k),.d (.str (ownM L (i+1))),.d (aI (2+dM L ((i:Int)+2) 5)),.nl]) (ds:=[aI k,.str (ownM L (i+1)),aI (2+dM L ((i:Int)+2) 5),.sl []]) bA bA bA (by simp[bJ.mut])) ?_;simp;refine Xv.mk ⟨.mk k (ownM L (i+1)) (2+dM L ((i:Int)+2) 5) [],i+3⟩ (aA h [0,1,4,5] [(0,0),(4,4),(5,5)]) ?_;rw[gN f];unfold wU;repeat(first|rw[if_pos aD]|rw[if_neg aD])
              simp
             .apply bF;simp;refine⟨λa0=>?_,λa0=>?_⟩
              .have l:=AQ L (i+1) n aD;refine bH (oh 118 (jB L (i+2)) (.d (.str (ownM L (i+1))))) ?_;simp;refine⟨by simpa using l,?_⟩;refine iF (cB 5 [] (fz:=false) (cs:=[.d (aI k),.d (.str (ownM L (i+1))),.d (aI (0)),.nl]) (ds:=[aI k,.str (ownM L (i+1)),aI (0),.sl []]) bA bA bA (by simp[bJ.mut])) ?_;simp;refine Xv.mk ⟨.mk k (ownM L (i+1)) (0) [],i+2⟩ (aA h [0,1,4,5] [(0,0),(4,4),(5,5)]) ?_;rw[gN f];unfold wU;repeat(first|rw[if_pos aD]|rw[if_neg aD])
              .apply bF;simp;refine⟨λa1=>?_,λa1=>?_⟩
               .have o:=fM L (i+1) 9 n aD bG;have U:=bY L ((i:Int)+1) 9 bG;refine bH (oh 123 (jB L (i+2)) (.d (aI (dM L ((i:Int)+1) 9)))) ?_;simp;refine⟨⟨by simpa using o,aD⟩,?_⟩;refine iF (cB 5 [] (fz:=false) (cs:=[.d (aI k),.d (.str ([])),.d (aI (1+dM L ((i:Int)+1) 9)),.nl]) (ds:=[aI k,.str ([]),aI (1+dM L ((i:Int)+1) 9),.sl []]) bA bA bA (by simp[bJ.mut])) ?_;simp;refine Xv.mk ⟨.mk k ([]) (1+dM L ((i:Int)+1) 9) [],i+2⟩ (aA h [0,1,4,5] [(0,0),(4,4),(5,5)]) ?_;rw[gN f];unfold wU;repeat(first|rw[if_pos aD]|rw[if_neg aD])
                simp
               .apply bF;simp;refine⟨λa2=>?_,λa2=>?_⟩
                .have o:=fM L (i+1) 99 n aD bG;have U:=bY L ((i:Int)+1) 99 bG;refine bH (oh 129 (jB L (i+2)) (.d (aI (dM L ((i:Int)+1) 99)))) ?_;simp;refine⟨⟨by simpa using o,aD⟩,?_⟩;refine iF (cB 5 [] (fz:=false) (cs:=[.d (aI k),.d (.str ([])),.d (aI (1+dM L ((i:Int)+1) 99)),.nl]) (ds:=[aI k,.str ([]),aI (1+dM L ((i:Int)+1) 99),.sl []]) bA bA bA (by simp[bJ.mut])) ?_;simp;refine Xv.mk ⟨.mk k ([]) (1+dM L ((i:Int)+1) 99) [],i+2⟩ (aA h [0,1,4,5] [(0,0),(4,4),(5,5)]) ?_;rw[gN f];unfold wU;repeat(first|rw[if_pos aD]|rw[if_neg aD])
                 simp
                .apply aF;have S:k=24:=by have:=tY f;omega
                 subst S;apply aJ;simp;apply aM;simp;have r:=MValue_ok L n p 2 (i+1) aD;refine bH (oh 135 (jB L (valueM L 2 (i+1)).2) (.d (valueM L 2 (i+1)).1.d)) ?_;simp;refine⟨by simpa using r,?_⟩;refine iF (cB 5 [136] (fz:=false) (cs:=[.d (aI 24),.d (.str ([])),.d (aI (0)),.ow 136 0 1]) (ds:=[aI 24,.str ([]),aI (0),.sl [((valueM L 2 (i+1)).1).d]]) bA bA bA (by simp[bJ.mut])) ?_;simp;refine Xv.mk ⟨.mk 24 ([]) (0) [(valueM L 2 (i+1)).1],(valueM L 2 (i+1)).2⟩ (aA h [0,1,4,5] [(0,0),(4,4),(5,5)]) ?_;rw[gN f];unfold wU;repeat(first|rw[if_pos aD]|rw[if_neg aD])
  .apply aE;simp;apply aH;simp;refine cP (x:=(oneB L d s i).1.d) (by simp[y]) ?_;simp;exact aA h [0] [(0,0)] (hH:=by simp[y])
theorem KB{L:List Int}{d:Nat->Nd×Nat}{C:Nat}(h:∀j,(d j).2<=j+C):∀(m:Nat) (c:List Nd) (j:Nat),(somesM L d m c j).2<=j+m*C
 |0,c,j=>by simp[somesM]
 |m+1,c,j=>by
  unfold somesM;split
  .simp
  .have a:=KB (L:=L) h m (c++[(d j).1]) (d j).2;have b:=h j;rw[G1];omega
theorem PV{L:List Int}{c:Nat->Nd×Nat}{C:Nat}(h:∀j,(c j).2<=j+C)(i:Nat):(someM L c i).2<=i+1+3*C:=by
 have d:=bY L i 4 bG;have a:=KB (L:=L) h (dM L i 4).toNat [] (i+1);have b:(dM L i 4).toNat*C<=3*C:=D5 C aD;show(somesM L c (dM L i 4).toNat [] (i+1)).2<=_;omega
def EI:Nat->Nat
 |0=>40
 |d+1=>40+2*(1+3*EI d)
theorem Ic(L:List Int):∀d i,(oneM L d i).2<=i+EI d
 |0,i=>by
  have h:∀j:Nat,((λ_=>default:Nat->Nd×Nat) j).2<=j+0:=λj=>B3 _;have:=PU (L:=L) (d:=0) (i:=i) h;rw[oneM];simp only[EI];omega
 |d+1,i=>by
  have h:=λj=>PV (L:=L) (Ic L d) j;have:=PU (L:=L) (d:=d+1) (i:=i) (bl:=someM L (oneM L d)) (C:=1+3*EI d) λj=>by have:=h j;omega
  rw[oneM];simp only[EI];omega
theorem KD{d:Nat}(h:d<=2):EI d<=2000:=by
 have:∀d:Nat,d<3->EI d<=2000:=bG;exact this d aD
theorem PW(L:List Int)(f:Iy L)(a:L.length<=1000000):∀(d:Nat),d<=2->∀b,b+70000*d<=1800000->PT L 223 d b (oneM L d)
 |0,_,b,hb=>λj g=>GP L 0 j (λ_=>default) f a b g aD aD (λe n=>aD) λj=>by show 0<=j+20000;omega
 |d+1,hd,b,hb=>λj g=>by
  have p:=KD (d:=d) aD;have h:=λj=>PV (L:=L) (Ic L d) j;obtain⟨c,m⟩:∃c,c=b+30000:=⟨_,rfl⟩;have k:=PW L f a d aD (c+40000) aD;have l:PT L 278 d c (someM L (oneM L d)):=λi o=>Nj L d i (oneM L d) f a c o aD k λj=>by have:=Ic L d j;omega
  refine GP L (d+1) j (someM L (oneM L d)) f a b g aD aD (λe n=>?_) λj=>?_
  .have:e=d:=aD;rw[this,<-m];exact l
  .have:=h j;omega
theorem VW(l:List Int):H5 (if(48:Int)<(l.length:Int)then 48 else(l.length:Int)).toNat (l.map aI)=(l.take 48).map aI:=by
 rw[<-List.map_take];congr 1;split
 .rfl
 .rw[show((l.length:Int)).toNat=l.length from rfl,G4,A9 aD]
theorem Yg{L:List Int}:(treeKinds.map aI)[(dM L 0 10).toNat]?.getD default=aI (treeKinds.getD (dM L 0 10).toNat 0):=by
 have h:=bY L 0 10 bG;have a:(dM L 0 10).toNat<treeKinds.length:=by show _<10;omega
 rw[List.getElem?_map,A4 a];simp[C6,a]
theorem VX{L:List Int}:0<=treeKinds.getD (dM L 0 10).toNat 0/\treeKinds.getD (dM L 0 10).toNat 0<=6:=by
 have h:=bY L 0 10 bG;have a:∀n:Nat,n<10->0<=treeKinds.getD n 0/\treeKinds.getD n 0<=6:=bG;exact a _ aD
theorem EJ(L:List Int)(i:Nat):i+2<=(placeM L i).2:=by unfold placeM;split<;>simp
theorem wV(L:List Int):∀(d i:Nat),i+1<=(valueM L d i).2:=λd=>by
 induction d with
 |zero=>
  intro i;obtain⟨l,_,g⟩:=valK_range L 0 i;have g:=g rfl;by_cases c:valK L 0 i=0\/valK L 0 i=1
  .rw[value_num c];simp
  .by_cases f:valK L 0 i=2
   .rw[value_loc f];simp
   .by_cases h:valK L 0 i=3\/valK L 0 i=4
    .rw[value_place h];have:=EJ L (i+1);omega
    .rw[value_kind aD];simp
 |succ e ih=>
  intro i;obtain⟨l,_,_⟩:=valK_range L (e+1) i;by_cases c:valK L (e+1) i=0\/valK L (e+1) i=1
  .rw[value_num c];simp
  .by_cases f:valK L (e+1) i=2
   .rw[value_loc f];simp
   .by_cases j:valK L (e+1) i=3\/valK L (e+1) i=4
    .rw[value_place j];have:=EJ L (i+1);omega
    .by_cases k:valK L (e+1) i=5
     .rw[value_kind k];simp
     .rw[value_bin aD];have a:=ih (i+1);have b:=ih (valueM L e (i+1)).2;simp only;omega
theorem PX{L:List Int}{d i:Nat}{b:Nat->Nd×Nat}(a:0<d->∀j,j<=(b j).2):i+1<=(oneB L d b i).2:=by
 rw[gN rfl];have c:=tY (L:=L) (d:=d) (i:=i) rfl;have o:=EJ L (i+1);have e:=wV L 1 (i+1);have f:=wV L 1 (i+2);have g:=wV L 2 (i+1);have k:=wV L 2 (i+2);have l:=wV L 2 (placeM L (i+1)).2;unfold wU;simp only[E3,H1]at*;split
 .simp only;omega
 .split
  .simp only;omega
  .split
   .rename_i h;have a:=a (c.2.2 h);have m:=a (valueM L 1 (i+1)).2;have n:=a ((b (valueM L 1 (i+1)).2).2+1);split
    .split<;>simp only<;>omega
    .simp only;omega
   .repeat(first|(simp only;omega)|split)
theorem KE{L:List Int}{st:Nat->Nd×Nat}(h:∀j,j<=(st j).2):∀(m:Nat) (c:List Nd) (j:Nat),j<=(somesM L st m c j).2
 |0,c,j=>B0 _
 |m+1,c,j=>by
  unfold somesM;split
  .exact B0 _
  .have a:=KE (L:=L) h m (c++[(st j).1]) (st j).2;have b:=h j;omega
theorem VY(L:List Int):∀d i,i+1<=(oneM L d i).2
 |0,i=>by rw[oneM];exact PX λh=>absurd h (Nat.lt_irrefl _)
 |d+1,i=>by
  rw[oneM];refine PX λ_ j=>?_;have:=KE (L:=L) (st:=oneM L d) (λj=>by have:=VY L d j;omega) (dM L j 4).toNat [] (j+1);show j<=(somesM L (oneM L d) (dM L j 4).toNat [] (j+1)).2;omega
theorem VZ{L:List Int}{m:Nat}{a:List Nd}{j:Nat}(h:L.length<=j):bodyM L m a j=a:=by
 cases m with
 |zero=>rfl
 |succ m=>unfold bodyM;rw[if_pos h]
theorem Yh{L:List Int}{m:Nat}{a:List Nd}{j:Nat}(b:0<m)(h:j<L.length):bodyM L m a j=bodyM L (m-1) (a++[(oneM L 2 j).1]) (oneM L 2 j).2:=by
 obtain⟨k,rfl⟩:∃k,m=k+1:=⟨m-1,aD⟩;rw[bodyM,if_neg aD];rfl
theorem rI(L:List Int):∀c,(itemsM L c).length=c
 |0=>rfl
 |c+1=>by rw[itemsM,A2,rI L c];rfl
structure NdC where
 x:Nd
structure CtC where
 c:Nat
section
variable{L:List Int} {k:Int} {t:aV} (hk:treeKinds.getD (dM L 0 10).toNat 0=k) (ht:callM L 1=t)
include hk ht
theorem We(h:k=0):treeB L=.mk k t (dM L 2 1999-999) []:=by subst hk ht;unfold treeB;simp only[];rw[if_pos h]
theorem Sd(h:k=2):treeB L=.mk k t (dM L 2 4) []:=by subst hk ht;unfold treeB;simp only[];rw[if_neg aD,if_pos h]
theorem Wf(h:k=1):treeB L=.mk k t 0 (itemsM L (dM L 2 4).toNat):=by subst hk ht;unfold treeB;simp only[];rw[if_neg aD,if_neg aD,if_pos h]
theorem Se(h:k=5\/k=6):treeB L=.mk k t 0 [.mk 8 [] 0 (bodyM L L.length [] 2)]:=by subst hk ht;unfold treeB;simp only[];rw[if_neg aD,if_neg aD,if_neg aD,if_pos h]
theorem Sf(a:¬k=0)(b:¬k=2)(c:¬k=1)(d:¬(k=5\/k=6)):treeB L=.mk k t 0 []:=by subst hk ht;unfold treeB;simp only[];rw[if_neg a,if_neg b,if_neg c,if_neg d]
end
theorem Wg(l:List Int)(hl:Iy l):Ok prog 150 [.sl (l.map aI)] ⟨.d (treeS l).d,false⟩:=by
 refine Cp func150 rfl ntmps150 results150 λw0 X i=>?_;obtain⟨L,o⟩:∃L,L=l.take 48:=⟨_,rfl⟩;have p:Iy L:=λn Z=>hl n (by rw[o]at Z;exact List.mem_of_mem_take Z);have a4:L.length<=48:=by rw[o,A6];omega
 have U:treeS l=treeB L:=by rw[o];rfl
 apply aE;simp;apply aE;simp[VW,<-o];refine⟨by split<;>omega,?_⟩;apply aF;have ha:=fM L 0 10 p aD bG;have hr:=bY L 0 10 bG;have W:=jQ L 1 p aD;have C:=Yg (L:=L);have Q:=VX (L:=L);simp[treeKinds]at C;obtain⟨k,u⟩:∃k,treeKinds.getD (dM L 0 10).toNat 0=k:=⟨_,rfl⟩;obtain⟨t,w⟩:∃t,callM L 1=t:=⟨_,rfl⟩;refine fF.rd [[4,15],[4,16],[4,16],[4,15],[4,15],[4,15,16],[4,16],[4],[15,16]] [[16],[],[15],[],[],[],[15],[],[4],[4]] (λ|18=>some (.gen ⟨[(15,0)],[],[],jB L 1,.d (aI (dM L 0 10))⟩)|22=>some (.gen ⟨[(15,0)],[],[],jB L 2,.d (.str t)⟩)|_=>none) ?_;simp[C];rw[u]at Q;rw[w]at W;refine⟨⟨⟨⟨⟨bG,by simpa using ha⟩,aD⟩,aD⟩,by simpa using W⟩,?_⟩;have P:[5,6,5,6,5,0,1,2,3,4][(dM L 0 10).toNat]?.getD 0=k:=by rw[<-u];simp[treeKinds]
 simp only[P];refine bI (ι:=NdC) (λ⟨x⟩=>bB [(2,.bx 2 0),(4,.bx 4 0)]) (λ⟨x⟩=>aK [(2,.box false [.d (aI 0),.d (.str []),.d (aI 0),.nl]),(4,.box false [.d (aI x.kind),.d (.str x.text),.d (aI x.n),.d (ndsD x.kids)])]) (λ⟨x⟩=>treeB L=x) ?_ λ⟨x⟩ B=>?_
 .apply aE;simp;apply aY;apply bF;simp;refine⟨λK=>?_,λK=>?_⟩
  .have f:=fM L 2 1999 p aD bG;have M:=bY L 2 1999 bG;refine bH (og 29 (.gen ⟨[(15,0)],[],[],jB L 3,.d (aI (dM L 2 1999))⟩)) ?_;simp;refine⟨⟨by simpa using f,aD⟩,?_⟩;refine iF (cB 4 [] (fz:=false) (cs:=[.d (aI k),.d (.str t),.d (aI (dM L 2 1999-999)),.nl]) (ds:=[aI k,.str t,aI (dM L 2 1999-999),.sl []]) bA bA bA (by simp[bJ.mut])) ?_;simp;refine Xv.mk ⟨.mk k t (dM L 2 1999-999) []⟩ (aA i [2,4] [(2,2),(4,4)]) ?_;exact We u w K
  .apply bF;simp;refine⟨λN=>?_,λN=>?_⟩
   .have f:=fM L 2 4 p aD bG;refine bH (og 35 (.gen ⟨[(15,0)],[],[],jB L 3,.d (aI (dM L 2 4))⟩)) ?_;simp;refine⟨by simpa using f,?_⟩;refine iF (cB 4 [] (fz:=false) (cs:=[.d (aI k),.d (.str t),.d (aI (dM L 2 4)),.nl]) (ds:=[aI k,.str t,aI (dM L 2 4),.sl []]) bA bA bA (by simp[bJ.mut])) ?_;simp;refine Xv.mk ⟨.mk k t (dM L 2 4) []⟩ (aA i [2,4] [(2,2),(4,4)]) ?_;exact Sd u w N
   .apply bF;simp;refine⟨λO=>?_,λO=>?_⟩
    .apply aF;have f:=fM L 2 4 p aD bG;have M:=bY L 2 4 bG;obtain⟨m,S⟩:∃m:Nat,(dM L 2 4).toNat=m:=⟨_,rfl⟩;have D:dM L 2 4=(m:Int):=aD;refine bH (og 40 (.gen ⟨[(15,0)],[],[],jB L 3,.d (aI (m:Nat))⟩)) ?_;simp;refine⟨by simpa [D]using f,?_⟩;refine lB (fz:=false) (cs:=[.d (aI k),.d (.str t),.d (aI 0),.nl]) 4 3 1056 4 bG ⟨bA,bA,bA,?_⟩;simp;apply aE;simp;apply aY;refine bC (ι:=CtC) (λ⟨c⟩=>bB [(2,.bx 2 0),(3,.bx 15 0),(4,.bx 4 0),(5,.d (aI (m:Nat))),(6,.d (aI (c:Nat)))]) (λ⟨c⟩=>aK [(2,.box false [.d (aI 0),.d (.str []),.d (aI 0),.nl]),(4,.box false [.d (aI k),.d (.str t),.d (aI 0),.ow 1056 0 c]),(15,.box false [.d (.sl (L.map aI)),.d (aI ((3+2*c:Nat):Int))]),(1056,.row false 4 ((itemsM L c).map Nd.d))]) (λ⟨c⟩=>c<=m) (λ⟨c⟩=>m-c) ⟨0⟩ (aA i [2,3,4,5,6] [(2,2),(4,4),(15,15),(1056,1056)] (hH:=by simp[itemsM])) (B3 _) λ⟨c⟩ g=>?_;apply aF;apply bF;simp;refine⟨λH=>?_,λH=>?_⟩
     .apply aG;simp;apply eE;apply aF;have y:=jQ L (3+2*c) p aD;refine bH (og 47 (.gen ⟨[(15,0)],[],[],jB L (3+2*c+1),.d (.str (callM L (3+2*c)))⟩)) ?_;simp;refine⟨by simpa using y,?_⟩;have z:=fM L (4+2*c) 1999 p aD bG;have V:=bY L (4+2*(c:Int)) 1999 bG;have a1:c<=m:=g;have F:(3:Int)+(2*(c:Int)+1)=4+2*c:=aD;have G:(4:Int)+(2*(c:Int)+1)=3+(2*c+2):=aD;have a2:=rI L c;refine fF.rd [[15,55],[15,55],[15]] [[],[],[],[],[15],[],[],[55],[56,1056],[],[4]] (og 52 (.gen ⟨[(15,0)],[],[],jB L (4+2*c+1),.d (aI (dM L ((4+2*c:Nat):Int) 1999))⟩)) ?_;simp[F];refine⟨⟨⟨by simpa using z,aD,aD⟩,aD,aD⟩,?_⟩;have Y:c<=m:=g;apply aJ;simp;refine⟨aD,?_⟩;refine Oe.mk ⟨c+1⟩ (aA i [2,3,4,5,6] [(2,2),(4,4),(15,15),(56,1056)] (hH:=by simp[itemsM,Int.mul_add,rI,A9,G])) ?_ ?_
      .show c+1<=m;omega
      .show m-(c+1)<m-c;omega
     .apply bQ;simp;refine iF (cB 4 [1056] (fz:=false) (cs:=[.d (aI k),.d (.str t),.d (aI 0),.ow 1056 0 c]) (ds:=[aI k,.str t,aI 0,.sl ((itemsM L c).map Nd.d)]) bA bA (by simp[rI,A9]) (by simp[bJ.mut])) ?_;simp;refine Xv.mk ⟨.mk k t 0 (itemsM L c)⟩ (aA i [2,4] [(2,2),(4,4)]) ?_;rw[Wf u w O,S];have E:c=m:=by have:=(show c<=m from g);omega
      rw[E]
    .refine bI (ι:=BC) (λ⟨b⟩=>bB [(2,.bx 2 0),(3,.bx 15 0),(4,.bx 4 0),(25,.d (aI (k))),(58,.d (.bool b))]) (λ⟨b⟩=>aK [(2,.box false [.d (aI 0),.d (.str []),.d (aI 0),.nl]),(4,.box false [.d (aI k),.d (.str t),.d (aI 0),.nl]),(15,.box false [.d (.sl (L.map aI)),.d (aI 2)])]) (λ⟨b⟩=>b=true↔(k=5\/k=6)) ?_ λ⟨b⟩ r=>?_
     .apply bF;simp;refine⟨λA=>?_,λA=>?_⟩
      .apply aG;simp;refine Xv.mk ⟨decide (k=5)⟩ (aA i [2,3,4,25,58] [(2,2),(4,4),(15,15)]) ?_;simp[A]
      .apply aJ;simp;refine Xv.mk ⟨decide (k=6)⟩ (aA i [2,3,4,25,58] [(2,2),(4,4),(15,15)]) ?_;simp only[decide_eq_true_eq];omega
     .apply aM;simp;refine⟨λs=>?_,λs=>?_⟩
      .have v:=r.1 s;apply aE;simp;refine lB (fz:=false) (cs:=[.d (aI 8),.d (.str []),.d (aI 0),.nl]) 8 3 1077 4 bG ⟨bA,bA,bA,?_⟩;simp;apply eE;refine bC (ι:=SmS) (λ⟨m,a,j⟩=>bB [(2,.bx 2 0),(3,.bx 15 0),(4,.bx 4 0),(8,.bx 8 0)]) (λ⟨m,a,j⟩=>aK [(2,.box false [.d (aI 0),.d (.str []),.d (aI 0),.nl]),(4,.box false [.d (aI k),.d (.str t),.d (aI 0),.nl]),(8,.box false [.d (aI 8),.d (.str []),.d (aI 0),.ow 1077 0 a.length]),(15,.box false [.d (.sl (L.map aI)),.d (aI (j:Nat))]),(1077,.row false 4 (a.map Nd.d))]) (λ⟨m,a,j⟩=>j<=3000/\L.length<=m+j/\a.length<=j/\bodyM L L.length [] 2=bodyM L m a j) (λ⟨m,a,j⟩=>L.length-j) ⟨L.length,[],2⟩ (aA i [2,3,4,8] [(2,2),(4,4),(8,8),(15,15),(1077,1077)]) (⟨aD,aD,bA,rfl⟩) λ⟨m,a,j⟩ h=>?_;apply fL;refine fF.rd [] [] (λ_=>none) ?_;simp;apply aM;simp;refine⟨λI=>?_,λI=>?_⟩
       .apply aG;simp;apply aY;have J:=PW L p aD 2 aD 5000 aD j aD;have a6:=VY L 2 j;have a5:=Ic L 2 j;have a0:=KD (d:=2) aD;have a3:=h.2.2.1;refine fF.rd [[15,76],[15,76]] [[],[],[],[15],[76],[77,1077],[],[8]] (og 75 (.gen ⟨[(15,0)],[],[],jB L (oneM L 2 j).2,.d (oneM L 2 j).1.d⟩)) ?_;simp;refine⟨by(repeat' with_reducible apply And.intro)<;>first|omega|(simpa using J),?_⟩;refine Oe.mk ⟨m-1,a++[(oneM L 2 j).1],(oneM L 2 j).2⟩ (aA i [2,3,4,8] [(2,2),(4,4),(8,8),(15,15),(77,1077)]) ?_ ?_
        .refine⟨(show(oneM L 2 j).2<=3000 by omega),(show L.length<=m-1+(oneM L 2 j).2 by omega),(by rw[A2,F2];show a.length+1<=(oneM L 2 j).2;omega),?_⟩;rw[h.2.2.2,Yh aD aD]
        .show L.length-(oneM L 2 j).2<L.length-j;omega
       .apply bQ;simp;apply aJ;simp;refine iF (cB 4 [80] (fz:=false) (cs:=[.d (aI k),.d (.str t),.d (aI 0),.ow 80 0 1]) (ds:=[aI k,.str t,aI 0,.sl [(Nd.mk 8 [] 0 a).d]]) bA bA bA (by simp[bJ.mut])) ?_;simp;refine Xv.mk ⟨.mk k t 0 [.mk 8 [] 0 a]⟩ (aA i [2,4] [(2,2),(4,4)]) ?_;rw[Se u w v,h.2.2.2,VZ aD]
      .have v:¬(k=5\/k=6):=λq=>by simp[r.2 q]at s
       apply aG;simp;refine iF (cB 4 [] (fz:=false) (cs:=[.d (aI k),.d (.str t),.d (aI 0),.nl]) (ds:=[aI k,.str t,aI 0,.sl []]) bA bA bA (by simp[bJ.mut])) ?_;simp;refine Xv.mk ⟨.mk k t 0 []⟩ (aA i [2,4] [(2,2),(4,4)]) ?_;exact Sf u w K N O v
 .apply aE;simp;apply aH;have e:treeS l=x:=U.trans B;simp[e]
end
section
attribute[local simp] aR bK bE aO aL aZ aP
attribute[local simp] kJ.cond Nd.d_eq nd_t nd_dr nd_td ndsD aU mI dH Cu Cv Cw Kd
def AZ(n:Int):Prop:= -9223372036854775808<=n/\n<=9223372036854775807
theorem Id{a:Int}{m:Nat}(h:AZ a):AZ (a.tdiv ((m:Int)+1)):=by
 unfold AZ at*;have d:(a.tdiv ((m:Int)+1)).natAbs<=a.natAbs:=by rw[Int.natAbs_tdiv];exact Nat.div_le_self _ _
 by_cases c:0<=a
 .have:=G5 c (show(0:Int)<=(m:Int)+1 by omega);omega
 .have e:a.tdiv ((m:Int)+1)<=0:=by
   obtain⟨b,rfl⟩:∃b,a= -b:=⟨-a,aD⟩;rw[Int.neg_tdiv];have:=G5 (show(0:Int)<=b by omega) (show(0:Int)<=(m:Int)+1 by omega);omega
  omega
end
theorem Dg(L:List Int)(i:Nat):(ownM L i).length<=16:=by
 unfold ownM;have:∀k:Nat,(ownL.getD k []).length<=16:=λk=>by
  rw[C6];cases e:ownL[k]? with
  |none=>simp
  |some w=>
   have:=List.mem_of_getElem? e;exact(by decide:∀w∈ownL,w.length<=16) w this
 exact this _
theorem jS(k:Int)(t:aV)(n:Int):weighN (.mk k t n [])=t.length+1:=by simp[weighN,weighL]
theorem wW(L:List Int)(i:Nat):weighN (placeM L i).1<=34:=by
 have a:=nL L (i+1);have b:=nL L (i+2);unfold placeM;split<;>simp only[jS,A2,D1]<;>omega
theorem Cz(L:List Int):∀(d i:Nat),weighN (valueM L d i).1+1<=35*2^d:=λd=>by
 induction d with
 |zero=>
  intro i;obtain⟨o,_,h⟩:=valK_range L 0 i;have h:=h rfl;have l:=Dg L (i+1);have m:=wW L (i+1);by_cases c:valK L 0 i=0\/valK L 0 i=1
  .rw[value_num c];simp[jS]
  .by_cases f:valK L 0 i=2
   .rw[value_loc f];simp only[jS];omega
   .by_cases g:valK L 0 i=3\/valK L 0 i=4
    .rw[value_place g];omega
    .rw[value_kind aD];simp[jS]
 |succ e ih=>
  intro i;have n:1<=2^e:=Nat.one_le_two_pow;have g:2^(e+1)=2*2^e:=by rw[Nat.pow_succ,Nat.mul_comm]
  have l:=Dg L (i+1);have m:=wW L (i+1);obtain⟨o,_,_⟩:=valK_range L (e+1) i;by_cases c:valK L (e+1) i=0\/valK L (e+1) i=1
  .rw[value_num c];simp only[jS,C0];omega
  .by_cases f:valK L (e+1) i=2
   .rw[value_loc f];simp only[jS];omega
   .by_cases j:valK L (e+1) i=3\/valK L (e+1) i=4
    .rw[value_place j];omega
    .by_cases k:valK L (e+1) i=5
     .rw[value_kind k];simp only[jS,C0];omega
     .rw[value_bin aD];have a:=ih (i+1);have b:=ih (valueM L e (i+1)).2;simp only[weighN,weighL,C0];omega
theorem EK{L:List Int}{d i C:Nat}{a:Nat->Nd×Nat}(c:∀j,weighN (a j).1<=C):weighN (oneB L d a i).1<=200+2*C:=by
 rw[gN rfl];have e:=λj=>Cz L 1 j;have b:=λj=>Cz L 2 j;have r:=wW L (i+1);have p:=nL L (i+1);have q:=Dg L (i+1);have f:=Dg L (i+1+1);unfold wU;have g:=e (i+1);have h:=e (i+1+1);have k:=b (i+1);have l:=b (i+1+1);have m:=b (placeM L (i+1)).2;have n:=c (valueM L 1 (i+1)).2;have o:=c ((a (valueM L 1 (i+1)).2).2+1);simp only[H2,H3]at*;repeat(first|(simp only[weighN,weighL,C0];omega)|split)
theorem CA{L:List Int}{d:Nat->Nd×Nat}{C:Nat}(h:∀j,weighN (d j).1<=C):∀(m:Nat) (c:List Nd) (j:Nat),weighL (somesM L d m c j).1<=weighL c+m*C
 |0,c,j=>by simp[somesM]
 |m+1,c,j=>by
  unfold somesM;split
  .simp
  .have a:=CA (L:=L) h m (c++[(d j).1]) (d j).2;have b:=h j;rw[weighL_append]at a;simp only[weighL]at a;rw[G1];omega
theorem Nl{L:List Int}{c:Nat->Nd×Nat}{C:Nat}(h:∀j,weighN (c j).1<=C)(i:Nat):weighN (someM L c i).1<=1+3*C:=by
 have d:=bY L i 4 bG;have a:=CA (L:=L) h (dM L i 4).toNat [] (i+1);have b:(dM L i 4).toNat*C<=3*C:=D5 C aD;show weighN (.mk 8 [] 0 (somesM L c (dM L i 4).toNat [] (i+1)).1)<=_;simp only[weighN,weighL,C0]at*;omega
def EL:Nat->Nat
 |0=>204
 |d+1=>200+2*(1+3*EL d)
theorem GQ(L:List Int):∀d i,weighN (oneM L d i).1<=EL d
 |0,i=>by
  rw[oneM];exact EK (C:=2) λj=>by show weighN default<=2;decide
 |d+1,i=>by
  rw[oneM];exact EK (C:=1+3*EL d) λj=>Nl (GQ L d) j
theorem EM(L:List Int):∀(m:Nat) (c:List Nd) (j:Nat),weighL (bodyM L m c j)<=weighL c+m*EL 2
 |0,c,j=>by simp[bodyM]
 |m+1,c,j=>by
  unfold bodyM;split
  .simp
  .have a:=EM L m (c++[(oneM L 2 j).1]) (oneM L 2 j).2;have b:=GQ L 2 j;rw[weighL_append]at a;simp only[weighL]at a;rw[G1];omega
theorem CB(L:List Int):∀c,weighL (itemsM L c)<=17*c
 |0=>B0 _
 |c+1=>by
  have a:=CB L c;have b:=nL L (3+2*c);rw[itemsM,weighL_append];simp only[weighL,jS];omega
theorem EN(l:List Int):weighN (treeS l)<=1000000:=by
 have b:(l.take 48).length<=48:=by rw[A6];omega
 have e:=nL (l.take 48) 1;have g:=bY (l.take 48) 2 4 bG;have a:=EM (l.take 48) (l.take 48).length [] 2;have c:(l.take 48).length*EL 2<=48*EL 2:=D5 _ b;have d:EL 2=8758:=rfl;have f:=CB (l.take 48) (dM (l.take 48) 2 4).toNat;unfold treeS treeB;simp only[];simp only[weighL]at a;repeat(first|(simp only[weighN,weighL,C0];omega)|split)
set_option maxRecDepth 10000
section
attribute[local simp] aR bK bE aO aL aZ aP
attribute[local simp] kJ.cond Nd.d_eq nd_t nd_dr nd_td ndsD aU bO mP dU dH
theorem EO{s:aV}{R:Nd×PS}(a:defP false ⟨(scanS s).1,0⟩=R)(b:s.length<=1024){x:Tk}{r:List Tk}(h:R.2.l=x::r):parseS s=(zeroNd,x.at_,if R.2.e≠0 then R.2.e else 2):=by
 unfold parseS;rw[if_neg aD];simp only[];rw[a,h]
theorem KF{s:aV}{R:Nd×PS}(b:defP false ⟨(scanS s).1,0⟩=R)(c:s.length<=1024)(h:R.2.l=[])(a:¬R.2.e=0\/(scanS s).2<s.length):parseS s=(zeroNd,(scanS s).2,2):=by
 unfold parseS;rw[if_neg aD];simp only[];rw[b,h];simp only[];rw[if_pos a]
theorem GR{s:aV}{R:Nd×PS}(b:defP false ⟨(scanS s).1,0⟩=R)(c:s.length<=1024)(h:R.2.l=[])(a:¬(¬R.2.e=0\/(scanS s).2<s.length)):parseS s=if validB R.1 then(R.1,0,0)else(zeroNd,0,4):=by
 unfold parseS;rw[if_neg aD];simp only[];rw[b,h];simp only[];rw[if_neg a]
theorem Nn(s:aV)(R:Nd×PS)(h:defP false ⟨(scanS s).1,0⟩=R)(n:s.length<=1024->mH prog 86 [.bx 0 0] (dU ⟨(scanS s).1,0⟩) (dU R.2) (.d R.1.d))(u:s.length<=1024->weighN R.1<=1000000000):Ok prog 25 [.str s] ⟨.tup [.d (parseS s).1.d,.d (aI (parseS s).2.1),.d (aI (parseS s).2.2)],false⟩:=by
 refine Aw hT func25 jM (c:=_) rfl ntmps25 bA results25 bA (by rfl) λy X w=>?_;apply aE;simp;apply aF;apply bF;simp;refine⟨λl=>?_,λl=>?_⟩
 .apply aE;simp;apply aH;have e:parseS s=(zeroNd,1024,4):=by unfold parseS;rw[if_pos aD]
  simp[e,zeroNd]
 .apply aG;simp;apply aF;have p:=XK s aD;refine bH (og 15 (.plain ⟨.tup [.d (.sl ((scanS s).1.map Tk.d)),.d (aI (scanS s).2)],true⟩)) ?_;simp[bM];refine⟨p,?_⟩;apply aE;simp;apply aF;have o:=n aD;refine bH (og 22 (.gen ⟨[(20,0)],[],[],dU R.2,.d R.1.d⟩)) ?_;simp;refine⟨by simpa using o,?_⟩;apply eE;apply bF;simp;refine⟨λi j=>?_,λg=>?_⟩
  .apply aF;obtain⟨x,r,a⟩:=D2 j;have v:(aQ x.d).length=2:=rfl;refine fF.rd [[],[2],[2],[2],[2],[2],[2],[2],[2],[2],[2],[2]] [[],[],[],[],[],[],[],[],[],[],[],[],[2]] (λ_=>none) ?_;simp[a,Tk.d];apply aH;have e:=EO h aD a;simp[e,zeroNd,i]
  .apply bF;simp;refine⟨λf=>?_,λf=>?_⟩
   .apply aF;obtain⟨x,r,a⟩:=D2 f;refine fF.rd [[],[2],[2],[2],[2],[2],[2],[2]] [[],[],[],[],[],[],[],[],[2]] (λ_=>none) ?_;simp[a,Tk.d];apply aH;have e:=EO h aD a;have k:R.2.e=0:=D7 λq=>by have:=g q;rw[this]at a;cases a
    simp[e,zeroNd,k]
   .apply bF;simp;refine⟨λd=>?_,λd m=>?_⟩
    .apply aE;simp;apply aH;have e:=KF h aD f d;simp[e,zeroNd]
    .apply aF;have t:=JI R.1 (u aD);refine bH (og 80 (.plain ⟨.d (.bool (validB R.1)),true⟩)) ?_;simp;refine⟨by simpa using t,?_⟩;apply aM;simp;refine⟨λb=>?_,λb=>?_⟩
     .apply aE;simp;apply aH;have e:=GR h aD f aD;simp[e,b,zeroNd]
     .apply aG;simp;apply aE;simp;apply aH;have e:=GR h aD f aD;simp[e,b]
end
theorem wX(s:aV):Ok prog 25 [.str s] ⟨.tup [.d (parseS s).1.d,.d (aI (parseS s).2.1),.d (aI (parseS s).2.2)],false⟩:=
 Nn s _ rfl (λa=>def_ok ⟨(scanS s).1,0⟩ (lD _ _ _) (by have:=nM s.length s 0;show(scanF s.length s 0).1.length<=1000000;omega)) λa=>Cx a
section
attribute[local simp] aR bK bE aO aL aZ aP
set_option maxRecDepth 10000
set_option maxHeartbeats 4000000
attribute[local simp] kJ.cond Nd.d_eq nd_t nd_dr nd_td ndsD aU mI dH Cu Cv Cw Kd
end
section
attribute[local simp] aR bK bE aO aL aZ aP
attribute[local simp] kJ.cond Nd.d_eq nd_t nd_dr nd_td ndsD aU
def aAO(w:aV):Nat->aV
 |0=>[]
 |n+1=>aAO w n++w
theorem qP(s:aV):weighN (parseS s).1<=1000000000:=by
 by_cases h:1024<s.length
 .unfold parseS;rw[if_pos h];decide
 .obtain⟨R,a⟩:∃R,defP false ⟨(scanS s).1,0⟩=R:=⟨_,rfl⟩;have b:=Cx (s:=s) aD;rw[a]at b;unfold parseS;rw[if_neg h];simp only[];rw[a];have z:weighN zeroNd<=1000000000:=bG;split
  .exact z
  .split
   .exact z
   .split
    .exact b
    .exact z
theorem ZY(w:aV):aAO w 0=[]:=rfl
attribute[local simp] ZY
theorem Wh(s:aV)(n:Nat)(b:s.length<=9223372036854775807):Ok prog 80 [.str s,aI n] ⟨.d (.str (s.take n)),true⟩:=by
 refine bU func80 rfl ntmps80 results80 λd X c=>?_;apply aE;simp;apply aF;apply bF;simp;refine⟨λa=>?_,λa=>?_⟩
 .apply aE;simp;refine⟨aD,?_⟩;apply aH;simp
 .apply aG;simp;apply aE;simp;apply aH;simp;exact(A9 aD).symm
end
end Go.Eng
namespace Go.Proofs
open Go.Shelf
def Tryz.sortStr_ren:Go.Shelf.Ren:=⟨λ|6=>98|8=>134|9=>173|19=>207|20=>208|21=>249|22=>250|23=>251|24=>252|25=>253|26=>254|27=>255|28=>256|29=>257|36=>309|31=>269|32=>270|37=>310|38=>311|39=>153|41=>338|n=>n,λ|27=>44|29=>9|3=>3|32=>166|26=>44|0=>0|44=>90|46=>93|4=>4|36=>236|35=>235|41=>154|5=>5|9=>9|53=>281|57=>285|63=>297|64=>298|n=>n,λ|n=>n⟩
theorem Tryz.sortStr:Go.Proofs.SlLaysM.n6 prog Tryz.sortStr_ren:={
 mixed:=by kernel_rfl,
 f6:=⟨Tryz.f98.name,by decide,func98.trans (congrArg some (by kernel_rfl))⟩,
 f8:=func134.trans (congrArg some (by kernel_rfl)),
 f9:=⟨Tryz.f173.name,by decide,func173.trans (congrArg some (by kernel_rfl))⟩,
 f19:=func207.trans (congrArg some (by kernel_rfl)),
 f20:=func208.trans (congrArg some (by kernel_rfl)),
 f21:=⟨Tryz.f249.name,by decide,func249.trans (congrArg some (by kernel_rfl))⟩,
 f22:=⟨Tryz.f250.name,by decide,func250.trans (congrArg some (by kernel_rfl))⟩,
 f23:=⟨Tryz.f251.name,by decide,func251.trans (congrArg some (by kernel_rfl))⟩,
 f24:=⟨Tryz.f252.name,by decide,func252.trans (congrArg some (by kernel_rfl))⟩,
 f25:=⟨Tryz.f253.name,by decide,func253.trans (congrArg some (by kernel_rfl))⟩,
 f26:=⟨Tryz.f254.name,by decide,func254.trans (congrArg some (by kernel_rfl))⟩,
 f27:=⟨Tryz.f255.name,by decide,func255.trans (congrArg some (by kernel_rfl))⟩,
 f28:=⟨Tryz.f256.name,by decide,func256.trans (congrArg some (by kernel_rfl))⟩,
 f29:=⟨Tryz.f257.name,by decide,func257.trans (congrArg some (by kernel_rfl))⟩,
 f31:=func269.trans (congrArg some (by kernel_rfl)),
 f32:=func270.trans (congrArg some (by kernel_rfl)),
 f36:=⟨Tryz.f309.name,by decide,func309.trans (congrArg some (by kernel_rfl))⟩,
 f37:=⟨Tryz.f310.name,by decide,func310.trans (congrArg some (by kernel_rfl))⟩,
 f38:=⟨Tryz.f311.name,by decide,func311.trans (congrArg some (by kernel_rfl))⟩,
 f39:=⟨Tryz.f153.name,by decide,func153.trans (congrArg some (by kernel_rfl))⟩,
 f41:=⟨Tryz.f338.name,by decide,func338.trans (congrArg some (by kernel_rfl))⟩,
 t0:=underlying0,
 a0:=isAgg0,
 z0:=sizeOf0,
 v0:=zeroValue0,
 t3:=underlying3,
 a3:=isAgg3,
 z3:=sizeOf3,
 v3:=zeroValue3,
 t4:=underlying4,
 a4:=isAgg4,
 z4:=sizeOf4,
 v4:=zeroValue4,
 t5:=underlying5,
 a5:=isAgg5,
 z5:=sizeOf5,
 v5:=zeroValue5,
 t9:=underlying9,
 a9:=isAgg9,
 z9:=sizeOf9,
 v9:=zeroValue9,
 t26:=underlying44,
 a26:=isAgg44,
 z26:=sizeOf44,
 v26:=zeroValue44,
 t27:=underlying44,
 a27:=isAgg44,
 z27:=sizeOf44,
 v27:=zeroValue44,
 t29:=underlying9,
 a29:=isAgg9,
 z29:=sizeOf9,
 v29:=zeroValue9,
 t32:=underlying166,
 a32:=isAgg166,
 z32:=sizeOf166,
 v32:=zeroValue166,
 t35:=underlying235,
 a35:=isAgg235,
 z35:=sizeOf235,
 v35:=zeroValue235,
 t36:=underlying236,
 a36:=isAgg236,
 z36:=sizeOf236,
 v36:=zeroValue236,
 t41:=underlying154,
 a41:=isAgg154,
 z41:=sizeOf154,
 v41:=zeroValue154,
 t44:=underlying90,
 a44:=isAgg90,
 z44:=sizeOf90,
 v44:=zeroValue90,
 t46:=underlying93,
 a46:=isAgg93,
 z46:=sizeOf93,
 v46:=zeroValue93,
 t53:=underlying281,
 a53:=isAgg281,
 z53:=sizeOf281,
 v53:=zeroValue281,
 t57:=underlying285,
 a57:=isAgg285,
 z57:=sizeOf285,
 v57:=zeroValue285,
 t63:=underlying297,
 a63:=isAgg297,
 z63:=sizeOf297,
 v63:=zeroValue297,
 t64:=underlying298,
 a64:=isAgg298,
 z64:=sizeOf298,
 v64:=zeroValue298}
end Go.Proofs
namespace Go.Eng
open Go.Proofs Go.Sort Go.Shelf Go.RowKit
def tZ(x:aV):Value:=.string ⟨x.toArray⟩
def aV.enc(x:aV):List Value:=[tZ x]
theorem qQ:Ay 1 DV.str aV.enc where
 pos:=bG
 len:=λ_=>rfl
 lenD:=λ_=>rfl
 one:=λx v a=>by simp[aV.enc]at a;subst a;rfl
 cell:=λx i c v b a w E u=>by
  match i,b,a with
  |0,b,a=>simp[aV.enc,aQ]at b a;subst b;subst a;exact⟨λh=>by cases h;rfl,λh=>h▸ .str _⟩
def dZ(l:List aV):List aV:=l.mergeSort λx y=>decide (x<=y)
theorem kF(l:List aV):(dZ l).length=l.length:=List.length_mergeSort _
theorem Ie{a:Array Value}{s:List aV}(h:s.length<=a.size):putCells encStr 0 s.toArray a=(bE 0 a.toList (s.flatMap aV.enc)).toArray:=by
 have b:(s.flatMap aV.enc).length=s.length:=by have:=qQ.flat_len s;simpa using this
 apply Array.ext_getElem?;intro i;rw[show(bE 0 a.toList (s.flatMap aV.enc)).toArray[i]? =(bE 0 a.toList (s.flatMap aV.enc))[i]? from bA,gQ (by rw[D6,b];simpa using h)];simp only[putCells,Array.getElem?_mapIdx,E9,if_false,D6,E1,b,Nat.sub_zero,B3,true_and];by_cases c:i<s.length
 .have d:i<a.size:=aD;have e:s.flatMap aV.enc=s.map tZ:=by
   clear h b c;induction s with
   |nil=>rfl
   |cons x t ih=>simp[aV.enc,ih]
  simp only[c,if_true,D8 d,G6];rw[e];simp[c,getElem!_def,encStr,tZ]
 .simp only[c,if_false];rw[Array.getElem?_toList];cases a[i]? <;>rfl
set_option maxRecDepth 100000 in
theorem Ad(l:List aV)(hl:l.length<=8000000000000):mH prog 98 [.ow 0 0 l.length] [(0,.row false 1 (l.map .str))] [(0,.row false 1 ((dZ l).map .str))] (.tup []):=by
 refine⟨⟨_,func98,jM,by rfl⟩,λw X β vs m Z hr=>?_⟩;have G:aK [(0,bJ.row false 1 (l.map DV.str))] 0=.row false 1 (l.map .str):=by simp[aK,fN]
 have z:∀o,aK [(0,o)]=cQ (aK [(0,bJ.row false 1 (l.map DV.str))]) 0 o:=λo=>by
  funext j;simp only[aK,fN,cQ];split<;>rfl
 generalize a3:aK [(0,bJ.row false 1 (l.map DV.str))]=H at*
 match vs,Z with
 |[v0],_=>
 have r0:=hr 0 _ _ rfl rfl;rcases Aq m G r0 with⟨b,c,a,e,rfl,F,a5,hn,hc,d,V,a2⟩|⟨p,rfl,hz,_⟩
 .have r:=m.obj 0;simp only[dS,G]at r;obtain⟨L,a1,r⟩:=r;rcases r with⟨D,_⟩|⟨b',e',a0,k,g,h,U⟩
  .rw[D]at F;cases F
  rw[F]at k;injection k with k;subst k
  rw[d]at g;injection g with g;injection g with p1 p2;subst p1;subst p2
  rw[F0]at h;have Y:=qQ.holds h (λi c v hc hv=>(U i c v hc hv).2);have a4:(l.flatMap aV.enc).length=l.length:=by have:=qQ.flat_len l;simpa using this
  have K:∀l:List aV,l.flatMap aV.enc=l.map tZ:=λl=>by
   induction l with
   |nil=>rfl
   |cons x t ih=>simp[aV.enc,ih]
  have Q:=(Array.getElem?_eq_some_iff.1 d).1;have B:Holds encStr w b 0 l.toArray:=by
   intro j C;simp only[E1]at C;have J:j<a.size:=aD;refine⟨?_,by simp[World.frozen?,d]⟩;rw[cell_of_row w b _ a e (0,0) d,D6,D8 J];have O:(a.toList.take (l.length*1))[j]? =some a[j]:=by rw[List.getElem?_take,if_pos aD];simp[J]
   rw[Y,K]at O;simp[C]at O;rw[<-O];simp[encStr,tZ,C]
  have y:=AnyM.slices_Sort_string Tryz.sortStr b 0 c l w B Q aD;rw[show #[Value.slice (some ⟨b,0,none⟩) l.length c]=[Value.slice (some ⟨b,0*1,none⟩) l.length c].toArray from rfl]at y;refine y.mono ?_;rintro ee w' ⟨rfl,n,os,rfl⟩;have W:=kF l;change ∃v β',_/\dV _ X _ β' (grow (putRow encStr (Sort.ahead w n) b 0 (dZ l).toArray) os)/\R (grow (putRow encStr (Sort.ahead w n) b 0 (dZ l).toArray) os) _ _ _ _ v;generalize dZ l=s at*;have M:(s.flatMap aV.enc).length=s.length:=by have:=qQ.flat_len s;simpa using this
  have A:(putRow encStr (Sort.ahead w n) b 0 s.toArray).heap[b]? =some (.cells (bE 0 a.toList (s.flatMap aV.enc)).toArray e (0,0)):=by
   rw[<-Ie aD];unfold putRow mapBlock;simp only[heap_ahead,F3,if_pos,d,G6];rfl
  have u:∀j,j≠b->(putRow encStr (Sort.ahead w n) b 0 s.toArray).heap[j]? =w.heap[j]? :=λj C=>by
   unfold putRow mapBlock;simp only[heap_ahead,F3,Ne.symm C,if_false]
  have E:(putRow encStr (Sort.ahead w n) b 0 s.toArray).heap.size=w.heap.size:=bA;have I:a.toList.length=a.size:=bA;have S:(bE 0 a.toList (s.flatMap aV.enc)).toArray.size=a.size:=by rw[E1,fC (by rw[D6,M,I];omega)];exact I
  have N:(bE 0 a.toList (s.flatMap aV.enc)).toArray.toList.take (s.length*1)=s.flatMap aV.enc:=by
   unfold bE;simp[M]
  obtain⟨m1,g1⟩:=m.rewriteG (id:=0) (b:=b) (o':=.row false 1 (s.map .str)) (w':=putRow encStr (Sort.ahead w n) b 0 s.toArray) (by rw[G];rfl) F rfl rfl rfl (Nat.le_add_right _ _) E u (by
   unfold bW;rw[G,aW];refine .inr ⟨⟨false,s.map .str,rfl,by simp[W]⟩,rfl,λb' c' t q f=>?_⟩;rw[F]at q;injection q with q;subst q
   rw[d]at f;injection f with f;injection f with q1 q2;subst q1;subst q2
   exact⟨_,e,A,S⟩) (λ_ _=>by
   unfold dS;rw[aW];obtain⟨z1,z2⟩:=qQ.reads N;exact⟨L,qQ.all s,.inr ⟨b,e,_,F,A,by simpa using z1,z2 _ _⟩⟩)
  obtain⟨m2,g2⟩:=m1.grow (w':=grow (putRow encStr (Sort.ahead w n) b 0 s.toArray) os) ⟨rfl,rfl,rfl,bA,λj C=>heap_grow_old _ _ C,B0 _⟩;refine⟨_,β,rfl,?_,.tup [] [] rfl bA⟩;rw[z];exact m2
 .have P:l=[]:=B1 hz;subst P;refine(AnyM.slices_Sort_string_none Tryz.sortStr p 0 w).mono ?_;rintro e w' ⟨rfl,rfl⟩;refine⟨_,β,rfl,?_,.tup [] [] rfl bA⟩;rw[z,show dZ []=[] from by simp[dZ],DI G];exact m
theorem pL(l:List aV):(dZ l).Pairwise λx y=>x<=y:=by
 have:=List.pairwise_mergeSort (le:=λx y:aV=>decide (x<=y)) (λa b c d e=>by simp at*;exact D4 d e) (λa b=>by simp;exact List.le_total a b) l;exact this.imp λh=>by simpa using h
theorem Np{p s:List aV}(h:p.Perm s):dZ p=dZ s:=
 List.Perm.eq_of_pairwise (le:=λx y:aV=>x<=y) (λa b _ _ c d=>List.le_antisymm c d) (pL p) (pL s) (((F6 p _).trans h).trans (F6 s _).symm)
section
attribute[local simp] aR bK bE aO aL aZ aP
attribute[local simp] kJ.cond Nd.d_eq nd_t nd_dr nd_td ndsD aU bL
def Fo(ts:List Nd)(d:Df):Int:=
 if(parseS d.text).2.2≠0 then(parseS d.text).2.2
 else if(parseS d.text).1.text≠d.name then 11
 else if(atN ts d.name).isSome=true\/(dedup (dZ (fieldsN (parseS d.text).1))).length<(fieldsN (parseS d.text).1).length then 7 else 0
def Bh(ts:List Nd):List Df->List Nd×Int×Int
 |[]=>(ts,((ts.length:Nat):Int),0)
 |d::r=>if Fo ts d=0 then Bh (ts++[(parseS d.text).1]) r else(ts,((ts.length:Nat):Int),Fo ts d)
def dK(l:List Df):List Nd×Int×Int:=if 24<l.length then([],0,4)else Bh [] l
theorem Sg(n:Nat):pgVs (n+1)=pgVs n++[aI (n:Int)]:=by unfold pgVs;rw[List.range_succ,List.map_append];rfl
theorem ZZ{H:dP}{id:Nat}{ts:List Nd}{n i:Nat}{a:aV}(c:atN ts a=none)(b:n=i)(h:H id=.map false (pgKs ts) (pgVs n)):
 cM T H 136 (.mp id) (.d (.str a)) (.d (aI (i:Int)))=⟨.junk,True,[(id,.map false (pgKs ts++[.str a]) (pgVs (n+1)))]⟩:=by
 subst b;unfold cM;simp only[aBb,h,findD_pg,c,Sg];simp[rX,bV,gG]
theorem Yi{H:dP}{ts:List Nd}{id n:Nat}(b:n=ts.length){a:aV}(h:H id=.map false (pgKs ts) (pgVs n)):cZ T H 136 (.mp id) (.d (.str a)) true=⟨.tup [.d (aI (atI ts a)),.d (.bool (atN ts a).isSome)],True,[]⟩:=by
 subst b;unfold atI;cases q:atN ts a with
 |none=>simp[cZ,rY,h,findD_pg,q]
 |some j=>
  have:=pgVs_at (atN_lt q);simp[cZ,rY,h,findD_pg,q,this]
theorem If(s:aV):(fieldsN (parseS s).1).length<=1000000000:=by
 have a:=fieldsL_len (parseS s).1.kids;have b:=weighN_eq (parseS s).1;have c:=weigh_len (l:=(parseS s).1.kids);have d:=qP s;show(fieldsL (parseS s).1.kids).length<=_;omega
theorem Yj{l:List Df}{i:Nat}(h:i<l.length):l.drop i=l[i]::l.drop (i+1):=B6 h
theorem uA{ts:List Nd}{d:Df}{r:List Df}(h:Fo ts d≠0):Bh ts (d::r)=(ts,((ts.length:Nat):Int),Fo ts d):=by rw[Bh,if_neg h]
theorem Ig{ts:List Nd}{d:Df}{r:List Df}(h:Fo ts d=0):Bh ts (d::r)=Bh (ts++[(parseS d.text).1]) r:=by rw[Bh,if_pos h]
theorem Sh(a:List Nd)(t:Nd):pgKs (a++[t])=pgKs a++[.str t.text]:=by unfold pgKs;simp
theorem Yk(l:List Df):Ok prog 170 [gB l] ⟨.tup [.d (pgD (dK l).1),.d (aI (dK l).2.1),.d (aI (dK l).2.2)],false⟩:=by
 refine Aw hT func170 jM (c:=_) rfl ntmps170 bA results170 bA (by rfl) λN X D=>?_;apply aE;simp;apply aE;simp;refine lB (fz:=false) (cs:=[.nl,.mp 14]) 5 0 1078 4 bG ⟨bA,bA,bA,?_⟩;simp;apply aF;apply bF;simp;refine⟨λG=>?_,λG=>?_⟩
 .apply aE;simp;apply aH;simp[dK,pgD,pgKs,pgVs,show 24<l.length by omega]
 .apply aG;simp;apply eT;simp;apply aY;refine bC (ι:=Nat×List Nd) (λ⟨i,b⟩=>bB [(0,.d (gB l)),(2,.bx 2 0),(5,.bx 5 0),(20,.d (gB l)),(21,.d (aI (l.length:Nat))),(22,.d (aI (i:Nat)))]) (λ⟨i,b⟩=>aK [(2,.box false [.nl,.d (.val (.map none))]),(5,.box false [.ow 1078 0 b.length,.mp 14]),(14,.map false (pgKs b) (pgVs b.length)),(1078,.row false 4 (b.map Nd.d))]) (λ⟨i,b⟩=>i<=l.length/\b.length=i/\dK l=Bh b (l.drop i)) (λ⟨i,b⟩=>l.length-i) (0,[]) (aA D [0,2,5,20,21,22] [(2,2),(5,5),(14,14),(1078,1078)] (hH:=by simp[pgKs,pgVs])) (⟨B3 _,rfl,by unfold dK;rw[if_neg aD];rfl⟩) λ⟨i,b⟩ y=>?_;obtain⟨J,f,a⟩:=y;have k:H5 i (G7 Nd.d b)=G7 Nd.d b:=A9 (by rw[F0,f];exact B0 _);apply aE;simp;apply aF;apply aM;simp;refine⟨λH=>?_,λH=>?_⟩
  .apply aG;simp;apply eE;apply aF;have C:i<l.length:=aD;obtain⟨d,B⟩:∃d,l[i]=d:=⟨_,rfl⟩;rw[Yj C,B]at a;apply aJ;simp[C,B];apply aF;have A:=wX d.text;obtain⟨P,w⟩:∃P,parseS d.text=P:=⟨_,rfl⟩;have q:=qP d.text;have s:=If d.text;rw[w]at A q s;obtain⟨x,E⟩:∃x,P.1=x:=⟨_,rfl⟩;have g:Fo b d=if P.2.2≠0 then P.2.2 else if P.1.text≠d.name then 11 else if(atN b d.name).isSome=true\/(dedup (dZ (fieldsN P.1))).length<(fieldsN P.1).length then 7 else 0:=by unfold Fo;rw[w]
   rw[E]at A q s g;refine bH (og 30 (.plain ⟨.tup [.d x.d,.d (aI P.2.1),.d (aI P.2.2)],false⟩)) ?_;simp[bM];refine⟨by simpa using A,?_⟩;apply aF;apply bF;simp;refine⟨λt=>?_,λt=>?_⟩
   .have j:Fo b d=P.2.2:=(by rw[g,if_pos t]);rw[uA (by rw[j];exact t),j]at a;apply aE;simp;apply aH;simp[a,pgD,f,k]
   .have v:¬P.2.2≠0:=by simpa using t
    rw[if_neg v]at g;apply aG;simp;apply aF;apply bF;simp;refine⟨λn=>?_,λn=>?_⟩
    .have j:Fo b d=11:=by rw[g,if_pos (by simpa using n)]
     rw[uA (by rw[j];decide),j]at a;apply aE;simp;apply aH;simp[a,pgD,f,k]
    .have r:¬x.text≠d.name:=by simpa using n
     rw[if_neg r]at g;apply aG;simp;apply aF;have F:=fields_ok x q;simp at F;refine bH (og 47 (.plain ⟨.own 1 ((fieldsN x).map .str),true⟩)) ?_;simp;refine⟨by simpa using F,?_⟩;apply aF;have M:=Ad (fieldsN x) aD;refine bH (og 49 (.gen ⟨[(47,0)],[],[],[(0,.row false 1 ((dZ (fieldsN x)).map .str))],.tup []⟩)) ?_;simp;refine⟨by simpa using M,?_⟩;apply eT;simp[Yi (ts:=b) rfl,bM];apply aF;by_cases m:(atN b d.name).isSome=true
     .refine Ar hT hW (λ_=>none) (by intro d;first|exact⟨rfl,λ_ h=>h⟩|(split<;>exact⟨rfl,λ_ h=>h⟩)) ?_;simp[m];have j:Fo b d=7:=by rw[g,if_pos (.inl m)]
      rw[uA (by rw[j];decide),j]at a;apply aM;simp[m];apply aE;simp;apply aH;simp[a,pgD,f,k]
     .have o:atN b d.name=none:=by simpa using m
      have p:=kF (fieldsN x);have K:=CloneStr_ok (dZ (fieldsN x)) aD;have L:=CompactStr_ok (dZ (fieldsN x)) aD;have I:=dedup_length (dZ (fieldsN x));have z:H5 (fieldsN x).length (G7 DV.str (dZ (fieldsN x)))=G7 DV.str (dZ (fieldsN x)):=A9 (by rw[F0,p];exact B0 _);refine bH (λ|61=>some<| .plain ⟨.own 1 ((dZ (fieldsN x)).map .str),true⟩|62=>some (.gen ⟨[(61,0)],[],[],[(0,.row false 1 ((dedup (dZ (fieldsN x))).map .str++List.replicate ((dZ (fieldsN x)).length-(dedup (dZ (fieldsN x))).length) (.str [])))],.ow 0 0 (dedup (dZ (fieldsN x))).length⟩)|_=>none) ?_;simp[o,p,z];refine⟨⟨by simpa using K,by simpa [p]using L⟩,?_⟩;apply aM;simp;refine⟨λu=>?_,λu=>?_⟩
      .have j:Fo b d=7:=(by rw[g,if_pos (.inr aD)]);rw[uA (by rw[j];decide),j]at a;apply aE;simp;apply aH;simp[a,pgD,f,k]
      .have j:Fo b d=0:=by rw[g,if_neg (by rintro(h|h);exact m h;omega)]
       rw[Ig j,w,E]at a;apply aG;simp;refine fF.rd [[77,78,1078],[77,78,1078],[5,77,78,1078],[5,77,78,1078],[77],[77],[],[],[],[5,77,78,1078]] [[],[],[],[],[],[],[],[77],[78,1078],[],[],[5],[14]] (λ_=>none) ?_;simp[ZZ (ts:=b) o f];refine⟨⟨aD,aD⟩,?_⟩;apply aJ;simp;refine⟨aD,?_⟩;refine Oe.mk (i+1,b++[x]) (aA D [0,2,5,20,21,22] [(2,2),(5,5),(14,14),(78,1078)] (hH:=by simp[Sh,n])) ?_ ?_
       .exact⟨aD,by simp[f],a⟩
       .omega
  .apply bQ;simp;apply aE;simp;apply aH;have e:i=l.length:=aD;rw[e,List.drop_length,Bh]at a;rw[e]at k;simp[a,pgD,f,e,k]
theorem KG:∀(l:List Df) (a:List Nd),(∀t∈a,∃s,t=(parseS s).1)->(∀t∈(Bh a l).1,∃s,t=(parseS s).1)/\a.length<=(Bh a l).1.length/\(Bh a l).1.length<=a.length+l.length/\((Bh a l).2.2=0->(Bh a l).1.length=a.length+l.length/\(Bh a l).2.1=((a.length+l.length:Nat):Int))
 |[],a,h=>⟨h,B0 _,B0 _,λ_=>⟨rfl,rfl⟩⟩
 |d::r,a,h=>by
  by_cases e:Fo a d=0
  .rw[Ig e];obtain⟨f,g,i,c⟩:=KG r (a++[(parseS d.text).1]) λt b=>by
    rcases F1.1 b with b|b
    .exact h t b
    .exact⟨d.text,by simpa using b⟩
   simp only[A2,D1,C0]at g i c|-;refine⟨f,aD,aD,λe=>?_⟩;obtain⟨k,j⟩:=c e;exact⟨aD,by rw[j];congr 1;omega⟩
  .rw[uA e];exact⟨h,B0 _,bA,λh=>absurd h e⟩
theorem uB(l:List Df):(∀t∈(dK l).1,∃s,t=(parseS s).1)/\(dK l).1.length<=24/\((dK l).2.2=0->l.length<=24/\(dK l).1.length=l.length/\(dK l).2.1=(l.length:Int)):=by
 unfold dK;by_cases h:24<l.length
 .rw[if_pos h];exact⟨bA,bA,λh=>by simp at h⟩
 .rw[if_neg h];obtain⟨b,d,c,a⟩:=KG l [] bA;simp only[C0,D6]at c a;exact⟨b,aD,λe=>⟨aD,(a e).1,(a e).2⟩⟩
theorem Si(M:List Nat){H:dP}{k:Nat}:cZ T H 155 (.d (.mp (nkD M) (trD M))) (.d (aI (k:Int))) false=⟨.d (.bool (decide (k∈M))),True,[]⟩:=look_nat M rfl
def EQ(k:Int):Bool:=decide (k=14)
def Ih(ts:List Nd)(i:Nat):Bool:=decide (misN ts (ts.getD i default)≠0)
def Ii(ts:List Nd)(i:Nat):Bool:=decide (i∈reachI ts EQ i)
def eP(p:Nat->Bool)(n:Nat):Option Nat:=(G8 n).find? p
theorem wY{p:Nat->Bool}{n i:Nat}(g:i<n)(h:∀j<i,p j=false)(a:p i=true):eP p n=some i:=by
 unfold eP;rw[List.find?_eq_some_iff_append];refine⟨a,G8 i,(G8 (n-i-1)).map (·+(i+1)),?_,λj b=>by simp[h j (G9.1 b)]⟩;apply List.ext_getElem
 .simp;omega
 .intro k d f;rw[List.getElem_range,List.getElem_append];split
  .simp
  .rename_i c;simp only[E2,Nat.not_lt]at c;rw[List.getElem_cons];split
   .rename_i e;simp only[E2]at e;omega
   .rename_i e;simp only[E2]at e;simp;omega
theorem wZ{p:Nat->Bool}{n:Nat}(h:∀j<n,p j=false):eP p n=none:=by
 unfold eP;rw[List.find?_eq_none];intro j a;simp[h j (G9.1 a)]
def iV(l:List Df):List Nd×Int×Int:=
 if(dK l).2.2≠0 then dK l
 else match eP (Ih (dK l).1) (dK l).1.length with
  |some i=>((dK l).1,(i:Int),misN (dK l).1 ((dK l).1.getD i default))
  |none=>match eP (Ii (dK l).1) (dK l).1.length with
   |some i=>((dK l).1,(i:Int),13)
   |none=>((dK l).1,(l.length:Int),0)
theorem ER(l:List Df):Ok prog 97 [gB l] ⟨.tup [.d (pgD (iV l).1),.d (aI (iV l).2.1),.d (aI (iV l).2.2)],false⟩:=by
 refine Aw hT func97 jM (c:=_) rfl ntmps97 bA results97 bA (by rfl) λP X y=>?_;obtain⟨R,L⟩:∃R,dK l=R:=⟨_,rfl⟩;obtain⟨a,w⟩:∃a,R.1=a:=⟨_,rfl⟩;have H:=Yk l;have x:=uB l;have b:iV l=if(dK l).2.2≠0 then dK l else match eP (Ih (dK l).1) (dK l).1.length with|some i=>((dK l).1,(i:Int),misN (dK l).1 ((dK l).1.getD i default))|none=>match eP (Ii (dK l).1) (dK l).1.length with|some i=>((dK l).1,(i:Int),13)|none=>((dK l).1,(l.length:Int),0):=rfl
 rw[L]at H x b;rw[w]at H x b;have G:∀t∈a,weighN t<=1000000000:=λt v=>by obtain⟨s,rfl⟩:=x.1 t v;exact qP s
 have J:a.length<=24:=x.2.1;apply aE;simp;refine dF (og 14 (.plain ⟨.tup [.d (pgD a),.d (aI R.2.1),.d (aI R.2.2)],false⟩)) ?_;simp[bM];refine⟨⟨by simpa using H,by simp[pgD]⟩,?_⟩;simp[pgD];apply aF;apply bF;simp;refine⟨λA=>?_,λA=>?_⟩
 .rw[if_pos A]at b;apply aE;simp;apply aH;simp[b,w,pgD]
 .have r:R.2.2=0:=by simpa using A
  obtain⟨M,N,_⟩:=x.2.2 r;rw[if_neg (by simpa using r)]at b;apply aG;simp;apply eT;simp;apply aY;refine bC (ι:=Nat) (λi=>bB [(0,.d (gB l)),(2,.bx 2 0),(5,.bx 5 0),(24,.d (ndsD a)),(25,.d (aI (a.length:Nat))),(26,.d (aI (i:Nat)))]) (λi=>aK [(2,.box false [.nl,.d (.val (.map none))]),(5,.box false [.d (ndsD a),.d (.mp (pgKs a) (pgVs a.length))])]) (λi=>i<=a.length/\∀j<i,Ih a j=false) (λi=>a.length-i) 0 (aA y [0,2,5,24,25,26] [(2,2),(5,5)]) (⟨B3 _,λj h=>absurd h (E9 _)⟩) λi q=>?_;apply aE;simp;apply aF;apply aM;simp;refine⟨λK=>?_,λK=>?_⟩
  .apply aG;simp;apply eE;apply aF;have o:i<a.length:=aD;obtain⟨t,v⟩:∃t,a[i]=t:=⟨_,rfl⟩;have F:t∈a:=by rw[<-v];exact E5 o
   have g:a.getD i default=t:=(by rw[C6,A4 o,v];rfl);have u:Ih a i=decide (misN a t≠0):=by unfold Ih;rw[g]
   have O:=misused_ok a t (G t F) G;apply aJ;simp[o,v];refine dF (og 33 (.plain ⟨.d (aI (misN a t)),true⟩)) ?_;simp;refine⟨by simpa [pgD]using O,?_⟩;apply bF;simp;refine⟨λB=>?_,λB=>?_⟩
   .have C:=wY o q.2 (by rw[u];simpa using B);rw[C]at b;simp only[g]at b;apply aE;simp;apply aH;simp[b,pgD]
   .have d:Ih a i=false:=by rw[u];simpa using B
    apply aG;simp;apply aJ;simp;refine⟨aD,?_⟩;refine Oe.mk (i+1) (aA y [0,2,5,24,25,26] [(2,2),(5,5)]) ?_ ?_
    .refine⟨aD,λj f=>?_⟩;rcases E4.1 f with f|rfl
     .exact q.2 j f
     .exact d
    .omega
  .apply bQ;simp;apply fL;have D:=wZ (p:=Ih a) (n:=a.length) λj f=>q.2 j aD;rw[D]at b;apply aJ;simp;apply aY;refine bC (ι:=Nat) (λi=>bB [(0,.d (gB l)),(2,.bx 2 0),(5,.bx 5 0),(42,.d (aI (a.length:Nat))),(43,.d (aI (i:Nat)))]) (λi=>aK [(2,.box false [.nl,.d (.val (.map none))]),(5,.box false [.d (ndsD a),.d (.mp (pgKs a) (pgVs a.length))])]) (λi=>i<=a.length/\∀j<i,Ii a j=false) (λi=>a.length-i) 0 (aA y [0,2,5,42,43] [(2,2),(5,5)]) (⟨B3 _,λj h=>absurd h (E9 _)⟩) λi e=>?_;apply aE;simp;apply aF;apply aM;simp;refine⟨λz=>?_,λz=>?_⟩
   .apply aG;simp;apply eE;apply aE;simp;apply aF;have o:i<a.length:=aD;have I:=reached_ok a EQ 172 i G (λk=>check1_ok k) o;refine bH (og 48 (.plain ⟨.d (.mp (nkD (reachI a EQ i)) (trD (reachI a EQ i))),false⟩)) ?_;simp[Si (reachI a EQ i)];refine⟨by simpa [pgD]using I,?_⟩;apply aM;simp;refine⟨λm=>?_,λm=>?_⟩
    .have C:=wY o e.2 (by simpa [Ii]using m);rw[C]at b;apply aE;simp;apply aH;simp[b,pgD]
    .have d:Ii a i=false:=by simpa [Ii]using m
     apply aG;simp;apply aJ;simp;refine⟨aD,?_⟩;refine Oe.mk (i+1) (aA y [0,2,5,42,43] [(2,2),(5,5)]) ?_ ?_
     .refine⟨aD,λj f=>?_⟩;rcases E4.1 f with f|rfl
      .exact e.2 j f
      .exact d
     .omega
   .apply bQ;simp;apply aE;simp;apply aH;have E:=wZ (p:=Ii a) (n:=a.length) λj f=>e.2 j aD;rw[E]at b;simp[b,pgD]
def zA(a b:aV):Int:=if Op.bytesLess a b=true then -1 else if a=b then 0 else 1
theorem Ij{a b:aV}:zA a b<0↔Op.bytesLess a b=true:=by
 unfold zA;by_cases c:Op.bytesLess a b=true
 .rw[if_pos c];simp[c]
 .rw[if_neg c];split<;>simp[c]
def gX(out:List Df)(x:Df):List Df:=iP (kQ (λy=>Op.bytesLess x.name y.name) out out.length) x out
def bR(l:List Df):List Df:=l.foldl gX []
theorem KH(a:List Df)(x:Df):(gX a x).length=a.length+1:=tL
theorem fQ(l:List Df):(bR l).length=l.length:=by
 have:∀(l a:List Df),(l.foldl gX a).length=a.length+l.length:=λl=>by
  induction l with
  |nil=>intro a;rfl
  |cons x r ih=>intro a;rw[B5,ih,KH,D1];omega
 rw[bR,this];simp
theorem ES{l:List Df}{i:Nat}(h:i<l.length):bR (l.take (i+1))=gX (bR (l.take i)) l[i]:=by
 unfold bR;rw[B2 h,C4];rfl
def iK(A o t:List Df)(x:Df)(j:Nat):List Df:=A++(iP j x o++t)
theorem xA{A o t:List Df}{x:Df}{j:Nat}:(iK A o t x j).length=A.length+o.length+1+t.length:=by
 unfold iK;rw[A2,A2,tL];omega
theorem PY{A o t:List Df}{x:Df}{j:Nat}(b:j<=o.length)(h:A.length+j<(iK A o t x j).length):(iK A o t x j)[A.length+j]=x:=by
 have a:(iK A o t x j)[A.length+j]? =some x:=by
  unfold iK iP;rw[A1 aD,A0,A8 kH,A1 kH];simp[Nat.min_eq_left b]
 rw[A4 h]at a;exact Option.some.inj a
theorem GS{A o t:List Df}{x:Df}{j:Nat}(b:j<o.length)(h:A.length+j<(iK A o t x (j+1)).length):(iK A o t x (j+1))[A.length+j]=o[j]:=by
 have a:(iK A o t x (j+1))[A.length+j]? =some o[j]:=by
  unfold iK iP;rw[A1 aD,A0,A8 kH,A8 kH,List.getElem?_take_of_lt aD,A4 b]
 rw[A4 h]at a;exact Option.some.inj a
theorem GT{A o t:List Df}{x:Df}{j:Nat}(a:j<o.length):((iK A o t x (j+1)).set (A.length+(j+1)) o[j]).set (A.length+j) x=iK A o t x j:=by
 unfold iK iP;have c:o.take (j+1)=o.take j++[o[j]]:=B2 a;have d:o.drop j=o[j]::o.drop (j+1):=B6 a;have b:(o.take j).length=j:=kH;rw[c,d];rw[A3 _ _ aD,A0,A3 _ _ aD,A0];congr 1;simp only[B4,D3,C8];rw[A3 _ _ aD,b,show j+1-j=1 by omega,A3 _ _ aD,b,H6];rfl
theorem Wi{A o t s:List Df}{x:Df}{a j:Nat}(b:A.length=a)(e:s=iK A o t x j)(c:j<=o.length)(h:a+j<s.length):s[a+j]=x:=by
 subst e;subst b;exact PY c h
theorem Nq{A o t s:List Df}{x:Df}{a j:Nat}(b:A.length=a)(e:s=iK A o t x (j+1))(c:j<o.length)(h:a+j<s.length):s[a+j]=o[j]:=by
 subst e;subst b;exact GS c h
def Is{α:Type}(a b:α):Prop:=a=b
theorem CC(s:aV):Ok prog 153 [.str s] ⟨.d (.bool false),true⟩:=by
 refine bU func153 rfl ntmps153 results153 λb X a=>?_;apply aE;simp;apply aE;simp;apply aH;simp
theorem Sj(a b:aV):Ok prog 84 [.str a,.str b] ⟨.d (aI (zA a b)),true⟩:=by
 refine bU func84 rfl ntmps84 results84 λh X g=>?_;apply aE;simp;refine dF (og 8 (.plain ⟨.d (.bool false),true⟩)) ?_;simp;refine⟨CC a,?_⟩;refine dF (og 10 (.plain ⟨.d (.bool false),true⟩)) ?_;simp;refine⟨CC b,?_⟩;apply aF;apply bF;simp;apply aG;simp;apply aF;apply bF;simp;apply aG;simp;apply aF;apply bF;simp;refine⟨λd=>?_,λd=>?_⟩
 .apply aE;simp;apply aH;simp[zA,d]
 .apply aG;simp;apply aF;apply bF;simp;refine⟨λc f=>?_,λc=>?_⟩
  .apply aE;simp;apply aH;simp[zA,d,f]
  .apply aG;simp;apply aE;simp;apply aH;have e:=c d;subst e;simp[zA,d]
theorem Ba(a b:Df):Ok prog 83 [a.d,b.d] ⟨.d (aI (zA a.name b.name)),true⟩:=by
 refine bU func83 rfl ntmps83 results83 λd X c=>?_;apply aE;simp;refine dF (og 9 (.plain ⟨.d (aI (zA a.name b.name)),true⟩)) ?_;simp;refine⟨Sj _ _,?_⟩;apply aH;simp
theorem ET(A C D:List Df)(V:(A++C++D).length<=1000000):mH prog 226 [.ow 0 0 (A++C++D).length,.d (aI A.length),.d (aI (A.length+C.length)),.d (.fn 83 [])] [(0,.row false 2 ((A++C++D).map Df.d))] [(0,.row false 2 ((A++bR C++D).map Df.d))] (.tup []):=by
 obtain⟨N,K⟩:∃N,(A++C++D).length=N:=⟨_,rfl⟩;obtain⟨a,m⟩:∃a,A.length=a:=⟨_,rfl⟩;have I:A++C++D=A++(bR (C.take 1)++(C.drop 1++D)):=by cases C<;>simp[bR,gX,iP,kQ]
 rw[K]at V|-;rw[m];have v:a+C.length+D.length=N:=by rw[<-K,<-m];simp;omega
 refine oX func226 rfl ntmps226 results226 λw0 X k=>?_;apply aE;simp;refine⟨aD,?_⟩;apply aY;refine bC (ι:=Nat×List Df) (λ⟨i,r⟩=>bB [(0,.ow 0 0 N),(1,.d (aI a)),(2,.d (aI (a+C.length))),(3,.d (.fn 83 [])),(8,.d (aI (a+i)))]) (λ⟨i,r⟩=>aK [(0,.row false 2 (r.map Df.d))]) (λ⟨i,r⟩=>1<=i/\i<=C.length+1/\r=A++(bR (C.take i)++(C.drop i++D))) (λ⟨i,r⟩=>C.length+1-i) (1,A++C++D) (aA k [0,1,2,3,8] [(0,0)]) (⟨aD,aD,I⟩) λ⟨i,r⟩ g=>?_;apply aF;apply bF;simp;refine⟨λQ=>?_,λQ=>?_⟩
 .apply aG;simp;refine bI (ι:=List Df) (λs=>bB [(0,.ow 0 0 N),(1,.d (aI a)),(2,.d (aI (a+C.length))),(3,.d (.fn 83 [])),(8,.d (aI (a+i)))]) (λs=>aK [(0,.row false 2 (s.map Df.d))]) (λs=>Is s (A++(bR (C.take (i+1))++(C.drop (i+1)++D)))) ?_ λs w=>?_
  .apply aY;apply aF;have L:i<C.length:=aD;obtain⟨g,B,F⟩:=g;obtain⟨x,M⟩:∃x,C[i]=x:=⟨_,rfl⟩;obtain⟨o,E⟩:∃o,bR (C.take i)=o:=⟨_,rfl⟩;have c:o.length=i:=by rw[<-E,fQ,A6];omega
   obtain⟨t,J⟩:∃t,C.drop (i+1)++D=t:=⟨_,rfl⟩;have z:C.drop i=x::C.drop (i+1):=by rw[<-M];exact B6 L
   have H:r=iK A o t x i:=by
    have O:o.take i=o:=A9 (by rw[c];exact B0 _);have P:o.drop i=[]:=C1 (by rw[c];exact B0 _);rw[F,E,z,<-J];unfold iK iP;rw[O,P];simp
   have f:∀j,(iK A o t x j).length=N:=λj=>by rw[xA,<-v,<-J,c,m,A2,B7];omega
   have d:∀j,j<=i->kQ (λy=>Op.bytesLess x.name y.name) o i=j->iK A o t x j=A++(bR (C.take (i+1))++(C.drop (i+1)++D)):=λj _ U=>by
    rw[ES L,E,M];unfold gX iK;rw[c,U,<-J]
   apply aJ;simp;apply aY;refine bC (ι:=Nat×List Df) (λ⟨j,s⟩=>bB [(0,.ow 0 0 N),(1,.d (aI a)),(2,.d (aI (a+C.length))),(3,.d (.fn 83 [])),(8,.d (aI (a+i))),(9,.d (aI (a+j)))]) (λ⟨j,s⟩=>aK [(0,.row false 2 (s.map Df.d))]) (λ⟨j,s⟩=>j<=i/\s=iK A o t x j/\kQ (λy=>Op.bytesLess x.name y.name) o i=kQ (λy=>Op.bytesLess x.name y.name) o j) (λ⟨j,s⟩=>j) (i,r) (aA k [0,1,2,3,8,9] [(0,0)]) (⟨B0 _,H,rfl⟩) λ⟨j,s⟩ b=>?_;apply fL;rcases j with _|j
   .refine fF.rd [] [[],[],[],[],[],[],[],[],[],[],[],[],[],[],[32]] (λ_=>none) ?_;simp[B3];apply aM;simp[B3];apply bQ;simp;refine Xv.mk s (aA k [0,1,2,3,8] [(0,0)]) ?_;exact b.2.1.trans (d 0 (B3 _) (by rw[b.2.2];rfl))
   .have p:a+(j+1)<s.length:=by rw[b.2.1,f];have:=b.1;omega
    have h:j<o.length:=by have:=b.1;omega
    have u:s[a+(j+1)]=x:=Wi m b.2.1 aD p;have q:s[a+j]=o[j]:=Nq m b.2.1 h aD;refine fF.rd [] [[],[],[],[],[],[],[],[],[],[],[],[],[],[],[32]] (og 32 (.plain ⟨.d (aI (zA s[a+(j+1)].name s[a+j].name)),true⟩)) ?_;simp[p,(show a+j<s.length by omega),(show(a:Int)<(a:Int)+((j:Int)+1)by omega),(show((a:Int)+((j:Int)+1)).toNat=a+(j+1)by omega),(show a+(j+1)- 1=a+j by omega)];have Y:s.length=N:=by rw[b.2.1,f]
    refine⟨⟨⟨⟨⟨aD,aD⟩,aD⟩,aD⟩,by simpa using Ba s[a+(j+1)] s[a+j]⟩,?_⟩;apply aM;simp;refine⟨λn=>?_,λn=>?_⟩
    .apply aG;simp;apply eE;refine fF.rd [[],[],[0],[0],[0]] [[],[],[],[],[],[],[],[],[],[],[],[],[],[],[],[0],[],[0]] (λ_=>none) ?_;simp[p,(show a+j<s.length by omega),(show((a:Int)+((j:Int)+1)).toNat=a+(j+1)by omega),(show a+(j+1)- 1=a+j by omega)];refine⟨aD,?_⟩;apply aJ;simp;refine⟨aD,?_⟩;refine Oe.mk (j,(s.set (a+(j+1)) s[a+j]).set (a+j) s[a+(j+1)]) (aA k [0,1,2,3,8,9] [(0,0)] (by simp[show(a:Int)+((j:Int)+1)- 1=a+j by omega]) (by simp[E7,Df.d])) ?_ ?_
     .have l:Op.bytesLess x.name o[j].name=true:=Ij.1 (by rw[u,q]at n;exact n);refine⟨zB,?_,?_⟩
      .show(s.set (a+(j+1)) s[a+j]).set (a+j) s[a+(j+1)]=iK A o t x j;rw[u,q,b.2.1,<-m];exact GT h
      .show _=kQ _ o j;rw[b.2.2];exact AB h l
     .omega
    .apply bQ;simp;refine Xv.mk s (aA k [0,1,2,3,8] [(0,0)]) ?_;have l:¬Op.bytesLess x.name o[j].name=true:=λe=>by rw[u,q]at n;have:=Ij.2 e;omega
     exact b.2.1.trans (d (j+1) b.1 (by rw[b.2.2];exact sJ λZ S W=>(by have e:Z=j:=aD;subst e;simpa using l)))
  .apply aJ;simp;refine⟨aD,?_⟩;refine Oe.mk (i+1,s) (aA k [0,1,2,3,8] [(0,0)] (by simp[show(a:Int)+(i:Int)+1=a+((i:Int)+1)by omega])) ?_ ?_
   .exact⟨zB,zB,w⟩
   .omega
 .apply bQ;simp;obtain⟨_,B,F⟩:=g;have G:r=A++(bR C++D):=by rw[F,A9 aD,C1 aD,C8]
  exact aA k [] [(0,0)] (hH:=by simp[G])
theorem GU(out:List Df)(x:Df):(gX out x).Perm (x::out):=by
 unfold gX iP;refine E6.trans ?_;rw[A7]
theorem nO(l:List Df):(bR l).Perm l:=by
 have:∀(l out:List Df),(l.foldl gX out).Perm (out++l):=λl=>by
  induction l with
  |nil=>intro out;rw[C3];exact List.Perm.refl _
  |cons x r ih=>
   intro out;rw[B5];exact(ih _).trans (((GU out x).append_right r).trans (by simpa using(E6 (a:=x) (l₁:=out) (l₂:=r)).symm))
 simpa [bR]using this l []
theorem CD{out:List Df}{x:Df}(h:out.Pairwise λa b=>a.name<=b.name):(gX out x).Pairwise λa b=>a.name<=b.name:=by
 obtain⟨r,s⟩:=rpos_spec (p:=λy:Df=>Op.bytesLess x.name y.name) (out:=out) out.length (B0 _);have q:=Da (p:=λy:Df=>Op.bytesLess x.name y.name) (out:=out) out.length;unfold gX iP;generalize kQ (λy:Df=>Op.bytesLess x.name y.name) out out.length=k at*;have m:∀a∈out.take k,a.name<=x.name:=λa l=>by
  obtain⟨i,n,rfl⟩:=A5 l;rw[B8];rw[A6]at n;obtain⟨d,rfl⟩:∃d,k=d+1:=⟨k-1,aD⟩;have o:i<=d:=aD;have j:d<out.length:=aD;have f:=s d j rfl;rw[bytesLess_eq,decide_eq_false_iff_not,F4]at f;by_cases e:i=d
  .subst e;exact f
  .exact D4 (D9.1 h i d aD j aD) f
 have l:∀b∈out.drop k,x.name<=b.name:=λb m=>by
  obtain⟨i,n,rfl⟩:=A5 m;rw[B9];rw[B7]at n;have f:=r (k+i) aD aD aD;rw[bytesLess_eq,decide_eq_true_eq]at f;exact List.le_of_lt f
 refine List.pairwise_append.2 ⟨h.sublist (G2 _ _),C9.2 ⟨l,h.sublist (G3 _ _)⟩,λa g b c=>?_⟩;rcases F9.1 c with rfl|c
 .exact m a g
 .exact D4 (m a g) (l b c)
theorem pM(l:List Df):(bR l).Pairwise λa b=>a.name<=b.name:=by
 have:∀(l c:List Df),(c.Pairwise λa b=>a.name<=b.name)->(l.foldl gX c).Pairwise λa b=>a.name<=b.name:=λl=>by
  induction l with
  |nil=>exact λc h=>h
  |cons x r ih=>exact λc h=>ih _ (CD h)
 exact this l [] List.Pairwise.nil
theorem PZ{V U:List Df}{i:Nat}(a:i<U.length)(b:i<V.length):(V.take i++U.drop i).set i V[i]=V.take (i+1)++U.drop (i+1):=by
 rw[B6 a,A3 _ _ (by rw[A6];omega),show i-(V.take i).length=0 by rw[A6];omega,B2 b,B4];rfl
theorem rJ{V U:List Df}{i:Nat}(h:V.length=U.length)(a:i<=U.length):(V.take i++U.drop i).length=U.length:=by
 rw[A2,A6,B7];omega
theorem Wj{V U:List Df}{i:Nat}(h:V.length=U.length)(a:i<U.length):(V.take i++U.drop i)[i]? =some U[i]:=by
 rw[A1 (by rw[A6];omega),A6,show i-min i V.length=0 by omega,G0,E8,A4 a]
def mO(A U M V D:List Df)(i:Nat):List Df:=A++((V.take i++U.drop i)++(M++((U.take i++V.drop i)++D)))
section
variable{A U M V D:List Df} {i:Nat}
theorem Sk(h:V.length=U.length)(a:i<=U.length):(mO A U M V D i).length=A.length+U.length+M.length+V.length+D.length:=by
 unfold mO;simp only[A2,A6,B7];omega
theorem Sl(h:V.length=U.length)(a:i<U.length):(mO A U M V D i)[A.length+i]? =some U[i]:=by
 unfold mO;rw[A1 aD,A0,A8 (by rw[rJ h aD];exact a),Wj h a]
theorem Sm(h:V.length=U.length)(a:i<U.length):(mO A U M V D i)[A.length+U.length+M.length+i]? =some (V[i]'aD):=by
 unfold mO;rw[A1 aD,show A.length+U.length+M.length+i-A.length=U.length+(M.length+i)by omega,A1 (by rw[rJ h aD];omega),rJ h aD,A0,
  A1 aD,A0,A8 (by rw[rJ h.symm aD];omega),Wj h.symm aD]
theorem Sn(h:V.length=U.length)(a:i<U.length):((mO A U M V D i).set (A.length+i) (V[i]'aD)).set (A.length+U.length+M.length+i) U[i]=mO A U M V D (i+1):=by
 have b:(mO A U M V D i).set (A.length+i) (V[i]'aD)=A++((V.take (i+1)++U.drop (i+1))++(M++((U.take i++V.drop i)++D))):=by
  unfold mO;rw[A3 _ _ aD,A0,F5 _ _ (by rw[rJ h aD];exact a),PZ a aD]
 rw[b];unfold mO;rw[A3 _ _ aD,show A.length+U.length+M.length+i-A.length=U.length+(M.length+i)by omega,A3 _ _ (by rw[rJ h aD];omega),rJ h aD,A0,
  A3 _ _ aD,A0,F5 _ _ (by rw[rJ h.symm aD];omega),PZ aD a]
end
theorem uK{s:List Df}{k:Nat}{x:Df}(h:s[k]? =some x):∃a:k<s.length,s[k]=x:=List.getElem?_eq_some_iff.1 h
theorem BN(A U M V D:List Df)(a b n N:Nat)(d:V.length=U.length)(j:A.length=a)(k:A.length+U.length+M.length=b)(y:U.length=n)(q:A.length+U.length+M.length+V.length+D.length=N)(x:N<=1000000):mH prog 316 [.ow 0 0 N,.d (aI a),.d (aI b),.d (aI n),.d (.fn 83 [])] [(0,.row false 2 ((A++(U++(M++(V++D)))).map Df.d))] [(0,.row false 2 ((A++(V++(M++(U++D)))).map Df.d))] (.tup []):=by
 have o:A++(U++(M++(V++D)))=mO A U M V D 0:=by simp[mO]
 have g:A++(V++(M++(U++D)))=mO A U M V D n:=by
  unfold mO;rw[A9 aD,A9 aD,C1 aD,C1 aD,C3,C3]
 rw[o,g];refine oX func316 rfl ntmps316 results316 λz X h=>?_;apply aE;simp;apply aY;refine bC (ι:=Nat×List Df) (λ⟨i,r⟩=>bB [(0,.ow 0 0 N),(1,.d (aI a)),(2,.d (aI b)),(3,.d (aI n)),(4,.d (.fn 83 [])),(10,.d (aI i))]) (λ⟨i,r⟩=>aK [(0,.row false 2 (r.map Df.d))]) (λ⟨i,r⟩=>i<=n/\Is r (mO A U M V D i)) (λ⟨i,r⟩=>n-i) (0,mO A U M V D 0) (aA h [0,1,2,3,4,10] [(0,0)]) (⟨B3 _,rfl⟩) λ⟨i,r⟩ f=>?_;apply aF;apply bF;simp;refine⟨λp=>?_,λp=>?_⟩
 .apply aG;simp;apply eE;obtain⟨f,c⟩:=f;have c:r=mO A U M V D i:=c;have t:i<n:=aD;have q1:r[a+i]? =some (U[i]'aD):=by have:=Sl (A:=A) (M:=M) (D:=D) d (show i<U.length by omega);rw[j]at this;rw[c];exact this
  have q2:r[b+i]? =some (V[i]'aD):=by have:=Sm (A:=A) (M:=M) (D:=D) d (show i<U.length by omega);rw[k]at this;rw[c];exact this
  obtain⟨v,l⟩:=uK q1;obtain⟨w,m⟩:=uK q2;have u:r.length=N:=by rw[c,Sk d aD,q]
  refine fF.rd [[],[],[],[],[0],[0],[0],[0]] [[],[],[],[],[],[],[],[],[],[],[],[],[],[],[],[],[],[],[],[],[],[0],[],[0]] (λ_=>none) ?_;simp[v,w,(show((a:Int)+(i:Int)).toNat=a+i by omega),(show((b:Int)+(i:Int)).toNat=b+i by omega)];refine⟨by(repeat' with_reducible apply And.intro)<;>omega,?_⟩;apply aJ;simp;refine⟨aD,?_⟩;refine Oe.mk (i+1,(r.set (a+i) r[b+i]).set (b+i) r[a+i]) (aA h [0,1,2,3,4,10] [(0,0)] (hH:=by simp[E7,Df.d])) ?_ ?_
  .exact⟨zB,by show _=_;rw[l,m,c];subst j;subst k;exact Sn d aD⟩
  .omega
 .apply bQ;simp;obtain⟨s,c⟩:=f;have c:r=mO A U M V D i:=c;have e:i=n:=aD;subst e;exact aA h [] [(0,0)] (hH:=by simp[c])
end
section
attribute[local simp] aR bK bE aO aL aZ aP
attribute[local simp] kJ.cond Nd.d_eq nd_t nd_dr nd_td ndsD aU bL
structure So(T r:List Df)(m i j:Nat)(P X Y S:List Df):Prop where
 here:r=P++(X++(Y++S))
 goal:T=P++(Y++(X++S))
 x:X.length=i
 y:Y.length=j
 at_:P.length+i=m
theorem So.left{T r P X Y S:List Df}{m i j:Nat}(h:So T r m i j P X Y S)(b:j<i):So T (P++(Y++(X.drop j++(X.take j++S)))) m (i-j) j (P++Y) (X.drop j) (X.take j) S:=by
 obtain⟨c,a,d,e,f⟩:=h;refine⟨bA,?_,kH,kH,kH⟩;rw[a];simp only[B4];rw[<-B4 (X.take j) (X.drop j) S,A7]
theorem So.right{T r P X Y S:List Df}{m i j:Nat}(h:So T r m i j P X Y S)(c:i<j):So T (P++(Y.drop (j-i)++(Y.take (j-i)++(X++S)))) m i (j-i) P (Y.drop (j-i)) (Y.take (j-i)) (X++S):=by
 obtain⟨d,a,e,f,b⟩:=h;refine⟨rfl,?_,kH,kH,b⟩;rw[a]
 conv=>lhs;rw[<-A7 (j-i) Y]
 simp only[B4]
theorem Wk(A B C D:List Df)(a m b N:Nat)(G:B≠[])(I:C≠[])(O:A.length=a)(U:a+B.length=m)(Q:m+C.length=b)(M:b+D.length=N)(u:N<=1000000):mH prog 280 [.ow 0 0 N,.d (aI a),.d (aI m),.d (aI b),.d (.fn 83 [])] [(0,.row false 2 ((A++(B++(C++D))).map Df.d))] [(0,.row false 2 ((A++(C++(B++D))).map Df.d))] (.tup []):=by
 obtain⟨T,k⟩:∃T,A++(C++(B++D))=T:=⟨_,rfl⟩;have q:T.length=N:=by rw[<-k];simp only[A2];omega
 have H:0<B.length:=F7.2 G;have J:0<C.length:=F7.2 I;have p:So T (A++(B++(C++D))) m (m-a) (b-m) A B C D:=⟨rfl,k.symm,aD,aD,aD⟩;rw[k];refine oX func280 rfl ntmps280 results280 λZ X o=>?_;apply aE;simp[(show(m:Int)-(a:Int)=((m-a:Nat):Int)by omega)];refine⟨aD,?_⟩;apply aE;simp[(show(b:Int)-(m:Int)=((b-m:Nat):Int)by omega)];refine⟨aD,?_⟩;apply eE;refine bC (ι:=Nat×Nat×List Df) (λ⟨i,j,r⟩=>bB [(0,.ow 0 0 N),(1,.d (aI a)),(2,.d (aI m)),(3,.d (aI b)),(4,.d (.fn 83 [])),(10,.d (aI i)),(11,.d (aI j))]) (λ⟨i,j,r⟩=>aK [(0,.row false 2 (r.map Df.d))]) (λ⟨i,j,r⟩=>0<i/\0<j/\∃P X Y S,So T r m i j P X Y S) (λ⟨i,j,r⟩=>i+j) (m-a,b-m,A++(B++(C++D))) (aA o [0,1,2,3,4,10,11] [(0,0)] (by simp[show(m:Int)-(a:Int)=((m-a:Nat):Int)by omega,show(b:Int)-(m:Int)=((b-m:Nat):Int)by omega])) (⟨aD,aD,A,B,C,D,p⟩) λ⟨i,j,r⟩ s=>?_;apply fL;obtain⟨K,L,P,c,d,S,e⟩:=s;have w:r.length=N:=by rw[e.here,<-q,e.goal];simp only[A2];omega
 have E:P.length+i+j+S.length=N:=by rw[<-w,e.here];simp only[A2,e.x,e.y];omega
 have F:=e.at_;have V:=e.x;have W:=e.y;apply aJ;simp;apply aM;simp;refine⟨λy=>?_,λy=>?_⟩
 .apply aG;simp;apply aY;apply bF;simp;refine⟨λz=>?_,λz=>?_⟩
  .apply aF;have f:(m:Int)-(i:Int)=((P.length:Nat):Int):=aD;have h:=BN P (c.take j) (c.drop j) d S P.length m j N kH rfl kH kH (by simp only[A6,B7];omega) u;have g:P++(c.take j++(c.drop j++(d++S)))=r:=by rw[e.here,<-B4 (c.take j) (c.drop j),A7]
   rw[g]at h;have l:(i:Int)-(j:Int)=((i-j:Nat):Int):=aD;refine bH (oh 31 [(0,.row false 2 ((P++(d++(c.drop j++(c.take j++S)))).map Df.d))] (.tup [])) ?_;simp[f];refine⟨⟨aD,by simpa using h⟩,?_⟩;apply aJ;simp[l];refine⟨aD,?_⟩;refine Oe.mk (i-j,j,P++(d++(c.drop j++(c.take j++S)))) (aA o [0,1,2,3,4,10,11] [(0,0)] (by simp[l])) ?_ ?_
   .exact⟨zB,zB,_,_,_,_,e.left aD⟩
   .dsimp only;omega
  .apply aF;have t:i<j:=aD;have f:(m:Int)-(i:Int)=((P.length:Nat):Int):=aD;have v:(m:Int)+(j:Int)-(i:Int)=((m+(j-i):Nat):Int):=aD;have h:=BN P c (d.take (j-i)) (d.drop (j-i)) S P.length (m+(j-i)) i N kH rfl kH aD (by simp only[A6,B7];omega) u;have g:P++(c++(d.take (j-i)++(d.drop (j-i)++S)))=r:=by rw[e.here,<-B4 (d.take (j-i)) (d.drop (j-i)),A7]
   rw[g]at h;have n:(j:Int)-(i:Int)=((j-i:Nat):Int):=aD;refine bH (oh 46 [(0,.row false 2 ((P++(d.drop (j-i)++(d.take (j-i)++(c++S)))).map Df.d))] (.tup [])) ?_;simp[f,v];refine⟨by(repeat' with_reducible apply And.intro)<;>first|omega|simpa using h,?_⟩;apply aJ;simp[n];refine⟨aD,?_⟩;refine Oe.mk (i,j-i,P++(d.drop (j-i)++(d.take (j-i)++(c++S)))) (aA o [0,1,2,3,4,10,11] [(0,0)] (by simp[n])) ?_ ?_
   .exact⟨zB,zB,_,_,_,_,e.right aD⟩
   .dsimp only;omega
 .apply bQ;simp;have t:i=j:=aD;have f:(m:Int)-(i:Int)=((P.length:Nat):Int):=aD;have h:=BN P c [] d S P.length m i N aD rfl kH aD kH u;have g:P++(c++([]++(d++S)))=r:=by rw[e.here];rfl
  have x:P++(d++([]++(c++S)))=T:=by rw[e.goal];rfl
  rw[g,x]at h;refine bH (oh 57 [(0,.row false 2 (T.map Df.d))] (.tup [])) ?_;simp[f];refine⟨⟨aD,by simpa using h⟩,?_⟩;exact aA o [] [(0,0)]
end
def fV(a b:Df):Prop:=Op.bytesLess a.name b.name=true
instance(a b:Df):Decidable (fV a b):=inferInstanceAs (Decidable (Op.bytesLess a.name b.name=true))
theorem yQ{a b:Df}:fV a b↔a.name<b.name:=by unfold fV;rw[bytesLess_eq,decide_eq_true_eq]
theorem yR{a b:Df}:¬fV a b↔b.name<=a.name:=by rw[yQ,F4]
def dR(l:List Df):Prop:=l.Pairwise λa b=>¬fV b a
def kY(A B:List Df):List Df:=B.foldl gX A
theorem yS{a b c:Df}(d:fV a b)(e:¬fV c b):fV a c:=by
 rw[yQ]at d|-;rw[yR]at e;exact D7 λf=>F4.2 (D4 e (F4.1 f)) d
theorem EU{a b c:Df}(d:¬fV b a)(e:fV b c):fV a c:=by
 rw[yQ]at e|-;rw[yR]at d;exact List.lt_of_le_of_lt d e
theorem yT{a b c:Df}(d:¬fV b a)(e:¬fV c b):¬fV c a:=by
 rw[yR]at d e|-;exact D4 d e
theorem EV{α:Type}{p:α->Bool}{a b:List α}:∀(k:Nat),(∀i<k,a[i]? =b[i]?)->kQ p a k=kQ p b k
 |0,_=>rfl
 |k+1,h=>by
  have c:=h k (Nat.lt_succ_self k);have d:=EV (p:=p) k λi e=>h i aD;simp only[kQ,c,d]
theorem Ik{C A:List Df}{y:Df}(h:∀x∈A,fV y x):gX (C++A) y=gX C y++A:=by
 have c:∀k,k<=A.length->kQ (λz=>Op.bytesLess y.name z.name) (C++A) (C.length+k)=kQ (λz=>Op.bytesLess y.name z.name) C C.length:=by
  intro k;induction k with
  |zero=>intro _;exact EV _ λi d=>A8 d
  |succ k ih=>
   intro e;have b:C.length+k<(C++A).length:=kH;rw[<-E3,AB b,ih aD];have:(C++A)[C.length+k]=A[k]:=by rw[E0 aD];simp
   rw[this];exact h _ (E5 aD)
 have a:=Da (p:=λz:Df=>Op.bytesLess y.name z.name) (out:=C) C.length;unfold gX;rw[A2,c A.length (B0 _)];unfold iP;rw[List.take_append_of_le_length a,List.drop_append_of_le_length a];simp
theorem Dh{C D:List Df}{y:Df}(h:∀c∈C,¬fV y c):gX (C++D) y=C++gX D y:=by
 have l:∀k,k<=D.length->kQ (λz=>Op.bytesLess y.name z.name) (C++D) (C.length+k)=C.length+kQ (λz=>Op.bytesLess y.name z.name) D k:=by
  intro k;induction k with
  |zero=>
   intro _;refine sJ λi j b=>?_;have a:i<C.length:=aD;have:(C++D)[i]=C[i]:=List.getElem_append_left a;rw[this];have:=h _ (E5 a);unfold fV at this;simpa using this
  |succ k ih=>
   intro m;have g:C.length+k<(C++D).length:=kH;have e:(C++D)[C.length+k]=D[k]:=by rw[E0 aD];simp
   by_cases d:Op.bytesLess y.name D[k].name=true
   .rw[<-E3,AB g (by rw[e];exact d),ih aD,AB aD d]
   .rw[sJ (k:=k+1) λi j b=>(by have f:i=k:=aD;subst f;simpa using d)];exact sJ λi j b=>(by have f:i=C.length+k:=aD;subst f;rw[e];simpa using d)
 unfold gX;rw[A2,l D.length (B0 _)];unfold iP;rw[List.take_length_add_append,List.drop_length_add_append];simp
theorem Yl{A B:List Df}{x:Df}:x∈kY A B↔x∈A\/x∈B:=by
 have:∀(B A:List Df),(B.foldl gX A).Perm (A++B):=λB=>by
  induction B with
  |nil=>intro A;rw[C3];exact List.Perm.refl _
  |cons y r ih=>
   intro A;rw[B5];refine(ih _).trans (((GU A y).append_right r).trans ?_);rw[D3];exact E6.symm
 unfold kY;rw[(this B A).mem_iff,F1]
theorem Ym(A B:List Df):(kY A B).length=A.length+B.length:=by
 have:∀(B A:List Df),(B.foldl gX A).length=A.length+B.length:=λB=>by
  induction B with
  |nil=>intro A;rfl
  |cons y r ih=>intro A;rw[B5,ih,KH,D1];omega
 exact this B A
theorem aAa{C A:List Df}:∀{B:List Df},(∀y∈B,∀x∈A,fV y x)->kY (C++A) B=kY C B++A:=by
 intro B;unfold kY;induction B generalizing C with
 |nil=>intro _;rfl
 |cons y r ih=>
  intro h;rw[B5,B5,Ik (h y (D0 ..)),ih λz a=>h z (C7 _ a)]
theorem aAb{C D:List Df}:∀{B:List Df},(∀y∈B,∀c∈C,¬fV y c)->kY (C++D) B=C++kY D B:=by
 intro B;unfold kY;induction B generalizing D with
 |nil=>intro _;rfl
 |cons y r ih=>
  intro h;rw[B5,B5,Dh (h y (D0 ..)),ih λz a=>h z (C7 _ a)]
theorem GV{d f a b:List Df}(h:∀y∈a,∀x∈f,fV y x)(i:∀y∈b,∀c∈d,¬fV y c)(j:∀y∈b,∀c∈a,¬fV y c):kY (d++f) (a++b)=kY d a++kY f b:=by
 have e:kY (d++f) (a++b)=kY (kY (d++f) a) b:=by unfold kY;rw[C4]
 rw[e,aAa h,aAb λy g c k=>(Yl.1 k).elim (i y g c) (j y g c)]
theorem EW(y:Df):gX [] y=[y]:=rfl
theorem Qa{C:List Df}:∀{B:List Df},dR B->(∀y∈B,∀c∈C,¬fV y c)->kY C B=C++B:=by
 intro B;unfold kY;induction B generalizing C with
 |nil=>intro _ _;simp
 |cons y r ih=>
  intro b h;have b:=C9.1 b;have e:gX C y=C++[y]:=by
   have:=Dh (C:=C) (D:=[]) (h y (D0 ..));rw[C3,EW]at this;exact this
  rw[B5,e,ih b.2 λz d c a=>?_]
  .simp
  .rcases F1.1 a with a|a
   .exact h z (C7 _ d) c a
   .simp at a;subst a;exact b.1 z d
theorem Il{B:List Df}(h:dR B):kY [] B=B:=Qa h λ_ _ _ h=>by cases h
theorem EX(A:List Df):kY A []=A:=rfl
theorem nU(l:List Df):dR (bR l):=(pM l).imp λh=>yR.2 h
theorem dR.take{l:List Df}(h:dR l)(k:Nat):dR (l.take k):=h.sublist (G2 _ _)
theorem dR.drop{l:List Df}(h:dR l)(k:Nat):dR (l.drop k):=h.sublist (G3 _ _)
theorem dR.at_{l:List Df}(h:dR l){i j:Nat}(b:i<=j)(c:j<l.length):¬fV l[j] (l[i]'aD):=by
 by_cases e:i=j
 .subst e;intro a;rw[yQ]at a;exact H0 _ a
 .exact D9.1 h i j aD c aD
theorem Yn{x:Df}{B:List Df}{k:Nat}(h:dR B)(m:k<=B.length)(d:k=0\/∃m:k-1<B.length,fV B[k-1] x)(f:k=B.length\/∃m:k<B.length,¬fV B[k] x):kY [x] B=iP k x B:=by
 have e:kY ([]++[x]) (B.take k++B.drop k)=kY [] (B.take k)++kY [x] (B.drop k):=GV (λy b z n=>by
  simp at n;subst n;obtain⟨j,a,rfl⟩:=A5 b;rw[B8];simp at a;rcases d with d|⟨l,d⟩
  .omega
  .exact EU (h.at_ (i:=j) (j:=k-1) aD l) d) (λ_ _ _ h=>by cases h) λy b c g=>by
  obtain⟨j,a,rfl⟩:=A5 b;obtain⟨i,o,rfl⟩:=A5 g;simp at o a;rw[B8,B9];exact h.at_ aD aD
 rw[C8,A7]at e;rw[e,Il (h.take k),Qa (h.drop k) λy b c g=>?_]
 .rfl
 .simp at g;subst g;obtain⟨j,a,rfl⟩:=A5 b;rw[B9];simp at a;rcases f with f|⟨l,f⟩
  .omega
  .exact yT f (h.at_ (i:=k) (j:=k+j) aD aD)
theorem Wl{y:Df}{A:List Df}{k:Nat}(h:dR A)(e:k<=A.length)(a:k=0\/∃e:k-1<A.length,¬fV y A[k-1])(b:k=A.length\/∃e:k<A.length,fV y A[k]):kY A [y]=iP k y A:=by
 show gX A y=_
 conv=>lhs;rw[<-A7 k A]
 rw[Ik λx m=>?_]
 .have:=Dh (C:=A.take k) (D:=[]) (y:=y) λc f=>by
   obtain⟨i,g,rfl⟩:=A5 f;rw[B8];simp at g;rcases a with a|⟨d,a⟩
   .omega
   .exact yT (h.at_ (i:=i) (j:=k-1) aD d) a
  rw[C3,EW]at this;rw[this];unfold iP;simp
 .obtain⟨j,l,rfl⟩:=A5 m;rw[B9];simp at l;rcases b with b|⟨d,b⟩
  .omega
  .exact yS b (h.at_ (i:=k) (j:=k+j) aD aD)
theorem Yo{A B:List Df}(l:dR A)(h:dR B){i j:Nat}(o:i<=A.length)(r:j<=B.length)(a:i=0\/j=B.length\/∃(a:i-1<A.length) (b:j<B.length),¬fV B[j] A[i-1])
 (b:j=0\/i=A.length\/∃(a:j-1<B.length) (b:i<A.length),fV B[j-1] A[i]):kY A B=kY (A.take i) (B.take j)++kY (A.drop i) (B.drop j):=by
 conv=>lhs;rw[<-A7 i A,<-A7 j B]
 refine GV (λy f x n=>?_) (λy f c k=>?_) (λy f c k=>?_)
 .obtain⟨p,d,rfl⟩:=A5 f;obtain⟨q,e,rfl⟩:=A5 n;simp at d e;rw[B8,B9];rcases b with b|b|⟨g,m,b⟩
  .omega
  .omega
  .exact yS (EU (h.at_ (i:=p) (j:=j-1) aD g) b) (l.at_ (i:=i) (j:=i+q) aD aD)
 .obtain⟨p,d,rfl⟩:=A5 f;obtain⟨q,e,rfl⟩:=A5 k;simp at d e;rw[B8,B9];rcases a with a|a|⟨g,m,a⟩
  .omega
  .omega
  .exact yT (yT (l.at_ (i:=q) (j:=i-1) aD g) a) (h.at_ (i:=j) (j:=j+p) aD aD)
 .obtain⟨p,d,rfl⟩:=A5 f;obtain⟨q,e,rfl⟩:=A5 k;simp at d e;rw[B8,B9];exact h.at_ aD aD
theorem oV{Z:List Df}(h:dR Z)(y:Df):gX Z y=Z.filter (λz=> !decide (fV y z))++y::Z.filter λz=>decide (fV y z):=by
 induction Z with
 |nil=>rfl
 |cons z r ih=>
  have h:=C9.1 h;by_cases d:fV y z
  .have a:∀x∈z::r,fV y x:=λx b=>by
    rcases F9.1 b with rfl|b
    .exact d
    .exact yS d (h.1 x b)
   have f:(z::r).filter (λz=> !decide (fV y z))=[]:=C2.2 λx b=>by simp[a x b]
   have g:(z::r).filter (λz=>decide (fV y z))=z::r:=F8.2 λx b=>by simp[a x b]
   have:=Ik (C:=[]) a;rw[C8,EW]at this;rw[this,f,g];rfl
  .have:=Dh (C:=[z]) (D:=r) (y:=y) λc e=>by simp at e;subst e;exact d
   rw[List.singleton_append]at this;rw[this,ih h.2];simp[d]
theorem KI{Z:List Df}(h:dR Z)(y:Df):Z.filter (λz=> !decide (fV y z))++Z.filter (λz=>decide (fV y z))=Z:=by
 induction Z with
 |nil=>rfl
 |cons z r ih=>
  have h:=C9.1 h;by_cases c:fV y z
  .have a:∀x∈z::r,fV y x:=λx b=>by
    rcases F9.1 b with rfl|b
    .exact c
    .exact yS c (h.1 x b)
   rw[C2.2 λx b=>by simp[a x b],F8.2 λx b=>by simp[a x b]];rfl
  .have d:(z::r).filter (λz=> !decide (fV y z))=z::r.filter (λz=> !decide (fV y z)):=(by simp[c]);have e:(z::r).filter (λz=>decide (fV y z))=r.filter (λz=>decide (fV y z)):=(by simp[c]);rw[d,e,D3,ih h.2]
theorem pN{Z:List Df}(h:dR Z)(y:Df):dR (gX Z y):=by
 have c:Z.Pairwise λa b=>a.name<=b.name:=h.imp λh=>yR.1 h;exact(CD c).imp λh=>yR.2 h
theorem Sp{Z:List Df}(h:dR Z){y c:Df}(d:fV y c):gX (gX Z y) c=gX (gX Z c) y:=by
 have f:¬fV c y:=λa=>by
  rw[yQ]at d a;exact H0 _ (H4 d a)
 have e:∀z,fV c z->fV y z:=λz o=>by
  rw[yQ]at*;exact H4 d o
 rw[oV (pN h y),oV (pN h c),oV h y,oV h c];simp only[List.filter_append,List.filter_cons,List.filter_filter,f,d,decide_true,decide_false,Bool.not_true,Bool.not_false,if_true,Bool.false_eq_true,if_false];have g:Z.filter (λz=> !decide (fV c z)&& !decide (fV y z))=Z.filter λz=> !decide (fV y z):=C5 λz _=>by by_cases b:fV c z<;>by_cases a:fV y z<;>simp[b,a];exact a (e z b)
 have i:Z.filter (λz=> !decide (fV y z)&& !decide (fV c z))=Z.filter λz=> !decide (fV y z):=C5 λz _=>by by_cases b:fV c z<;>by_cases a:fV y z<;>simp[b,a];exact a (e z b)
 have j:Z.filter (λz=>decide (fV c z)&& !decide (fV y z))=[]:=C2.2 λz _=>by by_cases b:fV c z<;>by_cases a:fV y z<;>simp[b,a];exact a (e z b)
 have k:Z.filter (λz=> !decide (fV y z)&&decide (fV c z))=[]:=C2.2 λz _=>by by_cases b:fV c z<;>by_cases a:fV y z<;>simp[b,a];exact a (e z b)
 have l:Z.filter (λz=>decide (fV c z)&&decide (fV y z))=Z.filter λz=>decide (fV c z):=C5 λz _=>by by_cases b:fV c z<;>by_cases a:fV y z<;>simp[b,a];exact a (e z b)
 have m:Z.filter (λz=>decide (fV y z)&&decide (fV c z))=Z.filter λz=>decide (fV c z):=C5 λz _=>by by_cases b:fV c z<;>by_cases a:fV y z<;>simp[b,a];exact a (e z b)
 have n:Z.filter (λz=>decide (fV y z)&& !decide (fV c z))=Z.filter λz=> !decide (fV c z)&&decide (fV y z):=C5 λz _=>by by_cases b:fV c z<;>by_cases a:fV y z<;>simp[b,a]
 simp[g,i,j,k,l,m,n]
theorem KJ{X:List Df}(h:dR X):∀(C:List Df),dR (kY X C):=λC=>by
 unfold kY;induction C generalizing X with
 |nil=>exact h
 |cons y r ih=>exact ih (pN h y)
theorem KK{y:Df}:∀{G X:List Df},dR X->(∀c∈G,fV y c)->kY (gX X y) G=gX (kY X G) y
 |[],_,_,_=>rfl
 |c::r,X,h,hG=>by
  show kY (gX (gX X y) c) r=gX (kY (gX X c) r) y;rw[Sp h (hG c (D0 ..)),KK (pN h c) λz a=>hG z (C7 _ a)]
theorem Wm{X C:List Df}(b:dR X)(a:dR C)(y:Df):kY X (gX C y)=gX (kY X C) y:=by
 have e:∀A B:List Df,kY X (A++B)=kY (kY X A) B:=λA B=>by unfold kY;rw[C4]
 rw[oV a y,e]
 conv=>rhs;rw[<-KI a y,e]
 exact KK (KJ b _) λc d=>by have:=(List.mem_filter.1 d).2;simpa using this
theorem Sq{X:List Df}(a:dR X)(C:List Df):kY X (bR C)=kY X C:=by
 have:∀n,n<=C.length->kY X (bR (C.take n))=kY X (C.take n):=λn=>by
  induction n with
  |zero=>intro _;rfl
  |succ n ih=>
   intro b;rw[ES aD,Wm a (nU _),ih aD,B2 aD];unfold kY;rw[C4];rfl
 have h:=this C.length (B0 _);rw[G4]at h;exact h
theorem Sr(A B:List Df):kY (bR A) (bR B)=bR (A++B):=by
 rw[Sq (nU A)];unfold kY bR;rw[C4]
section
attribute[local simp] aR bK bE aO aL aZ aP
attribute[local simp] kJ.cond Nd.d_eq nd_t nd_dr nd_td ndsD aU bL
theorem Wn{x:Int}(a:0<=x)(h:x<18446744073709551616):IntKind.u64.wrap x=x:=by
 unfold IntKind.wrap;simp[IntKind.bits,IntKind.signed];omega
theorem Wo{x:Int}(a:0<=x)(h:x<9223372036854775808):IntKind.i64.wrap x=x:=by
 unfold IntKind.wrap;simp[IntKind.bits,IntKind.signed];omega
theorem Di{x:Int}{n w:Nat}(b:x=(n:Int))(c:n<9000000000000000000)(a:n / 2=w):IntKind.i64.wrap ((IntKind.u64.wrap x).fdiv (2^min 1 IntKind.u64.bits))=(w:Int):=by
 subst b;rw[Wn aD aD,show(2:Int)^min 1 IntKind.u64.bits=2 by decide,show((n:Int)).fdiv 2=((n / 2:Nat):Int)by rw[Int.fdiv_eq_ediv_of_nonneg _ aD];rfl,a];exact Wo aD aD
theorem KL{A o t:List Df}{x:Df}{j:Nat}(a:j<=o.length):(iK A o t x j)[A.length+j]? =some x:=by
 rw[A4 (by rw[xA];omega),PY a]
theorem Ss{A o t:List Df}{x:Df}{j:Nat}(a:j<o.length):(iK A o t x (j+1))[A.length+j]? =some o[j]:=by
 rw[A4 (by rw[xA];omega),GS a]
theorem St{A o t:List Df}{x:Df}{j:Nat}(a:j<o.length):(iK A o t x j)[A.length+(j+1)]? =some o[j]:=by
 unfold iK iP;rw[A1 aD,A0,A8 kH,A1 kH,A6,show j+1-min j o.length=1 by omega,List.getElem?_cons_succ,G0,E8,A4 a]
theorem Nr{A o t:List Df}{x:Df}{j:Nat}(a:j<o.length):((iK A o t x j).set (A.length+j) o[j]).set (A.length+(j+1)) x=iK A o t x (j+1):=by
 unfold iK iP;have c:o.take (j+1)=o.take j++[o[j]]:=B2 a;have d:o.drop j=o[j]::o.drop (j+1):=B6 a;have b:(o.take j).length=j:=kH;rw[c,d];rw[A3 _ _ aD,A0,A3 _ _ aD,A0];congr 1;simp only[B4,D3,C8];rw[A3 _ _ aD,b,H6,A3 _ _ aD,b,show j+1-j=1 by omega];rfl
def GW(P B C S:List Df)(a m b N:Nat):Prop:=
 mH prog 227 [.ow 0 0 N,.d (aI a),.d (aI m),.d (aI b),.d (.fn 83 [])] [(0,.row false 2 ((P++(B++(C++S))).map Df.d))] [(0,.row false 2 ((P++(kY B C++S)).map Df.d))] (.tup [])
structure aAc(P B C S:List Df)(a m b N:Nat):Prop where
 hB:0<B.length
 hC:0<C.length
 sB:dR B
 sC:dR C
 ha:P.length=a
 hm:a+B.length=m
 hb:m+C.length=b
 hN:b+S.length=N
 hl:N<=1000000
theorem Im{a b:Df}:zA a.name b.name<0↔fV a b:=Ij
theorem aAP(P B C S:List Df){a m b:Nat}(e:P.length=a)(g:a+B.length=m)(f:m+C.length=b):(∀c,∀d:c<B.length,(P++(B++(C++S)))[a+c]? =some B[c])/\∀c,∀d:c<C.length,(P++(B++(C++S)))[m+c]? =some C[c]:=by
 subst e;subst g;subst f;refine⟨λc d=>?_,λc d=>?_⟩
 .rw[A1 aD,A0,A8 d,A4 d]
 .rw[A1 aD,show P.length+B.length+c-P.length=B.length+c by omega,A1 aD,A0,A8 d,A4 d]
theorem KM{l:List Df}(h:l.length=1):∃x,l=[x]:=by
 match l,h with
 |[x],_=>exact⟨x,rfl⟩
set_option pp.maxSteps 100000 in
theorem Ns(P B C S:List Df)(a m b N:Nat)(h:aAc P B C S a m b N)(ih:∀P' B' C' S' a' m' b',aAc P' B' C' S' a' m' b' N->B'.length+C'.length<B.length+C.length->GW P' B' C' S' a' m' b' N):mH prog 227 [.ow 0 0 N,.d (aI a),.d (aI m),.d (aI b),.d (.fn 83 [])] [(0,.row false 2 ((P++(B++(C++S))).map Df.d))] [(0,.row false 2 ((P++(kY B C++S)).map Df.d))] (.tup []):=by
 obtain⟨hB,hC,sB,sC,ha,hm,hb,hN,hl⟩:=h;obtain⟨W,Y⟩:=aAP P B C S ha hm hb;obtain⟨L,Q⟩:∃L,P++(B++(C++S))=L:=⟨_,rfl⟩;have g8:L.length=N:=by rw[<-Q];simp only[A2];omega
 obtain⟨T,a4⟩:∃T,P++(kY B C++S)=T:=⟨_,rfl⟩;rw[Q]at W Y|-;rw[a4];refine oX func227 rfl ntmps227 results227 λw0 X F=>?_;apply eT;simp[(show(m:Int)-(a:Int)=((B.length:Nat):Int)by omega)];refine⟨aD,?_⟩;apply aM;simp;refine⟨λh0=>?_,λh0=>?_⟩
 .obtain⟨x,hx⟩:=KM (l:=B) aD;subst hx;have h6:a+1=m:=hm;have ax:=W 0 bA;rw[E8]at ax;obtain⟨kx,ex⟩:=uK ax;have ex:L[a]=x:=ex;apply aE;simp;apply aE;simp;apply eE;refine bC (ι:=Nat×Nat) (λ⟨p,q⟩=>bB [(0,.ow 0 0 N),(1,.d (aI a)),(2,.d (aI m)),(3,.d (aI b)),(4,.d (.fn 83 [])),(10,.d (aI (m+p))),(11,.d (aI (m+q)))]) (λ⟨p,q⟩=>aK [(0,.row false 2 (L.map Df.d))]) (λ⟨p,q⟩=>p<=q/\q<=C.length/\(p=0\/∃hk:p-1<C.length,fV C[p-1] x)/\(q=C.length\/∃hk:q<C.length,¬fV C[q] x)) (λ⟨p,q⟩=>q-p) (0,C.length) (aA F [0,1,2,3,4,10,11] [(0,0)] (by simp[show(b:Int)=(m:Int)+(C.length:Int)by omega])) (⟨B3 _,B0 _,.inl rfl,.inl rfl⟩) λ⟨p,q⟩ c4=>?_;apply aF;apply bF;simp;refine⟨λh3=>?_,λh3=>?_⟩
  .apply aG;simp;apply aY;apply aF;obtain⟨M,H,I,k⟩:=c4;obtain⟨w,hw⟩:∃w,(p+q) / 2=w:=⟨_,rfl⟩;have U:w<C.length:=aD;have aw:=Y w U;obtain⟨kw,ew⟩:=uK aw;have G:zA C[w].name x.name<0↔fV C[w] x:=Im;have hh:IntKind.i64.wrap ((IntKind.u64.wrap ((m:Int)+(p:Int)+((m:Int)+(q:Int)))).fdiv (2^min 1 IntKind.u64.bits))=((m+w:Nat):Int):=Di (n:=2*m+p+q) aD aD aD;obtain⟨z,hz⟩:∃z,C[w]=z:=⟨_,rfl⟩;rw[hz]at ew G;apply aJ;simp[hh];refine⟨aD,?_⟩;apply aF;have V:=Ba z x;refine fF.rd [] [[],[],[],[],[],[],[],[],[],[49]] (og 49 (.plain ⟨.d (aI (zA z.name x.name)),true⟩)) ?_;simp[kw,ew,kx,ex,(show((m:Int)+(w:Int)).toNat=m+w by omega)];refine⟨⟨⟨aD,aD⟩,by simpa using V⟩,?_⟩;apply aM;simp;refine⟨λh5=>?_,λh5=>?_⟩
   .apply aJ;simp;refine⟨aD,?_⟩;refine Oe.mk (w+1,q) (aA F [0,1,2,3,4,10,11] [(0,0)] (by simp[show(m:Int)+(w:Int)+1=(m:Int)+((w:Int)+1)by omega])) ?_ ?_
    .exact⟨zB,H,.inr ⟨zB,by simpa [hz]using G.1 h5⟩,k⟩
    .dsimp only;omega
   .apply aJ;simp;refine Oe.mk (p,w) (aA F [0,1,2,3,4,10,11] [(0,0)]) ?_ ?_
    .exact⟨zB,zB,I,.inr ⟨U,λe=>by have:=G.2 (hz▸e);omega⟩⟩
    .dsimp only;omega
  .apply bQ;simp;apply fL;obtain⟨M,H,I,k⟩:=c4;have b5:p=q:=aD;subst b5;have O:iK P C S x p=T:=by
    rw[<-a4,Yn sC H I k];rfl
   apply aJ;simp;apply aY;refine bC (ι:=Nat×List Df) (λ⟨t,r⟩=>bB [(0,.ow 0 0 N),(1,.d (aI a)),(2,.d (aI m)),(3,.d (aI b)),(4,.d (.fn 83 [])),(10,.d (aI (m+p))),(13,.d (aI (a+t)))]) (λ⟨t,r⟩=>aK [(0,.row false 2 (r.map Df.d))]) (λ⟨t,r⟩=>t<=p/\Is r (iK P C S x t)) (λ⟨t,r⟩=>p-t) (0,L) (aA F [0,1,2,3,4,10,13] [(0,0)]) (⟨B3 _,by show _=_;rw[<-Q];simp[iK,iP]⟩) λ⟨t,r⟩ c5=>?_;apply eT;simp;refine⟨aD,?_⟩;apply aM;simp;refine⟨λh9=>?_,λh9=>?_⟩
   .apply aG;simp;apply eE;obtain⟨b6,d⟩:=c5;have d:r=iK P C S x t:=d;have h7:t<p:=aD;have q1:r[a+t]? =some x:=by have:=KL (A:=P) (o:=C) (t:=S) (x:=x) (j:=t) aD;rw[ha]at this;rw[d];exact this
    have q2:r[a+(t+1)]? =some (C[t]'aD):=by have:=St (A:=P) (o:=C) (t:=S) (x:=x) (j:=t) aD;rw[ha]at this;rw[d];exact this
    obtain⟨k1,e1⟩:=uK q1;obtain⟨k2,e2⟩:=uK q2;have f3:r.length=N:=by rw[d,xA];omega
    refine fF.rd [[],[],[0],[0],[0]] [[],[],[],[],[],[],[],[],[],[],[],[],[],[],[],[0],[],[0]] (λ_=>none) ?_;simp[k1,k2,(show((a:Int)+(t:Int)).toNat=a+t by omega),(show((a:Int)+(t:Int)+1).toNat=a+(t+1)by omega)];refine⟨by(repeat' with_reducible apply And.intro)<;>omega,?_⟩;apply aJ;simp;refine⟨aD,?_⟩;refine Oe.mk (t+1,(r.set (a+t) r[a+(t+1)]).set (a+(t+1)) r[a+t]) (aA F [0,1,2,3,4,10,13] [(0,0)] (by simp[show(a:Int)+(t:Int)+1=(a:Int)+((t:Int)+1)by omega]) (by simp[E7,Df.d])) ?_ ?_
    .exact⟨zB,by
      have q:=Nr (A:=P) (o:=C) (t:=S) (x:=x) (j:=t) aD;rw[ha]at q;show _=_;dsimp only;rw[e1,e2,d];exact q⟩
    .omega
   .apply bQ;simp;apply aH;obtain⟨b6,d⟩:=c5;have d:r=iK P C S x t:=d;have b4:t=p:=aD;subst b4;rw[O]at d;simp;exact aA F [] [(0,0)] (hH:=by simp[d])
 .apply aG;simp;apply eT;simp[(show(b:Int)-(m:Int)=((C.length:Nat):Int)by omega)];refine⟨aD,?_⟩;apply aM;simp;refine⟨λd6=>?_,λd6=>?_⟩
  .obtain⟨y,hy⟩:=KM (l:=C) aD;subst hy;have g9:m+1=b:=hb;have ay:=Y 0 bA;rw[E8]at ay;obtain⟨ky,ey⟩:=uK ay;have ey:L[m]=y:=ey;apply aE;simp;apply aE;simp;apply eE;refine bC (ι:=Nat×Nat) (λ⟨p,q⟩=>bB [(0,.ow 0 0 N),(1,.d (aI a)),(2,.d (aI m)),(3,.d (aI b)),(4,.d (.fn 83 [])),(14,.d (aI (a+p))),(15,.d (aI (a+q)))]) (λ⟨p,q⟩=>aK [(0,.row false 2 (L.map Df.d))]) (λ⟨p,q⟩=>p<=q/\q<=B.length/\(p=0\/∃hk:p-1<B.length,¬fV y B[p-1])/\(q=B.length\/∃hk:q<B.length,fV y B[q])) (λ⟨p,q⟩=>q-p) (0,B.length) (aA F [0,1,2,3,4,14,15] [(0,0)] (by simp[show(m:Int)=(a:Int)+(B.length:Int)by omega])) (⟨B3 _,B0 _,.inl rfl,.inl rfl⟩) λ⟨p,q⟩ a7=>?_;apply aF;apply bF;simp;refine⟨λd7=>?_,λd7=>?_⟩
   .apply aG;simp;apply aY;apply aF;obtain⟨M,H,I,k⟩:=a7;obtain⟨w,hw⟩:∃w,(2*a+p+q) / 2-a=w:=⟨_,rfl⟩;have U:w<B.length:=aD;have aw:=W w U;obtain⟨kw,ew⟩:=uK aw;have G:zA y.name B[w].name<0↔fV y B[w]:=Im;have hh:IntKind.i64.wrap ((IntKind.u64.wrap ((a:Int)+(p:Int)+((a:Int)+(q:Int)))).fdiv (2^min 1 IntKind.u64.bits))=((a+w:Nat):Int):=Di (n:=2*a+p+q) aD aD aD;obtain⟨z,hz⟩:∃z,B[w]=z:=⟨_,rfl⟩;rw[hz]at ew G;apply aJ;simp[hh];refine⟨aD,?_⟩;apply aF;have V:=Ba y z;refine fF.rd [] [[],[],[],[],[],[],[],[],[],[101]] (og 101 (.plain ⟨.d (aI (zA y.name z.name)),true⟩)) ?_;simp[kw,ew,ky,ey,(show((a:Int)+(w:Int)).toNat=a+w by omega)];refine⟨⟨⟨aD,aD⟩,by simpa using V⟩,?_⟩;apply aM;simp;refine⟨λd8=>?_,λd8=>?_⟩
    .apply aJ;simp;refine⟨aD,?_⟩;refine Oe.mk (w+1,q) (aA F [0,1,2,3,4,14,15] [(0,0)] (by simp[show(a:Int)+(w:Int)+1=(a:Int)+((w:Int)+1)by omega])) ?_ ?_
     .exact⟨zB,H,.inr ⟨zB,λe=>by have:=G.2 (by simpa [hz]using e);omega⟩,k⟩
     .dsimp only;omega
    .apply aJ;simp;refine Oe.mk (p,w) (aA F [0,1,2,3,4,14,15] [(0,0)]) ?_ ?_
     .exact⟨zB,zB,I,.inr ⟨U,hz▸G.1 aD⟩⟩
     .dsimp only;omega
   .apply bQ;simp;apply fL;obtain⟨M,H,I,k⟩:=a7;have b5:p=q:=aD;subst b5;have O:iK P B S y p=T:=by
     rw[<-a4,Wl sB H I k];rfl
    apply aJ;simp;apply aY;refine bC (ι:=Nat×List Df) (λ⟨t,r⟩=>bB [(0,.ow 0 0 N),(1,.d (aI a)),(2,.d (aI m)),(3,.d (aI b)),(4,.d (.fn 83 [])),(14,.d (aI (a+p))),(17,.d (aI (a+t)))]) (λ⟨t,r⟩=>aK [(0,.row false 2 (r.map Df.d))]) (λ⟨t,r⟩=>p<=t/\t<=B.length/\Is r (iK P B S y t)) (λ⟨t,r⟩=>t) (B.length,L) (aA F [0,1,2,3,4,14,17] [(0,0)] (by simp[show(m:Int)=(a:Int)+(B.length:Int)by omega])) (⟨H,B0 _,by show _=_;rw[<-Q];simp[iK,iP]⟩) λ⟨t,r⟩ a8=>?_;apply aF;apply bF;simp;refine⟨λd9=>?_,λd9=>?_⟩
    .apply aG;simp;apply eE;obtain⟨f5,b6,d⟩:=a8;have d:r=iK P B S y t:=d;obtain⟨j,rfl⟩:∃j,t=j+1:=⟨t-1,aD⟩;have q1:r[a+(j+1)]? =some y:=by have:=KL (A:=P) (o:=B) (t:=S) (x:=y) (j:=j+1) aD;rw[ha]at this;rw[d];exact this
     have q2:r[a+j]? =some (B[j]'aD):=by have:=Ss (A:=P) (o:=B) (t:=S) (x:=y) (j:=j) aD;rw[ha]at this;rw[d];exact this
     obtain⟨k1,e1⟩:=uK q1;obtain⟨k2,e2⟩:=uK q2;have f3:r.length=N:=by rw[d,xA];simp at hb;omega
     refine fF.rd [[],[],[0],[0],[0]] [[],[],[],[],[],[],[],[],[],[],[],[],[],[],[],[0],[],[0]] (λ_=>none) ?_;simp[k1,k2,(show((a:Int)+((j:Int)+1)).toNat=a+(j+1)by omega),(show((a:Int)+((j:Int)+1)- 1).toNat=a+j by omega),(show(a:Int)+((j:Int)+1)- 1=(a:Int)+(j:Int)by omega),(show((a:Int)+(j:Int)).toNat=a+j by omega)];refine⟨by(repeat' with_reducible apply And.intro)<;>omega,?_⟩;apply aJ;simp;refine⟨aD,?_⟩;refine Oe.mk (j,(r.set (a+(j+1)) r[a+j]).set (a+j) r[a+(j+1)]) (aA F [0,1,2,3,4,14,17] [(0,0)] (by simp[show(a:Int)+((j:Int)+1)- 1=(a:Int)+(j:Int)by omega]) (by simp[E7,Df.d])) ?_ ?_
     .exact⟨zB,zB,by
       have q:=GT (A:=P) (o:=B) (t:=S) (x:=y) (j:=j) aD;rw[ha]at q;show _=_;dsimp only;rw[e1,e2,d];exact q⟩
     .dsimp only;omega
    .apply bQ;simp;apply aH;obtain⟨f5,b6,d⟩:=a8;have d:r=iK P B S y t:=d;have b4:t=p:=aD;subst b4;rw[O]at d;simp;exact aA F [] [(0,0)] (hH:=by simp[d])
  .apply aG;simp;apply aF;obtain⟨c,c6⟩:∃c,(a+b) / 2=c:=⟨_,rfl⟩;have hh:IntKind.i64.wrap ((IntKind.u64.wrap ((a:Int)+(b:Int))).fdiv (2^min 1 IntKind.u64.bits))=(c:Int):=Di (n:=a+b) aD aD c6;obtain⟨K,g,b0,b1⟩:∃K g:Nat,(c<m->K+b=c+m/\g=c)/\(m<=c->K=a/\g=m):=by
    by_cases e:c<m
    .exact⟨c+m-b,c,λ_=>⟨aD,rfl⟩,λ_=>aD⟩
    .exact⟨a,m,λ_=>aD,λ_=>⟨rfl,rfl⟩⟩
   have e9:a<=K/\K<=g/\g<=m/\g<=c/\c+m<=K+b/\(K=a\/K+b=c+m)/\(g=m\/g=c):=by
    by_cases e:c<m
    .have:=b0 e;omega
    .have:=b1 aD;omega
   obtain⟨l1,l2,l3,l4,l5,l6,l7⟩:=e9;apply aJ;simp[hh];refine⟨aD,?_⟩;apply aE;simp;refine⟨aD,?_⟩;apply aE;simp;refine bI (ι:=Unit) (λu=>bB [(0,.ow 0 0 N),(1,.d (aI a)),(2,.d (aI m)),(3,.d (aI b)),(4,.d (.fn 83 [])),(18,.d (aI c)),(19,.d (aI (c+m))),(20,.d (aI K)),(21,.d (aI g))]) (λu=>aK [(0,.row false 2 (L.map Df.d))]) (λu=>True) ?_ λu g5=>?_
   .apply bF;simp;refine⟨λe0=>?_,λe0=>?_⟩
    .have f6:=b0 aD;apply aE;simp;refine⟨aD,?_⟩;apply aJ;simp;exact(aA F [0,1,2,3,4,18,19,20,21] [(0,0)] (by simp[show(c:Int)+(m:Int)-(b:Int)=(K:Int)by omega,show(g:Int)=(c:Int)by omega]))
    .have f6:=b1 aD;apply aE;simp;apply aJ;simp;exact(aA F [0,1,2,3,4,18,19,20,21] [(0,0)] (by simp[show(K:Int)=(a:Int)by omega,show(g:Int)=(m:Int)by omega]))
   .apply aE;simp;refine⟨aD,?_⟩;apply eE;refine bC (ι:=Nat×Nat) (λ⟨f,J⟩=>bB [(0,.ow 0 0 N),(1,.d (aI a)),(2,.d (aI m)),(3,.d (aI b)),(4,.d (.fn 83 [])),(18,.d (aI c)),(19,.d (aI (c+m))),(20,.d (aI f)),(21,.d (aI J)),(22,.d (aI (c+m-1)))]) (λ⟨f,J⟩=>aK [(0,.row false 2 (L.map Df.d))]) (λ⟨f,J⟩=>K<=f/\f<=J/\J<=g/\(f=K\/∃(h1:c-f<C.length) (h2:f-1-a<B.length),¬fV C[c-f] B[f-1-a])/\(J=g\/∃(h1:c-1-J<C.length) (h2:J-a<B.length),fV C[c-1-J] B[J-a])) (λ⟨f,J⟩=>J-f) (K,g) (aA F [0,1,2,3,4,18,19,20,21,22] [(0,0)]) (⟨B0 _,l2,B0 _,.inl rfl,.inl rfl⟩) λ⟨f,J⟩ a9=>?_;apply aF;apply bF;simp;refine⟨λe3=>?_,λe3=>?_⟩
    .apply aG;simp;apply aY;apply aF;obtain⟨M,H,I,k,a5⟩:=a9;obtain⟨w,hw⟩:∃w,(f+J) / 2=w:=⟨_,rfl⟩;have e8:IntKind.i64.wrap ((IntKind.u64.wrap ((f:Int)+(J:Int))).fdiv (2^min 1 IntKind.u64.bits))=(w:Int):=Di (n:=f+J) aD aD hw;have d0:c-1-w<C.length:=aD;have d1:w-a<B.length:=aD;have aC:=Y _ d0;have aB:=W _ d1;rw[show a+(w-a)=w by omega]at aB;obtain⟨kB,eB⟩:=uK aB;obtain⟨kC,eC⟩:=uK aC;obtain⟨z1,b7⟩:∃z,C[c-1-w]=z:=⟨_,rfl⟩;obtain⟨z2,b8⟩:∃z,B[w-a]=z:=⟨_,rfl⟩;have G:zA z1.name z2.name<0↔fV z1 z2:=Im;rw[b7]at eC;rw[b8]at eB;apply aJ;simp[e8];refine⟨aD,?_⟩;apply aF;have V:=Ba z1 z2;refine fF.rd [] [[],[],[],[],[],[],[],[],[],[],[],[169]] (og 169 (.plain ⟨.d (aI (zA z1.name z2.name)),true⟩)) ?_;simp[kB,eB,kC,eC,(show((c:Int)+(m:Int)- 1-(w:Int)).toNat=m+(c-1-w)by omega)];refine⟨by(repeat' with_reducible apply And.intro)<;>first|omega|simpa using V,?_⟩;apply aM;simp;refine⟨λe4=>?_,λe4=>?_⟩
     .apply aJ;simp;refine⟨aD,?_⟩;refine Oe.mk (w+1,J) (aA F [0,1,2,3,4,18,19,20,21,22] [(0,0)]) ?_ ?_
      .exact⟨zB,zB,I,.inr ⟨zB,zB,λe=>by have:=G.2 (by rw[<-b7,<-b8];simpa [show c-(w+1)=c-1-w by omega]using e);omega⟩,a5⟩
      .dsimp only;omega
     .apply aJ;simp;refine Oe.mk (f,w) (aA F [0,1,2,3,4,18,19,20,21,22] [(0,0)]) ?_ ?_
      .exact⟨M,zB,zB,k,.inr ⟨d0,d1,by have:=G.1 aD;rw[<-b7,<-b8]at this;exact this⟩⟩
      .dsimp only;omega
    .apply bQ;simp;apply aF;obtain⟨M,H,I,k,a5⟩:=a9;have f4:f=J:=aD;subst f4;obtain⟨Z,h4⟩:∃Z,c+m-f=Z:=⟨_,rfl⟩;obtain⟨i,hi⟩:∃i,f-a=i:=⟨_,rfl⟩;obtain⟨j,hj⟩:∃j,c-f=j:=⟨_,rfl⟩;have a6:kY B C=kY (B.take i) (C.take j)++kY (B.drop i) (C.drop j):=Yo sB sC aD aD (by
      rcases k with k|⟨g1,g2,g3⟩
      .rcases l6 with l6|l6
       .exact .inl aD
       .exact .inr (.inl aD)
      .exact .inr (.inr ⟨aD,aD,by simpa [<-hi,<-hj,show f-a-1=f-1-a by omega]using g3⟩)) (by
      rcases a5 with a5|⟨g1,g2,g3⟩
      .rcases l7 with l7|l7
       .exact .inr (.inl aD)
       .exact .inl aD
      .exact .inr (.inr ⟨aD,aD,by simpa [<-hi,<-hj,show c-f-1=c-1-f by omega]using g3⟩))
     obtain⟨D,a0⟩:∃D,B.take i=D:=⟨_,rfl⟩;obtain⟨s,a1⟩:∃s,B.drop i=s:=⟨_,rfl⟩;obtain⟨v,a2⟩:∃v,C.take j=v:=⟨_,rfl⟩;obtain⟨E,a3⟩:∃E,C.drop j=E:=⟨_,rfl⟩;have e5:D++s=B:=by rw[<-a0,<-a1,A7]
     have e6:v++E=C:=(by rw[<-a2,<-a3,A7]);have h8:D.length=i:=(by rw[<-a0,A6];omega);have d2:s.length=m-f:=(by rw[<-a1,B7];omega);have d3:v.length=j:=(by rw[<-a2,A6];omega);have i0:E.length=b-Z:=(by rw[<-a3,B7];omega);have f7:dR D:=(by rw[<-a0];exact sB.take i);have f8:dR s:=(by rw[<-a1];exact sB.drop i);have d4:dR v:=(by rw[<-a2];exact sC.take j);have d5:dR E:=(by rw[<-a3];exact sC.drop j);rw[a0,a1,a2,a3]at a6;have c9:L=P++(D++(s++(v++(E++S)))):=by rw[<-Q,<-e5,<-e6];simp
     have c2:P++(kY D v++(kY s E++S))=T:=by rw[<-a4,a6];simp
     have c3:(c:Int)+(m:Int)-(f:Int)=(Z:Int):=aD;apply aJ;simp[c3];refine⟨aD,?_⟩;refine bI (ι:=Unit) (λu2=>bB [(0,.ow 0 0 N),(1,.d (aI a)),(2,.d (aI m)),(3,.d (aI b)),(4,.d (.fn 83 [])),(18,.d (aI c)),(20,.d (aI f)),(24,.d (aI Z))]) (λu2=>aK [(0,.row false 2 ((P++(D++(v++(s++(E++S))))).map Df.d))]) (λu2=>True) ?_ λu2 g6=>?_
     .apply bF;simp;refine⟨λb9 f9=>?_,λb9=>?_⟩
      .have kr:=Wk (P++D) s v (E++S) f m Z N (λe=>by rw[e]at d2;simp at d2;omega) (λe=>by rw[e]at d3;simp at d3;omega) kH aD aD kH hl;have f1:P++D++(s++(v++(E++S)))=L:=by rw[c9];simp
       have f2:P++D++(v++(s++(E++S)))=P++(D++(v++(s++(E++S)))):=bA;rw[f1,f2]at kr;obtain⟨r1,b2⟩:∃r1,P++(D++(v++(s++(E++S))))=r1:=⟨_,rfl⟩;rw[b2]at kr;refine bH (oh 191 [(0,.row false 2 (r1.map Df.d))] (.tup [])) ?_;simp;refine⟨kr,?_⟩;rw[<-b2];exact(aA F [0,1,2,3,4,18,20,24] [(0,0)])
      .have f0:L=P++(D++(v++(s++(E++S)))):=by
        rw[c9];by_cases e:f<m
        .have:v=[]:=B1 (by have:=b9 aD;omega);rw[this];simp
        .have:s=[]:=B1 aD;rw[this];simp
       apply aG;simp;exact(aA F [0,1,2,3,4,18,20,24] [(0,0)] (hH:=by simp[f0]))
     .refine bI (ι:=Unit) (λu3=>bB [(0,.ow 0 0 N),(1,.d (aI a)),(2,.d (aI m)),(3,.d (aI b)),(4,.d (.fn 83 [])),(18,.d (aI c)),(20,.d (aI f)),(24,.d (aI Z))]) (λu3=>aK [(0,.row false 2 ((P++(kY D v++(s++(E++S)))).map Df.d))]) (λu3=>True) ?_ λu3 g7=>?_
      .apply bF;simp;refine⟨λc0 g0=>?_,λc0=>?_⟩
       .have k1:=ih P D v (s++(E++S)) a f c ⟨aD,aD,f7,d4,ha,aD,aD,kH,hl⟩ aD;unfold GW at k1;obtain⟨r2,b3⟩:∃r2,P++(kY D v++(s++(E++S)))=r2:=⟨_,rfl⟩;rw[b3]at k1;simp at k1;refine bH (oh 205 [(0,.row false 2 (r2.map Df.d))] (.tup [])) ?_;simp;refine⟨k1,?_⟩;rw[<-b3];exact(aA F [0,1,2,3,4,18,20,24] [(0,0)])
       .have c7:kY D v=D++v:=by
         by_cases e:a<f
         .have:v=[]:=B1 (by have:=c0 aD;omega);rw[this];simp[EX]
         .have:D=[]:=B1 aD;rw[this,Il d4];rfl
        apply aG;simp;exact(aA F [0,1,2,3,4,18,20,24] [(0,0)] (hH:=by simp[c7]))
      .apply bF;simp;refine⟨λc1 g4=>?_,λc1=>?_⟩
       .have k2:=ih (P++kY D v) s E S c Z b ⟨aD,aD,f8,d5,by rw[A2,Ym];omega,aD,aD,aD,hl⟩ aD;unfold GW at k2;rw[show P++kY D v++(kY s E++S)=T by rw[<-c2];simp]at k2;simp at k2;refine bH (oh 219 [(0,.row false 2 (T.map Df.d))] (.tup [])) ?_;simp;refine⟨k2,?_⟩;exact aA F [] [(0,0)]
       .have c8:kY s E=s++E:=by
         by_cases e:c<Z
         .have:E=[]:=B1 (by have:=c1 aD;omega);rw[this];simp[EX]
         .have:s=[]:=B1 aD;rw[this,Il d5];rfl
        apply aG;simp;have e7:T=P++(kY D v++(s++(E++S))):=by rw[<-c2,c8];simp
        exact aA F [] [(0,0)] (hH:=by simp[e7])
end
end Go.Eng
