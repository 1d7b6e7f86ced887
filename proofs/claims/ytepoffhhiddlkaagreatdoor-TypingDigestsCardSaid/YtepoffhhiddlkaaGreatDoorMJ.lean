/- Part 10 of the proof. No condition. -/
import Derived.Test.YtepoffhhiddlkaaGreatDoorMI
import Derived.Shelf.SortM.Plain
import Derived.Shelf.SortM.SortNone
import Derived.Shelf.SlGeneric
import Derived.Test.YtepoffhhiddlkaaGreatDoorProg
open Go.Proofs
open Go.Proofs.Tryz
set_option linter.unusedVariables false
set_option linter.unusedSimpArgs false
set_option maxRecDepth 20000
set_option maxHeartbeats 4000000
open List renaming getElem?_append_right→A1,length_append→A2,set_append_right→A3,getElem?_eq_getElem→A4,getElem_of_mem→A5,length_take→A6,take_append_drop→A7,getElem?_append_left→A8,take_of_length_le→A9,eq_nil_of_length_eq_zero→B1,take_succ_eq_append_getElem→B2,append_assoc→B4,foldl_cons→B5,drop_eq_getElem_cons→B6,length_drop→B7,getElem_take→B8,getElem_drop→B9,length_nil→C0,drop_of_length_le→C1,filter_eq_nil_iff→C2,append_nil→C3,foldl_append→C4,filter_congr→C5,getD_eq_getElem?_getD→C6,mem_cons_of_mem→C7,nil_append→C8,pairwise_cons→C9,mem_cons_self→D0,length_cons→D1,exists_cons_of_length_pos→D2,cons_append→D3,le_trans→D4,pairwise_iff_getElem→D9,getElem_append_right→E0,size_toArray→E1,length_range→E2,getElem_mem→E5,perm_middle→E6,map_set→E7,length_map→F0,mem_append→F1,length_singleton→F2,not_lt→F4,set_append_left→F5,mergeSort_perm→F6,length_pos_iff→F7,filter_eq_self→F8,mem_cons→F9,getElem?_drop→G0,take_sublist→G2,drop_sublist→G3,take_length→G4,map→G7,range→G8,mem_range→G9,lt_irrefl→H0,lt_trans→H4,take→H5
open Nat renaming add_sub_cancel_left→A0,le_refl→B0,zero_le→B3,mul_le_mul_right→D5,zero_add→D6,add_assoc→E3,lt_succ_iff_lt_or_eq→E4,add_zero→E8,not_lt_zero→E9,succ_mul→G1,reduceAdd→H1,reducePow→H2,reduceMul→H3,sub_self→H6
open Int renaming tdiv_nonneg→G5
open Option renaming map_some→G6
open Array renaming getElem?_eq_getElem→D8,getElem?_modify→F3
open Classical renaming byContradiction→D7
namespace Go.Eng
section
attribute[local simp] aW bJ bE aR
attribute[local simp] lB.cond Nd.d_eq nd_t nd_dr nd_td ndsD aX bO nG Int.add_assoc dL Ef Eg Eh ML jP
def SJ(L:List Int)(g:FuncId)(d:Nat)(b:Nat)(x:Nat->Nd×Nat):Prop:=∀j,j<=b->iP prog g [.bx 0 0,.d (aJ (d:Nat))] (jP L j) (jP L (x j).2) (.d (x j).1.d)
structure SmS where
 c:Nat
 ks:List Nd
 j:Nat
theorem Vo{L:List Int}{b:Nat->Nd×Nat}{m:Nat}{a:List Nd}{j:Nat}(h:m=0\/L.length<=j):somesM L b m a j=(a,j):=by
 cases m with
 |zero=>rfl
 |succ m=>
  unfold somesM;rw[if_pos aE]
theorem Zy{L:List Int}{a:Nat->Nd×Nat}{m:Nat}{b:List Nd}{j:Nat}(c:0<m)(h:j<L.length):somesM L a m b j=somesM L a (m-1) (b++[(a j).1]) (a j).2:=by
 obtain⟨k,rfl⟩:∃k,m=k+1:=⟨m-1,aE⟩;rw[somesM,if_neg aE];rfl
theorem PY(L:List Int)(d i:Nat)(a:Nat->Nd×Nat)(r:Nj L)(u:L.length<=1000000)(b:Nat)(A:i<=b)(z:b<=1800000)(s:SJ L 223 d (b+40000) a)(k:∀j,(a j).2<=j+10000):iP prog 278 [.bx 0 0,.d (aJ (d:Nat))] (jP L i) (jP L (someM L a i).2) (.d (someM L a i).1.d):=by
 unfold jP;refine fJ func278 rfl ntmps278 results278 λC X l=>?_;apply aD;simp;apply aD;simp;refine iU (fz:=false) (cs:=[.d (aJ 8),.d (.str []),.d (aJ 0),.nl]) 5 3 1034 4 bF ⟨bC,bC,bC,?_⟩;simp;apply aF;have o:=fT L i 4 r aE bF;have B:=cC L i 4 bF;obtain⟨n,p⟩:∃n:Nat,eA L i 4=(n:Int):=⟨(eA L i 4).toNat,aE⟩;have m:someM L a i=(.mk 8 [] 0 (somesM L a n [] (i+1)).1,(somesM L a n [] (i+1)).2):=by unfold someM;simp only[];rw[p];rfl
 rw[p]at o;refine aU (oh 10 (jP L (i+1)) (.d (aJ (n:Nat)))) ?_;simp;refine⟨by simpa using o,?_⟩;apply dA;simp;apply aM;refine aO (ι:=SmS) (λ⟨c,f,j⟩=>aQ [(0,.bx 0 0),(1,.d (aJ (d:Nat))),(4,.bx 4 0),(5,.bx 5 0),(6,.d (aJ (n:Nat))),(7,.d (aJ (c:Nat)))]) (λ⟨c,f,j⟩=>aL [(0,.box false [.d (.sl (L.map aJ)),.d (aJ (j:Nat))]),(4,.box false [.d (aJ 0),.d (.str []),.d (aJ 0),.nl]),(5,.box false [.d (aJ 8),.d (.str []),.d (aJ 0),.ow 1034 0 f.length]),(1034,.row false 4 (f.map Nd.d))]) (λ⟨c,f,j⟩=>c<=n/\j<=i+1+c*10000/\f.length<=c/\somesM L a n [] (i+1)=somesM L a (n-c) f j) (λ⟨c,f,j⟩=>n-c) ⟨0,[],i+1⟩ (aA l [0,1,4,5,6,7] [(0,0),(4,4),(5,5),(1034,1034)]) (⟨B3 _,aE,B0 _,rfl⟩) λ⟨c,f,j⟩ h=>?_;apply eG;refine fL.rd [] [] (λ_=>none) ?_;simp;apply aK;simp;refine⟨λw y=>?_,λg=>?_⟩
 .apply aG;simp;apply cR;have v:=s j (by have:=h.2.1;omega);have t:=h.2.2.1;refine fL.rd [[0,33],[0,33]] [[],[],[],[],[0],[33],[34,1034],[],[5]] (oh 32 (jP L (a j).2) (.d (a j).1.d)) ?_;simp;refine⟨by(repeat' with_reducible apply And.intro)<;>first|omega|(simpa using v),?_⟩;apply aI;simp;refine⟨aE,?_⟩;refine QT.mk ⟨c+1,f++[(a j).1],(a j).2⟩ (aA l [0,1,4,5,6,7] [(0,0),(4,4),(5,5),(34,1034)]) ?_ ?_
  .refine⟨(show c+1<=n by omega),?_,?_,?_⟩
   .have:=k j;show(a j).2<=i+1+(c+1)*10000;omega
   .show(f++[(a j).1]).length<=c+1;rw[A2,F2];omega
   .rw[h.2.2.2,Zy aE aE];rfl
  .show n-(c+1)<n-c;omega
 .apply bG;simp;apply aD;simp;apply aH;simp;have e:someM L a i=(.mk 8 [] 0 f,j):=by rw[m,h.2.2.2,Vo (by rcases Nat.lt_or_ge c n with q|q;exact .inr (by have:=g aE;omega);exact .inl aE)]
  refine bH (x:=(someM L a i).1.d) (by simp[e]) ?_;simp;exact aA l [0] [(0,0)] (hH:=by simp[e])
structure NdN where
 x:Nd
 j:Nat
def PZ(L:List Int)(d i:Nat):Int:=if d=0/\(9+eA L i 17=11\/9+eA L i 17=12)then 24 else 9+eA L i 17
def yZ(L:List Int)(bl:Nat->Nd×Nat)(k:Int)(i:Nat):Nd×Nat:=
 if k=9 then(.mk k (ownM L i) 0 [(valueM L 2 (i+1)).1],(valueM L 2 (i+1)).2)
 else if k=10 then(.mk k [] 0 [(placeM L i).1,(valueM L 2 (placeM L i).2).1],(valueM L 2 (placeM L i).2).2)
 else if k=11\/k=12 then
  (if k=11 then(if eA L (bl (valueM L 1 i).2).2 2=0 then(.mk k [] 0 [(valueM L 1 i).1,(bl (valueM L 1 i).2).1,(bl ((bl (valueM L 1 i).2).2+1)).1],(bl ((bl (valueM L 1 i).2).2+1)).2)else(.mk k [] 0 [(valueM L 1 i).1,(bl (valueM L 1 i).2).1],(bl (valueM L 1 i).2).2+1))
  else(.mk k [] 0 [(valueM L 1 i).1,(bl (valueM L 1 i).2).1],(bl (valueM L 1 i).2).2))
 else if k=13\/k=14\/k=17\/k=18 then(.mk k (callM L i) 0 [],i+1)
 else if k=15\/k=22 then(.mk k (callM L i) 0 [(valueM L 1 (i+1)).1],(valueM L 1 (i+1)).2)
 else if k=16\/k=23 then(.mk k (callM L i) 0 [.mk 33 (ownM L (i+1)) 0 []],i+2)
 else if k=19 then(.mk k (ownM L i) (2+eA L (i+1) 5) [],i+2)
 else if k=20 then(.mk k (ownM L i) 0 [],i+1)
 else if k=21 then(.mk k [] (1+eA L i 9) [],i+1)
 else if k=25 then(.mk k [] (1+eA L i 99) [],i+1)
 else(.mk k [] 0 [(valueM L 2 i).1],(valueM L 2 i).2)
theorem gX{L:List Int}{d i:Nat}{a:Nat->Nd×Nat}{k:Int}(b:PZ L d i=k):oneB L d a i=yZ L a k (i+1):=by subst b;rfl
theorem wH{L:List Int}{d i:Nat}{k:Int}(a:PZ L d i=k):9<=k/\k<=25/\(k=11\/k=12->0<d):=by
 subst a;have h:=cC L i 17 bF;unfold PZ;split<;>omega
theorem aBK{c:Prop}[Decidable c]{f:Nat->bI}{l:DV}{a b:Int}{x:Nat}(h:f 0=.box false [.d l,.d (aJ b)]):
 cA f (if c then [(0,.box false [.d l,.d (aJ a)])]else []) x=if x=0 then .box false [.d l,.d (aJ (if c then a else b))]else f x:=by
 by_cases d:c
 .simp only[d,if_true,cA,cK]
 .simp only[d,if_false,cA];split
  .rename_i e;rw[e];exact h
  .rfl
theorem SK{L:List Int}{d i C:Nat}{bl:Nat->Nd×Nat}(b:∀j,(bl j).2<=j+C):(oneB L d bl i).2<=i+40+2*C:=by
 rw[gX rfl];have c:=λj=>Cx L 1 j;have a:=λj=>Cx L 2 j;have n:=Cw L (i+1);unfold yZ;have e:=c (i+1);have f:=c (i+2);have g:=a (i+1);have h:=a (i+2);have k:=a (placeM L (i+1)).2;have l:=b (valueM L 1 (i+1)).2;have m:=b ((bl (valueM L 1 (i+1)).2).2+1);simp only[E3,H1,H2,H3]at*;split
 .simp only;omega
 .split
  .simp only;omega
  .split
   .split
    .split<;>simp only<;>omega
    .simp only;omega
   .split
    .simp only;omega
    .split
     .simp only;omega
     .split
      .simp only;omega
      .split
       .simp only;omega
       .split
        .simp only;omega
        .split
         .simp only;omega
         .split<;>simp only<;>omega
theorem IY(L:List Int)(d i:Nat)(s:Nat->Nd×Nat)(n:Nj L)(p:L.length<=1000000)(m:Nat)(hi:i<=m)(hm:m<=1800000)(hd:d<=1000)(hB:∀e,d=e+1->SJ L 278 e (m+30000) s)(a3:∀j,(s j).2<=j+20000):iP prog 223 [.bx 0 0,.d (aJ (d:Nat))] (jP L i) (jP L (oneB L d s i).2) (.d (oneB L d s i).1.d):=by
 unfold jP;refine fJ func223 rfl ntmps223 results223 λw0 X h=>?_;apply aD;simp;apply aF;have ha:=fT L i 17 n aE bF;have hr:=cC L i 17 bF;refine aU (oh 8 (jP L (i+1)) (.d (aJ (eA L i 17)))) ?_;simp;refine⟨by(repeat' with_reducible apply And.intro)<;>first|omega|(simpa using ha),?_⟩;refine aY (ι:=KC) (λ⟨k⟩=>aQ [(0,.bx 0 0),(1,.d (aJ (d:Nat))),(4,.bx 4 0),(5,.bx 5 0)]) (λ⟨k⟩=>aL [(0,.box false [.d (.sl (L.map aJ)),.d (aJ ((i+1:Nat):Int))]),(4,.box false [.d (aJ 0),.d (.str []),.d (aJ 0),.nl]),(5,.box false [.d (aJ k),.d (.str []),.d (aJ 0),.nl])]) (λ⟨k⟩=>PZ L d i=k) ?_ λ⟨k⟩ f=>?_
 .apply aD;simp;refine⟨λa b=>⟨a,b⟩,?_⟩;apply aK;simp;refine⟨λg1 g2=>?_,λg=>?_⟩
  .apply aI;simp;refine aAV.mk ⟨24⟩ (aA h [0,1,4,5] [(0,0),(4,4),(5,5)]) ?_;unfold PZ;rw[if_pos ⟨aE,aE⟩]
  .apply aG;simp;refine aAV.mk ⟨9+eA L i 17⟩ (aA h [0,1,4,5] [(0,0),(4,4),(5,5)]) ?_;unfold PZ;rw[if_neg aE]
 .refine aY (ι:=NdN) (λ⟨x,j⟩=>aQ [(0,.bx 0 0),(1,.d (aJ (d:Nat))),(4,.bx 4 0),(5,.bx 5 0)]) (λ⟨x,j⟩=>aL [(0,.box false [.d (.sl (L.map aJ)),.d (aJ (j:Nat))]),(4,.box false [.d (aJ 0),.d (.str []),.d (aJ 0),.nl]),(5,.box false [.d (aJ x.kind),.d (.str x.text),.d (aJ x.n),.d (ndsD x.kids)])]) (λ⟨x,j⟩=>oneB L d s i=(x,j)) ?_ λ⟨x,j⟩ y=>?_
  .apply aD;simp;apply aM;apply aP;simp;refine⟨λh5=>?_,λh5=>?_⟩
   .apply aF;have l:=Cv L (i+1) n aE;refine aU (oh 29 (jP L (i+2)) (.d (.str (ownM L (i+1))))) ?_;simp;refine⟨by simpa using l,?_⟩;have r:=uY L n p 2 (i+2) aE;refine aU (oh 32 (jP L (valueM L 2 (i+2)).2) (.d (valueM L 2 (i+2)).1.d)) ?_;simp;refine⟨by simpa using r,?_⟩;refine iT (bV 5 [33] (fz:=false) (cs:=[.d (aJ k),.d (.str (ownM L (i+1))),.d (aJ (0)),.ow 33 0 1]) (ds:=[aJ k,.str (ownM L (i+1)),aJ (0),.sl [((valueM L 2 (i+2)).1).d]]) bC bC bC (by simp[bI.mut])) ?_;simp;refine aAV.mk ⟨.mk k (ownM L (i+1)) (0) [(valueM L 2 (i+2)).1],(valueM L 2 (i+2)).2⟩ (aA h [0,1,4,5] [(0,0),(4,4),(5,5)]) ?_;rw[gX f];unfold yZ;repeat(first|rw[if_pos aE]|rw[if_neg aE])
   .apply aP;simp;refine⟨λh8=>?_,λh8=>?_⟩
    .apply aF;have a4:=Zx L (i+1) n aE;have a9:=Cw L (i+1);refine aU (oh 38 (jP L (placeM L (i+1)).2) (.d (placeM L (i+1)).1.d)) ?_;simp;refine⟨by simpa using a4,?_⟩;have r:=uY L n p 2 (placeM L (i+1)).2 aE;refine fL.rd [[0]] [[],[],[0],[42],[],[5]] (oh 41 (jP L (valueM L 2 (placeM L (i+1)).2).2) (.d (valueM L 2 (placeM L (i+1)).2).1.d)) ?_;simp;refine⟨⟨by simpa using r,bF⟩,?_⟩;refine iT (bV 5 [42] (fz:=false) (cs:=[.d (aJ k),.d (.str ([])),.d (aJ (0)),.ow 42 0 2]) (ds:=[aJ k,.str ([]),aJ (0),.sl [((placeM L (i+1)).1).d,((valueM L 2 (placeM L (i+1)).2).1).d]]) bC bC bC (by simp[bI.mut])) ?_;simp;refine aAV.mk ⟨.mk k ([]) (0) [(placeM L (i+1)).1,(valueM L 2 (placeM L (i+1)).2).1],(valueM L 2 (placeM L (i+1)).2).2⟩ (aA h [0,1,4,5] [(0,0),(4,4),(5,5)]) ?_;rw[gX f];unfold yZ;repeat(first|rw[if_pos aE]|rw[if_neg aE])
    .refine aY (ι:=BC) (λ⟨b⟩=>aQ [(0,.bx 0 0),(1,.d (aJ (d:Nat))),(4,.bx 4 0),(5,.bx 5 0),(25,.d (aJ (k))),(44,.d (.bool b))]) (λ⟨b⟩=>aL [(0,.box false [.d (.sl (L.map aJ)),.d (aJ ((i+1:Nat):Int))]),(4,.box false [.d (aJ 0),.d (.str []),.d (aJ 0),.nl]),(5,.box false [.d (aJ k),.d (.str []),.d (aJ 0),.nl])]) (λ⟨b⟩=>b=true↔(k=11\/k=12)) ?_ λ⟨b⟩ t=>?_
     .apply aP;simp;refine⟨λH=>?_,λH=>?_⟩
      .apply aG;simp;refine aAV.mk ⟨decide (k=11)⟩ (aA h [0,1,4,5,25,44] [(0,0),(4,4),(5,5)]) ?_;simp[H]
      .apply aI;simp;refine aAV.mk ⟨decide (k=12)⟩ (aA h [0,1,4,5,25,44] [(0,0),(4,4),(5,5)]) ?_;simp only[decide_eq_true_eq];omega
     .apply aK;simp;refine⟨λz=>?_,λz=>?_⟩
      .have Y:=t.1 z;apply aF;obtain⟨e,Q⟩:∃e,d=e+1:=⟨d-1,by have:=(wH f).2.2 Y;omega⟩;have O:=hB e Q;subst Q;have r:=uY L n p 1 (i+1) aE;have tv:=Cx L 1 (i+1);obtain⟨a,D⟩:∃a,a=valueM L 1 (i+1):=⟨_,rfl⟩;rw[<-D]at r tv;have V:=O a.2 aE;obtain⟨b,E⟩:∃b,b=s a.2:=⟨_,rfl⟩;have tb:=a3 a.2;rw[<-E]at V tb;have W:=O (b.2+1) aE;obtain⟨c,P⟩:∃c,c=s (b.2+1):=⟨_,rfl⟩;rw[<-P]at W;have a5:=fT L b.2 2 n aE bF;have ez:((e:Int)+1)- 1=e:=aE;refine aU (oh 48 (jP L a.2) (.d a.1.d)) ?_;simp;refine⟨by simpa using r,?_⟩;apply aF;refine fL.rd [[0,57],[0,57]] [[],[],[],[],[],[0],[57],[58,49],[],[5]] (oh 56 (jP L b.2) (.d b.1.d)) ?_;simp[ez];refine⟨by(repeat' with_reducible apply And.intro)<;>first|omega|(simpa using V)|decide,?_⟩;refine cP (oh 65 (jP L (b.2+1)) (.d (aJ (eA L b.2 2)))) ?_;simp[aBK (b:=(b.2:Int))];refine⟨λ_=>by simpa using a5,?_⟩;apply aK;simp;refine⟨λG g4=>?_,λG=>?_⟩
       .simp only[if_pos G];refine fL.rd [[0,74],[0,74]] [[],[],[],[],[],[0],[74],[75,58],[],[5]] (oh 73 (jP L c.2) (.d c.1.d)) ?_;simp[ez];refine⟨by(repeat' with_reducible apply And.intro)<;>first|omega|(simpa using W)|decide,?_⟩;refine iT (bV 5 [75] (fz:=false) (cs:=[.d (aJ k),.d (.str ([])),.d (aJ (0)),.ow 75 0 3]) (ds:=[aJ k,.str ([]),aJ (0),.sl [(a.1).d,(b.1).d,(c.1).d]]) bC bC bC (by simp[bI.mut])) ?_;simp;refine aAV.mk ⟨.mk k ([]) (0) [a.1,b.1,c.1],c.2⟩ (aA h [0,1,4,5] [(0,0),(4,4),(5,5)] (hH:=by simp[G])) ?_;rw[gX f];unfold yZ;rw[<-D,<-E,<-P,if_neg aE,if_neg aE,if_pos aE,if_pos G,if_pos g4]
       .apply aG;simp;refine iT (bV 5 [58] (fz:=false) (cs:=[.d (aJ k),.d (.str ([])),.d (aJ (0)),.ow 58 0 2]) (ds:=[aJ k,.str ([]),aJ (0),.sl [(a.1).d,(b.1).d]]) bC bC bC (by simp[bI.mut])) ?_;simp;refine aAV.mk ⟨.mk k ([]) (0) [a.1,b.1],if k=11 then b.2+1 else b.2⟩ (aA h [0,1,4,5] [(0,0),(4,4),(5,5)] (hH:=by by_cases F:k=11<;>simp[F])) ?_;rw[gX f];unfold yZ;rw[<-D,<-E];by_cases F:k=11
        .rw[if_neg aE,if_neg aE,if_pos aE,if_pos F,if_neg (G F)];simp[F]
        .rw[if_neg aE,if_neg aE,if_pos aE,if_neg F];simp[F]
      .have Y:¬(k=11\/k=12):=λq=>by simp[t.2 q]at z
       refine aY (ι:=BC) (λ⟨b⟩=>aQ [(0,.bx 0 0),(1,.d (aJ (d:Nat))),(4,.bx 4 0),(5,.bx 5 0),(25,.d (aJ (k))),(77,.d (.bool b))]) (λ⟨b⟩=>aL [(0,.box false [.d (.sl (L.map aJ)),.d (aJ ((i+1:Nat):Int))]),(4,.box false [.d (aJ 0),.d (.str []),.d (aJ 0),.nl]),(5,.box false [.d (aJ k),.d (.str []),.d (aJ 0),.nl])]) (λ⟨b⟩=>b=true↔(k=13\/k=14\/k=17\/k=18)) ?_ λ⟨b⟩ u=>?_
       .apply aP;simp;refine⟨λI=>?_,λI=>?_⟩
        .apply aG;simp;refine aAV.mk ⟨decide (k=13)⟩ (aA h [0,1,4,5,25,77] [(0,0),(4,4),(5,5)]) ?_;simp[I]
        .apply aP;simp;refine⟨λJ=>?_,λJ=>?_⟩
         .apply aG;simp;refine aAV.mk ⟨decide (k=14)⟩ (aA h [0,1,4,5,25,77] [(0,0),(4,4),(5,5)]) ?_;simp[J]
         .apply aP;simp;refine⟨λK=>?_,λK=>?_⟩
          .apply aG;simp;refine aAV.mk ⟨decide (k=17)⟩ (aA h [0,1,4,5,25,77] [(0,0),(4,4),(5,5)]) ?_;simp[K]
          .apply aI;simp;refine aAV.mk ⟨decide (k=18)⟩ (aA h [0,1,4,5,25,77] [(0,0),(4,4),(5,5)]) ?_;simp only[decide_eq_true_eq];omega
       .apply aK;simp;refine⟨λA=>?_,λA=>?_⟩
        .have a6:=u.1 A;have l:=kI L (i+1) n aE;refine aU (oh 83 (jP L (i+2)) (.d (.str (callM L (i+1))))) ?_;simp;refine⟨by simpa using l,?_⟩;refine iT (bV 5 [] (fz:=false) (cs:=[.d (aJ k),.d (.str (callM L (i+1))),.d (aJ (0)),.nl]) (ds:=[aJ k,.str (callM L (i+1)),aJ (0),.sl []]) bC bC bC (by simp[bI.mut])) ?_;simp;refine aAV.mk ⟨.mk k (callM L (i+1)) (0) [],i+2⟩ (aA h [0,1,4,5] [(0,0),(4,4),(5,5)]) ?_;rw[gX f];unfold yZ;repeat(first|rw[if_pos aE]|rw[if_neg aE])
        .have a6:¬(k=13\/k=14\/k=17\/k=18):=λq=>by simp[u.2 q]at A
         refine aY (ι:=BC) (λ⟨b⟩=>aQ [(0,.bx 0 0),(1,.d (aJ (d:Nat))),(4,.bx 4 0),(5,.bx 5 0),(25,.d (aJ (k))),(85,.d (.bool b))]) (λ⟨b⟩=>aL [(0,.box false [.d (.sl (L.map aJ)),.d (aJ ((i+1:Nat):Int))]),(4,.box false [.d (aJ 0),.d (.str []),.d (aJ 0),.nl]),(5,.box false [.d (aJ k),.d (.str []),.d (aJ 0),.nl])]) (λ⟨b⟩=>b=true↔(k=15\/k=22)) ?_ λ⟨b⟩ v=>?_
         .apply aP;simp;refine⟨λM=>?_,λM=>?_⟩
          .apply aG;simp;refine aAV.mk ⟨decide (k=15)⟩ (aA h [0,1,4,5,25,85] [(0,0),(4,4),(5,5)]) ?_;simp[M]
          .apply aI;simp;refine aAV.mk ⟨decide (k=22)⟩ (aA h [0,1,4,5,25,85] [(0,0),(4,4),(5,5)]) ?_;simp only[decide_eq_true_eq];omega
         .apply aK;simp;refine⟨λB=>?_,λB=>?_⟩
          .have a7:=v.1 B;apply aF;have l:=kI L (i+1) n aE;refine aU (oh 89 (jP L (i+2)) (.d (.str (callM L (i+1))))) ?_;simp;refine⟨by simpa using l,?_⟩;have r:=uY L n p 1 (i+2) aE;refine aU (oh 92 (jP L (valueM L 1 (i+2)).2) (.d (valueM L 1 (i+2)).1.d)) ?_;simp;refine⟨by simpa using r,?_⟩;refine iT (bV 5 [93] (fz:=false) (cs:=[.d (aJ k),.d (.str (callM L (i+1))),.d (aJ (0)),.ow 93 0 1]) (ds:=[aJ k,.str (callM L (i+1)),aJ (0),.sl [((valueM L 1 (i+2)).1).d]]) bC bC bC (by simp[bI.mut])) ?_;simp;refine aAV.mk ⟨.mk k (callM L (i+1)) (0) [(valueM L 1 (i+2)).1],(valueM L 1 (i+2)).2⟩ (aA h [0,1,4,5] [(0,0),(4,4),(5,5)]) ?_;rw[gX f];unfold yZ;repeat(first|rw[if_pos aE]|rw[if_neg aE])
          .have a7:¬(k=15\/k=22):=λq=>by simp[v.2 q]at B
           refine aY (ι:=BC) (λ⟨b⟩=>aQ [(0,.bx 0 0),(1,.d (aJ (d:Nat))),(4,.bx 4 0),(5,.bx 5 0),(25,.d (aJ (k))),(95,.d (.bool b))]) (λ⟨b⟩=>aL [(0,.box false [.d (.sl (L.map aJ)),.d (aJ ((i+1:Nat):Int))]),(4,.box false [.d (aJ 0),.d (.str []),.d (aJ 0),.nl]),(5,.box false [.d (aJ k),.d (.str []),.d (aJ 0),.nl])]) (λ⟨b⟩=>b=true↔(k=16\/k=23)) ?_ λ⟨b⟩ w=>?_
           .apply aP;simp;refine⟨λN=>?_,λN=>?_⟩
            .apply aG;simp;refine aAV.mk ⟨decide (k=16)⟩ (aA h [0,1,4,5,25,95] [(0,0),(4,4),(5,5)]) ?_;simp[N]
            .apply aI;simp;refine aAV.mk ⟨decide (k=23)⟩ (aA h [0,1,4,5,25,95] [(0,0),(4,4),(5,5)]) ?_;simp only[decide_eq_true_eq];omega
           .apply aK;simp;refine⟨λC=>?_,λC=>?_⟩
            .have a8:=w.1 C;apply aF;have l:=kI L (i+1) n aE;refine aU (oh 99 (jP L (i+2)) (.d (.str (callM L (i+1))))) ?_;simp;refine⟨by simpa using l,?_⟩;have o:=Cv L (i+2) n aE;refine aU (oh 102 (jP L (i+3)) (.d (.str (ownM L (i+2))))) ?_;simp;refine⟨by simpa using o,?_⟩;refine iT (bV 5 [104] (fz:=false) (cs:=[.d (aJ k),.d (.str (callM L (i+1))),.d (aJ (0)),.ow 104 0 1]) (ds:=[aJ k,.str (callM L (i+1)),aJ (0),.sl [(Nd.mk 33 (ownM L (i+2)) 0 []).d]]) bC bC bC (by simp[bI.mut])) ?_;simp;refine aAV.mk ⟨.mk k (callM L (i+1)) (0) [Nd.mk 33 (ownM L (i+2)) 0 []],i+3⟩ (aA h [0,1,4,5] [(0,0),(4,4),(5,5)]) ?_;rw[gX f];unfold yZ;repeat(first|rw[if_pos aE]|rw[if_neg aE])
            .have a8:¬(k=16\/k=23):=λq=>by simp[w.2 q]at C
             apply aP;simp;refine⟨λZ=>?_,λZ=>?_⟩
             .apply aF;have l:=Cv L (i+1) n aE;refine aU (oh 109 (jP L (i+2)) (.d (.str (ownM L (i+1))))) ?_;simp;refine⟨by simpa using l,?_⟩;have o:=fT L (i+2) 5 n aE bF;have U:=cC L ((i:Int)+2) 5 bF;refine aU (oh 112 (jP L (i+3)) (.d (aJ (eA L ((i:Int)+2) 5)))) ?_;simp;refine⟨⟨by simpa using o,aE⟩,?_⟩;refine iT (bV 5 [] (fz:=false) (cs:=[.d (aJ k),.d (.str (ownM L (i+1))),.d (aJ (2+eA L ((i:Int)+2) 5)),.nl]) (ds:=[aJ k,.str (ownM L (i+1)),aJ (2+eA L ((i:Int)+2) 5),.sl []]) bC bC bC (by simp[bI.mut])) ?_;simp;refine aAV.mk ⟨.mk k (ownM L (i+1)) (2+eA L ((i:Int)+2) 5) [],i+3⟩ (aA h [0,1,4,5] [(0,0),(4,4),(5,5)]) ?_;rw[gX f];unfold yZ;repeat(first|rw[if_pos aE]|rw[if_neg aE])
              simp
             .apply aP;simp;refine⟨λa0=>?_,λa0=>?_⟩
              .have l:=Cv L (i+1) n aE;refine aU (oh 118 (jP L (i+2)) (.d (.str (ownM L (i+1))))) ?_;simp;refine⟨by simpa using l,?_⟩;refine iT (bV 5 [] (fz:=false) (cs:=[.d (aJ k),.d (.str (ownM L (i+1))),.d (aJ (0)),.nl]) (ds:=[aJ k,.str (ownM L (i+1)),aJ (0),.sl []]) bC bC bC (by simp[bI.mut])) ?_;simp;refine aAV.mk ⟨.mk k (ownM L (i+1)) (0) [],i+2⟩ (aA h [0,1,4,5] [(0,0),(4,4),(5,5)]) ?_;rw[gX f];unfold yZ;repeat(first|rw[if_pos aE]|rw[if_neg aE])
              .apply aP;simp;refine⟨λa1=>?_,λa1=>?_⟩
               .have o:=fT L (i+1) 9 n aE bF;have U:=cC L ((i:Int)+1) 9 bF;refine aU (oh 123 (jP L (i+2)) (.d (aJ (eA L ((i:Int)+1) 9)))) ?_;simp;refine⟨⟨by simpa using o,aE⟩,?_⟩;refine iT (bV 5 [] (fz:=false) (cs:=[.d (aJ k),.d (.str ([])),.d (aJ (1+eA L ((i:Int)+1) 9)),.nl]) (ds:=[aJ k,.str ([]),aJ (1+eA L ((i:Int)+1) 9),.sl []]) bC bC bC (by simp[bI.mut])) ?_;simp;refine aAV.mk ⟨.mk k ([]) (1+eA L ((i:Int)+1) 9) [],i+2⟩ (aA h [0,1,4,5] [(0,0),(4,4),(5,5)]) ?_;rw[gX f];unfold yZ;repeat(first|rw[if_pos aE]|rw[if_neg aE])
                simp
               .apply aP;simp;refine⟨λa2=>?_,λa2=>?_⟩
                .have o:=fT L (i+1) 99 n aE bF;have U:=cC L ((i:Int)+1) 99 bF;refine aU (oh 129 (jP L (i+2)) (.d (aJ (eA L ((i:Int)+1) 99)))) ?_;simp;refine⟨⟨by simpa using o,aE⟩,?_⟩;refine iT (bV 5 [] (fz:=false) (cs:=[.d (aJ k),.d (.str ([])),.d (aJ (1+eA L ((i:Int)+1) 99)),.nl]) (ds:=[aJ k,.str ([]),aJ (1+eA L ((i:Int)+1) 99),.sl []]) bC bC bC (by simp[bI.mut])) ?_;simp;refine aAV.mk ⟨.mk k ([]) (1+eA L ((i:Int)+1) 99) [],i+2⟩ (aA h [0,1,4,5] [(0,0),(4,4),(5,5)]) ?_;rw[gX f];unfold yZ;repeat(first|rw[if_pos aE]|rw[if_neg aE])
                 simp
                .apply aF;have S:k=24:=by have:=wH f;omega
                 subst S;apply aI;simp;apply aK;simp;have r:=uY L n p 2 (i+1) aE;refine aU (oh 135 (jP L (valueM L 2 (i+1)).2) (.d (valueM L 2 (i+1)).1.d)) ?_;simp;refine⟨by simpa using r,?_⟩;refine iT (bV 5 [136] (fz:=false) (cs:=[.d (aJ 24),.d (.str ([])),.d (aJ (0)),.ow 136 0 1]) (ds:=[aJ 24,.str ([]),aJ (0),.sl [((valueM L 2 (i+1)).1).d]]) bC bC bC (by simp[bI.mut])) ?_;simp;refine aAV.mk ⟨.mk 24 ([]) (0) [(valueM L 2 (i+1)).1],(valueM L 2 (i+1)).2⟩ (aA h [0,1,4,5] [(0,0),(4,4),(5,5)]) ?_;rw[gX f];unfold yZ;repeat(first|rw[if_pos aE]|rw[if_neg aE])
  .apply aD;simp;apply aH;simp;refine bH (x:=(oneB L d s i).1.d) (by simp[y]) ?_;simp;exact aA h [0] [(0,0)] (hH:=by simp[y])
theorem Nk{L:List Int}{d:Nat->Nd×Nat}{C:Nat}(h:∀j,(d j).2<=j+C):∀(m:Nat) (c:List Nd) (j:Nat),(somesM L d m c j).2<=j+m*C
 |0,c,j=>by simp[somesM]
 |m+1,c,j=>by
  unfold somesM;split
  .simp
  .have a:=Nk (L:=L) h m (c++[(d j).1]) (d j).2;have b:=h j;rw[G1];omega
theorem SL{L:List Int}{c:Nat->Nd×Nat}{C:Nat}(h:∀j,(c j).2<=j+C)(i:Nat):(someM L c i).2<=i+1+3*C:=by
 have d:=cC L i 4 bF;have a:=Nk (L:=L) h (eA L i 4).toNat [] (i+1);have b:(eA L i 4).toNat*C<=3*C:=D5 C aE;show(somesM L c (eA L i 4).toNat [] (i+1)).2<=_;omega
def GI:Nat->Nat
 |0=>40
 |d+1=>40+2*(1+3*GI d)
theorem Kz(L:List Int):∀d i,(oneM L d i).2<=i+GI d
 |0,i=>by
  have h:∀j:Nat,((λ_=>default:Nat->Nd×Nat) j).2<=j+0:=λj=>B3 _;have:=SK (L:=L) (d:=0) (i:=i) h;rw[oneM];simp only[GI];omega
 |d+1,i=>by
  have h:=λj=>SL (L:=L) (Kz L d) j;have:=SK (L:=L) (d:=d+1) (i:=i) (bl:=someM L (oneM L d)) (C:=1+3*GI d) λj=>by have:=h j;omega
  rw[oneM];simp only[GI];omega
theorem Nl{d:Nat}(h:d<=2):GI d<=2000:=by
 have:∀d:Nat,d<3->GI d<=2000:=bF;exact this d aE
theorem SM(L:List Int)(f:Nj L)(a:L.length<=1000000):∀(d:Nat),d<=2->∀b,b+70000*d<=1800000->SJ L 223 d b (oneM L d)
 |0,_,b,hb=>λj g=>IY L 0 j (λ_=>default) f a b g aE aE (λe n=>aE) λj=>by show 0<=j+20000;omega
 |d+1,hd,b,hb=>λj g=>by
  have p:=Nl (d:=d) aE;have h:=λj=>SL (L:=L) (Kz L d) j;obtain⟨c,m⟩:∃c,c=b+30000:=⟨_,rfl⟩;have k:=SM L f a d aE (c+40000) aE;have l:SJ L 278 d c (someM L (oneM L d)):=λi o=>PY L d i (oneM L d) f a c o aE k λj=>by have:=Kz L d j;omega
  refine IY L (d+1) j (someM L (oneM L d)) f a b g aE aE (λe n=>?_) λj=>?_
  .have:e=d:=aE;rw[this,<-m];exact l
  .have:=h j;omega
theorem Zz(l:List Int):H5 (if(48:Int)<(l.length:Int)then 48 else(l.length:Int)).toNat (l.map aJ)=(l.take 48).map aJ:=by
 rw[<-List.map_take];congr 1;split
 .rfl
 .rw[show((l.length:Int)).toNat=l.length from rfl,G4,A9 aE]
theorem aBL{L:List Int}:(treeKinds.map aJ)[(eA L 0 10).toNat]?.getD default=aJ (treeKinds.getD (eA L 0 10).toNat 0):=by
 have h:=cC L 0 10 bF;have a:(eA L 0 10).toNat<treeKinds.length:=by show _<10;omega
 rw[List.getElem?_map,A4 a];simp[C6,a]
theorem ZA{L:List Int}:0<=treeKinds.getD (eA L 0 10).toNat 0/\treeKinds.getD (eA L 0 10).toNat 0<=6:=by
 have h:=cC L 0 10 bF;have a:∀n:Nat,n<10->0<=treeKinds.getD n 0/\treeKinds.getD n 0<=6:=bF;exact a _ aE
theorem GJ(L:List Int)(i:Nat):i+2<=(placeM L i).2:=by unfold placeM;split<;>simp
theorem zA(L:List Int):∀(d i:Nat),i+1<=(valueM L d i).2:=λd=>by
 induction d with
 |zero=>
  intro i;obtain⟨l,_,g⟩:=gR L 0 i;have g:=g rfl;by_cases c:dI L 0 i=0\/dI L 0 i=1
  .rw[kU c];simp
  .by_cases f:dI L 0 i=2
   .rw[kV f];simp
   .by_cases h:dI L 0 i=3\/dI L 0 i=4
    .rw[gN h];have:=GJ L (i+1);omega
    .rw[iY aE];simp
 |succ e ih=>
  intro i;obtain⟨l,_,_⟩:=gR L (e+1) i;by_cases c:dI L (e+1) i=0\/dI L (e+1) i=1
  .rw[kU c];simp
  .by_cases f:dI L (e+1) i=2
   .rw[kV f];simp
   .by_cases j:dI L (e+1) i=3\/dI L (e+1) i=4
    .rw[gN j];have:=GJ L (i+1);omega
    .by_cases k:dI L (e+1) i=5
     .rw[iY k];simp
     .rw[uX aE];have a:=ih (i+1);have b:=ih (valueM L e (i+1)).2;simp only;omega
theorem SN{L:List Int}{d i:Nat}{b:Nat->Nd×Nat}(a:0<d->∀j,j<=(b j).2):i+1<=(oneB L d b i).2:=by
 rw[gX rfl];have c:=wH (L:=L) (d:=d) (i:=i) rfl;have o:=GJ L (i+1);have e:=zA L 1 (i+1);have f:=zA L 1 (i+2);have g:=zA L 2 (i+1);have k:=zA L 2 (i+2);have l:=zA L 2 (placeM L (i+1)).2;unfold yZ;simp only[E3,H1]at*;split
 .simp only;omega
 .split
  .simp only;omega
  .split
   .rename_i h;have a:=a (c.2.2 h);have m:=a (valueM L 1 (i+1)).2;have n:=a ((b (valueM L 1 (i+1)).2).2+1);split
    .split<;>simp only<;>omega
    .simp only;omega
   .repeat(first|(simp only;omega)|split)
theorem Nn{L:List Int}{st:Nat->Nd×Nat}(h:∀j,j<=(st j).2):∀(m:Nat) (c:List Nd) (j:Nat),j<=(somesM L st m c j).2
 |0,c,j=>B0 _
 |m+1,c,j=>by
  unfold somesM;split
  .exact B0 _
  .have a:=Nn (L:=L) h m (c++[(st j).1]) (st j).2;have b:=h j;omega
theorem ZB(L:List Int):∀d i,i+1<=(oneM L d i).2
 |0,i=>by rw[oneM];exact SN λh=>absurd h (Nat.lt_irrefl _)
 |d+1,i=>by
  rw[oneM];refine SN λ_ j=>?_;have:=Nn (L:=L) (st:=oneM L d) (λj=>by have:=ZB L d j;omega) (eA L j 4).toNat [] (j+1);show j<=(somesM L (oneM L d) (eA L j 4).toNat [] (j+1)).2;omega
theorem ZC{L:List Int}{m:Nat}{a:List Nd}{j:Nat}(h:L.length<=j):bodyM L m a j=a:=by
 cases m with
 |zero=>rfl
 |succ m=>unfold bodyM;rw[if_pos h]
theorem aBM{L:List Int}{m:Nat}{a:List Nd}{j:Nat}(b:0<m)(h:j<L.length):bodyM L m a j=bodyM L (m-1) (a++[(oneM L 2 j).1]) (oneM L 2 j).2:=by
 obtain⟨k,rfl⟩:∃k,m=k+1:=⟨m-1,aE⟩;rw[bodyM,if_neg aE];rfl
theorem tA(L:List Int):∀c,(itemsM L c).length=c
 |0=>rfl
 |c+1=>by rw[itemsM,A2,tA L c];rfl
structure NdC where
 x:Nd
structure CtC where
 c:Nat
section
variable{L:List Int} {k:Int} {t:bA} (hk:treeKinds.getD (eA L 0 10).toNat 0=k) (ht:callM L 1=t)
include hk ht
theorem ZD(h:k=0):treeB L=.mk k t (eA L 2 1999-999) []:=by subst hk ht;unfold treeB;simp only[];rw[if_pos h]
theorem Vp(h:k=2):treeB L=.mk k t (eA L 2 4) []:=by subst hk ht;unfold treeB;simp only[];rw[if_neg aE,if_pos h]
theorem ZE(h:k=1):treeB L=.mk k t 0 (itemsM L (eA L 2 4).toNat):=by subst hk ht;unfold treeB;simp only[];rw[if_neg aE,if_neg aE,if_pos h]
theorem Vq(h:k=5\/k=6):treeB L=.mk k t 0 [.mk 8 [] 0 (bodyM L L.length [] 2)]:=by subst hk ht;unfold treeB;simp only[];rw[if_neg aE,if_neg aE,if_neg aE,if_pos h]
theorem Vr(a:¬k=0)(b:¬k=2)(c:¬k=1)(d:¬(k=5\/k=6)):treeB L=.mk k t 0 []:=by subst hk ht;unfold treeB;simp only[];rw[if_neg a,if_neg b,if_neg c,if_neg d]
end
theorem ZF(l:List Int)(hl:Nj l):Ok prog 150 [.sl (l.map aJ)] ⟨.d (treeS l).d,false⟩:=by
 refine uF func150 rfl ntmps150 results150 λw0 X i=>?_;obtain⟨L,o⟩:∃L,L=l.take 48:=⟨_,rfl⟩;have p:Nj L:=λn Z=>hl n (by rw[o]at Z;exact List.mem_of_mem_take Z);have a4:L.length<=48:=by rw[o,A6];omega
 have U:treeS l=treeB L:=by rw[o];rfl
 apply aD;simp;apply aD;simp[Zz,<-o];refine⟨by split<;>omega,?_⟩;apply aF;have ha:=fT L 0 10 p aE bF;have hr:=cC L 0 10 bF;have W:=kI L 1 p aE;have C:=aBL (L:=L);have Q:=ZA (L:=L);simp[treeKinds]at C;obtain⟨k,u⟩:∃k,treeKinds.getD (eA L 0 10).toNat 0=k:=⟨_,rfl⟩;obtain⟨t,w⟩:∃t,callM L 1=t:=⟨_,rfl⟩;refine fL.rd [[4,15],[4,16],[4,16],[4,15],[4,15],[4,15,16],[4,16],[4],[15,16]] [[16],[],[15],[],[],[],[15],[],[4],[4]] (λ|18=>some (.gen ⟨[(15,0)],[],[],jP L 1,.d (aJ (eA L 0 10))⟩)|22=>some (.gen ⟨[(15,0)],[],[],jP L 2,.d (.str t)⟩)|_=>none) ?_;simp[C];rw[u]at Q;rw[w]at W;refine⟨⟨⟨⟨⟨bF,by simpa using ha⟩,aE⟩,aE⟩,by simpa using W⟩,?_⟩;have P:[5,6,5,6,5,0,1,2,3,4][(eA L 0 10).toNat]?.getD 0=k:=by rw[<-u];simp[treeKinds]
 simp only[P];refine aY (ι:=NdC) (λ⟨x⟩=>aQ [(2,.bx 2 0),(4,.bx 4 0)]) (λ⟨x⟩=>aL [(2,.box false [.d (aJ 0),.d (.str []),.d (aJ 0),.nl]),(4,.box false [.d (aJ x.kind),.d (.str x.text),.d (aJ x.n),.d (ndsD x.kids)])]) (λ⟨x⟩=>treeB L=x) ?_ λ⟨x⟩ B=>?_
 .apply aD;simp;apply aM;apply aP;simp;refine⟨λK=>?_,λK=>?_⟩
  .have f:=fT L 2 1999 p aE bF;have M:=cC L 2 1999 bF;refine aU (og 29 (.gen ⟨[(15,0)],[],[],jP L 3,.d (aJ (eA L 2 1999))⟩)) ?_;simp;refine⟨⟨by simpa using f,aE⟩,?_⟩;refine iT (bV 4 [] (fz:=false) (cs:=[.d (aJ k),.d (.str t),.d (aJ (eA L 2 1999-999)),.nl]) (ds:=[aJ k,.str t,aJ (eA L 2 1999-999),.sl []]) bC bC bC (by simp[bI.mut])) ?_;simp;refine aAV.mk ⟨.mk k t (eA L 2 1999-999) []⟩ (aA i [2,4] [(2,2),(4,4)]) ?_;exact ZD u w K
  .apply aP;simp;refine⟨λN=>?_,λN=>?_⟩
   .have f:=fT L 2 4 p aE bF;refine aU (og 35 (.gen ⟨[(15,0)],[],[],jP L 3,.d (aJ (eA L 2 4))⟩)) ?_;simp;refine⟨by simpa using f,?_⟩;refine iT (bV 4 [] (fz:=false) (cs:=[.d (aJ k),.d (.str t),.d (aJ (eA L 2 4)),.nl]) (ds:=[aJ k,.str t,aJ (eA L 2 4),.sl []]) bC bC bC (by simp[bI.mut])) ?_;simp;refine aAV.mk ⟨.mk k t (eA L 2 4) []⟩ (aA i [2,4] [(2,2),(4,4)]) ?_;exact Vp u w N
   .apply aP;simp;refine⟨λO=>?_,λO=>?_⟩
    .apply aF;have f:=fT L 2 4 p aE bF;have M:=cC L 2 4 bF;obtain⟨m,S⟩:∃m:Nat,(eA L 2 4).toNat=m:=⟨_,rfl⟩;have D:eA L 2 4=(m:Int):=aE;refine aU (og 40 (.gen ⟨[(15,0)],[],[],jP L 3,.d (aJ (m:Nat))⟩)) ?_;simp;refine⟨by simpa [D]using f,?_⟩;refine iU (fz:=false) (cs:=[.d (aJ k),.d (.str t),.d (aJ 0),.nl]) 4 3 1056 4 bF ⟨bC,bC,bC,?_⟩;simp;apply aD;simp;apply aM;refine aO (ι:=CtC) (λ⟨c⟩=>aQ [(2,.bx 2 0),(3,.bx 15 0),(4,.bx 4 0),(5,.d (aJ (m:Nat))),(6,.d (aJ (c:Nat)))]) (λ⟨c⟩=>aL [(2,.box false [.d (aJ 0),.d (.str []),.d (aJ 0),.nl]),(4,.box false [.d (aJ k),.d (.str t),.d (aJ 0),.ow 1056 0 c]),(15,.box false [.d (.sl (L.map aJ)),.d (aJ ((3+2*c:Nat):Int))]),(1056,.row false 4 ((itemsM L c).map Nd.d))]) (λ⟨c⟩=>c<=m) (λ⟨c⟩=>m-c) ⟨0⟩ (aA i [2,3,4,5,6] [(2,2),(4,4),(15,15),(1056,1056)] (hH:=by simp[itemsM])) (B3 _) λ⟨c⟩ g=>?_;apply aF;apply aP;simp;refine⟨λH=>?_,λH=>?_⟩
     .apply aG;simp;apply cR;apply aF;have y:=kI L (3+2*c) p aE;refine aU (og 47 (.gen ⟨[(15,0)],[],[],jP L (3+2*c+1),.d (.str (callM L (3+2*c)))⟩)) ?_;simp;refine⟨by simpa using y,?_⟩;have z:=fT L (4+2*c) 1999 p aE bF;have V:=cC L (4+2*(c:Int)) 1999 bF;have a1:c<=m:=g;have F:(3:Int)+(2*(c:Int)+1)=4+2*c:=aE;have G:(4:Int)+(2*(c:Int)+1)=3+(2*c+2):=aE;have a2:=tA L c;refine fL.rd [[15,55],[15,55],[15]] [[],[],[],[],[15],[],[],[55],[56,1056],[],[4]] (og 52 (.gen ⟨[(15,0)],[],[],jP L (4+2*c+1),.d (aJ (eA L ((4+2*c:Nat):Int) 1999))⟩)) ?_;simp[F];refine⟨⟨⟨by simpa using z,aE,aE⟩,aE,aE⟩,?_⟩;have Y:c<=m:=g;apply aI;simp;refine⟨aE,?_⟩;refine QT.mk ⟨c+1⟩ (aA i [2,3,4,5,6] [(2,2),(4,4),(15,15),(56,1056)] (hH:=by simp[itemsM,Int.mul_add,tA,A9,G])) ?_ ?_
      .show c+1<=m;omega
      .show m-(c+1)<m-c;omega
     .apply bG;simp;refine iT (bV 4 [1056] (fz:=false) (cs:=[.d (aJ k),.d (.str t),.d (aJ 0),.ow 1056 0 c]) (ds:=[aJ k,.str t,aJ 0,.sl ((itemsM L c).map Nd.d)]) bC bC (by simp[tA,A9]) (by simp[bI.mut])) ?_;simp;refine aAV.mk ⟨.mk k t 0 (itemsM L c)⟩ (aA i [2,4] [(2,2),(4,4)]) ?_;rw[ZE u w O,S];have E:c=m:=by have:=(show c<=m from g);omega
      rw[E]
    .refine aY (ι:=BC) (λ⟨b⟩=>aQ [(2,.bx 2 0),(3,.bx 15 0),(4,.bx 4 0),(25,.d (aJ (k))),(58,.d (.bool b))]) (λ⟨b⟩=>aL [(2,.box false [.d (aJ 0),.d (.str []),.d (aJ 0),.nl]),(4,.box false [.d (aJ k),.d (.str t),.d (aJ 0),.nl]),(15,.box false [.d (.sl (L.map aJ)),.d (aJ 2)])]) (λ⟨b⟩=>b=true↔(k=5\/k=6)) ?_ λ⟨b⟩ r=>?_
     .apply aP;simp;refine⟨λA=>?_,λA=>?_⟩
      .apply aG;simp;refine aAV.mk ⟨decide (k=5)⟩ (aA i [2,3,4,25,58] [(2,2),(4,4),(15,15)]) ?_;simp[A]
      .apply aI;simp;refine aAV.mk ⟨decide (k=6)⟩ (aA i [2,3,4,25,58] [(2,2),(4,4),(15,15)]) ?_;simp only[decide_eq_true_eq];omega
     .apply aK;simp;refine⟨λs=>?_,λs=>?_⟩
      .have v:=r.1 s;apply aD;simp;refine iU (fz:=false) (cs:=[.d (aJ 8),.d (.str []),.d (aJ 0),.nl]) 8 3 1077 4 bF ⟨bC,bC,bC,?_⟩;simp;apply cR;refine aO (ι:=SmS) (λ⟨m,a,j⟩=>aQ [(2,.bx 2 0),(3,.bx 15 0),(4,.bx 4 0),(8,.bx 8 0)]) (λ⟨m,a,j⟩=>aL [(2,.box false [.d (aJ 0),.d (.str []),.d (aJ 0),.nl]),(4,.box false [.d (aJ k),.d (.str t),.d (aJ 0),.nl]),(8,.box false [.d (aJ 8),.d (.str []),.d (aJ 0),.ow 1077 0 a.length]),(15,.box false [.d (.sl (L.map aJ)),.d (aJ (j:Nat))]),(1077,.row false 4 (a.map Nd.d))]) (λ⟨m,a,j⟩=>j<=3000/\L.length<=m+j/\a.length<=j/\bodyM L L.length [] 2=bodyM L m a j) (λ⟨m,a,j⟩=>L.length-j) ⟨L.length,[],2⟩ (aA i [2,3,4,8] [(2,2),(4,4),(8,8),(15,15),(1077,1077)]) (⟨aE,aE,bC,rfl⟩) λ⟨m,a,j⟩ h=>?_;apply eG;refine fL.rd [] [] (λ_=>none) ?_;simp;apply aK;simp;refine⟨λI=>?_,λI=>?_⟩
       .apply aG;simp;apply aM;have J:=SM L p aE 2 aE 5000 aE j aE;have a6:=ZB L 2 j;have a5:=Kz L 2 j;have a0:=Nl (d:=2) aE;have a3:=h.2.2.1;refine fL.rd [[15,76],[15,76]] [[],[],[],[15],[76],[77,1077],[],[8]] (og 75 (.gen ⟨[(15,0)],[],[],jP L (oneM L 2 j).2,.d (oneM L 2 j).1.d⟩)) ?_;simp;refine⟨by(repeat' with_reducible apply And.intro)<;>first|omega|(simpa using J),?_⟩;refine QT.mk ⟨m-1,a++[(oneM L 2 j).1],(oneM L 2 j).2⟩ (aA i [2,3,4,8] [(2,2),(4,4),(8,8),(15,15),(77,1077)]) ?_ ?_
        .refine⟨(show(oneM L 2 j).2<=3000 by omega),(show L.length<=m-1+(oneM L 2 j).2 by omega),(by rw[A2,F2];show a.length+1<=(oneM L 2 j).2;omega),?_⟩;rw[h.2.2.2,aBM aE aE]
        .show L.length-(oneM L 2 j).2<L.length-j;omega
       .apply bG;simp;apply aI;simp;refine iT (bV 4 [80] (fz:=false) (cs:=[.d (aJ k),.d (.str t),.d (aJ 0),.ow 80 0 1]) (ds:=[aJ k,.str t,aJ 0,.sl [(Nd.mk 8 [] 0 a).d]]) bC bC bC (by simp[bI.mut])) ?_;simp;refine aAV.mk ⟨.mk k t 0 [.mk 8 [] 0 a]⟩ (aA i [2,4] [(2,2),(4,4)]) ?_;rw[Vq u w v,h.2.2.2,ZC aE]
      .have v:¬(k=5\/k=6):=λq=>by simp[r.2 q]at s
       apply aG;simp;refine iT (bV 4 [] (fz:=false) (cs:=[.d (aJ k),.d (.str t),.d (aJ 0),.nl]) (ds:=[aJ k,.str t,aJ 0,.sl []]) bC bC bC (by simp[bI.mut])) ?_;simp;refine aAV.mk ⟨.mk k t 0 []⟩ (aA i [2,4] [(2,2),(4,4)]) ?_;exact Vr u w K N O v
 .apply aD;simp;apply aH;have e:treeS l=x:=U.trans B;simp[e]
end
section
attribute[local simp] aW bJ bE aR
attribute[local simp] lB.cond Nd.d_eq nd_t nd_dr nd_td ndsD aX nG dL Ef Eg Eh ML
def Cy(n:Int):Prop:= -9223372036854775808<=n/\n<=9223372036854775807
theorem KA{a:Int}{m:Nat}(h:Cy a):Cy (a.tdiv ((m:Int)+1)):=by
 unfold Cy at*;have d:(a.tdiv ((m:Int)+1)).natAbs<=a.natAbs:=by rw[Int.natAbs_tdiv];exact Nat.div_le_self _ _
 by_cases c:0<=a
 .have:=G5 c (show(0:Int)<=(m:Int)+1 by omega);omega
 .have e:a.tdiv ((m:Int)+1)<=0:=by
   obtain⟨b,rfl⟩:∃b,a= -b:=⟨-a,aE⟩;rw[Int.neg_tdiv];have:=G5 (show(0:Int)<=b by omega) (show(0:Int)<=(m:Int)+1 by omega);omega
  omega
end
theorem EX(L:List Int)(i:Nat):(ownM L i).length<=16:=by
 unfold ownM;have:∀k:Nat,(ownL.getD k []).length<=16:=λk=>by
  rw[C6];cases e:ownL[k]? with
  |none=>simp
  |some w=>
   have:=List.mem_of_getElem? e;exact(by decide:∀w∈ownL,w.length<=16) w this
 exact this _
theorem kJ(k:Int)(t:bA)(n:Int):weighN (.mk k t n [])=t.length+1:=by simp[weighN,weighL]
theorem zB(L:List Int)(i:Nat):weighN (placeM L i).1<=34:=by
 have a:=oM L (i+1);have b:=oM L (i+2);unfold placeM;split<;>simp only[kJ,A2,D1]<;>omega
theorem Ek(L:List Int):∀(d i:Nat),weighN (valueM L d i).1+1<=35*2^d:=λd=>by
 induction d with
 |zero=>
  intro i;obtain⟨o,_,h⟩:=gR L 0 i;have h:=h rfl;have l:=EX L (i+1);have m:=zB L (i+1);by_cases c:dI L 0 i=0\/dI L 0 i=1
  .rw[kU c];simp[kJ]
  .by_cases f:dI L 0 i=2
   .rw[kV f];simp only[kJ];omega
   .by_cases g:dI L 0 i=3\/dI L 0 i=4
    .rw[gN g];omega
    .rw[iY aE];simp[kJ]
 |succ e ih=>
  intro i;have n:1<=2^e:=Nat.one_le_two_pow;have g:2^(e+1)=2*2^e:=by rw[Nat.pow_succ,Nat.mul_comm]
  have l:=EX L (i+1);have m:=zB L (i+1);obtain⟨o,_,_⟩:=gR L (e+1) i;by_cases c:dI L (e+1) i=0\/dI L (e+1) i=1
  .rw[kU c];simp only[kJ,C0];omega
  .by_cases f:dI L (e+1) i=2
   .rw[kV f];simp only[kJ];omega
   .by_cases j:dI L (e+1) i=3\/dI L (e+1) i=4
    .rw[gN j];omega
    .by_cases k:dI L (e+1) i=5
     .rw[iY k];simp only[kJ,C0];omega
     .rw[uX aE];have a:=ih (i+1);have b:=ih (valueM L e (i+1)).2;simp only[weighN,weighL,C0];omega
theorem GK{L:List Int}{d i C:Nat}{a:Nat->Nd×Nat}(c:∀j,weighN (a j).1<=C):weighN (oneB L d a i).1<=200+2*C:=by
 rw[gX rfl];have e:=λj=>Ek L 1 j;have b:=λj=>Ek L 2 j;have r:=zB L (i+1);have p:=oM L (i+1);have q:=EX L (i+1);have f:=EX L (i+1+1);unfold yZ;have g:=e (i+1);have h:=e (i+1+1);have k:=b (i+1);have l:=b (i+1+1);have m:=b (placeM L (i+1)).2;have n:=c (valueM L 1 (i+1)).2;have o:=c ((a (valueM L 1 (i+1)).2).2+1);simp only[H2,H3]at*;repeat(first|(simp only[weighN,weighL,C0];omega)|split)
theorem El{L:List Int}{d:Nat->Nd×Nat}{C:Nat}(h:∀j,weighN (d j).1<=C):∀(m:Nat) (c:List Nd) (j:Nat),weighL (somesM L d m c j).1<=weighL c+m*C
 |0,c,j=>by simp[somesM]
 |m+1,c,j=>by
  unfold somesM;split
  .simp
  .have a:=El (L:=L) h m (c++[(d j).1]) (d j).2;have b:=h j;rw[weighL_append]at a;simp only[weighL]at a;rw[G1];omega
theorem Qa{L:List Int}{c:Nat->Nd×Nat}{C:Nat}(h:∀j,weighN (c j).1<=C)(i:Nat):weighN (someM L c i).1<=1+3*C:=by
 have d:=cC L i 4 bF;have a:=El (L:=L) h (eA L i 4).toNat [] (i+1);have b:(eA L i 4).toNat*C<=3*C:=D5 C aE;show weighN (.mk 8 [] 0 (somesM L c (eA L i 4).toNat [] (i+1)).1)<=_;simp only[weighN,weighL,C0]at*;omega
def GL:Nat->Nat
 |0=>204
 |d+1=>200+2*(1+3*GL d)
theorem IZ(L:List Int):∀d i,weighN (oneM L d i).1<=GL d
 |0,i=>by
  rw[oneM];exact GK (C:=2) λj=>by show weighN default<=2;decide
 |d+1,i=>by
  rw[oneM];exact GK (C:=1+3*GL d) λj=>Qa (IZ L d) j
theorem GM(L:List Int):∀(m:Nat) (c:List Nd) (j:Nat),weighL (bodyM L m c j)<=weighL c+m*GL 2
 |0,c,j=>by simp[bodyM]
 |m+1,c,j=>by
  unfold bodyM;split
  .simp
  .have a:=GM L m (c++[(oneM L 2 j).1]) (oneM L 2 j).2;have b:=IZ L 2 j;rw[weighL_append]at a;simp only[weighL]at a;rw[G1];omega
theorem Em(L:List Int):∀c,weighL (itemsM L c)<=17*c
 |0=>B0 _
 |c+1=>by
  have a:=Em L c;have b:=oM L (3+2*c);rw[itemsM,weighL_append];simp only[weighL,kJ];omega
theorem GN(l:List Int):weighN (treeS l)<=1000000:=by
 have b:(l.take 48).length<=48:=by rw[A6];omega
 have e:=oM (l.take 48) 1;have g:=cC (l.take 48) 2 4 bF;have a:=GM (l.take 48) (l.take 48).length [] 2;have c:(l.take 48).length*GL 2<=48*GL 2:=D5 _ b;have d:GL 2=8758:=rfl;have f:=Em (l.take 48) (eA (l.take 48) 2 4).toNat;unfold treeS treeB;simp only[];simp only[weighL]at a;repeat(first|(simp only[weighN,weighL,C0];omega)|split)
set_option maxRecDepth 10000
section
attribute[local simp] aW bJ bE aR
attribute[local simp] lB.cond Nd.d_eq nd_t nd_dr nd_td ndsD aX bO nU dV dL
theorem GO{s:bA}{R:Nd×PS}(a:defP false ⟨(scanS s).1,0⟩=R)(b:s.length<=1024){x:Tk}{r:List Tk}(h:R.2.l=x::r):parseS s=(zeroNd,x.at_,if R.2.e≠0 then R.2.e else 2):=by
 unfold parseS;rw[if_neg aE];simp only[];rw[a,h]
theorem Np{s:bA}{R:Nd×PS}(b:defP false ⟨(scanS s).1,0⟩=R)(c:s.length<=1024)(h:R.2.l=[])(a:¬R.2.e=0\/(scanS s).2<s.length):parseS s=(zeroNd,(scanS s).2,2):=by
 unfold parseS;rw[if_neg aE];simp only[];rw[b,h];simp only[];rw[if_pos a]
theorem Ja{s:bA}{R:Nd×PS}(b:defP false ⟨(scanS s).1,0⟩=R)(c:s.length<=1024)(h:R.2.l=[])(a:¬(¬R.2.e=0\/(scanS s).2<s.length)):parseS s=if validB R.1 then(R.1,0,0)else(zeroNd,0,4):=by
 unfold parseS;rw[if_neg aE];simp only[];rw[b,h];simp only[];rw[if_neg a]
theorem Qb(s:bA)(R:Nd×PS)(h:defP false ⟨(scanS s).1,0⟩=R)(n:s.length<=1024->iP prog 86 [.bx 0 0] (dV ⟨(scanS s).1,0⟩) (dV R.2) (.d R.1.d))(u:s.length<=1024->weighN R.1<=1000000000):Ok prog 25 [.str s] ⟨.tup [.d (parseS s).1.d,.d (aJ (parseS s).2.1),.d (aJ (parseS s).2.2)],false⟩:=by
 refine Aa hT func25 jQ (c:=_) rfl ntmps25 bC results25 bC (by rfl) λy X w=>?_;apply aD;simp;apply aF;apply aP;simp;refine⟨λl=>?_,λl=>?_⟩
 .apply aD;simp;apply aH;have e:parseS s=(zeroNd,1024,4):=by unfold parseS;rw[if_pos aE]
  simp[e,zeroNd]
 .apply aG;simp;apply aF;have p:=aBp s aE;refine aU (og 15 (.plain ⟨.tup [.d (.sl ((scanS s).1.map Tk.d)),.d (aJ (scanS s).2)],true⟩)) ?_;simp[bM];refine⟨p,?_⟩;apply aD;simp;apply aF;have o:=n aE;refine aU (og 22 (.gen ⟨[(20,0)],[],[],dV R.2,.d R.1.d⟩)) ?_;simp;refine⟨by simpa using o,?_⟩;apply cR;apply aP;simp;refine⟨λi j=>?_,λg=>?_⟩
  .apply aF;obtain⟨x,r,a⟩:=D2 j;have v:(aV x.d).length=2:=rfl;refine fL.rd [[],[2],[2],[2],[2],[2],[2],[2],[2],[2],[2],[2]] [[],[],[],[],[],[],[],[],[],[],[],[],[2]] (λ_=>none) ?_;simp[a,Tk.d];apply aH;have e:=GO h aE a;simp[e,zeroNd,i]
  .apply aP;simp;refine⟨λf=>?_,λf=>?_⟩
   .apply aF;obtain⟨x,r,a⟩:=D2 f;refine fL.rd [[],[2],[2],[2],[2],[2],[2],[2]] [[],[],[],[],[],[],[],[],[2]] (λ_=>none) ?_;simp[a,Tk.d];apply aH;have e:=GO h aE a;have k:R.2.e=0:=D7 λq=>by have:=g q;rw[this]at a;cases a
    simp[e,zeroNd,k]
   .apply aP;simp;refine⟨λd=>?_,λd m=>?_⟩
    .apply aD;simp;apply aH;have e:=Np h aE f d;simp[e,zeroNd]
    .apply aF;have t:=Valid_ok R.1 (u aE);refine aU (og 80 (.plain ⟨.d (.bool (validB R.1)),true⟩)) ?_;simp;refine⟨by simpa using t,?_⟩;apply aK;simp;refine⟨λb=>?_,λb=>?_⟩
     .apply aD;simp;apply aH;have e:=Ja h aE f aE;simp[e,b,zeroNd]
     .apply aG;simp;apply aD;simp;apply aH;have e:=Ja h aE f aE;simp[e,b]
end
theorem Cz(s:bA):Ok prog 25 [.str s] ⟨.tup [.d (parseS s).1.d,.d (aJ (parseS s).2.1),.d (aJ (parseS s).2.2)],false⟩:=
 Qb s _ rfl (λa=>aDk ⟨(scanS s).1,0⟩ (iW _ _ _) (by have:=nC s.length s 0;show(scanF s.length s 0).1.length<=1000000;omega)) λa=>yY a
section
attribute[local simp] aW bJ bE aR
set_option maxRecDepth 10000
set_option maxHeartbeats 4000000
attribute[local simp] lB.cond Nd.d_eq nd_t nd_dr nd_td ndsD aX nG dL Ef Eg Eh ML
end
section
attribute[local simp] aW bJ bE aR
attribute[local simp] lB.cond Nd.d_eq nd_t nd_dr nd_td ndsD aX
def aEe(w:bA):Nat->bA
 |0=>[]
 |n+1=>aEe w n++w
theorem pT(s:bA):weighN (parseS s).1<=1000000000:=by
 by_cases h:1024<s.length
 .unfold parseS;rw[if_pos h];decide
 .obtain⟨R,a⟩:∃R,defP false ⟨(scanS s).1,0⟩=R:=⟨_,rfl⟩;have b:=yY (s:=s) aE;rw[a]at b;unfold parseS;rw[if_neg h];simp only[];rw[a];have z:weighN zeroNd<=1000000000:=bF;split
  .exact z
  .split
   .exact z
   .split
    .exact b
    .exact z
theorem aDo(w:bA):aEe w 0=[]:=rfl
attribute[local simp] aDo
theorem ZG(s:bA)(n:Nat)(b:s.length<=9223372036854775807):Ok prog 80 [.str s,aJ n] ⟨.d (.str (s.take n)),true⟩:=by
 refine bL func80 rfl ntmps80 results80 λd X c=>?_;apply aD;simp;apply aF;apply aP;simp;refine⟨λa=>?_,λa=>?_⟩
 .apply aD;simp;refine⟨aE,?_⟩;apply aH;simp
 .apply aG;simp;apply aD;simp;apply aH;simp;exact(A9 aE).symm
end
end Go.Eng
namespace Go.Proofs
open Go.Shelf
def Tryz.sortStr_ren:Go.Shelf.Ren:=⟨λ|6=>98|8=>134|9=>173|19=>207|20=>208|21=>249|22=>250|23=>251|24=>252|25=>253|26=>254|27=>255|28=>256|29=>257|36=>309|31=>269|32=>270|37=>310|38=>311|39=>153|41=>338|n=>n,λ|27=>44|29=>9|3=>3|32=>166|26=>44|0=>0|44=>90|46=>93|4=>4|36=>236|35=>235|41=>154|5=>5|9=>9|53=>281|57=>285|63=>297|64=>298|n=>n,λ|n=>n⟩
theorem Tryz.sortStr:Go.Proofs.SlLaysM.n6 prog Tryz.sortStr_ren:={
 mixed:=by kernel_rfl,
 f6:=⟨Tryz.f98.name,by decide,func98.trans (congrArg some (by kernel_rfl))⟩,
 f8:=func134.trans (congrArg some (by kernel_rfl)),
 f9:=⟨Tryz.f173.name,by decide,func173.trans (congrArg some (by kernel_rfl))⟩,
 f19:=func207.trans (congrArg some (by kernel_rfl)),
 f20:=func208.trans (congrArg some (by kernel_rfl)),
 f21:=⟨Tryz.f249.name,by decide,func249.trans (congrArg some (by kernel_rfl))⟩,
 f22:=⟨Tryz.f250.name,by decide,func250.trans (congrArg some (by kernel_rfl))⟩,
 f23:=⟨Tryz.f251.name,by decide,func251.trans (congrArg some (by kernel_rfl))⟩,
 f24:=⟨Tryz.f252.name,by decide,func252.trans (congrArg some (by kernel_rfl))⟩,
 f25:=⟨Tryz.f253.name,by decide,func253.trans (congrArg some (by kernel_rfl))⟩,
 f26:=⟨Tryz.f254.name,by decide,func254.trans (congrArg some (by kernel_rfl))⟩,
 f27:=⟨Tryz.f255.name,by decide,func255.trans (congrArg some (by kernel_rfl))⟩,
 f28:=⟨Tryz.f256.name,by decide,func256.trans (congrArg some (by kernel_rfl))⟩,
 f29:=⟨Tryz.f257.name,by decide,func257.trans (congrArg some (by kernel_rfl))⟩,
 f31:=func269.trans (congrArg some (by kernel_rfl)),
 f32:=func270.trans (congrArg some (by kernel_rfl)),
 f36:=⟨Tryz.f309.name,by decide,func309.trans (congrArg some (by kernel_rfl))⟩,
 f37:=⟨Tryz.f310.name,by decide,func310.trans (congrArg some (by kernel_rfl))⟩,
 f38:=⟨Tryz.f311.name,by decide,func311.trans (congrArg some (by kernel_rfl))⟩,
 f39:=⟨Tryz.f153.name,by decide,func153.trans (congrArg some (by kernel_rfl))⟩,
 f41:=⟨Tryz.f338.name,by decide,func338.trans (congrArg some (by kernel_rfl))⟩,
 t0:=underlying0,
 a0:=isAgg0,
 z0:=sizeOf0,
 v0:=zeroValue0,
 t3:=underlying3,
 a3:=isAgg3,
 z3:=sizeOf3,
 v3:=zeroValue3,
 t4:=underlying4,
 a4:=isAgg4,
 z4:=sizeOf4,
 v4:=zeroValue4,
 t5:=underlying5,
 a5:=isAgg5,
 z5:=sizeOf5,
 v5:=zeroValue5,
 t9:=underlying9,
 a9:=isAgg9,
 z9:=sizeOf9,
 v9:=zeroValue9,
 t26:=underlying44,
 a26:=isAgg44,
 z26:=sizeOf44,
 v26:=zeroValue44,
 t27:=underlying44,
 a27:=isAgg44,
 z27:=sizeOf44,
 v27:=zeroValue44,
 t29:=underlying9,
 a29:=isAgg9,
 z29:=sizeOf9,
 v29:=zeroValue9,
 t32:=underlying166,
 a32:=isAgg166,
 z32:=sizeOf166,
 v32:=zeroValue166,
 t35:=underlying235,
 a35:=isAgg235,
 z35:=sizeOf235,
 v35:=zeroValue235,
 t36:=underlying236,
 a36:=isAgg236,
 z36:=sizeOf236,
 v36:=zeroValue236,
 t41:=underlying154,
 a41:=isAgg154,
 z41:=sizeOf154,
 v41:=zeroValue154,
 t44:=underlying90,
 a44:=isAgg90,
 z44:=sizeOf90,
 v44:=zeroValue90,
 t46:=underlying93,
 a46:=isAgg93,
 z46:=sizeOf93,
 v46:=zeroValue93,
 t53:=underlying281,
 a53:=isAgg281,
 z53:=sizeOf281,
 v53:=zeroValue281,
 t57:=underlying285,
 a57:=isAgg285,
 z57:=sizeOf285,
 v57:=zeroValue285,
 t63:=underlying297,
 a63:=isAgg297,
 z63:=sizeOf297,
 v63:=zeroValue297,
 t64:=underlying298,
 a64:=isAgg298,
 z64:=sizeOf298,
 v64:=zeroValue298}
end Go.Proofs
namespace Go.Eng
open Go.Proofs Go.Sort Go.Shelf Go.RowKit
def wI(x:bA):Value:=.string ⟨x.toArray⟩
def bA.enc(x:bA):List Value:=[wI x]
theorem sG:BO 1 DV.str bA.enc where
 pos:=bF
 len:=λ_=>rfl
 lenD:=λ_=>rfl
 one:=λx v a=>by simp[bA.enc]at a;subst a;rfl
 cell:=λx i c v b a w E u=>by
  match i,b,a with
  |0,b,a=>simp[bA.enc,aV]at b a;subst b;subst a;exact⟨λh=>by cases h;rfl,λh=>h▸ .str _⟩
def eE(l:List bA):List bA:=l.mergeSort λx y=>decide (x<=y)
theorem kW(l:List bA):(eE l).length=l.length:=List.length_mergeSort _
theorem KB{a:Array Value}{s:List bA}(h:s.length<=a.size):putCells encStr 0 s.toArray a=(bE 0 a.toList (s.flatMap bA.enc)).toArray:=by
 have b:(s.flatMap bA.enc).length=s.length:=by have:=sG.flat_len s;simpa using this
 apply Array.ext_getElem?;intro i;rw[show(bE 0 a.toList (s.flatMap bA.enc)).toArray[i]? =(bE 0 a.toList (s.flatMap bA.enc))[i]? from bC,iA (by rw[D6,b];simpa using h)];simp only[putCells,Array.getElem?_mapIdx,E9,if_false,D6,E1,b,Nat.sub_zero,B3,true_and];by_cases c:i<s.length
 .have d:i<a.size:=aE;have e:s.flatMap bA.enc=s.map wI:=by
   clear h b c;induction s with
   |nil=>rfl
   |cons x t ih=>simp[bA.enc,ih]
  simp only[c,if_true,D8 d,G6];rw[e];simp[c,getElem!_def,encStr,wI]
 .simp only[c,if_false];rw[Array.getElem?_toList];cases a[i]? <;>rfl
set_option maxRecDepth 100000 in
theorem Bu(l:List bA)(hl:l.length<=8000000000000):iP prog 98 [.ow 0 0 l.length] [(0,.row false 1 (l.map .str))] [(0,.row false 1 ((eE l).map .str))] (.tup []):=by
 refine⟨⟨_,func98,jQ,by rfl⟩,λw X β vs m Z hr=>?_⟩;have G:aL [(0,bI.row false 1 (l.map DV.str))] 0=.row false 1 (l.map .str):=by simp[aL,fU]
 have z:∀o,aL [(0,o)]=cK (aL [(0,bI.row false 1 (l.map DV.str))]) 0 o:=λo=>by
  funext j;simp only[aL,fU,cK];split<;>rfl
 generalize a3:aL [(0,bI.row false 1 (l.map DV.str))]=H at*
 match vs,Z with
 |[v0],_=>
 have r0:=hr 0 _ _ rfl rfl;rcases BJ m G r0 with⟨b,c,a,e,rfl,F,a5,hn,hc,d,V,a2⟩|⟨p,rfl,hz,_⟩
 .have r:=m.obj 0;simp only[dT,G]at r;obtain⟨L,a1,r⟩:=r;rcases r with⟨D,_⟩|⟨b',e',a0,k,g,h,U⟩
  .rw[D]at F;cases F
  rw[F]at k;injection k with k;subst k
  rw[d]at g;injection g with g;injection g with p1 p2;subst p1;subst p2
  rw[F0]at h;have Y:=sG.holds h (λi c v hc hv=>(U i c v hc hv).2);have a4:(l.flatMap bA.enc).length=l.length:=by have:=sG.flat_len l;simpa using this
  have K:∀l:List bA,l.flatMap bA.enc=l.map wI:=λl=>by
   induction l with
   |nil=>rfl
   |cons x t ih=>simp[bA.enc,ih]
  have Q:=(Array.getElem?_eq_some_iff.1 d).1;have B:Holds encStr w b 0 l.toArray:=by
   intro j C;simp only[E1]at C;have J:j<a.size:=aE;refine⟨?_,by simp[World.frozen?,d]⟩;rw[cell_of_row w b _ a e (0,0) d,D6,D8 J];have O:(a.toList.take (l.length*1))[j]? =some a[j]:=by rw[List.getElem?_take,if_pos aE];simp[J]
   rw[Y,K]at O;simp[C]at O;rw[<-O];simp[encStr,wI,C]
  have y:=AnyM.slices_Sort_string Tryz.sortStr b 0 c l w B Q aE;rw[show #[Value.slice (some ⟨b,0,none⟩) l.length c]=[Value.slice (some ⟨b,0*1,none⟩) l.length c].toArray from rfl]at y;refine y.mono ?_;rintro ee w' ⟨rfl,n,os,rfl⟩;have W:=kW l;change ∃v β',_/\dX _ X _ β' (grow (putRow encStr (Sort.ahead w n) b 0 (eE l).toArray) os)/\R (grow (putRow encStr (Sort.ahead w n) b 0 (eE l).toArray) os) _ _ _ _ v;generalize eE l=s at*;have M:(s.flatMap bA.enc).length=s.length:=by have:=sG.flat_len s;simpa using this
  have A:(putRow encStr (Sort.ahead w n) b 0 s.toArray).heap[b]? =some (.cells (bE 0 a.toList (s.flatMap bA.enc)).toArray e (0,0)):=by
   rw[<-KB aE];unfold putRow mapBlock;simp only[heap_ahead,F3,if_pos,d,G6];rfl
  have u:∀j,j≠b->(putRow encStr (Sort.ahead w n) b 0 s.toArray).heap[j]? =w.heap[j]? :=λj C=>by
   unfold putRow mapBlock;simp only[heap_ahead,F3,Ne.symm C,if_false]
  have E:(putRow encStr (Sort.ahead w n) b 0 s.toArray).heap.size=w.heap.size:=bC;have I:a.toList.length=a.size:=bC;have S:(bE 0 a.toList (s.flatMap bA.enc)).toArray.size=a.size:=by rw[E1,fH (by rw[D6,M,I];omega)];exact I
  have N:(bE 0 a.toList (s.flatMap bA.enc)).toArray.toList.take (s.length*1)=s.flatMap bA.enc:=by
   unfold bE;simp[M]
  obtain⟨m1,g1⟩:=m.rewriteG (id:=0) (b:=b) (o':=.row false 1 (s.map .str)) (w':=putRow encStr (Sort.ahead w n) b 0 s.toArray) (by rw[G];rfl) F rfl rfl rfl (Nat.le_add_right _ _) E u (by
   unfold bW;rw[G,bB];refine .inr ⟨⟨false,s.map .str,rfl,by simp[W]⟩,rfl,λb' c' t q f=>?_⟩;rw[F]at q;injection q with q;subst q
   rw[d]at f;injection f with f;injection f with q1 q2;subst q1;subst q2
   exact⟨_,e,A,S⟩) (λ_ _=>by
   unfold dT;rw[bB];obtain⟨z1,z2⟩:=sG.reads N;exact⟨L,sG.all s,.inr ⟨b,e,_,F,A,by simpa using z1,z2 _ _⟩⟩)
  obtain⟨m2,g2⟩:=m1.grow (w':=grow (putRow encStr (Sort.ahead w n) b 0 s.toArray) os) ⟨rfl,rfl,rfl,bC,λj C=>heap_grow_old _ _ C,B0 _⟩;refine⟨_,β,rfl,?_,.tup [] [] rfl bC⟩;rw[z];exact m2
 .have P:l=[]:=B1 hz;subst P;refine(AnyM.slices_Sort_string_none Tryz.sortStr p 0 w).mono ?_;rintro e w' ⟨rfl,rfl⟩;refine⟨_,β,rfl,?_,.tup [] [] rfl bC⟩;rw[z,show eE []=[] from by simp[eE],FA G];exact m
theorem qQ(l:List bA):(eE l).Pairwise λx y=>x<=y:=by
 have:=List.pairwise_mergeSort (le:=λx y:bA=>decide (x<=y)) (λa b c d e=>by simp at*;exact D4 d e) (λa b=>by simp;exact List.le_total a b) l;exact this.imp λh=>by simpa using h
theorem Qc{p s:List bA}(h:p.Perm s):eE p=eE s:=
 List.Perm.eq_of_pairwise (le:=λx y:bA=>x<=y) (λa b _ _ c d=>List.le_antisymm c d) (qQ p) (qQ s) (((F6 p _).trans h).trans (F6 s _).symm)
section
attribute[local simp] aW bJ bE aR
attribute[local simp] lB.cond Nd.d_eq nd_t nd_dr nd_td ndsD aX bK
def KD(ts:List Nd)(d:Df):Int:=
 if(parseS d.text).2.2≠0 then(parseS d.text).2.2
 else if(parseS d.text).1.text≠d.name then 11
 else if(pX ts d.name).isSome=true\/(fB (eE (cQ (parseS d.text).1))).length<(cQ (parseS d.text).1).length then 7 else 0
def EY(ts:List Nd):List Df->List Nd×Int×Int
 |[]=>(ts,((ts.length:Nat):Int),0)
 |d::r=>if KD ts d=0 then EY (ts++[(parseS d.text).1]) r else(ts,((ts.length:Nat):Int),KD ts d)
def dR(l:List Df):List Nd×Int×Int:=if 24<l.length then([],0,4)else EY [] l
theorem Vs(n:Nat):qM (n+1)=qM n++[aJ (n:Int)]:=by unfold qM;rw[List.range_succ,List.map_append];rfl
theorem aDp{H:dQ}{id:Nat}{ts:List Nd}{n i:Nat}{a:bA}(c:pX ts a=none)(b:n=i)(h:H id=.map false (qB ts) (qM n)):
 cI T H 136 (.mp id) (.d (.str a)) (.d (aJ (i:Int)))=⟨.junk,True,[(id,.map false (qB ts++[.str a]) (qM (n+1)))]⟩:=by
 subst b;unfold cI;simp only[aED,h,uP,c,Vs];simp[tQ,bU,gP]
theorem aBN{H:dQ}{ts:List Nd}{id n:Nat}(b:n=ts.length){a:bA}(h:H id=.map false (qB ts) (qM n)):dB T H 136 (.mp id) (.d (.str a)) true=⟨.tup [.d (aJ (atI ts a)),.d (.bool (pX ts a).isSome)],True,[]⟩:=by
 subst b;unfold atI;cases q:pX ts a with
 |none=>simp[dB,tR,h,uP,q]
 |some j=>
  have:=Sv (yT q);simp[dB,tR,h,uP,q,this]
theorem KE(s:bA):(cQ (parseS s).1).length<=1000000000:=by
 have a:=DW (parseS s).1.kids;have b:=weighN_eq (parseS s).1;have c:=weigh_len (l:=(parseS s).1.kids);have d:=pT s;show(lN (parseS s).1.kids).length<=_;omega
theorem aBO{l:List Df}{i:Nat}(h:i<l.length):l.drop i=l[i]::l.drop (i+1):=B6 h
theorem wJ{ts:List Nd}{d:Df}{r:List Df}(h:KD ts d≠0):EY ts (d::r)=(ts,((ts.length:Nat):Int),KD ts d):=by rw[EY,if_neg h]
theorem KF{ts:List Nd}{d:Df}{r:List Df}(h:KD ts d=0):EY ts (d::r)=EY (ts++[(parseS d.text).1]) r:=by rw[EY,if_pos h]
theorem Vt(a:List Nd)(t:Nd):qB (a++[t])=qB a++[.str t.text]:=by unfold qB;simp
theorem aBP(l:List Df):Ok prog 170 [gG l] ⟨.tup [.d (Bn (dR l).1),.d (aJ (dR l).2.1),.d (aJ (dR l).2.2)],false⟩:=by
 refine Aa hT func170 jQ (c:=_) rfl ntmps170 bC results170 bC (by rfl) λN X D=>?_;apply aD;simp;apply aD;simp;refine iU (fz:=false) (cs:=[.nl,.mp 14]) 5 0 1078 4 bF ⟨bC,bC,bC,?_⟩;simp;apply aF;apply aP;simp;refine⟨λG=>?_,λG=>?_⟩
 .apply aD;simp;apply aH;simp[dR,Bn,qB,qM,show 24<l.length by omega]
 .apply aG;simp;apply dA;simp;apply aM;refine aO (ι:=Nat×List Nd) (λ⟨i,b⟩=>aQ [(0,.d (gG l)),(2,.bx 2 0),(5,.bx 5 0),(20,.d (gG l)),(21,.d (aJ (l.length:Nat))),(22,.d (aJ (i:Nat)))]) (λ⟨i,b⟩=>aL [(2,.box false [.nl,.d (.val (.map none))]),(5,.box false [.ow 1078 0 b.length,.mp 14]),(14,.map false (qB b) (qM b.length)),(1078,.row false 4 (b.map Nd.d))]) (λ⟨i,b⟩=>i<=l.length/\b.length=i/\dR l=EY b (l.drop i)) (λ⟨i,b⟩=>l.length-i) (0,[]) (aA D [0,2,5,20,21,22] [(2,2),(5,5),(14,14),(1078,1078)] (hH:=by simp[qB,qM])) (⟨B3 _,rfl,by unfold dR;rw[if_neg aE];rfl⟩) λ⟨i,b⟩ y=>?_;obtain⟨J,f,a⟩:=y;have k:H5 i (G7 Nd.d b)=G7 Nd.d b:=A9 (by rw[F0,f];exact B0 _);apply aD;simp;apply aF;apply aK;simp;refine⟨λH=>?_,λH=>?_⟩
  .apply aG;simp;apply cR;apply aF;have C:i<l.length:=aE;obtain⟨d,B⟩:∃d,l[i]=d:=⟨_,rfl⟩;rw[aBO C,B]at a;apply aI;simp[C,B];apply aF;have A:=Cz d.text;obtain⟨P,w⟩:∃P,parseS d.text=P:=⟨_,rfl⟩;have q:=pT d.text;have s:=KE d.text;rw[w]at A q s;obtain⟨x,E⟩:∃x,P.1=x:=⟨_,rfl⟩;have g:KD b d=if P.2.2≠0 then P.2.2 else if P.1.text≠d.name then 11 else if(pX b d.name).isSome=true\/(fB (eE (cQ P.1))).length<(cQ P.1).length then 7 else 0:=by unfold KD;rw[w]
   rw[E]at A q s g;refine aU (og 30 (.plain ⟨.tup [.d x.d,.d (aJ P.2.1),.d (aJ P.2.2)],false⟩)) ?_;simp[bM];refine⟨by simpa using A,?_⟩;apply aF;apply aP;simp;refine⟨λt=>?_,λt=>?_⟩
   .have j:KD b d=P.2.2:=(by rw[g,if_pos t]);rw[wJ (by rw[j];exact t),j]at a;apply aD;simp;apply aH;simp[a,Bn,f,k]
   .have v:¬P.2.2≠0:=by simpa using t
    rw[if_neg v]at g;apply aG;simp;apply aF;apply aP;simp;refine⟨λn=>?_,λn=>?_⟩
    .have j:KD b d=11:=by rw[g,if_pos (by simpa using n)]
     rw[wJ (by rw[j];decide),j]at a;apply aD;simp;apply aH;simp[a,Bn,f,k]
    .have r:¬x.text≠d.name:=by simpa using n
     rw[if_neg r]at g;apply aG;simp;apply aF;have F:=Iu x q;simp at F;refine aU (og 47 (.plain ⟨.own 1 ((cQ x).map .str),true⟩)) ?_;simp;refine⟨by simpa using F,?_⟩;apply aF;have M:=Bu (cQ x) aE;refine aU (og 49 (.gen ⟨[(47,0)],[],[],[(0,.row false 1 ((eE (cQ x)).map .str))],.tup []⟩)) ?_;simp;refine⟨by simpa using M,?_⟩;apply dA;simp[aBN (ts:=b) rfl,bM];apply aF;by_cases m:(pX b d.name).isSome=true
     .refine vG hT hW (λ_=>none) (by intro d;first|exact⟨rfl,λ_ h=>h⟩|(split<;>exact⟨rfl,λ_ h=>h⟩)) ?_;simp[m];have j:KD b d=7:=by rw[g,if_pos (.inl m)]
      rw[wJ (by rw[j];decide),j]at a;apply aK;simp[m];apply aD;simp;apply aH;simp[a,Bn,f,k]
     .have o:pX b d.name=none:=by simpa using m
      have p:=kW (cQ x);have K:=Mv (eE (cQ x)) aE;have L:=Hu (eE (cQ x)) aE;have I:=vZ (eE (cQ x));have z:H5 (cQ x).length (G7 DV.str (eE (cQ x)))=G7 DV.str (eE (cQ x)):=A9 (by rw[F0,p];exact B0 _);refine aU (λ|61=>some<| .plain ⟨.own 1 ((eE (cQ x)).map .str),true⟩|62=>some (.gen ⟨[(61,0)],[],[],[(0,.row false 1 ((fB (eE (cQ x))).map .str++List.replicate ((eE (cQ x)).length-(fB (eE (cQ x))).length) (.str [])))],.ow 0 0 (fB (eE (cQ x))).length⟩)|_=>none) ?_;simp[o,p,z];refine⟨⟨by simpa using K,by simpa [p]using L⟩,?_⟩;apply aK;simp;refine⟨λu=>?_,λu=>?_⟩
      .have j:KD b d=7:=(by rw[g,if_pos (.inr aE)]);rw[wJ (by rw[j];decide),j]at a;apply aD;simp;apply aH;simp[a,Bn,f,k]
      .have j:KD b d=0:=by rw[g,if_neg (by rintro(h|h);exact m h;omega)]
       rw[KF j,w,E]at a;apply aG;simp;refine fL.rd [[77,78,1078],[77,78,1078],[5,77,78,1078],[5,77,78,1078],[77],[77],[],[],[],[5,77,78,1078]] [[],[],[],[],[],[],[],[77],[78,1078],[],[],[5],[14]] (λ_=>none) ?_;simp[aDp (ts:=b) o f];refine⟨⟨aE,aE⟩,?_⟩;apply aI;simp;refine⟨aE,?_⟩;refine QT.mk (i+1,b++[x]) (aA D [0,2,5,20,21,22] [(2,2),(5,5),(14,14),(78,1078)] (hH:=by simp[Vt,n])) ?_ ?_
       .exact⟨aE,by simp[f],a⟩
       .omega
  .apply bG;simp;apply aD;simp;apply aH;have e:i=l.length:=aE;rw[e,List.drop_length,EY]at a;rw[e]at k;simp[a,Bn,f,e,k]
theorem Nq:∀(l:List Df) (a:List Nd),(∀t∈a,∃s,t=(parseS s).1)->(∀t∈(EY a l).1,∃s,t=(parseS s).1)/\a.length<=(EY a l).1.length/\(EY a l).1.length<=a.length+l.length/\((EY a l).2.2=0->(EY a l).1.length=a.length+l.length/\(EY a l).2.1=((a.length+l.length:Nat):Int))
 |[],a,h=>⟨h,B0 _,B0 _,λ_=>⟨rfl,rfl⟩⟩
 |d::r,a,h=>by
  by_cases e:KD a d=0
  .rw[KF e];obtain⟨f,g,i,c⟩:=Nq r (a++[(parseS d.text).1]) λt b=>by
    rcases F1.1 b with b|b
    .exact h t b
    .exact⟨d.text,by simpa using b⟩
   simp only[A2,D1,C0]at g i c|-;refine⟨f,aE,aE,λe=>?_⟩;obtain⟨k,j⟩:=c e;exact⟨aE,by rw[j];congr 1;omega⟩
  .rw[wJ e];exact⟨h,B0 _,bC,λh=>absurd h e⟩
theorem wK(l:List Df):(∀t∈(dR l).1,∃s,t=(parseS s).1)/\(dR l).1.length<=24/\((dR l).2.2=0->l.length<=24/\(dR l).1.length=l.length/\(dR l).2.1=(l.length:Int)):=by
 unfold dR;by_cases h:24<l.length
 .rw[if_pos h];exact⟨bC,bC,λh=>by simp at h⟩
 .rw[if_neg h];obtain⟨b,d,c,a⟩:=Nq l [] bC;simp only[C0,D6]at c a;exact⟨b,aE,λe=>⟨aE,(a e).1,(a e).2⟩⟩
theorem Vu(M:List Nat){H:dQ}{k:Nat}:dB T H 155 (.d (.mp (Ci M) (Ht M))) (.d (aJ (k:Int))) false=⟨.d (.bool (decide (k∈M))),True,[]⟩:=Mt M rfl
def GP(k:Int):Bool:=decide (k=14)
def KG(ts:List Nd)(i:Nat):Bool:=decide (Hs ts (ts.getD i default)≠0)
def KH(ts:List Nd)(i:Nat):Bool:=decide (i∈kE ts GP i)
def eV(p:Nat->Bool)(n:Nat):Option Nat:=(G8 n).find? p
theorem zC{p:Nat->Bool}{n i:Nat}(g:i<n)(h:∀j<i,p j=false)(a:p i=true):eV p n=some i:=by
 unfold eV;rw[List.find?_eq_some_iff_append];refine⟨a,G8 i,(G8 (n-i-1)).map (·+(i+1)),?_,λj b=>by simp[h j (G9.1 b)]⟩;apply List.ext_getElem
 .simp;omega
 .intro k d f;rw[List.getElem_range,List.getElem_append];split
  .simp
  .rename_i c;simp only[E2,Nat.not_lt]at c;rw[List.getElem_cons];split
   .rename_i e;simp only[E2]at e;omega
   .rename_i e;simp only[E2]at e;simp;omega
theorem zD{p:Nat->Bool}{n:Nat}(h:∀j<n,p j=false):eV p n=none:=by
 unfold eV;rw[List.find?_eq_none];intro j a;simp[h j (G9.1 a)]
def nS(l:List Df):List Nd×Int×Int:=
 if(dR l).2.2≠0 then dR l
 else match eV (KG (dR l).1) (dR l).1.length with
  |some i=>((dR l).1,(i:Int),Hs (dR l).1 ((dR l).1.getD i default))
  |none=>match eV (KH (dR l).1) (dR l).1.length with
   |some i=>((dR l).1,(i:Int),13)
   |none=>((dR l).1,(l.length:Int),0)
theorem GQ(l:List Df):Ok prog 97 [gG l] ⟨.tup [.d (Bn (nS l).1),.d (aJ (nS l).2.1),.d (aJ (nS l).2.2)],false⟩:=by
 refine Aa hT func97 jQ (c:=_) rfl ntmps97 bC results97 bC (by rfl) λP X y=>?_;obtain⟨R,L⟩:∃R,dR l=R:=⟨_,rfl⟩;obtain⟨a,w⟩:∃a,R.1=a:=⟨_,rfl⟩;have H:=aBP l;have x:=wK l;have b:nS l=if(dR l).2.2≠0 then dR l else match eV (KG (dR l).1) (dR l).1.length with|some i=>((dR l).1,(i:Int),Hs (dR l).1 ((dR l).1.getD i default))|none=>match eV (KH (dR l).1) (dR l).1.length with|some i=>((dR l).1,(i:Int),13)|none=>((dR l).1,(l.length:Int),0):=rfl
 rw[L]at H x b;rw[w]at H x b;have G:∀t∈a,weighN t<=1000000000:=λt v=>by obtain⟨s,rfl⟩:=x.1 t v;exact pT s
 have J:a.length<=24:=x.2.1;apply aD;simp;refine cP (og 14 (.plain ⟨.tup [.d (Bn a),.d (aJ R.2.1),.d (aJ R.2.2)],false⟩)) ?_;simp[bM];refine⟨⟨by simpa using H,by simp[Bn]⟩,?_⟩;simp[Bn];apply aF;apply aP;simp;refine⟨λA=>?_,λA=>?_⟩
 .rw[if_pos A]at b;apply aD;simp;apply aH;simp[b,w,Bn]
 .have r:R.2.2=0:=by simpa using A
  obtain⟨M,N,_⟩:=x.2.2 r;rw[if_neg (by simpa using r)]at b;apply aG;simp;apply dA;simp;apply aM;refine aO (ι:=Nat) (λi=>aQ [(0,.d (gG l)),(2,.bx 2 0),(5,.bx 5 0),(24,.d (ndsD a)),(25,.d (aJ (a.length:Nat))),(26,.d (aJ (i:Nat)))]) (λi=>aL [(2,.box false [.nl,.d (.val (.map none))]),(5,.box false [.d (ndsD a),.d (.mp (qB a) (qM a.length))])]) (λi=>i<=a.length/\∀j<i,KG a j=false) (λi=>a.length-i) 0 (aA y [0,2,5,24,25,26] [(2,2),(5,5)]) (⟨B3 _,λj h=>absurd h (E9 _)⟩) λi q=>?_;apply aD;simp;apply aF;apply aK;simp;refine⟨λK=>?_,λK=>?_⟩
  .apply aG;simp;apply cR;apply aF;have o:i<a.length:=aE;obtain⟨t,v⟩:∃t,a[i]=t:=⟨_,rfl⟩;have F:t∈a:=by rw[<-v];exact E5 o
   have g:a.getD i default=t:=(by rw[C6,A4 o,v];rfl);have u:KG a i=decide (Hs a t≠0):=by unfold KG;rw[g]
   have O:=PA a t (G t F) G;apply aI;simp[o,v];refine cP (og 33 (.plain ⟨.d (aJ (Hs a t)),true⟩)) ?_;simp;refine⟨by simpa [Bn]using O,?_⟩;apply aP;simp;refine⟨λB=>?_,λB=>?_⟩
   .have C:=zC o q.2 (by rw[u];simpa using B);rw[C]at b;simp only[g]at b;apply aD;simp;apply aH;simp[b,Bn]
   .have d:KG a i=false:=by rw[u];simpa using B
    apply aG;simp;apply aI;simp;refine⟨aE,?_⟩;refine QT.mk (i+1) (aA y [0,2,5,24,25,26] [(2,2),(5,5)]) ?_ ?_
    .refine⟨aE,λj f=>?_⟩;rcases E4.1 f with f|rfl
     .exact q.2 j f
     .exact d
    .omega
  .apply bG;simp;apply eG;have D:=zD (p:=KG a) (n:=a.length) λj f=>q.2 j aE;rw[D]at b;apply aI;simp;apply aM;refine aO (ι:=Nat) (λi=>aQ [(0,.d (gG l)),(2,.bx 2 0),(5,.bx 5 0),(42,.d (aJ (a.length:Nat))),(43,.d (aJ (i:Nat)))]) (λi=>aL [(2,.box false [.nl,.d (.val (.map none))]),(5,.box false [.d (ndsD a),.d (.mp (qB a) (qM a.length))])]) (λi=>i<=a.length/\∀j<i,KH a j=false) (λi=>a.length-i) 0 (aA y [0,2,5,42,43] [(2,2),(5,5)]) (⟨B3 _,λj h=>absurd h (E9 _)⟩) λi e=>?_;apply aD;simp;apply aF;apply aK;simp;refine⟨λz=>?_,λz=>?_⟩
   .apply aG;simp;apply cR;apply aD;simp;apply aF;have o:i<a.length:=aE;have I:=Gi a GP 172 i G (λk=>UP k) o;refine aU (og 48 (.plain ⟨.d (.mp (Ci (kE a GP i)) (Ht (kE a GP i))),false⟩)) ?_;simp[Vu (kE a GP i)];refine⟨by simpa [Bn]using I,?_⟩;apply aK;simp;refine⟨λm=>?_,λm=>?_⟩
    .have C:=zC o e.2 (by simpa [KH]using m);rw[C]at b;apply aD;simp;apply aH;simp[b,Bn]
    .have d:KH a i=false:=by simpa [KH]using m
     apply aG;simp;apply aI;simp;refine⟨aE,?_⟩;refine QT.mk (i+1) (aA y [0,2,5,42,43] [(2,2),(5,5)]) ?_ ?_
     .refine⟨aE,λj f=>?_⟩;rcases E4.1 f with f|rfl
      .exact e.2 j f
      .exact d
     .omega
   .apply bG;simp;apply aD;simp;apply aH;have E:=zD (p:=KH a) (n:=a.length) λj f=>e.2 j aE;rw[E]at b;simp[b,Bn]
def AH(a b:bA):Int:=if Op.bytesLess a b=true then -1 else if a=b then 0 else 1
theorem KI{a b:bA}:AH a b<0↔Op.bytesLess a b=true:=by
 unfold AH;by_cases c:Op.bytesLess a b=true
 .rw[if_pos c];simp[c]
 .rw[if_neg c];split<;>simp[c]
def iG(out:List Df)(x:Df):List Df:=gU (lH (λy=>Op.bytesLess x.name y.name) out out.length) x out
def bP(l:List Df):List Df:=l.foldl iG []
theorem Nr(a:List Df)(x:Df):(iG a x).length=a.length+1:=vS
theorem dW(l:List Df):(bP l).length=l.length:=by
 have:∀(l a:List Df),(l.foldl iG a).length=a.length+l.length:=λl=>by
  induction l with
  |nil=>intro a;rfl
  |cons x r ih=>intro a;rw[B5,ih,Nr,D1];omega
 rw[bP,this];simp
theorem Bv{l:List Df}{i:Nat}(h:i<l.length):bP (l.take (i+1))=iG (bP (l.take i)) l[i]:=by
 unfold bP;rw[B2 h,C4];rfl
def iZ(A o t:List Df)(x:Df)(j:Nat):List Df:=A++(gU j x o++t)
theorem zE{A o t:List Df}{x:Df}{j:Nat}:(iZ A o t x j).length=A.length+o.length+1+t.length:=by
 unfold iZ;rw[A2,A2,vS];omega
theorem SO{A o t:List Df}{x:Df}{j:Nat}(b:j<=o.length)(h:A.length+j<(iZ A o t x j).length):(iZ A o t x j)[A.length+j]=x:=by
 have a:(iZ A o t x j)[A.length+j]? =some x:=by
  unfold iZ gU;rw[A1 aE,A0,A8 jJ,A1 jJ];simp[Nat.min_eq_left b]
 rw[A4 h]at a;exact Option.some.inj a
theorem Jb{A o t:List Df}{x:Df}{j:Nat}(b:j<o.length)(h:A.length+j<(iZ A o t x (j+1)).length):(iZ A o t x (j+1))[A.length+j]=o[j]:=by
 have a:(iZ A o t x (j+1))[A.length+j]? =some o[j]:=by
  unfold iZ gU;rw[A1 aE,A0,A8 jJ,A8 jJ,List.getElem?_take_of_lt aE,A4 b]
 rw[A4 h]at a;exact Option.some.inj a
theorem Jc{A o t:List Df}{x:Df}{j:Nat}(a:j<o.length):((iZ A o t x (j+1)).set (A.length+(j+1)) o[j]).set (A.length+j) x=iZ A o t x j:=by
 unfold iZ gU;have c:o.take (j+1)=o.take j++[o[j]]:=B2 a;have d:o.drop j=o[j]::o.drop (j+1):=B6 a;have b:(o.take j).length=j:=jJ;rw[c,d];rw[A3 _ _ aE,A0,A3 _ _ aE,A0];congr 1;simp only[B4,D3,C8];rw[A3 _ _ aE,b,show j+1-j=1 by omega,A3 _ _ aE,b,H6];rfl
theorem ZH{A o t s:List Df}{x:Df}{a j:Nat}(b:A.length=a)(e:s=iZ A o t x j)(c:j<=o.length)(h:a+j<s.length):s[a+j]=x:=by
 subst e;subst b;exact SO c h
theorem Qd{A o t s:List Df}{x:Df}{a j:Nat}(b:A.length=a)(e:s=iZ A o t x (j+1))(c:j<o.length)(h:a+j<s.length):s[a+j]=o[j]:=by
 subst e;subst b;exact Jb c h
def Is{α:Type}(a b:α):Prop:=a=b
theorem En(s:bA):Ok prog 153 [.str s] ⟨.d (.bool false),true⟩:=by
 refine bL func153 rfl ntmps153 results153 λb X a=>?_;apply aD;simp;apply aD;simp;apply aH;simp
theorem Vv(a b:bA):Ok prog 84 [.str a,.str b] ⟨.d (aJ (AH a b)),true⟩:=by
 refine bL func84 rfl ntmps84 results84 λh X g=>?_;apply aD;simp;refine cP (og 8 (.plain ⟨.d (.bool false),true⟩)) ?_;simp;refine⟨En a,?_⟩;refine cP (og 10 (.plain ⟨.d (.bool false),true⟩)) ?_;simp;refine⟨En b,?_⟩;apply aF;apply aP;simp;apply aG;simp;apply aF;apply aP;simp;apply aG;simp;apply aF;apply aP;simp;refine⟨λd=>?_,λd=>?_⟩
 .apply aD;simp;apply aH;simp[AH,d]
 .apply aG;simp;apply aF;apply aP;simp;refine⟨λc f=>?_,λc=>?_⟩
  .apply aD;simp;apply aH;simp[AH,d,f]
  .apply aG;simp;apply aD;simp;apply aH;have e:=c d;subst e;simp[AH,d]
theorem CA(a b:Df):Ok prog 83 [a.d,b.d] ⟨.d (aJ (AH a.name b.name)),true⟩:=by
 refine bL func83 rfl ntmps83 results83 λd X c=>?_;apply aD;simp;refine cP (og 9 (.plain ⟨.d (aJ (AH a.name b.name)),true⟩)) ?_;simp;refine⟨Vv _ _,?_⟩;apply aH;simp
theorem GR(A C D:List Df)(V:(A++C++D).length<=1000000):iP prog 226 [.ow 0 0 (A++C++D).length,.d (aJ A.length),.d (aJ (A.length+C.length)),.d (.fn 83 [])] [(0,.row false 2 ((A++C++D).map Df.d))] [(0,.row false 2 ((A++bP C++D).map Df.d))] (.tup []):=by
 obtain⟨N,K⟩:∃N,(A++C++D).length=N:=⟨_,rfl⟩;obtain⟨a,m⟩:∃a,A.length=a:=⟨_,rfl⟩;have I:A++C++D=A++(bP (C.take 1)++(C.drop 1++D)):=by cases C<;>simp[bP,iG,gU,lH]
 rw[K]at V|-;rw[m];have v:a+C.length+D.length=N:=by rw[<-K,<-m];simp;omega
 refine oH func226 rfl ntmps226 results226 λw0 X k=>?_;apply aD;simp;refine⟨aE,?_⟩;apply aM;refine aO (ι:=Nat×List Df) (λ⟨i,r⟩=>aQ [(0,.ow 0 0 N),(1,.d (aJ a)),(2,.d (aJ (a+C.length))),(3,.d (.fn 83 [])),(8,.d (aJ (a+i)))]) (λ⟨i,r⟩=>aL [(0,.row false 2 (r.map Df.d))]) (λ⟨i,r⟩=>1<=i/\i<=C.length+1/\r=A++(bP (C.take i)++(C.drop i++D))) (λ⟨i,r⟩=>C.length+1-i) (1,A++C++D) (aA k [0,1,2,3,8] [(0,0)]) (⟨aE,aE,I⟩) λ⟨i,r⟩ g=>?_;apply aF;apply aP;simp;refine⟨λQ=>?_,λQ=>?_⟩
 .apply aG;simp;refine aY (ι:=List Df) (λs=>aQ [(0,.ow 0 0 N),(1,.d (aJ a)),(2,.d (aJ (a+C.length))),(3,.d (.fn 83 [])),(8,.d (aJ (a+i)))]) (λs=>aL [(0,.row false 2 (s.map Df.d))]) (λs=>Is s (A++(bP (C.take (i+1))++(C.drop (i+1)++D)))) ?_ λs w=>?_
  .apply aM;apply aF;have L:i<C.length:=aE;obtain⟨g,B,F⟩:=g;obtain⟨x,M⟩:∃x,C[i]=x:=⟨_,rfl⟩;obtain⟨o,E⟩:∃o,bP (C.take i)=o:=⟨_,rfl⟩;have c:o.length=i:=by rw[<-E,dW,A6];omega
   obtain⟨t,J⟩:∃t,C.drop (i+1)++D=t:=⟨_,rfl⟩;have z:C.drop i=x::C.drop (i+1):=by rw[<-M];exact B6 L
   have H:r=iZ A o t x i:=by
    have O:o.take i=o:=A9 (by rw[c];exact B0 _);have P:o.drop i=[]:=C1 (by rw[c];exact B0 _);rw[F,E,z,<-J];unfold iZ gU;rw[O,P];simp
   have f:∀j,(iZ A o t x j).length=N:=λj=>by rw[zE,<-v,<-J,c,m,A2,B7];omega
   have d:∀j,j<=i->lH (λy=>Op.bytesLess x.name y.name) o i=j->iZ A o t x j=A++(bP (C.take (i+1))++(C.drop (i+1)++D)):=λj _ U=>by
    rw[Bv L,E,M];unfold iG iZ;rw[c,U,<-J]
   apply aI;simp;apply aM;refine aO (ι:=Nat×List Df) (λ⟨j,s⟩=>aQ [(0,.ow 0 0 N),(1,.d (aJ a)),(2,.d (aJ (a+C.length))),(3,.d (.fn 83 [])),(8,.d (aJ (a+i))),(9,.d (aJ (a+j)))]) (λ⟨j,s⟩=>aL [(0,.row false 2 (s.map Df.d))]) (λ⟨j,s⟩=>j<=i/\s=iZ A o t x j/\lH (λy=>Op.bytesLess x.name y.name) o i=lH (λy=>Op.bytesLess x.name y.name) o j) (λ⟨j,s⟩=>j) (i,r) (aA k [0,1,2,3,8,9] [(0,0)]) (⟨B0 _,H,rfl⟩) λ⟨j,s⟩ b=>?_;apply eG;rcases j with _|j
   .refine fL.rd [] [[],[],[],[],[],[],[],[],[],[],[],[],[],[],[32]] (λ_=>none) ?_;simp[B3];apply aK;simp[B3];apply bG;simp;refine aAV.mk s (aA k [0,1,2,3,8] [(0,0)]) ?_;exact b.2.1.trans (d 0 (B3 _) (by rw[b.2.2];rfl))
   .have p:a+(j+1)<s.length:=by rw[b.2.1,f];have:=b.1;omega
    have h:j<o.length:=by have:=b.1;omega
    have u:s[a+(j+1)]=x:=ZH m b.2.1 aE p;have q:s[a+j]=o[j]:=Qd m b.2.1 h aE;refine fL.rd [] [[],[],[],[],[],[],[],[],[],[],[],[],[],[],[32]] (og 32 (.plain ⟨.d (aJ (AH s[a+(j+1)].name s[a+j].name)),true⟩)) ?_;simp[p,(show a+j<s.length by omega),(show(a:Int)<(a:Int)+((j:Int)+1)by omega),(show((a:Int)+((j:Int)+1)).toNat=a+(j+1)by omega),(show a+(j+1)- 1=a+j by omega)];have Y:s.length=N:=by rw[b.2.1,f]
    refine⟨⟨⟨⟨⟨aE,aE⟩,aE⟩,aE⟩,by simpa using CA s[a+(j+1)] s[a+j]⟩,?_⟩;apply aK;simp;refine⟨λn=>?_,λn=>?_⟩
    .apply aG;simp;apply cR;refine fL.rd [[],[],[0],[0],[0]] [[],[],[],[],[],[],[],[],[],[],[],[],[],[],[],[0],[],[0]] (λ_=>none) ?_;simp[p,(show a+j<s.length by omega),(show((a:Int)+((j:Int)+1)).toNat=a+(j+1)by omega),(show a+(j+1)- 1=a+j by omega)];refine⟨aE,?_⟩;apply aI;simp;refine⟨aE,?_⟩;refine QT.mk (j,(s.set (a+(j+1)) s[a+j]).set (a+j) s[a+(j+1)]) (aA k [0,1,2,3,8,9] [(0,0)] (by simp[show(a:Int)+((j:Int)+1)- 1=a+j by omega]) (by simp[E7,Df.d])) ?_ ?_
     .have l:Op.bytesLess x.name o[j].name=true:=KI.1 (by rw[u,q]at n;exact n);refine⟨AI,?_,?_⟩
      .show(s.set (a+(j+1)) s[a+j]).set (a+j) s[a+(j+1)]=iZ A o t x j;rw[u,q,b.2.1,<-m];exact Jc h
      .show _=lH _ o j;rw[b.2.2];exact Ac h l
     .omega
    .apply bG;simp;refine aAV.mk s (aA k [0,1,2,3,8] [(0,0)]) ?_;have l:¬Op.bytesLess x.name o[j].name=true:=λe=>by rw[u,q]at n;have:=KI.2 e;omega
     exact b.2.1.trans (d (j+1) b.1 (by rw[b.2.2];exact qW λZ S W=>(by have e:Z=j:=aE;subst e;simpa using l)))
  .apply aI;simp;refine⟨aE,?_⟩;refine QT.mk (i+1,s) (aA k [0,1,2,3,8] [(0,0)] (by simp[show(a:Int)+(i:Int)+1=a+((i:Int)+1)by omega])) ?_ ?_
   .exact⟨AI,AI,w⟩
   .omega
 .apply bG;simp;obtain⟨_,B,F⟩:=g;have G:r=A++(bP C++D):=by rw[F,A9 aE,C1 aE,C8]
  exact aA k [] [(0,0)] (hH:=by simp[G])
theorem Jd(out:List Df)(x:Df):(iG out x).Perm (x::out):=by
 unfold iG gU;refine E6.trans ?_;rw[A7]
theorem oN(l:List Df):(bP l).Perm l:=by
 have:∀(l out:List Df),(l.foldl iG out).Perm (out++l):=λl=>by
  induction l with
  |nil=>intro out;rw[C3];exact List.Perm.refl _
  |cons x r ih=>
   intro out;rw[B5];exact(ih _).trans (((Jd out x).append_right r).trans (by simpa using(E6 (a:=x) (l₁:=out) (l₂:=r)).symm))
 simpa [bP]using this l []
theorem Eo{out:List Df}{x:Df}(h:out.Pairwise λa b=>a.name<=b.name):(iG out x).Pairwise λa b=>a.name<=b.name:=by
 obtain⟨r,s⟩:=Dj (p:=λy:Df=>Op.bytesLess x.name y.name) (out:=out) out.length (B0 _);have q:=EP (p:=λy:Df=>Op.bytesLess x.name y.name) (out:=out) out.length;unfold iG gU;generalize lH (λy:Df=>Op.bytesLess x.name y.name) out out.length=k at*;have m:∀a∈out.take k,a.name<=x.name:=λa l=>by
  obtain⟨i,n,rfl⟩:=A5 l;rw[B8];rw[A6]at n;obtain⟨d,rfl⟩:∃d,k=d+1:=⟨k-1,aE⟩;have o:i<=d:=aE;have j:d<out.length:=aE;have f:=s d j rfl;rw[bytesLess_eq,decide_eq_false_iff_not,F4]at f;by_cases e:i=d
  .subst e;exact f
  .exact D4 (D9.1 h i d aE j aE) f
 have l:∀b∈out.drop k,x.name<=b.name:=λb m=>by
  obtain⟨i,n,rfl⟩:=A5 m;rw[B9];rw[B7]at n;have f:=r (k+i) aE aE aE;rw[bytesLess_eq,decide_eq_true_eq]at f;exact List.le_of_lt f
 refine List.pairwise_append.2 ⟨h.sublist (G2 _ _),C9.2 ⟨l,h.sublist (G3 _ _)⟩,λa g b c=>?_⟩;rcases F9.1 c with rfl|c
 .exact m a g
 .exact D4 (m a g) (l b c)
theorem qR(l:List Df):(bP l).Pairwise λa b=>a.name<=b.name:=by
 have:∀(l c:List Df),(c.Pairwise λa b=>a.name<=b.name)->(l.foldl iG c).Pairwise λa b=>a.name<=b.name:=λl=>by
  induction l with
  |nil=>exact λc h=>h
  |cons x r ih=>exact λc h=>ih _ (Eo h)
 exact this l [] List.Pairwise.nil
theorem SP{V U:List Df}{i:Nat}(a:i<U.length)(b:i<V.length):(V.take i++U.drop i).set i V[i]=V.take (i+1)++U.drop (i+1):=by
 rw[B6 a,A3 _ _ (by rw[A6];omega),show i-(V.take i).length=0 by rw[A6];omega,B2 b,B4];rfl
theorem tB{V U:List Df}{i:Nat}(h:V.length=U.length)(a:i<=U.length):(V.take i++U.drop i).length=U.length:=by
 rw[A2,A6,B7];omega
theorem ZI{V U:List Df}{i:Nat}(h:V.length=U.length)(a:i<U.length):(V.take i++U.drop i)[i]? =some U[i]:=by
 rw[A1 (by rw[A6];omega),A6,show i-min i V.length=0 by omega,G0,E8,A4 a]
def nT(A U M V D:List Df)(i:Nat):List Df:=A++((V.take i++U.drop i)++(M++((U.take i++V.drop i)++D)))
section
variable{A U M V D:List Df} {i:Nat}
theorem Vw(h:V.length=U.length)(a:i<=U.length):(nT A U M V D i).length=A.length+U.length+M.length+V.length+D.length:=by
 unfold nT;simp only[A2,A6,B7];omega
theorem Vx(h:V.length=U.length)(a:i<U.length):(nT A U M V D i)[A.length+i]? =some U[i]:=by
 unfold nT;rw[A1 aE,A0,A8 (by rw[tB h aE];exact a),ZI h a]
theorem Vy(h:V.length=U.length)(a:i<U.length):(nT A U M V D i)[A.length+U.length+M.length+i]? =some (V[i]'aE):=by
 unfold nT;rw[A1 aE,show A.length+U.length+M.length+i-A.length=U.length+(M.length+i)by omega,A1 (by rw[tB h aE];omega),tB h aE,A0,
  A1 aE,A0,A8 (by rw[tB h.symm aE];omega),ZI h.symm aE]
theorem Vz(h:V.length=U.length)(a:i<U.length):((nT A U M V D i).set (A.length+i) (V[i]'aE)).set (A.length+U.length+M.length+i) U[i]=nT A U M V D (i+1):=by
 have b:(nT A U M V D i).set (A.length+i) (V[i]'aE)=A++((V.take (i+1)++U.drop (i+1))++(M++((U.take i++V.drop i)++D))):=by
  unfold nT;rw[A3 _ _ aE,A0,F5 _ _ (by rw[tB h aE];exact a),SP a aE]
 rw[b];unfold nT;rw[A3 _ _ aE,show A.length+U.length+M.length+i-A.length=U.length+(M.length+i)by omega,A3 _ _ (by rw[tB h aE];omega),tB h aE,A0,
  A3 _ _ aE,A0,F5 _ _ (by rw[tB h.symm aE];omega),SP aE a]
end
theorem wV{s:List Df}{k:Nat}{x:Df}(h:s[k]? =some x):∃a:k<s.length,s[k]=x:=List.getElem?_eq_some_iff.1 h
theorem Dt(A U M V D:List Df)(a b n N:Nat)(d:V.length=U.length)(j:A.length=a)(k:A.length+U.length+M.length=b)(y:U.length=n)(q:A.length+U.length+M.length+V.length+D.length=N)(x:N<=1000000):iP prog 316 [.ow 0 0 N,.d (aJ a),.d (aJ b),.d (aJ n),.d (.fn 83 [])] [(0,.row false 2 ((A++(U++(M++(V++D)))).map Df.d))] [(0,.row false 2 ((A++(V++(M++(U++D)))).map Df.d))] (.tup []):=by
 have o:A++(U++(M++(V++D)))=nT A U M V D 0:=by simp[nT]
 have g:A++(V++(M++(U++D)))=nT A U M V D n:=by
  unfold nT;rw[A9 aE,A9 aE,C1 aE,C1 aE,C3,C3]
 rw[o,g];refine oH func316 rfl ntmps316 results316 λz X h=>?_;apply aD;simp;apply aM;refine aO (ι:=Nat×List Df) (λ⟨i,r⟩=>aQ [(0,.ow 0 0 N),(1,.d (aJ a)),(2,.d (aJ b)),(3,.d (aJ n)),(4,.d (.fn 83 [])),(10,.d (aJ i))]) (λ⟨i,r⟩=>aL [(0,.row false 2 (r.map Df.d))]) (λ⟨i,r⟩=>i<=n/\Is r (nT A U M V D i)) (λ⟨i,r⟩=>n-i) (0,nT A U M V D 0) (aA h [0,1,2,3,4,10] [(0,0)]) (⟨B3 _,rfl⟩) λ⟨i,r⟩ f=>?_;apply aF;apply aP;simp;refine⟨λp=>?_,λp=>?_⟩
 .apply aG;simp;apply cR;obtain⟨f,c⟩:=f;have c:r=nT A U M V D i:=c;have t:i<n:=aE;have q1:r[a+i]? =some (U[i]'aE):=by have:=Vx (A:=A) (M:=M) (D:=D) d (show i<U.length by omega);rw[j]at this;rw[c];exact this
  have q2:r[b+i]? =some (V[i]'aE):=by have:=Vy (A:=A) (M:=M) (D:=D) d (show i<U.length by omega);rw[k]at this;rw[c];exact this
  obtain⟨v,l⟩:=wV q1;obtain⟨w,m⟩:=wV q2;have u:r.length=N:=by rw[c,Vw d aE,q]
  refine fL.rd [[],[],[],[],[0],[0],[0],[0]] [[],[],[],[],[],[],[],[],[],[],[],[],[],[],[],[],[],[],[],[],[],[0],[],[0]] (λ_=>none) ?_;simp[v,w,(show((a:Int)+(i:Int)).toNat=a+i by omega),(show((b:Int)+(i:Int)).toNat=b+i by omega)];refine⟨by(repeat' with_reducible apply And.intro)<;>omega,?_⟩;apply aI;simp;refine⟨aE,?_⟩;refine QT.mk (i+1,(r.set (a+i) r[b+i]).set (b+i) r[a+i]) (aA h [0,1,2,3,4,10] [(0,0)] (hH:=by simp[E7,Df.d])) ?_ ?_
  .exact⟨AI,by show _=_;rw[l,m,c];subst j;subst k;exact Vz d aE⟩
  .omega
 .apply bG;simp;obtain⟨s,c⟩:=f;have c:r=nT A U M V D i:=c;have e:i=n:=aE;subst e;exact aA h [] [(0,0)] (hH:=by simp[c])
end
section
attribute[local simp] aW bJ bE aR
attribute[local simp] lB.cond Nd.d_eq nd_t nd_dr nd_td ndsD aX bK
structure VA(T r:List Df)(m i j:Nat)(P X Y S:List Df):Prop where
 here:r=P++(X++(Y++S))
 goal:T=P++(Y++(X++S))
 x:X.length=i
 y:Y.length=j
 at_:P.length+i=m
theorem VA.left{T r P X Y S:List Df}{m i j:Nat}(h:VA T r m i j P X Y S)(b:j<i):VA T (P++(Y++(X.drop j++(X.take j++S)))) m (i-j) j (P++Y) (X.drop j) (X.take j) S:=by
 obtain⟨c,a,d,e,f⟩:=h;refine⟨bC,?_,jJ,jJ,jJ⟩;rw[a];simp only[B4];rw[<-B4 (X.take j) (X.drop j) S,A7]
theorem VA.right{T r P X Y S:List Df}{m i j:Nat}(h:VA T r m i j P X Y S)(c:i<j):VA T (P++(Y.drop (j-i)++(Y.take (j-i)++(X++S)))) m i (j-i) P (Y.drop (j-i)) (Y.take (j-i)) (X++S):=by
 obtain⟨d,a,e,f,b⟩:=h;refine⟨rfl,?_,jJ,jJ,b⟩;rw[a]
 conv=>lhs;rw[<-A7 (j-i) Y]
 simp only[B4]
theorem ZJ(A B C D:List Df)(a m b N:Nat)(G:B≠[])(I:C≠[])(O:A.length=a)(U:a+B.length=m)(Q:m+C.length=b)(M:b+D.length=N)(u:N<=1000000):iP prog 280 [.ow 0 0 N,.d (aJ a),.d (aJ m),.d (aJ b),.d (.fn 83 [])] [(0,.row false 2 ((A++(B++(C++D))).map Df.d))] [(0,.row false 2 ((A++(C++(B++D))).map Df.d))] (.tup []):=by
 obtain⟨T,k⟩:∃T,A++(C++(B++D))=T:=⟨_,rfl⟩;have q:T.length=N:=by rw[<-k];simp only[A2];omega
 have H:0<B.length:=F7.2 G;have J:0<C.length:=F7.2 I;have p:VA T (A++(B++(C++D))) m (m-a) (b-m) A B C D:=⟨rfl,k.symm,aE,aE,aE⟩;rw[k];refine oH func280 rfl ntmps280 results280 λZ X o=>?_;apply aD;simp[(show(m:Int)-(a:Int)=((m-a:Nat):Int)by omega)];refine⟨aE,?_⟩;apply aD;simp[(show(b:Int)-(m:Int)=((b-m:Nat):Int)by omega)];refine⟨aE,?_⟩;apply cR;refine aO (ι:=Nat×Nat×List Df) (λ⟨i,j,r⟩=>aQ [(0,.ow 0 0 N),(1,.d (aJ a)),(2,.d (aJ m)),(3,.d (aJ b)),(4,.d (.fn 83 [])),(10,.d (aJ i)),(11,.d (aJ j))]) (λ⟨i,j,r⟩=>aL [(0,.row false 2 (r.map Df.d))]) (λ⟨i,j,r⟩=>0<i/\0<j/\∃P X Y S,VA T r m i j P X Y S) (λ⟨i,j,r⟩=>i+j) (m-a,b-m,A++(B++(C++D))) (aA o [0,1,2,3,4,10,11] [(0,0)] (by simp[show(m:Int)-(a:Int)=((m-a:Nat):Int)by omega,show(b:Int)-(m:Int)=((b-m:Nat):Int)by omega])) (⟨aE,aE,A,B,C,D,p⟩) λ⟨i,j,r⟩ s=>?_;apply eG;obtain⟨K,L,P,c,d,S,e⟩:=s;have w:r.length=N:=by rw[e.here,<-q,e.goal];simp only[A2];omega
 have E:P.length+i+j+S.length=N:=by rw[<-w,e.here];simp only[A2,e.x,e.y];omega
 have F:=e.at_;have V:=e.x;have W:=e.y;apply aI;simp;apply aK;simp;refine⟨λy=>?_,λy=>?_⟩
 .apply aG;simp;apply aM;apply aP;simp;refine⟨λz=>?_,λz=>?_⟩
  .apply aF;have f:(m:Int)-(i:Int)=((P.length:Nat):Int):=aE;have h:=Dt P (c.take j) (c.drop j) d S P.length m j N jJ rfl jJ jJ (by simp only[A6,B7];omega) u;have g:P++(c.take j++(c.drop j++(d++S)))=r:=by rw[e.here,<-B4 (c.take j) (c.drop j),A7]
   rw[g]at h;have l:(i:Int)-(j:Int)=((i-j:Nat):Int):=aE;refine aU (oh 31 [(0,.row false 2 ((P++(d++(c.drop j++(c.take j++S)))).map Df.d))] (.tup [])) ?_;simp[f];refine⟨⟨aE,by simpa using h⟩,?_⟩;apply aI;simp[l];refine⟨aE,?_⟩;refine QT.mk (i-j,j,P++(d++(c.drop j++(c.take j++S)))) (aA o [0,1,2,3,4,10,11] [(0,0)] (by simp[l])) ?_ ?_
   .exact⟨AI,AI,_,_,_,_,e.left aE⟩
   .dsimp only;omega
  .apply aF;have t:i<j:=aE;have f:(m:Int)-(i:Int)=((P.length:Nat):Int):=aE;have v:(m:Int)+(j:Int)-(i:Int)=((m+(j-i):Nat):Int):=aE;have h:=Dt P c (d.take (j-i)) (d.drop (j-i)) S P.length (m+(j-i)) i N jJ rfl jJ aE (by simp only[A6,B7];omega) u;have g:P++(c++(d.take (j-i)++(d.drop (j-i)++S)))=r:=by rw[e.here,<-B4 (d.take (j-i)) (d.drop (j-i)),A7]
   rw[g]at h;have n:(j:Int)-(i:Int)=((j-i:Nat):Int):=aE;refine aU (oh 46 [(0,.row false 2 ((P++(d.drop (j-i)++(d.take (j-i)++(c++S)))).map Df.d))] (.tup [])) ?_;simp[f,v];refine⟨by(repeat' with_reducible apply And.intro)<;>first|omega|simpa using h,?_⟩;apply aI;simp[n];refine⟨aE,?_⟩;refine QT.mk (i,j-i,P++(d.drop (j-i)++(d.take (j-i)++(c++S)))) (aA o [0,1,2,3,4,10,11] [(0,0)] (by simp[n])) ?_ ?_
   .exact⟨AI,AI,_,_,_,_,e.right aE⟩
   .dsimp only;omega
 .apply bG;simp;have t:i=j:=aE;have f:(m:Int)-(i:Int)=((P.length:Nat):Int):=aE;have h:=Dt P c [] d S P.length m i N aE rfl jJ aE jJ u;have g:P++(c++([]++(d++S)))=r:=by rw[e.here];rfl
  have x:P++(d++([]++(c++S)))=T:=by rw[e.goal];rfl
  rw[g,x]at h;refine aU (oh 57 [(0,.row false 2 (T.map Df.d))] (.tup [])) ?_;simp[f];refine⟨⟨aE,by simpa using h⟩,?_⟩;exact aA o [] [(0,0)]
end
def gH(a b:Df):Prop:=Op.bytesLess a.name b.name=true
instance(a b:Df):Decidable (gH a b):=inferInstanceAs (Decidable (Op.bytesLess a.name b.name=true))
theorem Az{a b:Df}:gH a b↔a.name<b.name:=by unfold gH;rw[bytesLess_eq,decide_eq_true_eq]
theorem AA{a b:Df}:¬gH a b↔b.name<=a.name:=by rw[Az,F4]
def dS(l:List Df):Prop:=l.Pairwise λa b=>¬gH b a
def lT(A B:List Df):List Df:=B.foldl iG A
theorem AB{a b c:Df}(d:gH a b)(e:¬gH c b):gH a c:=by
 rw[Az]at d|-;rw[AA]at e;exact D7 λf=>F4.2 (D4 e (F4.1 f)) d
theorem GS{a b c:Df}(d:¬gH b a)(e:gH b c):gH a c:=by
 rw[Az]at e|-;rw[AA]at d;exact List.lt_of_le_of_lt d e
theorem AC{a b c:Df}(d:¬gH b a)(e:¬gH c b):¬gH c a:=by
 rw[AA]at d e|-;exact D4 d e
theorem GT{α:Type}{p:α->Bool}{a b:List α}:∀(k:Nat),(∀i<k,a[i]? =b[i]?)->lH p a k=lH p b k
 |0,_=>rfl
 |k+1,h=>by
  have c:=h k (Nat.lt_succ_self k);have d:=GT (p:=p) k λi e=>h i aE;simp only[lH,c,d]
theorem KJ{C A:List Df}{y:Df}(h:∀x∈A,gH y x):iG (C++A) y=iG C y++A:=by
 have c:∀k,k<=A.length->lH (λz=>Op.bytesLess y.name z.name) (C++A) (C.length+k)=lH (λz=>Op.bytesLess y.name z.name) C C.length:=by
  intro k;induction k with
  |zero=>intro _;exact GT _ λi d=>A8 d
  |succ k ih=>
   intro e;have b:C.length+k<(C++A).length:=jJ;rw[<-E3,Ac b,ih aE];have:(C++A)[C.length+k]=A[k]:=by rw[E0 aE];simp
   rw[this];exact h _ (E5 aE)
 have a:=EP (p:=λz:Df=>Op.bytesLess y.name z.name) (out:=C) C.length;unfold iG;rw[A2,c A.length (B0 _)];unfold gU;rw[List.take_append_of_le_length a,List.drop_append_of_le_length a];simp
theorem EZ{C D:List Df}{y:Df}(h:∀c∈C,¬gH y c):iG (C++D) y=C++iG D y:=by
 have l:∀k,k<=D.length->lH (λz=>Op.bytesLess y.name z.name) (C++D) (C.length+k)=C.length+lH (λz=>Op.bytesLess y.name z.name) D k:=by
  intro k;induction k with
  |zero=>
   intro _;refine qW λi j b=>?_;have a:i<C.length:=aE;have:(C++D)[i]=C[i]:=List.getElem_append_left a;rw[this];have:=h _ (E5 a);unfold gH at this;simpa using this
  |succ k ih=>
   intro m;have g:C.length+k<(C++D).length:=jJ;have e:(C++D)[C.length+k]=D[k]:=by rw[E0 aE];simp
   by_cases d:Op.bytesLess y.name D[k].name=true
   .rw[<-E3,Ac g (by rw[e];exact d),ih aE,Ac aE d]
   .rw[qW (k:=k+1) λi j b=>(by have f:i=k:=aE;subst f;simpa using d)];exact qW λi j b=>(by have f:i=C.length+k:=aE;subst f;rw[e];simpa using d)
 unfold iG;rw[A2,l D.length (B0 _)];unfold gU;rw[List.take_length_add_append,List.drop_length_add_append];simp
theorem aBQ{A B:List Df}{x:Df}:x∈lT A B↔x∈A\/x∈B:=by
 have:∀(B A:List Df),(B.foldl iG A).Perm (A++B):=λB=>by
  induction B with
  |nil=>intro A;rw[C3];exact List.Perm.refl _
  |cons y r ih=>
   intro A;rw[B5];refine(ih _).trans (((Jd A y).append_right r).trans ?_);rw[D3];exact E6.symm
 unfold lT;rw[(this B A).mem_iff,F1]
theorem aBR(A B:List Df):(lT A B).length=A.length+B.length:=by
 have:∀(B A:List Df),(B.foldl iG A).length=A.length+B.length:=λB=>by
  induction B with
  |nil=>intro A;rfl
  |cons y r ih=>intro A;rw[B5,ih,Nr,D1];omega
 exact this B A
theorem aDq{C A:List Df}:∀{B:List Df},(∀y∈B,∀x∈A,gH y x)->lT (C++A) B=lT C B++A:=by
 intro B;unfold lT;induction B generalizing C with
 |nil=>intro _;rfl
 |cons y r ih=>
  intro h;rw[B5,B5,KJ (h y (D0 ..)),ih λz a=>h z (C7 _ a)]
theorem aDr{C D:List Df}:∀{B:List Df},(∀y∈B,∀c∈C,¬gH y c)->lT (C++D) B=C++lT D B:=by
 intro B;unfold lT;induction B generalizing D with
 |nil=>intro _;rfl
 |cons y r ih=>
  intro h;rw[B5,B5,EZ (h y (D0 ..)),ih λz a=>h z (C7 _ a)]
theorem Je{d f a b:List Df}(h:∀y∈a,∀x∈f,gH y x)(i:∀y∈b,∀c∈d,¬gH y c)(j:∀y∈b,∀c∈a,¬gH y c):lT (d++f) (a++b)=lT d a++lT f b:=by
 have e:lT (d++f) (a++b)=lT (lT (d++f) a) b:=by unfold lT;rw[C4]
 rw[e,aDq h,aDr λy g c k=>(aBQ.1 k).elim (i y g c) (j y g c)]
theorem GU(y:Df):iG [] y=[y]:=rfl
theorem SQ{C:List Df}:∀{B:List Df},dS B->(∀y∈B,∀c∈C,¬gH y c)->lT C B=C++B:=by
 intro B;unfold lT;induction B generalizing C with
 |nil=>intro _ _;simp
 |cons y r ih=>
  intro b h;have b:=C9.1 b;have e:iG C y=C++[y]:=by
   have:=EZ (C:=C) (D:=[]) (h y (D0 ..));rw[C3,GU]at this;exact this
  rw[B5,e,ih b.2 λz d c a=>?_]
  .simp
  .rcases F1.1 a with a|a
   .exact h z (C7 _ d) c a
   .simp at a;subst a;exact b.1 z d
theorem KK{B:List Df}(h:dS B):lT [] B=B:=SQ h λ_ _ _ h=>by cases h
theorem GV(A:List Df):lT A []=A:=rfl
theorem oT(l:List Df):dS (bP l):=(qR l).imp λh=>AA.2 h
theorem dS.take{l:List Df}(h:dS l)(k:Nat):dS (l.take k):=h.sublist (G2 _ _)
theorem dS.drop{l:List Df}(h:dS l)(k:Nat):dS (l.drop k):=h.sublist (G3 _ _)
theorem dS.at_{l:List Df}(h:dS l){i j:Nat}(b:i<=j)(c:j<l.length):¬gH l[j] (l[i]'aE):=by
 by_cases e:i=j
 .subst e;intro a;rw[Az]at a;exact H0 _ a
 .exact D9.1 h i j aE c aE
theorem aBS{x:Df}{B:List Df}{k:Nat}(h:dS B)(m:k<=B.length)(d:k=0\/∃m:k-1<B.length,gH B[k-1] x)(f:k=B.length\/∃m:k<B.length,¬gH B[k] x):lT [x] B=gU k x B:=by
 have e:lT ([]++[x]) (B.take k++B.drop k)=lT [] (B.take k)++lT [x] (B.drop k):=Je (λy b z n=>by
  simp at n;subst n;obtain⟨j,a,rfl⟩:=A5 b;rw[B8];simp at a;rcases d with d|⟨l,d⟩
  .omega
  .exact GS (h.at_ (i:=j) (j:=k-1) aE l) d) (λ_ _ _ h=>by cases h) λy b c g=>by
  obtain⟨j,a,rfl⟩:=A5 b;obtain⟨i,o,rfl⟩:=A5 g;simp at o a;rw[B8,B9];exact h.at_ aE aE
 rw[C8,A7]at e;rw[e,KK (h.take k),SQ (h.drop k) λy b c g=>?_]
 .rfl
 .simp at g;subst g;obtain⟨j,a,rfl⟩:=A5 b;rw[B9];simp at a;rcases f with f|⟨l,f⟩
  .omega
  .exact AC f (h.at_ (i:=k) (j:=k+j) aE aE)
theorem ZK{y:Df}{A:List Df}{k:Nat}(h:dS A)(e:k<=A.length)(a:k=0\/∃e:k-1<A.length,¬gH y A[k-1])(b:k=A.length\/∃e:k<A.length,gH y A[k]):lT A [y]=gU k y A:=by
 show iG A y=_
 conv=>lhs;rw[<-A7 k A]
 rw[KJ λx m=>?_]
 .have:=EZ (C:=A.take k) (D:=[]) (y:=y) λc f=>by
   obtain⟨i,g,rfl⟩:=A5 f;rw[B8];simp at g;rcases a with a|⟨d,a⟩
   .omega
   .exact AC (h.at_ (i:=i) (j:=k-1) aE d) a
  rw[C3,GU]at this;rw[this];unfold gU;simp
 .obtain⟨j,l,rfl⟩:=A5 m;rw[B9];simp at l;rcases b with b|⟨d,b⟩
  .omega
  .exact AB b (h.at_ (i:=k) (j:=k+j) aE aE)
theorem aBT{A B:List Df}(l:dS A)(h:dS B){i j:Nat}(o:i<=A.length)(r:j<=B.length)(a:i=0\/j=B.length\/∃(a:i-1<A.length) (b:j<B.length),¬gH B[j] A[i-1])
 (b:j=0\/i=A.length\/∃(a:j-1<B.length) (b:i<A.length),gH B[j-1] A[i]):lT A B=lT (A.take i) (B.take j)++lT (A.drop i) (B.drop j):=by
 conv=>lhs;rw[<-A7 i A,<-A7 j B]
 refine Je (λy f x n=>?_) (λy f c k=>?_) (λy f c k=>?_)
 .obtain⟨p,d,rfl⟩:=A5 f;obtain⟨q,e,rfl⟩:=A5 n;simp at d e;rw[B8,B9];rcases b with b|b|⟨g,m,b⟩
  .omega
  .omega
  .exact AB (GS (h.at_ (i:=p) (j:=j-1) aE g) b) (l.at_ (i:=i) (j:=i+q) aE aE)
 .obtain⟨p,d,rfl⟩:=A5 f;obtain⟨q,e,rfl⟩:=A5 k;simp at d e;rw[B8,B9];rcases a with a|a|⟨g,m,a⟩
  .omega
  .omega
  .exact AC (AC (l.at_ (i:=q) (j:=i-1) aE g) a) (h.at_ (i:=j) (j:=j+p) aE aE)
 .obtain⟨p,d,rfl⟩:=A5 f;obtain⟨q,e,rfl⟩:=A5 k;simp at d e;rw[B8,B9];exact h.at_ aE aE
theorem pU{Z:List Df}(h:dS Z)(y:Df):iG Z y=Z.filter (λz=> !decide (gH y z))++y::Z.filter λz=>decide (gH y z):=by
 induction Z with
 |nil=>rfl
 |cons z r ih=>
  have h:=C9.1 h;by_cases d:gH y z
  .have a:∀x∈z::r,gH y x:=λx b=>by
    rcases F9.1 b with rfl|b
    .exact d
    .exact AB d (h.1 x b)
   have f:(z::r).filter (λz=> !decide (gH y z))=[]:=C2.2 λx b=>by simp[a x b]
   have g:(z::r).filter (λz=>decide (gH y z))=z::r:=F8.2 λx b=>by simp[a x b]
   have:=KJ (C:=[]) a;rw[C8,GU]at this;rw[this,f,g];rfl
  .have:=EZ (C:=[z]) (D:=r) (y:=y) λc e=>by simp at e;subst e;exact d
   rw[List.singleton_append]at this;rw[this,ih h.2];simp[d]
theorem Ns{Z:List Df}(h:dS Z)(y:Df):Z.filter (λz=> !decide (gH y z))++Z.filter (λz=>decide (gH y z))=Z:=by
 induction Z with
 |nil=>rfl
 |cons z r ih=>
  have h:=C9.1 h;by_cases c:gH y z
  .have a:∀x∈z::r,gH y x:=λx b=>by
    rcases F9.1 b with rfl|b
    .exact c
    .exact AB c (h.1 x b)
   rw[C2.2 λx b=>by simp[a x b],F8.2 λx b=>by simp[a x b]];rfl
  .have d:(z::r).filter (λz=> !decide (gH y z))=z::r.filter (λz=> !decide (gH y z)):=(by simp[c]);have e:(z::r).filter (λz=>decide (gH y z))=r.filter (λz=>decide (gH y z)):=(by simp[c]);rw[d,e,D3,ih h.2]
theorem qS{Z:List Df}(h:dS Z)(y:Df):dS (iG Z y):=by
 have c:Z.Pairwise λa b=>a.name<=b.name:=h.imp λh=>AA.1 h;exact(Eo c).imp λh=>AA.2 h
theorem VB{Z:List Df}(h:dS Z){y c:Df}(d:gH y c):iG (iG Z y) c=iG (iG Z c) y:=by
 have f:¬gH c y:=λa=>by
  rw[Az]at d a;exact H0 _ (H4 d a)
 have e:∀z,gH c z->gH y z:=λz o=>by
  rw[Az]at*;exact H4 d o
 rw[pU (qS h y),pU (qS h c),pU h y,pU h c];simp only[List.filter_append,List.filter_cons,List.filter_filter,f,d,decide_true,decide_false,Bool.not_true,Bool.not_false,if_true,Bool.false_eq_true,if_false];have g:Z.filter (λz=> !decide (gH c z)&& !decide (gH y z))=Z.filter λz=> !decide (gH y z):=C5 λz _=>by by_cases b:gH c z<;>by_cases a:gH y z<;>simp[b,a];exact a (e z b)
 have i:Z.filter (λz=> !decide (gH y z)&& !decide (gH c z))=Z.filter λz=> !decide (gH y z):=C5 λz _=>by by_cases b:gH c z<;>by_cases a:gH y z<;>simp[b,a];exact a (e z b)
 have j:Z.filter (λz=>decide (gH c z)&& !decide (gH y z))=[]:=C2.2 λz _=>by by_cases b:gH c z<;>by_cases a:gH y z<;>simp[b,a];exact a (e z b)
 have k:Z.filter (λz=> !decide (gH y z)&&decide (gH c z))=[]:=C2.2 λz _=>by by_cases b:gH c z<;>by_cases a:gH y z<;>simp[b,a];exact a (e z b)
 have l:Z.filter (λz=>decide (gH c z)&&decide (gH y z))=Z.filter λz=>decide (gH c z):=C5 λz _=>by by_cases b:gH c z<;>by_cases a:gH y z<;>simp[b,a];exact a (e z b)
 have m:Z.filter (λz=>decide (gH y z)&&decide (gH c z))=Z.filter λz=>decide (gH c z):=C5 λz _=>by by_cases b:gH c z<;>by_cases a:gH y z<;>simp[b,a];exact a (e z b)
 have n:Z.filter (λz=>decide (gH y z)&& !decide (gH c z))=Z.filter λz=> !decide (gH c z)&&decide (gH y z):=C5 λz _=>by by_cases b:gH c z<;>by_cases a:gH y z<;>simp[b,a]
 simp[g,i,j,k,l,m,n]
theorem Nt{X:List Df}(h:dS X):∀(C:List Df),dS (lT X C):=λC=>by
 unfold lT;induction C generalizing X with
 |nil=>exact h
 |cons y r ih=>exact ih (qS h y)
theorem Nu{y:Df}:∀{G X:List Df},dS X->(∀c∈G,gH y c)->lT (iG X y) G=iG (lT X G) y
 |[],_,_,_=>rfl
 |c::r,X,h,hG=>by
  show lT (iG (iG X y) c) r=iG (lT (iG X c) r) y;rw[VB h (hG c (D0 ..)),Nu (qS h c) λz a=>hG z (C7 _ a)]
theorem ZL{X C:List Df}(b:dS X)(a:dS C)(y:Df):lT X (iG C y)=iG (lT X C) y:=by
 have e:∀A B:List Df,lT X (A++B)=lT (lT X A) B:=λA B=>by unfold lT;rw[C4]
 rw[pU a y,e]
 conv=>rhs;rw[<-Ns a y,e]
 exact Nu (Nt b _) λc d=>by have:=(List.mem_filter.1 d).2;simpa using this
theorem VC{X:List Df}(a:dS X)(C:List Df):lT X (bP C)=lT X C:=by
 have:∀n,n<=C.length->lT X (bP (C.take n))=lT X (C.take n):=λn=>by
  induction n with
  |zero=>intro _;rfl
  |succ n ih=>
   intro b;rw[Bv aE,ZL a (oT _),ih aE,B2 aE];unfold lT;rw[C4];rfl
 have h:=this C.length (B0 _);rw[G4]at h;exact h
theorem VD(A B:List Df):lT (bP A) (bP B)=bP (A++B):=by
 rw[VC (oT A)];unfold lT bP;rw[C4]
section
attribute[local simp] aW bJ bE aR
attribute[local simp] lB.cond Nd.d_eq nd_t nd_dr nd_td ndsD aX bK
theorem ZM{x:Int}(a:0<=x)(h:x<18446744073709551616):IntKind.u64.wrap x=x:=by
 unfold IntKind.wrap;simp[IntKind.bits,IntKind.signed];omega
theorem ZN{x:Int}(a:0<=x)(h:x<9223372036854775808):IntKind.i64.wrap x=x:=by
 unfold IntKind.wrap;simp[IntKind.bits,IntKind.signed];omega
theorem Fa{x:Int}{n w:Nat}(b:x=(n:Int))(c:n<9000000000000000000)(a:n / 2=w):IntKind.i64.wrap ((IntKind.u64.wrap x).fdiv (2^min 1 IntKind.u64.bits))=(w:Int):=by
 subst b;rw[ZM aE aE,show(2:Int)^min 1 IntKind.u64.bits=2 by decide,show((n:Int)).fdiv 2=((n / 2:Nat):Int)by rw[Int.fdiv_eq_ediv_of_nonneg _ aE];rfl,a];exact ZN aE aE
theorem Nv{A o t:List Df}{x:Df}{j:Nat}(a:j<=o.length):(iZ A o t x j)[A.length+j]? =some x:=by
 rw[A4 (by rw[zE];omega),SO a]
theorem VE{A o t:List Df}{x:Df}{j:Nat}(a:j<o.length):(iZ A o t x (j+1))[A.length+j]? =some o[j]:=by
 rw[A4 (by rw[zE];omega),Jb a]
theorem VF{A o t:List Df}{x:Df}{j:Nat}(a:j<o.length):(iZ A o t x j)[A.length+(j+1)]? =some o[j]:=by
 unfold iZ gU;rw[A1 aE,A0,A8 jJ,A1 jJ,A6,show j+1-min j o.length=1 by omega,List.getElem?_cons_succ,G0,E8,A4 a]
theorem Qe{A o t:List Df}{x:Df}{j:Nat}(a:j<o.length):((iZ A o t x j).set (A.length+j) o[j]).set (A.length+(j+1)) x=iZ A o t x (j+1):=by
 unfold iZ gU;have c:o.take (j+1)=o.take j++[o[j]]:=B2 a;have d:o.drop j=o[j]::o.drop (j+1):=B6 a;have b:(o.take j).length=j:=jJ;rw[c,d];rw[A3 _ _ aE,A0,A3 _ _ aE,A0];congr 1;simp only[B4,D3,C8];rw[A3 _ _ aE,b,H6,A3 _ _ aE,b,show j+1-j=1 by omega];rfl
def Jf(P B C S:List Df)(a m b N:Nat):Prop:=
 iP prog 227 [.ow 0 0 N,.d (aJ a),.d (aJ m),.d (aJ b),.d (.fn 83 [])] [(0,.row false 2 ((P++(B++(C++S))).map Df.d))] [(0,.row false 2 ((P++(lT B C++S)).map Df.d))] (.tup [])
structure aDs(P B C S:List Df)(a m b N:Nat):Prop where
 hB:0<B.length
 hC:0<C.length
 sB:dS B
 sC:dS C
 ha:P.length=a
 hm:a+B.length=m
 hb:m+C.length=b
 hN:b+S.length=N
 hl:N<=1000000
theorem KL{a b:Df}:AH a.name b.name<0↔gH a b:=KI
theorem aEf(P B C S:List Df){a m b:Nat}(e:P.length=a)(g:a+B.length=m)(f:m+C.length=b):(∀c,∀d:c<B.length,(P++(B++(C++S)))[a+c]? =some B[c])/\∀c,∀d:c<C.length,(P++(B++(C++S)))[m+c]? =some C[c]:=by
 subst e;subst g;subst f;refine⟨λc d=>?_,λc d=>?_⟩
 .rw[A1 aE,A0,A8 d,A4 d]
 .rw[A1 aE,show P.length+B.length+c-P.length=B.length+c by omega,A1 aE,A0,A8 d,A4 d]
theorem Nw{l:List Df}(h:l.length=1):∃x,l=[x]:=by
 match l,h with
 |[x],_=>exact⟨x,rfl⟩
set_option pp.maxSteps 100000 in
theorem Qf(P B C S:List Df)(a m b N:Nat)(h:aDs P B C S a m b N)(ih:∀P' B' C' S' a' m' b',aDs P' B' C' S' a' m' b' N->B'.length+C'.length<B.length+C.length->Jf P' B' C' S' a' m' b' N):iP prog 227 [.ow 0 0 N,.d (aJ a),.d (aJ m),.d (aJ b),.d (.fn 83 [])] [(0,.row false 2 ((P++(B++(C++S))).map Df.d))] [(0,.row false 2 ((P++(lT B C++S)).map Df.d))] (.tup []):=by
 obtain⟨hB,hC,sB,sC,ha,hm,hb,hN,hl⟩:=h;obtain⟨W,Y⟩:=aEf P B C S ha hm hb;obtain⟨L,Q⟩:∃L,P++(B++(C++S))=L:=⟨_,rfl⟩;have g8:L.length=N:=by rw[<-Q];simp only[A2];omega
 obtain⟨T,a4⟩:∃T,P++(lT B C++S)=T:=⟨_,rfl⟩;rw[Q]at W Y|-;rw[a4];refine oH func227 rfl ntmps227 results227 λw0 X F=>?_;apply dA;simp[(show(m:Int)-(a:Int)=((B.length:Nat):Int)by omega)];refine⟨aE,?_⟩;apply aK;simp;refine⟨λh0=>?_,λh0=>?_⟩
 .obtain⟨x,hx⟩:=Nw (l:=B) aE;subst hx;have h6:a+1=m:=hm;have ax:=W 0 bC;rw[E8]at ax;obtain⟨kx,ex⟩:=wV ax;have ex:L[a]=x:=ex;apply aD;simp;apply aD;simp;apply cR;refine aO (ι:=Nat×Nat) (λ⟨p,q⟩=>aQ [(0,.ow 0 0 N),(1,.d (aJ a)),(2,.d (aJ m)),(3,.d (aJ b)),(4,.d (.fn 83 [])),(10,.d (aJ (m+p))),(11,.d (aJ (m+q)))]) (λ⟨p,q⟩=>aL [(0,.row false 2 (L.map Df.d))]) (λ⟨p,q⟩=>p<=q/\q<=C.length/\(p=0\/∃hk:p-1<C.length,gH C[p-1] x)/\(q=C.length\/∃hk:q<C.length,¬gH C[q] x)) (λ⟨p,q⟩=>q-p) (0,C.length) (aA F [0,1,2,3,4,10,11] [(0,0)] (by simp[show(b:Int)=(m:Int)+(C.length:Int)by omega])) (⟨B3 _,B0 _,.inl rfl,.inl rfl⟩) λ⟨p,q⟩ c4=>?_;apply aF;apply aP;simp;refine⟨λh3=>?_,λh3=>?_⟩
  .apply aG;simp;apply aM;apply aF;obtain⟨M,H,I,k⟩:=c4;obtain⟨w,hw⟩:∃w,(p+q) / 2=w:=⟨_,rfl⟩;have U:w<C.length:=aE;have aw:=Y w U;obtain⟨kw,ew⟩:=wV aw;have G:AH C[w].name x.name<0↔gH C[w] x:=KL;have hh:IntKind.i64.wrap ((IntKind.u64.wrap ((m:Int)+(p:Int)+((m:Int)+(q:Int)))).fdiv (2^min 1 IntKind.u64.bits))=((m+w:Nat):Int):=Fa (n:=2*m+p+q) aE aE aE;obtain⟨z,hz⟩:∃z,C[w]=z:=⟨_,rfl⟩;rw[hz]at ew G;apply aI;simp[hh];refine⟨aE,?_⟩;apply aF;have V:=CA z x;refine fL.rd [] [[],[],[],[],[],[],[],[],[],[49]] (og 49 (.plain ⟨.d (aJ (AH z.name x.name)),true⟩)) ?_;simp[kw,ew,kx,ex,(show((m:Int)+(w:Int)).toNat=m+w by omega)];refine⟨⟨⟨aE,aE⟩,by simpa using V⟩,?_⟩;apply aK;simp;refine⟨λh5=>?_,λh5=>?_⟩
   .apply aI;simp;refine⟨aE,?_⟩;refine QT.mk (w+1,q) (aA F [0,1,2,3,4,10,11] [(0,0)] (by simp[show(m:Int)+(w:Int)+1=(m:Int)+((w:Int)+1)by omega])) ?_ ?_
    .exact⟨AI,H,.inr ⟨AI,by simpa [hz]using G.1 h5⟩,k⟩
    .dsimp only;omega
   .apply aI;simp;refine QT.mk (p,w) (aA F [0,1,2,3,4,10,11] [(0,0)]) ?_ ?_
    .exact⟨AI,AI,I,.inr ⟨U,λe=>by have:=G.2 (hz▸e);omega⟩⟩
    .dsimp only;omega
  .apply bG;simp;apply eG;obtain⟨M,H,I,k⟩:=c4;have b5:p=q:=aE;subst b5;have O:iZ P C S x p=T:=by
    rw[<-a4,aBS sC H I k];rfl
   apply aI;simp;apply aM;refine aO (ι:=Nat×List Df) (λ⟨t,r⟩=>aQ [(0,.ow 0 0 N),(1,.d (aJ a)),(2,.d (aJ m)),(3,.d (aJ b)),(4,.d (.fn 83 [])),(10,.d (aJ (m+p))),(13,.d (aJ (a+t)))]) (λ⟨t,r⟩=>aL [(0,.row false 2 (r.map Df.d))]) (λ⟨t,r⟩=>t<=p/\Is r (iZ P C S x t)) (λ⟨t,r⟩=>p-t) (0,L) (aA F [0,1,2,3,4,10,13] [(0,0)]) (⟨B3 _,by show _=_;rw[<-Q];simp[iZ,gU]⟩) λ⟨t,r⟩ c5=>?_;apply dA;simp;refine⟨aE,?_⟩;apply aK;simp;refine⟨λh9=>?_,λh9=>?_⟩
   .apply aG;simp;apply cR;obtain⟨b6,d⟩:=c5;have d:r=iZ P C S x t:=d;have h7:t<p:=aE;have q1:r[a+t]? =some x:=by have:=Nv (A:=P) (o:=C) (t:=S) (x:=x) (j:=t) aE;rw[ha]at this;rw[d];exact this
    have q2:r[a+(t+1)]? =some (C[t]'aE):=by have:=VF (A:=P) (o:=C) (t:=S) (x:=x) (j:=t) aE;rw[ha]at this;rw[d];exact this
    obtain⟨k1,e1⟩:=wV q1;obtain⟨k2,e2⟩:=wV q2;have f3:r.length=N:=by rw[d,zE];omega
    refine fL.rd [[],[],[0],[0],[0]] [[],[],[],[],[],[],[],[],[],[],[],[],[],[],[],[0],[],[0]] (λ_=>none) ?_;simp[k1,k2,(show((a:Int)+(t:Int)).toNat=a+t by omega),(show((a:Int)+(t:Int)+1).toNat=a+(t+1)by omega)];refine⟨by(repeat' with_reducible apply And.intro)<;>omega,?_⟩;apply aI;simp;refine⟨aE,?_⟩;refine QT.mk (t+1,(r.set (a+t) r[a+(t+1)]).set (a+(t+1)) r[a+t]) (aA F [0,1,2,3,4,10,13] [(0,0)] (by simp[show(a:Int)+(t:Int)+1=(a:Int)+((t:Int)+1)by omega]) (by simp[E7,Df.d])) ?_ ?_
    .exact⟨AI,by
      have q:=Qe (A:=P) (o:=C) (t:=S) (x:=x) (j:=t) aE;rw[ha]at q;show _=_;dsimp only;rw[e1,e2,d];exact q⟩
    .omega
   .apply bG;simp;apply aH;obtain⟨b6,d⟩:=c5;have d:r=iZ P C S x t:=d;have b4:t=p:=aE;subst b4;rw[O]at d;simp;exact aA F [] [(0,0)] (hH:=by simp[d])
 .apply aG;simp;apply dA;simp[(show(b:Int)-(m:Int)=((C.length:Nat):Int)by omega)];refine⟨aE,?_⟩;apply aK;simp;refine⟨λd6=>?_,λd6=>?_⟩
  .obtain⟨y,hy⟩:=Nw (l:=C) aE;subst hy;have g9:m+1=b:=hb;have ay:=Y 0 bC;rw[E8]at ay;obtain⟨ky,ey⟩:=wV ay;have ey:L[m]=y:=ey;apply aD;simp;apply aD;simp;apply cR;refine aO (ι:=Nat×Nat) (λ⟨p,q⟩=>aQ [(0,.ow 0 0 N),(1,.d (aJ a)),(2,.d (aJ m)),(3,.d (aJ b)),(4,.d (.fn 83 [])),(14,.d (aJ (a+p))),(15,.d (aJ (a+q)))]) (λ⟨p,q⟩=>aL [(0,.row false 2 (L.map Df.d))]) (λ⟨p,q⟩=>p<=q/\q<=B.length/\(p=0\/∃hk:p-1<B.length,¬gH y B[p-1])/\(q=B.length\/∃hk:q<B.length,gH y B[q])) (λ⟨p,q⟩=>q-p) (0,B.length) (aA F [0,1,2,3,4,14,15] [(0,0)] (by simp[show(m:Int)=(a:Int)+(B.length:Int)by omega])) (⟨B3 _,B0 _,.inl rfl,.inl rfl⟩) λ⟨p,q⟩ a7=>?_;apply aF;apply aP;simp;refine⟨λd7=>?_,λd7=>?_⟩
   .apply aG;simp;apply aM;apply aF;obtain⟨M,H,I,k⟩:=a7;obtain⟨w,hw⟩:∃w,(2*a+p+q) / 2-a=w:=⟨_,rfl⟩;have U:w<B.length:=aE;have aw:=W w U;obtain⟨kw,ew⟩:=wV aw;have G:AH y.name B[w].name<0↔gH y B[w]:=KL;have hh:IntKind.i64.wrap ((IntKind.u64.wrap ((a:Int)+(p:Int)+((a:Int)+(q:Int)))).fdiv (2^min 1 IntKind.u64.bits))=((a+w:Nat):Int):=Fa (n:=2*a+p+q) aE aE aE;obtain⟨z,hz⟩:∃z,B[w]=z:=⟨_,rfl⟩;rw[hz]at ew G;apply aI;simp[hh];refine⟨aE,?_⟩;apply aF;have V:=CA y z;refine fL.rd [] [[],[],[],[],[],[],[],[],[],[101]] (og 101 (.plain ⟨.d (aJ (AH y.name z.name)),true⟩)) ?_;simp[kw,ew,ky,ey,(show((a:Int)+(w:Int)).toNat=a+w by omega)];refine⟨⟨⟨aE,aE⟩,by simpa using V⟩,?_⟩;apply aK;simp;refine⟨λd8=>?_,λd8=>?_⟩
    .apply aI;simp;refine⟨aE,?_⟩;refine QT.mk (w+1,q) (aA F [0,1,2,3,4,14,15] [(0,0)] (by simp[show(a:Int)+(w:Int)+1=(a:Int)+((w:Int)+1)by omega])) ?_ ?_
     .exact⟨AI,H,.inr ⟨AI,λe=>by have:=G.2 (by simpa [hz]using e);omega⟩,k⟩
     .dsimp only;omega
    .apply aI;simp;refine QT.mk (p,w) (aA F [0,1,2,3,4,14,15] [(0,0)]) ?_ ?_
     .exact⟨AI,AI,I,.inr ⟨U,hz▸G.1 aE⟩⟩
     .dsimp only;omega
   .apply bG;simp;apply eG;obtain⟨M,H,I,k⟩:=a7;have b5:p=q:=aE;subst b5;have O:iZ P B S y p=T:=by
     rw[<-a4,ZK sB H I k];rfl
    apply aI;simp;apply aM;refine aO (ι:=Nat×List Df) (λ⟨t,r⟩=>aQ [(0,.ow 0 0 N),(1,.d (aJ a)),(2,.d (aJ m)),(3,.d (aJ b)),(4,.d (.fn 83 [])),(14,.d (aJ (a+p))),(17,.d (aJ (a+t)))]) (λ⟨t,r⟩=>aL [(0,.row false 2 (r.map Df.d))]) (λ⟨t,r⟩=>p<=t/\t<=B.length/\Is r (iZ P B S y t)) (λ⟨t,r⟩=>t) (B.length,L) (aA F [0,1,2,3,4,14,17] [(0,0)] (by simp[show(m:Int)=(a:Int)+(B.length:Int)by omega])) (⟨H,B0 _,by show _=_;rw[<-Q];simp[iZ,gU]⟩) λ⟨t,r⟩ a8=>?_;apply aF;apply aP;simp;refine⟨λd9=>?_,λd9=>?_⟩
    .apply aG;simp;apply cR;obtain⟨f5,b6,d⟩:=a8;have d:r=iZ P B S y t:=d;obtain⟨j,rfl⟩:∃j,t=j+1:=⟨t-1,aE⟩;have q1:r[a+(j+1)]? =some y:=by have:=Nv (A:=P) (o:=B) (t:=S) (x:=y) (j:=j+1) aE;rw[ha]at this;rw[d];exact this
     have q2:r[a+j]? =some (B[j]'aE):=by have:=VE (A:=P) (o:=B) (t:=S) (x:=y) (j:=j) aE;rw[ha]at this;rw[d];exact this
     obtain⟨k1,e1⟩:=wV q1;obtain⟨k2,e2⟩:=wV q2;have f3:r.length=N:=by rw[d,zE];simp at hb;omega
     refine fL.rd [[],[],[0],[0],[0]] [[],[],[],[],[],[],[],[],[],[],[],[],[],[],[],[0],[],[0]] (λ_=>none) ?_;simp[k1,k2,(show((a:Int)+((j:Int)+1)).toNat=a+(j+1)by omega),(show((a:Int)+((j:Int)+1)- 1).toNat=a+j by omega),(show(a:Int)+((j:Int)+1)- 1=(a:Int)+(j:Int)by omega),(show((a:Int)+(j:Int)).toNat=a+j by omega)];refine⟨by(repeat' with_reducible apply And.intro)<;>omega,?_⟩;apply aI;simp;refine⟨aE,?_⟩;refine QT.mk (j,(r.set (a+(j+1)) r[a+j]).set (a+j) r[a+(j+1)]) (aA F [0,1,2,3,4,14,17] [(0,0)] (by simp[show(a:Int)+((j:Int)+1)- 1=(a:Int)+(j:Int)by omega]) (by simp[E7,Df.d])) ?_ ?_
     .exact⟨AI,AI,by
       have q:=Jc (A:=P) (o:=B) (t:=S) (x:=y) (j:=j) aE;rw[ha]at q;show _=_;dsimp only;rw[e1,e2,d];exact q⟩
     .dsimp only;omega
    .apply bG;simp;apply aH;obtain⟨f5,b6,d⟩:=a8;have d:r=iZ P B S y t:=d;have b4:t=p:=aE;subst b4;rw[O]at d;simp;exact aA F [] [(0,0)] (hH:=by simp[d])
  .apply aG;simp;apply aF;obtain⟨c,c6⟩:∃c,(a+b) / 2=c:=⟨_,rfl⟩;have hh:IntKind.i64.wrap ((IntKind.u64.wrap ((a:Int)+(b:Int))).fdiv (2^min 1 IntKind.u64.bits))=(c:Int):=Fa (n:=a+b) aE aE c6;obtain⟨K,g,b0,b1⟩:∃K g:Nat,(c<m->K+b=c+m/\g=c)/\(m<=c->K=a/\g=m):=by
    by_cases e:c<m
    .exact⟨c+m-b,c,λ_=>⟨aE,rfl⟩,λ_=>aE⟩
    .exact⟨a,m,λ_=>aE,λ_=>⟨rfl,rfl⟩⟩
   have e9:a<=K/\K<=g/\g<=m/\g<=c/\c+m<=K+b/\(K=a\/K+b=c+m)/\(g=m\/g=c):=by
    by_cases e:c<m
    .have:=b0 e;omega
    .have:=b1 aE;omega
   obtain⟨l1,l2,l3,l4,l5,l6,l7⟩:=e9;apply aI;simp[hh];refine⟨aE,?_⟩;apply aD;simp;refine⟨aE,?_⟩;apply aD;simp;refine aY (ι:=Unit) (λu=>aQ [(0,.ow 0 0 N),(1,.d (aJ a)),(2,.d (aJ m)),(3,.d (aJ b)),(4,.d (.fn 83 [])),(18,.d (aJ c)),(19,.d (aJ (c+m))),(20,.d (aJ K)),(21,.d (aJ g))]) (λu=>aL [(0,.row false 2 (L.map Df.d))]) (λu=>True) ?_ λu g5=>?_
   .apply aP;simp;refine⟨λe0=>?_,λe0=>?_⟩
    .have f6:=b0 aE;apply aD;simp;refine⟨aE,?_⟩;apply aI;simp;exact(aA F [0,1,2,3,4,18,19,20,21] [(0,0)] (by simp[show(c:Int)+(m:Int)-(b:Int)=(K:Int)by omega,show(g:Int)=(c:Int)by omega]))
    .have f6:=b1 aE;apply aD;simp;apply aI;simp;exact(aA F [0,1,2,3,4,18,19,20,21] [(0,0)] (by simp[show(K:Int)=(a:Int)by omega,show(g:Int)=(m:Int)by omega]))
   .apply aD;simp;refine⟨aE,?_⟩;apply cR;refine aO (ι:=Nat×Nat) (λ⟨f,J⟩=>aQ [(0,.ow 0 0 N),(1,.d (aJ a)),(2,.d (aJ m)),(3,.d (aJ b)),(4,.d (.fn 83 [])),(18,.d (aJ c)),(19,.d (aJ (c+m))),(20,.d (aJ f)),(21,.d (aJ J)),(22,.d (aJ (c+m-1)))]) (λ⟨f,J⟩=>aL [(0,.row false 2 (L.map Df.d))]) (λ⟨f,J⟩=>K<=f/\f<=J/\J<=g/\(f=K\/∃(h1:c-f<C.length) (h2:f-1-a<B.length),¬gH C[c-f] B[f-1-a])/\(J=g\/∃(h1:c-1-J<C.length) (h2:J-a<B.length),gH C[c-1-J] B[J-a])) (λ⟨f,J⟩=>J-f) (K,g) (aA F [0,1,2,3,4,18,19,20,21,22] [(0,0)]) (⟨B0 _,l2,B0 _,.inl rfl,.inl rfl⟩) λ⟨f,J⟩ a9=>?_;apply aF;apply aP;simp;refine⟨λe3=>?_,λe3=>?_⟩
    .apply aG;simp;apply aM;apply aF;obtain⟨M,H,I,k,a5⟩:=a9;obtain⟨w,hw⟩:∃w,(f+J) / 2=w:=⟨_,rfl⟩;have e8:IntKind.i64.wrap ((IntKind.u64.wrap ((f:Int)+(J:Int))).fdiv (2^min 1 IntKind.u64.bits))=(w:Int):=Fa (n:=f+J) aE aE hw;have d0:c-1-w<C.length:=aE;have d1:w-a<B.length:=aE;have aC:=Y _ d0;have aB:=W _ d1;rw[show a+(w-a)=w by omega]at aB;obtain⟨kB,eB⟩:=wV aB;obtain⟨kC,eC⟩:=wV aC;obtain⟨z1,b7⟩:∃z,C[c-1-w]=z:=⟨_,rfl⟩;obtain⟨z2,b8⟩:∃z,B[w-a]=z:=⟨_,rfl⟩;have G:AH z1.name z2.name<0↔gH z1 z2:=KL;rw[b7]at eC;rw[b8]at eB;apply aI;simp[e8];refine⟨aE,?_⟩;apply aF;have V:=CA z1 z2;refine fL.rd [] [[],[],[],[],[],[],[],[],[],[],[],[169]] (og 169 (.plain ⟨.d (aJ (AH z1.name z2.name)),true⟩)) ?_;simp[kB,eB,kC,eC,(show((c:Int)+(m:Int)- 1-(w:Int)).toNat=m+(c-1-w)by omega)];refine⟨by(repeat' with_reducible apply And.intro)<;>first|omega|simpa using V,?_⟩;apply aK;simp;refine⟨λe4=>?_,λe4=>?_⟩
     .apply aI;simp;refine⟨aE,?_⟩;refine QT.mk (w+1,J) (aA F [0,1,2,3,4,18,19,20,21,22] [(0,0)]) ?_ ?_
      .exact⟨AI,AI,I,.inr ⟨AI,AI,λe=>by have:=G.2 (by rw[<-b7,<-b8];simpa [show c-(w+1)=c-1-w by omega]using e);omega⟩,a5⟩
      .dsimp only;omega
     .apply aI;simp;refine QT.mk (f,w) (aA F [0,1,2,3,4,18,19,20,21,22] [(0,0)]) ?_ ?_
      .exact⟨M,AI,AI,k,.inr ⟨d0,d1,by have:=G.1 aE;rw[<-b7,<-b8]at this;exact this⟩⟩
      .dsimp only;omega
    .apply bG;simp;apply aF;obtain⟨M,H,I,k,a5⟩:=a9;have f4:f=J:=aE;subst f4;obtain⟨Z,h4⟩:∃Z,c+m-f=Z:=⟨_,rfl⟩;obtain⟨i,hi⟩:∃i,f-a=i:=⟨_,rfl⟩;obtain⟨j,hj⟩:∃j,c-f=j:=⟨_,rfl⟩;have a6:lT B C=lT (B.take i) (C.take j)++lT (B.drop i) (C.drop j):=aBT sB sC aE aE (by
      rcases k with k|⟨g1,g2,g3⟩
      .rcases l6 with l6|l6
       .exact .inl aE
       .exact .inr (.inl aE)
      .exact .inr (.inr ⟨aE,aE,by simpa [<-hi,<-hj,show f-a-1=f-1-a by omega]using g3⟩)) (by
      rcases a5 with a5|⟨g1,g2,g3⟩
      .rcases l7 with l7|l7
       .exact .inr (.inl aE)
       .exact .inl aE
      .exact .inr (.inr ⟨aE,aE,by simpa [<-hi,<-hj,show c-f-1=c-1-f by omega]using g3⟩))
     obtain⟨D,a0⟩:∃D,B.take i=D:=⟨_,rfl⟩;obtain⟨s,a1⟩:∃s,B.drop i=s:=⟨_,rfl⟩;obtain⟨v,a2⟩:∃v,C.take j=v:=⟨_,rfl⟩;obtain⟨E,a3⟩:∃E,C.drop j=E:=⟨_,rfl⟩;have e5:D++s=B:=by rw[<-a0,<-a1,A7]
     have e6:v++E=C:=(by rw[<-a2,<-a3,A7]);have h8:D.length=i:=(by rw[<-a0,A6];omega);have d2:s.length=m-f:=(by rw[<-a1,B7];omega);have d3:v.length=j:=(by rw[<-a2,A6];omega);have i0:E.length=b-Z:=(by rw[<-a3,B7];omega);have f7:dS D:=(by rw[<-a0];exact sB.take i);have f8:dS s:=(by rw[<-a1];exact sB.drop i);have d4:dS v:=(by rw[<-a2];exact sC.take j);have d5:dS E:=(by rw[<-a3];exact sC.drop j);rw[a0,a1,a2,a3]at a6;have c9:L=P++(D++(s++(v++(E++S)))):=by rw[<-Q,<-e5,<-e6];simp
     have c2:P++(lT D v++(lT s E++S))=T:=by rw[<-a4,a6];simp
     have c3:(c:Int)+(m:Int)-(f:Int)=(Z:Int):=aE;apply aI;simp[c3];refine⟨aE,?_⟩;refine aY (ι:=Unit) (λu2=>aQ [(0,.ow 0 0 N),(1,.d (aJ a)),(2,.d (aJ m)),(3,.d (aJ b)),(4,.d (.fn 83 [])),(18,.d (aJ c)),(20,.d (aJ f)),(24,.d (aJ Z))]) (λu2=>aL [(0,.row false 2 ((P++(D++(v++(s++(E++S))))).map Df.d))]) (λu2=>True) ?_ λu2 g6=>?_
     .apply aP;simp;refine⟨λb9 f9=>?_,λb9=>?_⟩
      .have kr:=ZJ (P++D) s v (E++S) f m Z N (λe=>by rw[e]at d2;simp at d2;omega) (λe=>by rw[e]at d3;simp at d3;omega) jJ aE aE jJ hl;have f1:P++D++(s++(v++(E++S)))=L:=by rw[c9];simp
       have f2:P++D++(v++(s++(E++S)))=P++(D++(v++(s++(E++S)))):=bC;rw[f1,f2]at kr;obtain⟨r1,b2⟩:∃r1,P++(D++(v++(s++(E++S))))=r1:=⟨_,rfl⟩;rw[b2]at kr;refine aU (oh 191 [(0,.row false 2 (r1.map Df.d))] (.tup [])) ?_;simp;refine⟨kr,?_⟩;rw[<-b2];exact(aA F [0,1,2,3,4,18,20,24] [(0,0)])
      .have f0:L=P++(D++(v++(s++(E++S)))):=by
        rw[c9];by_cases e:f<m
        .have:v=[]:=B1 (by have:=b9 aE;omega);rw[this];simp
        .have:s=[]:=B1 aE;rw[this];simp
       apply aG;simp;exact(aA F [0,1,2,3,4,18,20,24] [(0,0)] (hH:=by simp[f0]))
     .refine aY (ι:=Unit) (λu3=>aQ [(0,.ow 0 0 N),(1,.d (aJ a)),(2,.d (aJ m)),(3,.d (aJ b)),(4,.d (.fn 83 [])),(18,.d (aJ c)),(20,.d (aJ f)),(24,.d (aJ Z))]) (λu3=>aL [(0,.row false 2 ((P++(lT D v++(s++(E++S)))).map Df.d))]) (λu3=>True) ?_ λu3 g7=>?_
      .apply aP;simp;refine⟨λc0 g0=>?_,λc0=>?_⟩
       .have k1:=ih P D v (s++(E++S)) a f c ⟨aE,aE,f7,d4,ha,aE,aE,jJ,hl⟩ aE;unfold Jf at k1;obtain⟨r2,b3⟩:∃r2,P++(lT D v++(s++(E++S)))=r2:=⟨_,rfl⟩;rw[b3]at k1;simp at k1;refine aU (oh 205 [(0,.row false 2 (r2.map Df.d))] (.tup [])) ?_;simp;refine⟨k1,?_⟩;rw[<-b3];exact(aA F [0,1,2,3,4,18,20,24] [(0,0)])
       .have c7:lT D v=D++v:=by
         by_cases e:a<f
         .have:v=[]:=B1 (by have:=c0 aE;omega);rw[this];simp[GV]
         .have:D=[]:=B1 aE;rw[this,KK d4];rfl
        apply aG;simp;exact(aA F [0,1,2,3,4,18,20,24] [(0,0)] (hH:=by simp[c7]))
      .apply aP;simp;refine⟨λc1 g4=>?_,λc1=>?_⟩
       .have k2:=ih (P++lT D v) s E S c Z b ⟨aE,aE,f8,d5,by rw[A2,aBR];omega,aE,aE,aE,hl⟩ aE;unfold Jf at k2;rw[show P++lT D v++(lT s E++S)=T by rw[<-c2];simp]at k2;simp at k2;refine aU (oh 219 [(0,.row false 2 (T.map Df.d))] (.tup [])) ?_;simp;refine⟨k2,?_⟩;exact aA F [] [(0,0)]
       .have c8:lT s E=s++E:=by
         by_cases e:c<Z
         .have:E=[]:=B1 (by have:=c1 aE;omega);rw[this];simp[GV]
         .have:s=[]:=B1 aE;rw[this,KK d5];rfl
        apply aG;simp;have e7:T=P++(lT D v++(s++(E++S))):=by rw[<-c2,c8];simp
        exact aA F [] [(0,0)] (hH:=by simp[e7])
end
end Go.Eng
