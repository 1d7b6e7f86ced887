/- Part 8 of the proof. No condition. -/
import Derived.Test.YtepoffhhiddlkaaGreatDoorMG
open Go.Proofs
open Go.Proofs.Tryz
set_option linter.unusedVariables false
set_option linter.unusedSimpArgs false
set_option maxRecDepth 20000
set_option maxHeartbeats 4000000
open List renaming length_append→A0,getElem_of_mem→A1,take_of_length_le→A3,getElem?_append_right→A4,set_append_right→A5,take_append_drop→A6,length_take→A7,getElem?_append_left→A9,getElem?_eq_getElem→B0,take_succ_eq_append_getElem→B1,foldl_cons→B2,append_assoc→B3,getElem_take→B4,getElem_drop→B5,length_nil→B6,drop_eq_getElem_cons→B7,length_drop→B9,drop_of_length_le→C0,filter_eq_nil_iff→C1,append_nil→C2,foldl_append→C3,filter_congr→C4,getD_eq_getElem?_getD→C5,mem_cons_of_mem→C6,pairwise_cons→C8,mem_cons_self→C9,length_cons→D0,exists_cons_of_length_pos→D1,nil_append→D3,pairwise_iff_getElem→D5,getElem_append_right→D6,length_range→D7,le_trans→E0,getElem_mem→E1,cons_append→E2,perm_middle→E3,mem_append→E4,length_singleton→E5,not_lt→E6,set_append_left→E7,length_pos_iff→E8,filter_eq_self→E9,mem_cons→F0,take_sublist→F4,drop_sublist→F5,take_length→F6,length_map→F8,map→G0,range→G1,mem_range→G2,lt_irrefl→G3,lt_trans→G7,take→G8,map_set→G9
open Nat renaming add_sub_cancel_left→A2,le_refl→A8,zero_le→B8,one_le_two_pow→C7,mul_le_mul_right→D2,add_assoc→D8,lt_succ_iff_lt_or_eq→D9,pow_succ→F1,mul_comm→F2,succ_mul→F3,not_lt_zero→F9,reduceAdd→G4,reducePow→G5,reduceMul→G6
open Int renaming tdiv_nonneg→F7
open Classical renaming byContradiction→D4
namespace Go.Eng
section
attribute[local simp] aR bJ bF aO aL aX aP
attribute[local simp] kH.cond Nd.d_eq nd_t nd_dr nd_td ndsD aQ bN mF Int.add_assoc dK CE CF CG Km iX
def dG(L:List Int)(d i:Nat):Int:=if d=0\/L.length<i+1 then(eA L i 12).tmod 6 else eA L i 12
theorem gJ(L:List Int)(d i:Nat):0<=dG L d i/\dG L d i<12/\(d=0->dG L d i<6):=by
 have h:=cC L i 12 bK;unfold dG;split
 .have:(eA L i 12).tmod 6=eA L i 12%6:=Int.tmod_eq_emod_of_nonneg h.1;rw[this];omega
 .omega
theorem jX{L:List Int}{d i:Nat}(h:dG L d i=0\/dG L d i=1):valueM L d i=(.mk 32 [] (numsM.getD (eA L (i+1) 6).toNat 0) [],i+2):=by
 unfold dG at h;unfold valueM;simp only[];rw[if_pos h]
theorem jY{L:List Int}{d i:Nat}(h:dG L d i=2):valueM L d i=(.mk 33 (ownM L (i+1)) 0 [],i+2):=by
 have a:¬(dG L d i=0\/dG L d i=1):=aE;unfold dG at h a;unfold valueM;simp only[];rw[if_neg a,if_pos h]
theorem gE{L:List Int}{d i:Nat}(h:dG L d i=3\/dG L d i=4):valueM L d i=placeM L (i+1):=by
 have a:¬(dG L d i=0\/dG L d i=1):=aE;have b:¬(dG L d i=2):=aE;unfold dG at h a b;unfold valueM;simp only[];rw[if_neg a,if_neg b,if_pos h]
theorem iE{L:List Int}{d i:Nat}(h:dG L d i=5):valueM L d i=(.mk 36 [] 0 [],i+1):=by
 have a:¬(dG L d i=0\/dG L d i=1):=aE;have b:¬(dG L d i=2):=aE;have c:¬(dG L d i=3\/dG L d i=4):=aE;unfold dG at h a b c;unfold valueM;simp only[];rw[if_neg a,if_neg b,if_neg c,if_pos h]
theorem tC{L:List Int}{e i:Nat}(h:6<=dG L (e+1) i):valueM L (e+1) i=(.mk (26+dG L (e+1) i-6) [] 0 [(valueM L e (i+1)).1,(valueM L e (valueM L e (i+1)).2).1],(valueM L e (valueM L e (i+1)).2).2):=by
 have a:¬(dG L (e+1) i=0\/dG L (e+1) i=1):=aE;have b:¬(dG L (e+1) i=2):=aE;have c:¬(dG L (e+1) i=3\/dG L (e+1) i=4):=aE;have d:¬(dG L (e+1) i=5):=aE;rw[valueM];have f:(if e+1=0\/L.length<i+1 then(eA L i 12).tmod 6 else eA L i 12)=dG L (e+1) i:=rfl;rw[f,if_neg a,if_neg b,if_neg c,if_neg d]
theorem Bh(L:List Int)(i:Nat):(placeM L i).2<=i+3:=by unfold placeM;split<;>simp
theorem Bi(L:List Int):∀(d i:Nat),(valueM L d i).2+1<=i+5*2^d:=λd=>by
 induction d with
 |zero=>
  intro i;obtain⟨l,_,h⟩:=gJ L 0 i;have h:=h rfl;by_cases c:dG L 0 i=0\/dG L 0 i=1
  .rw[jX c];simp
  .by_cases f:dG L 0 i=2
   .rw[jY f];simp
   .by_cases g:dG L 0 i=3\/dG L 0 i=4
    .rw[gE g];have:=Bh L (i+1);omega
    .rw[iE aE];simp
 |succ e ih=>
  intro i;have m:1<=2^e:=C7;have g:2^(e+1)=2*2^e:=by rw[F1,F2]
  obtain⟨l,_,_⟩:=gJ L (e+1) i;by_cases c:dG L (e+1) i=0\/dG L (e+1) i=1
  .rw[jX c];simp only;omega
  .by_cases f:dG L (e+1) i=2
   .rw[jY f];simp only;omega
   .by_cases j:dG L (e+1) i=3\/dG L (e+1) i=4
    .rw[gE j];have:=Bh L (i+1);omega
    .by_cases k:dG L (e+1) i=5
     .rw[iE k];simp only;omega
     .rw[tC aE];have a:=ih (i+1);have b:=ih (valueM L e (i+1)).2;simp only;omega
theorem CI(L:List Int)(d i:Nat)(n:Kt L)(F:L.length<=1000000)(K:i+5*2^d<=2000000)(w:∀e,d=e+1->∀j,j+5*2^e<=2000000->mE prog 276 [.bx 0 0,.d (aI (e:Nat))] (iX L j) (iX L (valueM L e j).2) (.d (valueM L e j).1.d)):mE prog 276 [.bx 0 0,.d (aI (d:Nat))] (iX L i) (iX L (valueM L d i).2) (.d (valueM L d i).1.d):=by
 have C:1<=2^d:=C7;unfold iX;refine lA func276 rfl ntmps276 results276 λO X c=>?_;apply aD;simp;apply aF;have s:=fM L i 12 n aE bK;refine bG (oh 8 (iX L (i+1)) (.d (aI (eA L i 12)))) ?_;simp;refine⟨by simpa using s,?_⟩;refine bH (ι:=KC) (λ⟨k⟩=>bA [(0,.bx 0 0),(1,.d (aI (d:Nat))),(4,.bx 4 0),(5,.d (aI k))]) (λ⟨k⟩=>aK [(0,.box false [.d (.sl (L.map aI)),.d (aI ((i+1:Nat):Int))]),(4,.box false [.d (aI 0),.d (.str []),.d (aI 0),.nl])]) (λ⟨k⟩=>dG L d i=k) ?_ λ⟨k⟩ a=>?_
 .apply aF;refine fF.rd [] [] (λ_=>none) ?_;simp;apply aM;simp;refine⟨λA=>?_,λA B=>?_⟩
  .apply aJ;simp;refine XV.mk ⟨(eA L i 12).tmod 6⟩ (aA c [0,1,4,5] [(0,0),(4,4)]) ?_;unfold dG;rw[if_pos aE]
  .apply aG;simp;refine XV.mk ⟨eA L i 12⟩ (aA c [0,1,4,5] [(0,0),(4,4)]) ?_;unfold dG;rw[if_neg aE]
 .apply eP;simp;apply aW;refine bH (ι:=BC) (λ⟨b⟩=>bA [(0,.bx 0 0),(1,.d (aI (d:Nat))),(4,.bx 4 0),(5,.d (aI k)),(25,.d (aI (k))),(26,.d (.bool b))]) (λ⟨b⟩=>aK [(0,.box false [.d (.sl (L.map aI)),.d (aI ((i+1:Nat):Int))]),(4,.box false [.d (aI 0),.d (.str []),.d (aI 0),.nl])]) (λ⟨b⟩=>b=true↔(k=0\/k=1)) ?_ λ⟨b⟩ m=>?_
  .apply bE;simp;refine⟨λv=>?_,λv=>?_⟩
   .apply aG;simp;refine XV.mk ⟨decide (k=0)⟩ (aA c [0,1,4,5,25,26] [(0,0),(4,4)]) ?_;simp[v]
   .apply aJ;simp;refine XV.mk ⟨decide (k=1)⟩ (aA c [0,1,4,5,25,26] [(0,0),(4,4)]) ?_;simp only[decide_eq_true_eq];omega
  .apply aM;simp;refine⟨λr=>?_,λr=>?_⟩
   .have J:=m.1 r;apply aF;have s:=fM L (i+1) 6 n aE bK;have M:=cC L ((i:Int)+1) 6 bK;have h:=aAg (L:=L) (i:=i+1);simp[numsM]at h;refine bG (oh 31 (iX L (i+1+1)) (.d (aI (eA L ((i:Int)+1) 6)))) ?_;simp[h];refine⟨⟨⟨⟨bK,by simpa using s⟩,aE⟩,aE⟩,?_⟩;apply aH;simp;have e:=jX (L:=L) (d:=d) (i:=i) (by simp only at a;omega);refine cO (x:=(valueM L d i).1.d) (by simp[e,numsM]) ?_;simp;exact aA c [0] [(0,0)] (hH:=by simp[e])
   .have J:¬(k=0\/k=1):=λq=>by simp[m.2 q]at r
    apply bE;simp;refine⟨λD=>?_,λD=>?_⟩
    .apply aF;have h:=Bg L (i+1) n aE;refine bG (oh 38 (iX L (i+1+1)) (.d (.str (ownM L (i+1))))) ?_;simp;refine⟨by simpa using h,?_⟩;apply aH;simp;have e:=jY (L:=L) (d:=d) (i:=i) (by simp only at a;omega);refine cO (x:=(valueM L d i).1.d) (by simp[e]) ?_;simp;exact aA c [0] [(0,0)] (hH:=by simp[e])
    .refine bH (ι:=BC) (λ⟨b⟩=>bA [(0,.bx 0 0),(1,.d (aI (d:Nat))),(4,.bx 4 0),(5,.d (aI k)),(25,.d (aI (k))),(40,.d (.bool b))]) (λ⟨b⟩=>aK [(0,.box false [.d (.sl (L.map aI)),.d (aI ((i+1:Nat):Int))]),(4,.box false [.d (aI 0),.d (.str []),.d (aI 0),.nl])]) (λ⟨b⟩=>b=true↔(k=3\/k=4)) ?_ λ⟨b⟩ f=>?_
     .apply bE;simp;refine⟨λl=>?_,λl=>?_⟩
      .apply aG;simp;refine XV.mk ⟨decide (k=3)⟩ (aA c [0,1,4,5,25,40] [(0,0),(4,4)]) ?_;simp[l]
      .apply aJ;simp;refine XV.mk ⟨decide (k=4)⟩ (aA c [0,1,4,5,25,40] [(0,0),(4,4)]) ?_;simp only[decide_eq_true_eq];omega
     .apply aM;simp;refine⟨λg=>?_,λg=>?_⟩
      .have t:=f.1 g;apply aF;have h:=VI L (i+1) n aE;refine bG (oh 44 (iX L (placeM L (i+1)).2) (.d (placeM L (i+1)).1.d)) ?_;simp;refine⟨by simpa using h,?_⟩;apply aH;simp;have e:=gE (L:=L) (d:=d) (i:=i) (by simp only at a;omega);refine cO (x:=(valueM L d i).1.d) (by simp[e]) ?_;simp;exact aA c [0] [(0,0)] (hH:=by simp[e])
      .have t:¬(k=3\/k=4):=λq=>by simp[f.2 q]at g
       apply bE;simp;refine⟨λp=>?_,λp=>?_⟩
       .apply aD;simp;apply aH;simp;have e:=iE (L:=L) (d:=d) (i:=i) (by simp only at a;omega);refine cO (x:=(valueM L d i).1.d) (by simp[e]) ?_;simp;exact aA c [0] [(0,0)] (hH:=by simp[e])
       .apply aG;simp;apply aF;have E:6<=k/\k<12:=by have:=gJ L d i;simp only at a;omega
        obtain⟨e,rfl⟩:∃e,d=e+1:=⟨d-1,by have:=gJ L d i;simp only at a;omega⟩;have H:2^(e+1)=2*2^e:=by rw[F1,F2]
        have I:1<=2^e:=C7;have G:e<2^e:=Nat.lt_two_pow_self;have y:=w e rfl (i+1) aE;have N:=Bi L e (i+1);have z:=w e rfl (valueM L e (i+1)).2 aE;have u:((e:Int)+1)- 1=e:=aE;refine bG (oh 51 (iX L (valueM L e (i+1)).2) (.d (valueM L e (i+1)).1.d)) ?_;simp[u];refine⟨⟨aE,by simpa using y⟩,?_⟩;apply aF;refine fF.rd [[0,60],[0,60],[0,60],[0]] [[],[],[],[],[],[],[],[0],[60],[],[4]] (oh 59 (iX L (valueM L e (valueM L e (i+1)).2).2) (.d (valueM L e (valueM L e (i+1)).2).1.d)) ?_;simp[u];refine⟨⟨⟨⟨⟨aE,aE⟩,aE⟩,by simpa using z⟩,bK⟩,?_⟩;apply aH;simp;have o:=tC (L:=L) (e:=e) (i:=i) (by simp only at a;omega);rw[show dG L (e+1) i=k from a]at o;refine cO (x:=(valueM L (e+1) i).1.d) (by simp[o]) ?_;simp;exact aA c [0] [(0,0)] (hH:=by simp[o])
theorem tD(L:List Int)(c:Kt L)(a:L.length<=1000000):∀(d i:Nat),i+5*2^d<=2000000->mE prog 276 [.bx 0 0,.d (aI (d:Nat))] (iX L i) (iX L (valueM L d i).2) (.d (valueM L d i).1.d):=λd=>by
 induction d with
 |zero=>exact λi b=>CI L 0 i c a b λe f=>aE
 |succ d ihd=>
  intro i b;refine CI L (d+1) i c a b λe f j g=>?_;have:e=d:=aE;subst this;exact ihd j g
def PX(L:List Int)(g:FuncId)(d:Nat)(b:Nat)(x:Nat->Nd×Nat):Prop:=∀j,j<=b->mE prog g [.bx 0 0,.d (aI (d:Nat))] (iX L j) (iX L (x j).2) (.d (x j).1.d)
structure SmS where
 c:Nat
 ks:List Nd
 j:Nat
theorem Se{L:List Int}{b:Nat->Nd×Nat}{m:Nat}{a:List Nd}{j:Nat}(h:m=0\/L.length<=j):somesM L b m a j=(a,j):=by
 cases m with
 |zero=>rfl
 |succ m=>
  unfold somesM;rw[if_pos aE]
theorem VJ{L:List Int}{a:Nat->Nd×Nat}{m:Nat}{b:List Nd}{j:Nat}(c:0<m)(h:j<L.length):somesM L a m b j=somesM L a (m-1) (b++[(a j).1]) (a j).2:=by
 obtain⟨k,rfl⟩:∃k,m=k+1:=⟨m-1,aE⟩;rw[somesM,if_neg aE];rfl
theorem Nk(L:List Int)(d i:Nat)(a:Nat->Nd×Nat)(r:Kt L)(u:L.length<=1000000)(b:Nat)(A:i<=b)(z:b<=1800000)(s:PX L 223 d (b+40000) a)(k:∀j,(a j).2<=j+10000):mE prog 278 [.bx 0 0,.d (aI (d:Nat))] (iX L i) (iX L (someM L a i).2) (.d (someM L a i).1.d):=by
 unfold iX;refine lA func278 rfl ntmps278 results278 λC X l=>?_;apply aD;simp;apply aD;simp;refine kY (fz:=false) (cs:=[.d (aI 8),.d (.str []),.d (aI 0),.nl]) 5 3 1034 4 bK ⟨bB,bB,bB,?_⟩;simp;apply aF;have o:=fM L i 4 r aE bK;have B:=cC L i 4 bK;obtain⟨n,p⟩:∃n:Nat,eA L i 4=(n:Int):=⟨(eA L i 4).toNat,aE⟩;have m:someM L a i=(.mk 8 [] 0 (somesM L a n [] (i+1)).1,(somesM L a n [] (i+1)).2):=by unfold someM;simp only[];rw[p];rfl
 rw[p]at o;refine bG (oh 10 (iX L (i+1)) (.d (aI (n:Nat)))) ?_;simp;refine⟨by simpa using o,?_⟩;apply eP;simp;apply aW;refine aZ (ι:=SmS) (λ⟨c,f,j⟩=>bA [(0,.bx 0 0),(1,.d (aI (d:Nat))),(4,.bx 4 0),(5,.bx 5 0),(6,.d (aI (n:Nat))),(7,.d (aI (c:Nat)))]) (λ⟨c,f,j⟩=>aK [(0,.box false [.d (.sl (L.map aI)),.d (aI (j:Nat))]),(4,.box false [.d (aI 0),.d (.str []),.d (aI 0),.nl]),(5,.box false [.d (aI 8),.d (.str []),.d (aI 0),.ow 1034 0 f.length]),(1034,.row false 4 (f.map Nd.d))]) (λ⟨c,f,j⟩=>c<=n/\j<=i+1+c*10000/\f.length<=c/\somesM L a n [] (i+1)=somesM L a (n-c) f j) (λ⟨c,f,j⟩=>n-c) ⟨0,[],i+1⟩ (aA l [0,1,4,5,6,7] [(0,0),(4,4),(5,5),(1034,1034)]) (⟨B8 _,aE,A8 _,rfl⟩) λ⟨c,f,j⟩ h=>?_;apply fE;refine fF.rd [] [] (λ_=>none) ?_;simp;apply aM;simp;refine⟨λw y=>?_,λg=>?_⟩
 .apply aG;simp;apply eG;have v:=s j (by have:=h.2.1;omega);have t:=h.2.2.1;refine fF.rd [[0,33],[0,33]] [[],[],[],[],[0],[33],[34,1034],[],[5]] (oh 32 (iX L (a j).2) (.d (a j).1.d)) ?_;simp;refine⟨by(repeat' with_reducible apply And.intro)<;>first|omega|(simpa using v),?_⟩;apply aJ;simp;refine⟨aE,?_⟩;refine On.mk ⟨c+1,f++[(a j).1],(a j).2⟩ (aA l [0,1,4,5,6,7] [(0,0),(4,4),(5,5),(34,1034)]) ?_ ?_
  .refine⟨(show c+1<=n by omega),?_,?_,?_⟩
   .have:=k j;show(a j).2<=i+1+(c+1)*10000;omega
   .show(f++[(a j).1]).length<=c+1;rw[A0,E5];omega
   .rw[h.2.2.2,VJ aE aE];rfl
  .show n-(c+1)<n-c;omega
 .apply bP;simp;apply aD;simp;apply aH;simp;have e:someM L a i=(.mk 8 [] 0 f,j):=by rw[m,h.2.2.2,Se (by rcases Nat.lt_or_ge c n with q|q;exact .inr (by have:=g aE;omega);exact .inl aE)]
  refine cO (x:=(someM L a i).1.d) (by simp[e]) ?_;simp;exact aA l [0] [(0,0)] (hH:=by simp[e])
structure NdN where
 x:Nd
 j:Nat
def Nl(L:List Int)(d i:Nat):Int:=if d=0/\(9+eA L i 17=11\/9+eA L i 17=12)then 24 else 9+eA L i 17
def wK(L:List Int)(bl:Nat->Nd×Nat)(k:Int)(i:Nat):Nd×Nat:=
 if k=9 then(.mk k (ownM L i) 0 [(valueM L 2 (i+1)).1],(valueM L 2 (i+1)).2)
 else if k=10 then(.mk k [] 0 [(placeM L i).1,(valueM L 2 (placeM L i).2).1],(valueM L 2 (placeM L i).2).2)
 else if k=11\/k=12 then
  (if k=11 then(if eA L (bl (valueM L 1 i).2).2 2=0 then(.mk k [] 0 [(valueM L 1 i).1,(bl (valueM L 1 i).2).1,(bl ((bl (valueM L 1 i).2).2+1)).1],(bl ((bl (valueM L 1 i).2).2+1)).2)else(.mk k [] 0 [(valueM L 1 i).1,(bl (valueM L 1 i).2).1],(bl (valueM L 1 i).2).2+1))
  else(.mk k [] 0 [(valueM L 1 i).1,(bl (valueM L 1 i).2).1],(bl (valueM L 1 i).2).2))
 else if k=13\/k=14\/k=17\/k=18 then(.mk k (callM L i) 0 [],i+1)
 else if k=15\/k=22 then(.mk k (callM L i) 0 [(valueM L 1 (i+1)).1],(valueM L 1 (i+1)).2)
 else if k=16\/k=23 then(.mk k (callM L i) 0 [.mk 33 (ownM L (i+1)) 0 []],i+2)
 else if k=19 then(.mk k (ownM L i) (2+eA L (i+1) 5) [],i+2)
 else if k=20 then(.mk k (ownM L i) 0 [],i+1)
 else if k=21 then(.mk k [] (1+eA L i 9) [],i+1)
 else if k=25 then(.mk k [] (1+eA L i 99) [],i+1)
 else(.mk k [] 0 [(valueM L 2 i).1],(valueM L 2 i).2)
theorem gM{L:List Int}{d i:Nat}{a:Nat->Nd×Nat}{k:Int}(b:Nl L d i=k):oneB L d a i=wK L a k (i+1):=by subst b;rfl
theorem uF{L:List Int}{d i:Nat}{k:Int}(a:Nl L d i=k):9<=k/\k<=25/\(k=11\/k=12->0<d):=by
 subst a;have h:=cC L i 17 bK;unfold Nl;split<;>omega
theorem YB{c:Prop}[Decidable c]{f:Nat->bI}{l:DV}{a b:Int}{x:Nat}(h:f 0=.box false [.d l,.d (aI b)]):
 cD f (if c then [(0,.box false [.d l,.d (aI a)])]else []) x=if x=0 then .box false [.d l,.d (aI (if c then a else b))]else f x:=by
 by_cases d:c
 .simp only[d,if_true,cD,cP]
 .simp only[d,if_false,cD];split
  .rename_i e;rw[e];exact h
  .rfl
theorem PY{L:List Int}{d i C:Nat}{bl:Nat->Nd×Nat}(b:∀j,(bl j).2<=j+C):(oneB L d bl i).2<=i+40+2*C:=by
 rw[gM rfl];have c:=λj=>Bi L 1 j;have a:=λj=>Bi L 2 j;have n:=Bh L (i+1);unfold wK;have e:=c (i+1);have f:=c (i+2);have g:=a (i+1);have h:=a (i+2);have k:=a (placeM L (i+1)).2;have l:=b (valueM L 1 (i+1)).2;have m:=b ((bl (valueM L 1 (i+1)).2).2+1);simp only[D8,G4,G5,G6]at*;split
 .simp only;omega
 .split
  .simp only;omega
  .split
   .split
    .split<;>simp only<;>omega
    .simp only;omega
   .split
    .simp only;omega
    .split
     .simp only;omega
     .split
      .simp only;omega
      .split
       .simp only;omega
       .split
        .simp only;omega
        .split
         .simp only;omega
         .split<;>simp only<;>omega
theorem GT(L:List Int)(d i:Nat)(s:Nat->Nd×Nat)(n:Kt L)(p:L.length<=1000000)(m:Nat)(hi:i<=m)(hm:m<=1800000)(hd:d<=1000)(hB:∀e,d=e+1->PX L 278 e (m+30000) s)(a3:∀j,(s j).2<=j+20000):mE prog 223 [.bx 0 0,.d (aI (d:Nat))] (iX L i) (iX L (oneB L d s i).2) (.d (oneB L d s i).1.d):=by
 unfold iX;refine lA func223 rfl ntmps223 results223 λw0 X h=>?_;apply aD;simp;apply aF;have ha:=fM L i 17 n aE bK;have hr:=cC L i 17 bK;refine bG (oh 8 (iX L (i+1)) (.d (aI (eA L i 17)))) ?_;simp;refine⟨by(repeat' with_reducible apply And.intro)<;>first|omega|(simpa using ha),?_⟩;refine bH (ι:=KC) (λ⟨k⟩=>bA [(0,.bx 0 0),(1,.d (aI (d:Nat))),(4,.bx 4 0),(5,.bx 5 0)]) (λ⟨k⟩=>aK [(0,.box false [.d (.sl (L.map aI)),.d (aI ((i+1:Nat):Int))]),(4,.box false [.d (aI 0),.d (.str []),.d (aI 0),.nl]),(5,.box false [.d (aI k),.d (.str []),.d (aI 0),.nl])]) (λ⟨k⟩=>Nl L d i=k) ?_ λ⟨k⟩ f=>?_
 .apply aD;simp;refine⟨λa b=>⟨a,b⟩,?_⟩;apply aM;simp;refine⟨λg1 g2=>?_,λg=>?_⟩
  .apply aJ;simp;refine XV.mk ⟨24⟩ (aA h [0,1,4,5] [(0,0),(4,4),(5,5)]) ?_;unfold Nl;rw[if_pos ⟨aE,aE⟩]
  .apply aG;simp;refine XV.mk ⟨9+eA L i 17⟩ (aA h [0,1,4,5] [(0,0),(4,4),(5,5)]) ?_;unfold Nl;rw[if_neg aE]
 .refine bH (ι:=NdN) (λ⟨x,j⟩=>bA [(0,.bx 0 0),(1,.d (aI (d:Nat))),(4,.bx 4 0),(5,.bx 5 0)]) (λ⟨x,j⟩=>aK [(0,.box false [.d (.sl (L.map aI)),.d (aI (j:Nat))]),(4,.box false [.d (aI 0),.d (.str []),.d (aI 0),.nl]),(5,.box false [.d (aI x.kind),.d (.str x.text),.d (aI x.n),.d (ndsD x.kids)])]) (λ⟨x,j⟩=>oneB L d s i=(x,j)) ?_ λ⟨x,j⟩ y=>?_
  .apply aD;simp;apply aW;apply bE;simp;refine⟨λh5=>?_,λh5=>?_⟩
   .apply aF;have l:=Bg L (i+1) n aE;refine bG (oh 29 (iX L (i+2)) (.d (.str (ownM L (i+1))))) ?_;simp;refine⟨by simpa using l,?_⟩;have r:=tD L n p 2 (i+2) aE;refine bG (oh 32 (iX L (valueM L 2 (i+2)).2) (.d (valueM L 2 (i+2)).1.d)) ?_;simp;refine⟨by simpa using r,?_⟩;refine iC (cA 5 [33] (fz:=false) (cs:=[.d (aI k),.d (.str (ownM L (i+1))),.d (aI (0)),.ow 33 0 1]) (ds:=[aI k,.str (ownM L (i+1)),aI (0),.sl [((valueM L 2 (i+2)).1).d]]) bB bB bB (by simp[bI.mut])) ?_;simp;refine XV.mk ⟨.mk k (ownM L (i+1)) (0) [(valueM L 2 (i+2)).1],(valueM L 2 (i+2)).2⟩ (aA h [0,1,4,5] [(0,0),(4,4),(5,5)]) ?_;rw[gM f];unfold wK;repeat(first|rw[if_pos aE]|rw[if_neg aE])
   .apply bE;simp;refine⟨λh8=>?_,λh8=>?_⟩
    .apply aF;have a4:=VI L (i+1) n aE;have a9:=Bh L (i+1);refine bG (oh 38 (iX L (placeM L (i+1)).2) (.d (placeM L (i+1)).1.d)) ?_;simp;refine⟨by simpa using a4,?_⟩;have r:=tD L n p 2 (placeM L (i+1)).2 aE;refine fF.rd [[0]] [[],[],[0],[42],[],[5]] (oh 41 (iX L (valueM L 2 (placeM L (i+1)).2).2) (.d (valueM L 2 (placeM L (i+1)).2).1.d)) ?_;simp;refine⟨⟨by simpa using r,bK⟩,?_⟩;refine iC (cA 5 [42] (fz:=false) (cs:=[.d (aI k),.d (.str ([])),.d (aI (0)),.ow 42 0 2]) (ds:=[aI k,.str ([]),aI (0),.sl [((placeM L (i+1)).1).d,((valueM L 2 (placeM L (i+1)).2).1).d]]) bB bB bB (by simp[bI.mut])) ?_;simp;refine XV.mk ⟨.mk k ([]) (0) [(placeM L (i+1)).1,(valueM L 2 (placeM L (i+1)).2).1],(valueM L 2 (placeM L (i+1)).2).2⟩ (aA h [0,1,4,5] [(0,0),(4,4),(5,5)]) ?_;rw[gM f];unfold wK;repeat(first|rw[if_pos aE]|rw[if_neg aE])
    .refine bH (ι:=BC) (λ⟨b⟩=>bA [(0,.bx 0 0),(1,.d (aI (d:Nat))),(4,.bx 4 0),(5,.bx 5 0),(25,.d (aI (k))),(44,.d (.bool b))]) (λ⟨b⟩=>aK [(0,.box false [.d (.sl (L.map aI)),.d (aI ((i+1:Nat):Int))]),(4,.box false [.d (aI 0),.d (.str []),.d (aI 0),.nl]),(5,.box false [.d (aI k),.d (.str []),.d (aI 0),.nl])]) (λ⟨b⟩=>b=true↔(k=11\/k=12)) ?_ λ⟨b⟩ t=>?_
     .apply bE;simp;refine⟨λH=>?_,λH=>?_⟩
      .apply aG;simp;refine XV.mk ⟨decide (k=11)⟩ (aA h [0,1,4,5,25,44] [(0,0),(4,4),(5,5)]) ?_;simp[H]
      .apply aJ;simp;refine XV.mk ⟨decide (k=12)⟩ (aA h [0,1,4,5,25,44] [(0,0),(4,4),(5,5)]) ?_;simp only[decide_eq_true_eq];omega
     .apply aM;simp;refine⟨λz=>?_,λz=>?_⟩
      .have Y:=t.1 z;apply aF;obtain⟨e,Q⟩:∃e,d=e+1:=⟨d-1,by have:=(uF f).2.2 Y;omega⟩;have O:=hB e Q;subst Q;have r:=tD L n p 1 (i+1) aE;have tv:=Bi L 1 (i+1);obtain⟨a,D⟩:∃a,a=valueM L 1 (i+1):=⟨_,rfl⟩;rw[<-D]at r tv;have V:=O a.2 aE;obtain⟨b,E⟩:∃b,b=s a.2:=⟨_,rfl⟩;have tb:=a3 a.2;rw[<-E]at V tb;have W:=O (b.2+1) aE;obtain⟨c,P⟩:∃c,c=s (b.2+1):=⟨_,rfl⟩;rw[<-P]at W;have a5:=fM L b.2 2 n aE bK;have ez:((e:Int)+1)- 1=e:=aE;refine bG (oh 48 (iX L a.2) (.d a.1.d)) ?_;simp;refine⟨by simpa using r,?_⟩;apply aF;refine fF.rd [[0,57],[0,57]] [[],[],[],[],[],[0],[57],[58,49],[],[5]] (oh 56 (iX L b.2) (.d b.1.d)) ?_;simp[ez];refine⟨by(repeat' with_reducible apply And.intro)<;>first|omega|(simpa using V)|decide,?_⟩;refine dH (oh 65 (iX L (b.2+1)) (.d (aI (eA L b.2 2)))) ?_;simp[YB (b:=(b.2:Int))];refine⟨λ_=>by simpa using a5,?_⟩;apply aM;simp;refine⟨λG g4=>?_,λG=>?_⟩
       .simp only[if_pos G];refine fF.rd [[0,74],[0,74]] [[],[],[],[],[],[0],[74],[75,58],[],[5]] (oh 73 (iX L c.2) (.d c.1.d)) ?_;simp[ez];refine⟨by(repeat' with_reducible apply And.intro)<;>first|omega|(simpa using W)|decide,?_⟩;refine iC (cA 5 [75] (fz:=false) (cs:=[.d (aI k),.d (.str ([])),.d (aI (0)),.ow 75 0 3]) (ds:=[aI k,.str ([]),aI (0),.sl [(a.1).d,(b.1).d,(c.1).d]]) bB bB bB (by simp[bI.mut])) ?_;simp;refine XV.mk ⟨.mk k ([]) (0) [a.1,b.1,c.1],c.2⟩ (aA h [0,1,4,5] [(0,0),(4,4),(5,5)] (hH:=by simp[G])) ?_;rw[gM f];unfold wK;rw[<-D,<-E,<-P,if_neg aE,if_neg aE,if_pos aE,if_pos G,if_pos g4]
       .apply aG;simp;refine iC (cA 5 [58] (fz:=false) (cs:=[.d (aI k),.d (.str ([])),.d (aI (0)),.ow 58 0 2]) (ds:=[aI k,.str ([]),aI (0),.sl [(a.1).d,(b.1).d]]) bB bB bB (by simp[bI.mut])) ?_;simp;refine XV.mk ⟨.mk k ([]) (0) [a.1,b.1],if k=11 then b.2+1 else b.2⟩ (aA h [0,1,4,5] [(0,0),(4,4),(5,5)] (hH:=by by_cases F:k=11<;>simp[F])) ?_;rw[gM f];unfold wK;rw[<-D,<-E];by_cases F:k=11
        .rw[if_neg aE,if_neg aE,if_pos aE,if_pos F,if_neg (G F)];simp[F]
        .rw[if_neg aE,if_neg aE,if_pos aE,if_neg F];simp[F]
      .have Y:¬(k=11\/k=12):=λq=>by simp[t.2 q]at z
       refine bH (ι:=BC) (λ⟨b⟩=>bA [(0,.bx 0 0),(1,.d (aI (d:Nat))),(4,.bx 4 0),(5,.bx 5 0),(25,.d (aI (k))),(77,.d (.bool b))]) (λ⟨b⟩=>aK [(0,.box false [.d (.sl (L.map aI)),.d (aI ((i+1:Nat):Int))]),(4,.box false [.d (aI 0),.d (.str []),.d (aI 0),.nl]),(5,.box false [.d (aI k),.d (.str []),.d (aI 0),.nl])]) (λ⟨b⟩=>b=true↔(k=13\/k=14\/k=17\/k=18)) ?_ λ⟨b⟩ u=>?_
       .apply bE;simp;refine⟨λI=>?_,λI=>?_⟩
        .apply aG;simp;refine XV.mk ⟨decide (k=13)⟩ (aA h [0,1,4,5,25,77] [(0,0),(4,4),(5,5)]) ?_;simp[I]
        .apply bE;simp;refine⟨λJ=>?_,λJ=>?_⟩
         .apply aG;simp;refine XV.mk ⟨decide (k=14)⟩ (aA h [0,1,4,5,25,77] [(0,0),(4,4),(5,5)]) ?_;simp[J]
         .apply bE;simp;refine⟨λK=>?_,λK=>?_⟩
          .apply aG;simp;refine XV.mk ⟨decide (k=17)⟩ (aA h [0,1,4,5,25,77] [(0,0),(4,4),(5,5)]) ?_;simp[K]
          .apply aJ;simp;refine XV.mk ⟨decide (k=18)⟩ (aA h [0,1,4,5,25,77] [(0,0),(4,4),(5,5)]) ?_;simp only[decide_eq_true_eq];omega
       .apply aM;simp;refine⟨λA=>?_,λA=>?_⟩
        .have a6:=u.1 A;have l:=jL L (i+1) n aE;refine bG (oh 83 (iX L (i+2)) (.d (.str (callM L (i+1))))) ?_;simp;refine⟨by simpa using l,?_⟩;refine iC (cA 5 [] (fz:=false) (cs:=[.d (aI k),.d (.str (callM L (i+1))),.d (aI (0)),.nl]) (ds:=[aI k,.str (callM L (i+1)),aI (0),.sl []]) bB bB bB (by simp[bI.mut])) ?_;simp;refine XV.mk ⟨.mk k (callM L (i+1)) (0) [],i+2⟩ (aA h [0,1,4,5] [(0,0),(4,4),(5,5)]) ?_;rw[gM f];unfold wK;repeat(first|rw[if_pos aE]|rw[if_neg aE])
        .have a6:¬(k=13\/k=14\/k=17\/k=18):=λq=>by simp[u.2 q]at A
         refine bH (ι:=BC) (λ⟨b⟩=>bA [(0,.bx 0 0),(1,.d (aI (d:Nat))),(4,.bx 4 0),(5,.bx 5 0),(25,.d (aI (k))),(85,.d (.bool b))]) (λ⟨b⟩=>aK [(0,.box false [.d (.sl (L.map aI)),.d (aI ((i+1:Nat):Int))]),(4,.box false [.d (aI 0),.d (.str []),.d (aI 0),.nl]),(5,.box false [.d (aI k),.d (.str []),.d (aI 0),.nl])]) (λ⟨b⟩=>b=true↔(k=15\/k=22)) ?_ λ⟨b⟩ v=>?_
         .apply bE;simp;refine⟨λM=>?_,λM=>?_⟩
          .apply aG;simp;refine XV.mk ⟨decide (k=15)⟩ (aA h [0,1,4,5,25,85] [(0,0),(4,4),(5,5)]) ?_;simp[M]
          .apply aJ;simp;refine XV.mk ⟨decide (k=22)⟩ (aA h [0,1,4,5,25,85] [(0,0),(4,4),(5,5)]) ?_;simp only[decide_eq_true_eq];omega
         .apply aM;simp;refine⟨λB=>?_,λB=>?_⟩
          .have a7:=v.1 B;apply aF;have l:=jL L (i+1) n aE;refine bG (oh 89 (iX L (i+2)) (.d (.str (callM L (i+1))))) ?_;simp;refine⟨by simpa using l,?_⟩;have r:=tD L n p 1 (i+2) aE;refine bG (oh 92 (iX L (valueM L 1 (i+2)).2) (.d (valueM L 1 (i+2)).1.d)) ?_;simp;refine⟨by simpa using r,?_⟩;refine iC (cA 5 [93] (fz:=false) (cs:=[.d (aI k),.d (.str (callM L (i+1))),.d (aI (0)),.ow 93 0 1]) (ds:=[aI k,.str (callM L (i+1)),aI (0),.sl [((valueM L 1 (i+2)).1).d]]) bB bB bB (by simp[bI.mut])) ?_;simp;refine XV.mk ⟨.mk k (callM L (i+1)) (0) [(valueM L 1 (i+2)).1],(valueM L 1 (i+2)).2⟩ (aA h [0,1,4,5] [(0,0),(4,4),(5,5)]) ?_;rw[gM f];unfold wK;repeat(first|rw[if_pos aE]|rw[if_neg aE])
          .have a7:¬(k=15\/k=22):=λq=>by simp[v.2 q]at B
           refine bH (ι:=BC) (λ⟨b⟩=>bA [(0,.bx 0 0),(1,.d (aI (d:Nat))),(4,.bx 4 0),(5,.bx 5 0),(25,.d (aI (k))),(95,.d (.bool b))]) (λ⟨b⟩=>aK [(0,.box false [.d (.sl (L.map aI)),.d (aI ((i+1:Nat):Int))]),(4,.box false [.d (aI 0),.d (.str []),.d (aI 0),.nl]),(5,.box false [.d (aI k),.d (.str []),.d (aI 0),.nl])]) (λ⟨b⟩=>b=true↔(k=16\/k=23)) ?_ λ⟨b⟩ w=>?_
           .apply bE;simp;refine⟨λN=>?_,λN=>?_⟩
            .apply aG;simp;refine XV.mk ⟨decide (k=16)⟩ (aA h [0,1,4,5,25,95] [(0,0),(4,4),(5,5)]) ?_;simp[N]
            .apply aJ;simp;refine XV.mk ⟨decide (k=23)⟩ (aA h [0,1,4,5,25,95] [(0,0),(4,4),(5,5)]) ?_;simp only[decide_eq_true_eq];omega
           .apply aM;simp;refine⟨λC=>?_,λC=>?_⟩
            .have a8:=w.1 C;apply aF;have l:=jL L (i+1) n aE;refine bG (oh 99 (iX L (i+2)) (.d (.str (callM L (i+1))))) ?_;simp;refine⟨by simpa using l,?_⟩;have o:=Bg L (i+2) n aE;refine bG (oh 102 (iX L (i+3)) (.d (.str (ownM L (i+2))))) ?_;simp;refine⟨by simpa using o,?_⟩;refine iC (cA 5 [104] (fz:=false) (cs:=[.d (aI k),.d (.str (callM L (i+1))),.d (aI (0)),.ow 104 0 1]) (ds:=[aI k,.str (callM L (i+1)),aI (0),.sl [(Nd.mk 33 (ownM L (i+2)) 0 []).d]]) bB bB bB (by simp[bI.mut])) ?_;simp;refine XV.mk ⟨.mk k (callM L (i+1)) (0) [Nd.mk 33 (ownM L (i+2)) 0 []],i+3⟩ (aA h [0,1,4,5] [(0,0),(4,4),(5,5)]) ?_;rw[gM f];unfold wK;repeat(first|rw[if_pos aE]|rw[if_neg aE])
            .have a8:¬(k=16\/k=23):=λq=>by simp[w.2 q]at C
             apply bE;simp;refine⟨λZ=>?_,λZ=>?_⟩
             .apply aF;have l:=Bg L (i+1) n aE;refine bG (oh 109 (iX L (i+2)) (.d (.str (ownM L (i+1))))) ?_;simp;refine⟨by simpa using l,?_⟩;have o:=fM L (i+2) 5 n aE bK;have U:=cC L ((i:Int)+2) 5 bK;refine bG (oh 112 (iX L (i+3)) (.d (aI (eA L ((i:Int)+2) 5)))) ?_;simp;refine⟨⟨by simpa using o,aE⟩,?_⟩;refine iC (cA 5 [] (fz:=false) (cs:=[.d (aI k),.d (.str (ownM L (i+1))),.d (aI (2+eA L ((i:Int)+2) 5)),.nl]) (ds:=[aI k,.str (ownM L (i+1)),aI (2+eA L ((i:Int)+2) 5),.sl []]) bB bB bB (by simp[bI.mut])) ?_;simp;refine XV.mk ⟨.mk k (ownM L (i+1)) (2+eA L ((i:Int)+2) 5) [],i+3⟩ (aA h [0,1,4,5] [(0,0),(4,4),(5,5)]) ?_;rw[gM f];unfold wK;repeat(first|rw[if_pos aE]|rw[if_neg aE])
              simp
             .apply bE;simp;refine⟨λa0=>?_,λa0=>?_⟩
              .have l:=Bg L (i+1) n aE;refine bG (oh 118 (iX L (i+2)) (.d (.str (ownM L (i+1))))) ?_;simp;refine⟨by simpa using l,?_⟩;refine iC (cA 5 [] (fz:=false) (cs:=[.d (aI k),.d (.str (ownM L (i+1))),.d (aI (0)),.nl]) (ds:=[aI k,.str (ownM L (i+1)),aI (0),.sl []]) bB bB bB (by simp[bI.mut])) ?_;simp;refine XV.mk ⟨.mk k (ownM L (i+1)) (0) [],i+2⟩ (aA h [0,1,4,5] [(0,0),(4,4),(5,5)]) ?_;rw[gM f];unfold wK;repeat(first|rw[if_pos aE]|rw[if_neg aE])
              .apply bE;simp;refine⟨λa1=>?_,λa1=>?_⟩
               .have o:=fM L (i+1) 9 n aE bK;have U:=cC L ((i:Int)+1) 9 bK;refine bG (oh 123 (iX L (i+2)) (.d (aI (eA L ((i:Int)+1) 9)))) ?_;simp;refine⟨⟨by simpa using o,aE⟩,?_⟩;refine iC (cA 5 [] (fz:=false) (cs:=[.d (aI k),.d (.str ([])),.d (aI (1+eA L ((i:Int)+1) 9)),.nl]) (ds:=[aI k,.str ([]),aI (1+eA L ((i:Int)+1) 9),.sl []]) bB bB bB (by simp[bI.mut])) ?_;simp;refine XV.mk ⟨.mk k ([]) (1+eA L ((i:Int)+1) 9) [],i+2⟩ (aA h [0,1,4,5] [(0,0),(4,4),(5,5)]) ?_;rw[gM f];unfold wK;repeat(first|rw[if_pos aE]|rw[if_neg aE])
                simp
               .apply bE;simp;refine⟨λa2=>?_,λa2=>?_⟩
                .have o:=fM L (i+1) 99 n aE bK;have U:=cC L ((i:Int)+1) 99 bK;refine bG (oh 129 (iX L (i+2)) (.d (aI (eA L ((i:Int)+1) 99)))) ?_;simp;refine⟨⟨by simpa using o,aE⟩,?_⟩;refine iC (cA 5 [] (fz:=false) (cs:=[.d (aI k),.d (.str ([])),.d (aI (1+eA L ((i:Int)+1) 99)),.nl]) (ds:=[aI k,.str ([]),aI (1+eA L ((i:Int)+1) 99),.sl []]) bB bB bB (by simp[bI.mut])) ?_;simp;refine XV.mk ⟨.mk k ([]) (1+eA L ((i:Int)+1) 99) [],i+2⟩ (aA h [0,1,4,5] [(0,0),(4,4),(5,5)]) ?_;rw[gM f];unfold wK;repeat(first|rw[if_pos aE]|rw[if_neg aE])
                 simp
                .apply aF;have S:k=24:=by have:=uF f;omega
                 subst S;apply aJ;simp;apply aM;simp;have r:=tD L n p 2 (i+1) aE;refine bG (oh 135 (iX L (valueM L 2 (i+1)).2) (.d (valueM L 2 (i+1)).1.d)) ?_;simp;refine⟨by simpa using r,?_⟩;refine iC (cA 5 [136] (fz:=false) (cs:=[.d (aI 24),.d (.str ([])),.d (aI (0)),.ow 136 0 1]) (ds:=[aI 24,.str ([]),aI (0),.sl [((valueM L 2 (i+1)).1).d]]) bB bB bB (by simp[bI.mut])) ?_;simp;refine XV.mk ⟨.mk 24 ([]) (0) [(valueM L 2 (i+1)).1],(valueM L 2 (i+1)).2⟩ (aA h [0,1,4,5] [(0,0),(4,4),(5,5)]) ?_;rw[gM f];unfold wK;repeat(first|rw[if_pos aE]|rw[if_neg aE])
  .apply aD;simp;apply aH;simp;refine cO (x:=(oneB L d s i).1.d) (by simp[y]) ?_;simp;exact aA h [0] [(0,0)] (hH:=by simp[y])
theorem Ku{L:List Int}{d:Nat->Nd×Nat}{C:Nat}(h:∀j,(d j).2<=j+C):∀(m:Nat) (c:List Nd) (j:Nat),(somesM L d m c j).2<=j+m*C
 |0,c,j=>by simp[somesM]
 |m+1,c,j=>by
  unfold somesM;split
  .simp
  .have a:=Ku (L:=L) h m (c++[(d j).1]) (d j).2;have b:=h j;rw[F3];omega
theorem PZ{L:List Int}{c:Nat->Nd×Nat}{C:Nat}(h:∀j,(c j).2<=j+C)(i:Nat):(someM L c i).2<=i+1+3*C:=by
 have d:=cC L i 4 bK;have a:=Ku (L:=L) h (eA L i 4).toNat [] (i+1);have b:(eA L i 4).toNat*C<=3*C:=D2 C aE;show(somesM L c (eA L i 4).toNat [] (i+1)).2<=_;omega
def EP:Nat->Nat
 |0=>40
 |d+1=>40+2*(1+3*EP d)
theorem Im(L:List Int):∀d i,(oneM L d i).2<=i+EP d
 |0,i=>by
  have h:∀j:Nat,((λ_=>default:Nat->Nd×Nat) j).2<=j+0:=λj=>B8 _;have:=PY (L:=L) (d:=0) (i:=i) h;rw[oneM];simp only[EP];omega
 |d+1,i=>by
  have h:=λj=>PZ (L:=L) (Im L d) j;have:=PY (L:=L) (d:=d+1) (i:=i) (bl:=someM L (oneM L d)) (C:=1+3*EP d) λj=>by have:=h j;omega
  rw[oneM];simp only[EP];omega
theorem Kv{d:Nat}(h:d<=2):EP d<=2000:=by
 have:∀d:Nat,d<3->EP d<=2000:=bK;exact this d aE
theorem Qa(L:List Int)(f:Kt L)(a:L.length<=1000000):∀(d:Nat),d<=2->∀b,b+70000*d<=1800000->PX L 223 d b (oneM L d)
 |0,_,b,hb=>λj g=>GT L 0 j (λ_=>default) f a b g aE aE (λe n=>aE) λj=>by show 0<=j+20000;omega
 |d+1,hd,b,hb=>λj g=>by
  have p:=Kv (d:=d) aE;have h:=λj=>PZ (L:=L) (Im L d) j;obtain⟨c,m⟩:∃c,c=b+30000:=⟨_,rfl⟩;have k:=Qa L f a d aE (c+40000) aE;have l:PX L 278 d c (someM L (oneM L d)):=λi o=>Nk L d i (oneM L d) f a c o aE k λj=>by have:=Im L d j;omega
  refine GT L (d+1) j (someM L (oneM L d)) f a b g aE aE (λe n=>?_) λj=>?_
  .have:e=d:=aE;rw[this,<-m];exact l
  .have:=h j;omega
theorem VK(l:List Int):G8 (if(48:Int)<(l.length:Int)then 48 else(l.length:Int)).toNat (l.map aI)=(l.take 48).map aI:=by
 rw[<-List.map_take];congr 1;split
 .rfl
 .rw[show((l.length:Int)).toNat=l.length from rfl,F6,A3 aE]
theorem YC{L:List Int}:(treeKinds.map aI)[(eA L 0 10).toNat]?.getD default=aI (treeKinds.getD (eA L 0 10).toNat 0):=by
 have h:=cC L 0 10 bK;have a:(eA L 0 10).toNat<treeKinds.length:=by show _<10;omega
 rw[List.getElem?_map,B0 a];simp[C5,a]
theorem VL{L:List Int}:0<=treeKinds.getD (eA L 0 10).toNat 0/\treeKinds.getD (eA L 0 10).toNat 0<=6:=by
 have h:=cC L 0 10 bK;have a:∀n:Nat,n<10->0<=treeKinds.getD n 0/\treeKinds.getD n 0<=6:=bK;exact a _ aE
theorem EQ(L:List Int)(i:Nat):i+2<=(placeM L i).2:=by unfold placeM;split<;>simp
theorem wM(L:List Int):∀(d i:Nat),i+1<=(valueM L d i).2:=λd=>by
 induction d with
 |zero=>
  intro i;obtain⟨l,_,g⟩:=gJ L 0 i;have g:=g rfl;by_cases c:dG L 0 i=0\/dG L 0 i=1
  .rw[jX c];simp
  .by_cases f:dG L 0 i=2
   .rw[jY f];simp
   .by_cases h:dG L 0 i=3\/dG L 0 i=4
    .rw[gE h];have:=EQ L (i+1);omega
    .rw[iE aE];simp
 |succ e ih=>
  intro i;obtain⟨l,_,_⟩:=gJ L (e+1) i;by_cases c:dG L (e+1) i=0\/dG L (e+1) i=1
  .rw[jX c];simp
  .by_cases f:dG L (e+1) i=2
   .rw[jY f];simp
   .by_cases j:dG L (e+1) i=3\/dG L (e+1) i=4
    .rw[gE j];have:=EQ L (i+1);omega
    .by_cases k:dG L (e+1) i=5
     .rw[iE k];simp
     .rw[tC aE];have a:=ih (i+1);have b:=ih (valueM L e (i+1)).2;simp only;omega
theorem Qb{L:List Int}{d i:Nat}{b:Nat->Nd×Nat}(a:0<d->∀j,j<=(b j).2):i+1<=(oneB L d b i).2:=by
 rw[gM rfl];have c:=uF (L:=L) (d:=d) (i:=i) rfl;have o:=EQ L (i+1);have e:=wM L 1 (i+1);have f:=wM L 1 (i+2);have g:=wM L 2 (i+1);have k:=wM L 2 (i+2);have l:=wM L 2 (placeM L (i+1)).2;unfold wK;simp only[D8,G4]at*;split
 .simp only;omega
 .split
  .simp only;omega
  .split
   .rename_i h;have a:=a (c.2.2 h);have m:=a (valueM L 1 (i+1)).2;have n:=a ((b (valueM L 1 (i+1)).2).2+1);split
    .split<;>simp only<;>omega
    .simp only;omega
   .repeat(first|(simp only;omega)|split)
theorem Kw{L:List Int}{st:Nat->Nd×Nat}(h:∀j,j<=(st j).2):∀(m:Nat) (c:List Nd) (j:Nat),j<=(somesM L st m c j).2
 |0,c,j=>A8 _
 |m+1,c,j=>by
  unfold somesM;split
  .exact A8 _
  .have a:=Kw (L:=L) h m (c++[(st j).1]) (st j).2;have b:=h j;omega
theorem VM(L:List Int):∀d i,i+1<=(oneM L d i).2
 |0,i=>by rw[oneM];exact Qb λh=>absurd h (Nat.lt_irrefl _)
 |d+1,i=>by
  rw[oneM];refine Qb λ_ j=>?_;have:=Kw (L:=L) (st:=oneM L d) (λj=>by have:=VM L d j;omega) (eA L j 4).toNat [] (j+1);show j<=(somesM L (oneM L d) (eA L j 4).toNat [] (j+1)).2;omega
theorem VN{L:List Int}{m:Nat}{a:List Nd}{j:Nat}(h:L.length<=j):bodyM L m a j=a:=by
 cases m with
 |zero=>rfl
 |succ m=>unfold bodyM;rw[if_pos h]
theorem YD{L:List Int}{m:Nat}{a:List Nd}{j:Nat}(b:0<m)(h:j<L.length):bodyM L m a j=bodyM L (m-1) (a++[(oneM L 2 j).1]) (oneM L 2 j).2:=by
 obtain⟨k,rfl⟩:∃k,m=k+1:=⟨m-1,aE⟩;rw[bodyM,if_neg aE];rfl
theorem rP(L:List Int):∀c,(itemsM L c).length=c
 |0=>rfl
 |c+1=>by rw[itemsM,A0,rP L c];rfl
structure NdC where
 x:Nd
structure CtC where
 c:Nat
section
variable{L:List Int} {k:Int} {t:bC} (hk:treeKinds.getD (eA L 0 10).toNat 0=k) (ht:callM L 1=t)
include hk ht
theorem VO(h:k=0):treeB L=.mk k t (eA L 2 1999-999) []:=by subst hk ht;unfold treeB;simp only[];rw[if_pos h]
theorem Sf(h:k=2):treeB L=.mk k t (eA L 2 4) []:=by subst hk ht;unfold treeB;simp only[];rw[if_neg aE,if_pos h]
theorem VP(h:k=1):treeB L=.mk k t 0 (itemsM L (eA L 2 4).toNat):=by subst hk ht;unfold treeB;simp only[];rw[if_neg aE,if_neg aE,if_pos h]
theorem Sg(h:k=5\/k=6):treeB L=.mk k t 0 [.mk 8 [] 0 (bodyM L L.length [] 2)]:=by subst hk ht;unfold treeB;simp only[];rw[if_neg aE,if_neg aE,if_neg aE,if_pos h]
theorem Sh(a:¬k=0)(b:¬k=2)(c:¬k=1)(d:¬(k=5\/k=6)):treeB L=.mk k t 0 []:=by subst hk ht;unfold treeB;simp only[];rw[if_neg a,if_neg b,if_neg c,if_neg d]
end
theorem VQ(l:List Int)(hl:Kt l):Ok prog 150 [.sl (l.map aI)] ⟨.d (treeS l).d,false⟩:=by
 refine Cx func150 rfl ntmps150 results150 λw0 X i=>?_;obtain⟨L,o⟩:∃L,L=l.take 48:=⟨_,rfl⟩;have p:Kt L:=λn Z=>hl n (by rw[o]at Z;exact List.mem_of_mem_take Z);have a4:L.length<=48:=by rw[o,A7];omega
 have U:treeS l=treeB L:=by rw[o];rfl
 apply aD;simp;apply aD;simp[VK,<-o];refine⟨by split<;>omega,?_⟩;apply aF;have ha:=fM L 0 10 p aE bK;have hr:=cC L 0 10 bK;have W:=jL L 1 p aE;have C:=YC (L:=L);have Q:=VL (L:=L);simp[treeKinds]at C;obtain⟨k,u⟩:∃k,treeKinds.getD (eA L 0 10).toNat 0=k:=⟨_,rfl⟩;obtain⟨t,w⟩:∃t,callM L 1=t:=⟨_,rfl⟩;refine fF.rd [[4,15],[4,16],[4,16],[4,15],[4,15],[4,15,16],[4,16],[4],[15,16]] [[16],[],[15],[],[],[],[15],[],[4],[4]] (λ|18=>some (.gen ⟨[(15,0)],[],[],iX L 1,.d (aI (eA L 0 10))⟩)|22=>some (.gen ⟨[(15,0)],[],[],iX L 2,.d (.str t)⟩)|_=>none) ?_;simp[C];rw[u]at Q;rw[w]at W;refine⟨⟨⟨⟨⟨bK,by simpa using ha⟩,aE⟩,aE⟩,by simpa using W⟩,?_⟩;have P:[5,6,5,6,5,0,1,2,3,4][(eA L 0 10).toNat]?.getD 0=k:=by rw[<-u];simp[treeKinds]
 simp only[P];refine bH (ι:=NdC) (λ⟨x⟩=>bA [(2,.bx 2 0),(4,.bx 4 0)]) (λ⟨x⟩=>aK [(2,.box false [.d (aI 0),.d (.str []),.d (aI 0),.nl]),(4,.box false [.d (aI x.kind),.d (.str x.text),.d (aI x.n),.d (ndsD x.kids)])]) (λ⟨x⟩=>treeB L=x) ?_ λ⟨x⟩ B=>?_
 .apply aD;simp;apply aW;apply bE;simp;refine⟨λK=>?_,λK=>?_⟩
  .have f:=fM L 2 1999 p aE bK;have M:=cC L 2 1999 bK;refine bG (og 29 (.gen ⟨[(15,0)],[],[],iX L 3,.d (aI (eA L 2 1999))⟩)) ?_;simp;refine⟨⟨by simpa using f,aE⟩,?_⟩;refine iC (cA 4 [] (fz:=false) (cs:=[.d (aI k),.d (.str t),.d (aI (eA L 2 1999-999)),.nl]) (ds:=[aI k,.str t,aI (eA L 2 1999-999),.sl []]) bB bB bB (by simp[bI.mut])) ?_;simp;refine XV.mk ⟨.mk k t (eA L 2 1999-999) []⟩ (aA i [2,4] [(2,2),(4,4)]) ?_;exact VO u w K
  .apply bE;simp;refine⟨λN=>?_,λN=>?_⟩
   .have f:=fM L 2 4 p aE bK;refine bG (og 35 (.gen ⟨[(15,0)],[],[],iX L 3,.d (aI (eA L 2 4))⟩)) ?_;simp;refine⟨by simpa using f,?_⟩;refine iC (cA 4 [] (fz:=false) (cs:=[.d (aI k),.d (.str t),.d (aI (eA L 2 4)),.nl]) (ds:=[aI k,.str t,aI (eA L 2 4),.sl []]) bB bB bB (by simp[bI.mut])) ?_;simp;refine XV.mk ⟨.mk k t (eA L 2 4) []⟩ (aA i [2,4] [(2,2),(4,4)]) ?_;exact Sf u w N
   .apply bE;simp;refine⟨λO=>?_,λO=>?_⟩
    .apply aF;have f:=fM L 2 4 p aE bK;have M:=cC L 2 4 bK;obtain⟨m,S⟩:∃m:Nat,(eA L 2 4).toNat=m:=⟨_,rfl⟩;have D:eA L 2 4=(m:Int):=aE;refine bG (og 40 (.gen ⟨[(15,0)],[],[],iX L 3,.d (aI (m:Nat))⟩)) ?_;simp;refine⟨by simpa [D]using f,?_⟩;refine kY (fz:=false) (cs:=[.d (aI k),.d (.str t),.d (aI 0),.nl]) 4 3 1056 4 bK ⟨bB,bB,bB,?_⟩;simp;apply aD;simp;apply aW;refine aZ (ι:=CtC) (λ⟨c⟩=>bA [(2,.bx 2 0),(3,.bx 15 0),(4,.bx 4 0),(5,.d (aI (m:Nat))),(6,.d (aI (c:Nat)))]) (λ⟨c⟩=>aK [(2,.box false [.d (aI 0),.d (.str []),.d (aI 0),.nl]),(4,.box false [.d (aI k),.d (.str t),.d (aI 0),.ow 1056 0 c]),(15,.box false [.d (.sl (L.map aI)),.d (aI ((3+2*c:Nat):Int))]),(1056,.row false 4 ((itemsM L c).map Nd.d))]) (λ⟨c⟩=>c<=m) (λ⟨c⟩=>m-c) ⟨0⟩ (aA i [2,3,4,5,6] [(2,2),(4,4),(15,15),(1056,1056)] (hH:=by simp[itemsM])) (B8 _) λ⟨c⟩ g=>?_;apply aF;apply bE;simp;refine⟨λH=>?_,λH=>?_⟩
     .apply aG;simp;apply eG;apply aF;have y:=jL L (3+2*c) p aE;refine bG (og 47 (.gen ⟨[(15,0)],[],[],iX L (3+2*c+1),.d (.str (callM L (3+2*c)))⟩)) ?_;simp;refine⟨by simpa using y,?_⟩;have z:=fM L (4+2*c) 1999 p aE bK;have V:=cC L (4+2*(c:Int)) 1999 bK;have a1:c<=m:=g;have F:(3:Int)+(2*(c:Int)+1)=4+2*c:=aE;have G:(4:Int)+(2*(c:Int)+1)=3+(2*c+2):=aE;have a2:=rP L c;refine fF.rd [[15,55],[15,55],[15]] [[],[],[],[],[15],[],[],[55],[56,1056],[],[4]] (og 52 (.gen ⟨[(15,0)],[],[],iX L (4+2*c+1),.d (aI (eA L ((4+2*c:Nat):Int) 1999))⟩)) ?_;simp[F];refine⟨⟨⟨by simpa using z,aE,aE⟩,aE,aE⟩,?_⟩;have Y:c<=m:=g;apply aJ;simp;refine⟨aE,?_⟩;refine On.mk ⟨c+1⟩ (aA i [2,3,4,5,6] [(2,2),(4,4),(15,15),(56,1056)] (hH:=by simp[itemsM,Int.mul_add,rP,A3,G])) ?_ ?_
      .show c+1<=m;omega
      .show m-(c+1)<m-c;omega
     .apply bP;simp;refine iC (cA 4 [1056] (fz:=false) (cs:=[.d (aI k),.d (.str t),.d (aI 0),.ow 1056 0 c]) (ds:=[aI k,.str t,aI 0,.sl ((itemsM L c).map Nd.d)]) bB bB (by simp[rP,A3]) (by simp[bI.mut])) ?_;simp;refine XV.mk ⟨.mk k t 0 (itemsM L c)⟩ (aA i [2,4] [(2,2),(4,4)]) ?_;rw[VP u w O,S];have E:c=m:=by have:=(show c<=m from g);omega
      rw[E]
    .refine bH (ι:=BC) (λ⟨b⟩=>bA [(2,.bx 2 0),(3,.bx 15 0),(4,.bx 4 0),(25,.d (aI (k))),(58,.d (.bool b))]) (λ⟨b⟩=>aK [(2,.box false [.d (aI 0),.d (.str []),.d (aI 0),.nl]),(4,.box false [.d (aI k),.d (.str t),.d (aI 0),.nl]),(15,.box false [.d (.sl (L.map aI)),.d (aI 2)])]) (λ⟨b⟩=>b=true↔(k=5\/k=6)) ?_ λ⟨b⟩ r=>?_
     .apply bE;simp;refine⟨λA=>?_,λA=>?_⟩
      .apply aG;simp;refine XV.mk ⟨decide (k=5)⟩ (aA i [2,3,4,25,58] [(2,2),(4,4),(15,15)]) ?_;simp[A]
      .apply aJ;simp;refine XV.mk ⟨decide (k=6)⟩ (aA i [2,3,4,25,58] [(2,2),(4,4),(15,15)]) ?_;simp only[decide_eq_true_eq];omega
     .apply aM;simp;refine⟨λs=>?_,λs=>?_⟩
      .have v:=r.1 s;apply aD;simp;refine kY (fz:=false) (cs:=[.d (aI 8),.d (.str []),.d (aI 0),.nl]) 8 3 1077 4 bK ⟨bB,bB,bB,?_⟩;simp;apply eG;refine aZ (ι:=SmS) (λ⟨m,a,j⟩=>bA [(2,.bx 2 0),(3,.bx 15 0),(4,.bx 4 0),(8,.bx 8 0)]) (λ⟨m,a,j⟩=>aK [(2,.box false [.d (aI 0),.d (.str []),.d (aI 0),.nl]),(4,.box false [.d (aI k),.d (.str t),.d (aI 0),.nl]),(8,.box false [.d (aI 8),.d (.str []),.d (aI 0),.ow 1077 0 a.length]),(15,.box false [.d (.sl (L.map aI)),.d (aI (j:Nat))]),(1077,.row false 4 (a.map Nd.d))]) (λ⟨m,a,j⟩=>j<=3000/\L.length<=m+j/\a.length<=j/\bodyM L L.length [] 2=bodyM L m a j) (λ⟨m,a,j⟩=>L.length-j) ⟨L.length,[],2⟩ (aA i [2,3,4,8] [(2,2),(4,4),(8,8),(15,15),(1077,1077)]) (⟨aE,aE,bB,rfl⟩) λ⟨m,a,j⟩ h=>?_;apply fE;refine fF.rd [] [] (λ_=>none) ?_;simp;apply aM;simp;refine⟨λI=>?_,λI=>?_⟩
       .apply aG;simp;apply aW;have J:=Qa L p aE 2 aE 5000 aE j aE;have a6:=VM L 2 j;have a5:=Im L 2 j;have a0:=Kv (d:=2) aE;have a3:=h.2.2.1;refine fF.rd [[15,76],[15,76]] [[],[],[],[15],[76],[77,1077],[],[8]] (og 75 (.gen ⟨[(15,0)],[],[],iX L (oneM L 2 j).2,.d (oneM L 2 j).1.d⟩)) ?_;simp;refine⟨by(repeat' with_reducible apply And.intro)<;>first|omega|(simpa using J),?_⟩;refine On.mk ⟨m-1,a++[(oneM L 2 j).1],(oneM L 2 j).2⟩ (aA i [2,3,4,8] [(2,2),(4,4),(8,8),(15,15),(77,1077)]) ?_ ?_
        .refine⟨(show(oneM L 2 j).2<=3000 by omega),(show L.length<=m-1+(oneM L 2 j).2 by omega),(by rw[A0,E5];show a.length+1<=(oneM L 2 j).2;omega),?_⟩;rw[h.2.2.2,YD aE aE]
        .show L.length-(oneM L 2 j).2<L.length-j;omega
       .apply bP;simp;apply aJ;simp;refine iC (cA 4 [80] (fz:=false) (cs:=[.d (aI k),.d (.str t),.d (aI 0),.ow 80 0 1]) (ds:=[aI k,.str t,aI 0,.sl [(Nd.mk 8 [] 0 a).d]]) bB bB bB (by simp[bI.mut])) ?_;simp;refine XV.mk ⟨.mk k t 0 [.mk 8 [] 0 a]⟩ (aA i [2,4] [(2,2),(4,4)]) ?_;rw[Sg u w v,h.2.2.2,VN aE]
      .have v:¬(k=5\/k=6):=λq=>by simp[r.2 q]at s
       apply aG;simp;refine iC (cA 4 [] (fz:=false) (cs:=[.d (aI k),.d (.str t),.d (aI 0),.nl]) (ds:=[aI k,.str t,aI 0,.sl []]) bB bB bB (by simp[bI.mut])) ?_;simp;refine XV.mk ⟨.mk k t 0 []⟩ (aA i [2,4] [(2,2),(4,4)]) ?_;exact Sh u w K N O v
 .apply aD;simp;apply aH;have e:treeS l=x:=U.trans B;simp[e]
end
section
attribute[local simp] aR bJ bF aO aL aX aP
attribute[local simp] kH.cond Nd.d_eq nd_t nd_dr nd_td ndsD aQ mF dK CE CF CG Km
def zC(n:Int):Prop:= -9223372036854775808<=n/\n<=9223372036854775807
theorem In{a:Int}{m:Nat}(h:zC a):zC (a.tdiv ((m:Int)+1)):=by
 unfold zC at*;have d:(a.tdiv ((m:Int)+1)).natAbs<=a.natAbs:=by rw[Int.natAbs_tdiv];exact Nat.div_le_self _ _
 by_cases c:0<=a
 .have:=F7 c (show(0:Int)<=(m:Int)+1 by omega);omega
 .have e:a.tdiv ((m:Int)+1)<=0:=by
   obtain⟨b,rfl⟩:∃b,a= -b:=⟨-a,aE⟩;rw[Int.neg_tdiv];have:=F7 (show(0:Int)<=b by omega) (show(0:Int)<=(m:Int)+1 by omega);omega
  omega
end
theorem Dm(L:List Int)(i:Nat):(ownM L i).length<=16:=by
 unfold ownM;have:∀k:Nat,(ownL.getD k []).length<=16:=λk=>by
  rw[C5];cases e:ownL[k]? with
  |none=>simp
  |some w=>
   have:=List.mem_of_getElem? e;exact(by decide:∀w∈ownL,w.length<=16) w this
 exact this _
theorem jM(k:Int)(t:bC)(n:Int):weighN (.mk k t n [])=t.length+1:=by simp[weighN,weighL]
theorem wN(L:List Int)(i:Nat):weighN (placeM L i).1<=34:=by
 have a:=nS L (i+1);have b:=nS L (i+2);unfold placeM;split<;>simp only[jM,A0,D0]<;>omega
theorem CJ(L:List Int):∀(d i:Nat),weighN (valueM L d i).1+1<=35*2^d:=λd=>by
 induction d with
 |zero=>
  intro i;obtain⟨o,_,h⟩:=gJ L 0 i;have h:=h rfl;have l:=Dm L (i+1);have m:=wN L (i+1);by_cases c:dG L 0 i=0\/dG L 0 i=1
  .rw[jX c];simp[jM]
  .by_cases f:dG L 0 i=2
   .rw[jY f];simp only[jM];omega
   .by_cases g:dG L 0 i=3\/dG L 0 i=4
    .rw[gE g];omega
    .rw[iE aE];simp[jM]
 |succ e ih=>
  intro i;have n:1<=2^e:=C7;have g:2^(e+1)=2*2^e:=by rw[F1,F2]
  have l:=Dm L (i+1);have m:=wN L (i+1);obtain⟨o,_,_⟩:=gJ L (e+1) i;by_cases c:dG L (e+1) i=0\/dG L (e+1) i=1
  .rw[jX c];simp only[jM,B6];omega
  .by_cases f:dG L (e+1) i=2
   .rw[jY f];simp only[jM];omega
   .by_cases j:dG L (e+1) i=3\/dG L (e+1) i=4
    .rw[gE j];omega
    .by_cases k:dG L (e+1) i=5
     .rw[iE k];simp only[jM,B6];omega
     .rw[tC aE];have a:=ih (i+1);have b:=ih (valueM L e (i+1)).2;simp only[weighN,weighL,B6];omega
theorem ER{L:List Int}{d i C:Nat}{a:Nat->Nd×Nat}(c:∀j,weighN (a j).1<=C):weighN (oneB L d a i).1<=200+2*C:=by
 rw[gM rfl];have e:=λj=>CJ L 1 j;have b:=λj=>CJ L 2 j;have r:=wN L (i+1);have p:=nS L (i+1);have q:=Dm L (i+1);have f:=Dm L (i+1+1);unfold wK;have g:=e (i+1);have h:=e (i+1+1);have k:=b (i+1);have l:=b (i+1+1);have m:=b (placeM L (i+1)).2;have n:=c (valueM L 1 (i+1)).2;have o:=c ((a (valueM L 1 (i+1)).2).2+1);simp only[G5,G6]at*;repeat(first|(simp only[weighN,weighL,B6];omega)|split)
theorem CK{L:List Int}{d:Nat->Nd×Nat}{C:Nat}(h:∀j,weighN (d j).1<=C):∀(m:Nat) (c:List Nd) (j:Nat),weighL (somesM L d m c j).1<=weighL c+m*C
 |0,c,j=>by simp[somesM]
 |m+1,c,j=>by
  unfold somesM;split
  .simp
  .have a:=CK (L:=L) h m (c++[(d j).1]) (d j).2;have b:=h j;rw[weighL_append]at a;simp only[weighL]at a;rw[F3];omega
theorem Nn{L:List Int}{c:Nat->Nd×Nat}{C:Nat}(h:∀j,weighN (c j).1<=C)(i:Nat):weighN (someM L c i).1<=1+3*C:=by
 have d:=cC L i 4 bK;have a:=CK (L:=L) h (eA L i 4).toNat [] (i+1);have b:(eA L i 4).toNat*C<=3*C:=D2 C aE;show weighN (.mk 8 [] 0 (somesM L c (eA L i 4).toNat [] (i+1)).1)<=_;simp only[weighN,weighL,B6]at*;omega
def ES:Nat->Nat
 |0=>204
 |d+1=>200+2*(1+3*ES d)
theorem GU(L:List Int):∀d i,weighN (oneM L d i).1<=ES d
 |0,i=>by
  rw[oneM];exact ER (C:=2) λj=>by show weighN default<=2;decide
 |d+1,i=>by
  rw[oneM];exact ER (C:=1+3*ES d) λj=>Nn (GU L d) j
theorem ET(L:List Int):∀(m:Nat) (c:List Nd) (j:Nat),weighL (bodyM L m c j)<=weighL c+m*ES 2
 |0,c,j=>by simp[bodyM]
 |m+1,c,j=>by
  unfold bodyM;split
  .simp
  .have a:=ET L m (c++[(oneM L 2 j).1]) (oneM L 2 j).2;have b:=GU L 2 j;rw[weighL_append]at a;simp only[weighL]at a;rw[F3];omega
theorem CL(L:List Int):∀c,weighL (itemsM L c)<=17*c
 |0=>A8 _
 |c+1=>by
  have a:=CL L c;have b:=nS L (3+2*c);rw[itemsM,weighL_append];simp only[weighL,jM];omega
theorem EU(l:List Int):weighN (treeS l)<=1000000:=by
 have b:(l.take 48).length<=48:=by rw[A7];omega
 have e:=nS (l.take 48) 1;have g:=cC (l.take 48) 2 4 bK;have a:=ET (l.take 48) (l.take 48).length [] 2;have c:(l.take 48).length*ES 2<=48*ES 2:=D2 _ b;have d:ES 2=8758:=rfl;have f:=CL (l.take 48) (eA (l.take 48) 2 4).toNat;unfold treeS treeB;simp only[];simp only[weighL]at a;repeat(first|(simp only[weighN,weighL,B6];omega)|split)
set_option maxRecDepth 10000
section
attribute[local simp] aR bJ bF aO aL aX aP
attribute[local simp] kH.cond Nd.d_eq nd_t nd_dr nd_td ndsD aQ bN mS dW dK
theorem EV{s:bC}{R:Nd×PS}(a:defP false ⟨(scanS s).1,0⟩=R)(b:s.length<=1024){x:Tk}{r:List Tk}(h:R.2.l=x::r):parseS s=(zeroNd,x.at_,if R.2.e≠0 then R.2.e else 2):=by
 unfold parseS;rw[if_neg aE];simp only[];rw[a,h]
theorem Kx{s:bC}{R:Nd×PS}(b:defP false ⟨(scanS s).1,0⟩=R)(c:s.length<=1024)(h:R.2.l=[])(a:¬R.2.e=0\/(scanS s).2<s.length):parseS s=(zeroNd,(scanS s).2,2):=by
 unfold parseS;rw[if_neg aE];simp only[];rw[b,h];simp only[];rw[if_pos a]
theorem GV{s:bC}{R:Nd×PS}(b:defP false ⟨(scanS s).1,0⟩=R)(c:s.length<=1024)(h:R.2.l=[])(a:¬(¬R.2.e=0\/(scanS s).2<s.length)):parseS s=if validB R.1 then(R.1,0,0)else(zeroNd,0,4):=by
 unfold parseS;rw[if_neg aE];simp only[];rw[b,h];simp only[];rw[if_neg a]
theorem Np(s:bC)(R:Nd×PS)(h:defP false ⟨(scanS s).1,0⟩=R)(n:s.length<=1024->mE prog 86 [.bx 0 0] (dW ⟨(scanS s).1,0⟩) (dW R.2) (.d R.1.d))(u:s.length<=1024->weighN R.1<=1000000000):Ok prog 25 [.str s] ⟨.tup [.d (parseS s).1.d,.d (aI (parseS s).2.1),.d (aI (parseS s).2.2)],false⟩:=by
 refine AH hT func25 iY (c:=_) rfl ntmps25 bB results25 bB (by rfl) λy X w=>?_;apply aD;simp;apply aF;apply bE;simp;refine⟨λl=>?_,λl=>?_⟩
 .apply aD;simp;apply aH;have e:parseS s=(zeroNd,1024,4):=by unfold parseS;rw[if_pos aE]
  simp[e,zeroNd]
 .apply aG;simp;apply aF;have p:=Ym s aE;refine bG (og 15 (.plain ⟨.tup [.d (.sl ((scanS s).1.map Tk.d)),.d (aI (scanS s).2)],true⟩)) ?_;simp[bM];refine⟨p,?_⟩;apply aD;simp;apply aF;have o:=n aE;refine bG (og 22 (.gen ⟨[(20,0)],[],[],dW R.2,.d R.1.d⟩)) ?_;simp;refine⟨by simpa using o,?_⟩;apply eG;apply bE;simp;refine⟨λi j=>?_,λg=>?_⟩
  .apply aF;obtain⟨x,r,a⟩:=D1 j;have v:(aU x.d).length=2:=rfl;refine fF.rd [[],[2],[2],[2],[2],[2],[2],[2],[2],[2],[2],[2]] [[],[],[],[],[],[],[],[],[],[],[],[],[2]] (λ_=>none) ?_;simp[a,Tk.d];apply aH;have e:=EV h aE a;simp[e,zeroNd,i]
  .apply bE;simp;refine⟨λf=>?_,λf=>?_⟩
   .apply aF;obtain⟨x,r,a⟩:=D1 f;refine fF.rd [[],[2],[2],[2],[2],[2],[2],[2]] [[],[],[],[],[],[],[],[],[2]] (λ_=>none) ?_;simp[a,Tk.d];apply aH;have e:=EV h aE a;have k:R.2.e=0:=D4 λq=>by have:=g q;rw[this]at a;cases a
    simp[e,zeroNd,k]
   .apply bE;simp;refine⟨λd=>?_,λd m=>?_⟩
    .apply aD;simp;apply aH;have e:=Kx h aE f d;simp[e,zeroNd]
    .apply aF;have t:=Valid_ok R.1 (u aE);refine bG (og 80 (.plain ⟨.d (.bool (validB R.1)),true⟩)) ?_;simp;refine⟨by simpa using t,?_⟩;apply aM;simp;refine⟨λb=>?_,λb=>?_⟩
     .apply aD;simp;apply aH;have e:=GV h aE f aE;simp[e,b,zeroNd]
     .apply aG;simp;apply aD;simp;apply aH;have e:=GV h aE f aE;simp[e,b]
end
theorem EW(s:bC):Ok prog 25 [.str s] ⟨.tup [.d (parseS s).1.d,.d (aI (parseS s).2.1),.d (aI (parseS s).2.2)],false⟩:=
 Np s _ rfl (λa=>aAe ⟨(scanS s).1,0⟩ (nK _ _ _) (by have:=nR s.length s 0;show(scanF s.length s 0).1.length<=1000000;omega)) λa=>CH a
section
attribute[local simp] aR bJ bF aO aL aX aP
set_option maxRecDepth 10000
set_option maxHeartbeats 4000000
attribute[local simp] kH.cond Nd.d_eq nd_t nd_dr nd_td ndsD aQ mF dK CE CF CG Km
end
section
attribute[local simp] aR bJ bF aO aL aX aP
attribute[local simp] kH.cond Nd.d_eq nd_t nd_dr nd_td ndsD aQ
def aA7(w:bC):Nat->bC
 |0=>[]
 |n+1=>aA7 w n++w
theorem rA(s:bC):weighN (parseS s).1<=1000000000:=by
 by_cases h:1024<s.length
 .unfold parseS;rw[if_pos h];decide
 .obtain⟨R,a⟩:∃R,defP false ⟨(scanS s).1,0⟩=R:=⟨_,rfl⟩;have b:=CH (s:=s) aE;rw[a]at b;unfold parseS;rw[if_neg h];simp only[];rw[a];have z:weighN zeroNd<=1000000000:=bK;split
  .exact z
  .split
   .exact z
   .split
    .exact b
    .exact z
theorem aAh(w:bC):aA7 w 0=[]:=rfl
attribute[local simp] aAh
theorem VR(s:bC)(n:Nat)(b:s.length<=9223372036854775807):Ok prog 80 [.str s,aI n] ⟨.d (.str (s.take n)),true⟩:=by
 refine bT func80 rfl ntmps80 results80 λd X c=>?_;apply aD;simp;apply aF;apply bE;simp;refine⟨λa=>?_,λa=>?_⟩
 .apply aD;simp;refine⟨aE,?_⟩;apply aH;simp
 .apply aG;simp;apply aD;simp;apply aH;simp;exact(A3 aE).symm
end
section
attribute[local simp] aR bJ bF aO aL aX aP
attribute[local simp] kH.cond Nd.d_eq nd_t nd_dr nd_td ndsD aQ bL
def Io(ts:List Nd)(d:Df):Int:=
 if(parseS d.text).2.2≠0 then(parseS d.text).2.2
 else if(parseS d.text).1.text≠d.name then 11
 else if(pB ts d.name).isSome=true\/(eV (eE (cR (parseS d.text).1))).length<(cR (parseS d.text).1).length then 7 else 0
def Dn(ts:List Nd):List Df->List Nd×Int×Int
 |[]=>(ts,((ts.length:Nat):Int),0)
 |d::r=>if Io ts d=0 then Dn (ts++[(parseS d.text).1]) r else(ts,((ts.length:Nat):Int),Io ts d)
def dS(l:List Df):List Nd×Int×Int:=if 24<l.length then([],0,4)else Dn [] l
theorem Si(n:Nat):pO (n+1)=pO n++[aI (n:Int)]:=by unfold pO;rw[List.range_succ,List.map_append];rfl
theorem aAi{H:dR}{id:Nat}{ts:List Nd}{n i:Nat}{a:bC}(c:pB ts a=none)(b:n=i)(h:H id=.map false (pF ts) (pO n)):
 cK T H 136 (.mp id) (.d (.str a)) (.d (aI (i:Int)))=⟨.junk,True,[(id,.map false (pF ts++[.str a]) (pO (n+1)))]⟩:=by
 subst b;unfold cK;simp only[aBx,h,sY,c,Si];simp[sL,bU,gI]
theorem YE{H:dR}{ts:List Nd}{id n:Nat}(b:n=ts.length){a:bC}(h:H id=.map false (pF ts) (pO n)):dB T H 136 (.mp id) (.d (.str a)) true=⟨.tup [.d (aI (Xy ts a)),.d (.bool (pB ts a).isSome)],True,[]⟩:=by
 subst b;unfold Xy;cases q:pB ts a with
 |none=>simp[dB,sM,h,sY,q]
 |some j=>
  have:=PK (wH q);simp[dB,sM,h,sY,q,this]
theorem Ip(s:bC):(cR (parseS s).1).length<=1000000000:=by
 have a:=CA (parseS s).1.kids;have b:=weighN_eq (parseS s).1;have c:=weigh_len (l:=(parseS s).1.kids);have d:=rA s;show(kS (parseS s).1.kids).length<=_;omega
theorem YF{l:List Df}{i:Nat}(h:i<l.length):l.drop i=l[i]::l.drop (i+1):=B7 h
theorem uG{ts:List Nd}{d:Df}{r:List Df}(h:Io ts d≠0):Dn ts (d::r)=(ts,((ts.length:Nat):Int),Io ts d):=by rw[Dn,if_neg h]
theorem Iq{ts:List Nd}{d:Df}{r:List Df}(h:Io ts d=0):Dn ts (d::r)=Dn (ts++[(parseS d.text).1]) r:=by rw[Dn,if_pos h]
theorem Sj(a:List Nd)(t:Nd):pF (a++[t])=pF a++[.str t.text]:=by unfold pF;simp
theorem YG(l:List Df):Ok prog 170 [fT l] ⟨.tup [.d (Ac (dS l).1),.d (aI (dS l).2.1),.d (aI (dS l).2.2)],false⟩:=by
 refine AH hT func170 iY (c:=_) rfl ntmps170 bB results170 bB (by rfl) λN X D=>?_;apply aD;simp;apply aD;simp;refine kY (fz:=false) (cs:=[.nl,.mp 14]) 5 0 1078 4 bK ⟨bB,bB,bB,?_⟩;simp;apply aF;apply bE;simp;refine⟨λG=>?_,λG=>?_⟩
 .apply aD;simp;apply aH;simp[dS,Ac,pF,pO,show 24<l.length by omega]
 .apply aG;simp;apply eP;simp;apply aW;refine aZ (ι:=Nat×List Nd) (λ⟨i,b⟩=>bA [(0,.d (fT l)),(2,.bx 2 0),(5,.bx 5 0),(20,.d (fT l)),(21,.d (aI (l.length:Nat))),(22,.d (aI (i:Nat)))]) (λ⟨i,b⟩=>aK [(2,.box false [.nl,.d (.val (.map none))]),(5,.box false [.ow 1078 0 b.length,.mp 14]),(14,.map false (pF b) (pO b.length)),(1078,.row false 4 (b.map Nd.d))]) (λ⟨i,b⟩=>i<=l.length/\b.length=i/\dS l=Dn b (l.drop i)) (λ⟨i,b⟩=>l.length-i) (0,[]) (aA D [0,2,5,20,21,22] [(2,2),(5,5),(14,14),(1078,1078)] (hH:=by simp[pF,pO])) (⟨B8 _,rfl,by unfold dS;rw[if_neg aE];rfl⟩) λ⟨i,b⟩ y=>?_;obtain⟨J,f,a⟩:=y;have k:G8 i (G0 Nd.d b)=G0 Nd.d b:=A3 (by rw[F8,f];exact A8 _);apply aD;simp;apply aF;apply aM;simp;refine⟨λH=>?_,λH=>?_⟩
  .apply aG;simp;apply eG;apply aF;have C:i<l.length:=aE;obtain⟨d,B⟩:∃d,l[i]=d:=⟨_,rfl⟩;rw[YF C,B]at a;apply aJ;simp[C,B];apply aF;have A:=EW d.text;obtain⟨P,w⟩:∃P,parseS d.text=P:=⟨_,rfl⟩;have q:=rA d.text;have s:=Ip d.text;rw[w]at A q s;obtain⟨x,E⟩:∃x,P.1=x:=⟨_,rfl⟩;have g:Io b d=if P.2.2≠0 then P.2.2 else if P.1.text≠d.name then 11 else if(pB b d.name).isSome=true\/(eV (eE (cR P.1))).length<(cR P.1).length then 7 else 0:=by unfold Io;rw[w]
   rw[E]at A q s g;refine bG (og 30 (.plain ⟨.tup [.d x.d,.d (aI P.2.1),.d (aI P.2.2)],false⟩)) ?_;simp[bM];refine⟨by simpa using A,?_⟩;apply aF;apply bE;simp;refine⟨λt=>?_,λt=>?_⟩
   .have j:Io b d=P.2.2:=(by rw[g,if_pos t]);rw[uG (by rw[j];exact t),j]at a;apply aD;simp;apply aH;simp[a,Ac,f,k]
   .have v:¬P.2.2≠0:=by simpa using t
    rw[if_neg v]at g;apply aG;simp;apply aF;apply bE;simp;refine⟨λn=>?_,λn=>?_⟩
    .have j:Io b d=11:=by rw[g,if_pos (by simpa using n)]
     rw[uG (by rw[j];decide),j]at a;apply aD;simp;apply aH;simp[a,Ac,f,k]
    .have r:¬x.text≠d.name:=by simpa using n
     rw[if_neg r]at g;apply aG;simp;apply aF;have F:=GC x q;simp at F;refine bG (og 47 (.plain ⟨.own 1 ((cR x).map .str),true⟩)) ?_;simp;refine⟨by simpa using F,?_⟩;apply aF;have M:=Ad (cR x) aE;refine bG (og 49 (.gen ⟨[(47,0)],[],[],[(0,.row false 1 ((eE (cR x)).map .str))],.tup []⟩)) ?_;simp;refine⟨by simpa using M,?_⟩;apply eP;simp[YE (ts:=b) rfl,bM];apply aF;by_cases m:(pB b d.name).isSome=true
     .refine AC hT hW (λ_=>none) (by intro d;first|exact⟨rfl,λ_ h=>h⟩|(split<;>exact⟨rfl,λ_ h=>h⟩)) ?_;simp[m];have j:Io b d=7:=by rw[g,if_pos (.inl m)]
      rw[uG (by rw[j];decide),j]at a;apply aM;simp[m];apply aD;simp;apply aH;simp[a,Ac,f,k]
     .have o:pB b d.name=none:=by simpa using m
      have p:=jU (cR x);have K:=JS (eE (cR x)) aE;have L:=FM (eE (cR x)) aE;have I:=uA (eE (cR x));have z:G8 (cR x).length (G0 DV.str (eE (cR x)))=G0 DV.str (eE (cR x)):=A3 (by rw[F8,p];exact A8 _);refine bG (λ|61=>some<| .plain ⟨.own 1 ((eE (cR x)).map .str),true⟩|62=>some (.gen ⟨[(61,0)],[],[],[(0,.row false 1 ((eV (eE (cR x))).map .str++List.replicate ((eE (cR x)).length-(eV (eE (cR x))).length) (.str [])))],.ow 0 0 (eV (eE (cR x))).length⟩)|_=>none) ?_;simp[o,p,z];refine⟨⟨by simpa using K,by simpa [p]using L⟩,?_⟩;apply aM;simp;refine⟨λu=>?_,λu=>?_⟩
      .have j:Io b d=7:=(by rw[g,if_pos (.inr aE)]);rw[uG (by rw[j];decide),j]at a;apply aD;simp;apply aH;simp[a,Ac,f,k]
      .have j:Io b d=0:=by rw[g,if_neg (by rintro(h|h);exact m h;omega)]
       rw[Iq j,w,E]at a;apply aG;simp;refine fF.rd [[77,78,1078],[77,78,1078],[5,77,78,1078],[5,77,78,1078],[77],[77],[],[],[],[5,77,78,1078]] [[],[],[],[],[],[],[],[77],[78,1078],[],[],[5],[14]] (λ_=>none) ?_;simp[aAi (ts:=b) o f];refine⟨⟨aE,aE⟩,?_⟩;apply aJ;simp;refine⟨aE,?_⟩;refine On.mk (i+1,b++[x]) (aA D [0,2,5,20,21,22] [(2,2),(5,5),(14,14),(78,1078)] (hH:=by simp[Sj,n])) ?_ ?_
       .exact⟨aE,by simp[f],a⟩
       .omega
  .apply bP;simp;apply aD;simp;apply aH;have e:i=l.length:=aE;rw[e,List.drop_length,Dn]at a;rw[e]at k;simp[a,Ac,f,e,k]
theorem Ky:∀(l:List Df) (a:List Nd),(∀t∈a,∃s,t=(parseS s).1)->(∀t∈(Dn a l).1,∃s,t=(parseS s).1)/\a.length<=(Dn a l).1.length/\(Dn a l).1.length<=a.length+l.length/\((Dn a l).2.2=0->(Dn a l).1.length=a.length+l.length/\(Dn a l).2.1=((a.length+l.length:Nat):Int))
 |[],a,h=>⟨h,A8 _,A8 _,λ_=>⟨rfl,rfl⟩⟩
 |d::r,a,h=>by
  by_cases e:Io a d=0
  .rw[Iq e];obtain⟨f,g,i,c⟩:=Ky r (a++[(parseS d.text).1]) λt b=>by
    rcases E4.1 b with b|b
    .exact h t b
    .exact⟨d.text,by simpa using b⟩
   simp only[A0,D0,B6]at g i c|-;refine⟨f,aE,aE,λe=>?_⟩;obtain⟨k,j⟩:=c e;exact⟨aE,by rw[j];congr 1;omega⟩
  .rw[uG e];exact⟨h,A8 _,bB,λh=>absurd h e⟩
theorem rB(l:List Df):(∀t∈(dS l).1,∃s,t=(parseS s).1)/\(dS l).1.length<=24/\((dS l).2.2=0->l.length<=24/\(dS l).1.length=l.length/\(dS l).2.1=(l.length:Int)):=by
 unfold dS;by_cases h:24<l.length
 .rw[if_pos h];exact⟨bB,bB,λh=>by simp at h⟩
 .rw[if_neg h];obtain⟨b,d,c,a⟩:=Ky l [] bB;simp only[B6,Nat.zero_add]at c a;exact⟨b,aE,λe=>⟨aE,(a e).1,(a e).2⟩⟩
theorem Sk(M:List Nat){H:dR}{k:Nat}:dB T H 155 (.d (.mp (AY M) (FL M))) (.d (aI (k:Int))) false=⟨.d (.bool (decide (k∈M))),True,[]⟩:=JQ M rfl
def EX(k:Int):Bool:=decide (k=14)
def Ir(ts:List Nd)(i:Nat):Bool:=decide (FI ts (ts.getD i default)≠0)
def It(ts:List Nd)(i:Nat):Bool:=decide (i∈jJ ts EX i)
def dQ(p:Nat->Bool)(n:Nat):Option Nat:=(G1 n).find? p
theorem wO{p:Nat->Bool}{n i:Nat}(g:i<n)(h:∀j<i,p j=false)(a:p i=true):dQ p n=some i:=by
 unfold dQ;rw[List.find?_eq_some_iff_append];refine⟨a,G1 i,(G1 (n-i-1)).map (·+(i+1)),?_,λj b=>by simp[h j (G2.1 b)]⟩;apply List.ext_getElem
 .simp;omega
 .intro k d f;rw[List.getElem_range,List.getElem_append];split
  .simp
  .rename_i c;simp only[D7,Nat.not_lt]at c;rw[List.getElem_cons];split
   .rename_i e;simp only[D7]at e;omega
   .rename_i e;simp only[D7]at e;simp;omega
theorem wP{p:Nat->Bool}{n:Nat}(h:∀j<n,p j=false):dQ p n=none:=by
 unfold dQ;rw[List.find?_eq_none];intro j a;simp[h j (G2.1 a)]
def mD(l:List Df):List Nd×Int×Int:=
 if(dS l).2.2≠0 then dS l
 else match dQ (Ir (dS l).1) (dS l).1.length with
  |some i=>((dS l).1,(i:Int),FI (dS l).1 ((dS l).1.getD i default))
  |none=>match dQ (It (dS l).1) (dS l).1.length with
   |some i=>((dS l).1,(i:Int),13)
   |none=>((dS l).1,(l.length:Int),0)
theorem EY(l:List Df):Ok prog 97 [fT l] ⟨.tup [.d (Ac (mD l).1),.d (aI (mD l).2.1),.d (aI (mD l).2.2)],false⟩:=by
 refine AH hT func97 iY (c:=_) rfl ntmps97 bB results97 bB (by rfl) λP X y=>?_;obtain⟨R,L⟩:∃R,dS l=R:=⟨_,rfl⟩;obtain⟨a,w⟩:∃a,R.1=a:=⟨_,rfl⟩;have H:=YG l;have x:=rB l;have b:mD l=if(dS l).2.2≠0 then dS l else match dQ (Ir (dS l).1) (dS l).1.length with|some i=>((dS l).1,(i:Int),FI (dS l).1 ((dS l).1.getD i default))|none=>match dQ (It (dS l).1) (dS l).1.length with|some i=>((dS l).1,(i:Int),13)|none=>((dS l).1,(l.length:Int),0):=rfl
 rw[L]at H x b;rw[w]at H x b;have G:∀t∈a,weighN t<=1000000000:=λt v=>by obtain⟨s,rfl⟩:=x.1 t v;exact rA s
 have J:a.length<=24:=x.2.1;apply aD;simp;refine dH (og 14 (.plain ⟨.tup [.d (Ac a),.d (aI R.2.1),.d (aI R.2.2)],false⟩)) ?_;simp[bM];refine⟨⟨by simpa using H,by simp[Ac]⟩,?_⟩;simp[Ac];apply aF;apply bE;simp;refine⟨λA=>?_,λA=>?_⟩
 .rw[if_pos A]at b;apply aD;simp;apply aH;simp[b,w,Ac]
 .have r:R.2.2=0:=by simpa using A
  obtain⟨M,N,_⟩:=x.2.2 r;rw[if_neg (by simpa using r)]at b;apply aG;simp;apply eP;simp;apply aW;refine aZ (ι:=Nat) (λi=>bA [(0,.d (fT l)),(2,.bx 2 0),(5,.bx 5 0),(24,.d (ndsD a)),(25,.d (aI (a.length:Nat))),(26,.d (aI (i:Nat)))]) (λi=>aK [(2,.box false [.nl,.d (.val (.map none))]),(5,.box false [.d (ndsD a),.d (.mp (pF a) (pO a.length))])]) (λi=>i<=a.length/\∀j<i,Ir a j=false) (λi=>a.length-i) 0 (aA y [0,2,5,24,25,26] [(2,2),(5,5)]) (⟨B8 _,λj h=>absurd h (F9 _)⟩) λi q=>?_;apply aD;simp;apply aF;apply aM;simp;refine⟨λK=>?_,λK=>?_⟩
  .apply aG;simp;apply eG;apply aF;have o:i<a.length:=aE;obtain⟨t,v⟩:∃t,a[i]=t:=⟨_,rfl⟩;have F:t∈a:=by rw[<-v];exact E1 o
   have g:a.getD i default=t:=(by rw[C5,B0 o,v];rfl);have u:Ir a i=decide (FI a t≠0):=by unfold Ir;rw[g]
   have O:=MP a t (G t F) G;apply aJ;simp[o,v];refine dH (og 33 (.plain ⟨.d (aI (FI a t)),true⟩)) ?_;simp;refine⟨by simpa [Ac]using O,?_⟩;apply bE;simp;refine⟨λB=>?_,λB=>?_⟩
   .have C:=wO o q.2 (by rw[u];simpa using B);rw[C]at b;simp only[g]at b;apply aD;simp;apply aH;simp[b,Ac]
   .have d:Ir a i=false:=by rw[u];simpa using B
    apply aG;simp;apply aJ;simp;refine⟨aE,?_⟩;refine On.mk (i+1) (aA y [0,2,5,24,25,26] [(2,2),(5,5)]) ?_ ?_
    .refine⟨aE,λj f=>?_⟩;rcases D9.1 f with f|rfl
     .exact q.2 j f
     .exact d
    .omega
  .apply bP;simp;apply fE;have D:=wP (p:=Ir a) (n:=a.length) λj f=>q.2 j aE;rw[D]at b;apply aJ;simp;apply aW;refine aZ (ι:=Nat) (λi=>bA [(0,.d (fT l)),(2,.bx 2 0),(5,.bx 5 0),(42,.d (aI (a.length:Nat))),(43,.d (aI (i:Nat)))]) (λi=>aK [(2,.box false [.nl,.d (.val (.map none))]),(5,.box false [.d (ndsD a),.d (.mp (pF a) (pO a.length))])]) (λi=>i<=a.length/\∀j<i,It a j=false) (λi=>a.length-i) 0 (aA y [0,2,5,42,43] [(2,2),(5,5)]) (⟨B8 _,λj h=>absurd h (F9 _)⟩) λi e=>?_;apply aD;simp;apply aF;apply aM;simp;refine⟨λz=>?_,λz=>?_⟩
   .apply aG;simp;apply eG;apply aD;simp;apply aF;have o:i<a.length:=aE;have I:=EA a EX 172 i G (λk=>RI k) o;refine bG (og 48 (.plain ⟨.d (.mp (AY (jJ a EX i)) (FL (jJ a EX i))),false⟩)) ?_;simp[Sk (jJ a EX i)];refine⟨by simpa [Ac]using I,?_⟩;apply aM;simp;refine⟨λm=>?_,λm=>?_⟩
    .have C:=wO o e.2 (by simpa [It]using m);rw[C]at b;apply aD;simp;apply aH;simp[b,Ac]
    .have d:It a i=false:=by simpa [It]using m
     apply aG;simp;apply aJ;simp;refine⟨aE,?_⟩;refine On.mk (i+1) (aA y [0,2,5,42,43] [(2,2),(5,5)]) ?_ ?_
     .refine⟨aE,λj f=>?_⟩;rcases D9.1 f with f|rfl
      .exact e.2 j f
      .exact d
     .omega
   .apply bP;simp;apply aD;simp;apply aH;have E:=wP (p:=It a) (n:=a.length) λj f=>e.2 j aE;rw[E]at b;simp[b,Ac]
def zD(a b:bC):Int:=if Op.bytesLess a b=true then -1 else if a=b then 0 else 1
theorem Iu{a b:bC}:zD a b<0↔Op.bytesLess a b=true:=by
 unfold zD;by_cases c:Op.bytesLess a b=true
 .rw[if_pos c];simp[c]
 .rw[if_neg c];split<;>simp[c]
def iI(out:List Df)(x:Df):List Df:=iW (mR (λy=>Op.bytesLess x.name y.name) out out.length) x out
def bV(l:List Df):List Df:=l.foldl iI []
theorem Kz(a:List Df)(x:Df):(iI a x).length=a.length+1:=pM
theorem fR(l:List Df):(bV l).length=l.length:=by
 have:∀(l a:List Df),(l.foldl iI a).length=a.length+l.length:=λl=>by
  induction l with
  |nil=>intro a;rfl
  |cons x r ih=>intro a;rw[B2,ih,Kz,D0];omega
 rw[bV,this];simp
theorem EZ{l:List Df}{i:Nat}(h:i<l.length):bV (l.take (i+1))=iI (bV (l.take i)) l[i]:=by
 unfold bV;rw[B1 h,C3];rfl
def iF(A o t:List Df)(x:Df)(j:Nat):List Df:=A++(iW j x o++t)
theorem wQ{A o t:List Df}{x:Df}{j:Nat}:(iF A o t x j).length=A.length+o.length+1+t.length:=by
 unfold iF;rw[A0,A0,pM];omega
theorem Qc{A o t:List Df}{x:Df}{j:Nat}(b:j<=o.length)(h:A.length+j<(iF A o t x j).length):(iF A o t x j)[A.length+j]=x:=by
 have a:(iF A o t x j)[A.length+j]? =some x:=by
  unfold iF iW;rw[A4 aE,A2,A9 kD,A4 kD];simp[Nat.min_eq_left b]
 rw[B0 h]at a;exact Option.some.inj a
theorem GW{A o t:List Df}{x:Df}{j:Nat}(b:j<o.length)(h:A.length+j<(iF A o t x (j+1)).length):(iF A o t x (j+1))[A.length+j]=o[j]:=by
 have a:(iF A o t x (j+1))[A.length+j]? =some o[j]:=by
  unfold iF iW;rw[A4 aE,A2,A9 kD,A9 kD,List.getElem?_take_of_lt aE,B0 b]
 rw[B0 h]at a;exact Option.some.inj a
theorem GX{A o t:List Df}{x:Df}{j:Nat}(a:j<o.length):((iF A o t x (j+1)).set (A.length+(j+1)) o[j]).set (A.length+j) x=iF A o t x j:=by
 unfold iF iW;have c:o.take (j+1)=o.take j++[o[j]]:=B1 a;have d:o.drop j=o[j]::o.drop (j+1):=B7 a;have b:(o.take j).length=j:=kD;rw[c,d];rw[A5 _ _ aE,A2,A5 _ _ aE,A2];congr 1;simp only[B3,E2,D3];rw[A5 _ _ aE,b,show j+1-j=1 by omega,A5 _ _ aE,b,Nat.sub_self];rfl
theorem VS{A o t s:List Df}{x:Df}{a j:Nat}(b:A.length=a)(e:s=iF A o t x j)(c:j<=o.length)(h:a+j<s.length):s[a+j]=x:=by
 subst e;subst b;exact Qc c h
theorem Nq{A o t s:List Df}{x:Df}{a j:Nat}(b:A.length=a)(e:s=iF A o t x (j+1))(c:j<o.length)(h:a+j<s.length):s[a+j]=o[j]:=by
 subst e;subst b;exact GW c h
def Is{α:Type}(a b:α):Prop:=a=b
theorem CM(s:bC):Ok prog 153 [.str s] ⟨.d (.bool false),true⟩:=by
 refine bT func153 rfl ntmps153 results153 λb X a=>?_;apply aD;simp;apply aD;simp;apply aH;simp
theorem Sl(a b:bC):Ok prog 84 [.str a,.str b] ⟨.d (aI (zD a b)),true⟩:=by
 refine bT func84 rfl ntmps84 results84 λh X g=>?_;apply aD;simp;refine dH (og 8 (.plain ⟨.d (.bool false),true⟩)) ?_;simp;refine⟨CM a,?_⟩;refine dH (og 10 (.plain ⟨.d (.bool false),true⟩)) ?_;simp;refine⟨CM b,?_⟩;apply aF;apply bE;simp;apply aG;simp;apply aF;apply bE;simp;apply aG;simp;apply aF;apply bE;simp;refine⟨λd=>?_,λd=>?_⟩
 .apply aD;simp;apply aH;simp[zD,d]
 .apply aG;simp;apply aF;apply bE;simp;refine⟨λc f=>?_,λc=>?_⟩
  .apply aD;simp;apply aH;simp[zD,d,f]
  .apply aG;simp;apply aD;simp;apply aH;have e:=c d;subst e;simp[zD,d]
theorem Bj(a b:Df):Ok prog 83 [a.d,b.d] ⟨.d (aI (zD a.name b.name)),true⟩:=by
 refine bT func83 rfl ntmps83 results83 λd X c=>?_;apply aD;simp;refine dH (og 9 (.plain ⟨.d (aI (zD a.name b.name)),true⟩)) ?_;simp;refine⟨Sl _ _,?_⟩;apply aH;simp
theorem Fa(A C D:List Df)(V:(A++C++D).length<=1000000):mE prog 226 [.ow 0 0 (A++C++D).length,.d (aI A.length),.d (aI (A.length+C.length)),.d (.fn 83 [])] [(0,.row false 2 ((A++C++D).map Df.d))] [(0,.row false 2 ((A++bV C++D).map Df.d))] (.tup []):=by
 obtain⟨N,K⟩:∃N,(A++C++D).length=N:=⟨_,rfl⟩;obtain⟨a,m⟩:∃a,A.length=a:=⟨_,rfl⟩;have I:A++C++D=A++(bV (C.take 1)++(C.drop 1++D)):=by cases C<;>simp[bV,iI,iW,mR]
 rw[K]at V|-;rw[m];have v:a+C.length+D.length=N:=by rw[<-K,<-m];simp;omega
 refine pD func226 rfl ntmps226 results226 λw0 X k=>?_;apply aD;simp;refine⟨aE,?_⟩;apply aW;refine aZ (ι:=Nat×List Df) (λ⟨i,r⟩=>bA [(0,.ow 0 0 N),(1,.d (aI a)),(2,.d (aI (a+C.length))),(3,.d (.fn 83 [])),(8,.d (aI (a+i)))]) (λ⟨i,r⟩=>aK [(0,.row false 2 (r.map Df.d))]) (λ⟨i,r⟩=>1<=i/\i<=C.length+1/\r=A++(bV (C.take i)++(C.drop i++D))) (λ⟨i,r⟩=>C.length+1-i) (1,A++C++D) (aA k [0,1,2,3,8] [(0,0)]) (⟨aE,aE,I⟩) λ⟨i,r⟩ g=>?_;apply aF;apply bE;simp;refine⟨λQ=>?_,λQ=>?_⟩
 .apply aG;simp;refine bH (ι:=List Df) (λs=>bA [(0,.ow 0 0 N),(1,.d (aI a)),(2,.d (aI (a+C.length))),(3,.d (.fn 83 [])),(8,.d (aI (a+i)))]) (λs=>aK [(0,.row false 2 (s.map Df.d))]) (λs=>Is s (A++(bV (C.take (i+1))++(C.drop (i+1)++D)))) ?_ λs w=>?_
  .apply aW;apply aF;have L:i<C.length:=aE;obtain⟨g,B,F⟩:=g;obtain⟨x,M⟩:∃x,C[i]=x:=⟨_,rfl⟩;obtain⟨o,E⟩:∃o,bV (C.take i)=o:=⟨_,rfl⟩;have c:o.length=i:=by rw[<-E,fR,A7];omega
   obtain⟨t,J⟩:∃t,C.drop (i+1)++D=t:=⟨_,rfl⟩;have z:C.drop i=x::C.drop (i+1):=by rw[<-M];exact B7 L
   have H:r=iF A o t x i:=by
    have O:o.take i=o:=A3 (by rw[c];exact A8 _);have P:o.drop i=[]:=C0 (by rw[c];exact A8 _);rw[F,E,z,<-J];unfold iF iW;rw[O,P];simp
   have f:∀j,(iF A o t x j).length=N:=λj=>by rw[wQ,<-v,<-J,c,m,A0,B9];omega
   have d:∀j,j<=i->mR (λy=>Op.bytesLess x.name y.name) o i=j->iF A o t x j=A++(bV (C.take (i+1))++(C.drop (i+1)++D)):=λj _ U=>by
    rw[EZ L,E,M];unfold iI iF;rw[c,U,<-J]
   apply aJ;simp;apply aW;refine aZ (ι:=Nat×List Df) (λ⟨j,s⟩=>bA [(0,.ow 0 0 N),(1,.d (aI a)),(2,.d (aI (a+C.length))),(3,.d (.fn 83 [])),(8,.d (aI (a+i))),(9,.d (aI (a+j)))]) (λ⟨j,s⟩=>aK [(0,.row false 2 (s.map Df.d))]) (λ⟨j,s⟩=>j<=i/\s=iF A o t x j/\mR (λy=>Op.bytesLess x.name y.name) o i=mR (λy=>Op.bytesLess x.name y.name) o j) (λ⟨j,s⟩=>j) (i,r) (aA k [0,1,2,3,8,9] [(0,0)]) (⟨A8 _,H,rfl⟩) λ⟨j,s⟩ b=>?_;apply fE;rcases j with _|j
   .refine fF.rd [] [[],[],[],[],[],[],[],[],[],[],[],[],[],[],[32]] (λ_=>none) ?_;simp[B8];apply aM;simp[B8];apply bP;simp;refine XV.mk s (aA k [0,1,2,3,8] [(0,0)]) ?_;exact b.2.1.trans (d 0 (B8 _) (by rw[b.2.2];rfl))
   .have p:a+(j+1)<s.length:=by rw[b.2.1,f];have:=b.1;omega
    have h:j<o.length:=by have:=b.1;omega
    have u:s[a+(j+1)]=x:=VS m b.2.1 aE p;have q:s[a+j]=o[j]:=Nq m b.2.1 h aE;refine fF.rd [] [[],[],[],[],[],[],[],[],[],[],[],[],[],[],[32]] (og 32 (.plain ⟨.d (aI (zD s[a+(j+1)].name s[a+j].name)),true⟩)) ?_;simp[p,(show a+j<s.length by omega),(show(a:Int)<(a:Int)+((j:Int)+1)by omega),(show((a:Int)+((j:Int)+1)).toNat=a+(j+1)by omega),(show a+(j+1)- 1=a+j by omega)];have Y:s.length=N:=by rw[b.2.1,f]
    refine⟨⟨⟨⟨⟨aE,aE⟩,aE⟩,aE⟩,by simpa using Bj s[a+(j+1)] s[a+j]⟩,?_⟩;apply aM;simp;refine⟨λn=>?_,λn=>?_⟩
    .apply aG;simp;apply eG;refine fF.rd [[],[],[0],[0],[0]] [[],[],[],[],[],[],[],[],[],[],[],[],[],[],[],[0],[],[0]] (λ_=>none) ?_;simp[p,(show a+j<s.length by omega),(show((a:Int)+((j:Int)+1)).toNat=a+(j+1)by omega),(show a+(j+1)- 1=a+j by omega)];refine⟨aE,?_⟩;apply aJ;simp;refine⟨aE,?_⟩;refine On.mk (j,(s.set (a+(j+1)) s[a+j]).set (a+j) s[a+(j+1)]) (aA k [0,1,2,3,8,9] [(0,0)] (by simp[show(a:Int)+((j:Int)+1)- 1=a+j by omega]) (by simp[G9,Df.d])) ?_ ?_
     .have l:Op.bytesLess x.name o[j].name=true:=Iu.1 (by rw[u,q]at n;exact n);refine⟨zF,?_,?_⟩
      .show(s.set (a+(j+1)) s[a+j]).set (a+j) s[a+(j+1)]=iF A o t x j;rw[u,q,b.2.1,<-m];exact GX h
      .show _=mR _ o j;rw[b.2.2];exact AK h l
     .omega
    .apply bP;simp;refine XV.mk s (aA k [0,1,2,3,8] [(0,0)]) ?_;have l:¬Op.bytesLess x.name o[j].name=true:=λe=>by rw[u,q]at n;have:=Iu.2 e;omega
     exact b.2.1.trans (d (j+1) b.1 (by rw[b.2.2];exact sU λZ S W=>(by have e:Z=j:=aE;subst e;simpa using l)))
  .apply aJ;simp;refine⟨aE,?_⟩;refine On.mk (i+1,s) (aA k [0,1,2,3,8] [(0,0)] (by simp[show(a:Int)+(i:Int)+1=a+((i:Int)+1)by omega])) ?_ ?_
   .exact⟨zF,zF,w⟩
   .omega
 .apply bP;simp;obtain⟨_,B,F⟩:=g;have G:r=A++(bV C++D):=by rw[F,A3 aE,C0 aE,D3]
  exact aA k [] [(0,0)] (hH:=by simp[G])
theorem GY(out:List Df)(x:Df):(iI out x).Perm (x::out):=by
 unfold iI iW;refine E3.trans ?_;rw[A6]
theorem nT(l:List Df):(bV l).Perm l:=by
 have:∀(l out:List Df),(l.foldl iI out).Perm (out++l):=λl=>by
  induction l with
  |nil=>intro out;rw[C2];exact List.Perm.refl _
  |cons x r ih=>
   intro out;rw[B2];exact(ih _).trans (((GY out x).append_right r).trans (by simpa using(E3 (a:=x) (l₁:=out) (l₂:=r)).symm))
 simpa [bV]using this l []
theorem CN{out:List Df}{x:Df}(h:out.Pairwise λa b=>a.name<=b.name):(iI out x).Pairwise λa b=>a.name<=b.name:=by
 obtain⟨r,s⟩:=BR (p:=λy:Df=>Op.bytesLess x.name y.name) (out:=out) out.length (A8 _);have q:=Dk (p:=λy:Df=>Op.bytesLess x.name y.name) (out:=out) out.length;unfold iI iW;generalize mR (λy:Df=>Op.bytesLess x.name y.name) out out.length=k at*;have m:∀a∈out.take k,a.name<=x.name:=λa l=>by
  obtain⟨i,n,rfl⟩:=A1 l;rw[B4];rw[A7]at n;obtain⟨d,rfl⟩:∃d,k=d+1:=⟨k-1,aE⟩;have o:i<=d:=aE;have j:d<out.length:=aE;have f:=s d j rfl;rw[bytesLess_eq,decide_eq_false_iff_not,E6]at f;by_cases e:i=d
  .subst e;exact f
  .exact E0 (D5.1 h i d aE j aE) f
 have l:∀b∈out.drop k,x.name<=b.name:=λb m=>by
  obtain⟨i,n,rfl⟩:=A1 m;rw[B5];rw[B9]at n;have f:=r (k+i) aE aE aE;rw[bytesLess_eq,decide_eq_true_eq]at f;exact List.le_of_lt f
 refine List.pairwise_append.2 ⟨h.sublist (F4 _ _),C8.2 ⟨l,h.sublist (F5 _ _)⟩,λa g b c=>?_⟩;rcases F0.1 c with rfl|c
 .exact m a g
 .exact E0 (m a g) (l b c)
theorem pS(l:List Df):(bV l).Pairwise λa b=>a.name<=b.name:=by
 have:∀(l c:List Df),(c.Pairwise λa b=>a.name<=b.name)->(l.foldl iI c).Pairwise λa b=>a.name<=b.name:=λl=>by
  induction l with
  |nil=>exact λc h=>h
  |cons x r ih=>exact λc h=>ih _ (CN h)
 exact this l [] List.Pairwise.nil
theorem Qd{V U:List Df}{i:Nat}(a:i<U.length)(b:i<V.length):(V.take i++U.drop i).set i V[i]=V.take (i+1)++U.drop (i+1):=by
 rw[B7 a,A5 _ _ (by rw[A7];omega),show i-(V.take i).length=0 by rw[A7];omega,B1 b,B3];rfl
theorem rQ{V U:List Df}{i:Nat}(h:V.length=U.length)(a:i<=U.length):(V.take i++U.drop i).length=U.length:=by
 rw[A0,A7,B9];omega
theorem VT{V U:List Df}{i:Nat}(h:V.length=U.length)(a:i<U.length):(V.take i++U.drop i)[i]? =some U[i]:=by
 rw[A4 (by rw[A7];omega),A7,show i-min i V.length=0 by omega,List.getElem?_drop,Nat.add_zero,B0 a]
def mL(A U M V D:List Df)(i:Nat):List Df:=A++((V.take i++U.drop i)++(M++((U.take i++V.drop i)++D)))
section
variable{A U M V D:List Df} {i:Nat}
theorem Sm(h:V.length=U.length)(a:i<=U.length):(mL A U M V D i).length=A.length+U.length+M.length+V.length+D.length:=by
 unfold mL;simp only[A0,A7,B9];omega
theorem Sn(h:V.length=U.length)(a:i<U.length):(mL A U M V D i)[A.length+i]? =some U[i]:=by
 unfold mL;rw[A4 aE,A2,A9 (by rw[rQ h aE];exact a),VT h a]
theorem So(h:V.length=U.length)(a:i<U.length):(mL A U M V D i)[A.length+U.length+M.length+i]? =some (V[i]'aE):=by
 unfold mL;rw[A4 aE,show A.length+U.length+M.length+i-A.length=U.length+(M.length+i)by omega,A4 (by rw[rQ h aE];omega),rQ h aE,A2,
  A4 aE,A2,A9 (by rw[rQ h.symm aE];omega),VT h.symm aE]
theorem Sp(h:V.length=U.length)(a:i<U.length):((mL A U M V D i).set (A.length+i) (V[i]'aE)).set (A.length+U.length+M.length+i) U[i]=mL A U M V D (i+1):=by
 have b:(mL A U M V D i).set (A.length+i) (V[i]'aE)=A++((V.take (i+1)++U.drop (i+1))++(M++((U.take i++V.drop i)++D))):=by
  unfold mL;rw[A5 _ _ aE,A2,E7 _ _ (by rw[rQ h aE];exact a),Qd a aE]
 rw[b];unfold mL;rw[A5 _ _ aE,show A.length+U.length+M.length+i-A.length=U.length+(M.length+i)by omega,A5 _ _ (by rw[rQ h aE];omega),rQ h aE,A2,
  A5 _ _ aE,A2,E7 _ _ (by rw[rQ h.symm aE];omega),Qd aE a]
end
theorem uQ{s:List Df}{k:Nat}{x:Df}(h:s[k]? =some x):∃a:k<s.length,s[k]=x:=List.getElem?_eq_some_iff.1 h
theorem BV(A U M V D:List Df)(a b n N:Nat)(d:V.length=U.length)(j:A.length=a)(k:A.length+U.length+M.length=b)(y:U.length=n)(q:A.length+U.length+M.length+V.length+D.length=N)(x:N<=1000000):mE prog 316 [.ow 0 0 N,.d (aI a),.d (aI b),.d (aI n),.d (.fn 83 [])] [(0,.row false 2 ((A++(U++(M++(V++D)))).map Df.d))] [(0,.row false 2 ((A++(V++(M++(U++D)))).map Df.d))] (.tup []):=by
 have o:A++(U++(M++(V++D)))=mL A U M V D 0:=by simp[mL]
 have g:A++(V++(M++(U++D)))=mL A U M V D n:=by
  unfold mL;rw[A3 aE,A3 aE,C0 aE,C0 aE,C2,C2]
 rw[o,g];refine pD func316 rfl ntmps316 results316 λz X h=>?_;apply aD;simp;apply aW;refine aZ (ι:=Nat×List Df) (λ⟨i,r⟩=>bA [(0,.ow 0 0 N),(1,.d (aI a)),(2,.d (aI b)),(3,.d (aI n)),(4,.d (.fn 83 [])),(10,.d (aI i))]) (λ⟨i,r⟩=>aK [(0,.row false 2 (r.map Df.d))]) (λ⟨i,r⟩=>i<=n/\Is r (mL A U M V D i)) (λ⟨i,r⟩=>n-i) (0,mL A U M V D 0) (aA h [0,1,2,3,4,10] [(0,0)]) (⟨B8 _,rfl⟩) λ⟨i,r⟩ f=>?_;apply aF;apply bE;simp;refine⟨λp=>?_,λp=>?_⟩
 .apply aG;simp;apply eG;obtain⟨f,c⟩:=f;have c:r=mL A U M V D i:=c;have t:i<n:=aE;have q1:r[a+i]? =some (U[i]'aE):=by have:=Sn (A:=A) (M:=M) (D:=D) d (show i<U.length by omega);rw[j]at this;rw[c];exact this
  have q2:r[b+i]? =some (V[i]'aE):=by have:=So (A:=A) (M:=M) (D:=D) d (show i<U.length by omega);rw[k]at this;rw[c];exact this
  obtain⟨v,l⟩:=uQ q1;obtain⟨w,m⟩:=uQ q2;have u:r.length=N:=by rw[c,Sm d aE,q]
  refine fF.rd [[],[],[],[],[0],[0],[0],[0]] [[],[],[],[],[],[],[],[],[],[],[],[],[],[],[],[],[],[],[],[],[],[0],[],[0]] (λ_=>none) ?_;simp[v,w,(show((a:Int)+(i:Int)).toNat=a+i by omega),(show((b:Int)+(i:Int)).toNat=b+i by omega)];refine⟨by(repeat' with_reducible apply And.intro)<;>omega,?_⟩;apply aJ;simp;refine⟨aE,?_⟩;refine On.mk (i+1,(r.set (a+i) r[b+i]).set (b+i) r[a+i]) (aA h [0,1,2,3,4,10] [(0,0)] (hH:=by simp[G9,Df.d])) ?_ ?_
  .exact⟨zF,by show _=_;rw[l,m,c];subst j;subst k;exact Sp d aE⟩
  .omega
 .apply bP;simp;obtain⟨s,c⟩:=f;have c:r=mL A U M V D i:=c;have e:i=n:=aE;subst e;exact aA h [] [(0,0)] (hH:=by simp[c])
end
section
attribute[local simp] aR bJ bF aO aL aX aP
attribute[local simp] kH.cond Nd.d_eq nd_t nd_dr nd_td ndsD aQ bL
structure Sq(T r:List Df)(m i j:Nat)(P X Y S:List Df):Prop where
 here:r=P++(X++(Y++S))
 goal:T=P++(Y++(X++S))
 x:X.length=i
 y:Y.length=j
 at_:P.length+i=m
theorem Sq.left{T r P X Y S:List Df}{m i j:Nat}(h:Sq T r m i j P X Y S)(b:j<i):Sq T (P++(Y++(X.drop j++(X.take j++S)))) m (i-j) j (P++Y) (X.drop j) (X.take j) S:=by
 obtain⟨c,a,d,e,f⟩:=h;refine⟨bB,?_,kD,kD,kD⟩;rw[a];simp only[B3];rw[<-B3 (X.take j) (X.drop j) S,A6]
theorem Sq.right{T r P X Y S:List Df}{m i j:Nat}(h:Sq T r m i j P X Y S)(c:i<j):Sq T (P++(Y.drop (j-i)++(Y.take (j-i)++(X++S)))) m i (j-i) P (Y.drop (j-i)) (Y.take (j-i)) (X++S):=by
 obtain⟨d,a,e,f,b⟩:=h;refine⟨rfl,?_,kD,kD,b⟩;rw[a]
 conv=>lhs;rw[<-A6 (j-i) Y]
 simp only[B3]
theorem VU(A B C D:List Df)(a m b N:Nat)(G:B≠[])(I:C≠[])(O:A.length=a)(U:a+B.length=m)(Q:m+C.length=b)(M:b+D.length=N)(u:N<=1000000):mE prog 280 [.ow 0 0 N,.d (aI a),.d (aI m),.d (aI b),.d (.fn 83 [])] [(0,.row false 2 ((A++(B++(C++D))).map Df.d))] [(0,.row false 2 ((A++(C++(B++D))).map Df.d))] (.tup []):=by
 obtain⟨T,k⟩:∃T,A++(C++(B++D))=T:=⟨_,rfl⟩;have q:T.length=N:=by rw[<-k];simp only[A0];omega
 have H:0<B.length:=E8.2 G;have J:0<C.length:=E8.2 I;have p:Sq T (A++(B++(C++D))) m (m-a) (b-m) A B C D:=⟨rfl,k.symm,aE,aE,aE⟩;rw[k];refine pD func280 rfl ntmps280 results280 λZ X o=>?_;apply aD;simp[(show(m:Int)-(a:Int)=((m-a:Nat):Int)by omega)];refine⟨aE,?_⟩;apply aD;simp[(show(b:Int)-(m:Int)=((b-m:Nat):Int)by omega)];refine⟨aE,?_⟩;apply eG;refine aZ (ι:=Nat×Nat×List Df) (λ⟨i,j,r⟩=>bA [(0,.ow 0 0 N),(1,.d (aI a)),(2,.d (aI m)),(3,.d (aI b)),(4,.d (.fn 83 [])),(10,.d (aI i)),(11,.d (aI j))]) (λ⟨i,j,r⟩=>aK [(0,.row false 2 (r.map Df.d))]) (λ⟨i,j,r⟩=>0<i/\0<j/\∃P X Y S,Sq T r m i j P X Y S) (λ⟨i,j,r⟩=>i+j) (m-a,b-m,A++(B++(C++D))) (aA o [0,1,2,3,4,10,11] [(0,0)] (by simp[show(m:Int)-(a:Int)=((m-a:Nat):Int)by omega,show(b:Int)-(m:Int)=((b-m:Nat):Int)by omega])) (⟨aE,aE,A,B,C,D,p⟩) λ⟨i,j,r⟩ s=>?_;apply fE;obtain⟨K,L,P,c,d,S,e⟩:=s;have w:r.length=N:=by rw[e.here,<-q,e.goal];simp only[A0];omega
 have E:P.length+i+j+S.length=N:=by rw[<-w,e.here];simp only[A0,e.x,e.y];omega
 have F:=e.at_;have V:=e.x;have W:=e.y;apply aJ;simp;apply aM;simp;refine⟨λy=>?_,λy=>?_⟩
 .apply aG;simp;apply aW;apply bE;simp;refine⟨λz=>?_,λz=>?_⟩
  .apply aF;have f:(m:Int)-(i:Int)=((P.length:Nat):Int):=aE;have h:=BV P (c.take j) (c.drop j) d S P.length m j N kD rfl kD kD (by simp only[A7,B9];omega) u;have g:P++(c.take j++(c.drop j++(d++S)))=r:=by rw[e.here,<-B3 (c.take j) (c.drop j),A6]
   rw[g]at h;have l:(i:Int)-(j:Int)=((i-j:Nat):Int):=aE;refine bG (oh 31 [(0,.row false 2 ((P++(d++(c.drop j++(c.take j++S)))).map Df.d))] (.tup [])) ?_;simp[f];refine⟨⟨aE,by simpa using h⟩,?_⟩;apply aJ;simp[l];refine⟨aE,?_⟩;refine On.mk (i-j,j,P++(d++(c.drop j++(c.take j++S)))) (aA o [0,1,2,3,4,10,11] [(0,0)] (by simp[l])) ?_ ?_
   .exact⟨zF,zF,_,_,_,_,e.left aE⟩
   .dsimp only;omega
  .apply aF;have t:i<j:=aE;have f:(m:Int)-(i:Int)=((P.length:Nat):Int):=aE;have v:(m:Int)+(j:Int)-(i:Int)=((m+(j-i):Nat):Int):=aE;have h:=BV P c (d.take (j-i)) (d.drop (j-i)) S P.length (m+(j-i)) i N kD rfl kD aE (by simp only[A7,B9];omega) u;have g:P++(c++(d.take (j-i)++(d.drop (j-i)++S)))=r:=by rw[e.here,<-B3 (d.take (j-i)) (d.drop (j-i)),A6]
   rw[g]at h;have n:(j:Int)-(i:Int)=((j-i:Nat):Int):=aE;refine bG (oh 46 [(0,.row false 2 ((P++(d.drop (j-i)++(d.take (j-i)++(c++S)))).map Df.d))] (.tup [])) ?_;simp[f,v];refine⟨by(repeat' with_reducible apply And.intro)<;>first|omega|simpa using h,?_⟩;apply aJ;simp[n];refine⟨aE,?_⟩;refine On.mk (i,j-i,P++(d.drop (j-i)++(d.take (j-i)++(c++S)))) (aA o [0,1,2,3,4,10,11] [(0,0)] (by simp[n])) ?_ ?_
   .exact⟨zF,zF,_,_,_,_,e.right aE⟩
   .dsimp only;omega
 .apply bP;simp;have t:i=j:=aE;have f:(m:Int)-(i:Int)=((P.length:Nat):Int):=aE;have h:=BV P c [] d S P.length m i N aE rfl kD aE kD u;have g:P++(c++([]++(d++S)))=r:=by rw[e.here];rfl
  have x:P++(d++([]++(c++S)))=T:=by rw[e.goal];rfl
  rw[g,x]at h;refine bG (oh 57 [(0,.row false 2 (T.map Df.d))] (.tup [])) ?_;simp[f];refine⟨⟨aE,by simpa using h⟩,?_⟩;exact aA o [] [(0,0)]
end
def fW(a b:Df):Prop:=Op.bytesLess a.name b.name=true
instance(a b:Df):Decidable (fW a b):=inferInstanceAs (Decidable (Op.bytesLess a.name b.name=true))
theorem yS{a b:Df}:fW a b↔a.name<b.name:=by unfold fW;rw[bytesLess_eq,decide_eq_true_eq]
theorem yT{a b:Df}:¬fW a b↔b.name<=a.name:=by rw[yS,E6]
def dT(l:List Df):Prop:=l.Pairwise λa b=>¬fW b a
def kV(A B:List Df):List Df:=B.foldl iI A
theorem yU{a b c:Df}(d:fW a b)(e:¬fW c b):fW a c:=by
 rw[yS]at d|-;rw[yT]at e;exact D4 λf=>E6.2 (E0 e (E6.1 f)) d
theorem Fb{a b c:Df}(d:¬fW b a)(e:fW b c):fW a c:=by
 rw[yS]at e|-;rw[yT]at d;exact List.lt_of_le_of_lt d e
theorem yV{a b c:Df}(d:¬fW b a)(e:¬fW c b):¬fW c a:=by
 rw[yT]at d e|-;exact E0 d e
theorem Fc{α:Type}{p:α->Bool}{a b:List α}:∀(k:Nat),(∀i<k,a[i]? =b[i]?)->mR p a k=mR p b k
 |0,_=>rfl
 |k+1,h=>by
  have c:=h k (Nat.lt_succ_self k);have d:=Fc (p:=p) k λi e=>h i aE;simp only[mR,c,d]
theorem Iv{C A:List Df}{y:Df}(h:∀x∈A,fW y x):iI (C++A) y=iI C y++A:=by
 have c:∀k,k<=A.length->mR (λz=>Op.bytesLess y.name z.name) (C++A) (C.length+k)=mR (λz=>Op.bytesLess y.name z.name) C C.length:=by
  intro k;induction k with
  |zero=>intro _;exact Fc _ λi d=>A9 d
  |succ k ih=>
   intro e;have b:C.length+k<(C++A).length:=kD;rw[<-D8,AK b,ih aE];have:(C++A)[C.length+k]=A[k]:=by rw[D6 aE];simp
   rw[this];exact h _ (E1 aE)
 have a:=Dk (p:=λz:Df=>Op.bytesLess y.name z.name) (out:=C) C.length;unfold iI;rw[A0,c A.length (A8 _)];unfold iW;rw[List.take_append_of_le_length a,List.drop_append_of_le_length a];simp
theorem Do{C D:List Df}{y:Df}(h:∀c∈C,¬fW y c):iI (C++D) y=C++iI D y:=by
 have l:∀k,k<=D.length->mR (λz=>Op.bytesLess y.name z.name) (C++D) (C.length+k)=C.length+mR (λz=>Op.bytesLess y.name z.name) D k:=by
  intro k;induction k with
  |zero=>
   intro _;refine sU λi j b=>?_;have a:i<C.length:=aE;have:(C++D)[i]=C[i]:=List.getElem_append_left a;rw[this];have:=h _ (E1 a);unfold fW at this;simpa using this
  |succ k ih=>
   intro m;have g:C.length+k<(C++D).length:=kD;have e:(C++D)[C.length+k]=D[k]:=by rw[D6 aE];simp
   by_cases d:Op.bytesLess y.name D[k].name=true
   .rw[<-D8,AK g (by rw[e];exact d),ih aE,AK aE d]
   .rw[sU (k:=k+1) λi j b=>(by have f:i=k:=aE;subst f;simpa using d)];exact sU λi j b=>(by have f:i=C.length+k:=aE;subst f;rw[e];simpa using d)
 unfold iI;rw[A0,l D.length (A8 _)];unfold iW;rw[List.take_length_add_append,List.drop_length_add_append];simp
theorem YH{A B:List Df}{x:Df}:x∈kV A B↔x∈A\/x∈B:=by
 have:∀(B A:List Df),(B.foldl iI A).Perm (A++B):=λB=>by
  induction B with
  |nil=>intro A;rw[C2];exact List.Perm.refl _
  |cons y r ih=>
   intro A;rw[B2];refine(ih _).trans (((GY A y).append_right r).trans ?_);rw[E2];exact E3.symm
 unfold kV;rw[(this B A).mem_iff,E4]
theorem YI(A B:List Df):(kV A B).length=A.length+B.length:=by
 have:∀(B A:List Df),(B.foldl iI A).length=A.length+B.length:=λB=>by
  induction B with
  |nil=>intro A;rfl
  |cons y r ih=>intro A;rw[B2,ih,Kz,D0];omega
 exact this B A
theorem aAj{C A:List Df}:∀{B:List Df},(∀y∈B,∀x∈A,fW y x)->kV (C++A) B=kV C B++A:=by
 intro B;unfold kV;induction B generalizing C with
 |nil=>intro _;rfl
 |cons y r ih=>
  intro h;rw[B2,B2,Iv (h y (C9 ..)),ih λz a=>h z (C6 _ a)]
theorem aAk{C D:List Df}:∀{B:List Df},(∀y∈B,∀c∈C,¬fW y c)->kV (C++D) B=C++kV D B:=by
 intro B;unfold kV;induction B generalizing D with
 |nil=>intro _;rfl
 |cons y r ih=>
  intro h;rw[B2,B2,Do (h y (C9 ..)),ih λz a=>h z (C6 _ a)]
theorem GZ{d f a b:List Df}(h:∀y∈a,∀x∈f,fW y x)(i:∀y∈b,∀c∈d,¬fW y c)(j:∀y∈b,∀c∈a,¬fW y c):kV (d++f) (a++b)=kV d a++kV f b:=by
 have e:kV (d++f) (a++b)=kV (kV (d++f) a) b:=by unfold kV;rw[C3]
 rw[e,aAj h,aAk λy g c k=>(YH.1 k).elim (i y g c) (j y g c)]
theorem Fd(y:Df):iI [] y=[y]:=rfl
theorem Qe{C:List Df}:∀{B:List Df},dT B->(∀y∈B,∀c∈C,¬fW y c)->kV C B=C++B:=by
 intro B;unfold kV;induction B generalizing C with
 |nil=>intro _ _;simp
 |cons y r ih=>
  intro b h;have b:=C8.1 b;have e:iI C y=C++[y]:=by
   have:=Do (C:=C) (D:=[]) (h y (C9 ..));rw[C2,Fd]at this;exact this
  rw[B2,e,ih b.2 λz d c a=>?_]
  .simp
  .rcases E4.1 a with a|a
   .exact h z (C6 _ d) c a
   .simp at a;subst a;exact b.1 z d
theorem Iw{B:List Df}(h:dT B):kV [] B=B:=Qe h λ_ _ _ h=>by cases h
theorem Fe(A:List Df):kV A []=A:=rfl
theorem nY(l:List Df):dT (bV l):=(pS l).imp λh=>yT.2 h
theorem dT.take{l:List Df}(h:dT l)(k:Nat):dT (l.take k):=h.sublist (F4 _ _)
theorem dT.drop{l:List Df}(h:dT l)(k:Nat):dT (l.drop k):=h.sublist (F5 _ _)
theorem dT.at_{l:List Df}(h:dT l){i j:Nat}(b:i<=j)(c:j<l.length):¬fW l[j] (l[i]'aE):=by
 by_cases e:i=j
 .subst e;intro a;rw[yS]at a;exact G3 _ a
 .exact D5.1 h i j aE c aE
theorem YJ{x:Df}{B:List Df}{k:Nat}(h:dT B)(m:k<=B.length)(d:k=0\/∃m:k-1<B.length,fW B[k-1] x)(f:k=B.length\/∃m:k<B.length,¬fW B[k] x):kV [x] B=iW k x B:=by
 have e:kV ([]++[x]) (B.take k++B.drop k)=kV [] (B.take k)++kV [x] (B.drop k):=GZ (λy b z n=>by
  simp at n;subst n;obtain⟨j,a,rfl⟩:=A1 b;rw[B4];simp at a;rcases d with d|⟨l,d⟩
  .omega
  .exact Fb (h.at_ (i:=j) (j:=k-1) aE l) d) (λ_ _ _ h=>by cases h) λy b c g=>by
  obtain⟨j,a,rfl⟩:=A1 b;obtain⟨i,o,rfl⟩:=A1 g;simp at o a;rw[B4,B5];exact h.at_ aE aE
 rw[D3,A6]at e;rw[e,Iw (h.take k),Qe (h.drop k) λy b c g=>?_]
 .rfl
 .simp at g;subst g;obtain⟨j,a,rfl⟩:=A1 b;rw[B5];simp at a;rcases f with f|⟨l,f⟩
  .omega
  .exact yV f (h.at_ (i:=k) (j:=k+j) aE aE)
theorem VV{y:Df}{A:List Df}{k:Nat}(h:dT A)(e:k<=A.length)(a:k=0\/∃e:k-1<A.length,¬fW y A[k-1])(b:k=A.length\/∃e:k<A.length,fW y A[k]):kV A [y]=iW k y A:=by
 show iI A y=_
 conv=>lhs;rw[<-A6 k A]
 rw[Iv λx m=>?_]
 .have:=Do (C:=A.take k) (D:=[]) (y:=y) λc f=>by
   obtain⟨i,g,rfl⟩:=A1 f;rw[B4];simp at g;rcases a with a|⟨d,a⟩
   .omega
   .exact yV (h.at_ (i:=i) (j:=k-1) aE d) a
  rw[C2,Fd]at this;rw[this];unfold iW;simp
 .obtain⟨j,l,rfl⟩:=A1 m;rw[B5];simp at l;rcases b with b|⟨d,b⟩
  .omega
  .exact yU b (h.at_ (i:=k) (j:=k+j) aE aE)
theorem YK{A B:List Df}(l:dT A)(h:dT B){i j:Nat}(o:i<=A.length)(r:j<=B.length)(a:i=0\/j=B.length\/∃(a:i-1<A.length) (b:j<B.length),¬fW B[j] A[i-1])
 (b:j=0\/i=A.length\/∃(a:j-1<B.length) (b:i<A.length),fW B[j-1] A[i]):kV A B=kV (A.take i) (B.take j)++kV (A.drop i) (B.drop j):=by
 conv=>lhs;rw[<-A6 i A,<-A6 j B]
 refine GZ (λy f x n=>?_) (λy f c k=>?_) (λy f c k=>?_)
 .obtain⟨p,d,rfl⟩:=A1 f;obtain⟨q,e,rfl⟩:=A1 n;simp at d e;rw[B4,B5];rcases b with b|b|⟨g,m,b⟩
  .omega
  .omega
  .exact yU (Fb (h.at_ (i:=p) (j:=j-1) aE g) b) (l.at_ (i:=i) (j:=i+q) aE aE)
 .obtain⟨p,d,rfl⟩:=A1 f;obtain⟨q,e,rfl⟩:=A1 k;simp at d e;rw[B4,B5];rcases a with a|a|⟨g,m,a⟩
  .omega
  .omega
  .exact yV (yV (l.at_ (i:=q) (j:=i-1) aE g) a) (h.at_ (i:=j) (j:=j+p) aE aE)
 .obtain⟨p,d,rfl⟩:=A1 f;obtain⟨q,e,rfl⟩:=A1 k;simp at d e;rw[B4,B5];exact h.at_ aE aE
theorem oK{Z:List Df}(h:dT Z)(y:Df):iI Z y=Z.filter (λz=> !decide (fW y z))++y::Z.filter λz=>decide (fW y z):=by
 induction Z with
 |nil=>rfl
 |cons z r ih=>
  have h:=C8.1 h;by_cases d:fW y z
  .have a:∀x∈z::r,fW y x:=λx b=>by
    rcases F0.1 b with rfl|b
    .exact d
    .exact yU d (h.1 x b)
   have f:(z::r).filter (λz=> !decide (fW y z))=[]:=C1.2 λx b=>by simp[a x b]
   have g:(z::r).filter (λz=>decide (fW y z))=z::r:=E9.2 λx b=>by simp[a x b]
   have:=Iv (C:=[]) a;rw[D3,Fd]at this;rw[this,f,g];rfl
  .have:=Do (C:=[z]) (D:=r) (y:=y) λc e=>by simp at e;subst e;exact d
   rw[List.singleton_append]at this;rw[this,ih h.2];simp[d]
theorem KA{Z:List Df}(h:dT Z)(y:Df):Z.filter (λz=> !decide (fW y z))++Z.filter (λz=>decide (fW y z))=Z:=by
 induction Z with
 |nil=>rfl
 |cons z r ih=>
  have h:=C8.1 h;by_cases c:fW y z
  .have a:∀x∈z::r,fW y x:=λx b=>by
    rcases F0.1 b with rfl|b
    .exact c
    .exact yU c (h.1 x b)
   rw[C1.2 λx b=>by simp[a x b],E9.2 λx b=>by simp[a x b]];rfl
  .have d:(z::r).filter (λz=> !decide (fW y z))=z::r.filter (λz=> !decide (fW y z)):=(by simp[c]);have e:(z::r).filter (λz=>decide (fW y z))=r.filter (λz=>decide (fW y z)):=(by simp[c]);rw[d,e,E2,ih h.2]
theorem pT{Z:List Df}(h:dT Z)(y:Df):dT (iI Z y):=by
 have c:Z.Pairwise λa b=>a.name<=b.name:=h.imp λh=>yT.1 h;exact(CN c).imp λh=>yT.2 h
theorem Sr{Z:List Df}(h:dT Z){y c:Df}(d:fW y c):iI (iI Z y) c=iI (iI Z c) y:=by
 have f:¬fW c y:=λa=>by
  rw[yS]at d a;exact G3 _ (G7 d a)
 have e:∀z,fW c z->fW y z:=λz o=>by
  rw[yS]at*;exact G7 d o
 rw[oK (pT h y),oK (pT h c),oK h y,oK h c];simp only[List.filter_append,List.filter_cons,List.filter_filter,f,d,decide_true,decide_false,Bool.not_true,Bool.not_false,if_true,Bool.false_eq_true,if_false];have g:Z.filter (λz=> !decide (fW c z)&& !decide (fW y z))=Z.filter λz=> !decide (fW y z):=C4 λz _=>by by_cases b:fW c z<;>by_cases a:fW y z<;>simp[b,a];exact a (e z b)
 have i:Z.filter (λz=> !decide (fW y z)&& !decide (fW c z))=Z.filter λz=> !decide (fW y z):=C4 λz _=>by by_cases b:fW c z<;>by_cases a:fW y z<;>simp[b,a];exact a (e z b)
 have j:Z.filter (λz=>decide (fW c z)&& !decide (fW y z))=[]:=C1.2 λz _=>by by_cases b:fW c z<;>by_cases a:fW y z<;>simp[b,a];exact a (e z b)
 have k:Z.filter (λz=> !decide (fW y z)&&decide (fW c z))=[]:=C1.2 λz _=>by by_cases b:fW c z<;>by_cases a:fW y z<;>simp[b,a];exact a (e z b)
 have l:Z.filter (λz=>decide (fW c z)&&decide (fW y z))=Z.filter λz=>decide (fW c z):=C4 λz _=>by by_cases b:fW c z<;>by_cases a:fW y z<;>simp[b,a];exact a (e z b)
 have m:Z.filter (λz=>decide (fW y z)&&decide (fW c z))=Z.filter λz=>decide (fW c z):=C4 λz _=>by by_cases b:fW c z<;>by_cases a:fW y z<;>simp[b,a];exact a (e z b)
 have n:Z.filter (λz=>decide (fW y z)&& !decide (fW c z))=Z.filter λz=> !decide (fW c z)&&decide (fW y z):=C4 λz _=>by by_cases b:fW c z<;>by_cases a:fW y z<;>simp[b,a]
 simp[g,i,j,k,l,m,n]
theorem KB{X:List Df}(h:dT X):∀(C:List Df),dT (kV X C):=λC=>by
 unfold kV;induction C generalizing X with
 |nil=>exact h
 |cons y r ih=>exact ih (pT h y)
theorem KD{y:Df}:∀{G X:List Df},dT X->(∀c∈G,fW y c)->kV (iI X y) G=iI (kV X G) y
 |[],_,_,_=>rfl
 |c::r,X,h,hG=>by
  show kV (iI (iI X y) c) r=iI (kV (iI X c) r) y;rw[Sr h (hG c (C9 ..)),KD (pT h c) λz a=>hG z (C6 _ a)]
theorem VW{X C:List Df}(b:dT X)(a:dT C)(y:Df):kV X (iI C y)=iI (kV X C) y:=by
 have e:∀A B:List Df,kV X (A++B)=kV (kV X A) B:=λA B=>by unfold kV;rw[C3]
 rw[oK a y,e]
 conv=>rhs;rw[<-KA a y,e]
 exact KD (KB b _) λc d=>by have:=(List.mem_filter.1 d).2;simpa using this
theorem Ss{X:List Df}(a:dT X)(C:List Df):kV X (bV C)=kV X C:=by
 have:∀n,n<=C.length->kV X (bV (C.take n))=kV X (C.take n):=λn=>by
  induction n with
  |zero=>intro _;rfl
  |succ n ih=>
   intro b;rw[EZ aE,VW a (nY _),ih aE,B1 aE];unfold kV;rw[C3];rfl
 have h:=this C.length (A8 _);rw[F6]at h;exact h
theorem St(A B:List Df):kV (bV A) (bV B)=bV (A++B):=by
 rw[Ss (nY A)];unfold kV bV;rw[C3]
end Go.Eng
