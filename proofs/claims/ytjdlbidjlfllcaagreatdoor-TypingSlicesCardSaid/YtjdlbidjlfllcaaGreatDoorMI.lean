/- Part 9 of the proof. No condition. -/
import Derived.Test.YtjdlbidjlfllcaaGreatDoorMH
open Go.Proofs
open Go.Proofs.Tryz
set_option linter.unusedVariables false
set_option linter.unusedSimpArgs false
set_option maxRecDepth 20000
set_option maxHeartbeats 4000000
namespace Go.Eng
section
attribute[local simp] kQ.cond Nd.d_eq nd_t nd_dr nd_td ndsD aZ bP mE Int.add_assoc dD Cm Cn Co KN iY
theorem VU(l:List Int):List.take (if(48:Int)<(l.length:Int)then 48 else(l.length:Int)).toNat (l.map aI)=(l.take 48).map aI:=by
 rw[<-List.map_take];congr 1;split
 ·rfl
 ·rw[show((l.length:Int)).toNat=l.length from rfl,List.take_length,List.take_of_length_le aE]
theorem Yr{L:List Int}:(treeKinds.map aI)[(dQ L 0 10).toNat]?.getD default=aI (treeKinds.getD (dQ L 0 10).toNat 0):=by
 have h:=bU L 0 10 bC;have hk:(dQ L 0 10).toNat<treeKinds.length:=by show _<10;omega
 rw[List.getElem?_map,List.getElem?_eq_getElem hk];simp[List.getD_eq_getElem?_getD,hk]
theorem VV{L:List Int}:0<=treeKinds.getD (dQ L 0 10).toNat 0/\treeKinds.getD (dQ L 0 10).toNat 0<=6:=by
 have h:=bU L 0 10 bC;have key:∀n:Nat,n<10->0<=treeKinds.getD n 0/\treeKinds.getD n 0<=6:=bC;exact key _ aE
theorem EM(L:List Int)(i:Nat):i+2<=(placeM L i).2:=by unfold placeM;split<;>simp
theorem vY(L:List Int):∀(d i:Nat),i+1<=(valueM L d i).2:=λd=>by
 induction d with
 |zero=>
  intro i;obtain⟨r0,_,r2⟩:=gF L 0 i;have r2:=r2 rfl;by_cases h0:cY L 0 i=0\/cY L 0 i=1
  ·rw[jY h0];simp
  ·by_cases h1:cY L 0 i=2
   ·rw[jZ h1];simp
   ·by_cases h2:cY L 0 i=3\/cY L 0 i=4
    ·rw[fZ h2];have:=EM L (i+1);omega
    ·rw[iC aE];simp
 |succ e ih=>
  intro i;obtain⟨r0,_,_⟩:=gF L (e+1) i;by_cases h0:cY L (e+1) i=0\/cY L (e+1) i=1
  ·rw[jY h0];simp
  ·by_cases h1:cY L (e+1) i=2
   ·rw[jZ h1];simp
   ·by_cases h3:cY L (e+1) i=3\/cY L (e+1) i=4
    ·rw[fZ h3];have:=EM L (i+1);omega
    ·by_cases h4:cY L (e+1) i=5
     ·rw[iC h4];simp
     ·rw[sR aE];have a:=ih (i+1);have b:=ih (valueM L e (i+1)).2;simp only;omega
theorem Qe{L:List Int}{d i:Nat}{bl:Nat->Nd×Nat}(hb:0<d->∀j,j<=(bl j).2):i+1<=(oneB L d bl i).2:=by
 rw[gI rfl];have hk:=tU (L:=L) (d:=d) (i:=i) rfl;have pl:=EM L (i+1);have a1:=vY L 1 (i+1);have a2:=vY L 1 (i+2);have a3:=vY L 2 (i+1);have a4:=vY L 2 (i+2);have a5:=vY L 2 (placeM L (i+1)).2;unfold vX;simp only[Nat.add_assoc,Nat.reduceAdd]at*;split
 ·simp only;omega
 ·split
  ·simp only;omega
  ·split
   ·rename_i h;have hb:=hb (hk.2.2 h);have b1:=hb (valueM L 1 (i+1)).2;have b2:=hb ((bl (valueM L 1 (i+1)).2).2+1);split
    ·split<;>simp only<;>omega
    ·simp only;omega
   ·repeat(first|(simp only;omega)|split)
theorem Lf{L:List Int}{st:Nat->Nd×Nat}(h:∀j,j<=(st j).2):∀(m:Nat) (ks:List Nd) (j:Nat),j<=(somesM L st m ks j).2
 |0,ks,j=>Nat.le_refl _
 |m+1,ks,j=>by
  unfold somesM;split
  ·exact Nat.le_refl _
  ·have a:=Lf (L:=L) h m (ks++[(st j).1]) (st j).2;have b:=h j;omega
theorem VW(L:List Int):∀d i,i+1<=(oneM L d i).2
 |0,i=>by rw[oneM];exact Qe λh=>absurd h (Nat.lt_irrefl _)
 |d+1,i=>by
  rw[oneM];refine Qe λ_ j=>?_;have:=Lf (L:=L) (st:=oneM L d) (λj=>by have:=VW L d j;omega) (dQ L j 4).toNat [] (j+1);show j<=(somesM L (oneM L d) (dQ L j 4).toNat [] (j+1)).2;omega
theorem VX{L:List Int}{m:Nat}{ks:List Nd}{j:Nat}(h:L.length<=j):bodyM L m ks j=ks:=by
 cases m with
 |zero=>rfl
 |succ m=>unfold bodyM;rw[if_pos h]
theorem Ys{L:List Int}{m:Nat}{ks:List Nd}{j:Nat}(h0:0<m)(h:j<L.length):bodyM L m ks j=bodyM L (m-1) (ks++[(oneM L 2 j).1]) (oneM L 2 j).2:=by
 obtain⟨k,rfl⟩:∃k,m=k+1:=⟨m-1,aE⟩;rw[bodyM,if_neg aE];rfl
theorem rB(L:List Int):∀c,(itemsM L c).length=c
 |0=>rfl
 |c+1=>by rw[itemsM,List.length_append,rB L c];rfl
structure NdC where
 x:Nd
structure CtC where
 c:Nat
section
variable{L:List Int} {k:Int} {t:aW} (hk:treeKinds.getD (dQ L 0 10).toNat 0=k) (ht:callM L 1=t)
include hk ht
theorem VY(h:k=0):treeB L=.mk k t (dQ L 2 1999-999) []:=by subst hk ht;unfold treeB;simp only[];rw[if_pos h]
theorem Sy(h:k=2):treeB L=.mk k t (dQ L 2 4) []:=by subst hk ht;unfold treeB;simp only[];rw[if_neg aE,if_pos h]
theorem VZ(h:k=1):treeB L=.mk k t 0 (itemsM L (dQ L 2 4).toNat):=by subst hk ht;unfold treeB;simp only[];rw[if_neg aE,if_neg aE,if_pos h]
theorem Sz(h:k=5\/k=6):treeB L=.mk k t 0 [.mk 8 [] 0 (bodyM L L.length [] 2)]:=by subst hk ht;unfold treeB;simp only[];rw[if_neg aE,if_neg aE,if_neg aE,if_pos h]
theorem SA(h0:¬k=0)(h1:¬k=2)(h2:¬k=1)(h3:¬(k=5\/k=6)):treeB L=.mk k t 0 []:=by subst hk ht;unfold treeB;simp only[];rw[if_neg h0,if_neg h1,if_neg h2,if_neg h3]
end
theorem We(l:List Int)(hl:Lc l):Ok prog 59 [.sl (l.map aI)] ⟨.d (treeS l).d,false⟩:=by
 refine Ok.cell hT func59 bY (c:=_) rfl ntmps59 aM results59 (by intro _ h;cases h) λw0 X hp=>?_;obtain⟨L,hLl⟩:∃L,L=l.take 48:=⟨_,rfl⟩;have hL:Lc L:=λn hn=>hl n (by rw[hLl]at hn;exact List.mem_of_mem_take hn);have hll:L.length<=48:=by rw[hLl,List.length_take];omega
 have htr:treeS l=treeB L:=by rw[hLl];rfl
 apply aD;simp;apply aD;simp[VU,<-hLl];refine⟨by split<;>omega,?_⟩;apply aG;have ha:=fD L 0 10 hL aE bC;have hr:=bU L 0 10 bC;have hc:=jM L 1 hL aE;have hka:=Yr (L:=L);have hkr:=VV (L:=L);simp[treeKinds]at hka;obtain⟨k,hk⟩:∃k,treeKinds.getD (dQ L 0 10).toNat 0=k:=⟨_,rfl⟩;obtain⟨t,ht⟩:∃t,callM L 1=t:=⟨_,rfl⟩;refine eW.rd [[4,15],[4,16],[4,16],[4,15],[4,15],[4,15,16],[4,16],[4],[15,16]] [[16],[],[15],[],[],[],[15],[],[4],[4]] (λ|18=>some (.gen ⟨[(15,0)],[],[],iY L 1,.d (aI (dQ L 0 10))⟩)|22=>some (.gen ⟨[(15,0)],[],[],iY L 2,.d (.str t)⟩)|_=>none) ?_;simp[hka];rw[hk]at hkr;rw[ht]at hc;refine⟨⟨⟨⟨⟨bC,by simpa using ha⟩,aE⟩,aE⟩,by simpa using hc⟩,?_⟩;have hk':[5,6,5,6,5,0,1,2,3,4][(dQ L 0 10).toNat]?.getD 0=k:=by rw[<-hk];simp[treeKinds]
 simp only[hk'];refine aY (ι:=NdC) (λ⟨x⟩=>aR [(2,.bx 2 0),(4,.bx 4 0)]) (λ⟨x⟩=>aL [(2,.box false [.d (aI 0),.d (.str []),.d (aI 0),.nl]),(4,.box false [.d (aI x.kind),.d (.str x.text),.d (aI x.n),.d (ndsD x.kids)])]) (λ⟨x⟩=>treeB L=x) ?_ λ⟨x⟩ hc21=>?_
 ·apply aD;simp;apply aO;apply aV;simp;refine⟨λh4=>?_,λh4=>?_⟩
  ·have h5a:=fD L 2 1999 hL aE bC;have h5r:=bU L 2 1999 bC;refine aP (λ|29=>some (.gen ⟨[(15,0)],[],[],iY L 3,.d (aI (dQ L 2 1999))⟩)|_=>none) ?_;simp;refine⟨⟨by simpa using h5a,aE⟩,?_⟩;refine gZ (bN 4 [] (fz:=false) (cs:=[.d (aI k),.d (.str t),.d (aI (dQ L 2 1999-999)),.nl]) (ds:=[aI k,.str t,aI (dQ L 2 1999-999),.sl []]) aM aM aM (by simp[bB.mut])) ?_;simp;refine XG.mk ⟨.mk k t (dQ L 2 1999-999) []⟩ (aA hp [2,4] [(2,2),(4,4)]) ?_;exact VY hk ht h4
  ·apply aV;simp;refine⟨λh6=>?_,λh6=>?_⟩
   ·have h5a:=fD L 2 4 hL aE bC;refine aP (λ|35=>some (.gen ⟨[(15,0)],[],[],iY L 3,.d (aI (dQ L 2 4))⟩)|_=>none) ?_;simp;refine⟨by simpa using h5a,?_⟩;refine gZ (bN 4 [] (fz:=false) (cs:=[.d (aI k),.d (.str t),.d (aI (dQ L 2 4)),.nl]) (ds:=[aI k,.str t,aI (dQ L 2 4),.sl []]) aM aM aM (by simp[bB.mut])) ?_;simp;refine XG.mk ⟨.mk k t (dQ L 2 4) []⟩ (aA hp [2,4] [(2,2),(4,4)]) ?_;exact Sy hk ht h6
   ·apply aV;simp;refine⟨λh8=>?_,λh8=>?_⟩
    ·apply aG;have h5a:=fD L 2 4 hL aE bC;have h5r:=bU L 2 4 bC;obtain⟨m,hm9⟩:∃m:Nat,(dQ L 2 4).toNat=m:=⟨_,rfl⟩;have hm9i:dQ L 2 4=(m:Int):=aE;refine aP (λ|40=>some (.gen ⟨[(15,0)],[],[],iY L 3,.d (aI (m:Nat))⟩)|_=>none) ?_;simp;refine⟨by simpa [hm9i]using h5a,?_⟩;refine hZ (fz:=false) (cs:=[.d (aI k),.d (.str t),.d (aI 0),.nl]) 4 3 1056 4 bC ⟨aM,aM,aM,?_⟩;simp;apply aD;simp;apply aO;refine aU (ι:=CtC) (λ⟨c⟩=>aR [(2,.bx 2 0),(3,.bx 15 0),(4,.bx 4 0),(5,.d (aI (m:Nat))),(6,.d (aI (c:Nat)))]) (λ⟨c⟩=>aL [(2,.box false [.d (aI 0),.d (.str []),.d (aI 0),.nl]),(4,.box false [.d (aI k),.d (.str t),.d (aI 0),.ow 1056 0 c]),(15,.box false [.d (.sl (L.map aI)),.d (aI ((3+2*c:Nat):Int))]),(1056,.row false 4 ((itemsM L c).map Nd.d))]) (λ⟨c⟩=>c<=m) (λ⟨c⟩=>m-c) ⟨0⟩ (aA hp [2,3,4,5,6] [(2,2),(4,4),(15,15),(1056,1056)] (hH:=by simp[itemsM])) (Nat.zero_le _) λ⟨c⟩ hi11=>?_;apply aG;apply aV;simp;refine⟨λh11=>?_,λh11=>?_⟩
     ·apply aF;simp;apply dH;apply aG;have h13c:=jM L (3+2*c) hL aE;refine aP (λ|47=>some (.gen ⟨[(15,0)],[],[],iY L (3+2*c+1),.d (.str (callM L (3+2*c)))⟩)|_=>none) ?_;simp;refine⟨by simpa using h13c,?_⟩;have h14c:=fD L (4+2*c) 1999 hL aE bC;have h14r:=bU L (4+2*(c:Int)) 1999 bC;have hcm:c<=m:=hi11;have e14:(3:Int)+(2*(c:Int)+1)=4+2*c:=aE;have e15:(4:Int)+(2*(c:Int)+1)=3+(2*c+2):=aE;have hic:=rB L c;refine eW.rd [[15,55],[15,55],[15]] [[],[],[],[],[15],[],[],[55],[56,1056],[],[4]] (λ|52=>some (.gen ⟨[(15,0)],[],[],iY L (4+2*c+1),.d (aI (dQ L ((4+2*c:Nat):Int) 1999))⟩)|_=>none) ?_;simp[e14];refine⟨⟨⟨by simpa using h14c,aE,aE⟩,aE,aE⟩,?_⟩;have hcm2:c<=m:=hi11;apply aK;simp;refine⟨aE,?_⟩;refine Pq.mk ⟨c+1⟩ (aA hp [2,3,4,5,6] [(2,2),(4,4),(15,15),(56,1056)] (hH:=by simp[itemsM,Int.mul_add,rB,List.take_of_length_le,e15])) ?_ ?_
      ·show c+1<=m;omega
      ·show m-(c+1)<m-c;omega
     ·apply bE;simp;refine gZ (bN 4 [1056] (fz:=false) (cs:=[.d (aI k),.d (.str t),.d (aI 0),.ow 1056 0 c]) (ds:=[aI k,.str t,aI 0,.sl ((itemsM L c).map Nd.d)]) aM aM (by simp[rB,List.take_of_length_le]) (by simp[bB.mut])) ?_;simp;refine XG.mk ⟨.mk k t 0 (itemsM L c)⟩ (aA hp [2,4] [(2,2),(4,4)]) ?_;rw[VZ hk ht h8,hm9];have e11:c=m:=by have:=(show c<=m from hi11);omega
      rw[e11]
    ·refine aY (ι:=BC) (λ⟨b⟩=>aR [(2,.bx 2 0),(3,.bx 15 0),(4,.bx 4 0),(25,.d (aI (k))),(58,.d (.bool b))]) (λ⟨b⟩=>aL [(2,.box false [.d (aI 0),.d (.str []),.d (aI 0),.nl]),(4,.box false [.d (aI k),.d (.str t),.d (aI 0),.nl]),(15,.box false [.d (.sl (L.map aI)),.d (aI 2)])]) (λ⟨b⟩=>b=true↔(k=5\/k=6)) ?_ λ⟨b⟩ hc17=>?_
     ·apply aV;simp;refine⟨λh15=>?_,λh15=>?_⟩
      ·apply aF;simp;refine XG.mk ⟨decide (k=5)⟩ (aA hp [2,3,4,25,58] [(2,2),(4,4),(15,15)]) ?_;simp[h15]
      ·apply aK;simp;refine XG.mk ⟨decide (k=6)⟩ (aA hp [2,3,4,25,58] [(2,2),(4,4),(15,15)]) ?_;simp only[decide_eq_true_eq];omega
     ·apply aJ;simp;refine⟨λh17=>?_,λh17=>?_⟩
      ·have q17:=hc17.1 h17;apply aD;simp;refine hZ (fz:=false) (cs:=[.d (aI 8),.d (.str []),.d (aI 0),.nl]) 8 3 1077 4 bC ⟨aM,aM,aM,?_⟩;simp;apply dH;refine aU (ι:=SmS) (λ⟨m,ks,j⟩=>aR [(2,.bx 2 0),(3,.bx 15 0),(4,.bx 4 0),(8,.bx 8 0)]) (λ⟨m,ks,j⟩=>aL [(2,.box false [.d (aI 0),.d (.str []),.d (aI 0),.nl]),(4,.box false [.d (aI k),.d (.str t),.d (aI 0),.nl]),(8,.box false [.d (aI 8),.d (.str []),.d (aI 0),.ow 1077 0 ks.length]),(15,.box false [.d (.sl (L.map aI)),.d (aI (j:Nat))]),(1077,.row false 4 (ks.map Nd.d))]) (λ⟨m,ks,j⟩=>j<=3000/\L.length<=m+j/\ks.length<=j/\bodyM L L.length [] 2=bodyM L m ks j) (λ⟨m,ks,j⟩=>L.length-j) ⟨L.length,[],2⟩ (aA hp [2,3,4,8] [(2,2),(4,4),(8,8),(15,15),(1077,1077)]) (⟨aE,aE,aM,rfl⟩) λ⟨m,ks,j⟩ hi18=>?_;apply eA;refine eW.rd [] [] (λ_=>none) ?_;simp;apply aJ;simp;refine⟨λh18=>?_,λh18=>?_⟩
       ·apply aF;simp;apply aO;have h19:=Qd L hL aE 2 aE 5000 aE j aE;have hup:=VW L 2 j;have hto:=IF L 2 j;have hto2:=Le (d:=2) aE;have hkl:=hi18.2.2.1;refine eW.rd [[15,76],[15,76]] [[],[],[],[15],[76],[77,1077],[],[8]] (λ|75=>some (.gen ⟨[(15,0)],[],[],iY L (oneM L 2 j).2,.d (oneM L 2 j).1.d⟩)|_=>none) ?_;simp;refine⟨by(repeat' with_reducible apply And.intro)<;>first|omega|(simpa using h19),?_⟩;refine Pq.mk ⟨m-1,ks++[(oneM L 2 j).1],(oneM L 2 j).2⟩ (aA hp [2,3,4,8] [(2,2),(4,4),(8,8),(15,15),(77,1077)]) ?_ ?_
        ·refine⟨(show(oneM L 2 j).2<=3000 by omega),(show L.length<=m-1+(oneM L 2 j).2 by omega),(by rw[List.length_append,List.length_singleton];show ks.length+1<=(oneM L 2 j).2;omega),?_⟩;rw[hi18.2.2.2,Ys aE aE]
        ·show L.length-(oneM L 2 j).2<L.length-j;omega
       ·apply bE;simp;apply aK;simp;refine gZ (bN 4 [80] (fz:=false) (cs:=[.d (aI k),.d (.str t),.d (aI 0),.ow 80 0 1]) (ds:=[aI k,.str t,aI 0,.sl [(Nd.mk 8 [] 0 ks).d]]) aM aM aM (by simp[bB.mut])) ?_;simp;refine XG.mk ⟨.mk k t 0 [.mk 8 [] 0 ks]⟩ (aA hp [2,4] [(2,2),(4,4)]) ?_;rw[Sz hk ht q17,hi18.2.2.2,VX aE]
      ·have q17:¬(k=5\/k=6):=λq=>by simp[hc17.2 q]at h17
       apply aF;simp;refine gZ (bN 4 [] (fz:=false) (cs:=[.d (aI k),.d (.str t),.d (aI 0),.nl]) (ds:=[aI k,.str t,aI 0,.sl []]) aM aM aM (by simp[bB.mut])) ?_;simp;refine XG.mk ⟨.mk k t 0 []⟩ (aA hp [2,4] [(2,2),(4,4)]) ?_;exact SA hk ht h4 h6 h8 q17
 ·apply aD;simp;apply aH;have e:treeS l=x:=htr.trans hc21;simp[e]
end
section
attribute[local simp] kQ.cond Nd.d_eq nd_t nd_dr nd_td ndsD aZ mE dD Cm Cn Co KN
def AD(n:Int):Prop:= -9223372036854775808<=n/\n<=9223372036854775807
theorem IG{a:Int}{m:Nat}(h:AD a):AD (a.tdiv ((m:Int)+1)):=by
 unfold AD at*;have h1:(a.tdiv ((m:Int)+1)).natAbs<=a.natAbs:=by rw[Int.natAbs_tdiv];exact Nat.div_le_self _ _
 by_cases h0:0<=a
 ·have:=Int.tdiv_nonneg h0 (show(0:Int)<=(m:Int)+1 by omega);omega
 ·have h2:a.tdiv ((m:Int)+1)<=0:=by
   obtain⟨b,rfl⟩:∃b,a= -b:=⟨-a,aE⟩;rw[Int.neg_tdiv];have:=Int.tdiv_nonneg (show(0:Int)<=b by omega) (show(0:Int)<=(m:Int)+1 by omega);omega
  omega
end
theorem Da(L:List Int)(i:Nat):(ownM L i).length<=16:=by
 unfold ownM;have:∀k:Nat,(ownL.getD k []).length<=16:=λk=>by
  rw[List.getD_eq_getElem?_getD];cases e:ownL[k]? with
  |none=>simp
  |some w=>
   have:=List.mem_of_getElem? e;exact(by decide:∀w∈ownL,w.length<=16) w this
 exact this _
theorem jO(k:Int)(t:aW)(n:Int):weighN (.mk k t n [])=t.length+1:=by simp[weighN,weighL]
theorem vZ(L:List Int)(i:Nat):weighN (placeM L i).1<=34:=by
 have h1:=nI L (i+1);have h2:=nI L (i+2);unfold placeM;split<;>simp only[jO,List.length_append,List.length_cons]<;>omega
theorem Cr(L:List Int):∀(d i:Nat),weighN (valueM L d i).1+1<=35*2^d:=λd=>by
 induction d with
 |zero=>
  intro i;obtain⟨r0,_,r2⟩:=gF L 0 i;have r2:=r2 rfl;have ho:=Da L (i+1);have hp:=vZ L (i+1);by_cases h0:cY L 0 i=0\/cY L 0 i=1
  ·rw[jY h0];simp[jO]
  ·by_cases h1:cY L 0 i=2
   ·rw[jZ h1];simp only[jO];omega
   ·by_cases h2:cY L 0 i=3\/cY L 0 i=4
    ·rw[fZ h2];omega
    ·rw[iC aE];simp[jO]
 |succ e ih=>
  intro i;have hp1:1<=2^e:=Nat.one_le_two_pow;have h2:2^(e+1)=2*2^e:=by rw[Nat.pow_succ,Nat.mul_comm]
  have ho:=Da L (i+1);have hp:=vZ L (i+1);obtain⟨r0,_,_⟩:=gF L (e+1) i;by_cases h0:cY L (e+1) i=0\/cY L (e+1) i=1
  ·rw[jY h0];simp only[jO,List.length_nil];omega
  ·by_cases h1:cY L (e+1) i=2
   ·rw[jZ h1];simp only[jO];omega
   ·by_cases h3:cY L (e+1) i=3\/cY L (e+1) i=4
    ·rw[fZ h3];omega
    ·by_cases h4:cY L (e+1) i=5
     ·rw[iC h4];simp only[jO,List.length_nil];omega
     ·rw[sR aE];have a:=ih (i+1);have b:=ih (valueM L e (i+1)).2;simp only[weighN,weighL,List.length_nil];omega
theorem EN{L:List Int}{d i C:Nat}{bl:Nat->Nd×Nat}(hb:∀j,weighN (bl j).1<=C):weighN (oneB L d bl i).1<=200+2*C:=by
 rw[gI rfl];have v1:=λj=>Cr L 1 j;have v2:=λj=>Cr L 2 j;have pl:=vZ L (i+1);have cl:=nI L (i+1);have ol:=Da L (i+1);have ol2:=Da L (i+1+1);unfold vX;have a1:=v1 (i+1);have a2:=v1 (i+1+1);have a3:=v2 (i+1);have a4:=v2 (i+1+1);have a5:=v2 (placeM L (i+1)).2;have b1:=hb (valueM L 1 (i+1)).2;have b2:=hb ((bl (valueM L 1 (i+1)).2).2+1);simp only[Nat.reducePow,Nat.reduceMul]at*;repeat(first|(simp only[weighN,weighL,List.length_nil];omega)|split)
theorem Cs{L:List Int}{st:Nat->Nd×Nat}{C:Nat}(h:∀j,weighN (st j).1<=C):∀(m:Nat) (ks:List Nd) (j:Nat),weighL (somesM L st m ks j).1<=weighL ks+m*C
 |0,ks,j=>by simp[somesM]
 |m+1,ks,j=>by
  unfold somesM;split
  ·simp
  ·have a:=Cs (L:=L) h m (ks++[(st j).1]) (st j).2;have b:=h j;rw[weighL_append]at a;simp only[weighL]at a;rw[Nat.succ_mul];omega
theorem Oj{L:List Int}{st:Nat->Nd×Nat}{C:Nat}(h:∀j,weighN (st j).1<=C)(i:Nat):weighN (someM L st i).1<=1+3*C:=by
 have hr:=bU L i 4 bC;have a:=Cs (L:=L) h (dQ L i 4).toNat [] (i+1);have b:(dQ L i 4).toNat*C<=3*C:=Nat.mul_le_mul_right C aE;show weighN (.mk 8 [] 0 (somesM L st (dQ L i 4).toNat [] (i+1)).1)<=_;simp only[weighN,weighL,List.length_nil]at*;omega
def EO:Nat->Nat
 |0=>204
 |d+1=>200+2*(1+3*EO d)
theorem Hf(L:List Int):∀d i,weighN (oneM L d i).1<=EO d
 |0,i=>by
  rw[oneM];exact EN (C:=2) λj=>by show weighN default<=2;decide
 |d+1,i=>by
  rw[oneM];exact EN (C:=1+3*EO d) λj=>Oj (Hf L d) j
theorem EP(L:List Int):∀(m:Nat) (ks:List Nd) (j:Nat),weighL (bodyM L m ks j)<=weighL ks+m*EO 2
 |0,ks,j=>by simp[bodyM]
 |m+1,ks,j=>by
  unfold bodyM;split
  ·simp
  ·have a:=EP L m (ks++[(oneM L 2 j).1]) (oneM L 2 j).2;have b:=Hf L 2 j;rw[weighL_append]at a;simp only[weighL]at a;rw[Nat.succ_mul];omega
theorem Ct(L:List Int):∀c,weighL (itemsM L c)<=17*c
 |0=>Nat.le_refl _
 |c+1=>by
  have a:=Ct L c;have b:=nI L (3+2*c);rw[itemsM,weighL_append];simp only[weighL,jO];omega
theorem EQ(l:List Int):weighN (treeS l)<=1000000:=by
 have hl:(l.take 48).length<=48:=by rw[List.length_take];omega
 have cl:=nI (l.take 48) 1;have r4:=bU (l.take 48) 2 4 bC;have bw:=EP (l.take 48) (l.take 48).length [] 2;have b2:(l.take 48).length*EO 2<=48*EO 2:=Nat.mul_le_mul_right _ hl;have b3:EO 2=8758:=rfl;have iw:=Ct (l.take 48) (dQ (l.take 48) 2 4).toNat;unfold treeS treeB;simp only[];simp only[weighL]at bw;repeat(first|(simp only[weighN,weighL,List.length_nil];omega)|split)
set_option maxRecDepth 10000
section
attribute[local simp] kQ.cond Nd.d_eq nd_t nd_dr nd_td ndsD aZ bP mQ dN dD
theorem ER{s:aW}{R:Nd×PS}(hR:defP false ⟨(scanS s).1,0⟩=R)(hl:s.length<=1024){x:Tk}{r:List Tk}(h:R.2.l=x::r):parseS s=(zeroNd,x.at_,if R.2.e≠0 then R.2.e else 2):=by
 unfold parseS;rw[if_neg aE];simp only[];rw[hR,h]
theorem Lg{s:aW}{R:Nd×PS}(hR:defP false ⟨(scanS s).1,0⟩=R)(hl:s.length<=1024)(h:R.2.l=[])(h2:¬R.2.e=0\/(scanS s).2<s.length):parseS s=(zeroNd,(scanS s).2,2):=by
 unfold parseS;rw[if_neg aE];simp only[];rw[hR,h];simp only[];rw[if_pos h2]
theorem Hg{s:aW}{R:Nd×PS}(hR:defP false ⟨(scanS s).1,0⟩=R)(hl:s.length<=1024)(h:R.2.l=[])(h2:¬(¬R.2.e=0\/(scanS s).2<s.length)):parseS s=if validB R.1 then(R.1,0,0)else(zeroNd,0,4):=by
 unfold parseS;rw[if_neg aE];simp only[];rw[hR,h];simp only[];rw[if_neg h2]
theorem Ol(s:aW)(R:Nd×PS)(hR:defP false ⟨(scanS s).1,0⟩=R)(hD:s.length<=1024->iG prog 73 [.bx 0 0] (dN ⟨(scanS s).1,0⟩) (dN R.2) (.d R.1.d))(hw:s.length<=1024->weighN R.1<=1000000000):Ok prog 44 [.str s] ⟨.tup [.d (parseS s).1.d,.d (aI (parseS s).2.1),.d (aI (parseS s).2.2)],false⟩:=by
 refine wY hT func44 bY (c:=_) rfl ntmps44 aM results44 aM (by rfl) λw0 X hp=>?_;apply aD;simp;apply aG;apply aV;simp;refine⟨λh1=>?_,λh1=>?_⟩
 ·apply aD;simp;apply aH;have e:parseS s=(zeroNd,1024,4):=by unfold parseS;rw[if_pos aE]
  simp[e,zeroNd]
 ·apply aF;simp;apply aG;have hs:=XV s aE;refine aP (λ|15=>some<| .plain ⟨.tup [.d (.sl ((scanS s).1.map Tk.d)),.d (aI (scanS s).2)],true⟩|_=>none) ?_;simp[bD];refine⟨hs,?_⟩;apply aD;simp;apply aG;have hd:=hD aE;refine aP (λ|22=>some (.gen ⟨[(20,0)],[],[],dN R.2,.d R.1.d⟩)|_=>none) ?_;simp;refine⟨by simpa using hd,?_⟩;apply dH;apply aV;simp;refine⟨λg1 g2=>?_,λg=>?_⟩
  ·apply aG;obtain⟨x,r,hxr⟩:=List.exists_cons_of_length_pos g2;have hx2:(aQ x.d).length=2:=rfl;refine eW.rd [[],[2],[2],[2],[2],[2],[2],[2],[2],[2],[2],[2]] [[],[],[],[],[],[],[],[],[],[],[],[],[2]] (λ_=>none) ?_;simp[hxr,Tk.d];apply aH;have e:=ER hR aE hxr;simp[e,zeroNd,g1]
  ·apply aV;simp;refine⟨λh8=>?_,λh8=>?_⟩
   ·apply aG;obtain⟨x,r,hxr⟩:=List.exists_cons_of_length_pos h8;refine eW.rd [[],[2],[2],[2],[2],[2],[2],[2]] [[],[],[],[],[],[],[],[],[2]] (λ_=>none) ?_;simp[hxr,Tk.d];apply aH;have e:=ER hR aE hxr;have g9:R.2.e=0:=Classical.byContradiction λq=>by have:=g q;rw[this]at hxr;cases hxr
    simp[e,zeroNd,g9]
   ·apply aV;simp;refine⟨λh10=>?_,λh10 h11=>?_⟩
    ·apply aD;simp;apply aH;have e:=Lg hR aE h8 h10;simp[e,zeroNd]
    ·apply aG;have hv:=Kp R.1 (hw aE);refine aP (λ|80=>some<| .plain ⟨.d (.bool (validB R.1)),true⟩|_=>none) ?_;simp;refine⟨by simpa using hv,?_⟩;apply aJ;simp;refine⟨λh12=>?_,λh12=>?_⟩
     ·apply aD;simp;apply aH;have e:=Hg hR aE h8 aE;simp[e,h12,zeroNd]
     ·apply aF;simp;apply aD;simp;apply aH;have e:=Hg hR aE h8 aE;simp[e,h12]
end
theorem ES(s:aW):Ok prog 44 [.str s] ⟨.tup [.d (parseS s).1.d,.d (aI (parseS s).2.1),.d (aI (parseS s).2.2)],false⟩:=
 Ol s _ rfl (λhl=>aAb ⟨(scanS s).1,0⟩ (iA _ _ _) (by have:=lX s.length s 0;show(scanF s.length s 0).1.length<=1000000;omega)) λhl=>vW hl
section
set_option maxRecDepth 10000
set_option maxHeartbeats 4000000
attribute[local simp] kQ.cond Nd.d_eq nd_t nd_dr nd_td ndsD aZ mE dD Cm Cn Co KN
end
section
attribute[local simp] kQ.cond Nd.d_eq nd_t nd_dr nd_td ndsD aZ
def aAW(w:aW):Nat->aW
 |0=>[]
 |n+1=>aAW w n++w
theorem iJ(s:aW):weighN (parseS s).1<=1000000000:=by
 by_cases h:1024<s.length
 ·unfold parseS;rw[if_pos h];decide
 ·obtain⟨R,hR⟩:∃R,defP false ⟨(scanS s).1,0⟩=R:=⟨_,rfl⟩;have hw:=vW (s:=s) aE;rw[hR]at hw;unfold parseS;rw[if_neg h];simp only[];rw[hR];have z:weighN zeroNd<=1000000000:=bC;split
  ·exact z
  ·split
   ·exact z
   ·split
    ·exact hw
    ·exact z
theorem aAf(w:aW):aAW w 0=[]:=rfl
attribute[local simp] aAf
theorem Lh(s:aW)(n:Nat)(hl:s.length<=9223372036854775807):Ok prog 17 [.str s,aI n] ⟨.d (.str (s.take n)),true⟩:=by
 refine Ok.ret func17 bY (c:=_) rfl ntmps17 aM results17 (by intro _ h;cases h) λw0 X hp=>?_;apply aD;simp;apply aG;apply aV;simp;refine⟨λh1=>?_,λh1=>?_⟩
 ·apply aD;simp;refine⟨aE,?_⟩;apply aH;simp
 ·apply aF;simp;apply aD;simp;apply aH;simp;exact(List.take_of_length_le aE).symm
end
section
attribute[local simp] kQ.cond Nd.d_eq nd_t nd_dr nd_td ndsD aZ bF
def IH(ts:List Nd)(d:Df):Int:=
 if(parseS d.text).2.2≠0 then(parseS d.text).2.2
 else if(parseS d.text).1.text≠d.name then 11
 else if(oH ts d.name).isSome=true\/(eM (dS (bL (parseS d.text).1))).length<(bL (parseS d.text).1).length then 7 else 0
def Db(ts:List Nd):List Df->List Nd×Int×Int
 |[]=>(ts,((ts.length:Nat):Int),0)
 |d::r=>if IH ts d=0 then Db (ts++[(parseS d.text).1]) r else(ts,((ts.length:Nat):Int),IH ts d)
def dK(l:List Df):List Nd×Int×Int:=if 24<l.length then([],0,4)else Db [] l
theorem SB(n:Nat):oV (n+1)=oV n++[aI (n:Int)]:=by unfold oV;rw[List.range_succ,List.map_append];rfl
theorem aAg{H:dM}{id:Nat}{ts:List Nd}{n i:Nat}{name:aW}(hm:oH ts name=none)(hi:n=i)(h:H id=.map false (oJ ts) (oV n)):
 cF T H 52 (.mp id) (.d (.str name)) (.d (aI (i:Int)))=⟨.junk,True,[(id,.map false (oJ ts++[.str name]) (oV (n+1)))]⟩:=by
 subst hi;unfold cF;simp only[t52,h,sK,hm,SB];simp[rO,bZ,gJ]
theorem Yt{H:dM}{ts:List Nd}{id n:Nat}(hn:n=ts.length){name:aW}(h:H id=.map false (oJ ts) (oV n)):cR T H 52 (.mp id) (.d (.str name)) true=⟨.tup [.d (aI (Xj ts name)),.d (.bool (oH ts name).isSome)],True,[]⟩:=by
 subst hn;unfold Xj;cases q:oH ts name with
 |none=>simp[cR,rP,h,sK,q]
 |some j=>
  have:=PM (vS q);simp[cR,rP,h,sK,q,this]
theorem AE(s:aW):(bL (parseS s).1).length<=1000000000:=by
 have h1:=vR (parseS s).1.kids;have h2:=weighN_eq (parseS s).1;have h3:=weigh_len (l:=(parseS s).1.kids);have h4:=iJ s;show(gH (parseS s).1.kids).length<=_;omega
theorem Yu{l:List Df}{i:Nat}(h:i<l.length):l.drop i=l[i]::l.drop (i+1):=List.drop_eq_getElem_cons h
theorem tV{ts:List Nd}{d:Df}{r:List Df}(h:IH ts d≠0):Db ts (d::r)=(ts,((ts.length:Nat):Int),IH ts d):=by rw[Db,if_neg h]
theorem II{ts:List Nd}{d:Df}{r:List Df}(h:IH ts d=0):Db ts (d::r)=Db (ts++[(parseS d.text).1]) r:=by rw[Db,if_pos h]
theorem SC(ts:List Nd)(t:Nd):oJ (ts++[t])=oJ ts++[.str t.text]:=by unfold oJ;simp
theorem Yv(l:List Df):Ok prog 61 [eO l] ⟨.tup [.d (yV (dK l).1),.d (aI (dK l).2.1),.d (aI (dK l).2.2)],false⟩:=by
 refine wY hT func61 bY (c:=_) rfl ntmps61 aM results61 aM (by rfl) λw0 X hp=>?_;apply aD;simp;apply aD;simp;refine hZ (fz:=false) (cs:=[.nl,.mp 14]) 5 0 1078 4 bC ⟨aM,aM,aM,?_⟩;simp;apply aG;apply aV;simp;refine⟨λh2=>?_,λh2=>?_⟩
 ·apply aD;simp;apply aH;simp[dK,yV,oJ,oV,show 24<l.length by omega]
 ·apply aF;simp;apply dT;simp;apply aO;refine aU (ι:=Nat×List Nd) (λ⟨i,ts⟩=>aR [(0,.d (eO l)),(2,.bx 2 0),(5,.bx 5 0),(20,.d (eO l)),(21,.d (aI (l.length:Nat))),(22,.d (aI (i:Nat)))]) (λ⟨i,ts⟩=>aL [(2,.box false [.nl,.d (.val (.map none))]),(5,.box false [.ow 1078 0 ts.length,.mp 14]),(14,.map false (oJ ts) (oV ts.length)),(1078,.row false 4 (ts.map Nd.d))]) (λ⟨i,ts⟩=>i<=l.length/\ts.length=i/\dK l=Db ts (l.drop i)) (λ⟨i,ts⟩=>l.length-i) (0,[]) (aA hp [0,2,5,20,21,22] [(2,2),(5,5),(14,14),(1078,1078)] (hH:=by simp[oJ,oV])) (⟨Nat.zero_le _,rfl,by unfold dK;rw[if_neg aE];rfl⟩) λ⟨i,ts⟩ hi5=>?_;obtain⟨hi1,hi2,hi3⟩:=hi5;have hti:List.take i (List.map Nd.d ts)=List.map Nd.d ts:=List.take_of_length_le (by rw[List.length_map,hi2];exact Nat.le_refl _);apply aD;simp;apply aG;apply aJ;simp;refine⟨λh5=>?_,λh5=>?_⟩
  ·apply aF;simp;apply dH;apply aG;have hi:i<l.length:=aE;obtain⟨d,hd⟩:∃d,l[i]=d:=⟨_,rfl⟩;rw[Yu hi,hd]at hi3;apply aK;simp[hi,hd];apply aG;have kp:=ES d.text;obtain⟨P,hP⟩:∃P,parseS d.text=P:=⟨_,rfl⟩;have hwt:=iJ d.text;have hfl:=AE d.text;rw[hP]at kp hwt hfl;obtain⟨x,hx⟩:∃x,P.1=x:=⟨_,rfl⟩;have hrd:IH ts d=if P.2.2≠0 then P.2.2 else if P.1.text≠d.name then 11 else if(oH ts d.name).isSome=true\/(eM (dS (bL P.1))).length<(bL P.1).length then 7 else 0:=by unfold IH;rw[hP]
   rw[hx]at kp hwt hfl hrd;refine aP (λ|30=>some<| .plain ⟨.tup [.d x.d,.d (aI P.2.1),.d (aI P.2.2)],false⟩|_=>none) ?_;simp[bD];refine⟨by simpa using kp,?_⟩;apply aG;apply aV;simp;refine⟨λh8=>?_,λh8=>?_⟩
   ·have he:IH ts d=P.2.2:=(by rw[hrd,if_pos h8]);rw[tV (by rw[he];exact h8),he]at hi3;apply aD;simp;apply aH;simp[hi3,yV,hi2,hti]
   ·have h8':¬P.2.2≠0:=by simpa using h8
    rw[if_neg h8']at hrd;apply aF;simp;apply aG;apply aV;simp;refine⟨λh10=>?_,λh10=>?_⟩
    ·have he:IH ts d=11:=by rw[hrd,if_pos (by simpa using h10)]
     rw[tV (by rw[he];decide),he]at hi3;apply aD;simp;apply aH;simp[hi3,yV,hi2,hti]
    ·have h10':¬x.text≠d.name:=by simpa using h10
     rw[if_neg h10']at hrd;apply aF;simp;apply aG;have kf:=GB x hwt;simp at kf;refine aP (λ|47=>some<| .plain ⟨.own 1 ((bL x).map .str),true⟩|_=>none) ?_;simp;refine⟨by simpa using kf,?_⟩;apply aG;have ks:=yW (bL x) aE;refine aP (λ|49=>some (.gen ⟨[(47,0)],[],[],[(0,.row false 1 ((dS (bL x)).map .str))],.tup []⟩)|_=>none) ?_;simp;refine⟨by simpa using ks,?_⟩;apply dT;simp[Yt (ts:=ts) rfl,bD];apply aG;by_cases hat:(oH ts d.name).isSome=true
     ·refine tC hT hW (λ_=>none) (by intro d;first|exact⟨rfl,λ_ h=>h⟩|(split<;>exact⟨rfl,λ_ h=>h⟩)) ?_;simp[hat];have he:IH ts d=7:=by rw[hrd,if_pos (.inl hat)]
      rw[tV (by rw[he];decide),he]at hi3;apply aJ;simp[hat];apply aD;simp;apply aH;simp[hi3,yV,hi2,hti]
     ·have hat':oH ts d.name=none:=by simpa using hat
      have hsl:=jW (bL x);have kc:=Ku (dS (bL x)) aE;have kd:=FK (dS (bL x)) aE;have hdl:=tN (dS (bL x));have htk:List.take (bL x).length (List.map DV.str (dS (bL x)))=List.map DV.str (dS (bL x)):=List.take_of_length_le (by rw[List.length_map,hsl];exact Nat.le_refl _);refine aP (λ|61=>some<| .plain ⟨.own 1 ((dS (bL x)).map .str),true⟩|62=>some (.gen ⟨[(61,0)],[],[],[(0,.row false 1 ((eM (dS (bL x))).map .str++List.replicate ((dS (bL x)).length-(eM (dS (bL x))).length) (.str [])))],.ow 0 0 (eM (dS (bL x))).length⟩)|_=>none) ?_;simp[hat',hsl,htk];refine⟨⟨by simpa using kc,by simpa [hsl]using kd⟩,?_⟩;apply aJ;simp;refine⟨λh15=>?_,λh15=>?_⟩
      ·have he:IH ts d=7:=(by rw[hrd,if_pos (.inr aE)]);rw[tV (by rw[he];decide),he]at hi3;apply aD;simp;apply aH;simp[hi3,yV,hi2,hti]
      ·have he:IH ts d=0:=by rw[hrd,if_neg (by rintro(h|h);exact hat h;omega)]
       rw[II he,hP,hx]at hi3;apply aF;simp;refine eW.rd [[77,78,1078],[77,78,1078],[5,77,78,1078],[5,77,78,1078],[77],[77],[],[],[],[5,77,78,1078]] [[],[],[],[],[],[],[],[77],[78,1078],[],[],[5],[14]] (λ_=>none) ?_;simp[aAg (ts:=ts) hat' hi2];refine⟨⟨aE,aE⟩,?_⟩;apply aK;simp;refine⟨aE,?_⟩;refine Pq.mk (i+1,ts++[x]) (aA hp [0,2,5,20,21,22] [(2,2),(5,5),(14,14),(78,1078)] (hH:=by simp[SC,h10])) ?_ ?_
       ·exact⟨aE,by simp[hi2],hi3⟩
       ·omega
  ·apply bE;simp;apply aD;simp;apply aH;have e:i=l.length:=aE;rw[e,List.drop_length,Db]at hi3;rw[e]at hti;simp[hi3,yV,hi2,e,hti]
end
section
attribute[local simp] kQ.cond Nd.d_eq nd_t nd_dr nd_td ndsD aZ bF
theorem Li:∀(l:List Df) (ts:List Nd),(∀t∈ts,∃s,t=(parseS s).1)->(∀t∈(Db ts l).1,∃s,t=(parseS s).1)/\ts.length<=(Db ts l).1.length/\(Db ts l).1.length<=ts.length+l.length/\((Db ts l).2.2=0->(Db ts l).1.length=ts.length+l.length/\(Db ts l).2.1=((ts.length+l.length:Nat):Int))
 |[],ts,h=>⟨h,Nat.le_refl _,Nat.le_refl _,λ_=>⟨rfl,rfl⟩⟩
 |d::r,ts,h=>by
  by_cases e:IH ts d=0
  ·rw[II e];obtain⟨h1,h2,h3,h4⟩:=Li r (ts++[(parseS d.text).1]) λt ht=>by
    rcases List.mem_append.1 ht with ht|ht
    ·exact h t ht
    ·exact⟨d.text,by simpa using ht⟩
   simp only[List.length_append,List.length_cons,List.length_nil]at h2 h3 h4|-;refine⟨h1,aE,aE,λe=>?_⟩;obtain⟨h5,h6⟩:=h4 e;exact⟨aE,by rw[h6];congr 1;omega⟩
  ·rw[tV e];exact⟨h,Nat.le_refl _,aM,λh=>absurd h e⟩
theorem tW(l:List Df):(∀t∈(dK l).1,∃s,t=(parseS s).1)/\(dK l).1.length<=24/\((dK l).2.2=0->l.length<=24/\(dK l).1.length=l.length/\(dK l).2.1=(l.length:Int)):=by
 unfold dK;by_cases h:24<l.length
 ·rw[if_pos h];exact⟨aM,aM,λh=>by simp at h⟩
 ·rw[if_neg h];obtain⟨h1,h2,h3,h4⟩:=Li l [] aM;simp only[List.length_nil,Nat.zero_add]at h3 h4;exact⟨h1,aE,λe=>⟨aE,(h4 e).1,(h4 e).2⟩⟩
theorem SD(M:List Nat){H:dM}{k:Nat}:cR T H 89 (.d (.mp (An M) (FJ M))) (.d (aI (k:Int))) false=⟨.d (.bool (decide (k∈M))),True,[]⟩:=Ks M rfl
def ET(k:Int):Bool:=decide (k=14)
def IJ(ts:List Nd)(i:Nat):Bool:=decide (FG ts (ts.getD i default)≠0)
def IK(ts:List Nd)(i:Nat):Bool:=decide (i∈jI ts ET i)
def dJ(p:Nat->Bool)(n:Nat):Option Nat:=(List.range n).find? p
theorem lY{p:Nat->Bool}{n i:Nat}(hi:i<n)(h:∀j<i,p j=false)(h1:p i=true):dJ p n=some i:=by
 unfold dJ;rw[List.find?_eq_some_iff_append];refine⟨h1,List.range i,(List.range (n-i-1)).map (·+(i+1)),?_,λj hj=>by simp[h j (List.mem_range.1 hj)]⟩;apply List.ext_getElem
 ·simp;omega
 ·intro k h2 h3;rw[List.getElem_range,List.getElem_append];split
  ·simp
  ·rename_i hk;simp only[List.length_range,Nat.not_lt]at hk;rw[List.getElem_cons];split
   ·rename_i e;simp only[List.length_range]at e;omega
   ·rename_i e;simp only[List.length_range]at e;simp;omega
theorem lZ{p:Nat->Bool}{n:Nat}(h:∀j<n,p j=false):dJ p n=none:=by
 unfold dJ;rw[List.find?_eq_none];intro j hj;simp[h j (List.mem_range.1 hj)]
def mK(l:List Df):List Nd×Int×Int:=
 if(dK l).2.2≠0 then dK l
 else match dJ (IJ (dK l).1) (dK l).1.length with
  |some i=>((dK l).1,(i:Int),FG (dK l).1 ((dK l).1.getD i default))
  |none=>match dJ (IK (dK l).1) (dK l).1.length with
   |some i=>((dK l).1,(i:Int),13)
   |none=>((dK l).1,(l.length:Int),0)
theorem EU(l:List Df):Ok prog 28 [eO l] ⟨.tup [.d (yV (mK l).1),.d (aI (mK l).2.1),.d (aI (mK l).2.2)],false⟩:=by
 refine wY hT func28 bY (c:=_) rfl ntmps28 aM results28 aM (by rfl) λw0 X hp=>?_;obtain⟨R,hR⟩:∃R,dK l=R:=⟨_,rfl⟩;obtain⟨ts,hts⟩:∃ts,R.1=ts:=⟨_,rfl⟩;have kr:=Yv l;have sp:=tW l;have hC:mK l=if(dK l).2.2≠0 then dK l else match dJ (IJ (dK l).1) (dK l).1.length with|some i=>((dK l).1,(i:Int),FG (dK l).1 ((dK l).1.getD i default))|none=>match dJ (IK (dK l).1) (dK l).1.length with|some i=>((dK l).1,(i:Int),13)|none=>((dK l).1,(l.length:Int),0):=rfl
 rw[hR]at kr sp hC;rw[hts]at kr sp hC;have hw:∀t∈ts,weighN t<=1000000000:=λt ht=>by obtain⟨s,rfl⟩:=sp.1 t ht;exact iJ s
 have hl24:ts.length<=24:=sp.2.1;apply aD;simp;refine cJ (λ|14=>some<| .plain ⟨.tup [.d (yV ts),.d (aI R.2.1),.d (aI R.2.2)],false⟩|_=>none) ?_;simp[bD];refine⟨⟨by simpa using kr,by simp[yV]⟩,?_⟩;simp[yV];apply aG;apply aV;simp;refine⟨λh2=>?_,λh2=>?_⟩
 ·rw[if_pos h2]at hC;apply aD;simp;apply aH;simp[hC,hts,yV]
 ·have h2':R.2.2=0:=by simpa using h2
  obtain⟨hln,htl,_⟩:=sp.2.2 h2';rw[if_neg (by simpa using h2')]at hC;apply aF;simp;apply dT;simp;apply aO;refine aU (ι:=Nat) (λi=>aR [(0,.d (eO l)),(2,.bx 2 0),(5,.bx 5 0),(24,.d (ndsD ts)),(25,.d (aI (ts.length:Nat))),(26,.d (aI (i:Nat)))]) (λi=>aL [(2,.box false [.nl,.d (.val (.map none))]),(5,.box false [.d (ndsD ts),.d (.mp (oJ ts) (oV ts.length))])]) (λi=>i<=ts.length/\∀j<i,IJ ts j=false) (λi=>ts.length-i) 0 (aA hp [0,2,5,24,25,26] [(2,2),(5,5)]) (⟨Nat.zero_le _,λj h=>absurd h (Nat.not_lt_zero _)⟩) λi hi5=>?_;apply aD;simp;apply aG;apply aJ;simp;refine⟨λh5=>?_,λh5=>?_⟩
  ·apply aF;simp;apply dH;apply aG;have hi:i<ts.length:=aE;obtain⟨t,ht⟩:∃t,ts[i]=t:=⟨_,rfl⟩;have htm:t∈ts:=by rw[<-ht];exact List.getElem_mem hi
   have hget:ts.getD i default=t:=(by rw[List.getD_eq_getElem?_getD,List.getElem?_eq_getElem hi,ht];rfl);have hbi:IJ ts i=decide (FG ts t≠0):=by unfold IJ;rw[hget]
   have km:=NK ts t (hw t htm) hw;apply aK;simp[hi,ht];refine cJ (λ|33=>some<| .plain ⟨.d (aI (FG ts t)),true⟩|_=>none) ?_;simp;refine⟨by simpa [yV]using km,?_⟩;apply aV;simp;refine⟨λh8=>?_,λh8=>?_⟩
   ·have hf:=lY hi hi5.2 (by rw[hbi];simpa using h8);rw[hf]at hC;simp only[hget]at hC;apply aD;simp;apply aH;simp[hC,yV]
   ·have hbad:IJ ts i=false:=by rw[hbi];simpa using h8
    apply aF;simp;apply aK;simp;refine⟨aE,?_⟩;refine Pq.mk (i+1) (aA hp [0,2,5,24,25,26] [(2,2),(5,5)]) ?_ ?_
    ·refine⟨aE,λj hj=>?_⟩;rcases Nat.lt_succ_iff_lt_or_eq.1 hj with hj|rfl
     ·exact hi5.2 j hj
     ·exact hbad
    ·omega
  ·apply bE;simp;apply eA;have hn1:=lZ (p:=IJ ts) (n:=ts.length) λj hj=>hi5.2 j aE;rw[hn1]at hC;apply aK;simp;apply aO;refine aU (ι:=Nat) (λi=>aR [(0,.d (eO l)),(2,.bx 2 0),(5,.bx 5 0),(42,.d (aI (ts.length:Nat))),(43,.d (aI (i:Nat)))]) (λi=>aL [(2,.box false [.nl,.d (.val (.map none))]),(5,.box false [.d (ndsD ts),.d (.mp (oJ ts) (oV ts.length))])]) (λi=>i<=ts.length/\∀j<i,IK ts j=false) (λi=>ts.length-i) 0 (aA hp [0,2,5,42,43] [(2,2),(5,5)]) (⟨Nat.zero_le _,λj h=>absurd h (Nat.not_lt_zero _)⟩) λi hi12=>?_;apply aD;simp;apply aG;apply aJ;simp;refine⟨λh12=>?_,λh12=>?_⟩
   ·apply aF;simp;apply dH;apply aD;simp;apply aG;have hi:i<ts.length:=aE;have kre:=El ts ET 63 i hw (λk=>Sd k) hi;refine aP (λ|48=>some<| .plain ⟨.d (.mp (An (jI ts ET i)) (FJ (jI ts ET i))),false⟩|_=>none) ?_;simp[SD (jI ts ET i)];refine⟨by simpa [yV]using kre,?_⟩;apply aJ;simp;refine⟨λh14=>?_,λh14=>?_⟩
    ·have hf:=lY hi hi12.2 (by simpa [IK]using h14);rw[hf]at hC;apply aD;simp;apply aH;simp[hC,yV]
    ·have hbad:IK ts i=false:=by simpa [IK]using h14
     apply aF;simp;apply aK;simp;refine⟨aE,?_⟩;refine Pq.mk (i+1) (aA hp [0,2,5,42,43] [(2,2),(5,5)]) ?_ ?_
     ·refine⟨aE,λj hj=>?_⟩;rcases Nat.lt_succ_iff_lt_or_eq.1 hj with hj|rfl
      ·exact hi12.2 j hj
      ·exact hbad
     ·omega
   ·apply bE;simp;apply aD;simp;apply aH;have hn2:=lZ (p:=IK ts) (n:=ts.length) λj hj=>hi12.2 j aE;rw[hn2]at hC;simp[hC,yV]
end
section
attribute[local simp] kQ.cond Nd.d_eq nd_t nd_dr nd_td ndsD aZ bF
def xY(a b:aW):Int:=if Op.bytesLess a b=true then -1 else if a=b then 0 else 1
theorem IL{a b:aW}:xY a b<0↔Op.bytesLess a b=true:=by
 unfold xY;by_cases h1:Op.bytesLess a b=true
 ·rw[if_pos h1];simp[h1]
 ·rw[if_neg h1];split<;>simp[h1]
def iK(out:List Df)(x:Df):List Df:=gP (kM (λy=>Op.bytesLess x.name y.name) out out.length) x out
def bV(l:List Df):List Df:=l.foldl iK []
theorem Lj(out:List Df)(x:Df):(iK out x).length=out.length+1:=oS
theorem fT(l:List Df):(bV l).length=l.length:=by
 have:∀(l out:List Df),(l.foldl iK out).length=out.length+l.length:=λl=>by
  induction l with
  |nil=>intro out;rfl
  |cons x r ih=>intro out;rw[List.foldl_cons,ih,Lj,List.length_cons];omega
 rw[bV,this];simp
theorem EV{l:List Df}{i:Nat}(h:i<l.length):bV (l.take (i+1))=iK (bV (l.take i)) l[i]:=by
 unfold bV;rw[List.take_succ_eq_append_getElem h,List.foldl_append];rfl
def iD(A o t:List Df)(x:Df)(j:Nat):List Df:=A++(gP j x o++t)
theorem wA{A o t:List Df}{x:Df}{j:Nat}:(iD A o t x j).length=A.length+o.length+1+t.length:=by
 unfold iD;rw[List.length_append,List.length_append,oS];omega
theorem Qf{A o t:List Df}{x:Df}{j:Nat}(hj:j<=o.length)(h:A.length+j<(iD A o t x j).length):(iD A o t x j)[A.length+j]=x:=by
 have h0:(iD A o t x j)[A.length+j]? =some x:=by
  unfold iD gP;rw[List.getElem?_append_right aE,Nat.add_sub_cancel_left,List.getElem?_append_left kG,List.getElem?_append_right kG];simp[Nat.min_eq_left hj]
 rw[List.getElem?_eq_getElem h]at h0;exact Option.some.inj h0
theorem Hh{A o t:List Df}{x:Df}{j:Nat}(hj:j<o.length)(h:A.length+j<(iD A o t x (j+1)).length):(iD A o t x (j+1))[A.length+j]=o[j]:=by
 have h0:(iD A o t x (j+1))[A.length+j]? =some o[j]:=by
  unfold iD gP;rw[List.getElem?_append_right aE,Nat.add_sub_cancel_left,List.getElem?_append_left kG,List.getElem?_append_left kG,List.getElem?_take_of_lt aE,List.getElem?_eq_getElem hj]
 rw[List.getElem?_eq_getElem h]at h0;exact Option.some.inj h0
theorem Hi{A o t:List Df}{x:Df}{j:Nat}(hj:j<o.length):((iD A o t x (j+1)).set (A.length+(j+1)) o[j]).set (A.length+j) x=iD A o t x j:=by
 unfold iD gP;have e1:o.take (j+1)=o.take j++[o[j]]:=List.take_succ_eq_append_getElem hj;have e2:o.drop j=o[j]::o.drop (j+1):=List.drop_eq_getElem_cons hj;have hl:(o.take j).length=j:=kG;rw[e1,e2];rw[List.set_append_right _ _ aE,Nat.add_sub_cancel_left,List.set_append_right _ _ aE,Nat.add_sub_cancel_left];congr 1;simp only[List.append_assoc,List.cons_append,List.nil_append];rw[List.set_append_right _ _ aE,hl,show j+1-j=1 by omega,List.set_append_right _ _ aE,hl,Nat.sub_self];rfl
theorem Wf{A o t s:List Df}{x:Df}{a j:Nat}(ha:A.length=a)(e:s=iD A o t x j)(hj:j<=o.length)(h:a+j<s.length):s[a+j]=x:=by
 subst e;subst ha;exact Qf hj h
theorem Om{A o t s:List Df}{x:Df}{a j:Nat}(ha:A.length=a)(e:s=iD A o t x (j+1))(hj:j<o.length)(h:a+j<s.length):s[a+j]=o[j]:=by
 subst e;subst ha;exact Hh hj h
def Is{α:Type}(a b:α):Prop:=a=b
theorem Cu(s:aW):Ok prog 71 [.str s] ⟨.d (.bool false),true⟩:=by
 refine Ok.ret func71 bY (c:=_) rfl ntmps71 aM results71 (by intro _ h;cases h) λw0 X hp=>?_;apply aD;simp;apply aD;simp;apply aH;simp
theorem SE(a b:aW):Ok prog 41 [.str a,.str b] ⟨.d (aI (xY a b)),true⟩:=by
 refine Ok.ret func41 bY (c:=_) rfl ntmps41 aM results41 (by intro _ h;cases h) λw0 X hp=>?_;apply aD;simp;refine cJ (λ|8=>some<| .plain ⟨.d (.bool false),true⟩|_=>none) ?_;simp;refine⟨Cu a,?_⟩;refine cJ (λ|10=>some<| .plain ⟨.d (.bool false),true⟩|_=>none) ?_;simp;refine⟨Cu b,?_⟩;apply aG;apply aV;simp;apply aF;simp;apply aG;apply aV;simp;apply aF;simp;apply aG;apply aV;simp;refine⟨λh9=>?_,λh9=>?_⟩
 ·apply aD;simp;apply aH;simp[xY,h9]
 ·apply aF;simp;apply aG;apply aV;simp;refine⟨λh11 h12=>?_,λh11=>?_⟩
  ·apply aD;simp;apply aH;simp[xY,h9,h12]
  ·apply aF;simp;apply aD;simp;apply aH;have e:=h11 h9;subst e;simp[xY,h9]
theorem AF(a b:Df):Ok prog 40 [a.d,b.d] ⟨.d (aI (xY a.name b.name)),true⟩:=by
 refine Ok.ret func40 bY (c:=_) rfl ntmps40 aM results40 (by intro _ h;cases h) λw0 X hp=>?_;apply aD;simp;refine cJ (λ|9=>some<| .plain ⟨.d (aI (xY a.name b.name)),true⟩|_=>none) ?_;simp;refine⟨SE _ _,?_⟩;apply aH;simp
theorem EW(A C D:List Df)(hl:(A++C++D).length<=1000000):iG prog 117 [.ow 0 0 (A++C++D).length,.d (aI A.length),.d (aI (A.length+C.length)),.d (.fn 40 [])] [(0,.row false 2 ((A++C++D).map Df.d))] [(0,.row false 2 ((A++bV C++D).map Df.d))] (.tup []):=by
 obtain⟨N,hN⟩:∃N,(A++C++D).length=N:=⟨_,rfl⟩;obtain⟨a,ha⟩:∃a,A.length=a:=⟨_,rfl⟩;have hs1:A++C++D=A++(bV (C.take 1)++(C.drop 1++D)):=by cases C<;>simp[bV,iK,gP,kM]
 rw[hN]at hl|-;rw[ha];have hNl:a+C.length+D.length=N:=by rw[<-hN,<-ha];simp;omega
 refine fY func117 bY (c:=_) rfl ntmps117 aM results117 λw0 X hp=>?_;apply aD;simp;refine⟨aE,?_⟩;apply aO;refine aU (ι:=Nat×List Df) (λ⟨i,r⟩=>aR [(0,.ow 0 0 N),(1,.d (aI a)),(2,.d (aI (a+C.length))),(3,.d (.fn 40 [])),(8,.d (aI (a+i)))]) (λ⟨i,r⟩=>aL [(0,.row false 2 (r.map Df.d))]) (λ⟨i,r⟩=>1<=i/\i<=C.length+1/\r=A++(bV (C.take i)++(C.drop i++D))) (λ⟨i,r⟩=>C.length+1-i) (1,A++C++D) (aA hp [0,1,2,3,8] [(0,0)]) (⟨aE,aE,hs1⟩) λ⟨i,r⟩ hi1=>?_;apply aG;apply aV;simp;refine⟨λh1=>?_,λh1=>?_⟩
 ·apply aF;simp;refine aY (ι:=List Df) (λs=>aR [(0,.ow 0 0 N),(1,.d (aI a)),(2,.d (aI (a+C.length))),(3,.d (.fn 40 [])),(8,.d (aI (a+i)))]) (λs=>aL [(0,.row false 2 (s.map Df.d))]) (λs=>Is s (A++(bV (C.take (i+1))++(C.drop (i+1)++D)))) ?_ λs hc2=>?_
  ·apply aO;apply aG;have hi:i<C.length:=aE;obtain⟨hi1,hi2,hr⟩:=hi1;obtain⟨x,hx⟩:∃x,C[i]=x:=⟨_,rfl⟩;obtain⟨o,ho⟩:∃o,bV (C.take i)=o:=⟨_,rfl⟩;have hol:o.length=i:=by rw[<-ho,fT,List.length_take];omega
   obtain⟨t,ht⟩:∃t,C.drop (i+1)++D=t:=⟨_,rfl⟩;have hcd:C.drop i=x::C.drop (i+1):=by rw[<-hx];exact List.drop_eq_getElem_cons hi
   have hr0:r=iD A o t x i:=by
    have e1:o.take i=o:=List.take_of_length_le (by rw[hol];exact Nat.le_refl _);have e2:o.drop i=[]:=List.drop_of_length_le (by rw[hol];exact Nat.le_refl _);rw[hr,ho,hcd,<-ht];unfold iD gP;rw[e1,e2];simp
   have hlen:∀j,(iD A o t x j).length=N:=λj=>by rw[wA,<-hNl,<-ht,hol,ha,List.length_append,List.length_drop];omega
   have hfin:∀j,j<=i->kM (λy=>Op.bytesLess x.name y.name) o i=j->iD A o t x j=A++(bV (C.take (i+1))++(C.drop (i+1)++D)):=λj _ hj=>by
    rw[EV hi,ho,hx];unfold iK iD;rw[hol,hj,<-ht]
   apply aK;simp;apply aO;refine aU (ι:=Nat×List Df) (λ⟨j,s⟩=>aR [(0,.ow 0 0 N),(1,.d (aI a)),(2,.d (aI (a+C.length))),(3,.d (.fn 40 [])),(8,.d (aI (a+i))),(9,.d (aI (a+j)))]) (λ⟨j,s⟩=>aL [(0,.row false 2 (s.map Df.d))]) (λ⟨j,s⟩=>j<=i/\s=iD A o t x j/\kM (λy=>Op.bytesLess x.name y.name) o i=kM (λy=>Op.bytesLess x.name y.name) o j) (λ⟨j,s⟩=>j) (i,r) (aA hp [0,1,2,3,8,9] [(0,0)]) (⟨Nat.le_refl _,hr0,rfl⟩) λ⟨j,s⟩ hi4=>?_;apply eA;rcases j with _|j
   ·refine eW.rd [] [[],[],[],[],[],[],[],[],[],[],[],[],[],[],[32]] (λ_=>none) ?_;simp[Nat.zero_le];apply aJ;simp[Nat.zero_le];apply bE;simp;refine XG.mk s (aA hp [0,1,2,3,8] [(0,0)]) ?_;exact hi4.2.1.trans (hfin 0 (Nat.zero_le _) (by rw[hi4.2.2];rfl))
   ·have g1:a+(j+1)<s.length:=by rw[hi4.2.1,hlen];have:=hi4.1;omega
    have hjo:j<o.length:=by have:=hi4.1;omega
    have gx:s[a+(j+1)]=x:=Wf ha hi4.2.1 aE g1;have gp:s[a+j]=o[j]:=Om ha hi4.2.1 hjo aE;refine eW.rd [] [[],[],[],[],[],[],[],[],[],[],[],[],[],[],[32]] (λ|32=>some<| .plain ⟨.d (aI (xY s[a+(j+1)].name s[a+j].name)),true⟩|_=>none) ?_;simp[g1,(show a+j<s.length by omega),(show(a:Int)<(a:Int)+((j:Int)+1)by omega),(show((a:Int)+((j:Int)+1)).toNat=a+(j+1)by omega),(show a+(j+1)- 1=a+j by omega)];have hsN:s.length=N:=by rw[hi4.2.1,hlen]
    refine⟨⟨⟨⟨⟨aE,aE⟩,aE⟩,aE⟩,by simpa using AF s[a+(j+1)] s[a+j]⟩,?_⟩;apply aJ;simp;refine⟨λh4=>?_,λh4=>?_⟩
    ·apply aF;simp;apply dH;refine eW.rd [[],[],[0],[0],[0]] [[],[],[],[],[],[],[],[],[],[],[],[],[],[],[],[0],[],[0]] (λ_=>none) ?_;simp[g1,(show a+j<s.length by omega),(show((a:Int)+((j:Int)+1)).toNat=a+(j+1)by omega),(show a+(j+1)- 1=a+j by omega)];refine⟨aE,?_⟩;apply aK;simp;refine⟨aE,?_⟩;refine Pq.mk (j,(s.set (a+(j+1)) s[a+j]).set (a+j) s[a+(j+1)]) (aA hp [0,1,2,3,8,9] [(0,0)] (by simp[show(a:Int)+((j:Int)+1)- 1=a+j by omega]) (by simp[List.map_set,Df.d])) ?_ ?_
     ·have hp4:Op.bytesLess x.name o[j].name=true:=IL.1 (by rw[gx,gp]at h4;exact h4);refine⟨uB,?_,?_⟩
      ·show(s.set (a+(j+1)) s[a+j]).set (a+j) s[a+(j+1)]=iD A o t x j;rw[gx,gp,hi4.2.1,<-ha];exact Hi hjo
      ·show _=kM _ o j;rw[hi4.2.2];exact wZ hjo hp4
     ·omega
    ·apply bE;simp;refine XG.mk s (aA hp [0,1,2,3,8] [(0,0)]) ?_;have hp4:¬Op.bytesLess x.name o[j].name=true:=λe=>by rw[gx,gp]at h4;have:=IL.2 e;omega
     exact hi4.2.1.trans (hfin (j+1) hi4.1 (by rw[hi4.2.2];exact pG λi' hi' hlt=>(by have e:i'=j:=aE;subst e;simpa using hp4)))
  ·apply aK;simp;refine⟨aE,?_⟩;refine Pq.mk (i+1,s) (aA hp [0,1,2,3,8] [(0,0)] (by simp[show(a:Int)+(i:Int)+1=a+((i:Int)+1)by omega])) ?_ ?_
   ·exact⟨uB,uB,hc2⟩
   ·omega
 ·apply bE;simp;obtain⟨_,hi2,hr⟩:=hi1;have hr':r=A++(bV C++D):=by rw[hr,List.take_of_length_le aE,List.drop_of_length_le aE,List.nil_append]
  exact aA hp [] [(0,0)] (hH:=by simp[hr'])
theorem Hj(out:List Df)(x:Df):(iK out x).Perm (x::out):=by
 unfold iK gP;refine List.perm_middle.trans ?_;rw[List.take_append_drop]
theorem qI(l:List Df):(bV l).Perm l:=by
 have:∀(l out:List Df),(l.foldl iK out).Perm (out++l):=λl=>by
  induction l with
  |nil=>intro out;rw[List.append_nil];exact List.Perm.refl _
  |cons x r ih=>
   intro out;rw[List.foldl_cons];exact(ih _).trans (((Hj out x).append_right r).trans (by simpa using(List.perm_middle (a:=x) (l₁:=out) (l₂:=r)).symm))
 simpa [bV]using this l []
theorem Cv{out:List Df}{x:Df}(h:out.Pairwise λa b=>a.name<=b.name):(iK out x).Pairwise λa b=>a.name<=b.name:=by
 obtain⟨s1,s2⟩:=Bn (p:=λy:Df=>Op.bytesLess x.name y.name) (out:=out) out.length (Nat.le_refl _);have hle:=CW (p:=λy:Df=>Op.bytesLess x.name y.name) (out:=out) out.length;unfold iK gP;generalize kM (λy:Df=>Op.bytesLess x.name y.name) out out.length=k at*;have hb:∀a∈out.take k,a.name<=x.name:=λa ha=>by
  obtain⟨i,hi,rfl⟩:=List.getElem_of_mem ha;rw[List.getElem_take];rw[List.length_take]at hi;obtain⟨k',rfl⟩:∃k',k=k'+1:=⟨k-1,aE⟩;have hk':i<=k':=aE;have hlt:k'<out.length:=aE;have h0:=s2 k' hlt rfl;rw[bytesLess_eq,decide_eq_false_iff_not,List.not_lt]at h0;by_cases e:i=k'
  ·subst e;exact h0
  ·exact List.le_trans (List.pairwise_iff_getElem.1 h i k' aE hlt aE) h0
 have ha:∀b∈out.drop k,x.name<=b.name:=λb hb=>by
  obtain⟨i,hi,rfl⟩:=List.getElem_of_mem hb;rw[List.getElem_drop];rw[List.length_drop]at hi;have h0:=s1 (k+i) aE aE aE;rw[bytesLess_eq,decide_eq_true_eq]at h0;exact List.le_of_lt h0
 refine List.pairwise_append.2 ⟨h.sublist (List.take_sublist _ _),List.pairwise_cons.2 ⟨ha,h.sublist (List.drop_sublist _ _)⟩,λa ha' b hb'=>?_⟩;rcases List.mem_cons.1 hb' with rfl|hb'
 ·exact hb a ha'
 ·exact List.le_trans (hb a ha') (ha b hb')
theorem pA(l:List Df):(bV l).Pairwise λa b=>a.name<=b.name:=by
 have:∀(l out:List Df),(out.Pairwise λa b=>a.name<=b.name)->(l.foldl iK out).Pairwise λa b=>a.name<=b.name:=λl=>by
  induction l with
  |nil=>exact λout h=>h
  |cons x r ih=>exact λout h=>ih _ (Cv h)
 exact this l [] List.Pairwise.nil
end
section
attribute[local simp] kQ.cond Nd.d_eq nd_t nd_dr nd_td ndsD aZ bF
theorem Qg{V U:List Df}{i:Nat}(hi:i<U.length)(hv:i<V.length):(V.take i++U.drop i).set i V[i]=V.take (i+1)++U.drop (i+1):=by
 rw[List.drop_eq_getElem_cons hi,List.set_append_right _ _ (by rw[List.length_take];omega),show i-(V.take i).length=0 by rw[List.length_take];omega,List.take_succ_eq_append_getElem hv,List.append_assoc];rfl
theorem rC{V U:List Df}{i:Nat}(h:V.length=U.length)(hi:i<=U.length):(V.take i++U.drop i).length=U.length:=by
 rw[List.length_append,List.length_take,List.length_drop];omega
theorem Wg{V U:List Df}{i:Nat}(h:V.length=U.length)(hi:i<U.length):(V.take i++U.drop i)[i]? =some U[i]:=by
 rw[List.getElem?_append_right (by rw[List.length_take];omega),List.length_take,show i-min i V.length=0 by omega,List.getElem?_drop,Nat.add_zero,List.getElem?_eq_getElem hi]
def mL(A U M V D:List Df)(i:Nat):List Df:=A++((V.take i++U.drop i)++(M++((U.take i++V.drop i)++D)))
section
variable{A U M V D:List Df} {i:Nat}
theorem SF(h:V.length=U.length)(hi:i<=U.length):(mL A U M V D i).length=A.length+U.length+M.length+V.length+D.length:=by
 unfold mL;simp only[List.length_append,List.length_take,List.length_drop];omega
theorem SG(h:V.length=U.length)(hi:i<U.length):(mL A U M V D i)[A.length+i]? =some U[i]:=by
 unfold mL;rw[List.getElem?_append_right aE,Nat.add_sub_cancel_left,List.getElem?_append_left (by rw[rC h aE];exact hi),Wg h hi]
theorem SH(h:V.length=U.length)(hi:i<U.length):(mL A U M V D i)[A.length+U.length+M.length+i]? =some (V[i]'aE):=by
 unfold mL;rw[List.getElem?_append_right aE,show A.length+U.length+M.length+i-A.length=U.length+(M.length+i)by omega,List.getElem?_append_right (by rw[rC h aE];omega),rC h aE,Nat.add_sub_cancel_left,
  List.getElem?_append_right aE,Nat.add_sub_cancel_left,List.getElem?_append_left (by rw[rC h.symm aE];omega),Wg h.symm aE]
theorem SI(h:V.length=U.length)(hi:i<U.length):((mL A U M V D i).set (A.length+i) (V[i]'aE)).set (A.length+U.length+M.length+i) U[i]=mL A U M V D (i+1):=by
 have e1:(mL A U M V D i).set (A.length+i) (V[i]'aE)=A++((V.take (i+1)++U.drop (i+1))++(M++((U.take i++V.drop i)++D))):=by
  unfold mL;rw[List.set_append_right _ _ aE,Nat.add_sub_cancel_left,List.set_append_left _ _ (by rw[rC h aE];exact hi),Qg hi aE]
 rw[e1];unfold mL;rw[List.set_append_right _ _ aE,show A.length+U.length+M.length+i-A.length=U.length+(M.length+i)by omega,List.set_append_right _ _ (by rw[rC h aE];omega),rC h aE,Nat.add_sub_cancel_left,
  List.set_append_right _ _ aE,Nat.add_sub_cancel_left,List.set_append_left _ _ (by rw[rC h.symm aE];omega),Qg aE hi]
end
theorem uG{s:List Df}{k:Nat}{x:Df}(h:s[k]? =some x):∃hk:k<s.length,s[k]=x:=List.getElem?_eq_some_iff.1 h
theorem Bx(A U M V D:List Df)(a b n N:Nat)(hUV:V.length=U.length)(ha:A.length=a)(hb:A.length+U.length+M.length=b)(hn:U.length=n)(hN:A.length+U.length+M.length+V.length+D.length=N)(hl:N<=1000000):iG prog 177 [.ow 0 0 N,.d (aI a),.d (aI b),.d (aI n),.d (.fn 40 [])] [(0,.row false 2 ((A++(U++(M++(V++D)))).map Df.d))] [(0,.row false 2 ((A++(V++(M++(U++D)))).map Df.d))] (.tup []):=by
 have h0:A++(U++(M++(V++D)))=mL A U M V D 0:=by simp[mL]
 have hn1:A++(V++(M++(U++D)))=mL A U M V D n:=by
  unfold mL;rw[List.take_of_length_le aE,List.take_of_length_le aE,List.drop_of_length_le aE,List.drop_of_length_le aE,List.append_nil,List.append_nil]
 rw[h0,hn1];refine fY func177 bY (c:=_) rfl ntmps177 aM results177 λw0 X hp=>?_;apply aD;simp;apply aO;refine aU (ι:=Nat×List Df) (λ⟨i,r⟩=>aR [(0,.ow 0 0 N),(1,.d (aI a)),(2,.d (aI b)),(3,.d (aI n)),(4,.d (.fn 40 [])),(10,.d (aI i))]) (λ⟨i,r⟩=>aL [(0,.row false 2 (r.map Df.d))]) (λ⟨i,r⟩=>i<=n/\Is r (mL A U M V D i)) (λ⟨i,r⟩=>n-i) (0,mL A U M V D 0) (aA hp [0,1,2,3,4,10] [(0,0)]) (⟨Nat.zero_le _,rfl⟩) λ⟨i,r⟩ hi1=>?_;apply aG;apply aV;simp;refine⟨λh1=>?_,λh1=>?_⟩
 ·apply aF;simp;apply dH;obtain⟨hi1,hr⟩:=hi1;have hr:r=mL A U M V D i:=hr;have hin:i<n:=aE;have q1:r[a+i]? =some (U[i]'aE):=by have:=SG (A:=A) (M:=M) (D:=D) hUV (show i<U.length by omega);rw[ha]at this;rw[hr];exact this
  have q2:r[b+i]? =some (V[i]'aE):=by have:=SH (A:=A) (M:=M) (D:=D) hUV (show i<U.length by omega);rw[hb]at this;rw[hr];exact this
  obtain⟨k1,e1⟩:=uG q1;obtain⟨k2,e2⟩:=uG q2;have hrN:r.length=N:=by rw[hr,SF hUV aE,hN]
  refine eW.rd [[],[],[],[],[0],[0],[0],[0]] [[],[],[],[],[],[],[],[],[],[],[],[],[],[],[],[],[],[],[],[],[],[0],[],[0]] (λ_=>none) ?_;simp[k1,k2,(show((a:Int)+(i:Int)).toNat=a+i by omega),(show((b:Int)+(i:Int)).toNat=b+i by omega)];refine⟨by(repeat' with_reducible apply And.intro)<;>omega,?_⟩;apply aK;simp;refine⟨aE,?_⟩;refine Pq.mk (i+1,(r.set (a+i) r[b+i]).set (b+i) r[a+i]) (aA hp [0,1,2,3,4,10] [(0,0)] (hH:=by simp[List.map_set,Df.d])) ?_ ?_
  ·exact⟨uB,by show _=_;rw[e1,e2,hr];subst ha;subst hb;exact SI hUV aE⟩
  ·omega
 ·apply bE;simp;obtain⟨hi2,hr⟩:=hi1;have hr:r=mL A U M V D i:=hr;have e:i=n:=aE;subst e;exact aA hp [] [(0,0)] (hH:=by simp[hr])
end
section
attribute[local simp] kQ.cond Nd.d_eq nd_t nd_dr nd_td ndsD aZ bF
structure SJ(T r:List Df)(m i j:Nat)(P X Y S:List Df):Prop where
 here:r=P++(X++(Y++S))
 goal:T=P++(Y++(X++S))
 x:X.length=i
 y:Y.length=j
 at_:P.length+i=m
theorem SJ.left{T r P X Y S:List Df}{m i j:Nat}(h:SJ T r m i j P X Y S)(hij:j<i):SJ T (P++(Y++(X.drop j++(X.take j++S)))) m (i-j) j (P++Y) (X.drop j) (X.take j) S:=by
 obtain⟨h1,h2,h3,h4,h5⟩:=h;refine⟨aM,?_,kG,kG,kG⟩;rw[h2];simp only[List.append_assoc];rw[<-List.append_assoc (X.take j) (X.drop j) S,List.take_append_drop]
theorem SJ.right{T r P X Y S:List Df}{m i j:Nat}(h:SJ T r m i j P X Y S)(hij:i<j):SJ T (P++(Y.drop (j-i)++(Y.take (j-i)++(X++S)))) m i (j-i) P (Y.drop (j-i)) (Y.take (j-i)) (X++S):=by
 obtain⟨h1,h2,h3,h4,h5⟩:=h;refine⟨rfl,?_,kG,kG,h5⟩;rw[h2]
 conv=>lhs;rw[<-List.take_append_drop (j-i) Y]
 simp only[List.append_assoc]
theorem Wh(A B C D:List Df)(a m b N:Nat)(hX:B≠[])(hY:C≠[])(ha:A.length=a)(hm:a+B.length=m)(hb:m+C.length=b)(hN:b+D.length=N)(hl:N<=1000000):iG prog 154 [.ow 0 0 N,.d (aI a),.d (aI m),.d (aI b),.d (.fn 40 [])] [(0,.row false 2 ((A++(B++(C++D))).map Df.d))] [(0,.row false 2 ((A++(C++(B++D))).map Df.d))] (.tup []):=by
 obtain⟨T,hT1⟩:∃T,A++(C++(B++D))=T:=⟨_,rfl⟩;have hTl:T.length=N:=by rw[<-hT1];simp only[List.length_append];omega
 have hXp:0<B.length:=List.length_pos_iff.2 hX;have hYp:0<C.length:=List.length_pos_iff.2 hY;have hI0:SJ T (A++(B++(C++D))) m (m-a) (b-m) A B C D:=⟨rfl,hT1.symm,aE,aE,aE⟩;rw[hT1];refine fY func154 bY (c:=_) rfl ntmps154 aM results154 λw0 X hp=>?_;apply aD;simp[(show(m:Int)-(a:Int)=((m-a:Nat):Int)by omega)];refine⟨aE,?_⟩;apply aD;simp[(show(b:Int)-(m:Int)=((b-m:Nat):Int)by omega)];refine⟨aE,?_⟩;apply dH;refine aU (ι:=Nat×Nat×List Df) (λ⟨i,j,r⟩=>aR [(0,.ow 0 0 N),(1,.d (aI a)),(2,.d (aI m)),(3,.d (aI b)),(4,.d (.fn 40 [])),(10,.d (aI i)),(11,.d (aI j))]) (λ⟨i,j,r⟩=>aL [(0,.row false 2 (r.map Df.d))]) (λ⟨i,j,r⟩=>0<i/\0<j/\∃P X Y S,SJ T r m i j P X Y S) (λ⟨i,j,r⟩=>i+j) (m-a,b-m,A++(B++(C++D))) (aA hp [0,1,2,3,4,10,11] [(0,0)] (by simp[show(m:Int)-(a:Int)=((m-a:Nat):Int)by omega,show(b:Int)-(m:Int)=((b-m:Nat):Int)by omega])) (⟨aE,aE,A,B,C,D,hI0⟩) λ⟨i,j,r⟩ hi2=>?_;apply eA;obtain⟨hi0,hj0,P,X',Y',S,hR⟩:=hi2;have hrT:r.length=N:=by rw[hR.here,<-hTl,hR.goal];simp only[List.length_append];omega
 have hPS:P.length+i+j+S.length=N:=by rw[<-hrT,hR.here];simp only[List.length_append,hR.x,hR.y];omega
 have hPi:=hR.at_;have hx:=hR.x;have hy:=hR.y;apply aK;simp;apply aJ;simp;refine⟨λh2=>?_,λh2=>?_⟩
 ·apply aF;simp;apply aO;apply aV;simp;refine⟨λh3=>?_,λh3=>?_⟩
  ·apply aG;have hmi:(m:Int)-(i:Int)=((P.length:Nat):Int):=aE;have ks:=Bx P (X'.take j) (X'.drop j) Y' S P.length m j N kG rfl kG kG (by simp only[List.length_take,List.length_drop];omega) hl;have hsr:P++(X'.take j++(X'.drop j++(Y'++S)))=r:=by rw[hR.here,<-List.append_assoc (X'.take j) (X'.drop j),List.take_append_drop]
   rw[hsr]at ks;have hd1:(i:Int)-(j:Int)=((i-j:Nat):Int):=aE;refine aP (λ|31=>some (.gen ⟨[(0,0)],[],[],[(0,.row false 2 ((P++(Y'++(X'.drop j++(X'.take j++S)))).map Df.d))],.tup []⟩)|_=>none) ?_;simp[hmi];refine⟨⟨aE,by simpa using ks⟩,?_⟩;apply aK;simp[hd1];refine⟨aE,?_⟩;refine Pq.mk (i-j,j,P++(Y'++(X'.drop j++(X'.take j++S)))) (aA hp [0,1,2,3,4,10,11] [(0,0)] (by simp[hd1])) ?_ ?_
   ·exact⟨uB,uB,_,_,_,_,hR.left aE⟩
   ·dsimp only;omega
  ·apply aG;have hij:i<j:=aE;have hmi:(m:Int)-(i:Int)=((P.length:Nat):Int):=aE;have hmj:(m:Int)+(j:Int)-(i:Int)=((m+(j-i):Nat):Int):=aE;have ks:=Bx P X' (Y'.take (j-i)) (Y'.drop (j-i)) S P.length (m+(j-i)) i N kG rfl kG aE (by simp only[List.length_take,List.length_drop];omega) hl;have hsr:P++(X'++(Y'.take (j-i)++(Y'.drop (j-i)++S)))=r:=by rw[hR.here,<-List.append_assoc (Y'.take (j-i)) (Y'.drop (j-i)),List.take_append_drop]
   rw[hsr]at ks;have hd2:(j:Int)-(i:Int)=((j-i:Nat):Int):=aE;refine aP (λ|46=>some (.gen ⟨[(0,0)],[],[],[(0,.row false 2 ((P++(Y'.drop (j-i)++(Y'.take (j-i)++(X'++S)))).map Df.d))],.tup []⟩)|_=>none) ?_;simp[hmi,hmj];refine⟨by(repeat' with_reducible apply And.intro)<;>first|omega|simpa using ks,?_⟩;apply aK;simp[hd2];refine⟨aE,?_⟩;refine Pq.mk (i,j-i,P++(Y'.drop (j-i)++(Y'.take (j-i)++(X'++S)))) (aA hp [0,1,2,3,4,10,11] [(0,0)] (by simp[hd2])) ?_ ?_
   ·exact⟨uB,uB,_,_,_,_,hR.right aE⟩
   ·dsimp only;omega
 ·apply bE;simp;have hij:i=j:=aE;have hmi:(m:Int)-(i:Int)=((P.length:Nat):Int):=aE;have ks:=Bx P X' [] Y' S P.length m i N aE rfl kG aE kG hl;have hsr:P++(X'++([]++(Y'++S)))=r:=by rw[hR.here];rfl
  have hst:P++(Y'++([]++(X'++S)))=T:=by rw[hR.goal];rfl
  rw[hsr,hst]at ks;refine aP (λ|57=>some (.gen ⟨[(0,0)],[],[],[(0,.row false 2 (T.map Df.d))],.tup []⟩)|_=>none) ?_;simp[hmi];refine⟨⟨aE,by simpa using ks⟩,?_⟩;exact aA hp [] [(0,0)]
end
def fO(a b:Df):Prop:=Op.bytesLess a.name b.name=true
instance(a b:Df):Decidable (fO a b):=inferInstanceAs (Decidable (Op.bytesLess a.name b.name=true))
theorem xO{a b:Df}:fO a b↔a.name<b.name:=by unfold fO;rw[bytesLess_eq,decide_eq_true_eq]
theorem xP{a b:Df}:¬fO a b↔b.name<=a.name:=by rw[xO,List.not_lt]
def dL(l:List Df):Prop:=l.Pairwise λa b=>¬fO b a
def kY(A B:List Df):List Df:=B.foldl iK A
theorem xQ{a b c:Df}(h1:fO a b)(h2:¬fO c b):fO a c:=by
 rw[xO]at h1|-;rw[xP]at h2;exact Classical.byContradiction λhn=>List.not_lt.2 (List.le_trans h2 (List.not_lt.1 hn)) h1
theorem EX{a b c:Df}(h1:¬fO b a)(h2:fO b c):fO a c:=by
 rw[xO]at h2|-;rw[xP]at h1;exact List.lt_of_le_of_lt h1 h2
theorem xR{a b c:Df}(h1:¬fO b a)(h2:¬fO c b):¬fO c a:=by
 rw[xP]at h1 h2|-;exact List.le_trans h1 h2
theorem EY{α:Type}{p:α->Bool}{a b:List α}:∀(k:Nat),(∀i<k,a[i]? =b[i]?)->kM p a k=kM p b k
 |0,_=>rfl
 |k+1,h=>by
  have h1:=h k (Nat.lt_succ_self k);have h2:=EY (p:=p) k λi hi=>h i aE;simp only[kM,h1,h2]
theorem IM{C A:List Df}{y:Df}(h:∀x∈A,fO y x):iK (C++A) y=iK C y++A:=by
 have h1:∀k,k<=A.length->kM (λz=>Op.bytesLess y.name z.name) (C++A) (C.length+k)=kM (λz=>Op.bytesLess y.name z.name) C C.length:=by
  intro k;induction k with
  |zero=>intro _;exact EY _ λi hi=>List.getElem?_append_left hi
  |succ k ih=>
   intro hk;have hkl:C.length+k<(C++A).length:=kG;rw[<-Nat.add_assoc,wZ hkl,ih aE];have:(C++A)[C.length+k]=A[k]:=by rw[List.getElem_append_right aE];simp
   rw[this];exact h _ (List.getElem_mem aE)
 have hle:=CW (p:=λz:Df=>Op.bytesLess y.name z.name) (out:=C) C.length;unfold iK;rw[List.length_append,h1 A.length (Nat.le_refl _)];unfold gP;rw[List.take_append_of_le_length hle,List.drop_append_of_le_length hle];simp
theorem Dc{C D:List Df}{y:Df}(h:∀c∈C,¬fO y c):iK (C++D) y=C++iK D y:=by
 have h1:∀k,k<=D.length->kM (λz=>Op.bytesLess y.name z.name) (C++D) (C.length+k)=C.length+kM (λz=>Op.bytesLess y.name z.name) D k:=by
  intro k;induction k with
  |zero=>
   intro _;refine pG λi hi hlt=>?_;have hiC:i<C.length:=aE;have:(C++D)[i]=C[i]:=List.getElem_append_left hiC;rw[this];have:=h _ (List.getElem_mem hiC);unfold fO at this;simpa using this
  |succ k ih=>
   intro hk;have hkl:C.length+k<(C++D).length:=kG;have e:(C++D)[C.length+k]=D[k]:=by rw[List.getElem_append_right aE];simp
   by_cases hp:Op.bytesLess y.name D[k].name=true
   ·rw[<-Nat.add_assoc,wZ hkl (by rw[e];exact hp),ih aE,wZ aE hp]
   ·rw[pG (k:=k+1) λi hi hlt=>(by have e2:i=k:=aE;subst e2;simpa using hp)];exact pG λi hi hlt=>(by have e2:i=C.length+k:=aE;subst e2;rw[e];simpa using hp)
 unfold iK;rw[List.length_append,h1 D.length (Nat.le_refl _)];unfold gP;rw[List.take_length_add_append,List.drop_length_add_append];simp
theorem Yw{A B:List Df}{x:Df}:x∈kY A B↔x∈A\/x∈B:=by
 have:∀(B A:List Df),(B.foldl iK A).Perm (A++B):=λB=>by
  induction B with
  |nil=>intro A;rw[List.append_nil];exact List.Perm.refl _
  |cons y r ih=>
   intro A;rw[List.foldl_cons];refine(ih _).trans (((Hj A y).append_right r).trans ?_);rw[List.cons_append];exact List.perm_middle.symm
 unfold kY;rw[(this B A).mem_iff,List.mem_append]
theorem Yx(A B:List Df):(kY A B).length=A.length+B.length:=by
 have:∀(B A:List Df),(B.foldl iK A).length=A.length+B.length:=λB=>by
  induction B with
  |nil=>intro A;rfl
  |cons y r ih=>intro A;rw[List.foldl_cons,ih,Lj,List.length_cons];omega
 exact this B A
theorem aAh{C A:List Df}:∀{B:List Df},(∀y∈B,∀x∈A,fO y x)->kY (C++A) B=kY C B++A:=by
 intro B;unfold kY;induction B generalizing C with
 |nil=>intro _;rfl
 |cons y r ih=>
  intro h;rw[List.foldl_cons,List.foldl_cons,IM (h y (List.mem_cons_self ..)),ih λz hz=>h z (List.mem_cons_of_mem _ hz)]
theorem aAi{C D:List Df}:∀{B:List Df},(∀y∈B,∀c∈C,¬fO y c)->kY (C++D) B=C++kY D B:=by
 intro B;unfold kY;induction B generalizing D with
 |nil=>intro _;rfl
 |cons y r ih=>
  intro h;rw[List.foldl_cons,List.foldl_cons,Dc (h y (List.mem_cons_self ..)),ih λz hz=>h z (List.mem_cons_of_mem _ hz)]
theorem Hk{A1 A2 B1 B2:List Df}(h1:∀y∈B1,∀x∈A2,fO y x)(h2:∀y∈B2,∀c∈A1,¬fO y c)(h3:∀y∈B2,∀c∈B1,¬fO y c):kY (A1++A2) (B1++B2)=kY A1 B1++kY A2 B2:=by
 have e:kY (A1++A2) (B1++B2)=kY (kY (A1++A2) B1) B2:=by unfold kY;rw[List.foldl_append]
 rw[e,aAh h1,aAi λy hy c hc=>(Yw.1 hc).elim (h2 y hy c) (h3 y hy c)]
theorem EZ(y:Df):iK [] y=[y]:=rfl
theorem Qh{C:List Df}:∀{B:List Df},dL B->(∀y∈B,∀c∈C,¬fO y c)->kY C B=C++B:=by
 intro B;unfold kY;induction B generalizing C with
 |nil=>intro _ _;simp
 |cons y r ih=>
  intro hs h;have hs:=List.pairwise_cons.1 hs;have e:iK C y=C++[y]:=by
   have:=Dc (C:=C) (D:=[]) (h y (List.mem_cons_self ..));rw[List.append_nil,EZ]at this;exact this
  rw[List.foldl_cons,e,ih hs.2 λz hz c hc=>?_]
  ·simp
  ·rcases List.mem_append.1 hc with hc|hc
   ·exact h z (List.mem_cons_of_mem _ hz) c hc
   ·simp at hc;subst hc;exact hs.1 z hz
theorem IN{B:List Df}(h:dL B):kY [] B=B:=Qh h λ_ _ _ h=>by cases h
theorem Fa(A:List Df):kY A []=A:=rfl
theorem nO(l:List Df):dL (bV l):=(pA l).imp λh=>xP.2 h
theorem dL.take{l:List Df}(h:dL l)(k:Nat):dL (l.take k):=h.sublist (List.take_sublist _ _)
theorem dL.drop{l:List Df}(h:dL l)(k:Nat):dL (l.drop k):=h.sublist (List.drop_sublist _ _)
theorem dL.at_{l:List Df}(h:dL l){i j:Nat}(hij:i<=j)(hj:j<l.length):¬fO l[j] (l[i]'aE):=by
 by_cases e:i=j
 ·subst e;intro h2;rw[xO]at h2;exact List.lt_irrefl _ h2
 ·exact List.pairwise_iff_getElem.1 h i j aE hj aE
theorem Yy{x:Df}{B:List Df}{k:Nat}(h:dL B)(hk:k<=B.length)(h1:k=0\/∃hk:k-1<B.length,fO B[k-1] x)(h2:k=B.length\/∃hk:k<B.length,¬fO B[k] x):kY [x] B=gP k x B:=by
 have e:kY ([]++[x]) (B.take k++B.drop k)=kY [] (B.take k)++kY [x] (B.drop k):=Hk (λy hy z hz=>by
  simp at hz;subst hz;obtain⟨j,hj,rfl⟩:=List.getElem_of_mem hy;rw[List.getElem_take];simp at hj;rcases h1 with h1|⟨hb,h1⟩
  ·omega
  ·exact EX (h.at_ (i:=j) (j:=k-1) aE hb) h1) (λ_ _ _ h=>by cases h) λy hy c hc=>by
  obtain⟨j,hj,rfl⟩:=List.getElem_of_mem hy;obtain⟨i,hi,rfl⟩:=List.getElem_of_mem hc;simp at hi hj;rw[List.getElem_take,List.getElem_drop];exact h.at_ aE aE
 rw[List.nil_append,List.take_append_drop]at e;rw[e,IN (h.take k),Qh (h.drop k) λy hy c hc=>?_]
 ·rfl
 ·simp at hc;subst hc;obtain⟨j,hj,rfl⟩:=List.getElem_of_mem hy;rw[List.getElem_drop];simp at hj;rcases h2 with h2|⟨hb,h2⟩
  ·omega
  ·exact xR h2 (h.at_ (i:=k) (j:=k+j) aE aE)
theorem Wi{y:Df}{A:List Df}{k:Nat}(h:dL A)(hk:k<=A.length)(h1:k=0\/∃hk:k-1<A.length,¬fO y A[k-1])(h2:k=A.length\/∃hk:k<A.length,fO y A[k]):kY A [y]=gP k y A:=by
 show iK A y=_
 conv=>lhs;rw[<-List.take_append_drop k A]
 rw[IM λx hx=>?_]
 ·have:=Dc (C:=A.take k) (D:=[]) (y:=y) λc hc=>by
   obtain⟨i,hi,rfl⟩:=List.getElem_of_mem hc;rw[List.getElem_take];simp at hi;rcases h1 with h1|⟨hb,h1⟩
   ·omega
   ·exact xR (h.at_ (i:=i) (j:=k-1) aE hb) h1
  rw[List.append_nil,EZ]at this;rw[this];unfold gP;simp
 ·obtain⟨j,hj,rfl⟩:=List.getElem_of_mem hx;rw[List.getElem_drop];simp at hj;rcases h2 with h2|⟨hb,h2⟩
  ·omega
  ·exact xQ h2 (h.at_ (i:=k) (j:=k+j) aE aE)
theorem Yz{A B:List Df}(hA:dL A)(hB:dL B){i j:Nat}(hi:i<=A.length)(hj:j<=B.length)(h1:i=0\/j=B.length\/∃(h1:i-1<A.length) (h2:j<B.length),¬fO B[j] A[i-1])
 (h2:j=0\/i=A.length\/∃(h1:j-1<B.length) (h2:i<A.length),fO B[j-1] A[i]):kY A B=kY (A.take i) (B.take j)++kY (A.drop i) (B.drop j):=by
 conv=>lhs;rw[<-List.take_append_drop i A,<-List.take_append_drop j B]
 refine Hk (λy hy x hx=>?_) (λy hy c hc=>?_) (λy hy c hc=>?_)
 ·obtain⟨p,hp,rfl⟩:=List.getElem_of_mem hy;obtain⟨q,hq,rfl⟩:=List.getElem_of_mem hx;simp at hp hq;rw[List.getElem_take,List.getElem_drop];rcases h2 with h2|h2|⟨b1,b2,h2⟩
  ·omega
  ·omega
  ·exact xQ (EX (hB.at_ (i:=p) (j:=j-1) aE b1) h2) (hA.at_ (i:=i) (j:=i+q) aE aE)
 ·obtain⟨p,hp,rfl⟩:=List.getElem_of_mem hy;obtain⟨q,hq,rfl⟩:=List.getElem_of_mem hc;simp at hp hq;rw[List.getElem_take,List.getElem_drop];rcases h1 with h1|h1|⟨b1,b2,h1⟩
  ·omega
  ·omega
  ·exact xR (xR (hA.at_ (i:=q) (j:=i-1) aE b1) h1) (hB.at_ (i:=j) (j:=j+p) aE aE)
 ·obtain⟨p,hp,rfl⟩:=List.getElem_of_mem hy;obtain⟨q,hq,rfl⟩:=List.getElem_of_mem hc;simp at hp hq;rw[List.getElem_take,List.getElem_drop];exact hB.at_ aE aE
theorem oC{Z:List Df}(h:dL Z)(y:Df):iK Z y=Z.filter (λz=> !decide (fO y z))++y::Z.filter λz=>decide (fO y z):=by
 induction Z with
 |nil=>rfl
 |cons z r ih=>
  have h:=List.pairwise_cons.1 h;by_cases hz:fO y z
  ·have hall:∀x∈z::r,fO y x:=λx hx=>by
    rcases List.mem_cons.1 hx with rfl|hx
    ·exact hz
    ·exact xQ hz (h.1 x hx)
   have e1:(z::r).filter (λz=> !decide (fO y z))=[]:=List.filter_eq_nil_iff.2 λx hx=>by simp[hall x hx]
   have e2:(z::r).filter (λz=>decide (fO y z))=z::r:=List.filter_eq_self.2 λx hx=>by simp[hall x hx]
   have:=IM (C:=[]) hall;rw[List.nil_append,EZ]at this;rw[this,e1,e2];rfl
  ·have:=Dc (C:=[z]) (D:=r) (y:=y) λc hc=>by simp at hc;subst hc;exact hz
   rw[List.singleton_append]at this;rw[this,ih h.2];simp[hz]
theorem Lk{Z:List Df}(h:dL Z)(y:Df):Z.filter (λz=> !decide (fO y z))++Z.filter (λz=>decide (fO y z))=Z:=by
 induction Z with
 |nil=>rfl
 |cons z r ih=>
  have h:=List.pairwise_cons.1 h;by_cases hz:fO y z
  ·have hall:∀x∈z::r,fO y x:=λx hx=>by
    rcases List.mem_cons.1 hx with rfl|hx
    ·exact hz
    ·exact xQ hz (h.1 x hx)
   rw[List.filter_eq_nil_iff.2 λx hx=>by simp[hall x hx],List.filter_eq_self.2 λx hx=>by simp[hall x hx]];rfl
  ·have e1:(z::r).filter (λz=> !decide (fO y z))=z::r.filter (λz=> !decide (fO y z)):=(by simp[hz]);have e2:(z::r).filter (λz=>decide (fO y z))=r.filter (λz=>decide (fO y z)):=(by simp[hz]);rw[e1,e2,List.cons_append,ih h.2]
theorem pB{Z:List Df}(h:dL Z)(y:Df):dL (iK Z y):=by
 have h1:Z.Pairwise λa b=>a.name<=b.name:=h.imp λh=>xP.1 h;exact(Cv h1).imp λh=>xP.2 h
theorem SK{Z:List Df}(h:dL Z){y c:Df}(hyc:fO y c):iK (iK Z y) c=iK (iK Z c) y:=by
 have hcy:¬fO c y:=λh2=>by
  rw[xO]at hyc h2;exact List.lt_irrefl _ (List.lt_trans hyc h2)
 have up:∀z,fO c z->fO y z:=λz hz=>by
  rw[xO]at*;exact List.lt_trans hyc hz
 rw[oC (pB h y),oC (pB h c),oC h y,oC h c];simp only[List.filter_append,List.filter_cons,List.filter_filter,hcy,hyc,decide_true,decide_false,Bool.not_true,Bool.not_false,if_true,Bool.false_eq_true,if_false];have e1:Z.filter (λz=> !decide (fO c z)&& !decide (fO y z))=Z.filter λz=> !decide (fO y z):=List.filter_congr λz _=>by by_cases h1:fO c z<;>by_cases h2:fO y z<;>simp[h1,h2];exact h2 (up z h1)
 have e2:Z.filter (λz=> !decide (fO y z)&& !decide (fO c z))=Z.filter λz=> !decide (fO y z):=List.filter_congr λz _=>by by_cases h1:fO c z<;>by_cases h2:fO y z<;>simp[h1,h2];exact h2 (up z h1)
 have e3:Z.filter (λz=>decide (fO c z)&& !decide (fO y z))=[]:=List.filter_eq_nil_iff.2 λz _=>by by_cases h1:fO c z<;>by_cases h2:fO y z<;>simp[h1,h2];exact h2 (up z h1)
 have e4:Z.filter (λz=> !decide (fO y z)&&decide (fO c z))=[]:=List.filter_eq_nil_iff.2 λz _=>by by_cases h1:fO c z<;>by_cases h2:fO y z<;>simp[h1,h2];exact h2 (up z h1)
 have e5:Z.filter (λz=>decide (fO c z)&&decide (fO y z))=Z.filter λz=>decide (fO c z):=List.filter_congr λz _=>by by_cases h1:fO c z<;>by_cases h2:fO y z<;>simp[h1,h2];exact h2 (up z h1)
 have e6:Z.filter (λz=>decide (fO y z)&&decide (fO c z))=Z.filter λz=>decide (fO c z):=List.filter_congr λz _=>by by_cases h1:fO c z<;>by_cases h2:fO y z<;>simp[h1,h2];exact h2 (up z h1)
 have e7:Z.filter (λz=>decide (fO y z)&& !decide (fO c z))=Z.filter λz=> !decide (fO c z)&&decide (fO y z):=List.filter_congr λz _=>by by_cases h1:fO c z<;>by_cases h2:fO y z<;>simp[h1,h2]
 simp[e1,e2,e3,e4,e5,e6,e7]
theorem Ll{X:List Df}(h:dL X):∀(C:List Df),dL (kY X C):=λC=>by
 unfold kY;induction C generalizing X with
 |nil=>exact h
 |cons y r ih=>exact ih (pB h y)
theorem Lm{y:Df}:∀{G X:List Df},dL X->(∀c∈G,fO y c)->kY (iK X y) G=iK (kY X G) y
 |[],_,_,_=>rfl
 |c::r,X,h,hG=>by
  show kY (iK (iK X y) c) r=iK (kY (iK X c) r) y;rw[SK h (hG c (List.mem_cons_self ..)),Lm (pB h c) λz hz=>hG z (List.mem_cons_of_mem _ hz)]
theorem Wj{X C:List Df}(hX:dL X)(hC:dL C)(y:Df):kY X (iK C y)=iK (kY X C) y:=by
 have e:∀A B:List Df,kY X (A++B)=kY (kY X A) B:=λA B=>by unfold kY;rw[List.foldl_append]
 rw[oC hC y,e]
 conv=>rhs;rw[<-Lk hC y,e]
 exact Lm (Ll hX _) λc hc=>by have:=(List.mem_filter.1 hc).2;simpa using this
theorem SL{X:List Df}(hX:dL X)(C:List Df):kY X (bV C)=kY X C:=by
 have:∀n,n<=C.length->kY X (bV (C.take n))=kY X (C.take n):=λn=>by
  induction n with
  |zero=>intro _;rfl
  |succ n ih=>
   intro hn;rw[EV aE,Wj hX (nO _),ih aE,List.take_succ_eq_append_getElem aE];unfold kY;rw[List.foldl_append];rfl
 have h:=this C.length (Nat.le_refl _);rw[List.take_length]at h;exact h
theorem SM(A B:List Df):kY (bV A) (bV B)=bV (A++B):=by
 rw[SL (nO A)];unfold kY bV;rw[List.foldl_append]
section
attribute[local simp] kQ.cond Nd.d_eq nd_t nd_dr nd_td ndsD aZ bF
theorem Wk{x:Int}(h0:0<=x)(h:x<18446744073709551616):IntKind.u64.wrap x=x:=by
 unfold IntKind.wrap;simp[IntKind.bits,IntKind.signed];omega
theorem Wl{x:Int}(h0:0<=x)(h:x<9223372036854775808):IntKind.i64.wrap x=x:=by
 unfold IntKind.wrap;simp[IntKind.bits,IntKind.signed];omega
theorem Dd{x:Int}{n w:Nat}(hx:x=(n:Int))(hn:n<9000000000000000000)(hw:n / 2=w):IntKind.i64.wrap ((IntKind.u64.wrap x).fdiv (2^min 1 IntKind.u64.bits))=(w:Int):=by
 subst hx;rw[Wk aE aE,show(2:Int)^min 1 IntKind.u64.bits=2 by decide,show((n:Int)).fdiv 2=((n / 2:Nat):Int)by rw[Int.fdiv_eq_ediv_of_nonneg _ aE];rfl,hw];exact Wl aE aE
theorem Ln{A o t:List Df}{x:Df}{j:Nat}(hj:j<=o.length):(iD A o t x j)[A.length+j]? =some x:=by
 rw[List.getElem?_eq_getElem (by rw[wA];omega),Qf hj]
theorem SN{A o t:List Df}{x:Df}{j:Nat}(hj:j<o.length):(iD A o t x (j+1))[A.length+j]? =some o[j]:=by
 rw[List.getElem?_eq_getElem (by rw[wA];omega),Hh hj]
theorem SO{A o t:List Df}{x:Df}{j:Nat}(hj:j<o.length):(iD A o t x j)[A.length+(j+1)]? =some o[j]:=by
 unfold iD gP;rw[List.getElem?_append_right aE,Nat.add_sub_cancel_left,List.getElem?_append_left kG,List.getElem?_append_right kG,List.length_take,show j+1-min j o.length=1 by omega,List.getElem?_cons_succ,List.getElem?_drop,Nat.add_zero,List.getElem?_eq_getElem hj]
theorem On{A o t:List Df}{x:Df}{j:Nat}(hj:j<o.length):((iD A o t x j).set (A.length+j) o[j]).set (A.length+(j+1)) x=iD A o t x (j+1):=by
 unfold iD gP;have e1:o.take (j+1)=o.take j++[o[j]]:=List.take_succ_eq_append_getElem hj;have e2:o.drop j=o[j]::o.drop (j+1):=List.drop_eq_getElem_cons hj;have hl:(o.take j).length=j:=kG;rw[e1,e2];rw[List.set_append_right _ _ aE,Nat.add_sub_cancel_left,List.set_append_right _ _ aE,Nat.add_sub_cancel_left];congr 1;simp only[List.append_assoc,List.cons_append,List.nil_append];rw[List.set_append_right _ _ aE,hl,Nat.sub_self,List.set_append_right _ _ aE,hl,show j+1-j=1 by omega];rfl
def Hl(P B C S:List Df)(a m b N:Nat):Prop:=
 iG prog 118 [.ow 0 0 N,.d (aI a),.d (aI m),.d (aI b),.d (.fn 40 [])] [(0,.row false 2 ((P++(B++(C++S))).map Df.d))] [(0,.row false 2 ((P++(kY B C++S)).map Df.d))] (.tup [])
structure aAj(P B C S:List Df)(a m b N:Nat):Prop where
 hB:0<B.length
 hC:0<C.length
 sB:dL B
 sC:dL C
 ha:P.length=a
 hm:a+B.length=m
 hb:m+C.length=b
 hN:b+S.length=N
 hl:N<=1000000
theorem IP{a b:Df}:xY a.name b.name<0↔fO a b:=IL
theorem aAX(P B C S:List Df){a m b:Nat}(ha:P.length=a)(hm:a+B.length=m)(hb:m+C.length=b):(∀c,∀hc:c<B.length,(P++(B++(C++S)))[a+c]? =some B[c])/\∀c,∀hc:c<C.length,(P++(B++(C++S)))[m+c]? =some C[c]:=by
 subst ha;subst hm;subst hb;refine⟨λc hc=>?_,λc hc=>?_⟩
 ·rw[List.getElem?_append_right aE,Nat.add_sub_cancel_left,List.getElem?_append_left hc,List.getElem?_eq_getElem hc]
 ·rw[List.getElem?_append_right aE,show P.length+B.length+c-P.length=B.length+c by omega,List.getElem?_append_right aE,Nat.add_sub_cancel_left,List.getElem?_append_left hc,List.getElem?_eq_getElem hc]
theorem Lo{l:List Df}(h:l.length=1):∃x,l=[x]:=by
 match l,h with
 |[x],_=>exact⟨x,rfl⟩
set_option pp.maxSteps 100000 in
theorem Oo(P B C S:List Df)(a m b N:Nat)(h:aAj P B C S a m b N)(ih:∀P' B' C' S' a' m' b',aAj P' B' C' S' a' m' b' N->B'.length+C'.length<B.length+C.length->Hl P' B' C' S' a' m' b' N):iG prog 118 [.ow 0 0 N,.d (aI a),.d (aI m),.d (aI b),.d (.fn 40 [])] [(0,.row false 2 ((P++(B++(C++S))).map Df.d))] [(0,.row false 2 ((P++(kY B C++S)).map Df.d))] (.tup []):=by
 obtain⟨hB,hC,sB,sC,ha,hm,hb,hN,hl⟩:=h;obtain⟨atB,atC⟩:=aAX P B C S ha hm hb;obtain⟨s0,hs0⟩:∃s0,P++(B++(C++S))=s0:=⟨_,rfl⟩;have hs0N:s0.length=N:=by rw[<-hs0];simp only[List.length_append];omega
 obtain⟨T,hTe⟩:∃T,P++(kY B C++S)=T:=⟨_,rfl⟩;rw[hs0]at atB atC|-;rw[hTe];refine fY func118 bY (c:=_) rfl ntmps118 aM results118 λw0 X hp=>?_;apply dT;simp[(show(m:Int)-(a:Int)=((B.length:Nat):Int)by omega)];refine⟨aE,?_⟩;apply aJ;simp;refine⟨λh0=>?_,λh0=>?_⟩
 ·obtain⟨x,hx⟩:=Lo (l:=B) aE;subst hx;have hm1:a+1=m:=hm;have ax:=atB 0 aM;rw[Nat.add_zero]at ax;obtain⟨kx,ex⟩:=uG ax;have ex:s0[a]=x:=ex;apply aD;simp;apply aD;simp;apply dH;refine aU (ι:=Nat×Nat) (λ⟨p,q⟩=>aR [(0,.ow 0 0 N),(1,.d (aI a)),(2,.d (aI m)),(3,.d (aI b)),(4,.d (.fn 40 [])),(10,.d (aI (m+p))),(11,.d (aI (m+q)))]) (λ⟨p,q⟩=>aL [(0,.row false 2 (s0.map Df.d))]) (λ⟨p,q⟩=>p<=q/\q<=C.length/\(p=0\/∃hk:p-1<C.length,fO C[p-1] x)/\(q=C.length\/∃hk:q<C.length,¬fO C[q] x)) (λ⟨p,q⟩=>q-p) (0,C.length) (aA hp [0,1,2,3,4,10,11] [(0,0)] (by simp[show(b:Int)=(m:Int)+(C.length:Int)by omega])) (⟨Nat.zero_le _,Nat.le_refl _,.inl rfl,.inl rfl⟩) λ⟨p,q⟩ hi3=>?_;apply aG;apply aV;simp;refine⟨λh3=>?_,λh3=>?_⟩
  ·apply aF;simp;apply aO;apply aG;obtain⟨hq0,hq1,hq2,hq3⟩:=hi3;obtain⟨w,hw⟩:∃w,(p+q) / 2=w:=⟨_,rfl⟩;have hwl:w<C.length:=aE;have aw:=atC w hwl;obtain⟨kw,ew⟩:=uG aw;have hcw:xY C[w].name x.name<0↔fO C[w] x:=IP;have hh:IntKind.i64.wrap ((IntKind.u64.wrap ((m:Int)+(p:Int)+((m:Int)+(q:Int)))).fdiv (2^min 1 IntKind.u64.bits))=((m+w:Nat):Int):=Dd (n:=2*m+p+q) aE aE aE;obtain⟨z,hz⟩:∃z,C[w]=z:=⟨_,rfl⟩;rw[hz]at ew hcw;apply aK;simp[hh];refine⟨aE,?_⟩;apply aG;have kcm:=AF z x;refine eW.rd [] [[],[],[],[],[],[],[],[],[],[49]] (λ|49=>some<| .plain ⟨.d (aI (xY z.name x.name)),true⟩|_=>none) ?_;simp[kw,ew,kx,ex,(show((m:Int)+(w:Int)).toNat=m+w by omega)];refine⟨⟨⟨aE,aE⟩,by simpa using kcm⟩,?_⟩;apply aJ;simp;refine⟨λh5=>?_,λh5=>?_⟩
   ·apply aK;simp;refine⟨aE,?_⟩;refine Pq.mk (w+1,q) (aA hp [0,1,2,3,4,10,11] [(0,0)] (by simp[show(m:Int)+(w:Int)+1=(m:Int)+((w:Int)+1)by omega])) ?_ ?_
    ·exact⟨uB,hq1,.inr ⟨uB,by simpa [hz]using hcw.1 h5⟩,hq3⟩
    ·dsimp only;omega
   ·apply aK;simp;refine Pq.mk (p,w) (aA hp [0,1,2,3,4,10,11] [(0,0)]) ?_ ?_
    ·exact⟨uB,uB,hq2,.inr ⟨hwl,λe=>by have:=hcw.2 (hz▸e);omega⟩⟩
    ·dsimp only;omega
  ·apply bE;simp;apply eA;obtain⟨hq0,hq1,hq2,hq3⟩:=hi3;have hpq:p=q:=aE;subst hpq;have hfin:iD P C S x p=T:=by
    rw[<-hTe,Yy sC hq1 hq2 hq3];rfl
   apply aK;simp;apply aO;refine aU (ι:=Nat×List Df) (λ⟨t,r⟩=>aR [(0,.ow 0 0 N),(1,.d (aI a)),(2,.d (aI m)),(3,.d (aI b)),(4,.d (.fn 40 [])),(10,.d (aI (m+p))),(13,.d (aI (a+t)))]) (λ⟨t,r⟩=>aL [(0,.row false 2 (r.map Df.d))]) (λ⟨t,r⟩=>t<=p/\Is r (iD P C S x t)) (λ⟨t,r⟩=>p-t) (0,s0) (aA hp [0,1,2,3,4,10,13] [(0,0)]) (⟨Nat.zero_le _,by show _=_;rw[<-hs0];simp[iD,gP]⟩) λ⟨t,r⟩ hi9=>?_;apply dT;simp;refine⟨aE,?_⟩;apply aJ;simp;refine⟨λh9=>?_,λh9=>?_⟩
   ·apply aF;simp;apply dH;obtain⟨ht9,hr9⟩:=hi9;have hr9:r=iD P C S x t:=hr9;have htp:t<p:=aE;have q1:r[a+t]? =some x:=by have:=Ln (A:=P) (o:=C) (t:=S) (x:=x) (j:=t) aE;rw[ha]at this;rw[hr9];exact this
    have q2:r[a+(t+1)]? =some (C[t]'aE):=by have:=SO (A:=P) (o:=C) (t:=S) (x:=x) (j:=t) aE;rw[ha]at this;rw[hr9];exact this
    obtain⟨k1,e1⟩:=uG q1;obtain⟨k2,e2⟩:=uG q2;have hrN:r.length=N:=by rw[hr9,wA];omega
    refine eW.rd [[],[],[0],[0],[0]] [[],[],[],[],[],[],[],[],[],[],[],[],[],[],[],[0],[],[0]] (λ_=>none) ?_;simp[k1,k2,(show((a:Int)+(t:Int)).toNat=a+t by omega),(show((a:Int)+(t:Int)+1).toNat=a+(t+1)by omega)];refine⟨by(repeat' with_reducible apply And.intro)<;>omega,?_⟩;apply aK;simp;refine⟨aE,?_⟩;refine Pq.mk (t+1,(r.set (a+t) r[a+(t+1)]).set (a+(t+1)) r[a+t]) (aA hp [0,1,2,3,4,10,13] [(0,0)] (by simp[show(a:Int)+(t:Int)+1=(a:Int)+((t:Int)+1)by omega]) (by simp[List.map_set,Df.d])) ?_ ?_
    ·exact⟨uB,by
      have q:=On (A:=P) (o:=C) (t:=S) (x:=x) (j:=t) aE;rw[ha]at q;show _=_;dsimp only;rw[e1,e2,hr9];exact q⟩
    ·omega
   ·apply bE;simp;apply aH;obtain⟨ht9,hr9⟩:=hi9;have hr9:r=iD P C S x t:=hr9;have etp:t=p:=aE;subst etp;rw[hfin]at hr9;simp;exact aA hp [] [(0,0)] (hH:=by simp[hr9])
 ·apply aF;simp;apply dT;simp[(show(b:Int)-(m:Int)=((C.length:Nat):Int)by omega)];refine⟨aE,?_⟩;apply aJ;simp;refine⟨λh12=>?_,λh12=>?_⟩
  ·obtain⟨y,hy⟩:=Lo (l:=C) aE;subst hy;have hb1:m+1=b:=hb;have ay:=atC 0 aM;rw[Nat.add_zero]at ay;obtain⟨ky,ey⟩:=uG ay;have ey:s0[m]=y:=ey;apply aD;simp;apply aD;simp;apply dH;refine aU (ι:=Nat×Nat) (λ⟨p,q⟩=>aR [(0,.ow 0 0 N),(1,.d (aI a)),(2,.d (aI m)),(3,.d (aI b)),(4,.d (.fn 40 [])),(14,.d (aI (a+p))),(15,.d (aI (a+q)))]) (λ⟨p,q⟩=>aL [(0,.row false 2 (s0.map Df.d))]) (λ⟨p,q⟩=>p<=q/\q<=B.length/\(p=0\/∃hk:p-1<B.length,¬fO y B[p-1])/\(q=B.length\/∃hk:q<B.length,fO y B[q])) (λ⟨p,q⟩=>q-p) (0,B.length) (aA hp [0,1,2,3,4,14,15] [(0,0)] (by simp[show(m:Int)=(a:Int)+(B.length:Int)by omega])) (⟨Nat.zero_le _,Nat.le_refl _,.inl rfl,.inl rfl⟩) λ⟨p,q⟩ hi15=>?_;apply aG;apply aV;simp;refine⟨λh15=>?_,λh15=>?_⟩
   ·apply aF;simp;apply aO;apply aG;obtain⟨hq0,hq1,hq2,hq3⟩:=hi15;obtain⟨w,hw⟩:∃w,(2*a+p+q) / 2-a=w:=⟨_,rfl⟩;have hwl:w<B.length:=aE;have aw:=atB w hwl;obtain⟨kw,ew⟩:=uG aw;have hcw:xY y.name B[w].name<0↔fO y B[w]:=IP;have hh:IntKind.i64.wrap ((IntKind.u64.wrap ((a:Int)+(p:Int)+((a:Int)+(q:Int)))).fdiv (2^min 1 IntKind.u64.bits))=((a+w:Nat):Int):=Dd (n:=2*a+p+q) aE aE aE;obtain⟨z,hz⟩:∃z,B[w]=z:=⟨_,rfl⟩;rw[hz]at ew hcw;apply aK;simp[hh];refine⟨aE,?_⟩;apply aG;have kcm:=AF y z;refine eW.rd [] [[],[],[],[],[],[],[],[],[],[101]] (λ|101=>some<| .plain ⟨.d (aI (xY y.name z.name)),true⟩|_=>none) ?_;simp[kw,ew,ky,ey,(show((a:Int)+(w:Int)).toNat=a+w by omega)];refine⟨⟨⟨aE,aE⟩,by simpa using kcm⟩,?_⟩;apply aJ;simp;refine⟨λh17=>?_,λh17=>?_⟩
    ·apply aK;simp;refine⟨aE,?_⟩;refine Pq.mk (w+1,q) (aA hp [0,1,2,3,4,14,15] [(0,0)] (by simp[show(a:Int)+(w:Int)+1=(a:Int)+((w:Int)+1)by omega])) ?_ ?_
     ·exact⟨uB,hq1,.inr ⟨uB,λe=>by have:=hcw.2 (by simpa [hz]using e);omega⟩,hq3⟩
     ·dsimp only;omega
    ·apply aK;simp;refine Pq.mk (p,w) (aA hp [0,1,2,3,4,14,15] [(0,0)]) ?_ ?_
     ·exact⟨uB,uB,hq2,.inr ⟨hwl,hz▸hcw.1 aE⟩⟩
     ·dsimp only;omega
   ·apply bE;simp;apply eA;obtain⟨hq0,hq1,hq2,hq3⟩:=hi15;have hpq:p=q:=aE;subst hpq;have hfin:iD P B S y p=T:=by
     rw[<-hTe,Wi sB hq1 hq2 hq3];rfl
    apply aK;simp;apply aO;refine aU (ι:=Nat×List Df) (λ⟨t,r⟩=>aR [(0,.ow 0 0 N),(1,.d (aI a)),(2,.d (aI m)),(3,.d (aI b)),(4,.d (.fn 40 [])),(14,.d (aI (a+p))),(17,.d (aI (a+t)))]) (λ⟨t,r⟩=>aL [(0,.row false 2 (r.map Df.d))]) (λ⟨t,r⟩=>p<=t/\t<=B.length/\Is r (iD P B S y t)) (λ⟨t,r⟩=>t) (B.length,s0) (aA hp [0,1,2,3,4,14,17] [(0,0)] (by simp[show(m:Int)=(a:Int)+(B.length:Int)by omega])) (⟨hq1,Nat.le_refl _,by show _=_;rw[<-hs0];simp[iD,gP]⟩) λ⟨t,r⟩ hi21=>?_;apply aG;apply aV;simp;refine⟨λh21=>?_,λh21=>?_⟩
    ·apply aF;simp;apply dH;obtain⟨ht8,ht9,hr9⟩:=hi21;have hr9:r=iD P B S y t:=hr9;obtain⟨j,rfl⟩:∃j,t=j+1:=⟨t-1,aE⟩;have q1:r[a+(j+1)]? =some y:=by have:=Ln (A:=P) (o:=B) (t:=S) (x:=y) (j:=j+1) aE;rw[ha]at this;rw[hr9];exact this
     have q2:r[a+j]? =some (B[j]'aE):=by have:=SN (A:=P) (o:=B) (t:=S) (x:=y) (j:=j) aE;rw[ha]at this;rw[hr9];exact this
     obtain⟨k1,e1⟩:=uG q1;obtain⟨k2,e2⟩:=uG q2;have hrN:r.length=N:=by rw[hr9,wA];simp at hb;omega
     refine eW.rd [[],[],[0],[0],[0]] [[],[],[],[],[],[],[],[],[],[],[],[],[],[],[],[0],[],[0]] (λ_=>none) ?_;simp[k1,k2,(show((a:Int)+((j:Int)+1)).toNat=a+(j+1)by omega),(show((a:Int)+((j:Int)+1)- 1).toNat=a+j by omega),(show(a:Int)+((j:Int)+1)- 1=(a:Int)+(j:Int)by omega),(show((a:Int)+(j:Int)).toNat=a+j by omega)];refine⟨by(repeat' with_reducible apply And.intro)<;>omega,?_⟩;apply aK;simp;refine⟨aE,?_⟩;refine Pq.mk (j,(r.set (a+(j+1)) r[a+j]).set (a+j) r[a+(j+1)]) (aA hp [0,1,2,3,4,14,17] [(0,0)] (by simp[show(a:Int)+((j:Int)+1)- 1=(a:Int)+(j:Int)by omega]) (by simp[List.map_set,Df.d])) ?_ ?_
     ·exact⟨uB,uB,by
       have q:=Hi (A:=P) (o:=B) (t:=S) (x:=y) (j:=j) aE;rw[ha]at q;show _=_;dsimp only;rw[e1,e2,hr9];exact q⟩
     ·dsimp only;omega
    ·apply bE;simp;apply aH;obtain⟨ht8,ht9,hr9⟩:=hi21;have hr9:r=iD P B S y t:=hr9;have etp:t=p:=aE;subst etp;rw[hfin]at hr9;simp;exact aA hp [] [(0,0)] (hH:=by simp[hr9])
  ·apply aF;simp;apply aG;obtain⟨mid,hmid⟩:∃mid,(a+b) / 2=mid:=⟨_,rfl⟩;have hh:IntKind.i64.wrap ((IntKind.u64.wrap ((a:Int)+(b:Int))).fdiv (2^min 1 IntKind.u64.bits))=(mid:Int):=Dd (n:=a+b) aE aE hmid;obtain⟨lo,hi',hlo1,hlo2⟩:∃lo hi':Nat,(mid<m->lo+b=mid+m/\hi'=mid)/\(m<=mid->lo=a/\hi'=m):=by
    by_cases e:mid<m
    ·exact⟨mid+m-b,mid,λ_=>⟨aE,rfl⟩,λ_=>aE⟩
    ·exact⟨a,m,λ_=>aE,λ_=>⟨rfl,rfl⟩⟩
   have hlo:a<=lo/\lo<=hi'/\hi'<=m/\hi'<=mid/\mid+m<=lo+b/\(lo=a\/lo+b=mid+m)/\(hi'=m\/hi'=mid):=by
    by_cases e:mid<m
    ·have:=hlo1 e;omega
    ·have:=hlo2 aE;omega
   obtain⟨l1,l2,l3,l4,l5,l6,l7⟩:=hlo;apply aK;simp[hh];refine⟨aE,?_⟩;apply aD;simp;refine⟨aE,?_⟩;apply aD;simp;refine aY (ι:=Unit) (λu=>aR [(0,.ow 0 0 N),(1,.d (aI a)),(2,.d (aI m)),(3,.d (aI b)),(4,.d (.fn 40 [])),(18,.d (aI mid)),(19,.d (aI (mid+m))),(20,.d (aI lo)),(21,.d (aI hi'))]) (λu=>aL [(0,.row false 2 (s0.map Df.d))]) (λu=>True) ?_ λu hc32=>?_
   ·apply aV;simp;refine⟨λh27=>?_,λh27=>?_⟩
    ·have q27:=hlo1 aE;apply aD;simp;refine⟨aE,?_⟩;apply aK;simp;exact(aA hp [0,1,2,3,4,18,19,20,21] [(0,0)] (by simp[show(mid:Int)+(m:Int)-(b:Int)=(lo:Int)by omega,show(hi':Int)=(mid:Int)by omega]))
    ·have q27:=hlo2 aE;apply aD;simp;apply aK;simp;exact(aA hp [0,1,2,3,4,18,19,20,21] [(0,0)] (by simp[show(lo:Int)=(a:Int)by omega,show(hi':Int)=(m:Int)by omega]))
   ·apply aD;simp;refine⟨aE,?_⟩;apply dH;refine aU (ι:=Nat×Nat) (λ⟨st,rr⟩=>aR [(0,.ow 0 0 N),(1,.d (aI a)),(2,.d (aI m)),(3,.d (aI b)),(4,.d (.fn 40 [])),(18,.d (aI mid)),(19,.d (aI (mid+m))),(20,.d (aI st)),(21,.d (aI rr)),(22,.d (aI (mid+m-1)))]) (λ⟨st,rr⟩=>aL [(0,.row false 2 (s0.map Df.d))]) (λ⟨st,rr⟩=>lo<=st/\st<=rr/\rr<=hi'/\(st=lo\/∃(h1:mid-st<C.length) (h2:st-1-a<B.length),¬fO C[mid-st] B[st-1-a])/\(rr=hi'\/∃(h1:mid-1-rr<C.length) (h2:rr-a<B.length),fO C[mid-1-rr] B[rr-a])) (λ⟨st,rr⟩=>rr-st) (lo,hi') (aA hp [0,1,2,3,4,18,19,20,21,22] [(0,0)]) (⟨Nat.le_refl _,l2,Nat.le_refl _,.inl rfl,.inl rfl⟩) λ⟨st,rr⟩ hi33=>?_;apply aG;apply aV;simp;refine⟨λh33=>?_,λh33=>?_⟩
    ·apply aF;simp;apply aO;apply aG;obtain⟨hq0,hq1,hq2,hq3,hq4⟩:=hi33;obtain⟨w,hw⟩:∃w,(st+rr) / 2=w:=⟨_,rfl⟩;have hh2:IntKind.i64.wrap ((IntKind.u64.wrap ((st:Int)+(rr:Int))).fdiv (2^min 1 IntKind.u64.bits))=(w:Int):=Dd (n:=st+rr) aE aE hw;have hw1:mid-1-w<C.length:=aE;have hw2:w-a<B.length:=aE;have aC:=atC _ hw1;have aB:=atB _ hw2;rw[show a+(w-a)=w by omega]at aB;obtain⟨kB,eB⟩:=uG aB;obtain⟨kC,eC⟩:=uG aC;obtain⟨z1,hz1⟩:∃z,C[mid-1-w]=z:=⟨_,rfl⟩;obtain⟨z2,hz2⟩:∃z,B[w-a]=z:=⟨_,rfl⟩;have hcw:xY z1.name z2.name<0↔fO z1 z2:=IP;rw[hz1]at eC;rw[hz2]at eB;apply aK;simp[hh2];refine⟨aE,?_⟩;apply aG;have kcm:=AF z1 z2;refine eW.rd [] [[],[],[],[],[],[],[],[],[],[],[],[169]] (λ|169=>some<| .plain ⟨.d (aI (xY z1.name z2.name)),true⟩|_=>none) ?_;simp[kB,eB,kC,eC,(show((mid:Int)+(m:Int)- 1-(w:Int)).toNat=m+(mid-1-w)by omega)];refine⟨by(repeat' with_reducible apply And.intro)<;>first|omega|simpa using kcm,?_⟩;apply aJ;simp;refine⟨λh35=>?_,λh35=>?_⟩
     ·apply aK;simp;refine⟨aE,?_⟩;refine Pq.mk (w+1,rr) (aA hp [0,1,2,3,4,18,19,20,21,22] [(0,0)]) ?_ ?_
      ·exact⟨uB,uB,hq2,.inr ⟨uB,uB,λe=>by have:=hcw.2 (by rw[<-hz1,<-hz2];simpa [show mid-(w+1)=mid-1-w by omega]using e);omega⟩,hq4⟩
      ·dsimp only;omega
     ·apply aK;simp;refine Pq.mk (st,w) (aA hp [0,1,2,3,4,18,19,20,21,22] [(0,0)]) ?_ ?_
      ·exact⟨hq0,uB,uB,hq3,.inr ⟨hw1,hw2,by have:=hcw.1 aE;rw[<-hz1,<-hz2]at this;exact this⟩⟩
      ·dsimp only;omega
    ·apply bE;simp;apply aG;obtain⟨hq0,hq1,hq2,hq3,hq4⟩:=hi33;have hsr:st=rr:=aE;subst hsr;obtain⟨en,hen⟩:∃en,mid+m-st=en:=⟨_,rfl⟩;obtain⟨i,hi⟩:∃i,st-a=i:=⟨_,rfl⟩;obtain⟨j,hj⟩:∃j,mid-st=j:=⟨_,rfl⟩;have hcut:kY B C=kY (B.take i) (C.take j)++kY (B.drop i) (C.drop j):=Yz sB sC aE aE (by
      rcases hq3 with hq3|⟨g1,g2,g3⟩
      ·rcases l6 with l6|l6
       ·exact .inl aE
       ·exact .inr (.inl aE)
      ·exact .inr (.inr ⟨aE,aE,by simpa [<-hi,<-hj,show st-a-1=st-1-a by omega]using g3⟩)) (by
      rcases hq4 with hq4|⟨g1,g2,g3⟩
      ·rcases l7 with l7|l7
       ·exact .inr (.inl aE)
       ·exact .inl aE
      ·exact .inr (.inr ⟨aE,aE,by simpa [<-hi,<-hj,show mid-st-1=mid-1-st by omega]using g3⟩))
     obtain⟨A1,hA1⟩:∃A1,B.take i=A1:=⟨_,rfl⟩;obtain⟨A2,hA2⟩:∃A2,B.drop i=A2:=⟨_,rfl⟩;obtain⟨B1,hB1⟩:∃B1,C.take j=B1:=⟨_,rfl⟩;obtain⟨B2,hB2⟩:∃B2,C.drop j=B2:=⟨_,rfl⟩;have hBA:A1++A2=B:=by rw[<-hA1,<-hA2,List.take_append_drop]
     have hCB:B1++B2=C:=(by rw[<-hB1,<-hB2,List.take_append_drop]);have nA1:A1.length=i:=(by rw[<-hA1,List.length_take];omega);have nA2:A2.length=m-st:=(by rw[<-hA2,List.length_drop];omega);have nB1:B1.length=j:=(by rw[<-hB1,List.length_take];omega);have nB2:B2.length=b-en:=(by rw[<-hB2,List.length_drop];omega);have sA1:dL A1:=(by rw[<-hA1];exact sB.take i);have sA2:dL A2:=(by rw[<-hA2];exact sB.drop i);have sB1:dL B1:=(by rw[<-hB1];exact sC.take j);have sB2:dL B2:=(by rw[<-hB2];exact sC.drop j);rw[hA1,hA2,hB1,hB2]at hcut;have hs1:s0=P++(A1++(A2++(B1++(B2++S)))):=by rw[<-hs0,<-hBA,<-hCB];simp
     have hTT:P++(kY A1 B1++(kY A2 B2++S))=T:=by rw[<-hTe,hcut];simp
     have hen2:(mid:Int)+(m:Int)-(st:Int)=(en:Int):=aE;apply aK;simp[hen2];refine⟨aE,?_⟩;refine aY (ι:=Unit) (λu2=>aR [(0,.ow 0 0 N),(1,.d (aI a)),(2,.d (aI m)),(3,.d (aI b)),(4,.d (.fn 40 [])),(18,.d (aI mid)),(20,.d (aI st)),(24,.d (aI en))]) (λu2=>aL [(0,.row false 2 ((P++(A1++(B1++(A2++(B2++S))))).map Df.d))]) (λu2=>True) ?_ λu2 hc41=>?_
     ·apply aV;simp;refine⟨λh39 h39b=>?_,λh39=>?_⟩
      ·have kr:=Wh (P++A1) A2 B1 (B2++S) st m en N (λe=>by rw[e]at nA2;simp at nA2;omega) (λe=>by rw[e]at nB1;simp at nB1;omega) kG aE aE kG hl;have hr1:P++A1++(A2++(B1++(B2++S)))=s0:=by rw[hs1];simp
       have hr2:P++A1++(B1++(A2++(B2++S)))=P++(A1++(B1++(A2++(B2++S)))):=aM;rw[hr1,hr2]at kr;obtain⟨r1,hr1e⟩:∃r1,P++(A1++(B1++(A2++(B2++S))))=r1:=⟨_,rfl⟩;rw[hr1e]at kr;refine aP (λ|191=>some (.gen ⟨[(0,0)],[],[],[(0,.row false 2 (r1.map Df.d))],.tup []⟩)|_=>none) ?_;simp;refine⟨kr,?_⟩;rw[<-hr1e];exact(aA hp [0,1,2,3,4,18,20,24] [(0,0)])
      ·have hno:s0=P++(A1++(B1++(A2++(B2++S)))):=by
        rw[hs1];by_cases e:st<m
        ·have:B1=[]:=List.eq_nil_of_length_eq_zero (by have:=h39 aE;omega);rw[this];simp
        ·have:A2=[]:=List.eq_nil_of_length_eq_zero aE;rw[this];simp
       apply aF;simp;exact(aA hp [0,1,2,3,4,18,20,24] [(0,0)] (hH:=by simp[hno]))
     ·refine aY (ι:=Unit) (λu3=>aR [(0,.ow 0 0 N),(1,.d (aI a)),(2,.d (aI m)),(3,.d (aI b)),(4,.d (.fn 40 [])),(18,.d (aI mid)),(20,.d (aI st)),(24,.d (aI en))]) (λu3=>aL [(0,.row false 2 ((P++(kY A1 B1++(A2++(B2++S)))).map Df.d))]) (λu3=>True) ?_ λu3 hc43=>?_
      ·apply aV;simp;refine⟨λh41 h41b=>?_,λh41=>?_⟩
       ·have k1:=ih P A1 B1 (A2++(B2++S)) a st mid ⟨aE,aE,sA1,sB1,ha,aE,aE,kG,hl⟩ aE;unfold Hl at k1;obtain⟨r2,hr2e⟩:∃r2,P++(kY A1 B1++(A2++(B2++S)))=r2:=⟨_,rfl⟩;rw[hr2e]at k1;simp at k1;refine aP (λ|205=>some (.gen ⟨[(0,0)],[],[],[(0,.row false 2 (r2.map Df.d))],.tup []⟩)|_=>none) ?_;simp;refine⟨k1,?_⟩;rw[<-hr2e];exact(aA hp [0,1,2,3,4,18,20,24] [(0,0)])
       ·have hno2:kY A1 B1=A1++B1:=by
         by_cases e:a<st
         ·have:B1=[]:=List.eq_nil_of_length_eq_zero (by have:=h41 aE;omega);rw[this];simp[Fa]
         ·have:A1=[]:=List.eq_nil_of_length_eq_zero aE;rw[this,IN sB1];rfl
        apply aF;simp;exact(aA hp [0,1,2,3,4,18,20,24] [(0,0)] (hH:=by simp[hno2]))
      ·apply aV;simp;refine⟨λh43 h43b=>?_,λh43=>?_⟩
       ·have k2:=ih (P++kY A1 B1) A2 B2 S mid en b ⟨aE,aE,sA2,sB2,by rw[List.length_append,Yx];omega,aE,aE,aE,hl⟩ aE;unfold Hl at k2;rw[show P++kY A1 B1++(kY A2 B2++S)=T by rw[<-hTT];simp]at k2;simp at k2;refine aP (λ|219=>some (.gen ⟨[(0,0)],[],[],[(0,.row false 2 (T.map Df.d))],.tup []⟩)|_=>none) ?_;simp;refine⟨k2,?_⟩;exact aA hp [] [(0,0)]
       ·have hno3:kY A2 B2=A2++B2:=by
         by_cases e:mid<en
         ·have:B2=[]:=List.eq_nil_of_length_eq_zero (by have:=h43 aE;omega);rw[this];simp[Fa]
         ·have:A2=[]:=List.eq_nil_of_length_eq_zero aE;rw[this,IN sB2];rfl
        apply aF;simp;have hT3:T=P++(kY A1 B1++(A2++(B2++S))):=by rw[<-hTT,hno3];simp
        exact aA hp [] [(0,0)] (hH:=by simp[hT3])
end
section
attribute[local simp] kQ.cond Nd.d_eq nd_t nd_dr nd_td ndsD aZ bF
theorem Lp:∀(n:Nat) (P B C S:List Df) (a m b N:Nat),aAj P B C S a m b N->B.length+C.length<n->Hl P B C S a m b N
 |0,_,_,_,_,_,_,_,_,_,h=>aE
 |n+1,P,B,C,S,a,m,b,N,h,hn=>Oo P B C S a m b N h λP' B' C' S' a' m' b' h' hl=>Lp n P' B' C' S' a' m' b' N h' aE
theorem Oq(l:List Df)(h20:20<=l.length)(hl:l.length<40):iG prog 70 [.ow 0 0 l.length,.d (aI l.length),.d (.fn 40 [])] [(0,.row false 2 (l.map Df.d))] [(0,.row false 2 ((bV l).map Df.d))] (.tup []):=by
 obtain⟨A,hA⟩:∃A,l.take 20=A:=⟨_,rfl⟩;obtain⟨B,hB⟩:∃B,l.drop 20=B:=⟨_,rfl⟩;have hAB:l=A++B:=by rw[<-hA,<-hB,List.take_append_drop]
 have nA:A.length=20:=by rw[<-hA,List.length_take];omega
 obtain⟨n,hn⟩:∃n,l.length=n:=⟨_,rfl⟩;have nB:20+B.length=n:=by rw[<-hn,hAB,List.length_append];omega
 have k1:=EW [] A B kG;have k2:=EW (bV A) B [] (by simp[fT];omega);have k3:Hl [] (bV A) (bV B) [] 0 20 n n\/B.length=0:=by
  by_cases e:B.length=0
  ·exact .inr e
  ·exact .inl (Lp _ _ _ _ _ _ _ _ _ ⟨by rw[fT];omega,by rw[fT];omega,nO A,nO B,rfl,by rw[fT];omega,by rw[fT];omega,rfl,aE⟩ (Nat.lt_succ_self _))
 unfold Hl at k3;rw[hn]at h20 hl|-;have hsl:kY (bV A) (bV B)=bV l:=by rw[SM,hAB]
 simp[fT,nA,nB,show(20:Int)+(B.length:Int)=(n:Int)by omega]at k1 k2;simp[hsl]at k3;refine fY func70 bY (c:=_) rfl ntmps70 aM results70 λw0 X hp=>?_;apply aD;simp;apply aD;simp;apply dH;refine aU (ι:=Nat×List Df) (λ⟨i,r⟩=>aR [(0,.ow 0 0 n),(1,.d (aI (n:Nat))),(2,.d (.fn 40 [])),(6,.d (aI 20)),(7,.d (aI (20*i:Nat))),(8,.d (aI (20*i+20:Nat)))]) (λ⟨i,r⟩=>aL [(0,.row false 2 (r.map Df.d))]) (λ⟨i,r⟩=>i<=1/\(i=0->l=r)/\(i=1->bV A++B=r)) (λ⟨i,r⟩=>1-i) (0,l) (aA hp [0,1,2,6,7,8] [(0,0)]) (⟨aE,λ_=>rfl,λh=>aE⟩) λ⟨i,r⟩ hi2=>?_;apply eA;obtain⟨g1,g2,g3⟩:=hi2;apply aK;simp;apply aJ;simp;refine⟨λh2=>?_,λh2=>?_⟩
 ·have ei:i=0:=aE;subst ei;have er:=g2 rfl;subst er;apply aF;simp;apply aO;refine cJ (λ|18=>some (.gen ⟨[(0,0)],[],[],[(0,.row false 2 ((bV A++B).map Df.d))],.tup []⟩)|_=>none) ?_;simp[hAB];refine⟨by simpa using k1,?_⟩;apply aD;simp;apply aK;simp;refine Pq.mk (1,bV A++B) (aA hp [0,1,2,6,7,8] [(0,0)]) ?_ ?_
  ·exact⟨Nat.le_refl _,(λh=>by cases h),λ_=>rfl⟩
  ·dsimp only;omega
 ·have ei:i=1:=aE;subst ei;have er:=g3 rfl;subst er;apply bE;simp;refine cJ (λ|27=>some (.gen ⟨[(0,0)],[],[],[(0,.row false 2 ((bV A++bV B).map Df.d))],.tup []⟩)|_=>none) ?_;simp;refine⟨by simpa using k2,?_⟩;apply aO;refine aU (ι:=Nat×List Df) (λ⟨k,r⟩=>aR [(0,.ow 0 0 n),(1,.d (aI (n:Nat))),(2,.d (.fn 40 [])),(6,.d (aI (20*k+20:Nat)))]) (λ⟨k,r⟩=>aL [(0,.row false 2 (r.map Df.d))]) (λ⟨k,r⟩=>k<=1/\(k=0->bV A++bV B=r)/\(k=1->bV l=r)) (λ⟨k,r⟩=>1-k) (0,bV A++bV B) (aA hp [0,1,2,6] [(0,0)]) (⟨aE,λ_=>rfl,λh=>aE⟩) λ⟨k,r⟩ hi7=>?_;apply eA;obtain⟨g1,g2,g3⟩:=hi7;apply aK;simp;apply aJ;simp;refine⟨λh7=>?_,λh7=>?_⟩
  ·have ek:k=0:=aE;subst ek;have er:=g2 rfl;subst er;have k3':=k3.resolve_right (λe=>by rw[e]at nB;simp at nB;omega);apply aF;simp;apply aO;apply aD;simp;apply dH;refine aU (ι:=Nat) (λk2=>aR [(0,.ow 0 0 n),(1,.d (aI (n:Nat))),(2,.d (.fn 40 [])),(6,.d (aI 20)),(7,.d (aI 0)),(8,.d (aI 40))]) (λk2=>aL [(0,.row false 2 ((bV A++bV B).map Df.d))]) (λk2=>True) (λk2=>0) 0 (aA hp [0,1,2,6,7,8] [(0,0)]) (trivial) λk2 hi9=>?_;apply aG;apply aV;simp[(show¬(40<=(n:Int))by omega)];apply bE;simp;apply dT;simp;apply aV;simp[(show(20:Int)<n by omega)];refine aP (λ|60=>some (.gen ⟨[(0,0)],[],[],[(0,.row false 2 ((bV l).map Df.d))],.tup []⟩)|_=>none) ?_;simp;refine⟨by simpa using k3',?_⟩;apply aK;simp;refine Pq.mk (1,bV l) (aA hp [0,1,2,6] [(0,0)]) ?_ ?_
   ·exact⟨Nat.le_refl _,(λh=>by cases h),λ_=>rfl⟩
   ·dsimp only;omega
  ·have er:bV l=r:=by
    by_cases ek:k=1
    ·exact g3 ek
    ·have ek0:k=0:=aE;subst ek0;have hB0:B.length=0:=aE;rw[<-g2 rfl,<-hsl,List.eq_nil_of_length_eq_zero hB0];simp[bV,Fa]
   subst er;apply bE;simp;exact aA hp [] [(0,0)]
end
section
attribute[local simp] kQ.cond Nd.d_eq nd_t nd_dr nd_td ndsD aZ bF
theorem Ot(l:List Df)(hl:l.length<20):iG prog 70 [.ow 0 0 l.length,.d (aI l.length),.d (.fn 40 [])] [(0,.row false 2 (l.map Df.d))] [(0,.row false 2 ((bV l).map Df.d))] (.tup []):=by
 refine fY func70 bY (c:=_) rfl ntmps70 aM results70 λw0 X hp=>?_;apply aD;simp;apply aD;simp;apply dH;refine aU (ι:=Nat) (λi=>aR [(0,.ow 0 0 l.length),(1,.d (aI (l.length:Nat))),(2,.d (.fn 40 [])),(6,.d (aI 20)),(7,.d (aI 0)),(8,.d (aI 20))]) (λi=>aL [(0,.row false 2 (l.map Df.d))]) (λi=>True) (λi=>0) 0 (aA hp [0,1,2,6,7,8] [(0,0)]) (trivial) λi hi2=>?_;apply aG;apply aV;simp[(show¬(20<=(l.length:Int))by omega)];apply bE;simp;apply aG;have ki:=EW [] l [] kG;refine aP (λ|27=>some (.gen ⟨[(0,0)],[],[],[(0,.row false 2 ((bV l).map Df.d))],.tup []⟩)|_=>none) ?_;simp;refine⟨by simpa using ki,?_⟩;apply aO;refine aU (ι:=Nat) (λi=>aR [(0,.ow 0 0 l.length),(1,.d (aI (l.length:Nat))),(2,.d (.fn 40 [])),(6,.d (aI 20)),(7,.d (aI 0)),(8,.d (aI 20))]) (λi=>aL [(0,.row false 2 ((bV l).map Df.d))]) (λi=>True) (λi=>0) 0 (aA hp [0,1,2,6,7,8] [(0,0)]) (trivial) λi hi7=>?_;apply aG;apply aV;simp[(show¬(20<(l.length:Int))by omega)];apply bE;simp;exact aA hp [] [(0,0)]
theorem SP(l:List Df)(hl:l.length<40):iG prog 70 [.ow 0 0 l.length,.d (aI l.length),.d (.fn 40 [])] [(0,.row false 2 (l.map Df.d))] [(0,.row false 2 ((bV l).map Df.d))] (.tup []):=by
 by_cases e:l.length<20
 ·exact Ot l e
 ·exact Oq l aE hl
theorem FM(l:List Df)(hl:l.length<40):iG prog 39 [.ow 0 0 l.length,.d (.fn 40 [])] [(0,.row false 2 (l.map Df.d))] [(0,.row false 2 ((bV l).map Df.d))] (.tup []):=by
 refine fY func39 bY (c:=_) rfl ntmps39 aM results39 λw0 X hp=>?_;have ks:=SP l hl;refine aP (λ|8=>some (.gen ⟨[(0,0)],[],[],[(0,.row false 2 ((bV l).map Df.d))],.tup []⟩)|_=>none) ?_;simp;refine⟨by simpa using ks,?_⟩;exact aA hp [] [(0,0)]
theorem Ou(l:List Df)(hl:l.length<=1000000000000):Ok prog 38 [eO l] ⟨.own 2 (l.map Df.d),true⟩:=by
 refine Ok.ret func38 bY (c:=_) rfl ntmps38 aM results38 (by intro _ h;cases h) λw0 X hp=>?_;apply aD;simp;apply eA;refine DS hT hW 4 (decide (l=[])) (λ_=>none) (λ_=>⟨rfl,λ_ h=>h⟩) bY λb1 hb1=>?_;simp;apply aJ;simp;refine⟨λh1=>?_,λh1=>?_⟩
 ·apply aD;simp;apply aH;have:=hb1 h1;simp at this;simp[this]
 ·apply aF;simp;apply aD;simp;refine⟨aE,?_⟩;apply aH;simp
theorem IQ(l:List Df)(hl:l.length<40):Ok prog 15 [eO l] ⟨.own 2 ((bV l).map Df.d),true⟩:=by
 refine Ok.ret func15 bY (c:=_) rfl ntmps15 aM results15 (by intro _ h;cases h) λw0 X hp=>?_;apply aD;simp;apply aG;have kc:=Ou l aE;refine aP (λ|5=>some<| .plain ⟨.own 2 (l.map Df.d),true⟩|_=>none) ?_;simp;refine⟨by simpa using kc,?_⟩;apply aG;have ks:=FM l hl;refine aP (λ|7=>some (.gen ⟨[(5,0)],[],[],[(0,.row false 2 ((bV l).map Df.d))],.tup []⟩)|_=>none) ?_;simp;refine⟨by simpa using ks,?_⟩;apply aD;simp;apply aH;have htk:List.take l.length (List.map Df.d (bV l))=List.map Df.d (bV l):=List.take_of_length_le (by rw[List.length_map,fT];exact Nat.le_refl _);simp[fT,htk]
theorem Wm(l:List Df):Ok prog 8 [eO l] ⟨.tup [.d (aI (mK l).2.1),.d (aI (mK l).2.2)],true⟩:=by
 refine Ok.two func8 bY (c:=_) rfl ntmps8 aM results8 rfl λw0 X hp=>?_;apply aD;simp;apply aG;have kc:=EU l;refine aP (λ|9=>some<| .plain ⟨.tup [.d (yV (mK l).1),.d (aI (mK l).2.1),.d (aI (mK l).2.2)],false⟩|_=>none) ?_;simp[bD];refine⟨⟨by simpa using kc,by simp[yV]⟩,?_⟩;simp[yV];apply aD;simp;apply aH;simp
def iE(ts:List Nd):List aW:=(ts.filter λt=>decide (t.kind=6)).map Nd.text
theorem Lq{ts:List Nd}{i:Nat}(h:i<ts.length):iE (ts.take (i+1))=if ts[i].kind=6 then iE (ts.take i)++[ts[i].text]else iE (ts.take i):=by
 unfold iE;rw[List.take_succ_eq_append_getElem h,List.filter_append,List.map_append];by_cases e:ts[i].kind=6<;>simp[e]
theorem Fb(ts:List Nd):(iE ts).length<=ts.length:=by unfold iE;rw[List.length_map];exact List.length_filter_le _ _
def IR(l:List Df):List aW:=if(mK l).2.2≠0 then []else dS (iE (mK l).1)
theorem IS(l:List Df):(mK l).1=(dK l).1:=by
 unfold mK;split
 ·rfl
 ·split
  ·rfl
  ·split<;>rfl
theorem Wn(l:List Df):Ok prog 12 [eO l] ⟨.own 1 ((IR l).map .str),true⟩:=by
 refine Ok.ret func12 bY (c:=_) rfl ntmps12 aM results12 (by intro _ h;cases h) λw0 X hp=>?_;obtain⟨ts,hts⟩:∃ts,(mK l).1=ts:=⟨_,rfl⟩;have hl24:ts.length<=24:=by rw[<-hts,IS];exact(tW l).2.1
 have hTe:IR l=if(mK l).2.2≠0 then []else dS (iE ts):=by rw[<-hts];rfl
 apply aD;simp;apply aG;have kc:=EU l;rw[hts]at kc;refine aP (λ|11=>some<| .plain ⟨.tup [.d (yV ts),.d (aI (mK l).2.1),.d (aI (mK l).2.2)],false⟩|_=>none) ?_;simp[bD];refine⟨⟨by simpa using kc,by simp[yV]⟩,?_⟩;simp[yV];apply aG;apply aV;simp;refine⟨λh2=>?_,λh2=>?_⟩
 ·rw[if_pos h2]at hTe;apply aD;simp;apply aH;simp[hTe]
 ·rw[if_neg (by simpa using h2)]at hTe;apply aF;simp;apply aD;simp;apply dT;simp;apply aO;refine aU (ι:=Nat) (λi=>aR [(6,.ow 6 0 (iE (ts.take i)).length),(18,.d (ndsD ts)),(19,.d (aI (ts.length:Nat))),(20,.d (aI (i:Nat)))]) (λi=>aL [(6,.row false 1 ((iE (ts.take i)).map .str))]) (λi=>i<=ts.length) (λi=>ts.length-i) 0 (aA hp [6,18,19,20] [(6,6)] (by simp[iE]) (by simp[iE])) (Nat.zero_le _) λi hi6=>?_;apply aD;simp;apply aG;apply aJ;simp;refine⟨λh6=>?_,λh6=>?_⟩
  ·apply aF;simp;apply dH;apply aG;have hi:i<ts.length:=aE;obtain⟨t,ht⟩:∃t,ts[i]=t:=⟨_,rfl⟩;have hn:=Lq hi;have hfl:=Fb (ts.take i);rw[List.length_take]at hfl;rw[ht]at hn;apply aK;simp[hi,ht];apply aV;simp;refine⟨λh8=>?_,λh8=>?_⟩
   ·simp only[if_pos h8]at hn;apply aK;simp;refine⟨aE,?_⟩;apply aK;simp;refine⟨aE,?_⟩;refine Pq.mk (i+1) (aA hp [6,18,19,20] [(31,6)] (by simp[hn]) (by simp[hn])) ?_ ?_
    ·omega
    ·omega
   ·simp only[if_neg h8]at hn;apply aF;simp;apply aK;simp;refine⟨aE,?_⟩;refine Pq.mk (i+1) (aA hp [6,18,19,20] [(6,6)] (by simp[hn]) (by simp[hn])) ?_ ?_
    ·omega
    ·omega
  ·apply bE;simp;apply aG;have e:i=ts.length:=aE;subst e;rw[List.take_length];have hfl:=Fb ts;have ks:=yW (iE ts) aE;refine aP (λ|34=>some (.gen ⟨[(6,0)],[],[],[(0,.row false 1 ((dS (iE ts)).map .str))],.tup []⟩)|_=>none) ?_;simp;refine⟨by simpa using ks,?_⟩;apply aD;simp;apply aH;have htk:List.take (iE ts).length (List.map DV.str (dS (iE ts)))=List.map DV.str (dS (iE ts)):=List.take_of_length_le (by rw[List.length_map,jW];exact Nat.le_refl _);simp[hTe,jW,htk]
def rD(d:Df):aW:=if(parseS d.text).2.2≠0 then d.text else printS (parseS d.text).1
theorem Fc(d:Df):Ok prog 67 [d.d] ⟨.d (.str (rD d)),true⟩:=by
 refine Ok.ret func67 bY (c:=_) rfl ntmps67 aM results67 (by intro _ h;cases h) λw0 X hp=>?_;obtain⟨P,hP⟩:∃P,parseS d.text=P:=⟨_,rfl⟩;have kp:=ES d.text;have hwt:=iJ d.text;have hM:rD d=if P.2.2≠0 then d.text else printS P.1:=by unfold rD;rw[hP]
 rw[hP]at kp hwt;obtain⟨x,hx⟩:∃x,P.1=x:=⟨_,rfl⟩;rw[hx]at kp hwt hM;apply aD;simp;refine cJ (λ|9=>some<| .plain ⟨.tup [.d x.d,.d (aI P.2.1),.d (aI P.2.2)],false⟩|_=>none) ?_;simp[bD];refine⟨by simpa using kp,?_⟩;apply aG;apply aV;simp;refine⟨λh2=>?_,λh2=>?_⟩
 ·rw[if_pos h2]at hM;apply aD;simp;apply aH;simp[hM]
 ·rw[if_neg (by simpa using h2)]at hM;apply aF;simp;apply aG;have kr:=Vj x hwt;refine aP (λ|18=>some<| .plain ⟨.d (.str (printS x)),true⟩|_=>none) ?_;simp;refine⟨by simpa using kr,?_⟩;apply aH;simp[hM]
end
open Go.Proofs Go.Sort Go.Shelf Go.RowKit
theorem aAk{w:World}{E:Nat->Prop}{s:aW}{v:Value}(h:RD w E (.str s) v):v=tK s:=by cases h;rfl
def wB(e:MapEntry):aW:=match e.key with
 | .string b=>b.data.toList
 |_=>[]
theorem IT(s:List aW)(ds:List DV)(hN:s.length*16<=140737488355328):
 Xm prog 134 [.nl,.d (.fn 82 [.ro [.mp (s.map .str) ds]])] []
  (λfin ret=>∃p:List aW,p.Perm s/\fin=[(0,.dead),(1,.row false 1 (p.map .str))]/\ret=.ow 1 0 p.length):=by
 refine⟨⟨_,func134,bY,by rfl⟩,λw X β vs m0 hvl hr=>?_⟩
 match vs,hvl with
 |[v0,v1],_=>
 have r0:=hr 0 _ _ rfl rfl;have r1:=hr 1 _ _ rfl rfl;obtain⟨a0,rfl⟩:∃a,v0=.slice a 0 0:=by cases r0 with|nl a=>exact⟨a,rfl⟩
 obtain⟨Bm,ob,b,clock,arr,rfl,hcell,hblk,hk,hborn,hkey⟩:∃Bm ob b clock arr,v1=.func (.func 82) #[] #[.pointer (some ⟨Bm,ob,none⟩)]/\w.cell? ⟨Bm,ob,none⟩=some (.map (some b))/\w.heap[b]? =some (.map arr clock)/\
  (s.map DV.str).length=arr.size/\gD arr clock/\∀(i:Nat) (d:DV) (e:MapEntry),(s.map DV.str)[i]? =some d->arr[i]? =some e->RD w (Ex X β (aL [])) d e.key:=by
  cases r1 with
  |d _ _ h=>cases h with
   |fn _ _ us hl hc=>
    match us,hl with
    |[u],_=>
    have h0:=hc 0 _ u rfl rfl;cases h0 with
    |ro _ Bm ob us2 hBm hul _ _ hcell h=>
     match us2,hul with
     |[u2],_=>
     have h2:=h 0 _ u2 rfl rfl;have hc2:=hcell 0 u2 rfl;cases h2 with
     |mp _ _ b clock arr hb _ hblk hk _ hborn hkey _=>exact⟨Bm,ob,b,clock,arr,rfl,by simpa using hc2,hblk,hk,hborn,hkey⟩
 rw[List.length_map]at hk;have hkeys:∀(i:Nat) (h1:i<s.length) (h2:i<arr.size),arr[i].key=tK s[i]:=λi h1 h2=>aAk (hkey i _ _ (by simp[h1]) (Array.getElem?_eq_getElem h2));have hk2:∀e∈arr.toList,e.key=tK (wB e):=λe he=>by
  obtain⟨i,hi,rfl⟩:=List.getElem_of_mem he;have hi':i<arr.size:=by simpa using hi
  have:=hkeys i aE hi';simp only[Array.getElem_toList];simp[wB,this,tK]
 have hmap:arr.toList.map wB=s:=by
  apply List.ext_getElem (by simpa using hk.symm);intro i h1 h2;have:=hkeys i h2 aE;simp[wB,this,tK]
 obtain⟨m,_⟩:=uS m0 (d:=0) (by simp[aL,fI]) (s:=1) bC;refine(Ip w (.slice a0 0 0) [] none ⟨rfl,aM,.inl ⟨rfl,rfl,a0,rfl⟩⟩ (λg hg=>by cases hg) hcell aM hblk aM hborn wB hk2 (by rw[<-hk];simpa using hN)).mono ?_;rintro e w' ⟨v,ss,gb,rfl,hp,hr',hst,hhd⟩;rw[hmap]at hp;obtain⟨β',hm,hR⟩:=m.appended qB (id:=0) (new:=1) (l:=[]) (by rw[aX];rfl) (by rw[cG _ _ bC];simp[aL,fI]) (.inl ⟨rfl,rfl⟩) hr' hst hhd;have hfin:aL [(0,.dead),(1,.row false 1 (ss.map .str))]=cE (cE (cE (aL []) 0 (.row false 1 [])) 0 .dead) 1 (.row false 1 (ss.map .str)):=by
  funext j;simp only[aL,fI,cE];by_cases h0:j=0<;>by_cases h1:j=1<;>simp_all
 exact⟨v,β',_,_,⟨ss,hp,rfl,rfl⟩,rfl,by rw[hfin];simpa using hm,by rw[hfin];simpa using hR⟩
theorem Ov(s:List aW)(ds:List DV)(hN:s.length*16<=140737488355328):Zq prog 81 [.fn 82 [.ro [.mp (s.map .str) ds]]] (λr=>(λv=>∃p:List aW,p.Perm s/\v=.own 1 (p.map .str)) r.v/\r.fresh=true):=by
 refine Zq.ret (Rel:=λv=>∃p:List aW,p.Perm s/\v=.own 1 (p.map .str)) func81 bY (c:=_) rfl ntmps81 aM results81 λw0 X hp=>?_;apply aD;simp;apply aG;refine JX hT hW 4 [] [(1,4)] [1] (λfin ret=>∃p:List aW,p.Perm s/\fin=[(0,.dead),(1,.row false 1 (p.map .str))]/\ret=.ow 1 0 p.length) _ _ ⟨s,List.Perm.refl _,rfl,rfl⟩ (λ|99=>none|_=>none) (by intro d;first|exact⟨rfl,λ_ h=>h⟩|(split<;>exact⟨rfl,λ_ h=>h⟩)) bY λr1 hr1=>?_;obtain⟨fin1,ret1⟩:=r1;obtain⟨p,hp1,rfl,rfl⟩:=hr1;simp;refine⟨IT s ds hN,?_⟩;apply aH;simp only[UF];refine⟨_,⟨p,hp1,rfl⟩,aM,?_⟩;simp
theorem SQ(s:List aW)(ds:List DV)(hN:s.length<=8000000000000):Ok prog 46 [.fn 82 [.ro [.mp (s.map .str) ds]]] ⟨.own 1 ((dS s).map .str),true⟩:=by
 refine Ok.ret func46 bY (c:=_) rfl ntmps46 aM results46 (by intro _ h;cases h) λw0 X hp=>?_;apply aD;simp;apply aG;refine Nk hT hW 5 (λr=>(∃p:List aW,p.Perm s/\r.v=.own 1 (p.map .str))/\r.fresh=true) true ⟨.own 1 (s.map .str),true⟩ ⟨⟨⟨s,List.Perm.refl _,rfl⟩,rfl⟩,rfl⟩ (λ|99=>none|_=>none) (by intro d;first|exact⟨rfl,λ_ h=>h⟩|(split<;>exact⟨rfl,λ_ h=>h⟩)) bY λr1 hr1=>?_;obtain⟨v1,f1⟩:=r1;obtain⟨⟨p,hp1,hv⟩,hf⟩:=hr1;dsimp only at hv hf;subst hv;subst hf;have hpl:=hp1.length_eq;simp;refine⟨Ov s ds aE,?_⟩;refine cJ (λ|7=>some (.gen ⟨[(5,0)],[],[],[(0,.row false 1 ((dS p).map .str))],.tup []⟩)|_=>none) ?_;simp;refine⟨by simpa using yW p aE,?_⟩;apply aD;simp;apply aH;rw[<-NH hp1];simp[jW];rw[List.take_of_length_le (by simp[jW])]
theorem Ow(ks vs:List DV):Ok prog 47 [.mp ks vs] ⟨.d (.fn 82 [.ro [.mp ks vs]]),false⟩:=by
 refine Ok.ret func47 bY (c:=_) rfl ntmps47 aM results47 (by intro _ h;cases h) λw0 X hp=>?_;apply aD;simp;apply aD;simp;apply aH;simp
section
attribute[local simp] kQ.cond Nd.d_eq nd_t nd_dr nd_td ndsD aZ bF vJ Ai cZ.d
def By(M:List aW)(s:aW):List aW:=if s∈M then M else M++[s]
def eP(us:List cZ):List aW:=us.foldl (λM u=>By M u.name) []
theorem Lr{us:List cZ}{i:Nat}{u:cZ}(h:us[i]? =some u):eP (us.take (i+1))=By (eP (us.take i)) u.name:=by
 obtain⟨hi,he⟩:=List.getElem?_eq_some_iff.1 h;unfold eP;rw[List.take_succ_eq_append_getElem hi,List.foldl_append,he];rfl
theorem Ox(us:List cZ):(eP us).length<=us.length:=by
 have:∀(us:List cZ) (M:List aW),(us.foldl (λM u=>By M u.name) M).length<=M.length+us.length:=λus=>by
  induction us with
  |nil=>intro M;exact Nat.le_refl _
  |cons u r ih=>
   intro M;rw[List.foldl_cons];refine Nat.le_trans (ih _) ?_;unfold By;split<;>simp<;>omega
 simpa [eP]using this us []
mutual
theorem pK:∀x:Nd,(bJ x).length<=weighN x
 | .mk k t n ks=>by
   have h:=Bz ks;have h2:(fG k t).length<=1:=by unfold fG;split<;>simp
   rw[bJ,weighN,List.length_append];omega
theorem Bz:∀l:List Nd,(eJ l).length<=weighL l
 |[]=>Nat.le_refl _
 |x::r=>by
  have h1:=pK x;have h2:=Bz r;rw[eJ,weighL,List.length_append];omega
end
theorem Ls(s:aW):∀(M:List aW) (i:Nat),iF (.str s) (M.map .str) i=some ((M.findIdx? (λx=>decide (s=x))).map (·+i))
 |[],i=>rfl
 |x::r,i=>by
  have e:kI (.str s) (.str x)=some (decide (s=x)):=by
   simp only[kI,Jk,Option.some.injEq];by_cases h:s=x<;>simp[h]
  rw[List.map_cons,iF,e,List.findIdx?_cons];by_cases h:s=x
  ·simp[h]
  ·simp only[h,decide_false,Bool.false_eq_true,if_false];rw[Ls s r (i+1)];cases r.findIdx? (λx=>decide (s=x))with
   |none=>rfl
   |some j=>simp;omega
def Ty(M:List aW):List DV:=M.map λ_=>.bool true
theorem Wo(M:List aW){H:dM}{id:Nat}{s:aW}(h:H id=.map false (M.map .str) (Ty M)):
 cF T H 73 (.mp id) (.d (.str s)) (.d (.bool true))=⟨.junk,True,[(id,.map false ((By M s).map .str) (Ty (By M s)))]⟩:=by
 unfold cF By;simp only[t73,h,Ls];by_cases hm:s∈M
 ·obtain⟨j,hj,hl⟩:∃j,(M.findIdx? λx=>decide (s=x))=some j/\j<M.length:=by
   cases q:(M.findIdx? λx=>decide (s=x))with
   |none=>rw[List.findIdx?_eq_none_iff]at q;have:=q s hm;simp at this
   |some j=>exact⟨j,rfl,(List.findIdx?_eq_some_iff_getElem.1 q).1⟩
  have hs:(Ty M).set j (.bool true)=Ty M:=by
   unfold Ty;apply List.ext_getElem aM;intro i h1 h2;rw[List.getElem_set];split<;>simp
  simp[hj,hm,hs,rO,gJ]
 ·have hn:(M.findIdx? λx=>decide (s=x))=none:=by
   rw[List.findIdx?_eq_none_iff];intro x hx;simp;intro e;subst e;exact hm hx
  simp[hn,hm,rO,gJ,Ty]
def fH(l:List Df)(name:aW):Int:=nZ (λd=>decide (d.name=name)) l
def qO:Option Nat->Int
 |some i=>(i:Int)
 |none=> -1
theorem oD{α:Type}(p:α->Bool)(l:List α):nZ p l=qO (l.findIdx? p):=by unfold nZ qO;cases l.findIdx? p<;>rfl
def Fd(l:List Df):Option Nat->List aW×Int
 |none=>([],6)
 |some i=>if(parseS (l.getD i default).text).2.2≠0 then([],(parseS (l.getD i default).text).2.2)else(dS (eP (bJ (parseS (l.getD i default).text).1)),0)
def Hm(l:List Df)(name:aW):List aW×Int:=Fd l (l.findIdx? λd=>decide (d.name=name))
theorem Oy(l:List Df)(p:Df->Bool)(g:FuncId)(cs:List DV)(hg:∀x∈l,Ok prog g (x.d::cs) ⟨.d (.bool (p x)),true⟩):Ok prog 42 [eO l,.fn g cs] ⟨.d (aI (nZ p l)),true⟩:=by
 refine Ok.ret func42 bY (c:=_) rfl ntmps42 aM results42 (by intro _ h;cases h) λw0 X hp=>?_;refine eW.len (t:=0) rfl λhlen=>?_;simp at hlen;apply aD;simp;apply dT;simp;apply aO;refine aU (ι:=Nat) (λi=>aR [(0,.d (eO l)),(1,.d (.fn g cs)),(7,.d (aI l.length)),(8,.d (aI i))]) (λi=>aL []) (λi=>i<=l.length/\Pz p l i) (λi=>l.length-i) 0 (aA hp [0,1,7,8] []) (⟨Nat.zero_le _,Pz.zero⟩) λi hi2=>?_;apply aD;simp;apply aG;apply aJ;simp;refine⟨λh2=>?_,λh2=>?_⟩
 ·apply aF;simp;apply dH;apply aD;simp;refine cJ (λ|16=>some<| .plain ⟨.d (.bool (p l[i])),true⟩|_=>none) ?_;simp[h2];refine⟨hg l[i] (List.getElem_mem h2),?_⟩;apply aJ;simp;refine⟨λh4=>?_,λh4=>?_⟩
  ·apply aD;simp;apply aH;simp[sF (hi2.2.found h2 h4)]
  ·apply aF;simp;apply aK;simp;refine⟨aE,?_⟩;refine Pq.mk (i+1) (aA hp [0,1,7,8] []) ?_ ?_
   ·exact⟨h2,hi2.2.succ h2 h4⟩
   ·omega
 ·apply bE;simp;apply aD;simp;apply aH;simp[sG (hi2.2.none aE)]
theorem SR(d:Df)(name:aW):Ok prog 43 [d.d,.ro [.str name]] ⟨.d (.bool (decide (d.name=name))),true⟩:=by
 refine Ok.ret func43 bY (c:=_) rfl ntmps43 aM results43 (by intro _ h;cases h) λw0 X hp=>?_;apply aD;simp;apply aD;simp;apply aH;simp;by_cases h:d.name=name<;>simp[h]
theorem Qi(l:List Df)(name:aW):Ok prog 18 [eO l,.str name] ⟨.tup [.own 1 ((Hm l name).1.map .str),.d (aI (Hm l name).2)],true⟩:=by
 refine Ok.two func18 bY (c:=_) rfl ntmps18 aM results18 rfl λw0 X hp=>?_;obtain⟨oi,hoi⟩:∃oi,l.findIdx? (λd=>decide (d.name=name))=oi:=⟨_,rfl⟩;have hU:Hm l name=Fd l oi:=by unfold Hm;rw[hoi]
 have hI:nZ (λd=>decide (d.name=name)) l=qO oi:=by rw[oD,hoi]
 apply aD;simp;refine eI (iH.freeze [3]) ?_;simp;apply aG;have ki:=Oy l (λd=>decide (d.name=name)) 43 [.ro [.str name]] λx _=>SR x name;refine aP (λ|15=>some<| .plain ⟨.d (aI (nZ (λd=>decide (d.name=name)) l)),true⟩|_=>none) ?_;simp;refine⟨by simpa using ki,?_⟩;apply aG;apply aV;simp;refine⟨λh2=>?_,λh2=>?_⟩
 ·have hn:oi=none:=by cases oi with|none=>rfl|some i=>rw[hI]at h2;simp[qO]at h2;omega
  subst hn;simp only[Fd]at hU;apply aD;simp;apply aH;simp[hU]
 ·obtain⟨i,rfl⟩:∃i,oi=some i:=by cases oi with|some i=>exact⟨i,rfl⟩|none=>rw[hI]at h2;simp[qO]at h2
  simp only[Fd]at hU;simp only[qO]at hI;have hil:i<l.length:=(List.findIdx?_eq_some_iff_getElem.1 hoi).1;obtain⟨d,hd⟩:∃d,l[i]=d:=⟨_,rfl⟩;have hget:l.getD i default=d:=by rw[List.getD_eq_getElem?_getD,List.getElem?_eq_getElem hil,hd];rfl
  rw[hget]at hU;obtain⟨P,hP⟩:∃P,parseS d.text=P:=⟨_,rfl⟩;have kp:=ES d.text;have hwt:=iJ d.text;rw[hP]at kp hwt hU;obtain⟨x,hx⟩:∃x,P.1=x:=⟨_,rfl⟩;rw[hx]at kp hwt hU;apply aF;simp;refine cJ (λ|24=>some<| .plain ⟨.tup [.d x.d,.d (aI P.2.1),.d (aI P.2.2)],false⟩|_=>none) ?_;simp[bD,hI,hil,hd];refine⟨by simpa using kp,?_⟩;apply aG;apply aV;simp;refine⟨λh5=>?_,λh5=>?_⟩
  ·rw[if_pos h5]at hU;apply aD;simp;apply aH;simp[hU]
  ·rw[if_neg (by simpa using h5)]at hU;apply aF;simp;apply aD;simp;apply eA;have ku:=Ii x;simp at ku;refine aP (λ|33=>some<| .plain ⟨.d (.fn 75 [.ro [aI x.kind,.str x.text,aI x.n,.sl (x.kids.map Nd.d)]]),false⟩|_=>none) ?_;simp;refine⟨by simpa using ku,?_⟩;apply aO;refine eI (aA hp [10,33] [(10,10),(31,31)] (env':=aR [(10,.bx 10 0),(33,.d (.fn 75 [.ro [aI x.kind,.str x.text,aI x.n,.sl (x.kids.map Nd.d)]]))]) (H':=aL [(10,.box false [.mp 31]),(31,.map false [] [])]) aM aM) ?_;refine eW.rangeFunc (items:=(bJ x).map Ai) (by simpa using Bh x hwt) aM (by intro it hit;obtain⟨u,_,rfl⟩:=List.mem_map.1 hit;rfl) aM bY bY (λi=>aL [(10,.box false [.mp 31]),(31,.map false ((eP ((bJ x).take i)).map .str) (Ty (eP ((bJ x).take i))))]) (λi=>aL [(10,.box false [.mp 31]),(12,.box false [.d (aI (rK x i).kind),.d (.str (rK x i).name),.d (.str (rK x i).field)]),(31,.map false ((eP ((bJ x).take (i+1))).map .str) (Ty (eP ((bJ x).take (i+1)))))]) (rfl) [10,31] bC (by simp[hp]) (λi id h=>by simpa using nX id h) (λi=>aR [(10,.bx 10 0),(12,.bx 12 0)]) (λi=>aL [(10,.box false [.mp 31]),(12,.box false [.d (aI (rK x i).kind),.d (.str (rK x i).name),.d (.str (rK x i).field)]),(31,.map false ((eP ((bJ x).take i)).map .str) (Ty (eP ((bJ x).take i))))]) [10,12,31] (λi id h=>by simpa using nX id h) (λi hi=>?_) (λw1 X1 i it hp hit=>?_) (λw1 X1 i it hp hit=>?_) ?_
   ·simp
   ·obtain⟨u,hu,rfl⟩:=eG hit;have hU:=xJ hu;apply aK;simp;exact aA hp [10,12] [(10,10),(12,12),(31,31)] (by simp[hU]) (by simp[hU])
   ·obtain⟨u,hu,rfl⟩:=eG hit;have hU:=xJ hu;have hs:=Lr hu;simp[hU];apply aO;apply aK;simp[Wo (eP ((bJ x).take i))];exact aA hp [] [(10,10),(12,12),(31,31)] (hH:=by simp[hU,hs])
   ·apply aG;have hnl:=Ox (bJ x);have hul:=pK x;have ks:=SQ (eP (bJ x)) (Ty (eP (bJ x))) aE;have kk:=Ow ((eP (bJ x)).map .str) (Ty (eP (bJ x)));refine aP (λ|40=>some<| .plain ⟨.d (.fn 82 [.ro [.mp ((eP (bJ x)).map .str) (Ty (eP (bJ x)))]]),false⟩|41=>some<| .plain ⟨.own 1 ((dS (eP (bJ x))).map .str),true⟩|_=>none) ?_;simp;refine⟨⟨by simpa using kk,by simpa using ks⟩,?_⟩;apply aH;have htk:List.take (eP (bJ x)).length (List.map DV.str (dS (eP (bJ x))))=List.map DV.str (dS (eP (bJ x))):=List.take_of_length_le (by rw[List.length_map,jW];exact Nat.le_refl _);simp[hU,jW,htk]
theorem SS(a b:Df):Ok prog 66 [a.d,b.d] ⟨.d (.bool (decide (a.name=b.name/\rD a=rD b))),true⟩:=by
 refine Ok.ret func66 bY (c:=_) rfl ntmps66 aM results66 (by intro _ h;cases h) λw0 X hp=>?_;apply aD;simp;apply aG;have ka:=Fc a;have kb:=Fc b;refine eW.rd [[],[],[],[],[],[],[],[],[12]] [[],[],[],[],[],[],[],[12],[],[14]] (λ|12=>some<| .plain ⟨.d (.str (rD a)),true⟩|14=>some<| .plain ⟨.d (.str (rD b)),true⟩|_=>none) ?_;simp;refine⟨⟨λ_=>by simpa using ka,λ_=>by simpa using kb⟩,?_⟩;apply aH;simp;by_cases h1:a.name=b.name<;>by_cases h2:rD a=rD b<;>simp[h1,h2]
def Oz(d:Df):aW×aW:=(d.name,rD d)
theorem Qj{a b:Df}:Oz a=Oz b↔a.name=b.name/\rD a=rD b:=by simp[Oz]
def Fe(a b:List Df):Bool:=decide (a.map Oz=b.map Oz)
theorem ST{a b:List Df}(h:Fe a b=true):a.length=b.length:=by
 have:=congrArg List.length (of_decide_eq_true h);simpa using this
theorem Wp(l m:List Df):Ok prog 65 [eO l,eO m,.fn 66 []] ⟨.d (.bool (Fe l m)),true⟩:=by
 refine Ok.ret func65 bY (c:=_) rfl ntmps65 aM results65 (by intro _ h;cases h) λw0 X hp=>?_;refine eW.len (t:=0) rfl λhlen=>?_;simp at hlen;apply aD;simp;apply aG;apply aV;simp;refine⟨λh1=>?_,λh1=>?_⟩
 ·apply aD;simp;apply aH;simp;rw[Bool.eq_false_iff];intro q;exact h1 (by rw[ST q])
 ·apply aF;simp;apply dT;simp;apply aO;refine aU (ι:=Nat) (λi=>aR [(0,.d (eO l)),(1,.d (eO m)),(2,.d (.fn 66 [])),(15,.d (eO l)),(16,.d (aI l.length)),(17,.d (aI i))]) (λi=>aL []) (λi=>i<=l.length/\(l.map Oz).take i=(m.map Oz).take i) (λi=>l.length-i) 0 (aA hp [0,1,2,15,16,17] []) (⟨Nat.zero_le _,rfl⟩) λi hi4=>?_;apply aD;simp;apply aG;apply aJ;simp;refine⟨λh4=>?_,λh4=>?_⟩
  ·apply aF;simp;apply dH;apply aG;have hi:i<l.length:=aE;apply aK;simp[hi];apply aG;have hm:i<m.length:=aE;apply aK;simp[hm];apply aG;have hs:=SS l[i] m[i];refine aP (λ|29=>some<| .plain ⟨.d (.bool (decide (l[i].name=m[i].name/\rD l[i]=rD m[i]))),true⟩|_=>none) ?_;simp;refine⟨by simpa using hs,?_⟩;apply aJ;simp;refine⟨λh7=>?_,λh7 h7'=>?_⟩
   ·apply aD;simp;apply aH;simp;rw[Bool.eq_false_iff];intro q;have q':=congrArg (·[i]?) (of_decide_eq_true q);simp only[List.getElem?_map,List.getElem?_eq_getElem hi,List.getElem?_eq_getElem hm,Option.map_some,Option.some.injEq]at q';have:=Qj.1 q';rcases h7 with h|h
    ·exact h this.1
    ·exact h this.2
   ·apply aF;simp;apply aK;simp;refine⟨aE,?_⟩;refine Pq.mk (i+1) (aA hp [0,1,2,15,16,17] []) ?_ ?_
    ·refine⟨aE,?_⟩;have hm:i<m.length:=aE;rw[List.take_succ_eq_append_getElem (by simpa using hi),List.take_succ_eq_append_getElem (by simpa using hm),hi4.2,List.getElem_map,List.getElem_map,Qj.2 ⟨h7,h7'⟩]
    ·omega
  ·apply bE;simp;apply aD;simp;apply aH;simp;have e:i=l.length:=aE;have e2:i=m.length:=aE;have h:=hi4.2;rw[List.take_of_length_le kG,List.take_of_length_le kG]at h;exact decide_eq_true h
theorem SU(a b:List Df)(ha:a.length<40)(hb:b.length<40):Ok prog 34 [eO a,eO b] ⟨.d (.bool (Fe (bV a) (bV b))),true⟩:=by
 refine Ok.ret func34 bY (c:=_) rfl ntmps34 aM results34 (by intro _ h;cases h) λw0 X hp=>?_;apply aD;simp;apply aG;have k1:=IQ a ha;have k2:=IQ b hb;have k3:=Wp (bV a) (bV b);have l1:=fT a;have l2:=fT b;have t1:List.take a.length (List.map Df.d (bV a))=List.map Df.d (bV a):=List.take_of_length_le (by rw[List.length_map,l1];exact Nat.le_refl _);have t2:List.take b.length (List.map Df.d (bV b))=List.map Df.d (bV b):=List.take_of_length_le (by rw[List.length_map,l2];exact Nat.le_refl _);refine aP (λ|6=>some<| .plain ⟨.own 2 ((bV a).map Df.d),true⟩|8=>some<| .plain ⟨.own 2 ((bV b).map Df.d),true⟩|9=>some<| .plain ⟨.d (.bool (Fe (bV a) (bV b))),true⟩|_=>none) ?_;simp[l1,l2,t1,t2];refine⟨⟨⟨by simpa using k1,by simpa using k2⟩,by simpa using k3⟩,?_⟩;apply aH;simp
end
end Go.Eng
