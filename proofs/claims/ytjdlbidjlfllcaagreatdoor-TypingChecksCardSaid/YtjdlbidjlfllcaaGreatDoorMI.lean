/- Part 9 of the proof. No condition. -/
import Derived.Test.YtjdlbidjlfllcaaGreatDoorMH
open Go.Proofs
set_option linter.unusedVariables false
set_option linter.unusedSimpArgs false
set_option maxRecDepth 20000
set_option maxHeartbeats 4000000
namespace Go.Eng
section
attribute[local simp] jO.cond Nd.d_eq nd_t nd_dr nd_td ndsD aQ bL kY Int.add_assoc cV Bf Bg Bh Jc iB
theorem Tw(l:List Int):List.take (if(48:Int)<(l.length:Int)then 48 else(l.length:Int)).toNat (l.map aG)=(l.take 48).map aG:=by
 rw[<-List.map_take];congr 1;split
 ·rfl
 ·rw[show((l.length:Int)).toNat=l.length from rfl,List.take_length,List.take_of_length_le (by omega)]
theorem VG{L:List Int}:(treeKinds.map aG)[(dH L 0 10).toNat]?.getD default=aG (treeKinds.getD (dH L 0 10).toNat 0):=by
 have h:=bP L 0 10 (by decide);have hk:(dH L 0 10).toNat<treeKinds.length:=by show _<10;omega
 rw[List.getElem?_map,List.getElem?_eq_getElem hk];simp[List.getD_eq_getElem?_getD,hk]
theorem Tx{L:List Int}:0<=treeKinds.getD (dH L 0 10).toNat 0/\treeKinds.getD (dH L 0 10).toNat 0<=6:=by
 have h:=bP L 0 10 (by decide);have key:∀n:Nat,n<10->0<=treeKinds.getD n 0/\treeKinds.getD n 0<=6:=by decide
 exact key _ (by omega)
theorem Dw(L:List Int)(i:Nat):i+2<=(placeM L i).2:=by unfold placeM;split<;>simp
theorem uM(L:List Int):∀(d i:Nat),i+1<=(valueM L d i).2:=λd=>by
 induction d with
 |zero=>
  intro i;obtain⟨r0,_,r2⟩:=fL L 0 i;have r2:=r2 rfl;by_cases h0:cR L 0 i=0\/cR L 0 i=1
  ·rw[iZ h0];simp
  ·by_cases h1:cR L 0 i=2
   ·rw[jA h1];simp
   ·by_cases h2:cR L 0 i=3\/cR L 0 i=4
    ·rw[fH h2];have:=Dw L (i+1);omega
    ·rw[gL (by omega)];simp
 |succ e ih=>
  intro i;obtain⟨r0,_,_⟩:=fL L (e+1) i;by_cases h0:cR L (e+1) i=0\/cR L (e+1) i=1
  ·rw[iZ h0];simp
  ·by_cases h1:cR L (e+1) i=2
   ·rw[jA h1];simp
   ·by_cases h3:cR L (e+1) i=3\/cR L (e+1) i=4
    ·rw[fH h3];have:=Dw L (i+1);omega
    ·by_cases h4:cR L (e+1) i=5
     ·rw[gL h4];simp
     ·rw[rD (by omega)];have a:=ih (i+1);have b:=ih (valueM L e (i+1)).2;simp only;omega
theorem NV{L:List Int}{d i:Nat}{bl:Nat->Nd×Nat}(hb:0<d->∀j,j<=(bl j).2):i+1<=(oneB L d bl i).2:=by
 rw[fO rfl];have hk:=sJ (L:=L) (d:=d) (i:=i) rfl;have pl:=Dw L (i+1);have a1:=uM L 1 (i+1);have a2:=uM L 1 (i+2);have a3:=uM L 2 (i+1);have a4:=uM L 2 (i+2);have a5:=uM L 2 (placeM L (i+1)).2;unfold uL;simp only[Nat.add_assoc,Nat.reduceAdd]at*;split
 ·simp only;omega
 ·split
  ·simp only;omega
  ·split
   ·rename_i h;have hb:=hb (hk.2.2 h);have b1:=hb (valueM L 1 (i+1)).2;have b2:=hb ((bl (valueM L 1 (i+1)).2).2+1);split
    ·split<;>simp only<;>omega
    ·simp only;omega
   ·repeat(first|(simp only;omega)|split)
theorem Ju{L:List Int}{st:Nat->Nd×Nat}(h:∀j,j<=(st j).2):∀(m:Nat) (ks:List Nd) (j:Nat),j<=(somesM L st m ks j).2
 |0,ks,j=>Nat.le_refl _
 |m+1,ks,j=>by
  unfold somesM;split
  ·exact Nat.le_refl _
  ·have a:=Ju (L:=L) h m (ks++[(st j).1]) (st j).2;have b:=h j;omega
theorem Ty(L:List Int):∀d i,i+1<=(oneM L d i).2
 |0,i=>by rw[oneM];exact NV λh=>absurd h (Nat.lt_irrefl _)
 |d+1,i=>by
  rw[oneM];refine NV λ_ j=>?_;have:=Ju (L:=L) (st:=oneM L d) (λj=>by have:=Ty L d j;omega) (dH L j 4).toNat [] (j+1);show j<=(somesM L (oneM L d) (dH L j 4).toNat [] (j+1)).2;omega
theorem Tz{L:List Int}{m:Nat}{ks:List Nd}{j:Nat}(h:L.length<=j):bodyM L m ks j=ks:=by
 cases m with
 |zero=>rfl
 |succ m=>unfold bodyM;rw[if_pos h]
theorem VH{L:List Int}{m:Nat}{ks:List Nd}{j:Nat}(h0:0<m)(h:j<L.length):bodyM L m ks j=bodyM L (m-1) (ks++[(oneM L 2 j).1]) (oneM L 2 j).2:=by
 obtain⟨k,rfl⟩:∃k,m=k+1:=⟨m-1,by omega⟩;rw[bodyM,if_neg (by omega)];rfl
theorem pT(L:List Int):∀c,(itemsM L c).length=c
 |0=>rfl
 |c+1=>by rw[itemsM,List.length_append,pT L c];rfl
structure NdC where
 x:Nd
structure CtC where
 c:Nat
section
variable{L:List Int} {k:Int} {t:aM} (hk:treeKinds.getD (dH L 0 10).toNat 0=k) (ht:callM L 1=t)
include hk ht
theorem TA(h:k=0):treeB L=.mk k t (dH L 2 1999-999) []:=by subst hk ht;unfold treeB;simp only[];rw[if_pos h]
theorem Qf(h:k=2):treeB L=.mk k t (dH L 2 4) []:=by subst hk ht;unfold treeB;simp only[];rw[if_neg (by omega),if_pos h]
theorem TB(h:k=1):treeB L=.mk k t 0 (itemsM L (dH L 2 4).toNat):=by subst hk ht;unfold treeB;simp only[];rw[if_neg (by omega),if_neg (by omega),if_pos h]
theorem Qg(h:k=5\/k=6):treeB L=.mk k t 0 [.mk 8 [] 0 (bodyM L L.length [] 2)]:=by subst hk ht;unfold treeB;simp only[];rw[if_neg (by omega),if_neg (by omega),if_neg (by omega),if_pos h]
theorem Qh(h0:¬k=0)(h1:¬k=2)(h2:¬k=1)(h3:¬(k=5\/k=6)):treeB L=.mk k t 0 []:=by subst hk ht;unfold treeB;simp only[];rw[if_neg h0,if_neg h1,if_neg h2,if_neg h3]
end
theorem TC(l:List Int)(hl:Jr l):Ok Tryz.prog 59 [.sl (l.map aG)] ⟨.d (treeS l).d,false⟩:=by
 refine Nu Tryz.func59 rfl Tryz.ntmps59 Tryz.results59 λw0 X hp=>?_;obtain⟨L,hLl⟩:∃L,L=l.take 48:=⟨_,rfl⟩;have hL:Jr L:=λn hn=>hl n (by rw[hLl]at hn;exact List.mem_of_mem_take hn);have hll:L.length<=48:=by rw[hLl,List.length_take];omega
 have htr:treeS l=treeB L:=by rw[hLl];rfl
 refine aA ?_;simp;refine aA ?_;simp[Tw,<-hLl];refine⟨by split<;>omega,?_⟩;refine aD ?_;have ha:=eN L 0 10 hL (by omega) (by decide);have hr:=bP L 0 10 (by decide);have hc:=iP L 1 hL (by omega);have hka:=VG (L:=L);have hkr:=Tx (L:=L);simp[treeKinds]at hka;obtain⟨k,hk⟩:∃k,treeKinds.getD (dH L 0 10).toNat 0=k:=⟨_,rfl⟩;obtain⟨t,ht⟩:∃t,callM L 1=t:=⟨_,rfl⟩;refine eF.rd [[4,15],[4,16],[4,16],[4,15],[4,15],[4,15,16],[4,16],[4],[15,16]] [[16],[],[15],[],[],[],[15],[],[4],[4]] (λ|18=>some (.gen ⟨[(15,0)],[],[],iB L 1,.d (aG (dH L 0 10))⟩)|22=>some (.gen ⟨[(15,0)],[],[],iB L 2,.d (.str t)⟩)|_=>none) ?_;simp[hka];rw[hk]at hkr;rw[ht]at hc;refine⟨⟨⟨⟨⟨by decide,by simpa using ha⟩,by omega⟩,by omega⟩,by simpa using hc⟩,?_⟩;have hk':[5,6,5,6,5,0,1,2,3,4][(dH L 0 10).toNat]?.getD 0=k:=by rw[<-hk];simp[treeKinds]
 simp only[hk'];refine aP (ι:=NdC) (λ⟨x⟩=>aO [(2,.bx 2 0),(4,.bx 4 0)]) (λ⟨x⟩=>aI [(2,.box false [.d (aG 0),.d (.str []),.d (aG 0),.nl]),(4,.box false [.d (aG x.kind),.d (.str x.text),.d (aG x.n),.d (ndsD x.kids)])]) (λ⟨x⟩=>treeB L=x) ?_ λ⟨x⟩ hc21=>?_
 ·refine aA ?_;simp;refine aH ?_;refine aA ?_;simp;refine aC ?_;simp;refine⟨λh4=>?_,λh4=>?_⟩
  ·have h5a:=eN L 2 1999 hL (by omega) (by decide);have h5r:=bP L 2 1999 (by decide);refine eF.ro hT hW (λ|29=>some (.gen ⟨[(15,0)],[],[],iB L 3,.d (aG (dH L 2 1999))⟩)|_=>none) ?_;simp;refine⟨⟨by simpa using h5a,by omega⟩,?_⟩;refine gG (bJ 4 [] (fz:=false) (cs:=[.d (aG k),.d (.str t),.d (aG (dH L 2 1999-999)),.nl]) (ds:=[aG k,.str t,aG (dH L 2 1999-999),.sl []]) (by simp) (by simp) (by simp) (by simp[aV.mut])) ?_;simp;refine UV.mk ⟨.mk k t (dH L 2 1999-999) []⟩ (aB hp [2,4] [(2,2),(4,4)]) ?_;exact TA hk ht h4
  ·refine aA ?_;simp;refine aC ?_;simp;refine⟨λh6=>?_,λh6=>?_⟩
   ·have h5a:=eN L 2 4 hL (by omega) (by decide);refine eF.ro hT hW (λ|35=>some (.gen ⟨[(15,0)],[],[],iB L 3,.d (aG (dH L 2 4))⟩)|_=>none) ?_;simp;refine⟨by simpa using h5a,?_⟩;refine gG (bJ 4 [] (fz:=false) (cs:=[.d (aG k),.d (.str t),.d (aG (dH L 2 4)),.nl]) (ds:=[aG k,.str t,aG (dH L 2 4),.sl []]) (by simp) (by simp) (by simp) (by simp[aV.mut])) ?_;simp;refine UV.mk ⟨.mk k t (dH L 2 4) []⟩ (aB hp [2,4] [(2,2),(4,4)]) ?_;exact Qf hk ht h6
   ·refine aA ?_;simp;refine aC ?_;simp;refine⟨λh8=>?_,λh8=>?_⟩
    ·refine aD ?_;have h5a:=eN L 2 4 hL (by omega) (by decide);have h5r:=bP L 2 4 (by decide);obtain⟨m,hm9⟩:∃m:Nat,(dH L 2 4).toNat=m:=⟨_,rfl⟩;have hm9i:dH L 2 4=(m:Int):=by omega
     refine eF.ro hT hW (λ|40=>some (.gen ⟨[(15,0)],[],[],iB L 3,.d (aG (m:Nat))⟩)|_=>none) ?_;simp;refine⟨by simpa [hm9i]using h5a,?_⟩;refine gH (fz:=false) (cs:=[.d (aG k),.d (.str t),.d (aG 0),.nl]) 4 3 1056 4 (by decide) ⟨by simp,by simp,by simp,?_⟩;simp;refine aA ?_;simp;refine aH ?_;refine aR (ι:=CtC) (λ⟨c⟩=>aO [(2,.bx 2 0),(3,.bx 15 0),(4,.bx 4 0),(5,.d (aG (m:Nat))),(6,.d (aG (c:Nat)))]) (λ⟨c⟩=>aI [(2,.box false [.d (aG 0),.d (.str []),.d (aG 0),.nl]),(4,.box false [.d (aG k),.d (.str t),.d (aG 0),.ow 1056 0 c]),(15,.box false [.d (.sl (L.map aG)),.d (aG ((3+2*c:Nat):Int))]),(1056,.row false 4 ((itemsM L c).map Nd.d))]) (λ⟨c⟩=>c<=m) (λ⟨c⟩=>m-c) ⟨0⟩ (aB hp [2,3,4,5,6] [(2,2),(4,4),(15,15),(1056,1056)] (hH:=by simp[itemsM])) (Nat.zero_le _) λ⟨c⟩ hi11=>?_;refine aD ?_;refine aA ?_;simp;refine aC ?_;simp;refine⟨λh11=>?_,λh11=>?_⟩
     ·refine aE ?_;simp;refine aD ?_;refine aH ?_;refine aD ?_;have h13c:=iP L (3+2*c) hL (by omega);refine eF.ro hT hW (λ|47=>some (.gen ⟨[(15,0)],[],[],iB L (3+2*c+1),.d (.str (callM L (3+2*c)))⟩)|_=>none) ?_;simp;refine⟨by simpa using h13c,?_⟩;have h14c:=eN L (4+2*c) 1999 hL (by omega) (by decide);have h14r:=bP L (4+2*(c:Int)) 1999 (by decide);have hcm:c<=m:=hi11;have e14:(3:Int)+(2*(c:Int)+1)=4+2*c:=by omega
      have e15:(4:Int)+(2*(c:Int)+1)=3+(2*c+2):=(by omega);have hic:=pT L c;refine eF.rd [[15,55],[15,55],[15]] [[],[],[],[],[15],[],[],[55],[56,1056],[],[4]] (λ|52=>some (.gen ⟨[(15,0)],[],[],iB L (4+2*c+1),.d (aG (dH L ((4+2*c:Nat):Int) 1999))⟩)|_=>none) ?_;simp[e14];refine⟨⟨⟨by simpa using h14c,by omega,by omega⟩,by omega,by omega⟩,?_⟩;have hcm2:c<=m:=hi11;refine aJ ?_;simp;refine⟨by omega,?_⟩;refine Nf.mk ⟨c+1⟩ (aB hp [2,3,4,5,6] [(2,2),(4,4),(15,15),(56,1056)] (hH:=by simp[itemsM,Int.mul_add,pT,List.take_of_length_le,e15])) ?_ ?_
      ·show c+1<=m;omega
      ·show m-(c+1)<m-c;omega
     ·refine bA ?_;simp;refine gG (bJ 4 [1056] (fz:=false) (cs:=[.d (aG k),.d (.str t),.d (aG 0),.ow 1056 0 c]) (ds:=[aG k,.str t,aG 0,.sl ((itemsM L c).map Nd.d)]) (by simp) (by simp) (by simp[pT,List.take_of_length_le]) (by simp[aV.mut])) ?_;simp;refine UV.mk ⟨.mk k t 0 (itemsM L c)⟩ (aB hp [2,4] [(2,2),(4,4)]) ?_;rw[TB hk ht h8,hm9];have e11:c=m:=by have:=(show c<=m from hi11);omega
      rw[e11]
    ·refine aP (ι:=BC) (λ⟨b⟩=>aO [(2,.bx 2 0),(3,.bx 15 0),(4,.bx 4 0),(25,.d (aG (k))),(58,.d (.bool b))]) (λ⟨b⟩=>aI [(2,.box false [.d (aG 0),.d (.str []),.d (aG 0),.nl]),(4,.box false [.d (aG k),.d (.str t),.d (aG 0),.nl]),(15,.box false [.d (.sl (L.map aG)),.d (aG 2)])]) (λ⟨b⟩=>b=true↔(k=5\/k=6)) ?_ λ⟨b⟩ hc17=>?_
     ·refine aA ?_;simp;refine aC ?_;simp;refine⟨λh15=>?_,λh15=>?_⟩
      ·refine aE ?_;simp;refine UV.mk ⟨decide (k=5)⟩ (aB hp [2,3,4,25,58] [(2,2),(4,4),(15,15)]) ?_;simp[h15]
      ·refine aJ ?_;simp;refine UV.mk ⟨decide (k=6)⟩ (aB hp [2,3,4,25,58] [(2,2),(4,4),(15,15)]) ?_;simp only[decide_eq_true_eq];omega
     ·refine aC ?_;simp;refine⟨λh17=>?_,λh17=>?_⟩
      ·have q17:=hc17.1 h17;refine aA ?_;simp;refine gH (fz:=false) (cs:=[.d (aG 8),.d (.str []),.d (aG 0),.nl]) 8 3 1077 4 (by decide) ⟨by simp,by simp,by simp,?_⟩;simp;refine aD ?_;refine aH ?_;refine aR (ι:=Za) (λ⟨m,ks,j⟩=>aO [(2,.bx 2 0),(3,.bx 15 0),(4,.bx 4 0),(8,.bx 8 0)]) (λ⟨m,ks,j⟩=>aI [(2,.box false [.d (aG 0),.d (.str []),.d (aG 0),.nl]),(4,.box false [.d (aG k),.d (.str t),.d (aG 0),.nl]),(8,.box false [.d (aG 8),.d (.str []),.d (aG 0),.ow 1077 0 ks.length]),(15,.box false [.d (.sl (L.map aG)),.d (aG (j:Nat))]),(1077,.row false 4 (ks.map Nd.d))]) (λ⟨m,ks,j⟩=>j<=3000/\L.length<=m+j/\ks.length<=j/\bodyM L L.length [] 2=bodyM L m ks j) (λ⟨m,ks,j⟩=>L.length-j) ⟨L.length,[],2⟩ (aB hp [2,3,4,8] [(2,2),(4,4),(8,8),(15,15),(1077,1077)]) (⟨by omega,by omega,by simp,rfl⟩) λ⟨m,ks,j⟩ hi18=>?_;refine aD ?_;refine aD ?_;refine eF.rd [] [] (λ_=>none) ?_;simp;refine aC ?_;simp;refine⟨λh18=>?_,λh18=>?_⟩
       ·refine aE ?_;simp;refine aH ?_;have h19:=NU L hL (by omega) 2 (by omega) 5000 (by omega) j (by omega);have hup:=Ty L 2 j;have hto:=GY L 2 j;have hto2:=Jt (d:=2) (by omega);have hkl:=hi18.2.2.1;refine eF.rd [[15,76],[15,76]] [[],[],[],[15],[76],[77,1077],[],[8]] (λ|75=>some (.gen ⟨[(15,0)],[],[],iB L (oneM L 2 j).2,.d (oneM L 2 j).1.d⟩)|_=>none) ?_;simp;refine⟨by(repeat' with_reducible apply And.intro)<;>first|omega|(simpa using h19),?_⟩;refine Nf.mk ⟨m-1,ks++[(oneM L 2 j).1],(oneM L 2 j).2⟩ (aB hp [2,3,4,8] [(2,2),(4,4),(8,8),(15,15),(77,1077)]) ?_ ?_
        ·refine⟨(show(oneM L 2 j).2<=3000 by omega),(show L.length<=m-1+(oneM L 2 j).2 by omega),(by rw[List.length_append,List.length_singleton];show ks.length+1<=(oneM L 2 j).2;omega),?_⟩;rw[hi18.2.2.2,VH (by omega) (by omega)]
        ·show L.length-(oneM L 2 j).2<L.length-j;omega
       ·refine bA ?_;simp;refine aJ ?_;simp;refine gG (bJ 4 [80] (fz:=false) (cs:=[.d (aG k),.d (.str t),.d (aG 0),.ow 80 0 1]) (ds:=[aG k,.str t,aG 0,.sl [(Nd.mk 8 [] 0 ks).d]]) (by simp) (by simp) (by simp) (by simp[aV.mut])) ?_;simp;refine UV.mk ⟨.mk k t 0 [.mk 8 [] 0 ks]⟩ (aB hp [2,4] [(2,2),(4,4)]) ?_;rw[Qg hk ht q17,hi18.2.2.2,Tz (by omega)]
      ·have q17:¬(k=5\/k=6):=λq=>by simp[hc17.2 q]at h17
       refine aE ?_;simp;refine gG (bJ 4 [] (fz:=false) (cs:=[.d (aG k),.d (.str t),.d (aG 0),.nl]) (ds:=[aG k,.str t,aG 0,.sl []]) (by simp) (by simp) (by simp) (by simp[aV.mut])) ?_;simp;refine UV.mk ⟨.mk k t 0 []⟩ (aB hp [2,4] [(2,2),(4,4)]) ?_;exact Qh hk ht h4 h6 h8 q17
 ·refine aA ?_;simp;refine aF ?_;have e:treeS l=x:=htr.trans hc21;simp[e]
end
section
attribute[local simp] jO.cond Nd.d_eq nd_t nd_dr nd_td ndsD aQ kY cV Bf Bg Bh Jc
def zE(n:Int):Prop:= -9223372036854775808<=n/\n<=9223372036854775807
theorem GZ{a:Int}{m:Nat}(h:zE a):zE (a.tdiv ((m:Int)+1)):=by
 unfold zE at*;have h1:(a.tdiv ((m:Int)+1)).natAbs<=a.natAbs:=by rw[Int.natAbs_tdiv];exact Nat.div_le_self _ _
 by_cases h0:0<=a
 ·have:=Int.tdiv_nonneg h0 (show(0:Int)<=(m:Int)+1 by omega);omega
 ·have h2:a.tdiv ((m:Int)+1)<=0:=by
   obtain⟨b,rfl⟩:∃b,a= -b:=⟨-a,by omega⟩;rw[Int.neg_tdiv];have:=Int.tdiv_nonneg (show(0:Int)<=b by omega) (show(0:Int)<=(m:Int)+1 by omega);omega
  omega
end
theorem BQ(L:List Int)(i:Nat):(ownM L i).length<=16:=by
 unfold ownM;have:∀k:Nat,(ownL.getD k []).length<=16:=λk=>by
  rw[List.getD_eq_getElem?_getD];cases e:ownL[k]? with
  |none=>simp
  |some w=>
   have:=List.mem_of_getElem? e;exact(by decide:∀w∈ownL,w.length<=16) w this
 exact this _
theorem iQ(k:Int)(t:aM)(n:Int):weighN (.mk k t n [])=t.length+1:=by simp[weighN,weighL]
theorem uN(L:List Int)(i:Nat):weighN (placeM L i).1<=34:=by
 have h1:=mC L (i+1);have h2:=mC L (i+2);unfold placeM;split<;>simp only[iQ,List.length_append,List.length_cons]<;>omega
theorem Bk(L:List Int):∀(d i:Nat),weighN (valueM L d i).1+1<=35*2^d:=λd=>by
 induction d with
 |zero=>
  intro i;obtain⟨r0,_,r2⟩:=fL L 0 i;have r2:=r2 rfl;have ho:=BQ L (i+1);have hp:=uN L (i+1);by_cases h0:cR L 0 i=0\/cR L 0 i=1
  ·rw[iZ h0];simp[iQ]
  ·by_cases h1:cR L 0 i=2
   ·rw[jA h1];simp only[iQ];omega
   ·by_cases h2:cR L 0 i=3\/cR L 0 i=4
    ·rw[fH h2];omega
    ·rw[gL (by omega)];simp[iQ]
 |succ e ih=>
  intro i;have hp1:1<=2^e:=Nat.one_le_two_pow;have h2:2^(e+1)=2*2^e:=by rw[Nat.pow_succ,Nat.mul_comm]
  have ho:=BQ L (i+1);have hp:=uN L (i+1);obtain⟨r0,_,_⟩:=fL L (e+1) i;by_cases h0:cR L (e+1) i=0\/cR L (e+1) i=1
  ·rw[iZ h0];simp only[iQ,List.length_nil];omega
  ·by_cases h1:cR L (e+1) i=2
   ·rw[jA h1];simp only[iQ];omega
   ·by_cases h3:cR L (e+1) i=3\/cR L (e+1) i=4
    ·rw[fH h3];omega
    ·by_cases h4:cR L (e+1) i=5
     ·rw[gL h4];simp only[iQ,List.length_nil];omega
     ·rw[rD (by omega)];have a:=ih (i+1);have b:=ih (valueM L e (i+1)).2;simp only[weighN,weighL,List.length_nil];omega
theorem Dx{L:List Int}{d i C:Nat}{bl:Nat->Nd×Nat}(hb:∀j,weighN (bl j).1<=C):weighN (oneB L d bl i).1<=200+2*C:=by
 rw[fO rfl];have v1:=λj=>Bk L 1 j;have v2:=λj=>Bk L 2 j;have pl:=uN L (i+1);have cl:=mC L (i+1);have ol:=BQ L (i+1);have ol2:=BQ L (i+1+1);unfold uL;have a1:=v1 (i+1);have a2:=v1 (i+1+1);have a3:=v2 (i+1);have a4:=v2 (i+1+1);have a5:=v2 (placeM L (i+1)).2;have b1:=hb (valueM L 1 (i+1)).2;have b2:=hb ((bl (valueM L 1 (i+1)).2).2+1);simp only[Nat.reducePow,Nat.reduceMul]at*;repeat(first|(simp only[weighN,weighL,List.length_nil];omega)|split)
theorem Bl{L:List Int}{st:Nat->Nd×Nat}{C:Nat}(h:∀j,weighN (st j).1<=C):∀(m:Nat) (ks:List Nd) (j:Nat),weighL (somesM L st m ks j).1<=weighL ks+m*C
 |0,ks,j=>by simp[somesM]
 |m+1,ks,j=>by
  unfold somesM;split
  ·simp
  ·have a:=Bl (L:=L) h m (ks++[(st j).1]) (st j).2;have b:=h j;rw[weighL_append]at a;simp only[weighL]at a;rw[Nat.succ_mul];omega
theorem Mh{L:List Int}{st:Nat->Nd×Nat}{C:Nat}(h:∀j,weighN (st j).1<=C)(i:Nat):weighN (someM L st i).1<=1+3*C:=by
 have hr:=bP L i 4 (by decide);have a:=Bl (L:=L) h (dH L i 4).toNat [] (i+1);have b:(dH L i 4).toNat*C<=3*C:=Nat.mul_le_mul_right C (by omega);show weighN (.mk 8 [] 0 (somesM L st (dH L i 4).toNat [] (i+1)).1)<=_;simp only[weighN,weighL,List.length_nil]at*;omega
def Dy:Nat->Nat
 |0=>204
 |d+1=>200+2*(1+3*Dy d)
theorem FF(L:List Int):∀d i,weighN (oneM L d i).1<=Dy d
 |0,i=>by
  rw[oneM];exact Dx (C:=2) λj=>by show weighN default<=2;decide
 |d+1,i=>by
  rw[oneM];exact Dx (C:=1+3*Dy d) λj=>Mh (FF L d) j
theorem Dz(L:List Int):∀(m:Nat) (ks:List Nd) (j:Nat),weighL (bodyM L m ks j)<=weighL ks+m*Dy 2
 |0,ks,j=>by simp[bodyM]
 |m+1,ks,j=>by
  unfold bodyM;split
  ·simp
  ·have a:=Dz L m (ks++[(oneM L 2 j).1]) (oneM L 2 j).2;have b:=FF L 2 j;rw[weighL_append]at a;simp only[weighL]at a;rw[Nat.succ_mul];omega
theorem Bn(L:List Int):∀c,weighL (itemsM L c)<=17*c
 |0=>Nat.le_refl _
 |c+1=>by
  have a:=Bn L c;have b:=mC L (3+2*c);rw[itemsM,weighL_append];simp only[weighL,iQ];omega
theorem DA(l:List Int):weighN (treeS l)<=1000000:=by
 have hl:(l.take 48).length<=48:=by rw[List.length_take];omega
 have cl:=mC (l.take 48) 1;have r4:=bP (l.take 48) 2 4 (by decide);have bw:=Dz (l.take 48) (l.take 48).length [] 2;have b2:(l.take 48).length*Dy 2<=48*Dy 2:=Nat.mul_le_mul_right _ hl;have b3:Dy 2=8758:=rfl;have iw:=Bn (l.take 48) (dH (l.take 48) 2 4).toNat;unfold treeS treeB;simp only[];simp only[weighL]at bw;repeat(first|(simp only[weighN,weighL,List.length_nil];omega)|split)
set_option maxRecDepth 10000
section
attribute[local simp] jO.cond Nd.d_eq nd_t nd_dr nd_td ndsD aQ bL lH dE cV
theorem DB{s:aM}{R:Nd×PS}(hR:defP false ⟨(scanS s).1,0⟩=R)(hl:s.length<=1024){x:Tk}{r:List Tk}(h:R.2.l=x::r):parseS s=(zeroNd,x.at_,if R.2.e≠0 then R.2.e else 2):=by
 unfold parseS;rw[if_neg (by omega)];simp only[];rw[hR,h]
theorem Jv{s:aM}{R:Nd×PS}(hR:defP false ⟨(scanS s).1,0⟩=R)(hl:s.length<=1024)(h:R.2.l=[])(h2:¬R.2.e=0\/(scanS s).2<s.length):parseS s=(zeroNd,(scanS s).2,2):=by
 unfold parseS;rw[if_neg (by omega)];simp only[];rw[hR,h];simp only[];rw[if_pos h2]
theorem FG{s:aM}{R:Nd×PS}(hR:defP false ⟨(scanS s).1,0⟩=R)(hl:s.length<=1024)(h:R.2.l=[])(h2:¬(¬R.2.e=0\/(scanS s).2<s.length)):parseS s=if validB R.1 then(R.1,0,0)else(zeroNd,0,4):=by
 unfold parseS;rw[if_neg (by omega)];simp only[];rw[hR,h];simp only[];rw[if_neg h2]
theorem Mi(s:aM)(R:Nd×PS)(hR:defP false ⟨(scanS s).1,0⟩=R)(hD:s.length<=1024->iE Tryz.prog 73 [.bx 0 0] (dE ⟨(scanS s).1,0⟩) (dE R.2) (.d R.1.d))(hw:s.length<=1024->weighN R.1<=1000000000):Ok Tryz.prog 44 [.str s] ⟨.tup [.d (parseS s).1.d,.d (aG (parseS s).2.1),.d (aG (parseS s).2.2)],false⟩:=by
 refine vN hT Tryz.func44 (by kernel_rfl) (c:=_) rfl Tryz.ntmps44 (by simp) Tryz.results44 (by simp) (by rfl) λw0 X hp=>?_;refine aA ?_;simp;refine aD ?_;refine aA ?_;simp;refine aC ?_;simp;refine⟨λh1=>?_,λh1=>?_⟩
 ·refine aA ?_;simp;refine aF ?_;have e:parseS s=(zeroNd,1024,4):=by unfold parseS;rw[if_pos (by omega)]
  simp[e,zeroNd]
 ·refine aE ?_;simp;refine aD ?_;have hs:=Vk s (by omega);refine eF.ro hT hW (λ|15=>some<| .plain ⟨.tup [.d (.sl ((scanS s).1.map Tk.d)),.d (aG (scanS s).2)],true⟩|_=>none) ?_;simp[aW];refine⟨hs,?_⟩;refine aA ?_;simp;refine aD ?_;have hd:=hD (by omega);refine eF.ro hT hW (λ|22=>some (.gen ⟨[(20,0)],[],[],dE R.2,.d R.1.d⟩)|_=>none) ?_;simp;refine⟨by simpa using hd,?_⟩;refine aD ?_;refine aH ?_;refine aA ?_;simp;refine aC ?_;simp;refine⟨λg1 g2=>?_,λg=>?_⟩
  ·refine aD ?_;obtain⟨x,r,hxr⟩:=List.exists_cons_of_length_pos g2;have hx2:(aK x.d).length=2:=rfl;refine eF.rd [[],[2],[2],[2],[2],[2],[2],[2],[2],[2],[2],[2]] [[],[],[],[],[],[],[],[],[],[],[],[],[2]] (λ_=>none) ?_;simp[hxr,Tk.d];refine aF ?_;have e:=DB hR (by omega) hxr;simp[e,zeroNd,g1]
  ·refine aA ?_;simp;refine aC ?_;simp;refine⟨λh8=>?_,λh8=>?_⟩
   ·refine aD ?_;obtain⟨x,r,hxr⟩:=List.exists_cons_of_length_pos h8;refine eF.rd [[],[2],[2],[2],[2],[2],[2],[2]] [[],[],[],[],[],[],[],[],[2]] (λ_=>none) ?_;simp[hxr,Tk.d];refine aF ?_;have e:=DB hR (by omega) hxr;have g9:R.2.e=0:=Classical.byContradiction λq=>by have:=g q;rw[this]at hxr;cases hxr
    simp[e,zeroNd,g9]
   ·refine aA ?_;simp;refine aC ?_;simp;refine⟨λh10=>?_,λh10 h11=>?_⟩
    ·refine aA ?_;simp;refine aF ?_;have e:=Jv hR (by omega) h8 h10;simp[e,zeroNd]
    ·refine aD ?_;have hv:=IE R.1 (hw (by omega));refine eF.ro hT hW (λ|80=>some<| .plain ⟨.d (.bool (validB R.1)),true⟩|_=>none) ?_;simp;refine⟨by simpa using hv,?_⟩;refine aC ?_;simp;refine⟨λh12=>?_,λh12=>?_⟩
     ·refine aA ?_;simp;refine aF ?_;have e:=FG hR (by omega) h8 (by omega);simp[e,h12,zeroNd]
     ·refine aE ?_;simp;refine aA ?_;simp;refine aF ?_;have e:=FG hR (by omega) h8 (by omega);simp[e,h12]
end
theorem DC(s:aM):Ok Tryz.prog 44 [.str s] ⟨.tup [.d (parseS s).1.d,.d (aG (parseS s).2.1),.d (aG (parseS s).2.2)],false⟩:=
 Mi s _ rfl (λhl=>Xn ⟨(scanS s).1,0⟩ (gI _ _ _) (by have:=kS s.length s 0;show(scanF s.length s 0).1.length<=1000000;omega)) λhl=>uK hl
section
set_option maxRecDepth 10000
set_option maxHeartbeats 4000000
attribute[local simp] jO.cond Nd.d_eq nd_t nd_dr nd_td ndsD aQ kY cV Bf Bg Bh Jc
end
section
attribute[local simp] jO.cond Nd.d_eq nd_t nd_dr nd_td ndsD aQ
def Yh(w:aM):Nat->aM
 |0=>[]
 |n+1=>Yh w n++w
theorem gQ(s:aM):weighN (parseS s).1<=1000000000:=by
 by_cases h:1024<s.length
 ·unfold parseS;rw[if_pos h];decide
 ·obtain⟨R,hR⟩:∃R,defP false ⟨(scanS s).1,0⟩=R:=⟨_,rfl⟩;have hw:=uK (s:=s) (by omega);rw[hR]at hw;unfold parseS;rw[if_neg h];simp only[];rw[hR];have z:weighN zeroNd<=1000000000:=by decide
  split
  ·exact z
  ·split
   ·exact z
   ·split
    ·exact hw
    ·exact z
theorem Xr(w:aM):Yh w 0=[]:=rfl
attribute[local simp] Xr
theorem TD(s:aM)(n:Nat)(hl:s.length<=9223372036854775807):Ok Tryz.prog 17 [.str s,aG n] ⟨.d (.str (s.take n)),true⟩:=by
 refine aZ Tryz.func17 rfl Tryz.ntmps17 Tryz.results17 λw0 X hp=>?_;refine aA ?_;simp;refine aD ?_;refine aA ?_;simp;refine aC ?_;simp;refine⟨λh1=>?_,λh1=>?_⟩
 ·refine aA ?_;simp;refine⟨by omega,?_⟩;refine aF ?_;simp
 ·refine aE ?_;simp;refine aA ?_;simp;refine aF ?_;simp;exact(List.take_of_length_le (by omega)).symm
end
section
attribute[local simp] jO.cond Nd.d_eq nd_t nd_dr nd_td ndsD aQ bD
def Ha(ts:List Nd)(d:Df):Int:=
 if(parseS d.text).2.2≠0 then(parseS d.text).2.2
 else if(parseS d.text).1.text≠d.name then 11
 else if(mX ts d.name).isSome=true\/(dX (dJ (bG (parseS d.text).1))).length<(bG (parseS d.text).1).length then 7 else 0
def BR(ts:List Nd):List Df->List Nd×Int×Int
 |[]=>(ts,((ts.length:Nat):Int),0)
 |d::r=>if Ha ts d=0 then BR (ts++[(parseS d.text).1]) r else(ts,((ts.length:Nat):Int),Ha ts d)
def dB(l:List Df):List Nd×Int×Int:=if 24<l.length then([],0,4)else BR [] l
theorem Qi(n:Nat):nM (n+1)=nM n++[aG (n:Int)]:=by unfold nM;rw[List.range_succ,List.map_append];rfl
theorem Xs{H:dC}{id:Nat}{ts:List Nd}{n i:Nat}{name:aM}(hm:mX ts name=none)(hi:n=i)(h:H id=.map false (nB ts) (nM n)):
 bZ T H 52 (.mp id) (.d (.str name)) (.d (aG (i:Int)))=⟨.junk,True,[(id,.map false (nB ts++[.str name]) (nM (n+1)))]⟩:=by
 subst hi;unfold bZ;simp only[Zc,h,qW,hm,Qi];simp[qF,bS,fP]
theorem VI{H:dC}{ts:List Nd}{id n:Nat}(hn:n=ts.length){name:aM}(h:H id=.map false (nB ts) (nM n)):cI T H 52 (.mp id) (.d (.str name)) true=⟨.tup [.d (aG (Uy ts name)),.d (.bool (mX ts name).isSome)],True,[]⟩:=by
 subst hn;unfold Uy;cases q:mX ts name with
 |none=>simp[cI,qG,h,qW,q]
 |some j=>
  have:=NE (uG q);simp[cI,qG,h,qW,q,this]
theorem zF(s:aM):(bG (parseS s).1).length<=1000000000:=by
 have h1:=uF (parseS s).1.kids;have h2:=weighN_eq (parseS s).1;have h3:=weigh_len (l:=(parseS s).1.kids);have h4:=gQ s;show(fN (parseS s).1.kids).length<=_;omega
theorem VJ{l:List Df}{i:Nat}(h:i<l.length):l.drop i=l[i]::l.drop (i+1):=List.drop_eq_getElem_cons h
theorem sK{ts:List Nd}{d:Df}{r:List Df}(h:Ha ts d≠0):BR ts (d::r)=(ts,((ts.length:Nat):Int),Ha ts d):=by rw[BR,if_neg h]
theorem Hb{ts:List Nd}{d:Df}{r:List Df}(h:Ha ts d=0):BR ts (d::r)=BR (ts++[(parseS d.text).1]) r:=by rw[BR,if_pos h]
theorem Qj(ts:List Nd)(t:Nd):nB (ts++[t])=nB ts++[.str t.text]:=by unfold nB;simp
theorem VK(l:List Df):Ok Tryz.prog 61 [eM l] ⟨.tup [.d (xC (dB l).1),.d (aG (dB l).2.1),.d (aG (dB l).2.2)],false⟩:=by
 refine vN hT Tryz.func61 (by kernel_rfl) (c:=_) rfl Tryz.ntmps61 (by simp) Tryz.results61 (by simp) (by rfl) λw0 X hp=>?_;refine aA ?_;simp;refine aA ?_;simp;refine gH (fz:=false) (cs:=[.nl,.mp 14]) 5 0 1078 4 (by decide) ⟨by simp,by simp,by simp,?_⟩;simp;refine aD ?_;refine aA ?_;simp;refine aC ?_;simp;refine⟨λh2=>?_,λh2=>?_⟩
 ·refine aA ?_;simp;refine aF ?_;simp[dB,xC,nB,nM,show 24<l.length by omega]
 ·refine aE ?_;simp;refine aD ?_;refine aA ?_;simp;refine aH ?_;refine aR (ι:=Nat×List Nd) (λ⟨i,ts⟩=>aO [(0,.d (eM l)),(2,.bx 2 0),(5,.bx 5 0),(20,.d (eM l)),(21,.d (aG (l.length:Nat))),(22,.d (aG (i:Nat)))]) (λ⟨i,ts⟩=>aI [(2,.box false [.nl,.d (.val (.map none))]),(5,.box false [.ow 1078 0 ts.length,.mp 14]),(14,.map false (nB ts) (nM ts.length)),(1078,.row false 4 (ts.map Nd.d))]) (λ⟨i,ts⟩=>i<=l.length/\ts.length=i/\dB l=BR ts (l.drop i)) (λ⟨i,ts⟩=>l.length-i) (0,[]) (aB hp [0,2,5,20,21,22] [(2,2),(5,5),(14,14),(1078,1078)] (hH:=by simp[nB,nM])) (⟨Nat.zero_le _,rfl,by unfold dB;rw[if_neg (by omega)];rfl⟩) λ⟨i,ts⟩ hi5=>?_;obtain⟨hi1,hi2,hi3⟩:=hi5;have hti:List.take i (List.map Nd.d ts)=List.map Nd.d ts:=List.take_of_length_le (by rw[List.length_map,hi2];exact Nat.le_refl _);refine aA ?_;simp;refine aD ?_;refine aC ?_;simp;refine⟨λh5=>?_,λh5=>?_⟩
  ·refine aE ?_;simp;refine aD ?_;refine aH ?_;refine aD ?_;have hi:i<l.length:=by omega
   obtain⟨d,hd⟩:∃d,l[i]=d:=⟨_,rfl⟩;rw[VJ hi,hd]at hi3;refine aJ ?_;simp[hi,hd];refine aD ?_;have kp:=DC d.text;obtain⟨P,hP⟩:∃P,parseS d.text=P:=⟨_,rfl⟩;have hwt:=gQ d.text;have hfl:=zF d.text;rw[hP]at kp hwt hfl;obtain⟨x,hx⟩:∃x,P.1=x:=⟨_,rfl⟩;have hrd:Ha ts d=if P.2.2≠0 then P.2.2 else if P.1.text≠d.name then 11 else if(mX ts d.name).isSome=true\/(dX (dJ (bG P.1))).length<(bG P.1).length then 7 else 0:=by unfold Ha;rw[hP]
   rw[hx]at kp hwt hfl hrd;refine eF.ro hT hW (λ|30=>some<| .plain ⟨.tup [.d x.d,.d (aG P.2.1),.d (aG P.2.2)],false⟩|_=>none) ?_;simp[aW];refine⟨by simpa using kp,?_⟩;refine aD ?_;refine aA ?_;simp;refine aC ?_;simp;refine⟨λh8=>?_,λh8=>?_⟩
   ·have he:Ha ts d=P.2.2:=(by rw[hrd,if_pos h8]);rw[sK (by rw[he];exact h8),he]at hi3;refine aA ?_;simp;refine aF ?_;simp[hi3,xC,hi2,hti]
   ·have h8':¬P.2.2≠0:=by simpa using h8
    rw[if_neg h8']at hrd;refine aE ?_;simp;refine aD ?_;refine aA ?_;simp;refine aC ?_;simp;refine⟨λh10=>?_,λh10=>?_⟩
    ·have he:Ha ts d=11:=by rw[hrd,if_pos (by simpa using h10)]
     rw[sK (by rw[he];decide),he]at hi3;refine aA ?_;simp;refine aF ?_;simp[hi3,xC,hi2,hti]
    ·have h10':¬x.text≠d.name:=by simpa using h10
     rw[if_neg h10']at hrd;refine aE ?_;simp;refine aD ?_;have kf:=Fa x hwt;simp at kf;refine eF.ro hT hW (λ|47=>some<| .plain ⟨.own 1 ((bG x).map .str),true⟩|_=>none) ?_;simp;refine⟨by simpa using kf,?_⟩;refine aD ?_;have ks:=xD (bG x) (by omega);refine eF.ro hT hW (λ|49=>some (.gen ⟨[(47,0)],[],[],[(0,.row false 1 ((dJ (bG x)).map .str))],.tup []⟩)|_=>none) ?_;simp;refine⟨by simpa using ks,?_⟩;refine aD ?_;refine aA ?_;simp[VI (ts:=ts) rfl,aW];refine aD ?_;by_cases hat:(mX ts d.name).isSome=true
     ·refine rM hT hW (λ_=>none) (by intro d;first|exact⟨rfl,λ_ h=>h⟩|(split<;>exact⟨rfl,λ_ h=>h⟩)) ?_;simp[hat];have he:Ha ts d=7:=by rw[hrd,if_pos (.inl hat)]
      rw[sK (by rw[he];decide),he]at hi3;refine aC ?_;simp[hat];refine aA ?_;simp;refine aF ?_;simp[hi3,xC,hi2,hti]
     ·have hat':mX ts d.name=none:=by simpa using hat
      have hsl:=iX (bG x);have kc:=IJ (dJ (bG x)) (by omega);have kd:=Em (dJ (bG x)) (by omega);have hdl:=sD (dJ (bG x));have htk:List.take (bG x).length (List.map DV.str (dJ (bG x)))=List.map DV.str (dJ (bG x)):=List.take_of_length_le (by rw[List.length_map,hsl];exact Nat.le_refl _);refine eF.ro hT hW (λ|61=>some<| .plain ⟨.own 1 ((dJ (bG x)).map .str),true⟩|62=>some (.gen ⟨[(61,0)],[],[],[(0,.row false 1 ((dX (dJ (bG x))).map .str++List.replicate ((dJ (bG x)).length-(dX (dJ (bG x))).length) (.str [])))],.ow 0 0 (dX (dJ (bG x))).length⟩)|_=>none) ?_;simp[hat',hsl,htk];refine⟨⟨by simpa using kc,by simpa [hsl]using kd⟩,?_⟩;refine aC ?_;simp;refine⟨λh15=>?_,λh15=>?_⟩
      ·have he:Ha ts d=7:=by rw[hrd,if_pos (.inr (by omega))]
       rw[sK (by rw[he];decide),he]at hi3;refine aA ?_;simp;refine aF ?_;simp[hi3,xC,hi2,hti]
      ·have he:Ha ts d=0:=by rw[hrd,if_neg (by rintro(h|h);exact hat h;omega)]
       rw[Hb he,hP,hx]at hi3;refine aE ?_;simp;refine eF.rd [[77,78,1078],[77,78,1078],[5,77,78,1078],[5,77,78,1078],[77],[77],[],[],[],[5,77,78,1078]] [[],[],[],[],[],[],[],[77],[78,1078],[],[],[5],[14]] (λ_=>none) ?_;simp[Xs (ts:=ts) hat' hi2];refine⟨⟨by omega,by omega⟩,?_⟩;refine aJ ?_;simp;refine⟨by omega,?_⟩;refine Nf.mk (i+1,ts++[x]) (aB hp [0,2,5,20,21,22] [(2,2),(5,5),(14,14),(78,1078)] (hH:=by simp[Qj,h10])) ?_ ?_
       ·exact⟨by omega,by simp[hi2],hi3⟩
       ·omega
  ·refine bA ?_;simp;refine aA ?_;simp;refine aF ?_;have e:i=l.length:=by omega
   rw[e,List.drop_length,BR]at hi3;rw[e]at hti;simp[hi3,xC,hi2,e,hti]
end
section
attribute[local simp] jO.cond Nd.d_eq nd_t nd_dr nd_td ndsD aQ bD
theorem Jw:∀(l:List Df) (ts:List Nd),(∀t∈ts,∃s,t=(parseS s).1)->(∀t∈(BR ts l).1,∃s,t=(parseS s).1)/\ts.length<=(BR ts l).1.length/\(BR ts l).1.length<=ts.length+l.length/\((BR ts l).2.2=0->(BR ts l).1.length=ts.length+l.length/\(BR ts l).2.1=((ts.length+l.length:Nat):Int))
 |[],ts,h=>⟨h,Nat.le_refl _,Nat.le_refl _,λ_=>⟨rfl,rfl⟩⟩
 |d::r,ts,h=>by
  by_cases e:Ha ts d=0
  ·rw[Hb e];obtain⟨h1,h2,h3,h4⟩:=Jw r (ts++[(parseS d.text).1]) λt ht=>by
    rcases List.mem_append.1 ht with ht|ht
    ·exact h t ht
    ·exact⟨d.text,by simpa using ht⟩
   simp only[List.length_append,List.length_cons,List.length_nil]at h2 h3 h4|-;refine⟨h1,by omega,by omega,λe=>?_⟩;obtain⟨h5,h6⟩:=h4 e;exact⟨by omega,by rw[h6];congr 1;omega⟩
  ·rw[sK e];exact⟨h,Nat.le_refl _,by simp,λh=>absurd h e⟩
theorem sL(l:List Df):(∀t∈(dB l).1,∃s,t=(parseS s).1)/\(dB l).1.length<=24/\((dB l).2.2=0->l.length<=24/\(dB l).1.length=l.length/\(dB l).2.1=(l.length:Int)):=by
 unfold dB;by_cases h:24<l.length
 ·rw[if_pos h];exact⟨by simp,by simp,λh=>by simp at h⟩
 ·rw[if_neg h];obtain⟨h1,h2,h3,h4⟩:=Jw l [] (by simp);simp only[List.length_nil,Nat.zero_add]at h3 h4;exact⟨h1,by omega,λe=>⟨by omega,(h4 e).1,(h4 e).2⟩⟩
theorem Qk(M:List Nat){H:dC}{k:Nat}:cI T H 89 (.d (.mp (yP M) (El M))) (.d (aG (k:Int))) false=⟨.d (.bool (decide (k∈M))),True,[]⟩:=IH M rfl
def DD(k:Int):Bool:=decide (k=14)
def Hc(ts:List Nd)(i:Nat):Bool:=decide (Ei ts (ts.getD i default)≠0)
def Hd(ts:List Nd)(i:Nat):Bool:=decide (i∈iK ts DD i)
def dA(p:Nat->Bool)(n:Nat):Option Nat:=(List.range n).find? p
theorem kU{p:Nat->Bool}{n i:Nat}(hi:i<n)(h:∀j<i,p j=false)(h1:p i=true):dA p n=some i:=by
 unfold dA;rw[List.find?_eq_some_iff_append];refine⟨h1,List.range i,(List.range (n-i-1)).map (·+(i+1)),?_,λj hj=>by simp[h j (List.mem_range.1 hj)]⟩;apply List.ext_getElem
 ·simp;omega
 ·intro k h2 h3;rw[List.getElem_range,List.getElem_append];split
  ·simp
  ·rename_i hk;simp only[List.length_range,Nat.not_lt]at hk;rw[List.getElem_cons];split
   ·rename_i e;simp only[List.length_range]at e;omega
   ·rename_i e;simp only[List.length_range]at e;simp;omega
theorem kV{p:Nat->Bool}{n:Nat}(h:∀j<n,p j=false):dA p n=none:=by
 unfold dA;rw[List.find?_eq_none];intro j hj;simp[h j (List.mem_range.1 hj)]
def lE(l:List Df):List Nd×Int×Int:=
 if(dB l).2.2≠0 then dB l
 else match dA (Hc (dB l).1) (dB l).1.length with
  |some i=>((dB l).1,(i:Int),Ei (dB l).1 ((dB l).1.getD i default))
  |none=>match dA (Hd (dB l).1) (dB l).1.length with
   |some i=>((dB l).1,(i:Int),13)
   |none=>((dB l).1,(l.length:Int),0)
theorem DE(l:List Df):Ok Tryz.prog 28 [eM l] ⟨.tup [.d (xC (lE l).1),.d (aG (lE l).2.1),.d (aG (lE l).2.2)],false⟩:=by
 refine vN hT Tryz.func28 (by kernel_rfl) (c:=_) rfl Tryz.ntmps28 (by simp) Tryz.results28 (by simp) (by rfl) λw0 X hp=>?_;obtain⟨R,hR⟩:∃R,dB l=R:=⟨_,rfl⟩;obtain⟨ts,hts⟩:∃ts,R.1=ts:=⟨_,rfl⟩;have kr:=VK l;have sp:=sL l;have hC:lE l=if(dB l).2.2≠0 then dB l else match dA (Hc (dB l).1) (dB l).1.length with|some i=>((dB l).1,(i:Int),Ei (dB l).1 ((dB l).1.getD i default))|none=>match dA (Hd (dB l).1) (dB l).1.length with|some i=>((dB l).1,(i:Int),13)|none=>((dB l).1,(l.length:Int),0):=rfl
 rw[hR]at kr sp hC;rw[hts]at kr sp hC;have hw:∀t∈ts,weighN t<=1000000000:=λt ht=>by obtain⟨s,rfl⟩:=sp.1 t ht;exact gQ s
 have hl24:ts.length<=24:=sp.2.1;refine aA ?_;simp;refine aX hT hW (λ|14=>some<| .plain ⟨.tup [.d (xC ts),.d (aG R.2.1),.d (aG R.2.2)],false⟩|_=>none) ?_;simp[aW];refine⟨⟨by simpa using kr,by simp[xC]⟩,?_⟩;simp[xC];refine aD ?_;refine aA ?_;simp;refine aC ?_;simp;refine⟨λh2=>?_,λh2=>?_⟩
 ·rw[if_pos h2]at hC;refine aA ?_;simp;refine aF ?_;simp[hC,hts,xC]
 ·have h2':R.2.2=0:=by simpa using h2
  obtain⟨hln,htl,_⟩:=sp.2.2 h2';rw[if_neg (by simpa using h2')]at hC;refine aE ?_;simp;refine aD ?_;refine aA ?_;simp;refine aH ?_;refine aR (ι:=Nat) (λi=>aO [(0,.d (eM l)),(2,.bx 2 0),(5,.bx 5 0),(24,.d (ndsD ts)),(25,.d (aG (ts.length:Nat))),(26,.d (aG (i:Nat)))]) (λi=>aI [(2,.box false [.nl,.d (.val (.map none))]),(5,.box false [.d (ndsD ts),.d (.mp (nB ts) (nM ts.length))])]) (λi=>i<=ts.length/\∀j<i,Hc ts j=false) (λi=>ts.length-i) 0 (aB hp [0,2,5,24,25,26] [(2,2),(5,5)]) (⟨Nat.zero_le _,λj h=>absurd h (Nat.not_lt_zero _)⟩) λi hi5=>?_;refine aA ?_;simp;refine aD ?_;refine aC ?_;simp;refine⟨λh5=>?_,λh5=>?_⟩
  ·refine aE ?_;simp;refine aD ?_;refine aH ?_;refine aD ?_;have hi:i<ts.length:=by omega
   obtain⟨t,ht⟩:∃t,ts[i]=t:=⟨_,rfl⟩;have htm:t∈ts:=by rw[<-ht];exact List.getElem_mem hi
   have hget:ts.getD i default=t:=(by rw[List.getD_eq_getElem?_getD,List.getElem?_eq_getElem hi,ht];rfl);have hbi:Hc ts i=decide (Ei ts t≠0):=by unfold Hc;rw[hget]
   have km:=LG ts t (hw t htm) hw;refine aJ ?_;simp[hi,ht];refine aX hT hW (λ|33=>some<| .plain ⟨.d (aG (Ei ts t)),true⟩|_=>none) ?_;simp;refine⟨by simpa [xC]using km,?_⟩;refine aA ?_;simp;refine aC ?_;simp;refine⟨λh8=>?_,λh8=>?_⟩
   ·have hf:=kU hi hi5.2 (by rw[hbi];simpa using h8);rw[hf]at hC;simp only[hget]at hC;refine aA ?_;simp;refine aF ?_;simp[hC,xC]
   ·have hbad:Hc ts i=false:=by rw[hbi];simpa using h8
    refine aE ?_;simp;refine aJ ?_;simp;refine⟨by omega,?_⟩;refine Nf.mk (i+1) (aB hp [0,2,5,24,25,26] [(2,2),(5,5)]) ?_ ?_
    ·refine⟨by omega,λj hj=>?_⟩;rcases Nat.lt_succ_iff_lt_or_eq.1 hj with hj|rfl
     ·exact hi5.2 j hj
     ·exact hbad
    ·omega
  ·refine bA ?_;simp;refine aD ?_;refine aD ?_;have hn1:=kV (p:=Hc ts) (n:=ts.length) λj hj=>hi5.2 j (by omega);rw[hn1]at hC;refine aJ ?_;simp;refine aH ?_;refine aR (ι:=Nat) (λi=>aO [(0,.d (eM l)),(2,.bx 2 0),(5,.bx 5 0),(42,.d (aG (ts.length:Nat))),(43,.d (aG (i:Nat)))]) (λi=>aI [(2,.box false [.nl,.d (.val (.map none))]),(5,.box false [.d (ndsD ts),.d (.mp (nB ts) (nM ts.length))])]) (λi=>i<=ts.length/\∀j<i,Hd ts j=false) (λi=>ts.length-i) 0 (aB hp [0,2,5,42,43] [(2,2),(5,5)]) (⟨Nat.zero_le _,λj h=>absurd h (Nat.not_lt_zero _)⟩) λi hi12=>?_;refine aA ?_;simp;refine aD ?_;refine aC ?_;simp;refine⟨λh12=>?_,λh12=>?_⟩
   ·refine aE ?_;simp;refine aD ?_;refine aH ?_;refine aA ?_;simp;refine aD ?_;have hi:i<ts.length:=by omega
    have kre:=CU ts DD 63 i hw (λk=>PJ k) hi;refine eF.ro hT hW (λ|48=>some<| .plain ⟨.d (.mp (yP (iK ts DD i)) (El (iK ts DD i))),false⟩|_=>none) ?_;simp[Qk (iK ts DD i)];refine⟨by simpa [xC]using kre,?_⟩;refine aC ?_;simp;refine⟨λh14=>?_,λh14=>?_⟩
    ·have hf:=kU hi hi12.2 (by simpa [Hd]using h14);rw[hf]at hC;refine aA ?_;simp;refine aF ?_;simp[hC,xC]
    ·have hbad:Hd ts i=false:=by simpa [Hd]using h14
     refine aE ?_;simp;refine aJ ?_;simp;refine⟨by omega,?_⟩;refine Nf.mk (i+1) (aB hp [0,2,5,42,43] [(2,2),(5,5)]) ?_ ?_
     ·refine⟨by omega,λj hj=>?_⟩;rcases Nat.lt_succ_iff_lt_or_eq.1 hj with hj|rfl
      ·exact hi12.2 j hj
      ·exact hbad
     ·omega
   ·refine bA ?_;simp;refine aA ?_;simp;refine aF ?_;have hn2:=kV (p:=Hd ts) (n:=ts.length) λj hj=>hi12.2 j (by omega);rw[hn2]at hC;simp[hC,xC]
end
section
attribute[local simp] jO.cond Nd.d_eq nd_t nd_dr nd_td ndsD aQ bD
def He(a b:aM):Int:=if Op.bytesLess a b=true then -1 else if a=b then 0 else 1
theorem NW{a b:aM}:He a b<0↔Op.bytesLess a b=true:=by
 unfold He;by_cases h1:Op.bytesLess a b=true
 ·rw[if_pos h1];simp[h1]
 ·rw[if_neg h1];split<;>simp[h1]
def BG(out:List Df)(x:Df):List Df:=lI (mY (λy=>Op.bytesLess x.name y.name) out out.length) x out
def cY(l:List Df):List Df:=l.foldl BG []
theorem TE(out:List Df)(x:Df):(BG out x).length=out.length+1:=rV
theorem nY(l:List Df):(cY l).length=l.length:=by
 have:∀(l out:List Df),(l.foldl BG out).length=out.length+l.length:=λl=>by
  induction l with
  |nil=>intro out;rfl
  |cons x r ih=>intro out;rw[List.foldl_cons,ih,TE,List.length_cons];omega
 rw[cY,this];simp
theorem Mj{l:List Df}{i:Nat}(h:i<l.length):cY (l.take (i+1))=BG (cY (l.take i)) l[i]:=by
 unfold cY;rw[List.take_succ_eq_append_getElem h,List.foldl_append];rfl
def pF(A o t:List Df)(x:Df)(j:Nat):List Df:=A++(lI j x o++t)
theorem TF{A o t:List Df}{x:Df}{j:Nat}:(pF A o t x j).length=A.length+o.length+1+t.length:=by
 unfold pF;rw[List.length_append,List.length_append,rV];omega
theorem VL{A o t:List Df}{x:Df}{j:Nat}(hj:j<=o.length)(h:A.length+j<(pF A o t x j).length):(pF A o t x j)[A.length+j]=x:=by
 have h0:(pF A o t x j)[A.length+j]? =some x:=by
  unfold pF lI;rw[List.getElem?_append_right (by omega),Nat.add_sub_cancel_left,List.getElem?_append_left (by simp;omega),List.getElem?_append_right (by simp;omega)];simp[Nat.min_eq_left hj]
 rw[List.getElem?_eq_getElem h]at h0;exact Option.some.inj h0
theorem Ql{A o t:List Df}{x:Df}{j:Nat}(hj:j<o.length)(h:A.length+j<(pF A o t x (j+1)).length):(pF A o t x (j+1))[A.length+j]=o[j]:=by
 have h0:(pF A o t x (j+1))[A.length+j]? =some o[j]:=by
  unfold pF lI;rw[List.getElem?_append_right (by omega),Nat.add_sub_cancel_left,List.getElem?_append_left (by simp;omega),List.getElem?_append_left (by simp;omega),List.getElem?_take_of_lt (by omega),List.getElem?_eq_getElem hj]
 rw[List.getElem?_eq_getElem h]at h0;exact Option.some.inj h0
theorem Qm{A o t:List Df}{x:Df}{j:Nat}(hj:j<o.length):((pF A o t x (j+1)).set (A.length+(j+1)) o[j]).set (A.length+j) x=pF A o t x j:=by
 unfold pF lI;have e1:o.take (j+1)=o.take j++[o[j]]:=List.take_succ_eq_append_getElem hj;have e2:o.drop j=o[j]::o.drop (j+1):=List.drop_eq_getElem_cons hj;have hl:(o.take j).length=j:=by simp;omega
 rw[e1,e2];rw[List.set_append_right _ _ (by omega),Nat.add_sub_cancel_left,List.set_append_right _ _ (by omega),Nat.add_sub_cancel_left];congr 1;simp only[List.append_assoc,List.cons_append,List.nil_append];rw[List.set_append_right _ _ (by omega),hl,show j+1-j=1 by omega,List.set_append_right _ _ (by omega),hl,Nat.sub_self];rfl
theorem TG{A o t s:List Df}{x:Df}{a j:Nat}(ha:A.length=a)(e:s=pF A o t x j)(hj:j<=o.length)(h:a+j<s.length):s[a+j]=x:=by
 subst e;subst ha;exact VL hj h
theorem Mk{A o t s:List Df}{x:Df}{a j:Nat}(ha:A.length=a)(e:s=pF A o t x (j+1))(hj:j<o.length)(h:a+j<s.length):s[a+j]=o[j]:=by
 subst e;subst ha;exact Ql hj h
def Is{α:Type}(a b:α):Prop:=a=b
theorem Bo(s:aM):Ok Tryz.prog 71 [.str s] ⟨.d (.bool false),true⟩:=by
 refine aZ Tryz.func71 rfl Tryz.ntmps71 Tryz.results71 λw0 X hp=>?_;refine aA ?_;simp;refine aA ?_;simp;refine aF ?_;simp
theorem Qn(a b:aM):Ok Tryz.prog 41 [.str a,.str b] ⟨.d (aG (He a b)),true⟩:=by
 refine aZ Tryz.func41 rfl Tryz.ntmps41 Tryz.results41 λw0 X hp=>?_;refine aA ?_;simp;refine aX hT hW (λ|8=>some<| .plain ⟨.d (.bool false),true⟩|_=>none) ?_;simp;refine⟨Bo a,?_⟩;refine aX hT hW (λ|10=>some<| .plain ⟨.d (.bool false),true⟩|_=>none) ?_;simp;refine⟨Bo b,?_⟩;refine aD ?_;refine aA ?_;simp;refine aC ?_;simp;refine aE ?_;simp;refine aD ?_;refine aA ?_;simp;refine aC ?_;simp;refine aE ?_;simp;refine aD ?_;refine aA ?_;simp;refine aC ?_;simp;refine⟨λh9=>?_,λh9=>?_⟩
 ·refine aA ?_;simp;refine aF ?_;simp[He,h9]
 ·refine aE ?_;simp;refine aD ?_;refine aA ?_;simp;refine aC ?_;simp;refine⟨λh11 h12=>?_,λh11=>?_⟩
  ·refine aA ?_;simp;refine aF ?_;simp[He,h9,h12]
  ·refine aE ?_;simp;refine aA ?_;simp;refine aF ?_;have e:=h11 h9;subst e;simp[He,h9]
theorem TH(a b:Df):Ok Tryz.prog 40 [a.d,b.d] ⟨.d (aG (He a.name b.name)),true⟩:=by
 refine aZ Tryz.func40 rfl Tryz.ntmps40 Tryz.results40 λw0 X hp=>?_;refine aA ?_;simp;refine aX hT hW (λ|9=>some<| .plain ⟨.d (aG (He a.name b.name)),true⟩|_=>none) ?_;simp;refine⟨Qn _ _,?_⟩;refine aF ?_;simp
theorem TI(A C D:List Df)(hl:(A++C++D).length<=1000000):iE Tryz.prog 117 [.ow 0 0 (A++C++D).length,.d (aG A.length),.d (aG (A.length+C.length)),.d (.fn 40 [])] [(0,.row false 2 ((A++C++D).map Df.d))] [(0,.row false 2 ((A++cY C++D).map Df.d))] (.tup []):=by
 obtain⟨N,hN⟩:∃N,(A++C++D).length=N:=⟨_,rfl⟩;obtain⟨a,ha⟩:∃a,A.length=a:=⟨_,rfl⟩;have hs1:A++C++D=A++(cY (C.take 1)++(C.drop 1++D)):=by cases C<;>simp[cY,BG,lI,mY]
 rw[hN]at hl|-;rw[ha];have hNl:a+C.length+D.length=N:=by rw[<-hN,<-ha];simp;omega
 refine rX Tryz.func117 rfl Tryz.ntmps117 Tryz.results117 λw0 X hp=>?_;refine aA ?_;simp;refine⟨by omega,?_⟩;refine aH ?_;refine aR (ι:=Nat×List Df) (λ⟨i,r⟩=>aO [(0,.ow 0 0 N),(1,.d (aG a)),(2,.d (aG (a+C.length))),(3,.d (.fn 40 [])),(8,.d (aG (a+i)))]) (λ⟨i,r⟩=>aI [(0,.row false 2 (r.map Df.d))]) (λ⟨i,r⟩=>1<=i/\i<=C.length+1/\r=A++(cY (C.take i)++(C.drop i++D))) (λ⟨i,r⟩=>C.length+1-i) (1,A++C++D) (aB hp [0,1,2,3,8] [(0,0)]) (⟨by omega,by omega,hs1⟩) λ⟨i,r⟩ hi1=>?_;refine aD ?_;refine aA ?_;simp;refine aC ?_;simp;refine⟨λh1=>?_,λh1=>?_⟩
 ·refine aE ?_;simp;refine aP (ι:=List Df) (λs=>aO [(0,.ow 0 0 N),(1,.d (aG a)),(2,.d (aG (a+C.length))),(3,.d (.fn 40 [])),(8,.d (aG (a+i)))]) (λs=>aI [(0,.row false 2 (s.map Df.d))]) (λs=>Is s (A++(cY (C.take (i+1))++(C.drop (i+1)++D)))) ?_ λs hc2=>?_
  ·refine aH ?_;refine aD ?_;have hi:i<C.length:=by omega
   obtain⟨hi1,hi2,hr⟩:=hi1;obtain⟨x,hx⟩:∃x,C[i]=x:=⟨_,rfl⟩;obtain⟨o,ho⟩:∃o,cY (C.take i)=o:=⟨_,rfl⟩;have hol:o.length=i:=by rw[<-ho,nY,List.length_take];omega
   obtain⟨t,ht⟩:∃t,C.drop (i+1)++D=t:=⟨_,rfl⟩;have hcd:C.drop i=x::C.drop (i+1):=by rw[<-hx];exact List.drop_eq_getElem_cons hi
   have hr0:r=pF A o t x i:=by
    have e1:o.take i=o:=List.take_of_length_le (by rw[hol];exact Nat.le_refl _);have e2:o.drop i=[]:=List.drop_of_length_le (by rw[hol];exact Nat.le_refl _);rw[hr,ho,hcd,<-ht];unfold pF lI;rw[e1,e2];simp
   have hlen:∀j,(pF A o t x j).length=N:=λj=>by rw[TF,<-hNl,<-ht,hol,ha,List.length_append,List.length_drop];omega
   have hfin:∀j,j<=i->mY (λy=>Op.bytesLess x.name y.name) o i=j->pF A o t x j=A++(cY (C.take (i+1))++(C.drop (i+1)++D)):=λj _ hj=>by
    rw[Mj hi,ho,hx];unfold BG pF;rw[hol,hj,<-ht]
   refine aJ ?_;simp;refine aH ?_;refine aR (ι:=Nat×List Df) (λ⟨j,s⟩=>aO [(0,.ow 0 0 N),(1,.d (aG a)),(2,.d (aG (a+C.length))),(3,.d (.fn 40 [])),(8,.d (aG (a+i))),(9,.d (aG (a+j)))]) (λ⟨j,s⟩=>aI [(0,.row false 2 (s.map Df.d))]) (λ⟨j,s⟩=>j<=i/\s=pF A o t x j/\mY (λy=>Op.bytesLess x.name y.name) o i=mY (λy=>Op.bytesLess x.name y.name) o j) (λ⟨j,s⟩=>j) (i,r) (aB hp [0,1,2,3,8,9] [(0,0)]) (⟨Nat.le_refl _,hr0,rfl⟩) λ⟨j,s⟩ hi4=>?_;refine aD ?_;refine aD ?_;rcases j with _|j
   ·refine eF.rd [] [[],[],[],[],[],[],[],[],[],[],[],[],[],[],[32]] (λ_=>none) ?_;simp[Nat.zero_le];refine aC ?_;simp[Nat.zero_le];refine bA ?_;simp;refine UV.mk s (aB hp [0,1,2,3,8] [(0,0)]) ?_;exact hi4.2.1.trans (hfin 0 (Nat.zero_le _) (by rw[hi4.2.2];rfl))
   ·have g1:a+(j+1)<s.length:=by rw[hi4.2.1,hlen];have:=hi4.1;omega
    have hjo:j<o.length:=by have:=hi4.1;omega
    have gx:s[a+(j+1)]=x:=TG ha hi4.2.1 (by omega) g1;have gp:s[a+j]=o[j]:=Mk ha hi4.2.1 hjo (by omega);refine eF.rd [] [[],[],[],[],[],[],[],[],[],[],[],[],[],[],[32]] (λ|32=>some<| .plain ⟨.d (aG (He s[a+(j+1)].name s[a+j].name)),true⟩|_=>none) ?_;simp[g1,(show a+j<s.length by omega),(show(a:Int)<(a:Int)+((j:Int)+1)by omega),(show((a:Int)+((j:Int)+1)).toNat=a+(j+1)by omega),(show a+(j+1)- 1=a+j by omega)];have hsN:s.length=N:=by rw[hi4.2.1,hlen]
    refine⟨⟨⟨⟨⟨by omega,by omega⟩,by omega⟩,by omega⟩,by simpa using TH s[a+(j+1)] s[a+j]⟩,?_⟩;refine aC ?_;simp;refine⟨λh4=>?_,λh4=>?_⟩
    ·refine aE ?_;simp;refine aD ?_;refine aH ?_;refine eF.rd [[],[],[0],[0],[0]] [[],[],[],[],[],[],[],[],[],[],[],[],[],[],[],[0],[],[0]] (λ_=>none) ?_;simp[g1,(show a+j<s.length by omega),(show((a:Int)+((j:Int)+1)).toNat=a+(j+1)by omega),(show a+(j+1)- 1=a+j by omega)];refine⟨by omega,?_⟩;refine aJ ?_;simp;refine⟨by omega,?_⟩;refine Nf.mk (j,(s.set (a+(j+1)) s[a+j]).set (a+j) s[a+(j+1)]) (aB hp [0,1,2,3,8,9] [(0,0)] (by simp[show(a:Int)+((j:Int)+1)- 1=a+j by omega]) (by simp[List.map_set,Df.d])) ?_ ?_
     ·have hp4:Op.bytesLess x.name o[j].name=true:=NW.1 (by rw[gx,gp]at h4;exact h4);refine⟨by dsimp only;omega,?_,?_⟩
      ·show(s.set (a+(j+1)) s[a+j]).set (a+j) s[a+(j+1)]=pF A o t x j;rw[gx,gp,hi4.2.1,<-ha];exact Qm hjo
      ·show _=mY _ o j;rw[hi4.2.2];exact Gw hjo hp4
     ·omega
    ·refine bA ?_;simp;refine UV.mk s (aB hp [0,1,2,3,8] [(0,0)]) ?_;have hp4:¬Op.bytesLess x.name o[j].name=true:=λe=>by rw[gx,gp]at h4;have:=NW.2 e;omega
     exact hi4.2.1.trans (hfin (j+1) hi4.1 (by rw[hi4.2.2];exact zV λi' hi' hlt=>(by have e:i'=j:=(by omega);subst e;simpa using hp4)))
  ·refine aJ ?_;simp;refine⟨by omega,?_⟩;refine Nf.mk (i+1,s) (aB hp [0,1,2,3,8] [(0,0)] (by simp[show(a:Int)+(i:Int)+1=a+((i:Int)+1)by omega])) ?_ ?_
   ·exact⟨by dsimp only;omega,by dsimp only;omega,hc2⟩
   ·omega
 ·refine bA ?_;simp;obtain⟨_,hi2,hr⟩:=hi1;have hr':r=A++(cY C++D):=by rw[hr,List.take_of_length_le (by omega),List.drop_of_length_le (by omega),List.nil_append]
  exact aB hp [] [(0,0)] (hH:=by simp[hr'])
end
section
attribute[local simp] jO.cond Nd.d_eq nd_t nd_dr nd_td ndsD aQ bD
theorem Qo(l:List Df)(hl:l.length<20):iE Tryz.prog 70 [.ow 0 0 l.length,.d (aG l.length),.d (.fn 40 [])] [(0,.row false 2 (l.map Df.d))] [(0,.row false 2 ((cY l).map Df.d))] (.tup []):=by
 refine rX Tryz.func70 rfl Tryz.ntmps70 Tryz.results70 λw0 X hp=>?_;refine aA ?_;simp;refine aA ?_;simp;refine aD ?_;refine aH ?_;refine aR (ι:=Nat) (λi=>aO [(0,.ow 0 0 l.length),(1,.d (aG (l.length:Nat))),(2,.d (.fn 40 [])),(6,.d (aG 20)),(7,.d (aG 0)),(8,.d (aG 20))]) (λi=>aI [(0,.row false 2 (l.map Df.d))]) (λi=>True) (λi=>0) 0 (aB hp [0,1,2,6,7,8] [(0,0)]) (trivial) λi hi2=>?_;refine aD ?_;refine aA ?_;simp;refine aC ?_;simp[(show¬(20<=(l.length:Int))by omega)];refine bA ?_;simp;refine aD ?_;have ki:=TI [] l [] (by simp;omega);refine eF.ro hT hW (λ|27=>some (.gen ⟨[(0,0)],[],[],[(0,.row false 2 ((cY l).map Df.d))],.tup []⟩)|_=>none) ?_;simp;refine⟨by simpa using ki,?_⟩;refine aH ?_;refine aR (ι:=Nat) (λi=>aO [(0,.ow 0 0 l.length),(1,.d (aG (l.length:Nat))),(2,.d (.fn 40 [])),(6,.d (aG 20)),(7,.d (aG 0)),(8,.d (aG 20))]) (λi=>aI [(0,.row false 2 ((cY l).map Df.d))]) (λi=>True) (λi=>0) 0 (aB hp [0,1,2,6,7,8] [(0,0)]) (trivial) λi hi7=>?_;refine aD ?_;refine aA ?_;simp;refine aC ?_;simp[(show¬(20<(l.length:Int))by omega)];refine bA ?_;simp;exact aB hp [] [(0,0)]
theorem Eo(l:List Df)(hl:l.length<20):iE Tryz.prog 39 [.ow 0 0 l.length,.d (.fn 40 [])] [(0,.row false 2 (l.map Df.d))] [(0,.row false 2 ((cY l).map Df.d))] (.tup []):=by
 refine rX Tryz.func39 rfl Tryz.ntmps39 Tryz.results39 λw0 X hp=>?_;have ks:=Qo l hl;refine eF.ro hT hW (λ|8=>some (.gen ⟨[(0,0)],[],[],[(0,.row false 2 ((cY l).map Df.d))],.tup []⟩)|_=>none) ?_;simp;refine⟨by simpa using ks,?_⟩;exact aB hp [] [(0,0)]
theorem Ml(l:List Df)(hl:l.length<=1000000000000):Ok Tryz.prog 38 [eM l] ⟨.own 2 (l.map Df.d),true⟩:=by
 refine aZ Tryz.func38 rfl Tryz.ntmps38 Tryz.results38 λw0 X hp=>?_;refine aA ?_;simp;refine aD ?_;refine aD ?_;refine CD hT hW 4 (decide (l=[])) (λ_=>none) (λ_=>⟨rfl,λ_ h=>h⟩) (by kernel_rfl) λb1 hb1=>?_;simp;refine aC ?_;simp;refine⟨λh1=>?_,λh1=>?_⟩
 ·refine aA ?_;simp;refine aF ?_;have:=hb1 h1;simp at this;simp[this]
 ·refine aE ?_;simp;refine aA ?_;simp;refine⟨by omega,?_⟩;refine aF ?_;simp
theorem Hf(l:List Df)(hl:l.length<20):Ok Tryz.prog 15 [eM l] ⟨.own 2 ((cY l).map Df.d),true⟩:=by
 refine aZ Tryz.func15 rfl Tryz.ntmps15 Tryz.results15 λw0 X hp=>?_;refine aA ?_;simp;refine aD ?_;have kc:=Ml l (by omega);refine eF.ro hT hW (λ|5=>some<| .plain ⟨.own 2 (l.map Df.d),true⟩|_=>none) ?_;simp;refine⟨by simpa using kc,?_⟩;refine aD ?_;have ks:=Eo l hl;refine eF.ro hT hW (λ|7=>some (.gen ⟨[(5,0)],[],[],[(0,.row false 2 ((cY l).map Df.d))],.tup []⟩)|_=>none) ?_;simp;refine⟨by simpa using ks,?_⟩;refine aA ?_;simp;refine aF ?_;have htk:List.take l.length (List.map Df.d (cY l))=List.map Df.d (cY l):=List.take_of_length_le (by rw[List.length_map,nY];exact Nat.le_refl _);simp[nY,htk]
theorem Jx(l:List Df):Ok Tryz.prog 8 [eM l] ⟨.tup [.d (aG (lE l).2.1),.d (aG (lE l).2.2)],true⟩:=by
 refine Ok.two Tryz.func8 (by kernel_rfl) (c:=_) rfl Tryz.ntmps8 (by simp) Tryz.results8 rfl λw0 X hp=>?_;refine aA ?_;simp;refine aD ?_;have kc:=DE l;refine eF.ro hT hW (λ|9=>some<| .plain ⟨.tup [.d (xC (lE l).1),.d (aG (lE l).2.1),.d (aG (lE l).2.2)],false⟩|_=>none) ?_;simp[aW];refine⟨⟨by simpa using kc,by simp[xC]⟩,?_⟩;simp[xC];refine aA ?_;simp;refine aF ?_;simp
def gM(ts:List Nd):List aM:=(ts.filter λt=>decide (t.kind=6)).map Nd.text
theorem Jy{ts:List Nd}{i:Nat}(h:i<ts.length):gM (ts.take (i+1))=if ts[i].kind=6 then gM (ts.take i)++[ts[i].text]else gM (ts.take i):=by
 unfold gM;rw[List.take_succ_eq_append_getElem h,List.filter_append,List.map_append];by_cases e:ts[i].kind=6<;>simp[e]
theorem DF(ts:List Nd):(gM ts).length<=ts.length:=by unfold gM;rw[List.length_map];exact List.length_filter_le _ _
def Hg(l:List Df):List aM:=if(lE l).2.2≠0 then []else dJ (gM (lE l).1)
theorem Hh(l:List Df):(lE l).1=(dB l).1:=by
 unfold lE;split
 ·rfl
 ·split
  ·rfl
  ·split<;>rfl
theorem TJ(l:List Df):Ok Tryz.prog 12 [eM l] ⟨.own 1 ((Hg l).map .str),true⟩:=by
 refine aZ Tryz.func12 rfl Tryz.ntmps12 Tryz.results12 λw0 X hp=>?_;obtain⟨ts,hts⟩:∃ts,(lE l).1=ts:=⟨_,rfl⟩;have hl24:ts.length<=24:=by rw[<-hts,Hh];exact(sL l).2.1
 have hTe:Hg l=if(lE l).2.2≠0 then []else dJ (gM ts):=by rw[<-hts];rfl
 refine aA ?_;simp;refine aD ?_;have kc:=DE l;rw[hts]at kc;refine eF.ro hT hW (λ|11=>some<| .plain ⟨.tup [.d (xC ts),.d (aG (lE l).2.1),.d (aG (lE l).2.2)],false⟩|_=>none) ?_;simp[aW];refine⟨⟨by simpa using kc,by simp[xC]⟩,?_⟩;simp[xC];refine aD ?_;refine aA ?_;simp;refine aC ?_;simp;refine⟨λh2=>?_,λh2=>?_⟩
 ·rw[if_pos h2]at hTe;refine aA ?_;simp;refine aF ?_;simp[hTe]
 ·rw[if_neg (by simpa using h2)]at hTe;refine aE ?_;simp;refine aA ?_;simp;refine aD ?_;refine aA ?_;simp;refine aH ?_;refine aR (ι:=Nat) (λi=>aO [(6,.ow 6 0 (gM (ts.take i)).length),(18,.d (ndsD ts)),(19,.d (aG (ts.length:Nat))),(20,.d (aG (i:Nat)))]) (λi=>aI [(6,.row false 1 ((gM (ts.take i)).map .str))]) (λi=>i<=ts.length) (λi=>ts.length-i) 0 (aB hp [6,18,19,20] [(6,6)] (by simp[gM]) (by simp[gM])) (Nat.zero_le _) λi hi6=>?_;refine aA ?_;simp;refine aD ?_;refine aC ?_;simp;refine⟨λh6=>?_,λh6=>?_⟩
  ·refine aE ?_;simp;refine aD ?_;refine aH ?_;refine aD ?_;have hi:i<ts.length:=by omega
   obtain⟨t,ht⟩:∃t,ts[i]=t:=⟨_,rfl⟩;have hn:=Jy hi;have hfl:=DF (ts.take i);rw[List.length_take]at hfl;rw[ht]at hn;refine aJ ?_;simp[hi,ht];refine aA ?_;simp;refine aC ?_;simp;refine⟨λh8=>?_,λh8=>?_⟩
   ·simp only[if_pos h8]at hn;refine aJ ?_;simp;refine⟨by omega,?_⟩;refine aJ ?_;simp;refine⟨by omega,?_⟩;refine Nf.mk (i+1) (aB hp [6,18,19,20] [(31,6)] (by simp[hn]) (by simp[hn])) ?_ ?_
    ·omega
    ·omega
   ·simp only[if_neg h8]at hn;refine aE ?_;simp;refine aJ ?_;simp;refine⟨by omega,?_⟩;refine Nf.mk (i+1) (aB hp [6,18,19,20] [(6,6)] (by simp[hn]) (by simp[hn])) ?_ ?_
    ·omega
    ·omega
  ·refine bA ?_;simp;refine aD ?_;have e:i=ts.length:=by omega
   subst e;rw[List.take_length];have hfl:=DF ts;have ks:=xD (gM ts) (by omega);refine eF.ro hT hW (λ|34=>some (.gen ⟨[(6,0)],[],[],[(0,.row false 1 ((dJ (gM ts)).map .str))],.tup []⟩)|_=>none) ?_;simp;refine⟨by simpa using ks,?_⟩;refine aA ?_;simp;refine aF ?_;have htk:List.take (gM ts).length (List.map DV.str (dJ (gM ts)))=List.map DV.str (dJ (gM ts)):=List.take_of_length_le (by rw[List.length_map,iX];exact Nat.le_refl _);simp[hTe,iX,htk]
def pU(d:Df):aM:=if(parseS d.text).2.2≠0 then d.text else printS (parseS d.text).1
theorem DG(d:Df):Ok Tryz.prog 67 [d.d] ⟨.d (.str (pU d)),true⟩:=by
 refine aZ Tryz.func67 rfl Tryz.ntmps67 Tryz.results67 λw0 X hp=>?_;obtain⟨P,hP⟩:∃P,parseS d.text=P:=⟨_,rfl⟩;have kp:=DC d.text;have hwt:=gQ d.text;have hM:pU d=if P.2.2≠0 then d.text else printS P.1:=by unfold pU;rw[hP]
 rw[hP]at kp hwt;obtain⟨x,hx⟩:∃x,P.1=x:=⟨_,rfl⟩;rw[hx]at kp hwt hM;refine aA ?_;simp;refine aX hT hW (λ|9=>some<| .plain ⟨.tup [.d x.d,.d (aG P.2.1),.d (aG P.2.2)],false⟩|_=>none) ?_;simp[aW];refine⟨by simpa using kp,?_⟩;refine aD ?_;refine aA ?_;simp;refine aC ?_;simp;refine⟨λh2=>?_,λh2=>?_⟩
 ·rw[if_pos h2]at hM;refine aA ?_;simp;refine aF ?_;simp[hM]
 ·rw[if_neg (by simpa using h2)]at hM;refine aE ?_;simp;refine aD ?_;have kr:=SK x hwt;refine eF.ro hT hW (λ|18=>some<| .plain ⟨.d (.str (printS x)),true⟩|_=>none) ?_;simp;refine⟨by simpa using kr,?_⟩;refine aF ?_;simp[hM]
end
open Go.Proofs Go.Sort Go.Shelf Go.RowKit
theorem Xt{w:World}{E:Nat->Prop}{s:aM}{v:Value}(h:RD w E (.str s) v):v=rY s:=by cases h;rfl
def uO(e:MapEntry):aM:=match e.key with
 | .string b=>b.data.toList
 |_=>[]
theorem Hi(s:List aM)(ds:List DV)(hN:s.length*16<=140737488355328):
 UB Tryz.prog 134 [.nl,.d (.fn 82 [.ro [.mp (s.map .str) ds]])] []
  (λfin ret=>∃p:List aM,p.Perm s/\fin=[(0,.dead),(1,.row false 1 (p.map .str))]/\ret=.ow 1 0 p.length):=by
 refine⟨⟨_,Tryz.func134,by kernel_rfl,by rfl⟩,λw X β vs m0 hvl hr=>?_⟩
 match vs,hvl with
 |[v0,v1],_=>
 have r0:=hr 0 _ _ rfl rfl;have r1:=hr 1 _ _ rfl rfl;obtain⟨a0,rfl⟩:∃a,v0=.slice a 0 0:=by cases r0 with|nl a=>exact⟨a,rfl⟩
 obtain⟨Bm,ob,b,clock,arr,rfl,hcell,hblk,hk,hborn,hkey⟩:∃Bm ob b clock arr,v1=.func (.func 82) #[] #[.pointer (some ⟨Bm,ob,none⟩)]/\w.cell? ⟨Bm,ob,none⟩=some (.map (some b))/\w.heap[b]? =some (.map arr clock)/\
  (s.map DV.str).length=arr.size/\fJ arr clock/\∀(i:Nat) (d:DV) (e:MapEntry),(s.map DV.str)[i]? =some d->arr[i]? =some e->RD w (Ex X β (aI [])) d e.key:=by
  cases r1 with
  |d _ _ h=>cases h with
   |fn _ _ us hl hc=>
    match us,hl with
    |[u],_=>
    have h0:=hc 0 _ u rfl rfl;cases h0 with
    |ro _ Bm ob us2 hBm hul _ _ hcell h=>
     match us2,hul with
     |[u2],_=>
     have h2:=h 0 _ u2 rfl rfl;have hc2:=hcell 0 u2 rfl;cases h2 with
     |mp _ _ b clock arr hb _ hblk hk _ hborn hkey _=>exact⟨Bm,ob,b,clock,arr,rfl,by simpa using hc2,hblk,hk,hborn,hkey⟩
 rw[List.length_map]at hk;have hkeys:∀(i:Nat) (h1:i<s.length) (h2:i<arr.size),arr[i].key=rY s[i]:=λi h1 h2=>Xt (hkey i _ _ (by simp[h1]) (Array.getElem?_eq_getElem h2));have hk2:∀e∈arr.toList,e.key=rY (uO e):=λe he=>by
  obtain⟨i,hi,rfl⟩:=List.getElem_of_mem he;have hi':i<arr.size:=by simpa using hi
  have:=hkeys i (by omega) hi';simp only[Array.getElem_toList];simp[uO,this,rY]
 have hmap:arr.toList.map uO=s:=by
  apply List.ext_getElem (by simpa using hk.symm);intro i h1 h2;have:=hkeys i h2 (by omega);simp[uO,this,rY]
 obtain⟨m,_⟩:=tG m0 (d:=0) (by simp[aI,eT]) (s:=1) (by decide);refine(GJ w (.slice a0 0 0) [] none ⟨rfl,by simp,.inl ⟨rfl,rfl,a0,rfl⟩⟩ (λg hg=>by cases hg) hcell (by simp) hblk (by simp) hborn uO hk2 (by rw[<-hk];simpa using hN)).mono ?_;rintro e w' ⟨v,ss,gb,rfl,hp,hr',hst,hhd⟩;rw[hmap]at hp;obtain⟨β',hm,hR⟩:=m.appended oQ (id:=0) (new:=1) (l:=[]) (by rw[aL];rfl) (by rw[cA _ _ (by decide)];simp[aI,eT]) (.inl ⟨rfl,rfl⟩) hr' hst hhd;have hfin:aI [(0,.dead),(1,.row false 1 (ss.map .str))]=bY (bY (bY (aI []) 0 (.row false 1 [])) 0 .dead) 1 (.row false 1 (ss.map .str)):=by
  funext j;simp only[aI,eT,bY];by_cases h0:j=0<;>by_cases h1:j=1<;>simp_all
 exact⟨v,β',_,_,⟨ss,hp,rfl,rfl⟩,rfl,by rw[hfin];simpa using hm,by rw[hfin];simpa using hR⟩
theorem Mm(s:List aM)(ds:List DV)(hN:s.length*16<=140737488355328):WC Tryz.prog 81 [.fn 82 [.ro [.mp (s.map .str) ds]]] (λr=>(λv=>∃p:List aM,p.Perm s/\v=.own 1 (p.map .str)) r.v/\r.fresh=true):=by
 refine WC.ret (Rel:=λv=>∃p:List aM,p.Perm s/\v=.own 1 (p.map .str)) Tryz.func81 (by kernel_rfl) (c:=_) rfl Tryz.ntmps81 (by simp) Tryz.results81 λw0 X hp=>?_;refine aA ?_;simp;refine aD ?_;refine Im hT hW 4 [] [(1,4)] [1] (λfin ret=>∃p:List aM,p.Perm s/\fin=[(0,.dead),(1,.row false 1 (p.map .str))]/\ret=.ow 1 0 p.length) _ _ ⟨s,List.Perm.refl _,rfl,rfl⟩ (λ|99=>none|_=>none) (by intro d;first|exact⟨rfl,λ_ h=>h⟩|(split<;>exact⟨rfl,λ_ h=>h⟩)) (by kernel_rfl) λr1 hr1=>?_;obtain⟨fin1,ret1⟩:=r1;obtain⟨p,hp1,rfl,rfl⟩:=hr1;simp;refine⟨Hi s ds hN,?_⟩;refine aF ?_;simp only[Sg];refine⟨_,⟨p,hp1,rfl⟩,by simp,?_⟩;simp
theorem Qp(s:List aM)(ds:List DV)(hN:s.length<=8000000000000):Ok Tryz.prog 46 [.fn 82 [.ro [.mp (s.map .str) ds]]] ⟨.own 1 ((dJ s).map .str),true⟩:=by
 refine aZ Tryz.func46 rfl Tryz.ntmps46 Tryz.results46 λw0 X hp=>?_;refine aA ?_;simp;refine aD ?_;refine Li hT hW 5 (λr=>(∃p:List aM,p.Perm s/\r.v=.own 1 (p.map .str))/\r.fresh=true) true ⟨.own 1 (s.map .str),true⟩ ⟨⟨⟨s,List.Perm.refl _,rfl⟩,rfl⟩,rfl⟩ (λ|99=>none|_=>none) (by intro d;first|exact⟨rfl,λ_ h=>h⟩|(split<;>exact⟨rfl,λ_ h=>h⟩)) (by kernel_rfl) λr1 hr1=>?_;obtain⟨v1,f1⟩:=r1;obtain⟨⟨p,hp1,hv⟩,hf⟩:=hr1;dsimp only at hv hf;subst hv;subst hf;have hpl:=hp1.length_eq;simp;refine⟨Mm s ds (by omega),?_⟩;refine aX hT hW (λ|7=>some (.gen ⟨[(5,0)],[],[],[(0,.row false 1 ((dJ p).map .str))],.tup []⟩)|_=>none) ?_;simp;refine⟨by simpa using xD p (by omega),?_⟩;refine aA ?_;simp;refine aF ?_;rw[<-LD hp1];simp[iX];rw[List.take_of_length_le (by simp[iX])]
theorem Mn(ks vs:List DV):Ok Tryz.prog 47 [.mp ks vs] ⟨.d (.fn 82 [.ro [.mp ks vs]]),false⟩:=by
 refine aZ Tryz.func47 rfl Tryz.ntmps47 Tryz.results47 λw0 X hp=>?_;refine aA ?_;simp;refine aA ?_;simp;refine aF ?_;simp
section
attribute[local simp] jO.cond Nd.d_eq nd_t nd_dr nd_td ndsD aQ bD tX yK bX.d
def Au(M:List aM)(s:aM):List aM:=if s∈M then M else M++[s]
def dZ(us:List bX):List aM:=us.foldl (λM u=>Au M u.name) []
theorem Jz{us:List bX}{i:Nat}{u:bX}(h:us[i]? =some u):dZ (us.take (i+1))=Au (dZ (us.take i)) u.name:=by
 obtain⟨hi,he⟩:=List.getElem?_eq_some_iff.1 h;unfold dZ;rw[List.take_succ_eq_append_getElem hi,List.foldl_append,he];rfl
theorem Mo(us:List bX):(dZ us).length<=us.length:=by
 have:∀(us:List bX) (M:List aM),(us.foldl (λM u=>Au M u.name) M).length<=M.length+us.length:=λus=>by
  induction us with
  |nil=>intro M;exact Nat.le_refl _
  |cons u r ih=>
   intro M;rw[List.foldl_cons];refine Nat.le_trans (ih _) ?_;unfold Au;split<;>simp<;>omega
 simpa [dZ]using this us []
mutual
theorem nZ:∀x:Nd,(bB x).length<=weighN x
 | .mk k t n ks=>by
   have h:=Av ks;have h2:(eS k t).length<=1:=by unfold eS;split<;>simp
   rw[bB,weighN,List.length_append];omega
theorem Av:∀l:List Nd,(dU l).length<=weighL l
 |[]=>Nat.le_refl _
 |x::r=>by
  have h1:=nZ x;have h2:=Av r;rw[dU,weighL,List.length_append];omega
end
theorem JA(s:aM):∀(M:List aM) (i:Nat),gN (.str s) (M.map .str) i=some ((M.findIdx? (λx=>decide (s=x))).map (·+i))
 |[],i=>rfl
 |x::r,i=>by
  have e:jH (.str s) (.str x)=some (decide (s=x)):=by
   simp only[jH,Hz,Option.some.injEq];by_cases h:s=x<;>simp[h]
  rw[List.map_cons,gN,e,List.findIdx?_cons];by_cases h:s=x
  ·simp[h]
  ·simp only[h,decide_false,Bool.false_eq_true,if_false];rw[JA s r (i+1)];cases r.findIdx? (λx=>decide (s=x))with
   |none=>rfl
   |some j=>simp;omega
def QS(M:List aM):List DV:=M.map λ_=>.bool true
theorem TL(M:List aM){H:dC}{id:Nat}{s:aM}(h:H id=.map false (M.map .str) (QS M)):
 bZ T H 73 (.mp id) (.d (.str s)) (.d (.bool true))=⟨.junk,True,[(id,.map false ((Au M s).map .str) (QS (Au M s)))]⟩:=by
 unfold bZ Au;simp only[Zd,h,JA];by_cases hm:s∈M
 ·obtain⟨j,hj,hl⟩:∃j,(M.findIdx? λx=>decide (s=x))=some j/\j<M.length:=by
   cases q:(M.findIdx? λx=>decide (s=x))with
   |none=>rw[List.findIdx?_eq_none_iff]at q;have:=q s hm;simp at this
   |some j=>exact⟨j,rfl,(List.findIdx?_eq_some_iff_getElem.1 q).1⟩
  have hs:(QS M).set j (.bool true)=QS M:=by
   unfold QS;apply List.ext_getElem (by simp);intro i h1 h2;rw[List.getElem_set];split<;>simp
  simp[hj,hm,hs,qF,fP]
 ·have hn:(M.findIdx? λx=>decide (s=x))=none:=by
   rw[List.findIdx?_eq_none_iff];intro x hx;simp;intro e;subst e;exact hm hx
  simp[hn,hm,qF,fP,QS]
def fX(l:List Df)(name:aM):Int:=nA (λd=>decide (d.name=name)) l
def pG:Option Nat->Int
 |some i=>(i:Int)
 |none=> -1
theorem mU{α:Type}(p:α->Bool)(l:List α):nA p l=pG (l.findIdx? p):=by unfold nA pG;cases l.findIdx? p<;>rfl
def DH(l:List Df):Option Nat->List aM×Int
 |none=>([],6)
 |some i=>if(parseS (l.getD i default).text).2.2≠0 then([],(parseS (l.getD i default).text).2.2)else(dJ (dZ (bB (parseS (l.getD i default).text).1)),0)
def FH(l:List Df)(name:aM):List aM×Int:=DH l (l.findIdx? λd=>decide (d.name=name))
theorem Mp(l:List Df)(p:Df->Bool)(g:FuncId)(cs:List DV)(hg:∀x∈l,Ok Tryz.prog g (x.d::cs) ⟨.d (.bool (p x)),true⟩):Ok Tryz.prog 42 [eM l,.fn g cs] ⟨.d (aG (nA p l)),true⟩:=by
 refine aZ Tryz.func42 rfl Tryz.ntmps42 Tryz.results42 λw0 X hp=>?_;refine eF.len (t:=0) rfl λhlen=>?_;simp at hlen;refine aA ?_;simp;refine aD ?_;refine aA ?_;simp;refine aH ?_;refine aR (ι:=Nat) (λi=>aO [(0,.d (eM l)),(1,.d (.fn g cs)),(7,.d (aG l.length)),(8,.d (aG i))]) (λi=>aI []) (λi=>i<=l.length/\Nq p l i) (λi=>l.length-i) 0 (aB hp [0,1,7,8] []) (⟨Nat.zero_le _,Nq.zero⟩) λi hi2=>?_;refine aA ?_;simp;refine aD ?_;refine aC ?_;simp;refine⟨λh2=>?_,λh2=>?_⟩
 ·refine aE ?_;simp;refine aD ?_;refine aH ?_;refine aA ?_;simp;refine aX hT hW (λ|16=>some<| .plain ⟨.d (.bool (p l[i])),true⟩|_=>none) ?_;simp[h2];refine⟨hg l[i] (List.getElem_mem h2),?_⟩;refine aC ?_;simp;refine⟨λh4=>?_,λh4=>?_⟩
  ·refine aA ?_;simp;refine aF ?_;simp[qR (hi2.2.found h2 h4)]
  ·refine aE ?_;simp;refine aJ ?_;simp;refine⟨by omega,?_⟩;refine Nf.mk (i+1) (aB hp [0,1,7,8] []) ?_ ?_
   ·exact⟨h2,hi2.2.succ h2 h4⟩
   ·omega
 ·refine bA ?_;simp;refine aA ?_;simp;refine aF ?_;simp[qS (hi2.2.none (by omega))]
theorem Qq(d:Df)(name:aM):Ok Tryz.prog 43 [d.d,.ro [.str name]] ⟨.d (.bool (decide (d.name=name))),true⟩:=by
 refine aZ Tryz.func43 rfl Tryz.ntmps43 Tryz.results43 λw0 X hp=>?_;refine aA ?_;simp;refine aA ?_;simp;refine aF ?_;simp;by_cases h:d.name=name<;>simp[h]
theorem NX(l:List Df)(name:aM):Ok Tryz.prog 18 [eM l,.str name] ⟨.tup [.own 1 ((FH l name).1.map .str),.d (aG (FH l name).2)],true⟩:=by
 refine Ok.two Tryz.func18 (by kernel_rfl) (c:=_) rfl Tryz.ntmps18 (by simp) Tryz.results18 rfl λw0 X hp=>?_;obtain⟨oi,hoi⟩:∃oi,l.findIdx? (λd=>decide (d.name=name))=oi:=⟨_,rfl⟩;have hU:FH l name=DH l oi:=by unfold FH;rw[hoi]
 have hI:nA (λd=>decide (d.name=name)) l=pG oi:=by rw[mU,hoi]
 refine aA ?_;simp;refine eL (gO.freeze [3]) ?_;simp;refine aD ?_;have ki:=Mp l (λd=>decide (d.name=name)) 43 [.ro [.str name]] λx _=>Qq x name;refine eF.ro hT hW (λ|15=>some<| .plain ⟨.d (aG (nA (λd=>decide (d.name=name)) l)),true⟩|_=>none) ?_;simp;refine⟨by simpa using ki,?_⟩;refine aD ?_;refine aA ?_;simp;refine aC ?_;simp;refine⟨λh2=>?_,λh2=>?_⟩
 ·have hn:oi=none:=by cases oi with|none=>rfl|some i=>rw[hI]at h2;simp[pG]at h2;omega
  subst hn;simp only[DH]at hU;refine aA ?_;simp;refine aF ?_;simp[hU]
 ·obtain⟨i,rfl⟩:∃i,oi=some i:=by cases oi with|some i=>exact⟨i,rfl⟩|none=>rw[hI]at h2;simp[pG]at h2
  simp only[DH]at hU;simp only[pG]at hI;have hil:i<l.length:=(List.findIdx?_eq_some_iff_getElem.1 hoi).1;obtain⟨d,hd⟩:∃d,l[i]=d:=⟨_,rfl⟩;have hget:l.getD i default=d:=by rw[List.getD_eq_getElem?_getD,List.getElem?_eq_getElem hil,hd];rfl
  rw[hget]at hU;obtain⟨P,hP⟩:∃P,parseS d.text=P:=⟨_,rfl⟩;have kp:=DC d.text;have hwt:=gQ d.text;rw[hP]at kp hwt hU;obtain⟨x,hx⟩:∃x,P.1=x:=⟨_,rfl⟩;rw[hx]at kp hwt hU;refine aE ?_;simp;refine aX hT hW (λ|24=>some<| .plain ⟨.tup [.d x.d,.d (aG P.2.1),.d (aG P.2.2)],false⟩|_=>none) ?_;simp[aW,hI,hil,hd];refine⟨by simpa using kp,?_⟩;refine aD ?_;refine aA ?_;simp;refine aC ?_;simp;refine⟨λh5=>?_,λh5=>?_⟩
  ·rw[if_pos h5]at hU;refine aA ?_;simp;refine aF ?_;simp[hU]
  ·rw[if_neg (by simpa using h5)]at hU;refine aE ?_;simp;refine aA ?_;simp;refine aD ?_;refine aD ?_;have ku:=GC x;simp at ku;refine eF.ro hT hW (λ|33=>some<| .plain ⟨.d (.fn 75 [.ro [aG x.kind,.str x.text,aG x.n,.sl (x.kids.map Nd.d)]]),false⟩|_=>none) ?_;simp;refine⟨by simpa using ku,?_⟩;refine aH ?_;refine eL (aB hp [10,33] [(10,10),(31,31)] (env':=aO [(10,.bx 10 0),(33,.d (.fn 75 [.ro [aG x.kind,.str x.text,aG x.n,.sl (x.kids.map Nd.d)]]))]) (H':=aI [(10,.box false [.mp 31]),(31,.map false [] [])]) (by simp) (by simp)) ?_;refine eF.rangeFunc (items:=(bB x).map yK) (by simpa using Af x hwt) (by simp) (by intro it hit;obtain⟨u,_,rfl⟩:=List.mem_map.1 hit;rfl) (by simp) (by kernel_rfl) (by kernel_rfl) (λi=>aI [(10,.box false [.mp 31]),(31,.map false ((dZ ((bB x).take i)).map .str) (QS (dZ ((bB x).take i))))]) (λi=>aI [(10,.box false [.mp 31]),(12,.box false [.d (aG (qC x i).kind),.d (.str (qC x i).name),.d (.str (qC x i).field)]),(31,.map false ((dZ ((bB x).take (i+1))).map .str) (QS (dZ ((bB x).take (i+1)))))]) (rfl) [10,31] (by decide) (by simp[hp]) (λi id h=>by simpa using mQ id h) (λi=>aO [(10,.bx 10 0),(12,.bx 12 0)]) (λi=>aI [(10,.box false [.mp 31]),(12,.box false [.d (aG (qC x i).kind),.d (.str (qC x i).name),.d (.str (qC x i).field)]),(31,.map false ((dZ ((bB x).take i)).map .str) (QS (dZ ((bB x).take i))))]) [10,12,31] (λi id h=>by simpa using mQ id h) (λi hi=>?_) (λw1 X1 i it hp hit=>?_) (λw1 X1 i it hp hit=>?_) ?_
   ·simp
   ·obtain⟨u,hu,rfl⟩:=dT hit;have hU:=vX hu;refine aJ ?_;simp;exact aB hp [10,12] [(10,10),(12,12),(31,31)] (by simp[hU]) (by simp[hU])
   ·obtain⟨u,hu,rfl⟩:=dT hit;have hU:=vX hu;have hs:=Jz hu;simp[hU];refine aH ?_;refine aJ ?_;simp[TL (dZ ((bB x).take i))];exact aB hp [] [(10,10),(12,12),(31,31)] (hH:=by simp[hU,hs])
   ·refine aD ?_;have hnl:=Mo (bB x);have hul:=nZ x;have ks:=Qp (dZ (bB x)) (QS (dZ (bB x))) (by omega);have kk:=Mn ((dZ (bB x)).map .str) (QS (dZ (bB x)));refine eF.ro hT hW (λ|40=>some<| .plain ⟨.d (.fn 82 [.ro [.mp ((dZ (bB x)).map .str) (QS (dZ (bB x)))]]),false⟩|41=>some<| .plain ⟨.own 1 ((dJ (dZ (bB x))).map .str),true⟩|_=>none) ?_;simp;refine⟨⟨by simpa using kk,by simpa using ks⟩,?_⟩;refine aF ?_;have htk:List.take (dZ (bB x)).length (List.map DV.str (dJ (dZ (bB x))))=List.map DV.str (dJ (dZ (bB x))):=List.take_of_length_le (by rw[List.length_map,iX];exact Nat.le_refl _);simp[hU,iX,htk]
theorem Qr(a b:Df):Ok Tryz.prog 66 [a.d,b.d] ⟨.d (.bool (decide (a.name=b.name/\pU a=pU b))),true⟩:=by
 refine aZ Tryz.func66 rfl Tryz.ntmps66 Tryz.results66 λw0 X hp=>?_;refine aA ?_;simp;refine aD ?_;have ka:=DG a;have kb:=DG b;refine eF.rd [[],[],[],[],[],[],[],[],[12]] [[],[],[],[],[],[],[],[12],[],[14]] (λ|12=>some<| .plain ⟨.d (.str (pU a)),true⟩|14=>some<| .plain ⟨.d (.str (pU b)),true⟩|_=>none) ?_;simp;refine⟨⟨λ_=>by simpa using ka,λ_=>by simpa using kb⟩,?_⟩;refine aF ?_;simp;by_cases h1:a.name=b.name<;>by_cases h2:pU a=pU b<;>simp[h1,h2]
def Mq(d:Df):aM×aM:=(d.name,pU d)
theorem NY{a b:Df}:Mq a=Mq b↔a.name=b.name/\pU a=pU b:=by simp[Mq]
def DI(a b:List Df):Bool:=decide (a.map Mq=b.map Mq)
theorem Qs{a b:List Df}(h:DI a b=true):a.length=b.length:=by
 have:=congrArg List.length (of_decide_eq_true h);simpa using this
theorem TM(l m:List Df):Ok Tryz.prog 65 [eM l,eM m,.fn 66 []] ⟨.d (.bool (DI l m)),true⟩:=by
 refine aZ Tryz.func65 rfl Tryz.ntmps65 Tryz.results65 λw0 X hp=>?_;refine eF.len (t:=0) rfl λhlen=>?_;simp at hlen;refine aA ?_;simp;refine aD ?_;refine aA ?_;simp;refine aC ?_;simp;refine⟨λh1=>?_,λh1=>?_⟩
 ·refine aA ?_;simp;refine aF ?_;simp;rw[Bool.eq_false_iff];intro q;exact h1 (by rw[Qs q])
 ·refine aE ?_;simp;refine aD ?_;refine aA ?_;simp;refine aH ?_;refine aR (ι:=Nat) (λi=>aO [(0,.d (eM l)),(1,.d (eM m)),(2,.d (.fn 66 [])),(15,.d (eM l)),(16,.d (aG l.length)),(17,.d (aG i))]) (λi=>aI []) (λi=>i<=l.length/\(l.map Mq).take i=(m.map Mq).take i) (λi=>l.length-i) 0 (aB hp [0,1,2,15,16,17] []) (⟨Nat.zero_le _,rfl⟩) λi hi4=>?_;refine aA ?_;simp;refine aD ?_;refine aC ?_;simp;refine⟨λh4=>?_,λh4=>?_⟩
  ·refine aE ?_;simp;refine aD ?_;refine aH ?_;refine aD ?_;have hi:i<l.length:=by omega
   refine aJ ?_;simp[hi];refine aD ?_;have hm:i<m.length:=by omega
   refine aJ ?_;simp[hm];refine aD ?_;have hs:=Qr l[i] m[i];refine eF.ro hT hW (λ|29=>some<| .plain ⟨.d (.bool (decide (l[i].name=m[i].name/\pU l[i]=pU m[i]))),true⟩|_=>none) ?_;simp;refine⟨by simpa using hs,?_⟩;refine aC ?_;simp;refine⟨λh7=>?_,λh7 h7'=>?_⟩
   ·refine aA ?_;simp;refine aF ?_;simp;rw[Bool.eq_false_iff];intro q;have q':=congrArg (·[i]?) (of_decide_eq_true q);simp only[List.getElem?_map,List.getElem?_eq_getElem hi,List.getElem?_eq_getElem hm,Option.map_some,Option.some.injEq]at q';have:=NY.1 q';rcases h7 with h|h
    ·exact h this.1
    ·exact h this.2
   ·refine aE ?_;simp;refine aJ ?_;simp;refine⟨by omega,?_⟩;refine Nf.mk (i+1) (aB hp [0,1,2,15,16,17] []) ?_ ?_
    ·refine⟨by omega,?_⟩;have hm:i<m.length:=by omega
     rw[List.take_succ_eq_append_getElem (by simpa using hi),List.take_succ_eq_append_getElem (by simpa using hm),hi4.2,List.getElem_map,List.getElem_map,NY.2 ⟨h7,h7'⟩]
    ·omega
  ·refine bA ?_;simp;refine aA ?_;simp;refine aF ?_;simp;have e:i=l.length:=by omega
   have e2:i=m.length:=(by omega);have h:=hi4.2;rw[List.take_of_length_le (by simp;omega),List.take_of_length_le (by simp;omega)]at h;exact decide_eq_true h
theorem Qt(a b:List Df)(ha:a.length<20)(hb:b.length<20):Ok Tryz.prog 34 [eM a,eM b] ⟨.d (.bool (DI (cY a) (cY b))),true⟩:=by
 refine aZ Tryz.func34 rfl Tryz.ntmps34 Tryz.results34 λw0 X hp=>?_;refine aA ?_;simp;refine aD ?_;have k1:=Hf a ha;have k2:=Hf b hb;have k3:=TM (cY a) (cY b);have l1:=nY a;have l2:=nY b;have t1:List.take a.length (List.map Df.d (cY a))=List.map Df.d (cY a):=List.take_of_length_le (by rw[List.length_map,l1];exact Nat.le_refl _);have t2:List.take b.length (List.map Df.d (cY b))=List.map Df.d (cY b):=List.take_of_length_le (by rw[List.length_map,l2];exact Nat.le_refl _);refine eF.ro hT hW (λ|6=>some<| .plain ⟨.own 2 ((cY a).map Df.d),true⟩|8=>some<| .plain ⟨.own 2 ((cY b).map Df.d),true⟩|9=>some<| .plain ⟨.d (.bool (DI (cY a) (cY b))),true⟩|_=>none) ?_;simp[l1,l2,t1,t2];refine⟨⟨⟨by simpa using k1,by simpa using k2⟩,by simpa using k3⟩,?_⟩;refine aF ?_;simp
end
section
attribute[local simp] jO.cond Nd.d_eq nd_t nd_dr nd_td ndsD aQ bD
def fitR(k:Int):Int:=if k=34 then 0 else if k=35 then 1 else if k=13\/k=14 then 5 else if k=17\/k=18 then 3 else if k=15\/k=16 then 2 else if k=22\/k=23 then 4 else -1
theorem fitR_eq(k:Int):fitR k=match ID k with|some f=>f|none=> -1:=by
 unfold fitR;by_cases h0:k=34
 ·subst h0;rfl
 by_cases h1:k=35
 ·subst h1;rfl
 by_cases h2:k=13
 ·subst h2;rfl
 by_cases h3:k=14
 ·subst h3;rfl
 by_cases h4:k=17
 ·subst h4;rfl
 by_cases h5:k=18
 ·subst h5;rfl
 by_cases h6:k=15
 ·subst h6;rfl
 by_cases h7:k=16
 ·subst h7;rfl
 by_cases h8:k=22
 ·subst h8;rfl
 by_cases h9:k=23
 ·subst h9;rfl
 have e:ID k=none:=by unfold ID CP;simp[List.findIdx?_cons,h0,h1,h2,h3,h4,h5,h6,h7,h8,h9]
 rw[e];simp[h0,h1,h2,h3,h4,h5,h6,h7,h8,h9]
theorem RFit_ok(k:Int):Ok Tryz.prog 86 [aG k] ⟨.d (aG (fitR k)),true⟩:=by
 refine aZ Tryz.func86 rfl Tryz.ntmps86 Tryz.results86 λw0 X hp=>?_;refine aA ?_;simp;refine aD ?_;refine aA ?_;simp;refine aH ?_;refine aA ?_;simp;refine aC ?_;simp;refine⟨λh2=>?_,λh2=>?_⟩
 ·refine aA ?_;simp;refine aF ?_;simp;unfold fitR;simp_all
 ·refine aA ?_;simp;refine aC ?_;simp;refine⟨λh4=>?_,λh4=>?_⟩
  ·refine aA ?_;simp;refine aF ?_;simp;unfold fitR;simp_all
  ·refine aP (ι:=Unit) (λi=>aO [(3,.d (aG k)),(8,.d (.bool (decide (k=13\/k=14))))]) (λi=>aI []) (λi=>True) ?_ λi hc8=>?_
   ·refine aA ?_;simp;refine aC ?_;simp;refine⟨λh6=>?_,λh6=>?_⟩
    ·refine aE ?_;simp;exact(aB hp [3,8] [] (by simp[h6]))
    ·refine aJ ?_;simp;exact(aB hp [3,8] [] (by simp[h6]))
   ·refine aC ?_;simp;refine⟨λh8=>?_,λh8 h8'=>?_⟩
    ·refine aA ?_;simp;refine aF ?_;simp;unfold fitR;simp_all
    ·refine aP (ι:=Unit) (λi=>aO [(3,.d (aG k)),(11,.d (.bool (decide (k=17\/k=18))))]) (λi=>aI []) (λi=>True) ?_ λi hc11=>?_
     ·refine aA ?_;simp;refine aC ?_;simp;refine⟨λh9=>?_,λh9=>?_⟩
      ·refine aE ?_;simp;exact(aB hp [3,11] [] (by simp[h9]))
      ·refine aJ ?_;simp;exact(aB hp [3,11] [] (by simp[h9]))
     ·refine aC ?_;simp;refine⟨λh11=>?_,λh11 h11'=>?_⟩
      ·refine aA ?_;simp;refine aF ?_;simp;unfold fitR;simp_all
      ·refine aP (ι:=Unit) (λi=>aO [(3,.d (aG k)),(14,.d (.bool (decide (k=15\/k=16))))]) (λi=>aI []) (λi=>True) ?_ λi hc14=>?_
       ·refine aA ?_;simp;refine aC ?_;simp;refine⟨λh12=>?_,λh12=>?_⟩
        ·refine aE ?_;simp;exact(aB hp [3,14] [] (by simp[h12]))
        ·refine aJ ?_;simp;exact(aB hp [3,14] [] (by simp[h12]))
       ·refine aC ?_;simp;refine⟨λh14=>?_,λh14 h14'=>?_⟩
        ·refine aA ?_;simp;refine aF ?_;simp;unfold fitR;simp_all
        ·refine aP (ι:=Unit) (λi=>aO [(3,.d (aG k)),(17,.d (.bool (decide (k=22\/k=23))))]) (λi=>aI []) (λi=>True) ?_ λi hc17=>?_
         ·refine aA ?_;simp;refine aC ?_;simp;refine⟨λh15=>?_,λh15=>?_⟩
          ·refine aE ?_;simp;exact(aB hp [3,17] [] (by simp[h15]))
          ·refine aJ ?_;simp;exact(aB hp [3,17] [] (by simp[h15]))
         ·refine aC ?_;simp;refine⟨λh17=>?_,λh17 h17'=>?_⟩
          ·refine aA ?_;simp;refine aF ?_;simp;unfold fitR;simp_all
          ·refine aE ?_;simp;refine aA ?_;simp;refine aF ?_;simp;unfold fitR;simp_all
theorem cutAt_none{c:UInt8}:∀{s:aM},c∉s->cutAt c s=none
 |[],_=>rfl
 |d::r,h=>by
  have h1:d≠c:=λe=>h (by rw[e];exact List.mem_cons_self ..);have h2:=cutAt_none (s:=r) (λhm=>h (List.mem_cons_of_mem _ hm));rw[cutAt,if_neg h1,h2];rfl
theorem cut_found{s:aM}{i:Nat}(hi:i<s.length)(h:s[i]=46)(hn:(46:UInt8)∉s.take i):pC 46 s=s.take i/\pD 46 s=s.drop (i+1):=by
 have e:s=s.take i++46::s.drop (i+1):=by
  have:=List.take_append_drop i s;rw[List.drop_eq_getElem_cons hi,h]at this;exact this.symm
 have hc:cutAt 46 s=some (s.take i,s.drop (i+1)):=by
  conv=>lhs;rw[e]
  exact zX _ hn
 unfold pC pD;rw[hc];exact⟨rfl,rfl⟩
theorem cut_none{s:aM}(hn:(46:UInt8)∉s):pC 46 s=s/\pD 46 s=[]:=by
 unfold pC pD;rw[cutAt_none hn];exact⟨rfl,rfl⟩
theorem RCut_ok(s:aM)(hl:s.length<=1000000000):Ok Tryz.prog 87 [.str s] ⟨.tup [.d (.str (pC 46 s)),.d (.str (pD 46 s))],true⟩:=by
 refine Ok.two Tryz.func87 (by kernel_rfl) (c:=_) rfl Tryz.ntmps87 (by simp) Tryz.results87 rfl λw0 X hp=>?_;refine aA ?_;simp;refine aD ?_;refine aA ?_;simp;refine aH ?_;refine aR (ι:=Nat) (λi=>aO [(0,.d (.str s)),(4,.d (aG (i:Nat)))]) (λi=>aI []) (λi=>i<=s.length/\(46:UInt8)∉s.take i) (λi=>s.length-i) 0 (aB hp [0,4] []) (⟨Nat.zero_le _,by simp⟩) λi hi2=>?_;refine aD ?_;refine aA ?_;simp;refine aC ?_;simp;refine⟨λh2=>?_,λh2=>?_⟩
 ·refine aE ?_;simp;refine aD ?_;refine aH ?_;refine aD ?_;have hi:i<s.length:=by omega
  refine aJ ?_;simp[hi];refine aC ?_;simp;refine⟨λh4=>?_,λh4=>?_⟩
  ·have hb:s[i]=46:=UInt8.toNat_inj.1 (show s[i].toNat=46 by omega);have hcut:=cut_found hi hb hi2.2;refine aD ?_;refine eF.rd [] [] (λ_=>none) ?_;simp;refine⟨by omega,?_⟩;refine aF ?_;simp[hcut]
  ·have hne:s[i]≠46:=λe=>by rw[e]at h4;exact h4 rfl
   refine aE ?_;simp;refine aJ ?_;simp;refine⟨by omega,?_⟩;refine Nf.mk (i+1) (aB hp [0,4] []) ?_ ?_
   ·refine⟨by omega,?_⟩;rw[List.take_succ_eq_append_getElem hi];intro hm;rcases List.mem_append.1 hm with hm|hm
    ·exact hi2.2 hm
    ·rw[List.mem_singleton]at hm;exact hne hm.symm
   ·omega
 ·refine bA ?_;simp;refine aA ?_;simp;refine aF ?_;have e:i=s.length:=by omega
  have hn:=hi2.2;rw[e,List.take_length]at hn;simp[cut_none hn]
def bX.r(u:bX):DV:=.agg [aG u.bk,aG u.kind,.str u.name,.str u.field]
theorem use_mem{l:List bX}{y:DV}(h:y∈l.map bX.r):(aK y).length=4:=by obtain⟨u,_,rfl⟩:=List.mem_map.1 h;rfl
theorem us_t{l:List bX}{k:Nat}:(∀y∈List.take k (List.map bX.r l),(aK y).length=4)↔True:=iff_true_intro λ_ h=>use_mem (List.mem_of_mem_take h)
theorem us_m{l:List bX}:(∀y∈List.map bX.r l,(aK y).length=4)↔True:=iff_true_intro λ_ h=>use_mem h
theorem us_d{u:bX}:(aK u.r).length=4:=rfl
attribute[local simp] us_t us_m us_d bX.r
theorem useHere_fit(k:Int)(t:aM):eS k t=if 0<=fitR k then [⟨k,fitR k,pC 46 t,pD 46 t⟩]else []:=by
 rw[fitR_eq];unfold eS;cases h:ID k with
 |none=>rfl
 |some f=>
  have:0<=f:=by
   unfold ID at h;obtain⟨j,_,hj⟩:=Option.map_eq_some_iff.1 h;rw[<-hj];by_cases hl:j<qV.length
   ·rw[List.getD_eq_getElem?_getD,List.getElem?_eq_getElem hl,Option.getD_some];have:∀x∈qV,0<=x:=by decide
    exact this _ (List.getElem_mem hl)
   ·rw[List.getD_eq_getElem?_getD,List.getElem?_eq_none (by omega)];exact Int.le_refl _
  simp[this]
theorem Found_step(x:Nd)(hw:weighN x<=1000000000)(ih:∀y∈x.kids,Ok Tryz.prog 50 [y.d] ⟨.own 4 ((bB y).map bX.r),true⟩):Ok Tryz.prog 50 [x.d] ⟨.own 4 ((bB x).map bX.r),true⟩:=by
 refine aZ Tryz.func50 rfl Tryz.ntmps50 Tryz.results50 λw0 X hp=>?_;have hwx:=weighN_eq x;have hkl:=weigh_len (l:=x.kids);have hun:=nZ x;have hue:=usesN_eq x;have hfi:=useHere_fit x.kind x.text;refine aA ?_;simp;refine aA ?_;simp;refine aP (ι:=Unit) (λi=>aO [(1,.bx 1 0),(3,.ow 3 0 (eS x.kind x.text).length)]) (λi=>aI [(1,.box false [.d (aG x.kind),.d (.str x.text),.d (aG x.n),.d (ndsD x.kids)]),(3,.row false 4 ((eS x.kind x.text).map bX.r))]) (λi=>True) ?_ λi hc5=>?_
 ·refine aX hT hW (λ|9=>some<| .plain ⟨.d (aG (fitR x.kind)),true⟩|_=>none) ?_;simp;refine⟨RFit_ok x.kind,?_⟩;refine aC ?_;simp;refine⟨λh2=>?_,λh2=>?_⟩
  ·have hf1:=hfi;rw[if_pos h2]at hf1;refine aD ?_;have kc:=RCut_ok x.text (by omega);refine eF.ro hT hW (λ|14=>some<| .plain ⟨.tup [.d (.str (pC 46 x.text)),.d (.str (pD 46 x.text))],true⟩|_=>none) ?_;simp[aW];refine⟨kc,?_⟩;refine eF.rd [[22,26],[22],[22],[],[],[],[22],[22]] [[],[],[],[],[],[22],[],[],[],[26],[3,27]] (λ|22=>some<| .plain ⟨.d (aG (fitR x.kind)),true⟩|_=>none) ?_;simp;refine⟨RFit_ok x.kind,?_⟩;exact(aB hp [1,3] [(1,1),(27,3)] (by simp[hf1]) (by simp[hf1]))
  ·have hf1:=hfi;rw[if_neg (by omega)]at hf1;refine aE ?_;simp;exact(aB hp [1,3] [(1,1),(3,3)] (by simp[hf1]) (by simp[hf1]))
 ·refine aD ?_;refine aA ?_;simp;refine aH ?_;refine aR (ι:=Nat) (λi=>aO [(1,.bx 1 0),(3,.ow 3 0 (eS x.kind x.text++dU (x.kids.take i)).length),(6,.d (aG (i:Nat)))]) (λi=>aI [(1,.box false [.d (aG x.kind),.d (.str x.text),.d (aG x.n),.d (ndsD x.kids)]),(3,.row false 4 ((eS x.kind x.text++dU (x.kids.take i)).map bX.r))]) (λi=>i<=x.kids.length) (λi=>x.kids.length-i) 0 (aB hp [1,3,6] [(1,1),(3,3)] (by simp[dU]) (by simp[dU])) (Nat.zero_le _) λi hi6=>?_;refine aD ?_;refine aA ?_;simp;refine aC ?_;simp;refine⟨λh6=>?_,λh6=>?_⟩
  ·refine aE ?_;simp;refine aD ?_;refine aH ?_;have hi:i<x.kids.length:=by omega
   obtain⟨y,hy⟩:∃y,x.kids[i]=y:=⟨_,rfl⟩;have hym:y∈x.kids:=by rw[<-hy];exact List.getElem_mem hi
   have ki:=ih y hym;have hsu:=usesL_succ hi;rw[hy]at hsu;have hle:(dU (x.kids.take (i+1))).length<=1000000000:=by
    have h1:=Av (x.kids.take (i+1));have h2:weighL (x.kids.take (i+1))+weighL (x.kids.drop (i+1))=weighL x.kids:=by rw[<-weighL_append,List.take_append_drop]
    omega
   rw[hsu,List.length_append]at hle;have htk:List.take ((eS x.kind x.text).length+(dU (List.take i x.kids)).length) (List.map bX.r (eS x.kind x.text)++List.map bX.r (dU (List.take i x.kids)))=List.map bX.r (eS x.kind x.text)++List.map bX.r (dU (List.take i x.kids)):=List.take_of_length_le (by simp);have hh1:(eS x.kind x.text).length<=1:=by rw[hfi];split<;>simp
   refine eF.ro hT hW (λ|41=>some<| .plain ⟨.own 4 ((bB y).map bX.r),true⟩|_=>none) ?_;simp[hi,hy];refine⟨⟨by simpa using ki,by omega,by omega⟩,?_⟩;refine aJ ?_;simp;refine⟨by omega,?_⟩;refine Nf.mk (i+1) (aB hp [1,3,6] [(1,1),(42,3)] (by simp[hsu,Nat.add_assoc]) (by simp[hsu,htk])) ?_ ?_
   ·omega
   ·omega
  ·refine bA ?_;simp;refine aA ?_;simp;refine aF ?_;have e:i=x.kids.length:=by omega
   have htk:List.take ((eS x.kind x.text).length+(dU x.kids).length) (List.map bX.r (eS x.kind x.text)++List.map bX.r (dU x.kids))=List.map bX.r (eS x.kind x.text)++List.map bX.r (dU x.kids):=List.take_of_length_le (by simp);simp[hue,e,htk];rintro d (⟨a,_,rfl⟩|⟨a,_,rfl⟩) c hc<;>(simp at hc;rcases hc with rfl|rfl|rfl|rfl<;>rfl)
theorem Found_go:∀(f:Nat) (x:Nd),weighN x<f->weighN x<=1000000000->Ok Tryz.prog 50 [x.d] ⟨.own 4 ((bB x).map bX.r),true⟩
 |0,_,h,_=>absurd h (Nat.not_lt_zero _)
 |f+1,x,h,hw=>Found_step x hw λy hy=>Found_go f y (by have:=weighN_eq x;have:=weigh_mem hy;omega) (by have:=weighN_eq x;have:=weigh_mem hy;omega)
theorem Found_ok(x:Nd)(hw:weighN x<=1000000000):Ok Tryz.prog 50 [x.d] ⟨.own 4 ((bB x).map bX.r),true⟩:=Found_go _ x (Nat.lt_succ_self _) hw
theorem RIndex_ok(l:List Df)(name:aM)(hl:l.length<=1000000):Ok Tryz.prog 48 [eM l,.str name] ⟨.d (aG (fX l name)),true⟩:=by
 refine aZ Tryz.func48 rfl Tryz.ntmps48 Tryz.results48 λw0 X hp=>?_;refine aA ?_;simp;refine aD ?_;refine aA ?_;simp;refine aH ?_;refine aR (ι:=Nat) (λi=>aO [(0,.d (eM l)),(1,.d (.str name)),(5,.d (aG (i:Nat)))]) (λi=>aI []) (λi=>i<=l.length/\Nq (λd=>decide (d.name=name)) l i) (λi=>l.length-i) 0 (aB hp [0,1,5] []) (⟨Nat.zero_le _,Nq.zero⟩) λi hi2=>?_;refine aD ?_;refine aA ?_;simp;refine aC ?_;simp;refine⟨λh2=>?_,λh2=>?_⟩
 ·refine aE ?_;simp;refine aD ?_;refine aH ?_;refine aD ?_;have hi:i<l.length:=by omega
  refine aJ ?_;simp[hi];refine aC ?_;simp;refine⟨λh4=>?_,λh4=>?_⟩
  ·refine aA ?_;simp;refine aF ?_;simp[fX,qR (hi2.2.found hi (by simpa using h4))]
  ·refine aE ?_;simp;refine aJ ?_;simp;refine⟨by omega,?_⟩;refine Nf.mk (i+1) (aB hp [0,1,5] []) ?_ ?_
   ·exact⟨by omega,hi2.2.succ hi (by simpa using h4)⟩
   ·omega
 ·refine bA ?_;simp;refine aA ?_;simp;refine aF ?_;simp[fX,qS (hi2.2.none (by omega))]
theorem RFields_ok(x:Nd)(hw:weighN x<=1000000000):Ok Tryz.prog 64 [x.d] ⟨.own 1 ((bG x).map .str),true⟩:=by
 refine aZ Tryz.func64 rfl Tryz.ntmps64 Tryz.results64 λw0 X hp=>?_;have hwx:=weighN_eq x;have hkl:=weigh_len (l:=x.kids);refine aA ?_;simp;refine aA ?_;simp;refine aD ?_;refine aA ?_;simp;refine aH ?_;refine aR (ι:=Nat) (λi=>aO [(1,.bx 1 0),(3,.ow 3 0 (fN (x.kids.take i)).length),(4,.d (aG (i:Nat)))]) (λi=>aI [(1,.box false [.d (aG x.kind),.d (.str x.text),.d (aG x.n),.d (ndsD x.kids)]),(3,.row false 1 ((fN (x.kids.take i)).map .str))]) (λi=>i<=x.kids.length) (λi=>x.kids.length-i) 0 (aB hp [1,3,4] [(1,1),(3,3)] (by simp[fN]) (by simp[fN])) (Nat.zero_le _) λi hi3=>?_;refine aD ?_;refine aA ?_;simp;refine aC ?_;simp;refine⟨λh3=>?_,λh3=>?_⟩
 ·refine aE ?_;simp;refine aD ?_;refine aH ?_;refine aD ?_;have hi:i<x.kids.length:=by omega
  obtain⟨k,hk⟩:∃k,x.kids[i]=k:=⟨_,rfl⟩;have hn:=yM hi;have hfl:=uF (x.kids.take i);rw[List.length_take]at hfl;rw[hk]at hn;refine aJ ?_;simp[hi,hk];refine aC ?_;simp;refine⟨λh5=>?_,λh5=>?_⟩
  ·simp only[if_pos h5]at hn;refine aJ ?_;simp[hi,hk];refine⟨by omega,?_⟩;refine aJ ?_;simp;refine⟨by omega,?_⟩;refine Nf.mk (i+1) (aB hp [1,3,4] [(1,1),(27,3)] (by simp[hn]) (by simp[hn])) ?_ ?_
   ·omega
   ·omega
  ·simp only[if_neg h5]at hn;refine aE ?_;simp;refine aJ ?_;simp;refine⟨by omega,?_⟩;refine Nf.mk (i+1) (aB hp [1,3,4] [(1,1),(3,3)] (by simp[hn]) (by simp[hn])) ?_ ?_
   ·omega
   ·omega
 ·refine bA ?_;simp;refine aA ?_;simp;refine aF ?_;have he:i=x.kids.length:=by omega
  subst he;rw[List.take_length];simp[bG]
end
section
attribute[local simp] jO.cond Nd.d_eq nd_t nd_dr nd_td ndsD aQ bD bL
def firstE(l:List Df)(d:Df)(i:Nat):Int:=
 if(parseS d.text).2.2≠0 then(parseS d.text).2.2
 else if(parseS d.text).1.text≠d.name then 11
 else if fX l d.name<(i:Int)then 7
 else if(bG (parseS d.text).1).Nodup then 0 else 7
theorem nodup_take_succ{f:List aM}{k:Nat}(hk:k<f.length):(f.take (k+1)).Nodup↔(f.take k).Nodup/\f[k]∉f.take k:=by
 rw[List.take_succ_eq_append_getElem hk,List.nodup_append];constructor
 ·rintro⟨h1,_,h3⟩;exact⟨h1,λhm=>h3 _ hm _ (by simp) rfl⟩
 ·rintro⟨h1,h2⟩;exact⟨h1,by simp,λa ha b hb e=>h2 (by simp at hb;rw[<-hb,<-e];exact ha)⟩
theorem nodup_take{f:List aM}(h:f.Nodup)(k:Nat):(f.take k).Nodup:=h.sublist (List.take_sublist _ _)
theorem RTree_ok(s:aM):Ok Tryz.prog 36 [.str s] ⟨.d (parseS s).1.d,false⟩:=by
 refine Nu Tryz.func36 rfl Tryz.ntmps36 Tryz.results36 λw0 X hp=>?_;obtain⟨P,hP⟩:∃P,parseS s=P:=⟨_,rfl⟩;have kp:=FD s;rw[hP]at kp;obtain⟨x,hx⟩:∃x,P.1=x:=⟨_,rfl⟩;rw[hx]at kp;refine aA ?_;simp;refine aX hT hW (λ|8=>some<| .plain ⟨.tup [.d x.d,.d (aG P.2.1),.d (aG P.2.2)],false⟩|_=>none) ?_;simp[aW];refine⟨by simpa using kp,?_⟩;refine aA ?_;simp;refine aF ?_;simp[hP,hx]
theorem RFirst_ok(l:List Df)(i:Nat)(d:Df)(hi:l[i]? =some d)(hl:l.length<=1000000):Ok Tryz.prog 29 [eM l,aG (i:Int)] ⟨.d (aG (firstE l d i)),true⟩:=by
 refine aZ Tryz.func29 rfl Tryz.ntmps29 Tryz.results29 λw0 X hp=>?_;obtain⟨hil,hd⟩:=List.getElem?_eq_some_iff.1 hi;obtain⟨P,hP⟩:∃P,parseS d.text=P:=⟨_,rfl⟩;have kp:=FD d.text;have hwt:=gQ d.text;have hfl:=zF d.text;have hF:firstE l d i=if P.2.2≠0 then P.2.2 else if P.1.text≠d.name then 11 else if fX l d.name<(i:Int)then 7 else if(bG P.1).Nodup then 0 else 7:=by unfold firstE;rw[hP]
 rw[hP]at kp hwt hfl;obtain⟨x,hx⟩:∃x,P.1=x:=⟨_,rfl⟩;rw[hx]at kp hwt hF hfl;refine aA ?_;simp;refine aX hT hW (λ|16=>some<| .plain ⟨.tup [.d x.d,.d (aG P.2.1),.d (aG P.2.2)],false⟩|_=>none) ?_;simp[aW,hil,hd];refine⟨by simpa using kp,?_⟩;refine aD ?_;refine aA ?_;simp;refine aC ?_;simp;refine⟨λh2=>?_,λh2=>?_⟩
 ·rw[if_pos h2]at hF;refine aA ?_;simp;refine aF ?_;simp[hF]
 ·rw[if_neg (by simpa using h2)]at hF;refine aE ?_;simp;refine aD ?_;refine aD ?_;refine eF.rd [] [] (λ_=>none) ?_;simp[hil,hd];refine aC ?_;simp;refine⟨λh4=>?_,λh4=>?_⟩
  ·rw[if_pos (by simpa using h4)]at hF;refine aA ?_;simp;refine aF ?_;simp[hF]
  ·rw[if_neg (by simpa using h4)]at hF;refine aE ?_;simp;refine aD ?_;refine aD ?_;have kx:=RIndex_ok l d.name hl;refine eF.ro hT hW (λ|37=>some<| .plain ⟨.d (aG (fX l d.name)),true⟩|_=>none) ?_;simp[hil,hd];refine⟨by simpa using kx,?_⟩;refine aC ?_;simp;refine⟨λh6=>?_,λh6=>?_⟩
   ·rw[if_pos h6]at hF;refine aA ?_;simp;refine aF ?_;simp[hF]
   ·rw[if_neg (by omega)]at hF;refine aE ?_;simp;refine aD ?_;have kf:=RFields_ok x hwt;refine eF.ro hT hW (λ|41=>some<| .plain ⟨.own 1 ((bG x).map .str),true⟩|_=>none) ?_;simp;refine⟨by simpa using kf,?_⟩;refine aD ?_;refine aA ?_;simp;refine aH ?_;refine aR (ι:=Nat) (λk=>aO [(8,.ow 41 0 (bG x).length),(9,.d (aG (k:Nat)))]) (λk=>aI [(41,.row false 1 ((bG x).map .str))]) (λk=>k<=(bG x).length/\((bG x).take k).Nodup) (λk=>(bG x).length-k) 0 (aB hp [8,9] [(41,41)]) (⟨Nat.zero_le _,by simp⟩) λk hi10=>?_;refine aD ?_;refine aA ?_;simp;refine aC ?_;simp;refine⟨λh10=>?_,λh10=>?_⟩
    ·refine aE ?_;simp;refine aD ?_;refine aH ?_;refine aD ?_;have hk:k<(bG x).length:=by omega
     have kin:=Am ((bG x).take k) (bG x)[k];refine eF.rd [] [[],[],[],[],[],[],[],[55]] (λ|55=>some<| .plain ⟨.d (.bool (decide ((bG x)[k]∈(bG x).take k))),true⟩|_=>none) ?_;simp[hk];refine⟨⟨by omega,by simpa using kin⟩,?_⟩;refine aC ?_;simp;refine⟨λh12=>?_,λh12=>?_⟩
     ·refine aA ?_;simp;refine aF ?_;rw[if_neg (λhn=>((nodup_take_succ hk).1 (nodup_take hn (k+1))).2 h12)]at hF;simp[hF]
     ·refine aE ?_;simp;refine aJ ?_;simp;refine⟨by omega,?_⟩;refine Nf.mk (k+1) (aB hp [8,9] [(41,41)]) ?_ ?_
      ·exact⟨by omega,(nodup_take_succ hk).2 ⟨hi10.2,h12⟩⟩
      ·omega
    ·refine bA ?_;simp;refine aA ?_;simp;refine aF ?_;have e:k=(bG x).length:=by omega
     have hn:=hi10.2;rw[e,List.take_length]at hn;rw[if_pos hn]at hF;simp[hF]
def putS(l:List aM)(s:aM):List aM:=if s∈l then l else lI (mY (λy=>Op.bytesLess s y) l l.length) s l
theorem RPut_ok(l:List aM)(s:aM)(hl:l.length<=8000000000000):Ok Tryz.prog 37 [jD l,.str s] ⟨.d (jD (putS l s)),false⟩:=by
 refine aZ Tryz.func37 rfl Tryz.ntmps37 Tryz.results37 λw0 X hp=>?_;refine aA ?_;simp;refine aD ?_;refine aD ?_;have kin:=Am l s;refine eF.ro hT hW (λ|8=>some<| .plain ⟨.d (.bool (decide (s∈l))),true⟩|_=>none) ?_;simp;refine⟨by simpa using kin,?_⟩;refine aC ?_;simp;refine⟨λh1=>?_,λh1=>?_⟩
 ·refine aA ?_;simp;refine aF ?_;have e:putS l s=l:=if_pos h1;simp[e]
 ·refine aE ?_;simp;refine aA ?_;simp;refine aP (ι:=Nat) (λk=>aO [(0,.d (jD l)),(1,.d (.str s)),(5,.d (aG (k:Nat)))]) (λk=>aI []) (λk=>k<=l.length/\Is (mY (λy=>Op.bytesLess s y) l l.length) k) ?_ λk hc6=>?_
  ·refine aH ?_;refine aR (ι:=Nat) (λk=>aO [(0,.d (jD l)),(1,.d (.str s)),(5,.d (aG (k:Nat)))]) (λk=>aI []) (λk=>k<=l.length/\mY (λy=>Op.bytesLess s y) l l.length=mY (λy=>Op.bytesLess s y) l k) (λk=>k) l.length (aB hp [0,1,5] []) (⟨Nat.le_refl _,rfl⟩) λk hi4=>?_;refine aD ?_;refine aD ?_;rcases k with _|k
   ·refine aJ ?_;simp[Nat.zero_le];refine aC ?_;simp[Nat.zero_le];refine bA ?_;simp;refine UV.mk 0 (aB hp [0,1,5] []) ?_;exact⟨Nat.zero_le _,hi4.2⟩
   ·have hk:k<l.length:=by have:=hi4.1;omega
    refine aJ ?_;simp[hk];refine⟨by omega,?_⟩;refine aC ?_;simp;refine⟨λh4=>?_,λh4=>?_⟩
    ·refine aE ?_;simp;refine aH ?_;refine aJ ?_;simp;refine⟨by omega,?_⟩;refine Nf.mk k (aB hp [0,1,5] []) ?_ ?_
     ·exact⟨by omega,hi4.2.trans (Gw hk (by simpa using h4))⟩
     ·omega
    ·refine bA ?_;simp;refine UV.mk (k+1) (aB hp [0,1,5] []) ?_;exact⟨hi4.1,hi4.2.trans (zV λi' hi' hlt=>(by have e:i'=k:=(by omega);subst e;simpa using h4))⟩
  ·refine aD ?_;refine eF.rd [[31],[25,31],[25,31],[25,31],[31],[25,29],[25,29],[],[25,29,31,32],[25,29,31,32],[25,29,31,32]] [[25],[],[],[],[25,29],[],[31],[29,32],[],[],[],[32,36]] (λ_=>none) ?_;simp;refine⟨by omega,?_⟩;refine aF ?_;obtain⟨hk,hr⟩:=hc6;have e:putS l s=lI k s l:=by unfold putS;rw[if_neg h1,show mY (λy=>Op.bytesLess s y) l l.length=k from hr]
   have hrow:List.take (k+1+(l.length-k)) (List.take (k+1) (List.take k (List.take k (List.map DV.str l))++[DV.str s])++List.drop k (List.map DV.str l))=List.map DV.str (lI k s l):=by
    have h2:List.take (k+1) (List.take k (List.take k (List.map DV.str l))++[DV.str s])=List.take k (List.map DV.str l)++[DV.str s]:=by
     rw[List.take_take,Nat.min_self];exact List.take_of_length_le (by simp;omega)
    rw[h2,List.take_of_length_le (by simp;omega)];simp[lI]
   simp[e,Nat.min_eq_left hk,hrow]
end
section
attribute[local simp] jO.cond Nd.d_eq nd_t nd_dr nd_td ndsD aQ bD bL us_t us_m us_d bX.r
def tAt(l:List Df)(name:aM):Nd:=(parseS (l.getD (fX l name).toNat default).text).1
def p1(l:List Df)(u:bX):Bool:=decide (fX l u.name<0)
def p2(l:List Df)(u:bX):Bool:=decide ((tAt l u.name).kind≠u.kind)
def p3(l:List Df)(u:bX):Bool:=decide (u.kind=1/\u.field∉bG (tAt l u.name))
def secondE(l:List Df)(us:List bX):Int:=if us.any (p1 l)=true then 6 else if us.any (p2 l)=true then 12 else if us.any (p3 l)=true then 6 else 0
theorem idxN_lt{l:List Df}{name:aM}(h:0<=fX l name):∃i d,fX l name=((i:Nat):Int)/\l[i]? =some d/\tAt l name=(parseS d.text).1:=by
 unfold fX at h;rw[mU]at h;cases q:l.findIdx? (λd=>decide (d.name=name))with
 |none=>rw[q]at h;simp[pG]at h
 |some i=>
  have hi:=(List.findIdx?_eq_some_iff_getElem.1 q).1;have e:fX l name=(i:Nat):=by unfold fX;rw[mU,q];rfl
  refine⟨i,l[i],e,List.getElem?_eq_getElem hi,?_⟩;unfold tAt;rw[e,Int.toNat_natCast,List.getD_eq_getElem?_getD,List.getElem?_eq_getElem hi];rfl
theorem any_pre{us:List bX}{p:bX->Bool}{k:Nat}(hk:k<us.length)(h:p us[k]=true):us.any p=true:=List.any_eq_true.2 ⟨us[k],List.getElem_mem hk,h⟩
theorem RSecond_ok(l:List Df)(i:Nat)(d:Df)(hi:l[i]? =some d)(hl:l.length<=1000000):Ok Tryz.prog 30 [eM l,aG (i:Int)] ⟨.d (aG (secondE l (bB (parseS d.text).1))),true⟩:=by
 refine aZ Tryz.func30 rfl Tryz.ntmps30 Tryz.results30 λw0 X hp=>?_;obtain⟨hil,hd⟩:=List.getElem?_eq_some_iff.1 hi;obtain⟨x,hx⟩:∃x,(parseS d.text).1=x:=⟨_,rfl⟩;have hwt:=gQ d.text;have kt:=RTree_ok d.text;rw[hx]at hwt kt;rw[hx];obtain⟨us,hus⟩:∃us,bB x=us:=⟨_,rfl⟩;have kf:=Found_ok x hwt;have hul:=nZ x;rw[hus]at kf hul;rw[hus];refine aA ?_;simp;refine aX hT hW (λ|15=>some<| .plain ⟨.d x.d,false⟩|16=>some<| .plain ⟨.own 4 (us.map bX.r),true⟩|_=>none) ?_;simp[hil,hd];refine⟨⟨by simpa using kt,by simpa using kf⟩,?_⟩;refine aD ?_;refine aA ?_;simp;refine aH ?_;refine aR (ι:=Nat) (λk=>aO [(0,.d (eM l)),(5,.ow 16 0 us.length),(6,.d (aG (k:Nat)))]) (λk=>aI [(16,.row false 4 (us.map bX.r))]) (λk=>k<=us.length/\Nq (p1 l) us k) (λk=>us.length-k) 0 (aB hp [0,5,6] [(16,16)]) (⟨Nat.zero_le _,Nq.zero⟩) λk hi3=>?_;refine aD ?_;refine aA ?_;simp;refine aC ?_;simp;refine⟨λh3=>?_,λh3=>?_⟩
 ·refine aE ?_;simp;refine aD ?_;refine aH ?_;refine aD ?_;have hk:k<us.length:=by omega
  have kx:=RIndex_ok l us[k].name hl;refine eF.ro hT hW (λ|29=>some<| .plain ⟨.d (aG (fX l us[k].name)),true⟩|_=>none) ?_;simp[hk];refine⟨by simpa using kx,?_⟩;refine aC ?_;simp;refine⟨λh5=>?_,λh5=>?_⟩
  ·refine aA ?_;simp;refine aF ?_;have e:secondE l us=6:=if_pos (any_pre hk (by simpa [p1]using h5));simp[e]
  ·refine aE ?_;simp;refine aJ ?_;simp;refine⟨by omega,?_⟩;refine Nf.mk (k+1) (aB hp [0,5,6] [(16,16)]) ?_ ?_
   ·exact⟨by omega,hi3.2.succ hk (by simpa [p1]using h5)⟩
   ·omega
 ·refine bA ?_;simp;refine aD ?_;refine aD ?_;have hP1:us.any (p1 l)=false:=hi3.2.any (by omega);have h0:∀(j:Nat) (h:j<us.length),0<=fX l us[j].name:=λj h=>by have:=hi3.2 j h (by omega);simp[p1]at this;exact this
  refine aJ ?_;simp;refine aH ?_;refine aR (ι:=Nat) (λk=>aO [(0,.d (eM l)),(5,.ow 16 0 us.length),(7,.d (aG (k:Nat)))]) (λk=>aI [(16,.row false 4 (us.map bX.r))]) (λk=>k<=us.length/\Nq (p2 l) us k) (λk=>us.length-k) 0 (aB hp [0,5,7] [(16,16)]) (⟨Nat.zero_le _,Nq.zero⟩) λk hi8=>?_;refine aD ?_;refine aA ?_;simp;refine aC ?_;simp;refine⟨λh8=>?_,λh8=>?_⟩
  ·refine aE ?_;simp;refine aD ?_;refine aH ?_;refine aD ?_;have hk:k<us.length:=by omega
   have kx:=RIndex_ok l us[k].name hl;obtain⟨n,dn,hn,hdn,htA⟩:=idxN_lt (h0 k hk);have kt2:=RTree_ok dn.text;obtain⟨hnl,hdn'⟩:=List.getElem?_eq_some_iff.1 hdn;rw[hn]at kx;obtain⟨y,hy⟩:∃y,(parseS dn.text).1=y:=⟨_,rfl⟩;have hwy:=gQ dn.text;rw[hy]at kt2 htA hwy;have hmx:(if(n:Int)<0 then(0:Int)else(n:Int))=(n:Int):=if_neg (by omega);refine eF.rd [[44],[],[],[],[],[],[],[],[],[],[],[],[],[],[44,49],[44,49],[44,49],[44,49],[44,49]] [[],[],[],[],[],[],[],[44],[],[],[],[],[49]] (λ|44=>some<| .plain ⟨.d (aG (n:Int)),true⟩|49=>some<| .plain ⟨.d y.d,false⟩|_=>none) ?_;simp[hk,hmx,hnl,hdn',tB];refine⟨⟨by simpa using kx,by simpa using kt2⟩,?_⟩;refine aC ?_;simp;refine⟨λh10=>?_,λh10=>?_⟩
   ·refine aA ?_;simp;refine aF ?_;have e:secondE l us=12:=by unfold secondE;rw[if_neg (by simp[hP1]),if_pos (any_pre hk (by simpa [p2,htA]using h10))]
    simp[e]
   ·refine aE ?_;simp;refine aJ ?_;simp;refine⟨by omega,?_⟩;refine Nf.mk (k+1) (aB hp [0,5,7] [(16,16)]) ?_ ?_
    ·exact⟨by omega,hi8.2.succ hk (by simpa [p2,htA]using h10)⟩
    ·omega
  ·refine bA ?_;simp;refine aD ?_;refine aD ?_;have hP2:us.any (p2 l)=false:=hi8.2.any (by omega);refine aJ ?_;simp;refine aH ?_;refine aR (ι:=Nat) (λk=>aO [(0,.d (eM l)),(5,.ow 16 0 us.length),(8,.d (aG (k:Nat)))]) (λk=>aI [(16,.row false 4 (us.map bX.r))]) (λk=>k<=us.length/\Nq (p3 l) us k) (λk=>us.length-k) 0 (aB hp [0,5,8] [(16,16)]) (⟨Nat.zero_le _,Nq.zero⟩) λk hi13=>?_;refine aD ?_;refine aA ?_;simp;refine aC ?_;simp;refine⟨λh13=>?_,λh13=>?_⟩
   ·refine aE ?_;simp;refine aD ?_;refine aH ?_;refine aD ?_;have hk:k<us.length:=by omega
    have kx:=RIndex_ok l us[k].name hl;obtain⟨n,dn,hn,hdn,htA⟩:=idxN_lt (h0 k hk);have kt2:=RTree_ok dn.text;obtain⟨hnl,hdn'⟩:=List.getElem?_eq_some_iff.1 hdn;rw[hn]at kx;obtain⟨y,hy⟩:∃y,(parseS dn.text).1=y:=⟨_,rfl⟩;have hwy:=gQ dn.text;rw[hy]at kt2 htA hwy;have hmx:(if(n:Int)<0 then(0:Int)else(n:Int))=(n:Int):=if_neg (by omega);refine eF.ro hT hW (λ|70=>some<| .plain ⟨.d (aG (n:Int)),true⟩|75=>some<| .plain ⟨.d y.d,false⟩|_=>none) ?_;simp[hk,hmx,hnl,hdn'];refine⟨⟨by simpa using kx,by simpa using kt2⟩,?_⟩;refine aD ?_;by_cases hk1:us[k].kind=1
    rotate_left
    ·refine eF.rd [[],[],[],[],[],[],[],[],[],[84],[84],[84],[84],[84]] [[],[],[],[],[],[],[],[],[84],[],[],[],[],[],[90]] (λ_=>none) ?_;simp[hk,hk1];refine aC ?_;simp[hk,hk1];refine aE ?_;simp;refine aJ ?_;simp;refine⟨by omega,?_⟩;refine Nf.mk (k+1) (aB hp [0,5,8] [(16,16)]) ?_ ?_
     ·exact⟨by omega,hi13.2.succ hk (by simp[p3,hk1])⟩
     ·omega
    ·have kfy:=RFields_ok y hwy;have kin:=Am (bG y) us[k].field;refine eF.rd [[],[],[],[],[],[],[],[],[],[84],[84],[84],[84],[84]] [[],[],[],[],[],[],[],[],[84],[],[],[],[],[],[90]] (λ|84=>some<| .plain ⟨.own 1 ((bG y).map .str),true⟩|90=>some<| .plain ⟨.d (.bool (decide (us[k].field∈bG y))),true⟩|_=>none) ?_;simp[hk,hk1];refine⟨⟨by simpa using kfy,by simpa using kin⟩,?_⟩;refine aC ?_;simp;refine⟨λh16=>?_,λh16=>?_⟩
     ·refine aA ?_;simp;refine aF ?_;have e:secondE l us=6:=by unfold secondE;rw[if_neg (by simp[hP1]),if_neg (by simp[hP2]),if_pos (any_pre hk (by simp[p3,hk1,htA];simpa using h16))]
      simp[e]
     ·refine aE ?_;simp;refine aJ ?_;simp;refine⟨by omega,?_⟩;refine Nf.mk (k+1) (aB hp [0,5,8] [(16,16)]) ?_ ?_
      ·exact⟨by omega,hi13.2.succ hk (by simp[p3,hk1,htA];simpa using h16)⟩
      ·omega
   ·refine bA ?_;simp;refine aA ?_;simp;refine aF ?_;have hP3:us.any (p3 l)=false:=hi13.2.any (by omega);have e:secondE l us=0:=by unfold secondE;rw[if_neg (by simp[hP1]),if_neg (by simp[hP2]),if_neg (by simp[hP3])]
    simp[e]
end
section
attribute[local simp] jO.cond Nd.d_eq nd_t nd_dr nd_td ndsD aQ bD bL us_t us_m us_d bX.r
def cbR(c:Bool)(k:Int):Bool:= !c||decide (k=14)
def bfsS(c:Bool)(st:List aM×List aM)(u:bX):List aM×List aM:=if cbR c u.bk=true/\u.name∉st.1 then(putS st.1 u.name,st.2++[u.name])else st
def bfsN(l:List Df)(c:Bool)(st:List aM×List aM)(nm:aM):List aM×List aM:=if fX l nm<0 then st else(bB (tAt l nm)).foldl (bfsS c) st
def bfsF(l:List Df)(c:Bool):Nat->Nat->List aM×List aM->List aM
 |0,_,st=>st.1
 |f+1,n,st=>match st.2[n]? with
  |none=>st.1
  |some nm=>bfsF l c f (n+1) (bfsN l c st nm)
def allU(l:List Df):List aM:=l.flatMap λd=>(bB (parseS d.text).1).map bX.name
def reachR(l:List Df)(name:aM)(c:Bool):List aM:=bfsF l c ((allU l).length+2) 0 ([],[name])
def muS(U out:List aM):Nat:=(U.filter λu=>decide (u∉out)).length
structure BfsJ(U:List aM)(st:List aM×List aM):Prop where
 room:st.1.length+muS U st.1<=U.length
 two:st.2.length=st.1.length+1
theorem putS_new{l:List aM}{s:aM}(h:s∉l):(putS l s).length=l.length+1:=by unfold putS;rw[if_neg h,rV]
theorem mem_putS{l:List aM}{s x:aM}:x∈putS l s↔x=s\/x∈l:=by
 unfold putS;split
 ·rename_i h;exact⟨.inr,λhx=>hx.elim (λe=>e▸h) id⟩
 ·exact PM
theorem muS_put{U out:List aM}{s:aM}(hs:s∈U)(h:s∉out):muS U (putS out s)<muS U out:=by
 unfold muS;exact xF (x:=s) (λy hy=>by simp[mem_putS]at hy|-;exact hy.2) hs (by simpa using h) (by simp[mem_putS])
theorem bfsS_J{U:List aM}{c:Bool}{st:List aM×List aM}{u:bX}(hu:u.name∈U)(h:BfsJ U st):BfsJ U (bfsS c st u)/\muS U (bfsS c st u).1+(bfsS c st u).2.length<=muS U st.1+st.2.length:=by
 unfold bfsS;split
 ·rename_i hc;have h1:=muS_put hu hc.2;have h2:=putS_new hc.2;have h3:=h.room;have h4:=h.two;refine⟨⟨?_,?_⟩,?_⟩
  ·show(putS st.1 u.name).length+muS U (putS st.1 u.name)<=U.length;omega
  ·show(st.2++[u.name]).length=(putS st.1 u.name).length+1;rw[List.length_append,List.length_singleton];omega
  ·show muS U (putS st.1 u.name)+(st.2++[u.name]).length<=_;rw[List.length_append,List.length_singleton];omega
 ·exact⟨h,Nat.le_refl _⟩
theorem foldl_take{α β:Type}{f:β->α->β}{l:List α}{k:Nat}{b:β}(hk:k<l.length):(l.take (k+1)).foldl f b=f ((l.take k).foldl f b) l[k]:=by
 rw[List.take_succ_eq_append_getElem hk,List.foldl_append];rfl
theorem uses_allU{l:List Df}{nm:aM}(h:0<=fX l nm):∀u∈bB (tAt l nm),u.name∈allU l:=λu hu=>by
 obtain⟨i,d,_,hd,ht⟩:=idxN_lt h;rw[ht]at hu;exact List.mem_flatMap.2 ⟨d,List.mem_of_getElem? hd,List.mem_map.2 ⟨u,hu,rfl⟩⟩
theorem allU_len(l:List Df):(allU l).length<=l.length*1000000000:=by
 induction l with
 |nil=>exact Nat.le_refl _
 |cons d r ih=>
  unfold allU at*;rw[List.flatMap_cons,List.length_append,List.length_map,List.length_cons];have h1:=nZ (parseS d.text).1;have h2:=gQ d.text;omega
theorem muS_nil(U:List aM):muS U []=U.length:=by unfold muS;rw[List.filter_eq_self.2 (by simp)]
theorem RReached_ok(l:List Df)(name:aM)(c:Bool)(hl:l.length<=1000):Ok Tryz.prog 31 [eM l,.str name,.bool c] ⟨.d (jD (reachR l name c)),false⟩:=by
 refine aZ Tryz.func31 rfl Tryz.ntmps31 Tryz.results31 λw0 X hp=>?_;obtain⟨U,hU⟩:∃U,allU l=U:=⟨_,rfl⟩;have hUl:=allU_len l;rw[hU]at hUl;have hR:reachR l name c=bfsF l c (U.length+2) 0 ([],[name]):=by rw[<-hU];rfl
 refine aA ?_;simp;refine aA ?_;simp;refine aA ?_;simp;refine aD ?_;refine aA ?_;simp;refine eL (gO.close 7 (x:=.sl []) (by simp)) ?_;simp;refine aH ?_;refine aR (ι:=Nat×List aM×List aM) (λ⟨n,out,todo⟩=>aO [(0,.d (eM l)),(2,.d (.bool c)),(7,.d (jD out)),(8,.ow 14 0 todo.length),(9,.d (aG (n:Nat)))]) (λ⟨n,out,todo⟩=>aI [(14,.row false 1 (todo.map .str))]) (λ⟨n,out,todo⟩=>n<=todo.length/\BfsJ U (out,todo)/\∃f,muS U out+todo.length<f+n/\reachR l name c=bfsF l c f n (out,todo)) (λ⟨n,out,todo⟩=>muS U out+todo.length-n) (0,[],[name]) (aB hp [0,2,7,8,9] [(14,14)]) (⟨Nat.zero_le _,⟨by simp[muS_nil],rfl⟩,U.length+2,by rw[muS_nil];simp,hR⟩) λ⟨n,out,todo⟩ hi4=>?_;obtain⟨hn1,hJ,f,hf,hE⟩:=hi4;have hr1:=hJ.room;have hr2:=hJ.two;dsimp only at hr1 hr2;refine aD ?_;refine aA ?_;simp;refine aC ?_;simp;refine⟨λh4=>?_,λh4=>?_⟩
 ·refine aE ?_;simp;refine aD ?_;refine aH ?_;refine aD ?_;have hn:n<todo.length:=by omega
  have kx:=RIndex_ok l todo[n] (by omega);obtain⟨f',rfl⟩:∃f',f=f'+1:=⟨f-1,by omega⟩;have hE':reachR l name c=bfsF l c f' (n+1) (bfsN l c (out,todo) todo[n]):=by rw[hE,bfsF];simp only[List.getElem?_eq_getElem hn]
  refine eF.ro hT hW (λ|26=>some<| .plain ⟨.d (aG (fX l todo[n])),true⟩|_=>none) ?_;simp[hn];refine⟨by simpa using kx,?_⟩;refine aD ?_;refine aA ?_;simp;refine aC ?_;simp;refine⟨λh7=>?_,λh7=>?_⟩
  ·refine bA ?_;simp;refine aJ ?_;simp;refine⟨by omega,?_⟩;refine Nf.mk (n+1,out,todo) (aB hp [0,2,7,8,9] [(14,14)]) ?_ ?_
   ·refine⟨by dsimp only;omega,hJ,f',by dsimp only;omega,?_⟩;rw[hE'];unfold bfsN;rw[if_pos h7]
   ·show muS U out+todo.length-(n+1)<muS U out+todo.length-n;omega
  ·obtain⟨m,d,hm,hdm,htA⟩:=idxN_lt (l:=l) (name:=todo[n]) (by omega);obtain⟨hml,hdm'⟩:=List.getElem?_eq_some_iff.1 hdm;obtain⟨y,hy⟩:∃y,(parseS d.text).1=y:=⟨_,rfl⟩;have kt:=RTree_ok d.text;have hwy:=gQ d.text;rw[hy]at kt hwy htA;obtain⟨us,hus⟩:∃us,bB y=us:=⟨_,rfl⟩;have kf:=Found_ok y hwy;have hul:=nZ y;have haU:∀u∈us,u.name∈U:=λu hu=>by rw[<-hU];exact uses_allU (nm:=todo[n]) (by omega) u (by rw[htA,hus];exact hu)
   rw[hus]at kf hul;have hN:bfsN l c (out,todo) todo[n]=us.foldl (bfsS c) (out,todo):=by unfold bfsN;rw[if_neg (by omega),htA,hus]
   refine aE ?_;simp;refine aX hT hW (λ|34=>some<| .plain ⟨.d y.d,false⟩|35=>some<| .plain ⟨.own 4 (us.map bX.r),true⟩|_=>none) ?_;simp[hm,hml,hdm'];refine⟨⟨by simpa using kt,by simpa using kf⟩,?_⟩;refine aA ?_;simp;refine aH ?_;refine aR (ι:=Nat×List aM×List aM) (λ⟨k,out',todo'⟩=>aO [(0,.d (eM l)),(2,.d (.bool c)),(7,.d (jD out')),(8,.ow 14 0 todo'.length),(9,.d (aG (n:Nat))),(11,.ow 35 0 us.length),(12,.d (aG (k:Nat)))]) (λ⟨k,out',todo'⟩=>aI [(14,.row false 1 (todo'.map .str)),(35,.row false 4 (us.map bX.r))]) (λ⟨k,out',todo'⟩=>k<=us.length/\todo.length<=todo'.length/\BfsJ U (out',todo')/\muS U out'+todo'.length<=muS U out+todo.length/\(out',todo')=(us.take k).foldl (bfsS c) (out,todo)) (λ⟨k,out',todo'⟩=>us.length-k) (0,out,todo) (aB hp [0,2,7,8,9,11,12] [(14,14),(35,35)]) (⟨Nat.zero_le _,Nat.le_refl _,hJ,Nat.le_refl _,rfl⟩) λ⟨k,out',todo'⟩ hi10=>?_;obtain⟨hk1,htl,hJ',hle',hfo⟩:=hi10;have hr1':=hJ'.room;have hr2':=hJ'.two;dsimp only at hr1' hr2';refine aD ?_;refine aA ?_;simp;refine aC ?_;simp;refine⟨λh10=>?_,λh10=>?_⟩
   ·refine aE ?_;simp;refine aD ?_;refine aH ?_;refine aD ?_;have hk:k<us.length:=by omega
    have kin:=Am out' us[k].name;have hum:us[k].name∈U:=haU us[k] (List.getElem_mem hk);refine eF.ro hT hW (λ|59=>some<| .plain ⟨.d (.bool (decide (us[k].name∈out'))),true⟩|_=>none) ?_;simp[hk];refine⟨λ_=>by simpa using kin,?_⟩;refine aC ?_;simp;refine⟨λh12 h12'=>?_,λh12=>?_⟩
    ·have hcb:cbR c us[k].bk=true:=by unfold cbR;rcases h12 with h|h<;>simp[h]
     have hS:bfsS c (out',todo') us[k]=(putS out' us[k].name,todo'++[us[k].name]):=if_pos ⟨hcb,h12'⟩;have hJS:=bfsS_J (c:=c) hum hJ';rw[hS]at hJS;refine aD ?_;have kp:=RPut_ok out' us[k].name (by omega);refine eF.ro hT hW (λ|68=>some<| .plain ⟨.d (jD (putS out' us[k].name)),false⟩|_=>none) ?_;simp[hk];refine⟨by simpa using kp,?_⟩;refine aJ ?_;simp[hk];refine⟨by omega,?_⟩;refine aJ ?_;simp;refine⟨by omega,?_⟩;refine Nf.mk (k+1,putS out' us[k].name,todo'++[us[k].name]) (aB hp [0,2,7,8,9,11,12] [(76,14),(35,35)]) ?_ ?_
     ·refine⟨by dsimp only;omega,by dsimp only;rw[List.length_append];omega,hJS.1,Nat.le_trans hJS.2 hle',?_⟩;rw[foldl_take hk,<-hfo];exact hS.symm
     ·omega
    ·have hS:bfsS c (out',todo') us[k]=(out',todo'):=if_neg (by rintro⟨h1,h2⟩;unfold cbR at h1;simp at h1;exact h2 (h12 h1));refine aE ?_;simp;refine aJ ?_;simp;refine⟨by omega,?_⟩;refine Nf.mk (k+1,out',todo') (aB hp [0,2,7,8,9,11,12] [(14,14),(35,35)]) ?_ ?_
     ·refine⟨by dsimp only;omega,htl,hJ',hle',?_⟩;rw[foldl_take hk,<-hfo];exact hS.symm
     ·omega
   ·refine bA ?_;simp;refine aJ ?_;simp;refine⟨by omega,?_⟩;refine Nf.mk (n+1,out',todo') (aB hp [0,2,7,8,9] [(14,14)]) ?_ ?_
    ·have hks:k=us.length:=(by omega);rw[hks,List.take_length]at hfo;refine⟨by dsimp only;omega,hJ',f',by dsimp only;omega,?_⟩;show reachR l name c=bfsF l c f' (n+1) (out',todo');rw[hE',hN,hfo]
    ·show muS U out'+todo'.length-(n+1)<muS U out+todo.length-n;omega
 ·refine bA ?_;simp;refine aA ?_;simp;refine aF ?_;have e:n=todo.length:=by omega
  obtain⟨f',rfl⟩:∃f',f=f'+1:=⟨f-1,by omega⟩;have hE':reachR l name c=out:=by rw[hE,bfsF];simp only[List.getElem?_eq_none (show todo.length<=n by omega)]
  simp[hE']
end
section
attribute[local simp] jO.cond Nd.d_eq nd_t nd_dr nd_td ndsD aQ bD
def q1(l:List Df)(i:Nat):Bool:=decide (firstE l (l.getD i default) i≠0)
def q2(l:List Df)(i:Nat):Bool:=decide (secondE l (bB (parseS (l.getD i default).text).1)≠0)
def q3(l:List Df)(i:Nat):Bool:=decide ((l.getD i default).name∈reachR l (l.getD i default).name true)
def chkR3(l:List Df):Int×Int:=match dA (q3 l) l.length with
 |some i=>((i:Int),13)
 |none=>((l.length:Int),0)
def chkR2(l:List Df):Int×Int:=match dA (q2 l) l.length with
 |some i=>((i:Int),secondE l (bB (parseS (l.getD i default).text).1))
 |none=>chkR3 l
def chkR1(l:List Df):Int×Int:=match dA (q1 l) l.length with
 |some i=>((i:Int),firstE l (l.getD i default) i)
 |none=>chkR2 l
def chkR(l:List Df):Int×Int:=if 24<l.length then(0,4)else chkR1 l
theorem RCheck_ok(l:List Df):Ok Tryz.prog 9 [eM l] ⟨.tup [.d (aG (chkR l).1),.d (aG (chkR l).2)],true⟩:=by
 refine Ok.two Tryz.func9 (by kernel_rfl) (c:=_) rfl Tryz.ntmps9 (by simp) Tryz.results9 rfl λw0 X hp=>?_;refine eF.len (t:=0) rfl λhlen=>?_;simp at hlen;refine aA ?_;simp;refine aD ?_;refine aA ?_;simp;refine aC ?_;simp;refine⟨λh1=>?_,λh1=>?_⟩
 ·have hC:chkR l=(0,4):=if_pos (by omega);refine aA ?_;simp;refine aF ?_;simp[hC]
 ·have hC:chkR l=chkR1 l:=if_neg (by omega);refine aE ?_;simp;refine aD ?_;refine aA ?_;simp;refine aH ?_;refine aR (ι:=Nat) (λi=>aO [(0,.d (eM l)),(4,.d (aG (i:Nat)))]) (λi=>aI []) (λi=>i<=l.length/\∀j<i,q1 l j=false) (λi=>l.length-i) 0 (aB hp [0,4] []) (⟨Nat.zero_le _,λj h=>absurd h (Nat.not_lt_zero _)⟩) λi hi4=>?_;refine aD ?_;refine aA ?_;simp;refine aC ?_;simp;refine⟨λh4=>?_,λh4=>?_⟩
  ·refine aE ?_;simp;refine aD ?_;refine aH ?_;refine aD ?_;have hi:i<l.length:=by omega
   obtain⟨d,hd⟩:∃d,l[i]=d:=⟨_,rfl⟩;have hgd:l.getD i default=d:=by rw[List.getD_eq_getElem?_getD,List.getElem?_eq_getElem hi,hd];rfl
   have kf:=RFirst_ok l i d (by rw[List.getElem?_eq_getElem hi,hd]) (by omega);refine eF.ro hT hW (λ|20=>some<| .plain ⟨.d (aG (firstE l d i)),true⟩|_=>none) ?_;simp;refine⟨by simpa using kf,?_⟩;refine aA ?_;simp;refine aC ?_;simp;refine⟨λh7=>?_,λh7=>?_⟩
   ·have hf:=kU hi hi4.2 (by unfold q1;rw[hgd];simpa using h7);have hC1:chkR1 l=((i:Int),firstE l d i):=by unfold chkR1;rw[hf];simp only[hgd]
    refine aA ?_;simp;refine aF ?_;simp[hC,hC1]
   ·have hbad:q1 l i=false:=by unfold q1;rw[hgd];simpa using h7
    refine aE ?_;simp;refine aJ ?_;simp;refine⟨by omega,?_⟩;refine Nf.mk (i+1) (aB hp [0,4] []) ?_ ?_
    ·refine⟨by omega,λj hj=>?_⟩;rcases Nat.lt_succ_iff_lt_or_eq.1 hj with hj|rfl
     ·exact hi4.2 j hj
     ·exact hbad
    ·omega
  ·refine bA ?_;simp;refine aD ?_;refine aD ?_;have hn1:=kV (p:=q1 l) (n:=l.length) λj hj=>hi4.2 j (by omega);have hC1:chkR1 l=chkR2 l:=by unfold chkR1;rw[hn1]
   refine aJ ?_;simp;refine aH ?_;refine aR (ι:=Nat) (λi=>aO [(0,.d (eM l)),(6,.d (aG (i:Nat)))]) (λi=>aI []) (λi=>i<=l.length/\∀j<i,q2 l j=false) (λi=>l.length-i) 0 (aB hp [0,6] []) (⟨Nat.zero_le _,λj h=>absurd h (Nat.not_lt_zero _)⟩) λi hi10=>?_;refine aD ?_;refine aA ?_;simp;refine aC ?_;simp;refine⟨λh10=>?_,λh10=>?_⟩
   ·refine aE ?_;simp;refine aD ?_;refine aH ?_;refine aD ?_;have hi:i<l.length:=by omega
    obtain⟨d,hd⟩:∃d,l[i]=d:=⟨_,rfl⟩;have hgd:l.getD i default=d:=by rw[List.getD_eq_getElem?_getD,List.getElem?_eq_getElem hi,hd];rfl
    have kf:=RSecond_ok l i d (by rw[List.getElem?_eq_getElem hi,hd]) (by omega);refine eF.ro hT hW (λ|33=>some<| .plain ⟨.d (aG (secondE l (bB (parseS d.text).1))),true⟩|_=>none) ?_;simp;refine⟨by simpa using kf,?_⟩;refine aA ?_;simp;refine aC ?_;simp;refine⟨λh13=>?_,λh13=>?_⟩
    ·have hf:=kU hi hi10.2 (by unfold q2;rw[hgd];simpa using h13);have hC2:chkR2 l=((i:Int),secondE l (bB (parseS d.text).1)):=by unfold chkR2;rw[hf];simp only[hgd]
     refine aA ?_;simp;refine aF ?_;simp[hC,hC1,hC2]
    ·have hbad:q2 l i=false:=by unfold q2;rw[hgd];simpa using h13
     refine aE ?_;simp;refine aJ ?_;simp;refine⟨by omega,?_⟩;refine Nf.mk (i+1) (aB hp [0,6] []) ?_ ?_
     ·refine⟨by omega,λj hj=>?_⟩;rcases Nat.lt_succ_iff_lt_or_eq.1 hj with hj|rfl
      ·exact hi10.2 j hj
      ·exact hbad
     ·omega
   ·refine bA ?_;simp;refine aD ?_;refine aD ?_;have hn2:=kV (p:=q2 l) (n:=l.length) λj hj=>hi10.2 j (by omega);have hC2:chkR2 l=chkR3 l:=by unfold chkR2;rw[hn2]
    refine aJ ?_;simp;refine aH ?_;refine aR (ι:=Nat) (λi=>aO [(0,.d (eM l)),(8,.d (aG (i:Nat)))]) (λi=>aI []) (λi=>i<=l.length/\∀j<i,q3 l j=false) (λi=>l.length-i) 0 (aB hp [0,8] []) (⟨Nat.zero_le _,λj h=>absurd h (Nat.not_lt_zero _)⟩) λi hi16=>?_;refine aD ?_;refine aA ?_;simp;refine aC ?_;simp;refine⟨λh16=>?_,λh16=>?_⟩
    ·refine aE ?_;simp;refine aD ?_;refine aH ?_;refine aD ?_;have hi:i<l.length:=by omega
     obtain⟨d,hd⟩:∃d,l[i]=d:=⟨_,rfl⟩;have hgd:l.getD i default=d:=by rw[List.getD_eq_getElem?_getD,List.getElem?_eq_getElem hi,hd];rfl
     have kr:=RReached_ok l d.name true (by omega);have kin:=Am (reachR l d.name true) d.name;refine eF.rd [[],[],[],[],[],[],[],[50],[50],[50],[50],[50]] [[],[],[],[],[],[],[50],[],[],[],[],[],[56]] (λ|50=>some<| .plain ⟨.d (jD (reachR l d.name true)),false⟩|56=>some<| .plain ⟨.d (.bool (decide (d.name∈reachR l d.name true))),true⟩|_=>none) ?_;simp[hi,hd];refine⟨⟨by simpa using kr,by simpa using kin⟩,?_⟩;refine aC ?_;simp;refine⟨λh18=>?_,λh18=>?_⟩
     ·have hf:=kU hi hi16.2 (by unfold q3;rw[hgd];simpa using h18);have hC3:chkR3 l=((i:Int),13):=by unfold chkR3;rw[hf]
      refine aA ?_;simp;refine aF ?_;simp[hC,hC1,hC2,hC3]
     ·have hbad:q3 l i=false:=by unfold q3;rw[hgd];simpa using h18
      refine aE ?_;simp;refine aJ ?_;simp;refine⟨by omega,?_⟩;refine Nf.mk (i+1) (aB hp [0,8] []) ?_ ?_
      ·refine⟨by omega,λj hj=>?_⟩;rcases Nat.lt_succ_iff_lt_or_eq.1 hj with hj|rfl
       ·exact hi16.2 j hj
       ·exact hbad
      ·omega
    ·refine bA ?_;simp;refine aA ?_;simp;refine aF ?_;have hn3:=kV (p:=q3 l) (n:=l.length) λj hj=>hi16.2 j (by omega);have hC3:chkR3 l=((l.length:Int),0):=by unfold chkR3;rw[hn3]
     simp[hC,hC1,hC2,hC3]
end
end Go.Eng
