/-
  Texts of the proofs of this seat, part 8. No condition.
-/
import Derived.Test.YtmndmahpoljhmaaGreatDoorMG
import Derived.Lib.ConvBytes
import Derived.Laws.IdiomStrings
set_option linter.unusedVariables false
set_option linter.unusedSimpArgs false
namespace Go.Eng
open Go.Proofs
attribute[local simp] mW kX iB bC mT fY hZ nM cN bG oZ.plain oZ.cond oZ.fail dP lW sT mM fP kN lG lH memless mF eJ iW tP Ee hO fI strip oL dV lK bU
 qC fQ iH iC iG oT lk cD dR bP bV bX nK eT oP iF iZ bS eK bK dG iA eV eW dW eX gF gG gH eY dX eZ dY fB gJ gK gN gO fC gR oK nH mkAgg sO AT jI bD hU aX.live TK.isNone TK.agg TK.isBool TK.isStr TK.isStruct Op.operands Call.operands
 bE cO cH cW eE nI lB cU dH iE eO kP aP frozen lI
 jM jN lC gD jP jQ jR jV lD gE jX jY jZ kC rJ lR nO nP nR nS nU kD jK gC eU Nm.d Df.d Ed.d xD xE nE xF jL rU rV dA dB
 xH xI rK xJ xK rL rM rN nV xL xM rO
 bT bA dJ lJ dK bR cB bM eN uF TK.isInt jO jW nQ gM hF dI eL eM fV eS fO lX sA nD wW rI
 nC kR mC mU cL eA dS kW jE jF iV sD gS cZ gT gU cD jT jU nN iI gV kE gP gQ fE
 cK gZ TK.isPtr eF bZ kF oU pR jS kA nT gI gL fD
attribute[local simp] dZ kG gW
section
attribute[local simp] oZ.cond Nd.d_eq nd_t nd_dr nd_td ndsD bJ eP pY Int.add_assoc eC Cf Cg Ch HA nG
def dU(L:List Int)(d i:Nat):Int:=if d=0∨L.length<i+1 then(jH L i 12).tmod 6 else jH L i 12
theorem lZ(L:List Int)(d i:Nat):0≤dU L d i∧dU L d i<12∧(d=0→dU L d i<6):=by
 have h:=bW L i 12 (by decide)
 unfold dU
 split
 ·have:(jH L i 12).tmod 6=jH L i 12%6:=Int.tmod_eq_emod_of_nonneg h.1
  rw[this]
  omega
 ·omega
theorem oG{L:List Int}{d i:Nat}(h:dU L d i=0∨dU L d i=1):aN L d i=(.mk 32 [] (Aw.getD (jH L (i+1) 6).toNat 0) [],i+2):=by
 unfold dU at h
 unfold aN
 simp only[]
 rw[if_pos h]
theorem oH{L:List Int}{d i:Nat}(h:dU L d i=2):aN L d i=(.mk 33 (oN L (i+1)) 0 [],i+2):=by
 have h0:¬(dU L d i=0∨dU L d i=1):=by omega
 unfold dU at h h0
 unfold aN
 simp only[]
 rw[if_neg h0,if_pos h]
theorem lV{L:List Int}{d i:Nat}(h:dU L d i=3∨dU L d i=4):aN L d i=dQ L (i+1):=by
 have h0:¬(dU L d i=0∨dU L d i=1):=by omega
 have h1:¬(dU L d i=2):=by omega
 unfold dU at h h0 h1
 unfold aN
 simp only[]
 rw[if_neg h0,if_neg h1,if_pos h]
theorem mS{L:List Int}{d i:Nat}(h:dU L d i=5):aN L d i=(.mk 36 [] 0 [],i+1):=by
 have h0:¬(dU L d i=0∨dU L d i=1):=by omega
 have h1:¬(dU L d i=2):=by omega
 have h2:¬(dU L d i=3∨dU L d i=4):=by omega
 unfold dU at h h0 h1 h2
 unfold aN
 simp only[]
 rw[if_neg h0,if_neg h1,if_neg h2,if_pos h]
theorem vH{L:List Int}{e i:Nat}(h:6≤dU L (e+1) i):aN L (e+1) i=(.mk (26+dU L (e+1) i-6) [] 0 [(aN L e (i+1)).1,(aN L e (aN L e (i+1)).2).1],(aN L e (aN L e (i+1)).2).2):=by
 have h0:¬(dU L (e+1) i=0∨dU L (e+1) i=1):=by omega
 have h1:¬(dU L (e+1) i=2):=by omega
 have h2:¬(dU L (e+1) i=3∨dU L (e+1) i=4):=by omega
 have h3:¬(dU L (e+1) i=5):=by omega
 rw[aN]
 have hv:(if e+1=0∨L.length<i+1 then(jH L i 12).tmod 6 else jH L i 12)=dU L (e+1) i:=rfl
 rw[hv,if_neg h0,if_neg h1,if_neg h2,if_neg h3]
theorem AQ(L:List Int)(i:Nat):(dQ L i).2≤i+3:=by unfold dQ;split<;>simp
theorem AR(L:List Int):∀(d i:Nat),(aN L d i).2+1≤i+5*2^d:=fun d=>by
 induction d with
 |zero=>
  intro i
  obtain⟨r0,_,r2⟩:=lZ L 0 i
  have r2:=r2 rfl
  by_cases h0:dU L 0 i=0∨dU L 0 i=1
  ·rw[oG h0];simp
  ·by_cases h1:dU L 0 i=2
   ·rw[oH h1];simp
   ·by_cases h2:dU L 0 i=3∨dU L 0 i=4
    ·rw[lV h2];have:=AQ L (i+1);omega
    ·rw[mS (by omega)];simp
 |succ e ih=>
  intro i
  have hp:1≤2^e:=Nat.one_le_two_pow
  have h2:2^(e+1)=2*2^e:=by rw[Nat.pow_succ,Nat.mul_comm]
  obtain⟨r0,_,_⟩:=lZ L (e+1) i
  by_cases h0:dU L (e+1) i=0∨dU L (e+1) i=1
  ·rw[oG h0];simp only;omega
  ·by_cases h1:dU L (e+1) i=2
   ·rw[oH h1];simp only;omega
   ·by_cases h3:dU L (e+1) i=3∨dU L (e+1) i=4
    ·rw[lV h3];have:=AQ L (i+1);omega
    ·by_cases h4:dU L (e+1) i=5
     ·rw[mS h4];simp only;omega
     ·rw[vH (by omega)]
      have a:=ih (i+1)
      have b:=ih (aN L e (i+1)).2
      simp only
      omega
theorem Ci(L:List Int)(d i:Nat)(hL:Ml L)(hll:L.length≤1000000)(hi:i+5*2^d≤2000000)(ih:∀e,d=e+1→∀j,j+5*2^e≤2000000→qR Tryz.prog 69 [.bx 0 0,.d (aC (e:Nat))] (nG L j) (nG L (aN L e j).2) (.d (aN L e j).1.d)):qR Tryz.prog 69 [.bx 0 0,.d (aC (d:Nat))] (nG L i) (nG L (aN L d i).2) (.d (aN L d i).1.d):=by
 have h2d:1≤2^d:=Nat.one_le_two_pow
 unfold nG
 refine qR.cell hT Tryz.func69 (by kernel_rfl) (c:=_) rfl Tryz.ntmps69 (by simp) Tryz.results69 fun w0 X hp=>?_
 refine oS.sy ?_
 simp
 refine oS.seq ?_
 have ha:=kO L i 12 hL (by omega) (by decide)
 refine oS.ro hT hW (fun|8=>some (.gen ⟨[(0,0)],[],[],nG L (i+1),.d (aC (jH L i 12))⟩)|_=>none) ?_
 simp
 refine⟨by simpa using ha,?_⟩
 refine aO (ι:=KC) (fun⟨k⟩=>aY [(0,.bx 0 0),(1,.d (aC (d:Nat))),(4,.bx 4 0),(5,.d (aC k))]) (fun⟨k⟩=>aK [(0,.box false [.d (.sl (L.map aC)),.d (aC ((i+1:Nat):Int))]),(4,.box false [.d (aC 0),.d (.str []),.d (aC 0),.nl])]) (fun⟨k⟩=>dU L d i=k) ?_ fun⟨k⟩ hc4=>?_
 ·refine oS.seq ?_
  refine aF hT hW bI (lk [[],[0],[0,1],[0,1,2],[0,1,2,3],[0,1,2,3,4],[0,1,2,3,4,5],[0,1,2],[0,1,2,7],[0,1,2,7,8],[0,1,2,7,8,9],[0,1,2,7,8,9,10],[0,1,2,3,4,5,6,7,8,9,10,11],[0,1,2,3,4,5,6,7,8,9,10,11,12]]) (lk [[],[],[],[],[],[],[],[],[],[],[],[],[],[]]) (lk [[],[],[],[],[],[],[],[],[],[],[],[],[],[]]) (by kernel_rfl) (fun _=>none) (fun _=>⟨rfl,fun _ h=>h⟩) ?_
  simp
  refine aB ?_
  simp
  refine⟨fun h2=>?_,fun h2 h2b=>?_⟩
  ·refine aL ?_
   simp
   refine Pg.mk ⟨(jH L i 12).tmod 6⟩ (aA [0,1,4,5] [(0,0),(4,4)] (by decide) (by decide) (by simp[hp]) (by simp) (by simp)) ?_
   unfold dU;rw[if_pos (by omega)]
  ·refine oS.skip ?_
   simp
   refine Pg.mk ⟨jH L i 12⟩ (aA [0,1,4,5] [(0,0),(4,4)] (by decide) (by decide) (by simp[hp]) (by simp) (by simp)) ?_
   unfold dU;rw[if_neg (by omega)]
 ·refine oS.seq ?_
  refine oS.sy ?_
  simp
  refine oS.block ?_
  refine aO (ι:=BC) (fun⟨b⟩=>aY [(0,.bx 0 0),(1,.d (aC (d:Nat))),(4,.bx 4 0),(5,.d (aC k)),(25,.d (aC (k))),(26,.d (.bool b))]) (fun⟨b⟩=>aK [(0,.box false [.d (.sl (L.map aC)),.d (aC ((i+1:Nat):Int))]),(4,.box false [.d (aC 0),.d (.str []),.d (aC 0),.nl])]) (fun⟨b⟩=>b=true↔(k=0∨k=1)) ?_ fun⟨b⟩ hc7=>?_
  ·refine oS.sy ?_
   simp
   refine aB ?_
   simp
   refine⟨fun h5=>?_,fun h5=>?_⟩
   ·refine oS.skip ?_
    simp
    refine Pg.mk ⟨decide (k=0)⟩ (aA [0,1,4,5,25,26] [(0,0),(4,4)] (by decide) (by decide) (by simp[hp]) (by simp) (by simp)) ?_
    simp[h5]
   ·refine aL ?_
    simp
    refine Pg.mk ⟨decide (k=1)⟩ (aA [0,1,4,5,25,26] [(0,0),(4,4)] (by decide) (by decide) (by simp[hp]) (by simp) (by simp)) ?_
    simp only[decide_eq_true_eq];omega
  ·refine aB ?_
   simp
   refine⟨fun h7=>?_,fun h7=>?_⟩
   ·have q7:=hc7.1 h7
    refine oS.seq ?_
    have ha:=kO L (i+1) 6 hL (by omega) (by decide)
    have hr:=bW L ((i:Int)+1) 6 (by decide)
    have hc:=QQ (L:=L) (i:=i+1)
    simp[Aw]at hc
    refine oS.ro hT hW (fun|31=>some (.gen ⟨[(0,0)],[],[],nG L (i+1+1),.d (aC (jH L ((i:Int)+1) 6))⟩)|_=>none) ?_
    simp[hc]
    refine⟨⟨⟨⟨by decide,by simpa using ha⟩,by omega⟩,by omega⟩,?_⟩
    refine oS.ret ?_
    simp
    have e:=oG (L:=L) (d:=d) (i:=i) (by simp only at hc4;omega)
    refine aU (x:=(aN L d i).1.d) (by simp[e,Aw]) ?_
    simp
    exact aA [0] [(0,0)] (by decide) (by decide) (by simp[hp]) (by simp) (by simp[e])
   ·have q7:¬(k=0∨k=1):=fun q=>by simp[hc7.2 q]at h7
    refine oS.sy ?_
    simp
    refine aB ?_
    simp
    refine⟨fun h8=>?_,fun h8=>?_⟩
    ·refine oS.seq ?_
     have hc:=AP L (i+1) hL (by omega)
     refine oS.ro hT hW (fun|38=>some (.gen ⟨[(0,0)],[],[],nG L (i+1+1),.d (.str (oN L (i+1)))⟩)|_=>none) ?_
     simp
     refine⟨by simpa using hc,?_⟩
     refine oS.ret ?_
     simp
     have e:=oH (L:=L) (d:=d) (i:=i) (by simp only at hc4;omega)
     refine aU (x:=(aN L d i).1.d) (by simp[e]) ?_
     simp
     exact aA [0] [(0,0)] (by decide) (by decide) (by simp[hp]) (by simp) (by simp[e])
    ·refine aO (ι:=BC) (fun⟨b⟩=>aY [(0,.bx 0 0),(1,.d (aC (d:Nat))),(4,.bx 4 0),(5,.d (aC k)),(25,.d (aC (k))),(40,.d (.bool b))]) (fun⟨b⟩=>aK [(0,.box false [.d (.sl (L.map aC)),.d (aC ((i+1:Nat):Int))]),(4,.box false [.d (aC 0),.d (.str []),.d (aC 0),.nl])]) (fun⟨b⟩=>b=true↔(k=3∨k=4)) ?_ fun⟨b⟩ hc12=>?_
     ·refine oS.sy ?_
      simp
      refine aB ?_
      simp
      refine⟨fun h10=>?_,fun h10=>?_⟩
      ·refine oS.skip ?_
       simp
       refine Pg.mk ⟨decide (k=3)⟩ (aA [0,1,4,5,25,40] [(0,0),(4,4)] (by decide) (by decide) (by simp[hp]) (by simp) (by simp)) ?_
       simp[h10]
      ·refine aL ?_
       simp
       refine Pg.mk ⟨decide (k=4)⟩ (aA [0,1,4,5,25,40] [(0,0),(4,4)] (by decide) (by decide) (by simp[hp]) (by simp) (by simp)) ?_
       simp only[decide_eq_true_eq];omega
     ·refine aB ?_
      simp
      refine⟨fun h12=>?_,fun h12=>?_⟩
      ·have q12:=hc12.1 h12
       refine oS.seq ?_
       have hc:=Oo L (i+1) hL (by omega)
       refine oS.ro hT hW (fun|44=>some (.gen ⟨[(0,0)],[],[],nG L (dQ L (i+1)).2,.d (dQ L (i+1)).1.d⟩)|_=>none) ?_
       simp
       refine⟨by simpa using hc,?_⟩
       refine oS.ret ?_
       simp
       have e:=lV (L:=L) (d:=d) (i:=i) (by simp only at hc4;omega)
       refine aU (x:=(aN L d i).1.d) (by simp[e]) ?_
       simp
       exact aA [0] [(0,0)] (by decide) (by decide) (by simp[hp]) (by simp) (by simp[e])
      ·have q12:¬(k=3∨k=4):=fun q=>by simp[hc12.2 q]at h12
       refine oS.sy ?_
       simp
       refine aB ?_
       simp
       refine⟨fun h13=>?_,fun h13=>?_⟩
       ·refine oS.sy ?_
        simp
        refine oS.ret ?_
        simp
        have e:=mS (L:=L) (d:=d) (i:=i) (by simp only at hc4;omega)
        refine aU (x:=(aN L d i).1.d) (by simp[e]) ?_
        simp
        exact aA [0] [(0,0)] (by decide) (by decide) (by simp[hp]) (by simp) (by simp[e])
       ·refine oS.skip ?_
        simp
        refine oS.seq ?_
        have hk6:6≤k∧k<12:=by have:=lZ L d i;simp only at hc4;omega
        obtain⟨e,rfl⟩:∃e,d=e+1:=⟨d-1,by have:=lZ L d i;simp only at hc4;omega⟩
        have hp2:2^(e+1)=2*2^e:=by rw[Nat.pow_succ,Nat.mul_comm]
        have hpe:1≤2^e:=Nat.one_le_two_pow
        have hlt:e<2^e:=Nat.lt_two_pow_self
        have c1:=ih e rfl (i+1) (by omega)
        have t1:=AR L e (i+1)
        have c2:=ih e rfl (aN L e (i+1)).2 (by omega)
        have ez:((e:Int)+1)- 1=e:=by omega
        refine oS.ro hT hW (fun|51=>some (.gen ⟨[(0,0)],[],[],nG L (aN L e (i+1)).2,.d (aN L e (i+1)).1.d⟩)|_=>none) ?_
        simp[ez]
        refine⟨⟨by omega,by simpa using c1⟩,?_⟩
        refine oS.seq ?_
        refine aF hT hW bI (lk [[],[0],[0,1],[],[],[],[5],[4,5,6],[3,4,5,6,7],[0,1,2,3,4,5,6,7,8],[0,1,2,3,4,5,6,7,8,9]]) (lk [[0,60],[0,60],[0,60],[0],[],[],[],[],[],[],[]]) (lk [[],[],[],[],[],[],[],[0],[60],[],[4]]) (by kernel_rfl) (fun|59=>some (.gen ⟨[(0,0)],[],[],nG L (aN L e (aN L e (i+1)).2).2,.d (aN L e (aN L e (i+1)).2).1.d⟩)|_=>none) (by intro d;first|exact⟨rfl,fun _ h=>h⟩|(split<;>exact⟨rfl,fun _ h=>h⟩)) ?_
        simp[ez]
        refine⟨⟨⟨⟨⟨by omega,by omega⟩,by omega⟩,by simpa using c2⟩,by decide⟩,?_⟩
        refine oS.ret ?_
        simp
        have ev:=vH (L:=L) (e:=e) (i:=i) (by simp only at hc4;omega)
        rw[show dU L (e+1) i=k from hc4]at ev
        refine aU (x:=(aN L (e+1) i).1.d) (by simp[ev]) ?_
        simp
        exact aA [0] [(0,0)] (by decide) (by decide) (by simp[hp]) (by simp) (by simp[ev])
theorem vI(L:List Int)(hL:Ml L)(hll:L.length≤1000000):∀(d i:Nat),i+5*2^d≤2000000→qR Tryz.prog 69 [.bx 0 0,.d (aC (d:Nat))] (nG L i) (nG L (aN L d i).2) (.d (aN L d i).1.d):=fun d=>by
 induction d with
 |zero=>exact fun i hi=>Ci L 0 i hL hll hi fun e he=>by omega
 |succ d ihd=>
  intro i hi
  refine Ci L (d+1) i hL hll hi fun e he j hj=>?_
  have:e=d:=by omega
  subst this
  exact ihd j hj
end
open Go.Proofs
section
attribute[local simp] oZ.cond Nd.d_eq nd_t nd_dr nd_td ndsD bJ eP pY Int.add_assoc eC Cf Cg Ch HA nG
def Kk(L:List Int)(g:FuncId)(d:Nat)(b:Nat)(x:Nat→Nd×Nat):Prop:=∀j,j≤b→qR Tryz.prog g [.bx 0 0,.d (aC (d:Nat))] (nG L j) (nG L (x j).2) (.d (x j).1.d)
structure Sp where
 c:Nat
 ks:List Nd
 j:Nat
theorem LP{L:List Int}{st:Nat→Nd×Nat}{m:Nat}{ks:List Nd}{j:Nat}(h:m=0∨L.length≤j):kM L st m ks j=(ks,j):=by
 cases m with
 |zero=>rfl
 |succ m=>
  unfold kM
  rw[if_pos (by omega)]
theorem Oq{L:List Int}{st:Nat→Nd×Nat}{m:Nat}{ks:List Nd}{j:Nat}(h0:0<m)(h:j<L.length):kM L st m ks j=kM L st (m-1) (ks++[(st j).1]) (st j).2:=by
 obtain⟨k,rfl⟩:∃k,m=k+1:=⟨m-1,by omega⟩
 rw[kM,if_neg (by omega)]
 rfl
theorem Jw(L:List Int)(d i:Nat)(st:Nat→Nd×Nat)(hL:Ml L)(hll:L.length≤1000000)(b:Nat)(hi:i≤b)(hb:b≤1800000)(hS:Kk L 56 d (b+40000) st)(hle:∀j,(st j).2≤j+10000):qR Tryz.prog 109 [.bx 0 0,.d (aC (d:Nat))] (nG L i) (nG L (tZ L st i).2) (.d (tZ L st i).1.d):=by
 unfold nG
 refine qR.cell hT Tryz.func109 (by kernel_rfl) (c:=_) rfl Tryz.ntmps109 (by simp) Tryz.results109 fun w0 X hp=>?_
 refine oS.sy ?_
 simp
 refine oS.sy ?_
 simp
 refine pO (fz:=false) (cs:=[.d (aC 8),.d (.str []),.d (aC 0),.nl]) 5 3 1034 4 (by decide) ⟨by simp,by simp,by simp,?_⟩
 simp
 refine oS.seq ?_
 have ha:=kO L i 4 hL (by omega) (by decide)
 have hr:=bW L i 4 (by decide)
 obtain⟨n,hn⟩:∃n:Nat,jH L i 4=(n:Int):=⟨(jH L i 4).toNat,by omega⟩
 have hsm:tZ L st i=(.mk 8 [] 0 (kM L st n [] (i+1)).1,(kM L st n [] (i+1)).2):=by unfold tZ;simp only[];rw[hn];rfl
 rw[hn]at ha
 refine oS.ro hT hW (fun|10=>some (.gen ⟨[(0,0)],[],[],nG L (i+1),.d (aC (n:Nat))⟩)|_=>none) ?_
 simp
 refine⟨by simpa using ha,?_⟩
 refine oS.seq ?_
 refine oS.sy ?_
 simp
 refine oS.block ?_
 refine cA (ι:=Sp) (fun⟨c,ks,j⟩=>aY [(0,.bx 0 0),(1,.d (aC (d:Nat))),(4,.bx 4 0),(5,.bx 5 0),(6,.d (aC (n:Nat))),(7,.d (aC (c:Nat)))]) (fun⟨c,ks,j⟩=>aK [(0,.box false [.d (.sl (L.map aC)),.d (aC (j:Nat))]),(4,.box false [.d (aC 0),.d (.str []),.d (aC 0),.nl]),(5,.box false [.d (aC 8),.d (.str []),.d (aC 0),.ow 1034 0 ks.length]),(1034,.row false 4 (ks.map Nd.d))]) (fun⟨c,ks,j⟩=>c≤n∧j≤i+1+c*10000∧ks.length≤c∧kM L st n [] (i+1)=kM L st (n-c) ks j) (fun⟨c,ks,j⟩=>n-c) ⟨0,[],i+1⟩ (aA [0,1,4,5,6,7] [(0,0),(4,4),(5,5),(1034,1034)] (by decide) (by decide) (by simp[hp]) (by simp) (by simp)) (⟨Nat.zero_le _,by omega,Nat.le_refl _,rfl⟩) fun⟨c,ks,j⟩ hi4=>?_
 refine oS.seq ?_
 refine oS.seq ?_
 refine aF hT hW bI (lk [[],[],[0,1],[0,1,2],[0,1,2,3],[0,1,2,3,4],[0,1,2,3,4,5],[0,1,2,3,4,5,6],[0,1,2,3],[0,1,2,3,8],[0,1,2,3,8,9],[0,1,2,3,8,9,10],[0,1,2,3,8,9,10,11],[0,1,2,3,4,5,6,7,8,9,10,11,12],[0,1,2,3,4,5,6,7,8,9,10,11,12,13]]) (lk [[],[],[],[],[],[],[],[],[],[],[],[],[],[],[]]) (lk [[],[],[],[],[],[],[],[],[],[],[],[],[],[],[]]) (by kernel_rfl) (fun _=>none) (fun _=>⟨rfl,fun _ h=>h⟩) ?_
 simp
 refine aB ?_
 simp
 refine⟨fun g1 g2=>?_,fun g=>?_⟩
 ·refine oS.skip ?_
  simp
  refine oS.seq ?_
  refine oS.block ?_
  have hs:=hS j (by have:=hi4.2.1;omega)
  have hkl:=hi4.2.2.1
  refine aF hT hW bI (lk [[],[0],[],[],[2,3],[2,3,4],[0,1,2,3,4,5],[0,1,2,3,4,5,6],[0,1,2,3,4,5,6,7]]) (lk [[0,33],[0,33],[],[],[],[],[],[],[]]) (lk [[],[],[],[],[0],[33],[34,1034],[],[5]]) (by kernel_rfl) (fun|32=>some (.gen ⟨[(0,0)],[],[],nG L (st j).2,.d (st j).1.d⟩)|_=>none) (by intro d;first|exact⟨rfl,fun _ h=>h⟩|(split<;>exact⟨rfl,fun _ h=>h⟩)) ?_
  simp
  refine⟨by(repeat' with_reducible apply And.intro)<;>first|omega|(simpa using hs),?_⟩
  refine aL ?_
  simp
  refine⟨by omega,?_⟩
  refine JK.mk ⟨c+1,ks++[(st j).1],(st j).2⟩ (aA [0,1,4,5,6,7] [(0,0),(4,4),(5,5),(34,1034)] (by decide) (by decide) (by simp[hp]) (by simp) (by simp)) ?_ ?_
  ·refine⟨(show c+1≤n by omega),?_,?_,?_⟩
   ·have:=hle j
    show(st j).2≤i+1+(c+1)*10000
    omega
   ·show(ks++[(st j).1]).length≤c+1
    rw[List.length_append,List.length_singleton]
    omega
   ·rw[hi4.2.2.2,Oq (by omega) (by omega)]
    rfl
  ·show n-(c+1)<n-c
   omega
 ·refine oS.exit ?_
  simp
  refine oS.sy ?_
  simp
  refine oS.ret ?_
  simp
  have e:tZ L st i=(.mk 8 [] 0 ks,j):=by rw[hsm,hi4.2.2.2,LP (by rcases Nat.lt_or_ge c n with q|q;exact .inr (by have:=g (by omega);omega);exact .inl (by omega))]
  refine aU (x:=(tZ L st i).1.d) (by simp[e]) ?_
  simp
  exact aA [0] [(0,0)] (by decide) (by decide) (by simp[hp]) (by simp) (by simp[e])
structure Vy where
 x:Nd
 j:Nat
def Jx(L:List Int)(d i:Nat):Int:=if d=0∧(9+jH L i 17=11∨9+jH L i 17=12)then 24 else 9+jH L i 17
def xY(L:List Int)(bl:Nat→Nd×Nat)(k:Int)(i:Nat):Nd×Nat:=
 if k=9 then(.mk k (oN L i) 0 [(aN L 2 (i+1)).1],(aN L 2 (i+1)).2)
 else if k=10 then(.mk k [] 0 [(dQ L i).1,(aN L 2 (dQ L i).2).1],(aN L 2 (dQ L i).2).2)
 else if k=11∨k=12 then
  (if k=11 then(if jH L (bl (aN L 1 i).2).2 2=0 then(.mk k [] 0 [(aN L 1 i).1,(bl (aN L 1 i).2).1,(bl ((bl (aN L 1 i).2).2+1)).1],(bl ((bl (aN L 1 i).2).2+1)).2)else(.mk k [] 0 [(aN L 1 i).1,(bl (aN L 1 i).2).1],(bl (aN L 1 i).2).2+1))
  else(.mk k [] 0 [(aN L 1 i).1,(bl (aN L 1 i).2).1],(bl (aN L 1 i).2).2))
 else if k=13∨k=14∨k=17∨k=18 then(.mk k (iT L i) 0 [],i+1)
 else if k=15∨k=22 then(.mk k (iT L i) 0 [(aN L 1 (i+1)).1],(aN L 1 (i+1)).2)
 else if k=16∨k=23 then(.mk k (iT L i) 0 [.mk 33 (oN L (i+1)) 0 []],i+2)
 else if k=19 then(.mk k (oN L i) (2+jH L (i+1) 5) [],i+2)
 else if k=20 then(.mk k (oN L i) 0 [],i+1)
 else if k=21 then(.mk k [] (1+jH L i 9) [],i+1)
 else if k=25 then(.mk k [] (1+jH L i 99) [],i+1)
 else(.mk k [] 0 [(aN L 2 i).1],(aN L 2 i).2)
theorem mB{L:List Int}{d i:Nat}{bl:Nat→Nd×Nat}{k:Int}(hk:Jx L d i=k):Ct L d bl i=xY L bl k (i+1):=by subst hk;rfl
theorem wH{L:List Int}{d i:Nat}{k:Int}(hk:Jx L d i=k):9≤k∧k≤25∧(k=11∨k=12→0<d):=by
 subst hk
 have h:=bW L i 17 (by decide)
 unfold Jx
 split<;>omega
theorem PU{c:Prop}[Decidable c]{f:Nat→aX}{l:DV}{a b:Int}{x:Nat}(h:f 0=.box false [.d l,.d (aC b)]):
 bG f (if c then [(0,.box false [.d l,.d (aC a)])]else []) x=if x=0 then .box false [.d l,.d (aC (if c then a else b))]else f x:=by
 by_cases hc:c
 ·simp only[hc,if_true,bG,cN]
 ·simp only[hc,if_false,bG]
  split
  ·rename_i e;rw[e];exact h
  ·rfl
theorem Kl{L:List Int}{d i C:Nat}{bl:Nat→Nd×Nat}(hb:∀j,(bl j).2≤j+C):(Ct L d bl i).2≤i+40+2*C:=by
 rw[mB rfl]
 have v1:=fun j=>AR L 1 j
 have v2:=fun j=>AR L 2 j
 have pl:=AQ L (i+1)
 unfold xY
 have a1:=v1 (i+1)
 have a2:=v1 (i+2)
 have a3:=v2 (i+1)
 have a4:=v2 (i+2)
 have a5:=v2 (dQ L (i+1)).2
 have b1:=hb (aN L 1 (i+1)).2
 have b2:=hb ((bl (aN L 1 (i+1)).2).2+1)
 simp only[Nat.add_assoc,Nat.reduceAdd,Nat.reducePow,Nat.reduceMul]at*
 split
 ·simp only;omega
 ·split
  ·simp only;omega
  ·split
   ·split
    ·split<;>simp only<;>omega
    ·simp only;omega
   ·split
    ·simp only;omega
    ·split
     ·simp only;omega
     ·split
      ·simp only;omega
      ·split
       ·simp only;omega
       ·split
        ·simp only;omega
        ·split
         ·simp only;omega
         ·split<;>simp only<;>omega
set_option maxHeartbeats 1000000 in
theorem Fq(L:List Int)(d i:Nat)(bl:Nat→Nd×Nat)(hL:Ml L)(hll:L.length≤1000000)(m:Nat)(hi:i≤m)(hm:m≤1800000)(hd:d≤1000)(hB:∀e,d=e+1→Kk L 109 e (m+30000) bl)(hle:∀j,(bl j).2≤j+20000):qR Tryz.prog 56 [.bx 0 0,.d (aC (d:Nat))] (nG L i) (nG L (Ct L d bl i).2) (.d (Ct L d bl i).1.d):=by
 unfold nG
 refine qR.cell hT Tryz.func56 (by kernel_rfl) (c:=_) rfl Tryz.ntmps56 (by simp) Tryz.results56 fun w0 X hp=>?_
 refine oS.sy ?_
 simp
 refine oS.seq ?_
 have ha:=kO L i 17 hL (by omega) (by decide)
 have hr:=bW L i 17 (by decide)
 refine oS.ro hT hW (fun|8=>some (.gen ⟨[(0,0)],[],[],nG L (i+1),.d (aC (jH L i 17))⟩)|_=>none) ?_
 simp
 refine⟨by(repeat' with_reducible apply And.intro)<;>first|omega|(simpa using ha),?_⟩
 refine aO (ι:=KC) (fun⟨k⟩=>aY [(0,.bx 0 0),(1,.d (aC (d:Nat))),(4,.bx 4 0),(5,.bx 5 0)]) (fun⟨k⟩=>aK [(0,.box false [.d (.sl (L.map aC)),.d (aC ((i+1:Nat):Int))]),(4,.box false [.d (aC 0),.d (.str []),.d (aC 0),.nl]),(5,.box false [.d (aC k),.d (.str []),.d (aC 0),.nl])]) (fun⟨k⟩=>Jx L d i=k) ?_ fun⟨k⟩ hc4=>?_
 ·refine oS.sy ?_
  simp
  refine⟨fun a b=>⟨a,b⟩,?_⟩
  refine aB ?_
  simp
  refine⟨fun g1 g2=>?_,fun g=>?_⟩
  ·refine aL ?_
   simp
   refine Pg.mk ⟨24⟩ (aA [0,1,4,5] [(0,0),(4,4),(5,5)] (by decide) (by decide) (by simp[hp]) (by simp) (by simp)) ?_
   unfold Jx;rw[if_pos ⟨by omega,by omega⟩]
  ·refine oS.skip ?_
   simp
   refine Pg.mk ⟨9+jH L i 17⟩ (aA [0,1,4,5] [(0,0),(4,4),(5,5)] (by decide) (by decide) (by simp[hp]) (by simp) (by simp)) ?_
   unfold Jx;rw[if_neg (by omega)]
 ·refine aO (ι:=Vy) (fun⟨x,j⟩=>aY [(0,.bx 0 0),(1,.d (aC (d:Nat))),(4,.bx 4 0),(5,.bx 5 0)]) (fun⟨x,j⟩=>aK [(0,.box false [.d (.sl (L.map aC)),.d (aC (j:Nat))]),(4,.box false [.d (aC 0),.d (.str []),.d (aC 0),.nl]),(5,.box false [.d (aC x.kind),.d (.str x.text),.d (aC x.n),.d (ndsD x.kids)])]) (fun⟨x,j⟩=>Ct L d bl i=(x,j)) ?_ fun⟨x,j⟩ hc41=>?_
  ·refine oS.sy ?_
   simp
   refine oS.block ?_
   refine oS.sy ?_
   simp
   refine aB ?_
   simp
   refine⟨fun h5=>?_,fun h5=>?_⟩
   ·refine oS.seq ?_
    have hc6:=AP L (i+1) hL (by omega)
    refine oS.ro hT hW (fun|29=>some (.gen ⟨[(0,0)],[],[],nG L (i+2),.d (.str (oN L (i+1)))⟩)|_=>none) ?_
    simp
    refine⟨by simpa using hc6,?_⟩
    have hv:=vI L hL hll 2 (i+2) (by omega)
    refine oS.ro hT hW (fun|32=>some (.gen ⟨[(0,0)],[],[],nG L (aN L 2 (i+2)).2,.d (aN L 2 (i+2)).1.d⟩)|_=>none) ?_
    simp
    refine⟨by simpa using hv,?_⟩
    refine mQ (bN 5 [33] (fz:=false) (cs:=[.d (aC k),.d (.str (oN L (i+1))),.d (aC (0)),.ow 33 0 1]) (ds:=[aC k,.str (oN L (i+1)),aC (0),.sl [((aN L 2 (i+2)).1).d]]) (by simp) (by simp) (by simp) (by simp[aX.mut])) ?_
    simp
    refine Pg.mk ⟨.mk k (oN L (i+1)) (0) [(aN L 2 (i+2)).1],(aN L 2 (i+2)).2⟩ (aA [0,1,4,5] [(0,0),(4,4),(5,5)] (by decide) (by decide) (by simp[hp]) (by simp) (by simp)) ?_
    rw[mB hc4]
    unfold xY
    repeat(first|rw[if_pos (by omega)]|rw[if_neg (by omega)])
   ·refine oS.sy ?_
    simp
    refine aB ?_
    simp
    refine⟨fun h8=>?_,fun h8=>?_⟩
    ·refine oS.seq ?_
     have hpl:=Oo L (i+1) hL (by omega)
     have tpl:=AQ L (i+1)
     refine oS.ro hT hW (fun|38=>some (.gen ⟨[(0,0)],[],[],nG L (dQ L (i+1)).2,.d (dQ L (i+1)).1.d⟩)|_=>none) ?_
     simp
     refine⟨by simpa using hpl,?_⟩
     have hv:=vI L hL hll 2 (dQ L (i+1)).2 (by omega)
     refine aF hT hW bI (lk [[],[],[1],[0,1,2],[0,1,2,3],[0,1,2,3,4]]) (lk [[0],[],[],[],[],[]]) (lk [[],[],[0],[42],[],[5]]) (by kernel_rfl) (fun|41=>some (.gen ⟨[(0,0)],[],[],nG L (aN L 2 (dQ L (i+1)).2).2,.d (aN L 2 (dQ L (i+1)).2).1.d⟩)|_=>none) (by intro d;first|exact⟨rfl,fun _ h=>h⟩|(split<;>exact⟨rfl,fun _ h=>h⟩)) ?_
     simp
     refine⟨⟨by simpa using hv,by decide⟩,?_⟩
     refine mQ (bN 5 [42] (fz:=false) (cs:=[.d (aC k),.d (.str ([])),.d (aC (0)),.ow 42 0 2]) (ds:=[aC k,.str ([]),aC (0),.sl [((dQ L (i+1)).1).d,((aN L 2 (dQ L (i+1)).2).1).d]]) (by simp) (by simp) (by simp) (by simp[aX.mut])) ?_
     simp
     refine Pg.mk ⟨.mk k ([]) (0) [(dQ L (i+1)).1,(aN L 2 (dQ L (i+1)).2).1],(aN L 2 (dQ L (i+1)).2).2⟩ (aA [0,1,4,5] [(0,0),(4,4),(5,5)] (by decide) (by decide) (by simp[hp]) (by simp) (by simp)) ?_
     rw[mB hc4]
     unfold xY
     repeat(first|rw[if_pos (by omega)]|rw[if_neg (by omega)])
    ·refine aO (ι:=BC) (fun⟨b⟩=>aY [(0,.bx 0 0),(1,.d (aC (d:Nat))),(4,.bx 4 0),(5,.bx 5 0),(25,.d (aC (k))),(44,.d (.bool b))]) (fun⟨b⟩=>aK [(0,.box false [.d (.sl (L.map aC)),.d (aC ((i+1:Nat):Int))]),(4,.box false [.d (aC 0),.d (.str []),.d (aC 0),.nl]),(5,.box false [.d (aC k),.d (.str []),.d (aC 0),.nl])]) (fun⟨b⟩=>b=true↔(k=11∨k=12)) ?_ fun⟨b⟩ hc13=>?_
     ·refine oS.sy ?_
      simp
      refine aB ?_
      simp
      refine⟨fun h11=>?_,fun h11=>?_⟩
      ·refine oS.skip ?_
       simp
       refine Pg.mk ⟨decide (k=11)⟩ (aA [0,1,4,5,25,44] [(0,0),(4,4),(5,5)] (by decide) (by decide) (by simp[hp]) (by simp) (by simp)) ?_
       simp[h11]
      ·refine aL ?_
       simp
       refine Pg.mk ⟨decide (k=12)⟩ (aA [0,1,4,5,25,44] [(0,0),(4,4),(5,5)] (by decide) (by decide) (by simp[hp]) (by simp) (by simp)) ?_
       simp only[decide_eq_true_eq];omega
     ·refine aB ?_
      simp
      refine⟨fun h13=>?_,fun h13=>?_⟩
      ·have q13:=hc13.1 h13
       refine oS.seq ?_
       obtain⟨e,hde⟩:∃e,d=e+1:=⟨d-1,by have:=(wH hc4).2.2 q13;omega⟩
       have hBe:=hB e hde
       subst hde
       have hv:=vI L hL hll 1 (i+1) (by omega)
       have tv:=AR L 1 (i+1)
       obtain⟨a,ha1⟩:∃a,a=aN L 1 (i+1):=⟨_,rfl⟩
       rw[←ha1]at hv tv
       have hs1:=hBe a.2 (by omega)
       obtain⟨b,hb1⟩:∃b,b=bl a.2:=⟨_,rfl⟩
       have tb:=hle a.2
       rw[←hb1]at hs1 tb
       have hs2:=hBe (b.2+1) (by omega)
       obtain⟨c,hc1⟩:∃c,c=bl (b.2+1):=⟨_,rfl⟩
       rw[←hc1]at hs2
       have ht2:=kO L b.2 2 hL (by omega) (by decide)
       have ez:((e:Int)+1)- 1=e:=by omega
       refine oS.ro hT hW (fun|48=>some (.gen ⟨[(0,0)],[],[],nG L a.2,.d a.1.d⟩)|_=>none) ?_
       simp
       refine⟨by simpa using hv,?_⟩
       refine oS.seq ?_
       refine aF hT hW bI (lk [[],[0],[],[],[3],[2,3,4],[2,3,4,5],[0,1,2,3,4,5,6],[0,1,2,3,4,5,6,7],[0,1,2,3,4,5,6,7,8]]) (lk [[0,57],[0,57],[],[],[],[],[],[],[],[]]) (lk [[],[],[],[],[],[0],[57],[58,49],[],[5]]) (by kernel_rfl) (fun|56=>some (.gen ⟨[(0,0)],[],[],nG L b.2,.d b.1.d⟩)|_=>none) (by intro d;first|exact⟨rfl,fun _ h=>h⟩|(split<;>exact⟨rfl,fun _ h=>h⟩)) ?_
       simp[ez]
       refine⟨by(repeat' with_reducible apply And.intro)<;>first|omega|(simpa using hs1)|decide,?_⟩
       refine bY hT hW (fun|65=>some (.gen ⟨[(0,0)],[],[],nG L (b.2+1),.d (aC (jH L b.2 2))⟩)|_=>none) ?_
       simp[PU (b:=(b.2:Int))]
       refine⟨fun _=>by simpa using ht2,?_⟩
       refine aB ?_
       simp
       refine⟨fun g3 g4=>?_,fun g3=>?_⟩
       ·simp only[if_pos g3]
        refine aF hT hW bI (lk [[],[0],[],[],[3],[2,3,4],[2,3,4,5],[0,1,2,3,4,5,6],[0,1,2,3,4,5,6,7],[0,1,2,3,4,5,6,7,8]]) (lk [[0,74],[0,74],[],[],[],[],[],[],[],[]]) (lk [[],[],[],[],[],[0],[74],[75,58],[],[5]]) (by kernel_rfl) (fun|73=>some (.gen ⟨[(0,0)],[],[],nG L c.2,.d c.1.d⟩)|_=>none) (by intro d;first|exact⟨rfl,fun _ h=>h⟩|(split<;>exact⟨rfl,fun _ h=>h⟩)) ?_
        simp[ez]
        refine⟨by(repeat' with_reducible apply And.intro)<;>first|omega|(simpa using hs2)|decide,?_⟩
        refine mQ (bN 5 [75] (fz:=false) (cs:=[.d (aC k),.d (.str ([])),.d (aC (0)),.ow 75 0 3]) (ds:=[aC k,.str ([]),aC (0),.sl [(a.1).d,(b.1).d,(c.1).d]]) (by simp) (by simp) (by simp) (by simp[aX.mut])) ?_
        simp
        refine Pg.mk ⟨.mk k ([]) (0) [a.1,b.1,c.1],c.2⟩ (aA [0,1,4,5] [(0,0),(4,4),(5,5)] (by decide) (by decide) (by simp[hp]) (by simp) (by simp[g3])) ?_
        rw[mB hc4]
        unfold xY
        rw[←ha1,←hb1,←hc1,if_neg (by omega),if_neg (by omega),if_pos (by omega),if_pos g3,if_pos g4]
       ·refine oS.skip ?_
        simp
        refine mQ (bN 5 [58] (fz:=false) (cs:=[.d (aC k),.d (.str ([])),.d (aC (0)),.ow 58 0 2]) (ds:=[aC k,.str ([]),aC (0),.sl [(a.1).d,(b.1).d]]) (by simp) (by simp) (by simp) (by simp[aX.mut])) ?_
        simp
        refine Pg.mk ⟨.mk k ([]) (0) [a.1,b.1],if k=11 then b.2+1 else b.2⟩ (aA [0,1,4,5] [(0,0),(4,4),(5,5)] (by decide) (by decide) (by simp[hp]) (by simp) (by by_cases hk:k=11<;>simp[hk])) ?_
        rw[mB hc4]
        unfold xY
        rw[←ha1,←hb1]
        by_cases hk:k=11
        ·rw[if_neg (by omega),if_neg (by omega),if_pos (by omega),if_pos hk,if_neg (g3 hk)]
         simp[hk]
        ·rw[if_neg (by omega),if_neg (by omega),if_pos (by omega),if_neg hk]
         simp[hk]
      ·have q13:¬(k=11∨k=12):=fun q=>by simp[hc13.2 q]at h13
       refine aO (ι:=BC) (fun⟨b⟩=>aY [(0,.bx 0 0),(1,.d (aC (d:Nat))),(4,.bx 4 0),(5,.bx 5 0),(25,.d (aC (k))),(77,.d (.bool b))]) (fun⟨b⟩=>aK [(0,.box false [.d (.sl (L.map aC)),.d (aC ((i+1:Nat):Int))]),(4,.box false [.d (aC 0),.d (.str []),.d (aC 0),.nl]),(5,.box false [.d (aC k),.d (.str []),.d (aC 0),.nl])]) (fun⟨b⟩=>b=true↔(k=13∨k=14∨k=17∨k=18)) ?_ fun⟨b⟩ hc21=>?_
       ·refine oS.sy ?_
        simp
        refine aB ?_
        simp
        refine⟨fun h17=>?_,fun h17=>?_⟩
        ·refine oS.skip ?_
         simp
         refine Pg.mk ⟨decide (k=13)⟩ (aA [0,1,4,5,25,77] [(0,0),(4,4),(5,5)] (by decide) (by decide) (by simp[hp]) (by simp) (by simp)) ?_
         simp[h17]
        ·refine oS.sy ?_
         simp
         refine aB ?_
         simp
         refine⟨fun h18=>?_,fun h18=>?_⟩
         ·refine oS.skip ?_
          simp
          refine Pg.mk ⟨decide (k=14)⟩ (aA [0,1,4,5,25,77] [(0,0),(4,4),(5,5)] (by decide) (by decide) (by simp[hp]) (by simp) (by simp)) ?_
          simp[h18]
         ·refine oS.sy ?_
          simp
          refine aB ?_
          simp
          refine⟨fun h19=>?_,fun h19=>?_⟩
          ·refine oS.skip ?_
           simp
           refine Pg.mk ⟨decide (k=17)⟩ (aA [0,1,4,5,25,77] [(0,0),(4,4),(5,5)] (by decide) (by decide) (by simp[hp]) (by simp) (by simp)) ?_
           simp[h19]
          ·refine aL ?_
           simp
           refine Pg.mk ⟨decide (k=18)⟩ (aA [0,1,4,5,25,77] [(0,0),(4,4),(5,5)] (by decide) (by decide) (by simp[hp]) (by simp) (by simp)) ?_
           simp only[decide_eq_true_eq];omega
       ·refine aB ?_
        simp
        refine⟨fun h21=>?_,fun h21=>?_⟩
        ·have q21:=hc21.1 h21
         have hc6:=oB L (i+1) hL (by omega)
         refine oS.ro hT hW (fun|83=>some (.gen ⟨[(0,0)],[],[],nG L (i+2),.d (.str (iT L (i+1)))⟩)|_=>none) ?_
         simp
         refine⟨by simpa using hc6,?_⟩
         refine mQ (bN 5 [] (fz:=false) (cs:=[.d (aC k),.d (.str (iT L (i+1))),.d (aC (0)),.nl]) (ds:=[aC k,.str (iT L (i+1)),aC (0),.sl []]) (by simp) (by simp) (by simp) (by simp[aX.mut])) ?_
         simp
         refine Pg.mk ⟨.mk k (iT L (i+1)) (0) [],i+2⟩ (aA [0,1,4,5] [(0,0),(4,4),(5,5)] (by decide) (by decide) (by simp[hp]) (by simp) (by simp)) ?_
         rw[mB hc4]
         unfold xY
         repeat(first|rw[if_pos (by omega)]|rw[if_neg (by omega)])
        ·have q21:¬(k=13∨k=14∨k=17∨k=18):=fun q=>by simp[hc21.2 q]at h21
         refine aO (ι:=BC) (fun⟨b⟩=>aY [(0,.bx 0 0),(1,.d (aC (d:Nat))),(4,.bx 4 0),(5,.bx 5 0),(25,.d (aC (k))),(85,.d (.bool b))]) (fun⟨b⟩=>aK [(0,.box false [.d (.sl (L.map aC)),.d (aC ((i+1:Nat):Int))]),(4,.box false [.d (aC 0),.d (.str []),.d (aC 0),.nl]),(5,.box false [.d (aC k),.d (.str []),.d (aC 0),.nl])]) (fun⟨b⟩=>b=true↔(k=15∨k=22)) ?_ fun⟨b⟩ hc24=>?_
         ·refine oS.sy ?_
          simp
          refine aB ?_
          simp
          refine⟨fun h22=>?_,fun h22=>?_⟩
          ·refine oS.skip ?_
           simp
           refine Pg.mk ⟨decide (k=15)⟩ (aA [0,1,4,5,25,85] [(0,0),(4,4),(5,5)] (by decide) (by decide) (by simp[hp]) (by simp) (by simp)) ?_
           simp[h22]
          ·refine aL ?_
           simp
           refine Pg.mk ⟨decide (k=22)⟩ (aA [0,1,4,5,25,85] [(0,0),(4,4),(5,5)] (by decide) (by decide) (by simp[hp]) (by simp) (by simp)) ?_
           simp only[decide_eq_true_eq];omega
         ·refine aB ?_
          simp
          refine⟨fun h24=>?_,fun h24=>?_⟩
          ·have q24:=hc24.1 h24
           refine oS.seq ?_
           have hc6:=oB L (i+1) hL (by omega)
           refine oS.ro hT hW (fun|89=>some (.gen ⟨[(0,0)],[],[],nG L (i+2),.d (.str (iT L (i+1)))⟩)|_=>none) ?_
           simp
           refine⟨by simpa using hc6,?_⟩
           have hv:=vI L hL hll 1 (i+2) (by omega)
           refine oS.ro hT hW (fun|92=>some (.gen ⟨[(0,0)],[],[],nG L (aN L 1 (i+2)).2,.d (aN L 1 (i+2)).1.d⟩)|_=>none) ?_
           simp
           refine⟨by simpa using hv,?_⟩
           refine mQ (bN 5 [93] (fz:=false) (cs:=[.d (aC k),.d (.str (iT L (i+1))),.d (aC (0)),.ow 93 0 1]) (ds:=[aC k,.str (iT L (i+1)),aC (0),.sl [((aN L 1 (i+2)).1).d]]) (by simp) (by simp) (by simp) (by simp[aX.mut])) ?_
           simp
           refine Pg.mk ⟨.mk k (iT L (i+1)) (0) [(aN L 1 (i+2)).1],(aN L 1 (i+2)).2⟩ (aA [0,1,4,5] [(0,0),(4,4),(5,5)] (by decide) (by decide) (by simp[hp]) (by simp) (by simp)) ?_
           rw[mB hc4]
           unfold xY
           repeat(first|rw[if_pos (by omega)]|rw[if_neg (by omega)])
          ·have q24:¬(k=15∨k=22):=fun q=>by simp[hc24.2 q]at h24
           refine aO (ι:=BC) (fun⟨b⟩=>aY [(0,.bx 0 0),(1,.d (aC (d:Nat))),(4,.bx 4 0),(5,.bx 5 0),(25,.d (aC (k))),(95,.d (.bool b))]) (fun⟨b⟩=>aK [(0,.box false [.d (.sl (L.map aC)),.d (aC ((i+1:Nat):Int))]),(4,.box false [.d (aC 0),.d (.str []),.d (aC 0),.nl]),(5,.box false [.d (aC k),.d (.str []),.d (aC 0),.nl])]) (fun⟨b⟩=>b=true↔(k=16∨k=23)) ?_ fun⟨b⟩ hc28=>?_
           ·refine oS.sy ?_
            simp
            refine aB ?_
            simp
            refine⟨fun h26=>?_,fun h26=>?_⟩
            ·refine oS.skip ?_
             simp
             refine Pg.mk ⟨decide (k=16)⟩ (aA [0,1,4,5,25,95] [(0,0),(4,4),(5,5)] (by decide) (by decide) (by simp[hp]) (by simp) (by simp)) ?_
             simp[h26]
            ·refine aL ?_
             simp
             refine Pg.mk ⟨decide (k=23)⟩ (aA [0,1,4,5,25,95] [(0,0),(4,4),(5,5)] (by decide) (by decide) (by simp[hp]) (by simp) (by simp)) ?_
             simp only[decide_eq_true_eq];omega
           ·refine aB ?_
            simp
            refine⟨fun h28=>?_,fun h28=>?_⟩
            ·have q28:=hc28.1 h28
             refine oS.seq ?_
             have hc6:=oB L (i+1) hL (by omega)
             refine oS.ro hT hW (fun|99=>some (.gen ⟨[(0,0)],[],[],nG L (i+2),.d (.str (iT L (i+1)))⟩)|_=>none) ?_
             simp
             refine⟨by simpa using hc6,?_⟩
             have hc7:=AP L (i+2) hL (by omega)
             refine oS.ro hT hW (fun|102=>some (.gen ⟨[(0,0)],[],[],nG L (i+3),.d (.str (oN L (i+2)))⟩)|_=>none) ?_
             simp
             refine⟨by simpa using hc7,?_⟩
             refine mQ (bN 5 [104] (fz:=false) (cs:=[.d (aC k),.d (.str (iT L (i+1))),.d (aC (0)),.ow 104 0 1]) (ds:=[aC k,.str (iT L (i+1)),aC (0),.sl [(Nd.mk 33 (oN L (i+2)) 0 []).d]]) (by simp) (by simp) (by simp) (by simp[aX.mut])) ?_
             simp
             refine Pg.mk ⟨.mk k (iT L (i+1)) (0) [Nd.mk 33 (oN L (i+2)) 0 []],i+3⟩ (aA [0,1,4,5] [(0,0),(4,4),(5,5)] (by decide) (by decide) (by simp[hp]) (by simp) (by simp)) ?_
             rw[mB hc4]
             unfold xY
             repeat(first|rw[if_pos (by omega)]|rw[if_neg (by omega)])
            ·have q28:¬(k=16∨k=23):=fun q=>by simp[hc28.2 q]at h28
             refine oS.sy ?_
             simp
             refine aB ?_
             simp
             refine⟨fun h30=>?_,fun h30=>?_⟩
             ·refine oS.seq ?_
              have hc6:=AP L (i+1) hL (by omega)
              refine oS.ro hT hW (fun|109=>some (.gen ⟨[(0,0)],[],[],nG L (i+2),.d (.str (oN L (i+1)))⟩)|_=>none) ?_
              simp
              refine⟨by simpa using hc6,?_⟩
              have hc7:=kO L (i+2) 5 hL (by omega) (by decide)
              have hr7:=bW L ((i:Int)+2) 5 (by decide)
              refine oS.ro hT hW (fun|112=>some (.gen ⟨[(0,0)],[],[],nG L (i+3),.d (aC (jH L ((i:Int)+2) 5))⟩)|_=>none) ?_
              simp
              refine⟨⟨by simpa using hc7,by omega⟩,?_⟩
              refine mQ (bN 5 [] (fz:=false) (cs:=[.d (aC k),.d (.str (oN L (i+1))),.d (aC (2+jH L ((i:Int)+2) 5)),.nl]) (ds:=[aC k,.str (oN L (i+1)),aC (2+jH L ((i:Int)+2) 5),.sl []]) (by simp) (by simp) (by simp) (by simp[aX.mut])) ?_
              simp
              refine Pg.mk ⟨.mk k (oN L (i+1)) (2+jH L ((i:Int)+2) 5) [],i+3⟩ (aA [0,1,4,5] [(0,0),(4,4),(5,5)] (by decide) (by decide) (by simp[hp]) (by simp) (by simp)) ?_
              rw[mB hc4]
              unfold xY
              repeat(first|rw[if_pos (by omega)]|rw[if_neg (by omega)])
              simp
             ·refine oS.sy ?_
              simp
              refine aB ?_
              simp
              refine⟨fun h33=>?_,fun h33=>?_⟩
              ·have hc6:=AP L (i+1) hL (by omega)
               refine oS.ro hT hW (fun|118=>some (.gen ⟨[(0,0)],[],[],nG L (i+2),.d (.str (oN L (i+1)))⟩)|_=>none) ?_
               simp
               refine⟨by simpa using hc6,?_⟩
               refine mQ (bN 5 [] (fz:=false) (cs:=[.d (aC k),.d (.str (oN L (i+1))),.d (aC (0)),.nl]) (ds:=[aC k,.str (oN L (i+1)),aC (0),.sl []]) (by simp) (by simp) (by simp) (by simp[aX.mut])) ?_
               simp
               refine Pg.mk ⟨.mk k (oN L (i+1)) (0) [],i+2⟩ (aA [0,1,4,5] [(0,0),(4,4),(5,5)] (by decide) (by decide) (by simp[hp]) (by simp) (by simp)) ?_
               rw[mB hc4]
               unfold xY
               repeat(first|rw[if_pos (by omega)]|rw[if_neg (by omega)])
              ·refine oS.sy ?_
               simp
               refine aB ?_
               simp
               refine⟨fun h35=>?_,fun h35=>?_⟩
               ·have hc7:=kO L (i+1) 9 hL (by omega) (by decide)
                have hr7:=bW L ((i:Int)+1) 9 (by decide)
                refine oS.ro hT hW (fun|123=>some (.gen ⟨[(0,0)],[],[],nG L (i+2),.d (aC (jH L ((i:Int)+1) 9))⟩)|_=>none) ?_
                simp
                refine⟨⟨by simpa using hc7,by omega⟩,?_⟩
                refine mQ (bN 5 [] (fz:=false) (cs:=[.d (aC k),.d (.str ([])),.d (aC (1+jH L ((i:Int)+1) 9)),.nl]) (ds:=[aC k,.str ([]),aC (1+jH L ((i:Int)+1) 9),.sl []]) (by simp) (by simp) (by simp) (by simp[aX.mut])) ?_
                simp
                refine Pg.mk ⟨.mk k ([]) (1+jH L ((i:Int)+1) 9) [],i+2⟩ (aA [0,1,4,5] [(0,0),(4,4),(5,5)] (by decide) (by decide) (by simp[hp]) (by simp) (by simp)) ?_
                rw[mB hc4]
                unfold xY
                repeat(first|rw[if_pos (by omega)]|rw[if_neg (by omega)])
                simp
               ·refine oS.sy ?_
                simp
                refine aB ?_
                simp
                refine⟨fun h37=>?_,fun h37=>?_⟩
                ·have hc7:=kO L (i+1) 99 hL (by omega) (by decide)
                 have hr7:=bW L ((i:Int)+1) 99 (by decide)
                 refine oS.ro hT hW (fun|129=>some (.gen ⟨[(0,0)],[],[],nG L (i+2),.d (aC (jH L ((i:Int)+1) 99))⟩)|_=>none) ?_
                 simp
                 refine⟨⟨by simpa using hc7,by omega⟩,?_⟩
                 refine mQ (bN 5 [] (fz:=false) (cs:=[.d (aC k),.d (.str ([])),.d (aC (1+jH L ((i:Int)+1) 99)),.nl]) (ds:=[aC k,.str ([]),aC (1+jH L ((i:Int)+1) 99),.sl []]) (by simp) (by simp) (by simp) (by simp[aX.mut])) ?_
                 simp
                 refine Pg.mk ⟨.mk k ([]) (1+jH L ((i:Int)+1) 99) [],i+2⟩ (aA [0,1,4,5] [(0,0),(4,4),(5,5)] (by decide) (by decide) (by simp[hp]) (by simp) (by simp)) ?_
                 rw[mB hc4]
                 unfold xY
                 repeat(first|rw[if_pos (by omega)]|rw[if_neg (by omega)])
                 simp
                ·refine oS.seq ?_
                 have hk24:k=24:=by have:=wH hc4;omega
                 subst hk24
                 refine aL ?_
                 simp
                 refine aB ?_
                 simp
                 have hv:=vI L hL hll 2 (i+1) (by omega)
                 refine oS.ro hT hW (fun|135=>some (.gen ⟨[(0,0)],[],[],nG L (aN L 2 (i+1)).2,.d (aN L 2 (i+1)).1.d⟩)|_=>none) ?_
                 simp
                 refine⟨by simpa using hv,?_⟩
                 refine mQ (bN 5 [136] (fz:=false) (cs:=[.d (aC 24),.d (.str ([])),.d (aC (0)),.ow 136 0 1]) (ds:=[aC 24,.str ([]),aC (0),.sl [((aN L 2 (i+1)).1).d]]) (by simp) (by simp) (by simp) (by simp[aX.mut])) ?_
                 simp
                 refine Pg.mk ⟨.mk 24 ([]) (0) [(aN L 2 (i+1)).1],(aN L 2 (i+1)).2⟩ (aA [0,1,4,5] [(0,0),(4,4),(5,5)] (by decide) (by decide) (by simp[hp]) (by simp) (by simp)) ?_
                 rw[mB hc4]
                 unfold xY
                 repeat(first|rw[if_pos (by omega)]|rw[if_neg (by omega)])
  ·refine oS.sy ?_
   simp
   refine oS.ret ?_
   simp
   refine aU (x:=(Ct L d bl i).1.d) (by simp[hc41]) ?_
   simp
   exact aA [0] [(0,0)] (by decide) (by decide) (by simp[hp]) (by simp) (by simp[hc41])
theorem HL{L:List Int}{st:Nat→Nd×Nat}{C:Nat}(h:∀j,(st j).2≤j+C):∀(m:Nat) (ks:List Nd) (j:Nat),(kM L st m ks j).2≤j+m*C
 |0,ks,j=>by simp[kM]
 |m+1,ks,j=>by
  unfold kM
  split
  ·simp
  ·have a:=HL (L:=L) h m (ks++[(st j).1]) (st j).2
   have b:=h j
   rw[Nat.succ_mul]
   omega
theorem Km{L:List Int}{st:Nat→Nd×Nat}{C:Nat}(h:∀j,(st j).2≤j+C)(i:Nat):(tZ L st i).2≤i+1+3*C:=by
 have hr:=bW L i 4 (by decide)
 have a:=HL (L:=L) h (jH L i 4).toNat [] (i+1)
 have b:(jH L i 4).toNat*C≤3*C:=Nat.mul_le_mul_right C (by omega)
 show(kM L st (jH L i 4).toNat [] (i+1)).2≤_
 omega
def DR:Nat→Nat
 |0=>40
 |d+1=>40+2*(1+3*DR d)
theorem Gh(L:List Int):∀d i,(nX L d i).2≤i+DR d
 |0,i=>by
  have h:∀j:Nat,((fun _=>default:Nat→Nd×Nat) j).2≤j+0:=fun j=>Nat.zero_le _
  have:=Kl (L:=L) (d:=0) (i:=i) h
  rw[nX]
  simp only[DR]
  omega
 |d+1,i=>by
  have h:=fun j=>Km (L:=L) (Gh L d) j
  have:=Kl (L:=L) (d:=d+1) (i:=i) (bl:=tZ L (nX L d)) (C:=1+3*DR d) fun j=>by have:=h j;omega
  rw[nX]
  simp only[DR]
  omega
theorem HM{d:Nat}(h:d≤2):DR d≤2000:=by
 have:∀d:Nat,d<3→DR d≤2000:=by decide
 exact this d (by omega)
theorem Kn(L:List Int)(hL:Ml L)(hll:L.length≤1000000):∀(d:Nat),d≤2→∀b,b+70000*d≤1800000→Kk L 56 d b (nX L d)
 |0,_,b,hb=>fun j hj=>Fq L 0 j (fun _=>default) hL hll b hj (by omega) (by omega) (fun e he=>by omega) fun j=>by show 0≤j+20000;omega
 |d+1,hd,b,hb=>fun j hj=>by
  have hst:=HM (d:=d) (by omega)
  have hle:=fun j=>Km (L:=L) (Gh L d) j
  obtain⟨c,hc⟩:∃c,c=b+30000:=⟨_,rfl⟩
  have h1:=Kn L hL hll d (by omega) (c+40000) (by omega)
  have h2:Kk L 109 d c (tZ L (nX L d)):=fun i hi=>Jw L d i (nX L d) hL hll c hi (by omega) h1 fun j=>by have:=Gh L d j;omega
  refine Fq L (d+1) j (tZ L (nX L d)) hL hll b hj (by omega) (by omega) (fun e he=>?_) fun j=>?_
  ·have:e=d:=by omega
   rw[this,←hc]
   exact h2
  ·have:=hle j
   omega
end
open Go.Proofs
section
attribute[local simp] oZ.cond Nd.d_eq nd_t nd_dr nd_td ndsD bJ eP pY Int.add_assoc eC Cf Cg Ch HA nG
theorem Ot(l:List Int):List.take (if(48:Int)<(l.length:Int)then 48 else(l.length:Int)).toNat (l.map aC)=(l.take 48).map aC:=by
 rw[←List.map_take]
 congr 1
 split
 ·rfl
 ·rw[show((l.length:Int)).toNat=l.length from rfl,List.take_length,List.take_of_length_le (by omega)]
theorem PV{L:List Int}:(kJ.map aC)[(jH L 0 10).toNat]?.getD default=aC (kJ.getD (jH L 0 10).toNat 0):=by
 have h:=bW L 0 10 (by decide)
 have hk:(jH L 0 10).toNat<kJ.length:=by show _<10;omega
 rw[List.getElem?_map,List.getElem?_eq_getElem hk]
 simp[List.getD_eq_getElem?_getD,hk]
theorem Ou{L:List Int}:0≤kJ.getD (jH L 0 10).toNat 0∧kJ.getD (jH L 0 10).toNat 0≤6:=by
 have h:=bW L 0 10 (by decide)
 have key:∀n:Nat,n<10→0≤kJ.getD n 0∧kJ.getD n 0≤6:=by decide
 exact key _ (by omega)
theorem DS(L:List Int)(i:Nat):i+2≤(dQ L i).2:=by unfold dQ;split<;>simp
theorem xZ(L:List Int):∀(d i:Nat),i+1≤(aN L d i).2:=fun d=>by
 induction d with
 |zero=>
  intro i
  obtain⟨r0,_,r2⟩:=lZ L 0 i
  have r2:=r2 rfl
  by_cases h0:dU L 0 i=0∨dU L 0 i=1
  ·rw[oG h0];simp
  ·by_cases h1:dU L 0 i=2
   ·rw[oH h1];simp
   ·by_cases h2:dU L 0 i=3∨dU L 0 i=4
    ·rw[lV h2];have:=DS L (i+1);omega
    ·rw[mS (by omega)];simp
 |succ e ih=>
  intro i
  obtain⟨r0,_,_⟩:=lZ L (e+1) i
  by_cases h0:dU L (e+1) i=0∨dU L (e+1) i=1
  ·rw[oG h0];simp
  ·by_cases h1:dU L (e+1) i=2
   ·rw[oH h1];simp
   ·by_cases h3:dU L (e+1) i=3∨dU L (e+1) i=4
    ·rw[lV h3];have:=DS L (i+1);omega
    ·by_cases h4:dU L (e+1) i=5
     ·rw[mS h4];simp
     ·rw[vH (by omega)]
      have a:=ih (i+1)
      have b:=ih (aN L e (i+1)).2
      simp only
      omega
theorem Ko{L:List Int}{d i:Nat}{bl:Nat→Nd×Nat}(hb:0<d→∀j,j≤(bl j).2):i+1≤(Ct L d bl i).2:=by
 rw[mB rfl]
 have hk:=wH (L:=L) (d:=d) (i:=i) rfl
 have pl:=DS L (i+1)
 have a1:=xZ L 1 (i+1)
 have a2:=xZ L 1 (i+2)
 have a3:=xZ L 2 (i+1)
 have a4:=xZ L 2 (i+2)
 have a5:=xZ L 2 (dQ L (i+1)).2
 unfold xY
 simp only[Nat.add_assoc,Nat.reduceAdd]at*
 split
 ·simp only;omega
 ·split
  ·simp only;omega
  ·split
   ·rename_i h
    have hb:=hb (hk.2.2 h)
    have b1:=hb (aN L 1 (i+1)).2
    have b2:=hb ((bl (aN L 1 (i+1)).2).2+1)
    split
    ·split<;>simp only<;>omega
    ·simp only;omega
   ·repeat(first|(simp only;omega)|split)
theorem HN{L:List Int}{st:Nat→Nd×Nat}(h:∀j,j≤(st j).2):∀(m:Nat) (ks:List Nd) (j:Nat),j≤(kM L st m ks j).2
 |0,ks,j=>Nat.le_refl _
 |m+1,ks,j=>by
  unfold kM
  split
  ·exact Nat.le_refl _
  ·have a:=HN (L:=L) h m (ks++[(st j).1]) (st j).2
   have b:=h j
   omega
theorem Ow(L:List Int):∀d i,i+1≤(nX L d i).2
 |0,i=>by rw[nX];exact Ko fun h=>absurd h (Nat.lt_irrefl _)
 |d+1,i=>by
  rw[nX]
  refine Ko fun _ j=>?_
  have:=HN (L:=L) (st:=nX L d) (fun j=>by have:=Ow L d j;omega) (jH L j 4).toNat [] (j+1)
  show j≤(kM L (nX L d) (jH L j 4).toNat [] (j+1)).2
  omega
theorem Ox{L:List Int}{m:Nat}{ks:List Nd}{j:Nat}(h:L.length≤j):rQ L m ks j=ks:=by
 cases m with
 |zero=>rfl
 |succ m=>unfold rQ;rw[if_pos h]
theorem PW{L:List Int}{m:Nat}{ks:List Nd}{j:Nat}(h0:0<m)(h:j<L.length):rQ L m ks j=rQ L (m-1) (ks++[(nX L 2 j).1]) (nX L 2 j).2:=by
 obtain⟨k,rfl⟩:∃k,m=k+1:=⟨m-1,by omega⟩
 rw[rQ,if_neg (by omega)]
 rfl
theorem uD(L:List Int):∀c,(qI L c).length=c
 |0=>rfl
 |c+1=>by rw[qI,List.length_append,uD L c];rfl
structure Vz where
 x:Nd
structure VA where
 c:Nat
section
variable{L:List Int} {k:Int} {t:aR} (hk:kJ.getD (jH L 0 10).toNat 0=k) (ht:iT L 1=t)
include hk ht
theorem Oy(h:k=0):sV L=.mk k t (jH L 2 1999-999) []:=by subst hk ht;unfold sV;simp only[];rw[if_pos h]
theorem LQ(h:k=2):sV L=.mk k t (jH L 2 4) []:=by subst hk ht;unfold sV;simp only[];rw[if_neg (by omega),if_pos h]
theorem Oz(h:k=1):sV L=.mk k t 0 (qI L (jH L 2 4).toNat):=by subst hk ht;unfold sV;simp only[];rw[if_neg (by omega),if_neg (by omega),if_pos h]
theorem LR(h:k=5∨k=6):sV L=.mk k t 0 [.mk 8 [] 0 (rQ L L.length [] 2)]:=by subst hk ht;unfold sV;simp only[];rw[if_neg (by omega),if_neg (by omega),if_neg (by omega),if_pos h]
theorem LS(h0:¬k=0)(h1:¬k=2)(h2:¬k=1)(h3:¬(k=5∨k=6)):sV L=.mk k t 0 []:=by subst hk ht;unfold sV;simp only[];rw[if_neg h0,if_neg h1,if_neg h2,if_neg h3]
end
set_option maxHeartbeats 1000000 in
theorem OA(l:List Int)(hl:Ml l):Ok Tryz.prog 14 [.sl (l.map aC)] ⟨.d (wM l).d,false⟩:=by
 refine Ok.cell hT Tryz.func14 (by kernel_rfl) (c:=_) rfl Tryz.ntmps14 (by simp) Tryz.results14 (by intro _ h;cases h) fun w0 X hp=>?_
 obtain⟨L,hLl⟩:∃L,L=l.take 48:=⟨_,rfl⟩
 have hL:Ml L:=fun n hn=>hl n (by rw[hLl]at hn;exact List.mem_of_mem_take hn)
 have hll:L.length≤48:=by rw[hLl,List.length_take];omega
 have htr:wM l=sV L:=by rw[hLl];rfl
 refine oS.sy ?_
 simp
 refine oS.sy ?_
 simp[Ot,←hLl]
 refine⟨by split<;>omega,?_⟩
 refine oS.seq ?_
 have ha:=kO L 0 10 hL (by omega) (by decide)
 have hr:=bW L 0 10 (by decide)
 have hc:=oB L 1 hL (by omega)
 have hka:=PV (L:=L)
 have hkr:=Ou (L:=L)
 simp[kJ]at hka
 obtain⟨k,hk⟩:∃k,kJ.getD (jH L 0 10).toNat 0=k:=⟨_,rfl⟩
 obtain⟨t,ht⟩:∃t,iT L 1=t:=⟨_,rfl⟩
 refine aF hT hW bI (lk [[],[],[1],[0,1,2],[0,1,2,3],[],[1,2,5],[0,1,2,3,4,5,6],[],[0,1,2,3,4,5,6,7,8]]) (lk [[4,15],[4,16],[4,16],[4,15],[4,15],[4,15,16],[4,16],[4],[15,16],[]]) (lk [[16],[],[15],[],[],[],[15],[],[4],[4]]) (by kernel_rfl) (fun|18=>some (.gen ⟨[(15,0)],[],[],nG L 1,.d (aC (jH L 0 10))⟩)|22=>some (.gen ⟨[(15,0)],[],[],nG L 2,.d (.str t)⟩)|_=>none) (by intro d;first|exact⟨rfl,fun _ h=>h⟩|(split<;>exact⟨rfl,fun _ h=>h⟩)) ?_
 simp[hka]
 rw[hk]at hkr
 rw[ht]at hc
 refine⟨⟨⟨⟨⟨by decide,by simpa using ha⟩,by omega⟩,by omega⟩,by simpa using hc⟩,?_⟩
 have hk':[5,6,5,6,5,0,1,2,3,4][(jH L 0 10).toNat]?.getD 0=k:=by rw[←hk];simp[kJ]
 simp only[hk']
 refine aO (ι:=Vz) (fun⟨x⟩=>aY [(2,.bx 2 0),(4,.bx 4 0)]) (fun⟨x⟩=>aK [(2,.box false [.d (aC 0),.d (.str []),.d (aC 0),.nl]),(4,.box false [.d (aC x.kind),.d (.str x.text),.d (aC x.n),.d (ndsD x.kids)])]) (fun⟨x⟩=>sV L=x) ?_ fun⟨x⟩ hc21=>?_
 ·refine oS.sy ?_
  simp
  refine oS.block ?_
  refine oS.sy ?_
  simp
  refine aB ?_
  simp
  refine⟨fun h4=>?_,fun h4=>?_⟩
  ·have h5a:=kO L 2 1999 hL (by omega) (by decide)
   have h5r:=bW L 2 1999 (by decide)
   refine oS.ro hT hW (fun|29=>some (.gen ⟨[(15,0)],[],[],nG L 3,.d (aC (jH L 2 1999))⟩)|_=>none) ?_
   simp
   refine⟨⟨by simpa using h5a,by omega⟩,?_⟩
   refine mQ (bN 4 [] (fz:=false) (cs:=[.d (aC k),.d (.str t),.d (aC (jH L 2 1999-999)),.nl]) (ds:=[aC k,.str t,aC (jH L 2 1999-999),.sl []]) (by simp) (by simp) (by simp) (by simp[aX.mut])) ?_
   simp
   refine Pg.mk ⟨.mk k t (jH L 2 1999-999) []⟩ (aA [2,4] [(2,2),(4,4)] (by decide) (by decide) (by simp[hp]) (by simp) (by simp)) ?_
   exact Oy hk ht h4
  ·refine oS.sy ?_
   simp
   refine aB ?_
   simp
   refine⟨fun h6=>?_,fun h6=>?_⟩
   ·have h5a:=kO L 2 4 hL (by omega) (by decide)
    refine oS.ro hT hW (fun|35=>some (.gen ⟨[(15,0)],[],[],nG L 3,.d (aC (jH L 2 4))⟩)|_=>none) ?_
    simp
    refine⟨by simpa using h5a,?_⟩
    refine mQ (bN 4 [] (fz:=false) (cs:=[.d (aC k),.d (.str t),.d (aC (jH L 2 4)),.nl]) (ds:=[aC k,.str t,aC (jH L 2 4),.sl []]) (by simp) (by simp) (by simp) (by simp[aX.mut])) ?_
    simp
    refine Pg.mk ⟨.mk k t (jH L 2 4) []⟩ (aA [2,4] [(2,2),(4,4)] (by decide) (by decide) (by simp[hp]) (by simp) (by simp)) ?_
    exact LQ hk ht h6
   ·refine oS.sy ?_
    simp
    refine aB ?_
    simp
    refine⟨fun h8=>?_,fun h8=>?_⟩
    ·refine oS.seq ?_
     have h5a:=kO L 2 4 hL (by omega) (by decide)
     have h5r:=bW L 2 4 (by decide)
     obtain⟨m,hm9⟩:∃m:Nat,(jH L 2 4).toNat=m:=⟨_,rfl⟩
     have hm9i:jH L 2 4=(m:Int):=by omega
     refine oS.ro hT hW (fun|40=>some (.gen ⟨[(15,0)],[],[],nG L 3,.d (aC (m:Nat))⟩)|_=>none) ?_
     simp
     refine⟨by simpa [hm9i]using h5a,?_⟩
     refine pO (fz:=false) (cs:=[.d (aC k),.d (.str t),.d (aC 0),.nl]) 4 3 1056 4 (by decide) ⟨by simp,by simp,by simp,?_⟩
     simp
     refine oS.sy ?_
     simp
     refine oS.block ?_
     refine cA (ι:=VA) (fun⟨c⟩=>aY [(2,.bx 2 0),(3,.bx 15 0),(4,.bx 4 0),(5,.d (aC (m:Nat))),(6,.d (aC (c:Nat)))]) (fun⟨c⟩=>aK [(2,.box false [.d (aC 0),.d (.str []),.d (aC 0),.nl]),(4,.box false [.d (aC k),.d (.str t),.d (aC 0),.ow 1056 0 c]),(15,.box false [.d (.sl (L.map aC)),.d (aC ((3+2*c:Nat):Int))]),(1056,.row false 4 ((qI L c).map Nd.d))]) (fun⟨c⟩=>c≤m) (fun⟨c⟩=>m-c) ⟨0⟩ (aA [2,3,4,5,6] [(2,2),(4,4),(15,15),(1056,1056)] (by decide) (by decide) (by simp[hp]) (by simp) (by simp[qI])) (Nat.zero_le _) fun⟨c⟩ hi11=>?_
     refine oS.seq ?_
     refine oS.sy ?_
     simp
     refine aB ?_
     simp
     refine⟨fun h11=>?_,fun h11=>?_⟩
     ·refine oS.skip ?_
      simp
      refine oS.seq ?_
      refine oS.block ?_
      refine oS.seq ?_
      have h13c:=oB L (3+2*c) hL (by omega)
      refine oS.ro hT hW (fun|47=>some (.gen ⟨[(15,0)],[],[],nG L (3+2*c+1),.d (.str (iT L (3+2*c)))⟩)|_=>none) ?_
      simp
      refine⟨by simpa using h13c,?_⟩
      have h14c:=kO L (4+2*c) 1999 hL (by omega) (by decide)
      have h14r:=bW L (4+2*(c:Int)) 1999 (by decide)
      have hcm:c≤m:=hi11
      have e14:(3:Int)+(2*(c:Int)+1)=4+2*c:=by omega
      have e15:(4:Int)+(2*(c:Int)+1)=3+(2*c+2):=by omega
      have hic:=uD L c
      refine aF hT hW bI (lk [[],[0],[],[],[3],[3,4],[2,3,4,5],[2,3,4,5,6],[0,1,2,3,4,5,6,7],[0,1,2,3,4,5,6,7,8],[0,1,2,3,4,5,6,7,8,9]]) (lk [[15,55],[15,55],[15],[],[],[],[],[],[],[],[]]) (lk [[],[],[],[],[15],[],[],[55],[56,1056],[],[4]]) (by kernel_rfl) (fun|52=>some (.gen ⟨[(15,0)],[],[],nG L (4+2*c+1),.d (aC (jH L ((4+2*c:Nat):Int) 1999))⟩)|_=>none) (by intro d;first|exact⟨rfl,fun _ h=>h⟩|(split<;>exact⟨rfl,fun _ h=>h⟩)) ?_
      simp[e14]
      refine⟨⟨⟨by simpa using h14c,by omega,by omega⟩,by omega,by omega⟩,?_⟩
      have hcm2:c≤m:=hi11
      refine aL ?_
      simp
      refine⟨by omega,?_⟩
      refine JK.mk ⟨c+1⟩ (aA [2,3,4,5,6] [(2,2),(4,4),(15,15),(56,1056)] (by decide) (by decide) (by simp[hp]) (by simp) (by simp[qI,Int.mul_add,uD,List.take_of_length_le,e15])) ?_ ?_
      ·show c+1≤m
       omega
      ·show m-(c+1)<m-c
       omega
     ·refine oS.exit ?_
      simp
      refine mQ (bN 4 [1056] (fz:=false) (cs:=[.d (aC k),.d (.str t),.d (aC 0),.ow 1056 0 c]) (ds:=[aC k,.str t,aC 0,.sl ((qI L c).map Nd.d)]) (by simp) (by simp) (by simp[uD,List.take_of_length_le]) (by simp[aX.mut])) ?_
      simp
      refine Pg.mk ⟨.mk k t 0 (qI L c)⟩ (aA [2,4] [(2,2),(4,4)] (by decide) (by decide) (by simp[hp]) (by simp) (by simp)) ?_
      rw[Oz hk ht h8,hm9]
      have e11:c=m:=by have:=(show c≤m from hi11);omega
      rw[e11]
    ·refine aO (ι:=BC) (fun⟨b⟩=>aY [(2,.bx 2 0),(3,.bx 15 0),(4,.bx 4 0),(25,.d (aC (k))),(58,.d (.bool b))]) (fun⟨b⟩=>aK [(2,.box false [.d (aC 0),.d (.str []),.d (aC 0),.nl]),(4,.box false [.d (aC k),.d (.str t),.d (aC 0),.nl]),(15,.box false [.d (.sl (L.map aC)),.d (aC 2)])]) (fun⟨b⟩=>b=true↔(k=5∨k=6)) ?_ fun⟨b⟩ hc17=>?_
     ·refine oS.sy ?_
      simp
      refine aB ?_
      simp
      refine⟨fun h15=>?_,fun h15=>?_⟩
      ·refine oS.skip ?_
       simp
       refine Pg.mk ⟨decide (k=5)⟩ (aA [2,3,4,25,58] [(2,2),(4,4),(15,15)] (by decide) (by decide) (by simp[hp]) (by simp) (by simp)) ?_
       simp[h15]
      ·refine aL ?_
       simp
       refine Pg.mk ⟨decide (k=6)⟩ (aA [2,3,4,25,58] [(2,2),(4,4),(15,15)] (by decide) (by decide) (by simp[hp]) (by simp) (by simp)) ?_
       simp only[decide_eq_true_eq];omega
     ·refine aB ?_
      simp
      refine⟨fun h17=>?_,fun h17=>?_⟩
      ·have q17:=hc17.1 h17
       refine oS.sy ?_
       simp
       refine pO (fz:=false) (cs:=[.d (aC 8),.d (.str []),.d (aC 0),.nl]) 8 3 1077 4 (by decide) ⟨by simp,by simp,by simp,?_⟩
       simp
       refine oS.seq ?_
       refine oS.block ?_
       refine cA (ι:=Sp) (fun⟨m,ks,j⟩=>aY [(2,.bx 2 0),(3,.bx 15 0),(4,.bx 4 0),(8,.bx 8 0)]) (fun⟨m,ks,j⟩=>aK [(2,.box false [.d (aC 0),.d (.str []),.d (aC 0),.nl]),(4,.box false [.d (aC k),.d (.str t),.d (aC 0),.nl]),(8,.box false [.d (aC 8),.d (.str []),.d (aC 0),.ow 1077 0 ks.length]),(15,.box false [.d (.sl (L.map aC)),.d (aC (j:Nat))]),(1077,.row false 4 (ks.map Nd.d))]) (fun⟨m,ks,j⟩=>j≤3000∧L.length≤m+j∧ks.length≤j∧rQ L L.length [] 2=rQ L m ks j) (fun⟨m,ks,j⟩=>L.length-j) ⟨L.length,[],2⟩ (aA [2,3,4,8] [(2,2),(4,4),(8,8),(15,15),(1077,1077)] (by decide) (by decide) (by simp[hp]) (by simp) (by simp)) (⟨by omega,by omega,by simp,rfl⟩) fun⟨m,ks,j⟩ hi18=>?_
       refine oS.seq ?_
       refine oS.seq ?_
       refine aF hT hW bI (lk [[],[0],[0,1],[0,1,2],[],[4],[4,5],[4,5,6],[4,5,6,7],[0,1,2,3,4,5,6,7,8]]) (lk [[],[],[],[],[],[],[],[],[],[]]) (lk [[],[],[],[],[],[],[],[],[],[]]) (by kernel_rfl) (fun _=>none) (fun _=>⟨rfl,fun _ h=>h⟩) ?_
       simp
       refine aB ?_
       simp
       refine⟨fun h18=>?_,fun h18=>?_⟩
       ·refine oS.skip ?_
        simp
        refine oS.block ?_
        have h19:=Kn L hL (by omega) 2 (by omega) 5000 (by omega) j (by omega)
        have hup:=Ow L 2 j
        have hto:=Gh L 2 j
        have hto2:=HM (d:=2) (by omega)
        have hkl:=hi18.2.2.1
        refine aF hT hW bI (lk [[],[0],[],[2],[2,3],[0,1,2,3,4],[0,1,2,3,4,5],[0,1,2,3,4,5,6]]) (lk [[15,76],[15,76],[],[],[],[],[],[]]) (lk [[],[],[],[15],[76],[77,1077],[],[8]]) (by kernel_rfl) (fun|75=>some (.gen ⟨[(15,0)],[],[],nG L (nX L 2 j).2,.d (nX L 2 j).1.d⟩)|_=>none) (by intro d;first|exact⟨rfl,fun _ h=>h⟩|(split<;>exact⟨rfl,fun _ h=>h⟩)) ?_
        simp
        refine⟨by(repeat' with_reducible apply And.intro)<;>first|omega|(simpa using h19),?_⟩
        refine JK.mk ⟨m-1,ks++[(nX L 2 j).1],(nX L 2 j).2⟩ (aA [2,3,4,8] [(2,2),(4,4),(8,8),(15,15),(77,1077)] (by decide) (by decide) (by simp[hp]) (by simp) (by simp)) ?_ ?_
        ·refine⟨(show(nX L 2 j).2≤3000 by omega),(show L.length≤m-1+(nX L 2 j).2 by omega),(by rw[List.length_append,List.length_singleton];show ks.length+1≤(nX L 2 j).2;omega),?_⟩
         rw[hi18.2.2.2,PW (by omega) (by omega)]
        ·show L.length-(nX L 2 j).2<L.length-j
         omega
       ·refine oS.exit ?_
        simp
        refine aL ?_
        simp
        refine mQ (bN 4 [80] (fz:=false) (cs:=[.d (aC k),.d (.str t),.d (aC 0),.ow 80 0 1]) (ds:=[aC k,.str t,aC 0,.sl [(Nd.mk 8 [] 0 ks).d]]) (by simp) (by simp) (by simp) (by simp[aX.mut])) ?_
        simp
        refine Pg.mk ⟨.mk k t 0 [.mk 8 [] 0 ks]⟩ (aA [2,4] [(2,2),(4,4)] (by decide) (by decide) (by simp[hp]) (by simp) (by simp)) ?_
        rw[LR hk ht q17,hi18.2.2.2,Ox (by omega)]
      ·have q17:¬(k=5∨k=6):=fun q=>by simp[hc17.2 q]at h17
       refine oS.skip ?_
       simp
       refine mQ (bN 4 [] (fz:=false) (cs:=[.d (aC k),.d (.str t),.d (aC 0),.nl]) (ds:=[aC k,.str t,aC 0,.sl []]) (by simp) (by simp) (by simp) (by simp[aX.mut])) ?_
       simp
       refine Pg.mk ⟨.mk k t 0 []⟩ (aA [2,4] [(2,2),(4,4)] (by decide) (by decide) (by simp[hp]) (by simp) (by simp)) ?_
       exact LS hk ht h4 h6 h8 q17
 ·refine oS.sy ?_
  simp
  refine oS.ret ?_
  have e:wM l=x:=htr.trans hc21
  simp[e]
end
open Go.Proofs
section
attribute[local simp] oZ.cond Nd.d_eq nd_t nd_dr nd_td ndsD bJ pY eC Cf Cg Ch HA
def HO(n:Int):Prop:= -9223372036854775808≤n∧n≤9223372036854775807
theorem QR{a:Int}{m:Nat}(h:HO a):HO (a.tdiv ((m:Int)+1)):=by
 unfold HO at*
 have h1:(a.tdiv ((m:Int)+1)).natAbs≤a.natAbs:=by rw[Int.natAbs_tdiv];exact Nat.div_le_self _ _
 by_cases h0:0≤a
 ·have:=Int.tdiv_nonneg h0 (show(0:Int)≤(m:Int)+1 by omega)
  omega
 ·have h2:a.tdiv ((m:Int)+1)≤0:=by
   obtain⟨b,rfl⟩:∃b,a= -b:=⟨-a,by omega⟩
   rw[Int.neg_tdiv]
   have:=Int.tdiv_nonneg (show(0:Int)≤b by omega) (show(0:Int)≤(m:Int)+1 by omega)
   omega
  omega
end
end Go.Eng
namespace Go.Eng
open Go.Proofs
theorem CD(L:List Int)(i:Nat):(oN L i).length≤16:=by
 unfold oN
 have:∀k:Nat,(GT.getD k []).length≤16:=fun k=>by
  rw[List.getD_eq_getElem?_getD]
  cases e:GT[k]? with
  |none=>simp
  |some w=>
   have:=List.mem_of_getElem? e
   exact(by decide:∀w∈GT,w.length≤16) w this
 exact this _
theorem oC(k:Int)(t:aR)(n:Int):weighN (.mk k t n [])=t.length+1:=by simp[weighN,weighL]
theorem yA(L:List Int)(i:Nat):weighN (dQ L i).1≤34:=by
 have h1:=rD L (i+1)
 have h2:=rD L (i+2)
 unfold dQ
 split<;>simp only[oC,List.length_append,List.length_cons]<;>omega
theorem Cj(L:List Int):∀(d i:Nat),weighN (aN L d i).1+1≤35*2^d:=fun d=>by
 induction d with
 |zero=>
  intro i
  obtain⟨r0,_,r2⟩:=lZ L 0 i
  have r2:=r2 rfl
  have ho:=CD L (i+1)
  have hp:=yA L (i+1)
  by_cases h0:dU L 0 i=0∨dU L 0 i=1
  ·rw[oG h0];simp[oC]
  ·by_cases h1:dU L 0 i=2
   ·rw[oH h1];simp only[oC];omega
   ·by_cases h2:dU L 0 i=3∨dU L 0 i=4
    ·rw[lV h2];omega
    ·rw[mS (by omega)];simp[oC]
 |succ e ih=>
  intro i
  have hp1:1≤2^e:=Nat.one_le_two_pow
  have h2:2^(e+1)=2*2^e:=by rw[Nat.pow_succ,Nat.mul_comm]
  have ho:=CD L (i+1)
  have hp:=yA L (i+1)
  obtain⟨r0,_,_⟩:=lZ L (e+1) i
  by_cases h0:dU L (e+1) i=0∨dU L (e+1) i=1
  ·rw[oG h0];simp only[oC,List.length_nil];omega
  ·by_cases h1:dU L (e+1) i=2
   ·rw[oH h1];simp only[oC];omega
   ·by_cases h3:dU L (e+1) i=3∨dU L (e+1) i=4
    ·rw[lV h3];omega
    ·by_cases h4:dU L (e+1) i=5
     ·rw[mS h4];simp only[oC,List.length_nil];omega
     ·rw[vH (by omega)]
      have a:=ih (i+1)
      have b:=ih (aN L e (i+1)).2
      simp only[weighN,weighL,List.length_nil]
      omega
theorem DT{L:List Int}{d i C:Nat}{bl:Nat→Nd×Nat}(hb:∀j,weighN (bl j).1≤C):weighN (Ct L d bl i).1≤200+2*C:=by
 rw[mB rfl]
 have v1:=fun j=>Cj L 1 j
 have v2:=fun j=>Cj L 2 j
 have pl:=yA L (i+1)
 have cl:=rD L (i+1)
 have ol:=CD L (i+1)
 have ol2:=CD L (i+1+1)
 unfold xY
 have a1:=v1 (i+1)
 have a2:=v1 (i+1+1)
 have a3:=v2 (i+1)
 have a4:=v2 (i+1+1)
 have a5:=v2 (dQ L (i+1)).2
 have b1:=hb (aN L 1 (i+1)).2
 have b2:=hb ((bl (aN L 1 (i+1)).2).2+1)
 simp only[Nat.reducePow,Nat.reduceMul]at*
 repeat(first|(simp only[weighN,weighL,List.length_nil];omega)|split)
theorem Ck{L:List Int}{st:Nat→Nd×Nat}{C:Nat}(h:∀j,weighN (st j).1≤C):∀(m:Nat) (ks:List Nd) (j:Nat),weighL (kM L st m ks j).1≤weighL ks+m*C
 |0,ks,j=>by simp[kM]
 |m+1,ks,j=>by
  unfold kM
  split
  ·simp
  ·have a:=Ck (L:=L) h m (ks++[(st j).1]) (st j).2
   have b:=h j
   rw[weighL_append]at a
   simp only[weighL]at a
   rw[Nat.succ_mul]
   omega
theorem Jy{L:List Int}{st:Nat→Nd×Nat}{C:Nat}(h:∀j,weighN (st j).1≤C)(i:Nat):weighN (tZ L st i).1≤1+3*C:=by
 have hr:=bW L i 4 (by decide)
 have a:=Ck (L:=L) h (jH L i 4).toNat [] (i+1)
 have b:(jH L i 4).toNat*C≤3*C:=Nat.mul_le_mul_right C (by omega)
 show weighN (.mk 8 [] 0 (kM L st (jH L i 4).toNat [] (i+1)).1)≤_
 simp only[weighN,weighL,List.length_nil]at*
 omega
def DU:Nat→Nat
 |0=>204
 |d+1=>200+2*(1+3*DU d)
theorem Fr(L:List Int):∀d i,weighN (nX L d i).1≤DU d
 |0,i=>by
  rw[nX]
  exact DT (C:=2) fun j=>by show weighN default≤2;decide
 |d+1,i=>by
  rw[nX]
  exact DT (C:=1+3*DU d) fun j=>Jy (Fr L d) j
theorem DW(L:List Int):∀(m:Nat) (ks:List Nd) (j:Nat),weighL (rQ L m ks j)≤weighL ks+m*DU 2
 |0,ks,j=>by simp[rQ]
 |m+1,ks,j=>by
  unfold rQ
  split
  ·simp
  ·have a:=DW L m (ks++[(nX L 2 j).1]) (nX L 2 j).2
   have b:=Fr L 2 j
   rw[weighL_append]at a
   simp only[weighL]at a
   rw[Nat.succ_mul]
   omega
theorem Cl(L:List Int):∀c,weighL (qI L c)≤17*c
 |0=>Nat.le_refl _
 |c+1=>by
  have a:=Cl L c
  have b:=rD L (3+2*c)
  rw[qI,weighL_append]
  simp only[weighL,oC]
  omega
theorem DX(l:List Int):weighN (wM l)≤1000000:=by
 have hl:(l.take 48).length≤48:=by rw[List.length_take];omega
 have cl:=rD (l.take 48) 1
 have r4:=bW (l.take 48) 2 4 (by decide)
 have bw:=DW (l.take 48) (l.take 48).length [] 2
 have b2:(l.take 48).length*DU 2≤48*DU 2:=Nat.mul_le_mul_right _ hl
 have b3:DU 2=8758:=rfl
 have iw:=Cl (l.take 48) (jH (l.take 48) 2 4).toNat
 unfold wM sV
 simp only[]
 simp only[weighL]at bw
 repeat(first|(simp only[weighN,weighL,List.length_nil];omega)|split)
def Se:aR:=[118,97,114,32,110,61,45,55,59]
def QS:aR:=[112,114,111,99,32,112,123,36,97,61,40,120,46,121,43,49,41,42,50,59,105,102,32,36,97,60,51,123,103,111,32,113,59,125,101,108,115,101,123,125,125]
def Sf:aR:=[116,101,115,116,32,116,32,123,32,99,104,101,99,107,32,49,32,61,61,32,107,105,110,100,59,32,125]
def Sg:aR:=[112,114,111,99,32,112,32,123,32,36,97,32,61,32,40,120,46,121,32,43,32,49,41,32,42,32,50,59,32,105,102,32,36,97,32,60,32,51,32,123,32,103,111,32,113,59,32,125,32,101,108,115,101,32,123,32,125,32,125]
def RQ:Nd:=.mk 24 [] 0 [.mk 28 [] 0 [.mk 32 [] 1 [],.mk 36 [] 0 []]]
def QT:List aR:=[[99,104,97,110,32,99,32,52,59],[116,101,115,116,32,116,32,123,32,120,32,61,32,59,32,125],[108,111,99,107,32,108],[118,97,114,32,114,101,97,100,32,61,32,49,59]]
def QU:List Int:=[7,13,6,4]
set_option maxRecDepth 10000
theorem LT:dD Se=(.mk 0 [110] (-7) [],0,0):=by decide
theorem LU:printS (.mk 0 [110] (-7) [])=[118,97,114,32,110,32,61,32,45,55,59]:=by decide
theorem LW:(dD QS).2=(0,0):=by decide
theorem OB:sizeN (dD QS).1=15:=by decide
theorem LY:weighN (dD QS).1≤1000:=by decide
theorem LZ:printS (dD QS).1=Sg:=by decide
theorem Ma:dD Sf=(.mk 6 [116] 0 [.mk 8 [] 0 [RQ]],0,0):=by decide
theorem OC:headK (.mk 6 [116] 0 [.mk 8 [] 0 [RQ]])=6∧headT (.mk 6 [116] 0 [.mk 8 [] 0 [RQ]])=[116]:=by decide
theorem Mb:∀i,i<4→(dD (QT.getD i [])).2=(QU.getD i 0,if i=0 then 5 else 2):=by decide
end Go.Eng
namespace Go.Eng
open Go.Proofs
attribute[local simp] mW kX iB bC mT fY hZ nM cN bG oZ.plain oZ.cond oZ.fail dP lW sT mM fP kN lG lH memless mF eJ iW tP Ee hO fI strip oL dV lK bU
 qC fQ iH iC iG oT lk cD dR bP bV bX nK eT oP iF iZ bS eK bK dG iA eV eW dW eX gF gG gH eY dX eZ dY fB gJ gK gN gO fC gR oK nH mkAgg sO AT jI bD hU aX.live TK.isNone TK.agg TK.isBool TK.isStr TK.isStruct Op.operands Call.operands
 bE cO cH cW eE nI lB cU dH iE eO kP aP frozen lI
 jM jN lC gD jP jQ jR jV lD gE jX jY jZ kC rJ lR nO nP nR nS nU kD jK gC eU Nm.d Df.d Ed.d xD xE nE xF jL rU rV dA dB
 xH xI rK xJ xK rL rM rN nV xL xM rO
 bT bA dJ lJ dK bR cB bM eN uF TK.isInt jO jW nQ gM hF dI eL eM fV eS fO lX sA nD wW rI
 nC kR mC mU cL eA dS kW jE jF iV sD gS cZ gT gU cD jT jU nN iI gV kE gP gQ fE
 cK gZ TK.isPtr eF bZ kF oU pR jS kA nT gI gL fD
attribute[local simp] dZ kG gW
section
attribute[local simp] oZ.cond Nd.d_eq nd_t nd_dr nd_td ndsD bJ eP qS eR eC
theorem DY{s:aR}{R:Nd×PS}(hR:kL false ⟨(fL s).1,0⟩=R)(hl:s.length≤1024){x:Tk}{r:List Tk}(h:R.2.l=x::r):dD s=(iK,x.at_,if R.2.e≠0 then R.2.e else 2):=by
 unfold dD;rw[if_neg (by omega)];simp only[];rw[hR,h]
theorem HP{s:aR}{R:Nd×PS}(hR:kL false ⟨(fL s).1,0⟩=R)(hl:s.length≤1024)(h:R.2.l=[])(h2:¬R.2.e=0∨(fL s).2<s.length):dD s=(iK,(fL s).2,2):=by
 unfold dD;rw[if_neg (by omega)];simp only[];rw[hR,h];simp only[];rw[if_pos h2]
theorem Ft{s:aR}{R:Nd×PS}(hR:kL false ⟨(fL s).1,0⟩=R)(hl:s.length≤1024)(h:R.2.l=[])(h2:¬(¬R.2.e=0∨(fL s).2<s.length)):dD s=if validB R.1 then(R.1,0,0)else(iK,0,4):=by
 unfold dD;rw[if_neg (by omega)];simp only[];rw[hR,h];simp only[];rw[if_neg h2]
theorem Jz(s:aR)(R:Nd×PS)(hR:kL false ⟨(fL s).1,0⟩=R)(hD:s.length≤1024→qR Tryz.prog 58 [.bx 0 0] (eR ⟨(fL s).1,0⟩) (eR R.2) (.d R.1.d))(hw:s.length≤1024→weighN R.1≤1000000000):Ok Tryz.prog 16 [.str s] ⟨.tup [.d (dD s).1.d,.d (aC (dD s).2.1),.d (aC (dD s).2.2)],false⟩:=by
 refine FP hT Tryz.func16 (by kernel_rfl) (c:=_) rfl Tryz.ntmps16 (by simp) Tryz.results16 (by simp) (by rfl) fun w0 X hp=>?_
 refine oS.sy ?_
 simp
 refine oS.seq ?_
 refine oS.sy ?_
 simp
 refine aB ?_
 simp
 refine⟨fun h1=>?_,fun h1=>?_⟩
 ·refine oS.sy ?_
  simp
  refine oS.ret ?_
  have e:dD s=(iK,1024,4):=by unfold dD;rw[if_pos (by omega)]
  simp[e,iK]
 ·refine oS.skip ?_
  simp
  refine oS.seq ?_
  have hs:=Py s (by omega)
  refine oS.ro hT hW (fun|15=>some<| .plain ⟨.tup [.d (.sl ((fL s).1.map Tk.d)),.d (aC (fL s).2)],true⟩|_=>none) ?_
  simp[dO]
  refine⟨hs,?_⟩
  refine oS.sy ?_
  simp
  refine oS.seq ?_
  have hd:=hD (by omega)
  refine oS.ro hT hW (fun|22=>some (.gen ⟨[(20,0)],[],[],eR R.2,.d R.1.d⟩)|_=>none) ?_
  simp
  refine⟨by simpa using hd,?_⟩
  refine oS.seq ?_
  refine oS.block ?_
  refine oS.sy ?_
  simp
  refine aB ?_
  simp
  refine⟨fun g1 g2=>?_,fun g=>?_⟩
  ·refine oS.seq ?_
   obtain⟨x,r,hxr⟩:=List.exists_cons_of_length_pos g2
   have hx2:(aE x.d).length=2:=rfl
   refine aF hT hW bI (lk [[],[],[1],[1,2],[1,2,3],[1,2,3,4],[1,2,3,4,5],[1,2,3,4,5,6],[],[8],[8,9],[8,9,10],[0],[0,1,2,3,4,5,6,7,12],[0,1,2,3,4,5,6,7,8,9,10,11,12,13]]) (lk [[],[2],[2],[2],[2],[2],[2],[2],[2],[2],[2],[2],[],[],[]]) (lk [[],[],[],[],[],[],[],[],[],[],[],[],[2],[],[]]) (by kernel_rfl) (fun _=>none) (fun _=>⟨rfl,fun _ h=>h⟩) ?_
   simp[hxr,Tk.d]
   refine oS.ret ?_
   have e:=DY hR (by omega) hxr
   simp[e,iK,g1]
  ·refine oS.sy ?_
   simp
   refine aB ?_
   simp
   refine⟨fun h8=>?_,fun h8=>?_⟩
   ·refine oS.seq ?_
    obtain⟨x,r,hxr⟩:=List.exists_cons_of_length_pos h8
    refine aF hT hW bI (lk [[],[],[1],[1,2],[1,2,3],[1,2,3,4],[1,2,3,4,5],[1,2,3,4,5,6],[0],[0,1,2,3,4,5,6,7,8],[0,1,2,3,4,5,6,7,8,9]]) (lk [[],[2],[2],[2],[2],[2],[2],[2],[],[],[]]) (lk [[],[],[],[],[],[],[],[],[2],[],[]]) (by kernel_rfl) (fun _=>none) (fun _=>⟨rfl,fun _ h=>h⟩) ?_
    simp[hxr,Tk.d]
    refine oS.ret ?_
    have e:=DY hR (by omega) hxr
    have g9:R.2.e=0:=Classical.byContradiction fun q=>by have:=g q;rw[this]at hxr;cases hxr
    simp[e,iK,g9]
   ·refine oS.sy ?_
    simp
    refine aB ?_
    simp
    refine⟨fun h10=>?_,fun h10 h11=>?_⟩
    ·refine oS.sy ?_
     simp
     refine oS.ret ?_
     have e:=HP hR (by omega) h8 h10
     simp[e,iK]
    ·refine oS.seq ?_
     have hv:=DC R.1 (hw (by omega))
     refine oS.ro hT hW (fun|80=>some<| .plain ⟨.d (.bool (validB R.1)),true⟩|_=>none) ?_
     simp
     refine⟨by simpa using hv,?_⟩
     refine aB ?_
     simp
     refine⟨fun h12=>?_,fun h12=>?_⟩
     ·refine oS.sy ?_
      simp
      refine oS.ret ?_
      have e:=Ft hR (by omega) h8 (by omega)
      simp[e,h12,iK]
     ·refine oS.skip ?_
      simp
      refine oS.sy ?_
      simp
      refine oS.ret ?_
      have e:=Ft hR (by omega) h8 (by omega)
      simp[e,h12]
end
end Go.Eng
namespace Go.Eng
open Go.Proofs
theorem vJ(s:aR):Ok Tryz.prog 16 [.str s] ⟨.tup [.d (dD s).1.d,.d (aC (dD s).2.1),.d (aC (dD s).2.2)],false⟩:=
 Jz s _ rfl (fun hl=>QO ⟨(fL s).1,0⟩ (sY _ _ _) (by have:=vG s.length s 0;show(iQ s.length s 0).1.length≤1000000;omega)) fun hl=>HK hl
end Go.Eng
namespace Go.Eng
open Go.Proofs
attribute[local simp] mW kX iB bC mT fY hZ nM cN bG oZ.plain oZ.cond oZ.fail dP lW sT mM fP kN lG lH memless mF eJ iW tP Ee hO fI strip oL dV lK bU
 qC fQ iH iC iG oT lk cD dR bP bV bX nK eT oP iF iZ bS eK bK dG iA eV eW dW eX gF gG gH eY dX eZ dY fB gJ gK gN gO fC gR oK nH mkAgg sO AT jI bD hU aX.live TK.isNone TK.agg TK.isBool TK.isStr TK.isStruct Op.operands Call.operands
 bE cO cH cW eE nI lB cU dH iE eO kP aP frozen lI
 jM jN lC gD jP jQ jR jV lD gE jX jY jZ kC rJ lR nO nP nR nS nU kD jK gC eU Nm.d Df.d Ed.d xD xE nE xF jL rU rV dA dB
 xH xI rK xJ xK rL rM rN nV xL xM rO
 bT bA dJ lJ dK bR cB bM eN uF TK.isInt jO jW nQ gM hF dI eL eM fV eS fO lX sA nD wW rI
 nC kR mC mU cL eA dS kW jE jF iV sD gS cZ gT gU cD jT jU nN iI gV kE gP gQ fE
 cK gZ TK.isPtr eF bZ kF oU pR jS kA nT gI gL fD
attribute[local simp] dZ kG gW
section
set_option maxRecDepth 10000
set_option maxHeartbeats 4000000
attribute[local simp] oZ.cond Nd.d_eq nd_t nd_dr nd_td ndsD bJ pY eC Cf Cg Ch HA
theorem QV{i:Nat}{s:aR}(hi:i<4)(hs:QT.getD i []=s):(QT.map DV.str)[i]?.getD default=.str s:=by
 have hk:i<QT.length:=hi
 subst hs
 rw[List.getElem?_map,List.getElem?_eq_getElem hk]
 simp[List.getD_eq_getElem?_getD,hk]
theorem QW{i:Nat}{o:Int}(hi:i<4)(hs:QU.getD i 0=o):(QU.map aC)[i]?.getD default=aC o:=by
 have hk:i<QU.length:=hi
 subst hs
 rw[List.getElem?_map,List.getElem?_eq_getElem hk]
 simp[List.getD_eq_getElem?_getD,hk]
theorem JA:Ok Tryz.prog 17 [] ⟨.d (.bool true),true⟩:=by
 refine Ok.ret Tryz.func17 (by kernel_rfl) (c:=_) rfl Tryz.ntmps17 (by simp) Tryz.results17 (by intro _ h;cases h) fun w0 X hp=>?_
 obtain⟨TL,hTL⟩:∃TL,QT.map DV.str=TL:=⟨_,rfl⟩
 obtain⟨OL,hOL⟩:∃OL,QU.map aC=OL:=⟨_,rfl⟩
 have lT:TL.length=4:=by rw[←hTL];rfl
 have lO:OL.length=4:=by rw[←hOL];rfl
 have pA:=vJ Se
 have pB:=vJ QS
 have pC:=vJ Sf
 rw[LT]at pA
 rw[LW]at pB
 rw[Ma]at pC
 obtain⟨B,hB⟩:∃B,(dD QS).1=B:=⟨_,rfl⟩
 obtain⟨K,hK⟩:∃K,RQ=K:=⟨_,rfl⟩
 have hK24:K.kind=24:=by rw[←hK];rfl
 have sB:=OB
 have wB:=LY
 have tB:=LZ
 have hC:=OC
 have wC:weighN (.mk 6 [116] 0 [.mk 8 [] 0 [K]])≤1000000000:=by rw[←hK];decide
 rw[hB]at pB sB wB tB
 rw[hK]at pC hC
 have kB:=Pn B (by omega)
 have nB:=Hk B (by omega)
 have nA:=Hk (.mk 0 [110] (-7) []) (by decide)
 have dC:=Pt (.mk 6 [116] 0 [.mk 8 [] 0 [K]]) wC
 rw[sB]at kB
 rw[tB]at nB
 rw[LU]at nA
 rw[hC.1,hC.2]at dC
 simp[Se]at pA
 simp[QS]at pB
 simp[Sf]at pC
 simp at kB nB nA dC
 refine oS.sy ?_
 simp
 refine bY hT hW (fun|19=>some<| .plain ⟨.tup [.d (Nd.mk 0 [110] (-7) []).d,.d (aC 0),.d (aC 0)],false⟩|_=>none) ?_
 simp[dO]
 refine⟨pA,?_⟩
 refine bY hT hW (fun|24=>some<| .plain ⟨.tup [.d B.d,.d (aC 0),.d (aC 0)],false⟩|_=>none) ?_
 simp[dO]
 refine⟨pB,?_⟩
 refine bY hT hW (fun|29=>some<| .plain ⟨.tup [.d (Nd.mk 6 [116] 0 [.mk 8 [] 0 [K]]).d,.d (aC 0),.d (aC 0)],false⟩|_=>none) ?_
 simp[dO]
 refine⟨pC,?_⟩
 refine oS.sy ?_
 simp
 refine⟨by decide,?_⟩
 refine mE (oM.close 10 (x:=.sl TL) (by simp[←hTL,QT])) ?_
 simp
 refine oS.sy ?_
 simp
 refine⟨by decide,?_⟩
 refine mE (oM.close 11 (x:=.sl OL) (by simp[←hOL,QU])) ?_
 simp
 refine oS.seq ?_
 refine oS.sy ?_
 simp
 refine oS.block ?_
 refine cA (ι:=Nat) (fun i=>aY [(1,.bx 1 0),(3,.d (aC 0)),(4,.bx 4 0),(6,.d (aC 0)),(7,.bx 7 0),(9,.d (aC 0)),(10,.d (.sl TL)),(11,.d (.sl OL)),(12,.d (aC (i:Nat)))]) (fun i=>aK [(1,.box false [.d (aC 0),.d (.str [110]),.d (aC (-7)),.d (.sl [])]),(4,.box false [.d (aC B.kind),.d (.str B.text),.d (aC B.n),.d (ndsD B.kids)]),(7,.box false [.d (aC 6),.d (.str [116]),.d (aC 0),.d (.sl [.agg [aC 8,.str [],aC 0,.sl [.agg [aC K.kind,.str K.text,aC K.n,.sl (K.kids.map Nd.d)]]]])])]) (fun i=>i≤4) (fun i=>4-i) 0 (aA [1,3,4,6,7,9,10,11,12] [(1,1),(4,4),(7,7)] (by decide) (by decide) (by simp[hp]) (by simp) (by simp)) (Nat.zero_le _) fun i hi7=>?_
 refine oS.seq ?_
 refine oS.sy ?_
 simp
 refine aB ?_
 simp
 refine⟨fun h7=>?_,fun h7=>?_⟩
 ·refine oS.skip ?_
  simp
  refine oS.seq ?_
  refine oS.block ?_
  refine oS.seq ?_
  have hi:i<4:=by omega
  obtain⟨s,hs⟩:∃s,QT.getD i []=s:=⟨_,rfl⟩
  obtain⟨o,ho⟩:∃o,QU.getD i 0=o:=⟨_,rfl⟩
  have hsa:=QV hi hs
  have hoa:=QW hi ho
  have hps:=vJ s
  have hpe:=Mb i hi
  rw[hs,ho]at hpe
  rw[hTL]at hsa
  rw[hOL]at hoa
  rw[hpe]at hps
  simp at hps
  obtain⟨Y,hY⟩:∃Y,(dD s).1=Y:=⟨_,rfl⟩
  rw[hY]at hps
  refine oS.ro hT hW (fun|44=>some<| .plain ⟨.tup [.d Y.d,.d (aC o),.d (aC (if i=0 then 5 else 2))],false⟩|_=>none) ?_
  simp[dO,hsa]
  refine⟨⟨by omega,hps⟩,?_⟩
  refine oS.sy ?_
  simp[hoa]
  refine⟨by omega,?_⟩
  refine aB ?_
  simp
  refine⟨fun a b=>absurd b (by omega),fun _=>?_⟩
  refine oS.skip ?_
  simp
  refine aL ?_
  simp
  refine⟨by omega,?_⟩
  refine JK.mk (i+1) (aA [1,3,4,6,7,9,10,11,12] [(1,1),(4,4),(7,7)] (by decide) (by decide) (by simp[hp]) (by simp) (by simp)) ?_ ?_
  ·omega
  ·omega
 ·refine oS.exit ?_
  simp
  refine oS.seq ?_
  refine bY hT hW (fun|93=>some<| .plain ⟨.d (aC 15),true⟩|_=>none) ?_
  simp
  refine⟨kB,?_⟩
  refine aB ?_
  simp
  refine oS.skip ?_
  simp
  refine bY hT hW (fun|98=>some<| .plain ⟨.tup [.d (aC 6),.d (.str [116])],true⟩|_=>none) ?_
  simp[dO]
  refine⟨dC,?_⟩
  refine bY hT hW (fun|102=>some<| .plain ⟨.d (.str [118,97,114,32,110,32,61,32,45,55,59]),true⟩|106=>some<| .plain ⟨.d (.str Sg),true⟩|_=>none) ?_
  simp
  refine⟨⟨nA,nB⟩,?_⟩
  refine oS.ret ?_
  simp[Sg,hK24]
end
open Go.Proofs
section
attribute[local simp] oZ.cond Nd.d_eq nd_t nd_dr nd_td ndsD bJ
def RC(w:aR):Nat→aR
 |0=>[]
 |n+1=>RC w n++w
theorem QX(w:aR):RC w 0=[]:=rfl
attribute[local simp] QX
theorem OD(s:aR)(n:Nat)(hl:s.length≤9223372036854775807):Ok Tryz.prog 15 [.str s,aC n] ⟨.d (.str (s.take n)),true⟩:=by
 refine Ok.ret Tryz.func15 (by kernel_rfl) (c:=_) rfl Tryz.ntmps15 (by simp) Tryz.results15 (by intro _ h;cases h) fun w0 X hp=>?_
 refine oS.sy ?_
 simp
 refine oS.seq ?_
 refine oS.sy ?_
 simp
 refine aB ?_
 simp
 refine⟨fun h1=>?_,fun h1=>?_⟩
 ·refine oS.sy ?_
  simp
  refine⟨by omega,?_⟩
  refine oS.ret ?_
  simp
 ·refine oS.skip ?_
  simp
  refine oS.sy ?_
  simp
  refine oS.ret ?_
  simp
  exact(List.take_of_length_le (by omega)).symm
end
open Go.Proofs
section
attribute[local simp] oZ.cond Nd.d_eq nd_t nd_dr nd_td ndsD bJ
theorem OE(T:List Tk)(l:List Int):GU T l 0=[]:=rfl
attribute[local simp] OE
end
end Go.Eng
namespace Go.Eng
open Go.RowKit
section
variable{P:Program} {a:Act} {w:World} {ops:Array Oper} {Q:Exit→Act→World→Prop} {l:List Oper} {o:Oper}
theorem jD(hg:o.guard=none){v:Value}{w':World}(hr:(execOp a.eval o).run P w=.ok (.value v) w')(hk:wpList P ops Q l (a.put o.dst v) w'):wpList P ops Q (o::l) a w:=by
 unfold wpList
 rw[if_pos (by simp[Region.wanted,hg])]
 left;unfold Oper.wp;rw[hr];exact hk
theorem HQ(hg:o.guard=none){w':World}(hr:(execOp a.eval o).run P w=.ok .skip w')(hk:wpList P ops Q l (a.put o.dst undef) w'):wpList P ops Q (o::l) a w:=by
 unfold wpList
 rw[if_pos (by simp[Region.wanted,hg])]
 left;unfold Oper.wp;rw[hr];exact hk
theorem HR(hg:o.guard=none){f:FuncId}{vs:Array Value}{w':World}(hr:(execOp a.eval o).run P w=.ok (.enter f vs) w')(hk:Calls P f vs w' fun e w2=>∃v,e=.returned v∧wpList P ops Q l (a.put o.dst v) w2):wpList P ops Q (o::l) a w:=by
 unfold wpList
 rw[if_pos (by simp[Region.wanted,hg])]
 left;unfold Oper.wp;rw[hr]
 simp only[Oper.upon]
 refine hk.mono ?_
 rintro e w2 ⟨v,rfl,h⟩
 exact h
theorem qP{d t:Nat}{v:Value}:(a.put (some d) v).eval (.tmp t)=if t=d∧d<a.tmps.size then v else a.eval (.tmp t):=by
 show(a.put (some d) v).tmps.getD t undef=if t=d∧d<a.tmps.size then v else a.tmps.getD t undef
 simp only[Act.put,Array.getD_eq_getD_getElem?,Array.getElem?_setIfInBounds]
 by_cases h:d=t
 ·subst h
  by_cases h2:d<a.tmps.size
  ·simp[h2]
  ·simp[h2]
 ·rw[if_neg h,if_neg (fun e=>h e.1.symm)]
theorem oI{d:Nat}{v:Value}:(a.put (some d) v).tmps.size=a.tmps.size:=by simp[Act.put]
theorem PX{v:Value}:a.put none v=a:=rfl
theorem RE(b j:Nat):(⟨b,0,none⟩:Addr).add j=⟨b,j,none⟩:=by unfold Addr.add;split<;>simp_all
theorem Ek{te:TypeId}(hso:∀w:World,(sizeOf te).run P w=.ok 1 w){b i:Nat}{n:Int}{cur:Array Value}{e:TypeId}{fr:Nat×Nat}(hblk:w.heap[b]? =some (.cells cur e fr))(hi:i<cur.size)(hf:cur.size≤fr.1):
 (storeVar te ⟨b,i,none⟩ (.int .u8 n)).run P w=.ok () (w.setRow b (cur.setIfInBounds i (.int .u8 n))):=by
 have hc:(Value.int .u8 n).cells= #[.int .u8 n]:=rfl
 unfold storeVar
 rw[Sem.run_bind,hso]
 have hcell:w.cell? ⟨b,i,none⟩=some cur[i]:=by simp[World.cell?,hblk,hi]
 obtain⟨lo,hi2⟩:=fr
 have hfr:w.frozen? ⟨b,i,none⟩=false:=by
  simp only[World.frozen?,hblk]
  have hf:cur.size≤lo:=hf
  simp;omega
 have hadd:(⟨b,i,none⟩:Addr).add 0=⟨b,i,none⟩:=rfl
 have hst:(store ((⟨b,i,none⟩:Addr).add 0) (.int .u8 n)).run P w=.ok () (w.setRow b (cur.setIfInBounds i (.int .u8 n))):=by
  rw[hadd,run_store P w _ _ _ rfl,hcell]
  simp[hfr,setCell_eq_setRow w b i cur e (lo,hi2) _ hblk]
 simp only[hc,Result.andThen_ok,List.size_toArray,List.length_cons,List.length_nil,ne_eq,not_true_eq_false,if_false,storeCells,Sem.run_bind,hst]
 rfl
end
section
variable{P:Program} {T:TypeId→lA} {w0:iU} {X:Nat→Prop} {Q:LX→mI→kV→Prop} {env:mI} {H:kV}
set_option maxRecDepth 10000 in
set_option maxHeartbeats 400000 in
theorem HS(hT:mA P T){i1 i2 i3:Nat}{o1 o2 o3 p1 p2 p3 p4 p5 p6 p7 p8 p9 q1 q2 q3:Oper}{rest:Code}{ts tb te ti:TypeId}{fA:FuncId}{ta:Array TypeId}
 (us:P.underlying ts=some .string)(ub:P.underlying tb=some (.slice te))(ue:P.underlying te=some (.int .u8))(ui:P.underlying ti=some (.int .i64))(hso:∀w:World,(sizeOf te).run P w=.ok 1 w)
 (h1:o1.op=.move (.tmp 0))(d1:o1.dst=some 101)(g1:o1.guard=none)(h2:o2.op=.convert ts tb (.tmp 101))(d2:o2.dst=some 102)(g2:o2.guard=none)
 (h3:o3.op=.assign (.tmp 102))(d3:o3.dst=some 13)(g3:o3.guard=none)
 (k1:p1.op=.move (.tmp 13))(e1:p1.dst=some 103)(f1:p1.guard=none)(k2:p2.op=.move (.tmp 1))(e2:p2.dst=some 104)(f2:p2.guard=none)
 (k3:p3.op=.move (.tmp 13))(e3:p3.dst=some 105)(f3:p3.guard=none)(k4:p4.op=.call {callee:=.builtin .len,args:= #[.tmp 105],argTypes:= #[tb]})(e4:p4.dst=some 106)(f4:p4.guard=none)
 (k5:p5.op=.call {callee:=.value (.func fA),args:= #[.tmp 104,.tmp 106],argTypes:=ta})(e5:p5.dst=some 107)(f5:p5.guard=none)
 (k6:p6.op=.move (.tmp 3))(e6:p6.dst=some 108)(f6:p6.guard=none)(k7:p7.op=.convert ti te (.tmp 108))(e7:p7.dst=some 109)(f7:p7.guard=none)
 (k8:p8.op=.indexAddr tb (.tmp 103) (.tmp 107))(e8:p8.dst=some 110)(f8:p8.guard=none)(k9:p9.op=.store te (.tmp 110) (.tmp 109))(e9:p9.dst=none)(f9:p9.guard=none)
 (l1:q1.op=.move (.tmp 13))(m1:q1.dst=some 111)(n1:q1.guard=none)(l2:q2.op=.convert tb ts (.tmp 111))(m2:q2.dst=some 112)(n2:q2.guard=none)
 (l3:q3.op=.assign (.tmp 112))(m3:q3.dst=some 8)(n3:q3.guard=none)
 {s:List UInt8}{x y:Int}{k:Nat}(v0:env 0=.d (.str s))(v1:env 1=.d (.int .i64 x))(v3:env 3=.d (.int .i64 y))(hk:k<s.length)(hA:Ok P fA [.int .i64 x,.int .i64 s.length] ⟨.d (.int .i64 k),true⟩)
 (K:oS P 113 w0 X rest Q (cN (cN (cN (cN (cN (cN (cN (cN (cN (cN (cN (cN (cN (cN env 101 .junk) 102 .junk) 13 .junk) 103 .junk) 104 .junk) 105 .junk) 106 .junk) 107 .junk) 108 .junk) 109 .junk) 110 .junk) 111 .junk) 112 .junk) 8 (.d (.str (s.set k (UInt8.ofNat (IntKind.u8.wrap y).toNat))))) H):
 oS P 113 w0 X (.seq (.region i1 [o1,o2,o3].toArray false) (.seq (.region i2 [p1,p2,p3,p4,p5,p6,p7,p8,p9].toArray false) (.seq (.region i3 [q1,q2,q3].toArray false) rest))) Q env H:=by
 intro r hr β a w sm
 have hN:a.tmps.size=113:=sm.size
 have z0:a.eval (.tmp 0)=.string ⟨s.toArray⟩:=by have h:=sm.get (.tmp 0);rw[show mT env (.tmp 0)=env 0 from rfl,v0]at h;exact h.str
 have z1:a.eval (.tmp 1)=.int .i64 x:=by have h:=sm.get (.tmp 1);rw[show mT env (.tmp 1)=env 1 from rfl,v1]at h;exact h.int
 have z3:a.eval (.tmp 3)=.int .i64 y:=by have h:=sm.get (.tmp 3);rw[show mT env (.tmp 3)=env 3 from rfl,v3]at h;exact h.int
 obtain⟨S,hS⟩:∃S:ByteArray,S=⟨s.toArray⟩:=⟨_,rfl⟩
 have hSl:S.size=s.length:=by rw[hS];simp[ByteArray.size]
 rw[←hS]at z0
 obtain⟨cap,hcap⟩:∃cap,grownCap w S.size 0 te=cap:=⟨_,rfl⟩
 refine wpIn_seq (yK (fun a w h=>Dd a w h) hr.seq1 ?_)
 refine jD g1 (v:=.string S) (w':=w) (by simp[execOp,h1,z0]) ?_
 rw[d1]
 have hcv:=Lib.run_convert_string_bytes (P:=P) w ts tb te S us ub ue
 rw[hcap]at hcv
 refine jD g2 (v:=.slice (some ⟨w.heap.size,0,none⟩) S.size cap) (w':=Lib.bytesWorld w te S) (by simp[execOp,h2,qP,hN,hcv]) ?_
 rw[d2]
 refine jD g3 (v:=.slice (some ⟨w.heap.size,0,none⟩) S.size cap) (w':=Lib.bytesWorld w te S) (by simp[execOp,h3,qP,oI,hN]) ?_
 rw[d3]
 have hb1:=Lib.bytesWorld_at_new w te S
 have hsz1:=Lib.bytesWorld_size w te S
 have hold1:=Lib.bytesWorld_at_old w te S
 have bel1:En w.heap.size w (Lib.bytesWorld w te S):=by
  refine⟨?_,?_,?_,by omega,fun j hj=>hold1 j hj,?_⟩<;>(unfold Lib.bytesWorld World.freeze;split<;>first|rfl|exact Nat.le_succ w.drawn)
 obtain⟨C,hC⟩:∃C,Lib.bytesCells w te S=C:=⟨_,rfl⟩
 rw[hC]at hb1
 generalize Lib.bytesWorld w te S=w1 at hb1 hsz1 hold1 bel1⊢
 show Code.wpIn (RF r) 0 P _ _ _ _
 refine wpIn_seq (yK (fun a w h=>Dd a w h) hr.seq2.seq1 ?_)
 refine jD f1 (v:=.slice (some ⟨w.heap.size,0,none⟩) S.size cap) (w':=w1) (by simp[execOp,k1,qP,oI,hN]) ?_
 rw[e1]
 refine jD f2 (v:=.int .i64 x) (w':=w1) (by simp[execOp,k2,qP,oI,hN,z1]) ?_
 rw[e2]
 refine jD f3 (v:=.slice (some ⟨w.heap.size,0,none⟩) S.size cap) (w':=w1) (by simp[execOp,k3,qP,oI,hN]) ?_
 rw[e3]
 refine jD f4 (v:=.int .i64 S.size) (w':=w1) (by simp[execOp,k4,resolve,invoke,builtin,qP,oI,hN,qV ub]) ?_
 rw[e4]
 obtain⟨m1',_⟩:=sm.mem.grow bel1
 have hcall:=hA.2 w1 (fun _=>False) [.int .i64 x,.int .i64 s.length] ⟨fun _ h=>h.elim,m1'.glob.anti fun _ h=>h.elim⟩ (.cons (.int _ _) (.cons (.int _ _) .nil))
 obtain⟨fn,hfn,hname,hbody⟩:=hA.1
 refine HR f5 (f:=fA) (vs:= #[.int .i64 x,.int .i64 s.length]) (w':=w1) ?_ (hcall.mono ?_)
 ·have hbn:fn.body.isNone=false:=by cases q:fn.body<;>simp_all
  simp only[execOp,k5,resolve,Deferred.ofValue,Sem.run_bind,Sem.run_pure,Result.andThen_ok,invoke,callFunc,run_program,hfn,hname,Bool.false_eq_true,if_false,hbn,show∀a:Act,a.eval (.func fA)=.func (.func fA) #[] #[] from fun _=>rfl]
  simp[qP,oI,hN,hSl]
 rintro _ w2 ⟨v,rfl,bel2,hret⟩
 obtain⟨B,hret⟩:=hret
 have hv:v=.int .i64 k:=by
  have hret:RD w2 _ (.int .i64 (k:Int)) v:=hret
  cases hret;rfl
 subst hv
 refine⟨.int .i64 k,rfl,?_⟩
 rw[e5]
 refine jD f6 (v:=.int .i64 y) (w':=w2) (by simp[execOp,k6,qP,oI,hN,z3]) ?_
 rw[e6]
 refine jD f7 (v:=.int .u8 (IntKind.u8.wrap y)) (w':=w2) (by simp[execOp,k7,qP,oI,hN,convert,run_underlying ui,run_underlying ue,Conv.intToInt]) ?_
 rw[e7]
 refine jD f8 (v:=.pointer (some ⟨w.heap.size,k,none⟩)) (w':=w2) (by simp[execOp,k8,qP,oI,hN,Instr.indexAt,asIntOf,run_underlying ub,hso,hSl,hk,RE]) ?_
 rw[e8]
 have hb2:w2.heap[w.heap.size]? =some (.cells C te (C.size,C.size+1)):=by rw[bel2.block _ (by omega)];exact hb1
 have hCs:S.size≤C.size:=by rw[←hC];unfold Lib.bytesCells;rw[Array.size_append,Array.size_map];exact Nat.le_add_right _ _
 obtain⟨C3,hC3⟩:∃C3,C.setIfInBounds k (.int .u8 (IntKind.u8.wrap y))=C3:=⟨_,rfl⟩
 have hst:=Ek (P:=P) (w:=w2) hso (n:=IntKind.u8.wrap y) hb2 (show k<C.size by omega) (Nat.le_refl _)
 rw[hC3]at hst
 refine HQ f9 (w':=w2.setRow w.heap.size C3) (by simp[execOp,k9,qP,oI,hN,Instr.storeAt,Instr.sureAddr,hst]) ?_
 rw[e9,PX]
 have hb3:=setRow_heap w2 w.heap.size C C3 te (C.size,C.size+1) hb2
 have bel3:En w.heap.size w (w2.setRow w.heap.size C3):=by
  refine⟨bel2.os.trans bel1.os,bel2.tape.trans bel1.tape,bel2.output.trans bel1.output,?_,fun j hj=>?_,Nat.le_trans bel1.drawn bel2.drawn⟩
  ·have:=bel1.size;have:=bel2.size;simp[World.setRow];omega
  ·rw[setRow_other _ _ _ _ (by omega),bel2.block j (by omega),bel1.block j hj]
 generalize w2.setRow w.heap.size C3=w3 at hb3 bel3⊢
 show Code.wpIn (RF r) 0 P _ _ _ _
 refine wpIn_seq (yK (fun a w h=>Dd a w h) hr.seq2.seq2.seq1 ?_)
 refine jD n1 (v:=.slice (some ⟨w.heap.size,0,none⟩) S.size cap) (w':=w3) (by simp[execOp,l1,qP,oI,hN]) ?_
 rw[m1]
 obtain⟨s2,hs2⟩:∃s2,s.set k (UInt8.ofNat (IntKind.u8.wrap y).toNat)=s2:=⟨_,rfl⟩
 have hl2:s2.length=S.size:=by rw[←hs2,List.length_set,hSl]
 have hbk:=run_convert_bytes_back (P:=P) w3 tb ts te ⟨w.heap.size,0,none⟩ cap s2 ub ue us (fun j hj=>by
  rw[RE,cell_of_row w3 _ j _ te _ hb3,←hC3,←hC,Array.getElem?_setIfInBounds]
  have hjs:j<s.length:=by omega
  have hu:0≤IntKind.u8.wrap y∧IntKind.u8.wrap y<256:=by
   unfold IntKind.wrap
   simp[IntKind.bits,IntKind.signed]
   omega
  subst hs2
  rw[List.getElem_set]
  by_cases e:k=j
  ·subst e
   rw[if_pos rfl,if_pos (by rw[hC];omega),if_pos rfl]
   have hn:(UInt8.ofNat (IntKind.u8.wrap y).toNat).toNat=(IntKind.u8.wrap y).toNat:=by rw[UInt8.toNat_ofNat'];omega
   rw[hn,Int.toNat_of_nonneg hu.1]
  ·rw[if_neg e,if_neg e]
   simp[Lib.bytesCells,Array.getElem?_append,hS,hjs])
 rw[hl2]at hbk
 refine jD n2 (v:=.string ⟨s2.toArray⟩) (w':=w3) (by simp[execOp,l2,qP,oI,hN,hbk]) ?_
 rw[m2]
 refine jD n3 (v:=.string ⟨s2.toArray⟩) (w':=w3) (by simp[execOp,l3,qP,oI,hN]) ?_
 rw[m3]
 rw[hs2]at K
 obtain⟨m3',g3'⟩:=sm.mem.grow bel3
 have ok:∀d,d<113→nM 113 (some d):=fun d h=>h
 have t1:=sm.put m3' g3' (.junk (.string S)) (ok 101 (by decide))
 have t2:=t1.put m3' lF.refl (.junk (.slice (some ⟨w.heap.size,0,none⟩) S.size cap)) (ok 102 (by decide))
 have t3:=t2.put m3' lF.refl (.junk (.slice (some ⟨w.heap.size,0,none⟩) S.size cap)) (ok 13 (by decide))
 have t4:=t3.put m3' lF.refl (.junk (.slice (some ⟨w.heap.size,0,none⟩) S.size cap)) (ok 103 (by decide))
 have t5:=t4.put m3' lF.refl (.junk (.int .i64 x)) (ok 104 (by decide))
 have t6:=t5.put m3' lF.refl (.junk (.slice (some ⟨w.heap.size,0,none⟩) S.size cap)) (ok 105 (by decide))
 have t7:=t6.put m3' lF.refl (.junk (.int .i64 S.size)) (ok 106 (by decide))
 have t8:=t7.put m3' lF.refl (.junk (.int .i64 k)) (ok 107 (by decide))
 have t9:=t8.put m3' lF.refl (.junk (.int .i64 y)) (ok 108 (by decide))
 have Sj:=t9.put m3' lF.refl (.junk (.int .u8 (IntKind.u8.wrap y))) (ok 109 (by decide))
 have Sk:=Sj.put m3' lF.refl (.junk (.pointer (some ⟨w.heap.size,k,none⟩))) (ok 110 (by decide))
 have Sl:=Sk.put m3' lF.refl (.junk (.slice (some ⟨w.heap.size,0,none⟩) S.size cap)) (ok 111 (by decide))
 have t13:=Sl.put m3' lF.refl (.junk (.string ⟨s2.toArray⟩)) (ok 112 (by decide))
 have t14:=t13.put m3' lF.refl (Ac s2) (ok 8 (by decide))
 have K:=K r hr.seq2.seq2.seq2 β _ w3 t14
 exact K
end
end Go.Eng
namespace Go.Eng
open Go.Proofs
attribute[local simp] mW kX iB bC mT fY hZ nM cN bG oZ.plain oZ.cond oZ.fail dP lW sT mM fP kN lG lH memless mF eJ iW tP Ee hO fI strip oL dV lK bU
 qC fQ iH iC iG oT lk cD dR bP bV bX nK eT oP iF iZ bS eK bK dG iA eV eW dW eX gF gG gH eY dX eZ dY fB gJ gK gN gO fC gR oK nH mkAgg sO AT jI bD hU aX.live TK.isNone TK.agg TK.isBool TK.isStr TK.isStruct Op.operands Call.operands
 bE cO cH cW eE nI lB cU dH iE eO kP aP frozen lI
 jM jN lC gD jP jQ jR jV lD gE jX jY jZ kC rJ lR nO nP nR nS nU kD jK gC eU Nm.d Df.d Ed.d xD xE nE xF jL rU rV dA dB
 xH xI rK xJ xK rL rM rN nV xL xM rO
 bT bA dJ lJ dK bR cB bM eN uF TK.isInt jO jW nQ gM hF dI eL eM fV eS fO lX sA nD wW rI
 nC kR mC mU cL eA dS kW jE jF iV sD gS cZ gT gU cD jT jU nN iI gV kE gP gQ fE
 cK gZ TK.isPtr eF bZ kF oU pR jS kA nT gI gL fD
attribute[local simp] dZ kG gW
section
attribute[local simp] oZ.cond Nd.d_eq nd_t nd_dr nd_td ndsD bJ
theorem PY{n:Int}(h0:0≤n)(h1:n<4):(oW.map DV.str)[n.toNat]?.getD default=.str (oW.getD n.toNat []):=by
 have hk:n.toNat<oW.length:=by show _<4;omega
 rw[List.getElem?_map,List.getElem?_eq_getElem hk]
 simp[List.getD_eq_getElem?_getD,hk]
theorem PZ{n:Int}(h0:0≤n)(h1:n<26):(nY.map DV.str)[n.toNat]?.getD default=.str (nY.getD n.toNat []):=by
 have hk:n.toNat<nY.length:=by show _<26;omega
 rw[List.getElem?_map,List.getElem?_eq_getElem hk]
 simp[List.getD_eq_getElem?_getD,hk]
theorem HT(k:Nat):(nY.getD k []).length≤17:=by
 rw[List.getD_eq_getElem?_getD]
 cases e:nY[k]? with
 |none=>simp
 |some w=>exact(by decide:∀w∈nY,w.length≤17) w (List.mem_of_getElem? e)
theorem HU(k:Nat):(oW.getD k []).length≤3:=by
 rw[List.getD_eq_getElem?_getD]
 cases e:oW[k]? with
 |none=>simp
 |some w=>exact(by decide:∀w∈oW,w.length≤3) w (List.mem_of_getElem? e)
theorem Qa(y:Int):IntKind.u8.wrap y=y.emod 256:=by
 unfold IntKind.wrap
 simp[IntKind.bits,IntKind.signed]
 rfl
def JB(s w:aR)(a b c:Int)(p q:Nat):aR:=
 if c=0 then s.take p++s.drop q
 else if c=1 then s.take q++32::s.drop p
 else if c=2 then s.take p++32::(w++32::s.drop q)
 else if c=3 then s.take p
 else if c=4 then s.take p++w++32::s.drop p
 else s.set (fJ a s.length).toNat (UInt8.ofNat (b.emod 256).toNat)
theorem Qb{s:aR}{a how b:Int}(h:(fL s).1=[]):qJ s a how b=s++oW.getD (fJ b 4).toNat []:=by
 unfold qJ;rw[h]
theorem OF{s:aR}{T:List Tk}{a how b:Int}{t:Tk}{p q:Nat}(h:(fL s).1=T)(h0:T≠[])(ht:T[(fJ a T.length).toNat]? =some t)(hp:t.at_=p)(hq:Pj t=q):
 qJ s a how b=JB s (nY.getD (fJ b 26).toNat []) a b (fJ how 6) p q:=by
 unfold qJ
 cases e:T with
 |nil=>exact absurd e h0
 |cons x r=>
  subst e
  rw[h]
  have hd:(x::r).getD (fJ a ((r.length+1:Nat):Int)).toNat default=t:=by
   rw[List.getD_eq_getElem?_getD]
   have ht:(x::r)[(fJ a ((r.length+1:Nat):Int)).toNat]? =some t:=ht
   rw[ht];rfl
  simp only[hd,hp,hq,Int.toNat_natCast]
  rfl
theorem Kp(s:aR)(a how b:Int):(qJ s a how b).length≤2*s.length+40:=by
 unfold qJ
 split
 ·have:=HU (fJ b 4).toNat
  rw[List.length_append];omega
 ·have hw:=HT (fJ b 26).toNat
  simp only[]
  generalize nY.getD (fJ b 26).toNat []=w at hw
  split
  ·simp only[List.length_append,List.length_take,List.length_drop];omega
  ·split
   ·simp only[List.length_append,List.length_take,List.length_drop,List.length_cons];omega
   ·split
    ·simp only[List.length_append,List.length_take,List.length_drop,List.length_cons];omega
    ·split
     ·simp only[List.length_take];omega
     ·split
      ·simp only[List.length_append,List.length_take,List.length_drop,List.length_cons];omega
      ·rw[List.length_set];omega
set_option maxRecDepth 10000 in
theorem Cm(s:aR)(a how b:Int)(hs:s.length≤900000000)(ha: -9223372036854775808≤a∧a≤9223372036854775807)(hh: -9223372036854775808≤how∧how≤9223372036854775807)(hb: -9223372036854775808≤b∧b≤9223372036854775807):Ok Tryz.prog 12 [.str s,aC a,aC how,aC b] ⟨.d (.str (qJ s a how b)),true⟩:=by
 refine Ok.ret Tryz.func12 (by kernel_rfl) (c:=_) rfl Tryz.ntmps12 (by simp) Tryz.results12 (by intro _ h;cases h) fun w0 X hp=>?_
 obtain⟨T,hT1⟩:∃T,(fL s).1=T:=⟨_,rfl⟩
 have hin:∀t∈T,RO s t:=fun t ht=>NM (hT1▸ht)
 have htl:T.length≤s.length:=by rw[←hT1];exact vG _ _ _
 have a4:=sI b 4 (by decide)
 have a26:=sI b 26 (by decide)
 have a6:=sI how 6 (by decide)
 have r4:=sL b 4 hb.1 hb.2 (by decide)
 have r26:=sL b 26 hb.1 hb.2 (by decide)
 have r6:=sL how 6 hh.1 hh.2 (by decide)
 refine oS.sy ?_
 simp
 refine oS.seq ?_
 have hsc:=NN s (by omega)
 rw[hT1]at hsc
 refine oS.ro hT hW (fun|16=>some<| .plain ⟨.tup [.d (.sl (T.map Tk.r)),.d (aC (fL s).2)],true⟩|_=>none) ?_
 simp[dO]
 refine⟨hsc,?_⟩
 refine oS.seq ?_
 refine oS.sy ?_
 simp
 refine aB ?_
 simp
 refine⟨fun h2=>?_,fun h2=>?_⟩
 ·have hnil:(fL s).1=[]:=by rw[hT1];first|exact h2|exact List.eq_nil_of_length_eq_zero (by omega)
  refine oS.seq ?_
  have hc:=PY a4.1 a4.2
  have hcl:=HU (fJ b 4).toNat
  obtain⟨z,hz⟩:∃z,oW.getD (fJ b 4).toNat []=z:=⟨_,rfl⟩
  rw[hz]at hc hcl
  simp[oW]at hc
  refine oS.ro hT hW (fun|25=>some<| .plain ⟨.d (aC (fJ b 4)),true⟩|_=>none) ?_
  simp[hc]
  refine⟨⟨⟨⟨⟨by decide,r4⟩,by omega⟩,by omega⟩,by omega⟩,?_⟩
  refine oS.ret ?_
  simp
  rw[Qb hnil,hz]
 ·have hne:T≠[]:=fun e=>by rw[e]at h2;simp at h2
  have hpos:0<T.length:=List.length_pos_iff.2 hne
  have aT:=sI a (T.length:Int) (by omega)
  have rT:=sL a (T.length:Int) ha.1 ha.2 (by omega)
  obtain⟨j,hj⟩:∃j:Nat,fJ a (T.length:Int)=(j:Int):=⟨(fJ a (T.length:Int)).toNat,by omega⟩
  have hjl:j<T.length:=by omega
  obtain⟨t,htt⟩:∃t,T[j]=t:=⟨_,rfl⟩
  have hti:T[j]? =some t:=by rw[List.getElem?_eq_getElem hjl,htt]
  obtain⟨p,hpa,hpl,hpt⟩:=hin t (List.mem_of_getElem? hti)
  obtain⟨q,hq⟩:∃q:Nat,q=p+t.text.length:=⟨_,rfl⟩
  have hqe:Pj t=q:=by unfold Pj;rw[hpa,hq];simp
  have hqi:(p:Int)+(t.text.length:Int)=(q:Int):=by rw[hq];simp
  have hpl1:p≤s.length:=by omega
  have hql1:q≤s.length:=by omega
  have ech:=OF (a:=a) (how:=how) (b:=b) hT1 hne (by rw[hj,Int.toNat_natCast];exact hti) hpa hqe
  refine oS.skip ?_
  simp
  refine bY hT hW (fun|33=>some<| .plain ⟨.d (aC (j:Int)),true⟩|_=>none) ?_
  simp[hti,Tk.r,hpa,hqi]
  refine⟨⟨by simpa [hj]using rT,hjl⟩,?_⟩
  refine oS.seq ?_
  have hc:=PZ a26.1 a26.2
  have hcl:=HT (fJ b 26).toNat
  obtain⟨z,hz⟩:∃z,nY.getD (fJ b 26).toNat []=z:=⟨_,rfl⟩
  rw[hz]at hc hcl ech
  simp[nY]at hc
  refine oS.ro hT hW (fun|38=>some<| .plain ⟨.d (aC (fJ b 26)),true⟩|_=>none) ?_
  simp[hc]
  refine⟨⟨⟨⟨by decide,r26⟩,a26⟩,a26.2⟩,?_⟩
  refine oS.seq ?_
  refine bY hT hW (fun|42=>some<| .plain ⟨.d (aC (fJ how 6)),true⟩|_=>none) ?_
  simp
  refine⟨r6,?_⟩
  refine oS.block ?_
  refine oS.sy ?_
  simp
  refine aB ?_
  simp
  refine⟨fun h7=>?_,fun h7=>?_⟩
  ·refine oS.seq ?_
   refine mE (lQ [0,12,11] [(11,11)] (by decide) (by decide) (by simp[hp])) ?_
   simp
   refine aF hT hW bI (lk [[],[],[1],[0,1,2],[],[],[5],[4,5,6],[0,1,2,3,4,5,6,7],[0,1,2,3,4,5,6,7,8]]) (lk [[],[],[],[],[],[],[],[],[],[]]) (lk [[],[],[],[],[],[],[],[],[],[]]) (by kernel_rfl) (fun _=>none) (fun _=>⟨rfl,fun _ h=>h⟩) ?_
   simp
   refine⟨by(repeat' with_reducible apply And.intro)<;>first|omega|decide,?_⟩
   refine oS.ret ?_
   simp
   rw[ech];unfold JB;rw[if_pos h7]
  ·refine oS.sy ?_
   simp
   refine aB ?_
   simp
   refine⟨fun h9=>?_,fun h9=>?_⟩
   ·refine oS.seq ?_
    refine mE (lQ [0,12,11] [(11,11)] (by decide) (by decide) (by simp[hp])) ?_
    simp
    refine aF hT hW bI (lk [[],[],[1],[0,1,2],[0,1,2,3],[],[],[6],[5,6,7],[0,1,2,3,4,5,6,7,8],[0,1,2,3,4,5,6,7,8,9]]) (lk [[],[],[],[],[],[],[],[],[],[],[]]) (lk [[],[],[],[],[],[],[],[],[],[],[]]) (by kernel_rfl) (fun _=>none) (fun _=>⟨rfl,fun _ h=>h⟩) ?_
    simp
    refine⟨by(repeat' with_reducible apply And.intro)<;>first|omega|decide,?_⟩
    refine oS.ret ?_
    simp
    rw[ech];unfold JB;rw[if_neg h7,if_pos h9]
   ·refine oS.sy ?_
    simp
    refine aB ?_
    simp
    refine⟨fun h11=>?_,fun h11=>?_⟩
    ·refine oS.seq ?_
     refine mE (lQ [0,12,11] [(11,11)] (by decide) (by decide) (by simp[hp])) ?_
     simp
     refine aF hT hW bI (lk [[],[],[1],[0,1,2],[0,1,2,3],[],[0,1,2,3,4,5],[0,1,2,3,4,5,6],[],[],[9],[8,9,10],[0,1,2,3,4,5,6,7,8,9,10,11],[0,1,2,3,4,5,6,7,8,9,10,11,12]]) (lk [[],[],[],[],[],[],[],[],[],[],[],[],[],[]]) (lk [[],[],[],[],[],[],[],[],[],[],[],[],[],[]]) (by kernel_rfl) (fun _=>none) (fun _=>⟨rfl,fun _ h=>h⟩) ?_
     simp
     refine⟨by(repeat' with_reducible apply And.intro)<;>first|omega|decide,?_⟩
     refine oS.ret ?_
     simp
     rw[ech];unfold JB;rw[if_neg h7,if_neg h9,if_pos h11]
    ·refine oS.sy ?_
     simp
     refine aB ?_
     simp
     refine⟨fun h13=>?_,fun h13=>?_⟩
     ·refine oS.sy ?_
      simp
      refine⟨by(repeat' with_reducible apply And.intro)<;>first|omega|decide,?_⟩
      refine oS.ret ?_
      simp
      rw[ech];unfold JB;rw[if_neg h7,if_neg h9,if_neg h11,if_pos h13]
     ·refine oS.sy ?_
      simp
      refine aB ?_
      simp
      refine⟨fun h15=>?_,fun h15=>?_⟩
      ·refine oS.seq ?_
       refine mE (lQ [0,12,11] [(11,11)] (by decide) (by decide) (by simp[hp])) ?_
       simp
       refine aF hT hW bI (lk [[],[],[1],[0,1,2],[],[0,1,2,3,4],[0,1,2,3,4,5],[],[],[8],[7,8,9],[0,1,2,3,4,5,6,7,8,9,10],[0,1,2,3,4,5,6,7,8,9,10,11]]) (lk [[],[],[],[],[],[],[],[],[],[],[],[],[]]) (lk [[],[],[],[],[],[],[],[],[],[],[],[],[]]) (by kernel_rfl) (fun _=>none) (fun _=>⟨rfl,fun _ h=>h⟩) ?_
       simp
       refine⟨by(repeat' with_reducible apply And.intro)<;>first|omega|decide,?_⟩
       refine oS.ret ?_
       simp
       rw[ech];unfold JB;rw[if_neg h7,if_neg h9,if_neg h11,if_neg h13,if_pos h15];simp
      ·refine oS.skip ?_
       simp
       have aS:=sI a (s.length:Int) (by omega)
       have rS:=sL a (s.length:Int) ha.1 ha.2 (by omega)
       obtain⟨m,hm⟩:∃m:Nat,fJ a (s.length:Int)=(m:Int):=⟨(fJ a (s.length:Int)).toNat,by omega⟩
       rw[hm]at rS
       refine HS hT (by kernel_rfl) (by kernel_rfl) (by kernel_rfl) (by kernel_rfl) (fun w=>cQ (w:=w) hT (t:=5) rfl) rfl rfl rfl rfl rfl rfl rfl rfl rfl rfl rfl rfl rfl rfl rfl rfl rfl rfl rfl rfl rfl rfl rfl rfl rfl rfl rfl rfl rfl rfl rfl rfl rfl rfl rfl rfl rfl rfl rfl rfl rfl rfl rfl rfl rfl (s:=s) (x:=a) (y:=b) (k:=m) (by simp) (by simp) (by simp) (by omega) rS ?_
       refine oS.ret ?_
       simp
       rw[ech];unfold JB;rw[if_neg h7,if_neg h9,if_neg h11,if_neg h13,if_neg h15,hm,Qa];rfl
end
end Go.Eng
namespace Go.Eng
open Go.Proofs
theorem yB{α:Type}{p:α→Prop}{l:List α}{d:α}(h:∀x∈l,p x){k:Nat}(hk:k<l.length):p (l.getD k d):=by
 rw[List.getD_eq_getElem?_getD,List.getElem?_eq_getElem hk]
 exact h _ (List.getElem_mem hk)
theorem rE(L:List Int)(i:Nat):cR (iT L i) true=true:=by
 have h:=bW L i 8 (by decide)
 exact yB (p:=fun w=>cR w true=true) (by decide:∀w∈BT,cR w true=true) (show(jH L i 8).toNat<8 by omega)
theorem Fu(L:List Int)(i:Nat):cR (oN L i) false=true:=by
 have h:=bW L i 4 (by decide)
 exact yB (p:=fun w=>cR w false=true) (by decide:∀w∈GT,cR w false=true) (show(jH L i 4).toNat<4 by omega)
theorem yC{k:Int}{t:aR}{n:Int}{ks:List Nd}(h:0≤k∧k≤6):0≤(Nd.mk k t n ks).kind∧(Nd.mk k t n ks).kind≤6:=h
theorem kZ{k:Int}{t:aR}{n:Int}(h0:0≤k∧k<37)(h1:cT k []=true)(h2:fF k≤n∧n≤fH k)(h3:kH k t=true):aI (.mk k t n [])=true:=
 right_mk.2 ⟨h0.1,h0.2,h1,h2.1,h2.2,h3,fun x hx=>by cases hx⟩
theorem yD(L:List Int)(i:Nat):aI (.mk 33 (oN L i) 0 [])=true:=kZ (by decide) rfl (by decide) (Fu L i)
theorem rX(L:List Int)(i:Nat):aI (dQ L i).1=true∧nW (dQ L i).1.kind=true:=by
 unfold dQ
 split
 ·exact⟨kZ (by decide) rfl (by decide) (rE L (i+1)),rfl⟩
 ·exact⟨kZ (by decide) rfl (by decide) (GZ (rE L (i+1)) (rE L (i+2))),rfl⟩
theorem Cn(L:List Int):∀(d i:Nat),aI (aN L d i).1=true∧aH (aN L d i).1.kind=true:=fun d=>by
 induction d with
 |zero=>
  intro i
  obtain⟨r0,_,r2⟩:=lZ L 0 i
  have r2:=r2 rfl
  by_cases h0:dU L 0 i=0∨dU L 0 i=1
  ·rw[oG h0]
   have hr:=bW L (i+1) 6 (by decide)
   exact⟨kZ (by decide) rfl (yB (p:=fun n:Int=>fF 32≤n∧n≤fH 32) (by decide:∀n∈Aw,fF 32≤n∧n≤fH 32) (show(jH L (i+1) 6).toNat<6 by omega)) rfl,rfl⟩
  ·by_cases h1:dU L 0 i=2
   ·rw[oH h1];exact⟨yD L (i+1),rfl⟩
   ·by_cases h2:dU L 0 i=3∨dU L 0 i=4
    ·rw[lV h2];exact⟨(rX L (i+1)).1,tA (rX L (i+1)).2⟩
    ·rw[mS (by omega)];exact⟨kZ (by decide) rfl (by decide) rfl,rfl⟩
 |succ e ih=>
  intro i
  obtain⟨r0,r1,_⟩:=lZ L (e+1) i
  by_cases h0:dU L (e+1) i=0∨dU L (e+1) i=1
  ·rw[oG h0]
   have hr:=bW L (i+1) 6 (by decide)
   exact⟨kZ (by decide) rfl (yB (p:=fun n:Int=>fF 32≤n∧n≤fH 32) (by decide:∀n∈Aw,fF 32≤n∧n≤fH 32) (show(jH L (i+1) 6).toNat<6 by omega)) rfl,rfl⟩
  ·by_cases h1:dU L (e+1) i=2
   ·rw[oH h1];exact⟨yD L (i+1),rfl⟩
   ·by_cases h3:dU L (e+1) i=3∨dU L (e+1) i=4
    ·rw[lV h3];exact⟨(rX L (i+1)).1,tA (rX L (i+1)).2⟩
    ·by_cases h4:dU L (e+1) i=5
     ·rw[mS h4];exact⟨kZ (by decide) rfl (by decide) rfl,rfl⟩
     ·rw[vH (by omega)]
      exact Bg (by omega) (by omega) (ih (i+1)) (ih (aN L e (i+1)).2)
theorem oJ{k:Int}{t:aR}{n:Int}{ks:List Nd}(hk:9≤k∧k≤25)(h1:kH k t=true)(h2:fF k≤n∧n≤fH k)(h3:cT k ks=true)(h4:∀x∈ks,aI x=true):
 aI (.mk k t n ks)=true∧cM (Nd.mk k t n ks).kind=true:=⟨right_mk.2 ⟨by omega,by omega,h3,h2.1,h2.2,h1,h4⟩,tY.2 hk⟩
theorem OG{x:Nd}(h:aI x=true):∀y∈[x],aI y=true:=fun y hy=>by rw[List.mem_singleton.1 hy];exact h
theorem DZ{L:List Int}{d i:Nat}{bl:Nat→Nd×Nat}(hb:0<d→∀j,aI (bl j).1=true∧cF (bl j).1.kind=true):aI (Ct L d bl i).1=true∧cM (Ct L d bl i).1.kind=true:=by
 obtain⟨k,hk⟩:∃k,Jx L d i=k:=⟨_,rfl⟩
 obtain⟨r0,r1,r2⟩:=wH hk
 rw[mB hk]
 have v1:=fun j=>Cn L 1 j
 have v2:=fun j=>Cn L 2 j
 have pl:=rX L (i+1)
 have cl:=rE L (i+1)
 have ol:=Fu L (i+1)
 unfold xY
 split
 ·rename_i q;subst q
  exact oJ (by decide) ol (by decide) (by simp[cT,cS,(v2 (i+1+1)).2]) (OG (v2 (i+1+1)).1)
 split
 ·rename_i q;subst q
  refine oJ (by decide) rfl (by decide) (by simp[cT,cS,pl.2,(v2 (dQ L (i+1)).2).2]) fun y hy=>?_
  simp only[List.mem_cons,List.not_mem_nil,or_false]at hy
  rcases hy with rfl|rfl
  ·exact pl.1
  ·exact(v2 _).1
 split
 ·rename_i q
  have hb:=hb (r2 q)
  have a1:=v1 (i+1)
  have a2:=hb (aN L 1 (i+1)).2
  have a3:=hb ((bl (aN L 1 (i+1)).2).2+1)
  have m2:∀y∈[(aN L 1 (i+1)).1,(bl (aN L 1 (i+1)).2).1],aI y=true:=fun y hy=>by
   simp only[List.mem_cons,List.not_mem_nil,or_false]at hy
   rcases hy with rfl|rfl
   ·exact a1.1
   ·exact a2.1
  have m3:∀y∈[(aN L 1 (i+1)).1,(bl (aN L 1 (i+1)).2).1,(bl ((bl (aN L 1 (i+1)).2).2+1)).1],aI y=true:=fun y hy=>by
   simp only[List.mem_cons,List.not_mem_nil,or_false]at hy
   rcases hy with rfl|rfl|rfl
   ·exact a1.1
   ·exact a2.1
   ·exact a3.1
  split
  ·rename_i q2;subst q2
   split
   ·exact oJ (by decide) rfl (by decide) (by simp[cT,cS,a1.2,a2.2,a3.2]) m3
   ·exact oJ (by decide) rfl (by decide) (by simp[cT,cS,a1.2,a2.2]) m2
  ·rename_i q2
   have q3:k=12:=by omega
   subst q3
   exact oJ (by decide) rfl (by decide) (by simp[cT,cS,a1.2,a2.2]) m2
 split
 ·rename_i q
  rcases q with rfl|rfl|rfl|rfl<;>exact oJ (by decide) cl (by decide) rfl fun x hx=>by cases hx
 split
 ·rename_i q
  rcases q with rfl|rfl<;>exact oJ (by decide) cl (by decide) (by simp[cT,cS,(v1 (i+1+1)).2]) (OG (v1 (i+1+1)).1)
 split
 ·rename_i q
  rcases q with rfl|rfl<;>exact oJ (by decide) cl (by decide) rfl (OG (yD L (i+1+1)))
 split
 ·rename_i q;subst q
  have hr:=bW L (((i+1:Nat):Int)+1) 5 (by decide)
  have e1:fF 19=2:=rfl
  have e2:fH 19=6:=rfl
  exact oJ (by decide) ol (by omega) rfl fun x hx=>by cases hx
 split
 ·rename_i q;subst q
  exact oJ (by decide) ol (by decide) rfl fun x hx=>by cases hx
 split
 ·rename_i q;subst q
  have hr:=bW L ((i+1:Nat):Int) 9 (by decide)
  have e1:fF 21=1:=rfl
  have e2:fH 21=9:=rfl
  exact oJ (by decide) rfl (by omega) rfl fun x hx=>by cases hx
 split
 ·rename_i q;subst q
  have hr:=bW L ((i+1:Nat):Int) 99 (by decide)
  have e1:fF 25=1:=rfl
  have e2:fH 25=99:=rfl
  exact oJ (by decide) rfl (by omega) rfl fun x hx=>by cases hx
 ·have q:k=24:=by omega
  subst q
  exact oJ (by decide) rfl (by decide) (by simp[cT,cS,(v2 (i+1)).2]) (OG (v2 (i+1)).1)
theorem Co{L:List Int}{st:Nat→Nd×Nat}(h:∀j,aI (st j).1=true∧cM (st j).1.kind=true):∀(m:Nat) (ks:List Nd) (j:Nat),(∀x∈ks,aI x=true∧cM x.kind=true)→∀x∈(kM L st m ks j).1,aI x=true∧cM x.kind=true
 |0,ks,j,hk=>by simpa [kM]using hk
 |m+1,ks,j,hk=>by
  unfold kM
  split
  ·exact hk
  ·refine Co h m _ _ fun x hx=>?_
   rcases List.mem_append.1 hx with hx|hx
   ·exact hk x hx
   ·rw[List.mem_singleton.1 hx];exact h j
theorem JC{L:List Int}{st:Nat→Nd×Nat}(h:∀j,aI (st j).1=true∧cM (st j).1.kind=true)(i:Nat):aI (tZ L st i).1=true∧cF (tZ L st i).1.kind=true:=
 ⟨xR (Co h _ [] _ fun x hx=>by cases hx),rfl⟩
theorem Fv(L:List Int):∀d i,aI (nX L d i).1=true∧cM (nX L d i).1.kind=true
 |0,i=>by rw[nX];exact DZ fun h=>absurd h (Nat.lt_irrefl 0)
 |d+1,i=>by rw[nX];exact DZ fun _ j=>JC (Fv L d) j
theorem Ea(L:List Int):∀(m:Nat) (ks:List Nd) (j:Nat),(∀x∈ks,aI x=true∧cM x.kind=true)→∀x∈rQ L m ks j,aI x=true∧cM x.kind=true
 |0,ks,j,hk=>by simpa [rQ]using hk
 |m+1,ks,j,hk=>by
  unfold rQ
  split
  ·exact hk
  ·refine Ea L m _ _ fun x hx=>?_
   rcases List.mem_append.1 hx with hx|hx
   ·exact hk x hx
   ·rw[List.mem_singleton.1 hx];exact Fv L 2 j
theorem yE(L:List Int):∀c,∀x∈qI L c,aI x=true∧tX x.kind=true
 |0,x,hx=>by cases hx
 |c+1,x,hx=>by
  rw[qI]at hx
  rcases List.mem_append.1 hx with hx|hx
  ·exact yE L c x hx
  ·rw[List.mem_singleton.1 hx]
   have hr:=bW L (4+2*c) 1999 (by decide)
   have e1:fF 7= -999:=rfl
   have e2:fH 7=999:=rfl
   exact⟨kZ (by decide) rfl (by omega) (rE L (3+2*c)),rfl⟩
theorem zZ(l:List Int):aI (wM l)=true∧0≤(wM l).kind∧(wM l).kind≤6:=by
 unfold wM
 generalize l.take 48=L
 have cl:=rE L 1
 have hk:=bW L 0 10 (by decide)
 have hx:=yB (p:=fun n:Int=>0≤n∧n≤6) (d:=0) (by decide:∀n∈kJ,0≤n∧n≤6) (show(jH L 0 10).toNat<10 by omega)
 unfold sV
 simp only[]
 generalize kJ.getD (jH L 0 10).toNat 0=k at hx
 split
 ·rename_i q;subst q
  have hr:=bW L 2 1999 (by decide)
  have e1:fF 0= -999:=rfl
  have e2:fH 0=999:=rfl
  exact⟨kZ (by decide) rfl (by omega) cl,yC (by decide)⟩
 split
 ·rename_i q;subst q
  have hr:=bW L 2 4 (by decide)
  have e1:fF 2=0:=rfl
  have e2:fH 2=3:=rfl
  exact⟨kZ (by decide) rfl (by omega) cl,yC (by decide)⟩
 split
 ·rename_i q;subst q
  exact⟨right_mk.2 ⟨by decide,by decide,List.all_eq_true.2 fun x hx=>(yE L _ x hx).2,by decide,by decide,cl,fun x hx=>(yE L _ x hx).1⟩,yC (by decide)⟩
 split
 ·rename_i q
  have hb:aI (.mk 8 [] 0 (rQ L L.length [] 2))=true:=xR (Ea L _ [] 2 fun x hx=>by cases hx)
  rcases q with rfl|rfl<;>exact⟨right_mk.2 ⟨by decide,by decide,rfl,by decide,by decide,cl,OG hb⟩,yC (by decide)⟩
 ·have q:k=3∨k=4:=by omega
  rcases q with rfl|rfl<;>exact⟨kZ (by decide) rfl (by decide) cl,yC (by decide)⟩
theorem HV(l:List Int):Le (wM l):=Bj (zZ l).1 (zZ l).2.1 (zZ l).2.2
end Go.Eng
namespace Go.Eng
open Go.Proofs
attribute[local simp] mW kX iB bC mT fY hZ nM cN bG oZ.plain oZ.cond oZ.fail dP lW sT mM fP kN lG lH memless mF eJ iW tP Ee hO fI strip oL dV lK bU
 qC fQ iH iC iG oT lk cD dR bP bV bX nK eT oP iF iZ bS eK bK dG iA eV eW dW eX gF gG gH eY dX eZ dY fB gJ gK gN gO fC gR oK nH mkAgg sO AT jI bD hU aX.live TK.isNone TK.agg TK.isBool TK.isStr TK.isStruct Op.operands Call.operands
 bE cO cH cW eE nI lB cU dH iE eO kP aP frozen lI
 jM jN lC gD jP jQ jR jV lD gE jX jY jZ kC rJ lR nO nP nR nS nU kD jK gC eU Nm.d Df.d Ed.d xD xE nE xF jL rU rV dA dB
 xH xI rK xJ xK rL rM rN nV xL xM rO
 bT bA dJ lJ dK bR cB bM eN uF TK.isInt jO jW nQ gM hF dI eL eM fV eS fO lX sA nD wW rI
 nC kR mC mU cL eA dS kW jE jF iV sD gS cZ gT gU cD jT jU nN iI gV kE gP gQ fE
 cK gZ TK.isPtr eF bZ kF oU pR jS kA nT gI gL fD
attribute[local simp] dZ kG gW
section
attribute[local simp] oZ.cond Nd.d_eq nd_t nd_dr nd_td ndsD bJ
theorem Mc{x:Nd}(h:Le x):(textT x).length≤40*weighN x+40:=by
 obtain⟨_,h⟩:=h
 have hw:=weighN_eq x
 have wl:=uX x.kind
 have il:=lU x.n
 have it:=tF x.kids
 unfold textT
 simp only[]
 split
 ·rename_i q
  split
  ·rename_i b hb
   have hB:nZ b:=by
    rcases h with⟨_,c,hx,hc⟩|⟨z,_⟩|⟨z,_⟩|⟨z,_⟩|⟨z,_⟩
    ·rw[hx]at hb
     have hb:[c]=[b]:=hb
     injection hb with hb _
     rw[←hb];exact hc
    all_goals omega
   have hl:=(iO b).2 hB
   rw[hb]at hw
   simp only[weighL]at hw
   simp only[List.length_append,List.length_cons];omega
  ·exact Nat.zero_le _
 ·split
  ·simp only[List.length_append,List.length_cons,List.length_nil];omega
  ·split
   ·simp only[List.length_append,List.length_cons,List.length_nil];omega
   ·split
    ·simp only[List.length_append,List.length_cons,List.length_nil];omega
    ·simp only[List.length_append,List.length_cons,List.length_nil];omega
theorem Md(l:List Int):(textT (wM l)).length≤40000040:=by
 have:=Mc (HV l)
 have:=DX l
 omega
end
end Go.Eng
namespace Go.Eng
open Go.Proofs
def Tz(z:List Tk)(p q:PS):Prop:=p.l=q.l++z∧p.e=q.e
def Ov(q:PS):Prop:=q.l=[]∧q.e≠0
def Pa(z:List Tk)(p:PS):Prop:=p.l.length<z.length
def Al{α:Type}(z:List Tk)(a b:α×PS):Prop:=(Tz z a.2 b.2∧(b.2.e=0→a.1=b.1))∨Ov b.2∨Pa z a.2
structure TR{α:Type}(z:List Tk)(n k:Nat)(x y:PS→α×PS):Prop where
 tr:∀p q,p.l.length<n→q.l.length<k→bH p.l→Tz z p q→q.e=0→Al z (x p) (y q)
 sx:∀p,(x p).2.l<:+p.l
 sy:∀p,(y p).2.l<:+p.l
 bx:∀p,p.e≠0→(x p).2=p
 bd:∀q,q.e≠0→(y q).2=q
variable{z:List Tk} {n k:Nat}
theorem oY{a b:List Tk}(h:a<:+b)(g:bH b):bH a:=fun t ht=>g t (h.mem ht)
theorem QY{p:PS}{e:Int}:(p.fail e).l<:+p.l:=by rw[oO];exact List.suffix_refl _
theorem El{p:PS}:p.skip.l<:+p.l:=List.tail_suffix _
theorem tL{p:PS}(h:p.e≠0):p.peek=[]:=jC (.inl h)
theorem Gi{p:PS}{w:aR}(h:p.e≠0):p.is w=false:=by
 cases e:p.is w with
 |false=>rfl
 |true=>obtain⟨a,b⟩:=fW.1 e;exact absurd ((tL h).symm.trans b).symm a
theorem AS{p:PS}{e:Int}(h:p.e≠0):p.fail e=p:=by unfold PS.fail;rw[if_neg h]
theorem Gj{q:PS}{w:aR}(h:q.l=[]):q.is w=false:=by
 cases e:q.is w with
 |false=>rfl
 |true=>obtain⟨a,b⟩:=fW.1 e;exact absurd ((jC (.inr h)).symm.trans b).symm a
theorem zC{q:PS}{e:Int}(h:q.l=[])(he:e≠0):Ov (q.fail e):=⟨by rw[oO];exact h,pM he⟩
theorem rF{p q:PS}(h:Tz z p q)(hq:q.l≠[]):p.peek=q.peek:=by
 obtain⟨h1,h2⟩:=h
 unfold PS.peek
 rw[h2,h1]
 cases e:q.l with
 |nil=>exact absurd e hq
 |cons t r=>rfl
theorem Cp{p q:PS}{w:aR}(h:Tz z p q)(hq:q.l≠[]):p.is w=q.is w:=by unfold PS.is;rw[rF h hq]
theorem pG{p q:PS}(h:Tz z p q)(hq:q.l≠[]):Tz z p.skip q.skip:=by
 obtain⟨h1,h2⟩:=h
 refine⟨?_,h2⟩
 show p.l.tail=q.l.tail++z
 rw[h1]
 cases e:q.l with
 |nil=>exact absurd e hq
 |cons t r=>rfl
theorem wI{p q:PS}{e:Int}(h:Tz z p q):Tz z (p.fail e) (q.fail e):=by
 refine⟨by rw[oO,oO];exact h.1,?_⟩
 unfold PS.fail
 rw[h.2]
 split<;>first|rfl|exact h.2
theorem QZ{p q:PS}(h:Tz z p q)(hq:q.l=[]):p.l=z:=by rw[h.1,hq];rfl
theorem Gk{p q:PS}(h:Tz z p q)(hq:q.l=[])(hp:p.peek≠[]):Pa z p.skip:=by
 have:=sZ hp
 have:=congrArg List.length (QZ h hq)
 unfold Pa;omega
theorem Pa.le{p q:PS}(h:Pa z p)(hs:q.l<:+p.l):Pa z q:=Nat.lt_of_le_of_lt hs.length_le h
theorem zD{α:Type}(a:α):TR z n k (fun p=>(a,p)) (fun q=>(a,q)):=
 ⟨fun _ _ _ _ _ h _=>.inl ⟨h,fun _=>rfl⟩,fun _=>List.suffix_refl _,fun _=>List.suffix_refl _,fun _ _=>rfl,fun _ _=>rfl⟩
theorem TR.bind{α β:Type}{x y:PS→α×PS}{gx gy:α→PS→β×PS}(h:TR z n k x y)(g:∀a,TR z n k (gx a) (gy a)):TR z n k (fun p=>gx (x p).1 (x p).2) (fun q=>gy (y q).1 (y q).2):=by
 refine⟨fun p q hn hk hg hz he=>?_,fun p=>((g _).sx _).trans (h.sx p),fun p=>((g _).sy _).trans (h.sy p),fun p hp=>?_,fun q hq=>?_⟩
 ·have ln:=(h.sx p).length_le
  have lk:=(h.sy q).length_le
  rcases h.tr p q hn hk hg hz he with⟨hz',hv⟩|ho|hpa
  ·by_cases e:(y q).2.e=0
   ·rw[hv e]
    exact(g _).tr _ _ (by omega) (by omega) (oY (h.sx p) hg) hz' e
   ·left
    have e2:(x p).2.e≠0:=by rw[hz'.2];exact e
    rw[(g _).bx _ e2,(g _).bd _ e]
    exact⟨hz',fun z=>absurd z e⟩
  ·right;left
   rw[(g _).bd _ ho.2];exact ho
  ·right;right
   exact hpa.le ((g _).sx _)
 ·rw[h.bx p hp];exact(g _).bx p hp
 ·rw[h.bd q hq];exact(g _).bd q hq
theorem TR.map{α β:Type}{x y:PS→α×PS}(h:TR z n k x y)(F:α→β):TR z n k (fun p=>(F (x p).1,(x p).2)) (fun q=>(F (y q).1,(y q).2)):=h.bind (gx:=fun a p=>(F a,p)) (gy:=fun a p=>(F a,p)) fun a=>zD (F a)
theorem tM{α:Type}{c:Prop}[Decidable c]{x y f g:PS→α×PS}(h1:c→TR z n k x y)(h2:¬c→TR z n k f g):TR z n k (fun p=>if c then x p else f p) (fun q=>if c then y q else g q):=by
 by_cases hc:c
 ·simp only[if_pos hc];exact h1 hc
 ·simp only[if_neg hc];exact h2 hc
theorem TR.need(w:aR):TR z n k (fun p=>((),p.need w)) (fun q=>((),q.need w)):=by
 have sn:∀p:PS,(p.need w).l<:+p.l:=fun p=>by unfold PS.need;split;exact El;exact QY
 have bn:∀p:PS,p.e≠0→p.need w=p:=fun p hp=>by unfold PS.need;rw[if_neg (by simp[Gi hp]),AS hp]
 refine⟨fun p q _ _ _ hz he=>?_,sn,sn,bn,bn⟩
 by_cases hq:q.l=[]
 ·right;left
  show Ov (q.need w)
  unfold PS.need;rw[if_neg (by simp[Gj hq])];exact zC hq (by decide)
 ·left
  refine⟨?_,fun _=>rfl⟩
  show Tz z (p.need w) (q.need w)
  unfold PS.need
  rw[Cp hz hq]
  split
  ·exact pG hz hq
  ·exact wI hz
theorem TR.name:TR z n k aD aD:=by
 have sn:∀p:PS,(aD p).2.l<:+p.l:=fun p=>by unfold aD;split;exact El;exact QY
 have bn:∀p:PS,p.e≠0→(aD p).2=p:=fun p hp=>by unfold aD;rw[tL hp];exact AS hp
 refine⟨fun p q _ _ _ hz he=>?_,sn,sn,bn,bn⟩
 by_cases hq:q.l=[]
 ·right;left
  unfold aD;rw[jC (p:=q) (.inr hq)];exact zC hq (by decide)
 ·left
  unfold aD
  rw[rF hz hq]
  split
  ·exact⟨pG hz hq,fun _=>rfl⟩
  ·exact⟨wI hz,fun _=>rfl⟩
theorem TR.local:TR z n k aM aM:=by
 have sn:∀p:PS,(aM p).2.l<:+p.l:=fun p=>by unfold aM;split;exact El;exact QY
 have bn:∀p:PS,p.e≠0→(aM p).2=p:=fun p hp=>by unfold aM;rw[tL hp];exact AS hp
 refine⟨fun p q _ _ _ hz he=>?_,sn,sn,bn,bn⟩
 by_cases hq:q.l=[]
 ·right;left
  unfold aM;rw[jC (p:=q) (.inr hq)];exact zC hq (by decide)
 ·left
  unfold aM
  rw[rF hz hq]
  split
  ·exact⟨pG hz hq,fun _=>rfl⟩
  ·exact⟨wI hz,fun _=>rfl⟩
theorem TR.numeral(m:Int):TR z n k (aG m) (aG m):=by
 have sn:∀p:PS,(aG m p).2.l<:+p.l:=fun p=>by
  unfold aG;split
  ·exact QY
  ·split
   ·split
    ·exact QY
    ·exact El
   ·exact QY
 have bn:∀p:PS,p.e≠0→(aG m p).2=p:=fun p hp=>by unfold aG;rw[tL hp];exact AS hp
 refine⟨fun p q _ _ _ hz he=>?_,sn,sn,bn,bn⟩
 by_cases hq:q.l=[]
 ·right;left
  unfold aG;rw[jC (p:=q) (.inr hq)];exact zC hq (by decide)
 ·left
  unfold aG
  rw[rF hz hq]
  split
  ·exact⟨wI hz,fun _=>rfl⟩
  ·split
   ·split
    ·exact⟨wI hz,fun _=>rfl⟩
    ·exact⟨pG hz hq,fun _=>rfl⟩
   ·exact⟨wI hz,fun _=>rfl⟩
theorem JD{α:Type}{w:aR}{f g h j:PS→α×PS}(h1:TR z n k f g)(h2:TR z n k h j):TR z n k (fun p=>if p.is w then f p.skip else h p) (fun q=>if q.is w then g q.skip else j q):=by
 refine⟨fun p q hn hk hg hz he=>?_,fun p=>?_,fun p=>?_,fun p hp=>?_,fun q hq=>?_⟩
 ·have lp:=fG (p:=p)
  have lq:=fG (p:=q)
  by_cases hq:q.l=[]
  ·rw[Gj hq]
   by_cases hp:p.is w=true
   ·rw[if_pos hp]
    have hne:p.peek≠[]:=fun e=>by obtain⟨a,b⟩:=fW.1 hp;exact a (b.symm.trans e)
    exact .inr (.inr ((Gk hz hq hne).le (h1.sx _)))
   ·rw[if_neg hp];exact h2.tr p q hn hk hg hz he
  ·rw[Cp hz hq]
   by_cases hp:q.is w=true
   ·rw[if_pos hp,if_pos hp];exact h1.tr _ _ (by omega) (by omega) (oY El hg) (pG hz hq) he
   ·rw[if_neg hp,if_neg hp];exact h2.tr p q hn hk hg hz he
 ·show(if p.is w=true then f p.skip else h p).2.l<:+p.l
  split
  ·exact(h1.sx _).trans El
  ·exact h2.sx p
 ·show(if p.is w=true then g p.skip else j p).2.l<:+p.l
  split
  ·exact(h1.sy _).trans El
  ·exact h2.sy p
 ·show(if p.is w=true then f p.skip else h p).2=p
  rw[if_neg (by simp[Gi hp])];exact h2.bx p hp
 ·show(if q.is w=true then g q.skip else j q).2=q
  rw[if_neg (by simp[Gi hq])];exact h2.bd q hq
theorem TR.number:TR z n k aZ aZ:=JD (f:=fun p=>(-(aG 0 p).1,(aG 0 p).2)) (g:=fun p=>(-(aG 0 p).1,(aG 0 p).2)) ((TR.numeral 0).map fun a=> -a) (TR.numeral 0)
theorem TR.place:TR z n k aV aV:=
 TR.bind (gx:=fun a p=>if p.is [46]then(Nd.mk 35 (a++46::(aD p.skip).1) 0 [],(aD p.skip).2)else(Nd.mk 34 a 0 [],p)) (gy:=fun a p=>if p.is [46]then(Nd.mk 35 (a++46::(aD p.skip).1) 0 [],(aD p.skip).2)else(Nd.mk 34 a 0 [],p)) TR.name fun a=>
  JD (f:=fun p=>(Nd.mk 35 (a++46::(aD p).1) 0 [],(aD p).2)) (g:=fun p=>(Nd.mk 35 (a++46::(aD p).1) 0 [],(aD p).2)) (TR.name.map fun b=>Nd.mk 35 (a++46::b) 0 []) (zD (Nd.mk 34 a 0 []))
theorem Gl(lv:Int):qH lv []<0:=by
 have h:qH lv (PS.mk [] 0).peek<0∨0≤qH lv (PS.mk [] 0).peek:=by omega
 rcases h with h|h
 ·exact h
 ·have:=(fW.1 (qO h).2.1).1
  exact absurd rfl this
theorem TR.op(lv:Int):TR z n k (opP lv) (opP lv):=by
 have sn:∀p:PS,(opP lv p).2.l<:+p.l:=fun p=>by unfold opP;simp only;split;exact El;exact List.suffix_refl _
 have bn:∀p:PS,p.e≠0→(opP lv p).2=p:=fun p hp=>by rw[zM (by rw[tL hp];exact Gl lv)]
 refine⟨fun p q _ _ _ hz he=>?_,sn,sn,bn,bn⟩
 by_cases hq:q.l=[]
 ·have eq:=jC (p:=q) (.inr hq)
  have h0:=Gl lv
  have r0:=yS lv []
  by_cases hp:0≤qH lv p.peek
  ·have hi:=(qO hp).2.1
   right;right
   rw[tJ hp,cE hi]
   exact Gk hz hq (fW.1 hi).1
  ·left
   have r1:=yS lv p.peek
   rw[zM (by omega),zM (p:=q) (by rw[eq];exact h0),eq]
   exact⟨hz,fun _=>by simp only;omega⟩
 ·left
  unfold opP
  rw[rF hz hq]
  refine⟨?_,fun _=>rfl⟩
  simp only
  split
  ·exact pG hz hq
  ·exact hz
theorem HW{q:PS}(h:q.l=[])(he:q.e=0):Ov (aD q).2:=by
 unfold aD;rw[jC (p:=q) (.inr h)];exact zC h (by decide)
theorem Fw{q:PS}(h:q.l=[])(he:q.e=0):Ov (aV q).2:=by
 have ho:=HW h he
 unfold aV
 rw[if_neg (by simp[Gi ho.2])]
 exact ho
theorem rY{lv:Int}{x:PS→Nd×PS}(hx:∀p,(x p).2.l<:+p.l):∀(f:Nat) (nd:Nd) (p:PS),(chainF lv x f nd p).2.l<:+p.l
 |0,_,p=>List.suffix_refl _
 |f+1,nd,p=>by
  have so:(opP lv p).2.l<:+p.l:=(TR.op (z:=[]) (n:=0) (k:=0) lv).sx p
  rw[chainF]
  split
  ·exact List.suffix_refl _
  ·split
   ·exact so
   ·exact(rY hx f _ _).trans ((hx _).trans so)
theorem sN{lv:Int}{x:PS→Nd×PS}{p:PS}(h:p.e≠0):∀(f:Nat) (nd:Nd),chainF lv x f nd p=(nd,p)
 |0,_=>rfl
 |f+1,nd=>by rw[chainF,if_pos h]
theorem zE{lv:Int}{x:PS→Nd×PS}{f:Nat}{nd:Nd}{q:PS}(hf:q.l.length<f)(h:qH lv q.peek<0):chainF lv x f nd q=(nd,q):=by
 by_cases e:q.e=0
 ·rw[zW hf e h,zM h]
 ·exact Bt hf e
theorem TR.chainF{lv:Int}{x y:PS→Nd×PS}(hx:TR z n k x y):∀(f g:Nat) (nd:Nd) (p q:PS),p.l.length<f→q.l.length<g→p.l.length<n→q.l.length<k→bH p.l→Tz z p q→q.e=0→
 Al z (Go.Eng.chainF lv x f nd p) (Go.Eng.chainF lv y g nd q)
 |0,_,_,_,_,h,_,_,_,_,_,_=>absurd h (Nat.not_lt_zero _)
 |_+1,0,_,_,_,_,h,_,_,_,_,_=>absurd h (Nat.not_lt_zero _)
 |f+1,g+1,nd,p,q,hf,hg,hn,hk,gg,hz,he=>by
  have hpe:p.e=0:=by rw[hz.2];exact he
  by_cases hq:q.l=[]
  ·have eq:=jC (p:=q) (.inr hq)
   have h0:qH lv q.peek<0:=by rw[eq];exact Gl lv
   have eqq:Go.Eng.chainF lv y (g+1) nd q=(nd,q):=zE (by omega) h0
   by_cases hp:0≤qH lv p.peek
   ·right;right
    have hi:=(qO hp).2.1
    have e2:(opP lv p).2=p.skip:=by rw[tJ hp,cE hi]
    rw[Go.Eng.chainF,if_neg (by simp[hpe]),if_neg (show¬(opP lv p).1<0 from fun z=>absurd (show qH lv p.peek<0 from z) (by omega)),e2]
    exact(Gk hz hq (fW.1 hi).1).le ((rY hx.sx f _ _).trans (hx.sx _))
   ·rw[eqq,zE (by omega) (by omega)]
    exact .inl ⟨hz,fun _=>rfl⟩
  ·have ep:=rF hz hq
   by_cases hp:0≤qH lv q.peek
   ·have hi:=(qO hp).2.1
    have hip:p.is p.peek=true:=by rw[Cp hz hq,ep];exact hi
    have l1:=iM hi
    have l2:=iM hip
    have e1:opP lv q=(qH lv q.peek,q.skip):=by rw[tJ hp,cE hi]
    have e2:opP lv p=(qH lv q.peek,p.skip):=by rw[tJ (by rw[ep];exact hp),cE hip,ep]
    have sp:=(hx.sx p.skip).length_le
    have sq:=(hx.sy q.skip).length_le
    rw[Go.Eng.chainF,if_neg (by simp[hpe]),e2,if_neg (by simp only;omega)]
    rw[Go.Eng.chainF,if_neg (by simp[he]),e1,if_neg (by simp only;omega)]
    simp only
    rcases hx.tr p.skip q.skip (by omega) (by omega) (oY El gg) (pG hz hq) he with⟨hz',hv⟩|ho|hpa
    ·by_cases e:(y q.skip).2.e=0
     ·rw[hv e]
      exact TR.chainF hx f g _ _ _ (by omega) (by omega) (by omega) (by omega) (oY ((hx.sx _).trans El) gg) hz' e
     ·have e3:(x p.skip).2.e≠0:=by rw[hz'.2];exact e
      rw[sN e3,sN e]
      exact .inl ⟨hz',fun q=>absurd q e⟩
    ·rw[sN ho.2];exact .inr (.inl ho)
    ·exact .inr (.inr (hpa.le (rY hx.sx f _ _)))
   ·rw[zE (by omega) (by rw[ep];omega),zE (by omega) (by omega)]
    exact .inl ⟨hz,fun _=>rfl⟩
theorem HX{lv:Int}{x y:PS→Nd×PS}(hx:TR z n k x y):TR z n k (fK lv x) (fK lv y):=by
 refine⟨fun p q hn hk hg hz he=>?_,fun p=>(rY hx.sx _ _ _).trans (hx.sx p),fun p=>(rY hx.sy _ _ _).trans (hx.sy p),fun p hp=>vW hx.bx hp,fun q hq=>vW hx.bd hq⟩
 have sp:=(hx.sx p).length_le
 have sq:=(hx.sy q).length_le
 unfold fK
 rcases hx.tr p q hn hk hg hz he with⟨hz',hv⟩|ho|hpa
 ·by_cases e:(y q).2.e=0
  ·rw[hv e]
   exact TR.chainF hx _ _ _ _ _ (Nat.lt_succ_self _) (Nat.lt_succ_self _) (by omega) (by omega) (oY (hx.sx p) hg) hz' e
  ·have e3:(x p).2.e≠0:=by rw[hz'.2];exact e
   rw[sN e3,sN e]
   exact .inl ⟨hz',fun q=>absurd q e⟩
 ·rw[sN ho.2];exact .inr (.inl ho)
 ·exact .inr (.inr (hpa.le (rY hx.sx _ _ _)))
theorem OH{ex:PS→Nd×PS}{q:PS}(h:q.l=[])(he:q.e=0):Ov (fM ex q).2:=by
 unfold fM
 rw[if_neg (by simp[Gj h]),if_neg (by simp[Gj h]),jC (p:=q) (.inr h)]
 exact Fw h he
theorem CE{ex:PS→Nd×PS}(hx:∀p,(ex p).2.l<:+p.l)(p:PS):(fM ex p).2.l<:+p.l:=by
 unfold fM
 split
 ·exact((TR.need (z:=[]) (n:=0) (k:=0) [41]).sx _).trans ((hx _).trans El)
 ·split
  ·exact El
  ·split
   ·split
    ·exact(TR.numeral (z:=[]) (n:=0) (k:=0) 32).sx p
    ·split
     ·exact(TR.local (z:=[]) (n:=0) (k:=0)).sx p
     ·exact(TR.place (z:=[]) (n:=0) (k:=0)).sx p
   ·exact(TR.place (z:=[]) (n:=0) (k:=0)).sx p
theorem TR.fact{x y:PS→Nd×PS}(hx:TR z n k x y):TR z (n+1) (k+1) (fM x) (fM y):=by
 refine⟨fun p q hn hk hg hz he=>?_,CE hx.sx,CE hx.sy,fun p hp=>Bd hp,fun q hq=>Bd hq⟩
 by_cases hq:q.l=[]
 ·exact .inr (.inl (OH hq he))
 ·have ep:=rF hz hq
  by_cases h1:q.is [40]=true
  ·have h1p:p.is [40]=true:=by rw[Cp hz hq];exact h1
   have l1:=iM h1
   have l2:=iM h1p
   have hb:TR z n k (fun p=>((x p).1,(x p).2.need [41])) (fun p=>((y p).1,(y p).2.need [41])):=
    hx.bind (gx:=fun a p=>(a,p.need [41])) (gy:=fun a p=>(a,p.need [41])) fun a=>(TR.need [41]).map fun _=>a
   unfold fM
   rw[if_pos h1p,if_pos h1]
   exact hb.tr p.skip q.skip (by omega) (by omega) (oY El hg) (pG hz hq) he
  ·unfold fM
   rw[if_neg (by rw[Cp hz hq];exact h1),if_neg h1,Cp hz hq,ep]
   by_cases h2:q.is qD=true
   ·rw[if_pos h2,if_pos h2]
    exact .inl ⟨pG hz hq,fun _=>rfl⟩
   ·rw[if_neg h2,if_neg h2]
    split
    ·split
     ·exact((TR.numeral (z:=z) (n:=n+1) (k:=k+1) 32).map fun a=>Nd.mk 32 [] a []).tr p q hn hk hg hz he
     ·split
      ·exact((TR.local (z:=z) (n:=n+1) (k:=k+1)).map fun a=>Nd.mk 33 a 0 []).tr p q hn hk hg hz he
      ·exact(TR.place (z:=z) (n:=n+1) (k:=k+1)).tr p q hn hk hg hz he
    ·exact(TR.place (z:=z) (n:=n+1) (k:=k+1)).tr p q hn hk hg hz he
theorem TR.exprB{x y:PS→Nd×PS}(hx:TR z n k x y):TR z (n+1) (k+1) (exprB x) (exprB y):=by
 have hs:TR z (n+1) (k+1) (dF x) (dF y):=HX (HX hx.fact)
 exact hs.bind (gx:=fun a p=>if 0≤(opP 1 p).1 then(Nd.mk (26+(opP 1 p).1) [] 0 [a,(dF x (opP 1 p).2).1],(dF x (opP 1 p).2).2)else(a,(opP 1 p).2))
  (gy:=fun a p=>if 0≤(opP 1 p).1 then(Nd.mk (26+(opP 1 p).1) [] 0 [a,(dF y (opP 1 p).2).1],(dF y (opP 1 p).2).2)else(a,(opP 1 p).2)) fun a=>
   (TR.op 1).bind (gx:=fun i p=>if 0≤i then(Nd.mk (26+i) [] 0 [a,(dF x p).1],(dF x p).2)else(a,p)) (gy:=fun i p=>if 0≤i then(Nd.mk (26+i) [] 0 [a,(dF y p).1],(dF y p).2)else(a,p)) fun i=>
    tM (fun _=>hs.map fun b=>Nd.mk (26+i) [] 0 [a,b]) fun _=>zD a
theorem uE:∀(f:Nat) (p:PS),(fS false f p).2.l<:+p.l
 |0,_=>List.suffix_refl _
 |f+1,p=>by
  have ss:∀p,(dF (fS false f) p).2.l<:+p.l:=fun p=>by
   have h3:∀p,(Av (fS false f) p).2.l<:+p.l:=fun p=>(rY (CE (uE f)) _ _ _).trans (CE (uE f) p)
   exact(rY h3 _ _ _).trans (h3 p)
  have so:∀p,(opP 1 p).2.l<:+p.l:=fun p=>(TR.op (z:=[]) (n:=0) (k:=0) 1).sx p
  rw[fS,if_neg (by simp)]
  unfold Go.Eng.exprB
  simp only[]
  split
  ·exact(ss _).trans ((so _).trans (ss p))
  ·exact(so _).trans (ss p)
theorem tN:∀(f:Nat) (p:PS),p.e≠0→(fS false f p).2=p
 |0,_,_=>rfl
 |f+1,p,h=>by rw[fS,if_neg (by simp)];exact Be h
theorem Kq:∀n k:Nat,TR z n k (fS false n) (fS false k)
 |0,k=>⟨fun p _ h=>absurd h (Nat.not_lt_zero _),uE 0,uE k,tN 0,tN k⟩
 |n+1,0=>⟨fun p q _ h=>absurd h (Nat.not_lt_zero _),uE (n+1),uE 0,tN (n+1),tN 0⟩
 |n+1,k+1=>by
  have e:∀m,fS false (m+1)=Go.Eng.exprB (fS false m):=fun m=>by funext p;rw[fS,if_neg (by simp)]
  rw[e,e]
  exact(Kq n k).exprB
theorem HY:TR z n k (fun q=>fS false (q.l.length+1) q) (fun q=>fS false (q.l.length+1) q):=
 ⟨fun p q _ _ hg hz he=>(Kq (p.l.length+1) (q.l.length+1)).tr p q (Nat.lt_succ_self _) (Nat.lt_succ_self _) hg hz he,fun p=>uE _ p,fun p=>uE _ p,fun p=>tN _ p,fun p=>tN _ p⟩
end Go.Eng
namespace Go.Eng
open Go.Proofs
variable{z:List Tk} {n k:Nat}
theorem vK{st:PS→Nd×PS}(hs:∀p,(st p).2.l<:+p.l):∀(f:Nat) (ks:List Nd) (p:PS),(stmtsF st f ks p).2.l<:+p.l
 |0,_,_=>List.suffix_refl _
 |f+1,ks,p=>by
  rw[stmtsF]
  split
  ·exact List.suffix_refl _
  ·exact(vK hs f _ _).trans (hs p)
theorem pV{st:PS→Nd×PS}{ks:List Nd}{p:PS}(h:p.e≠0)(f:Nat):stmtsF st f ks p=(ks,p):=Bw (fun e=>absurd e h) f
theorem TR.stmtsF{x y:PS→Nd×PS}(hx:TR z n k x y)(ex:Cx n x)(ey:Cx k y)(hend:∀q:PS,q.l.length<k→q.l=[]→q.e=0→Ov (y q).2):∀(f g:Nat) (ks:List Nd) (p q:PS),p.l.length<f→q.l.length<g→p.l.length<n→q.l.length<k→bH p.l→Tz z p q→q.e=0→
 Al z (Go.Eng.stmtsF x f ks p) (Go.Eng.stmtsF y g ks q)
 |0,_,_,_,_,h,_,_,_,_,_,_=>absurd h (Nat.not_lt_zero _)
 |_+1,0,_,_,_,_,h,_,_,_,_,_=>absurd h (Nat.not_lt_zero _)
 |f+1,g+1,ks,p,q,hf,hg,hn,hk,gg,hz,he=>by
  have hpe:p.e=0:=by rw[hz.2];exact he
  have gq:bH q.l:=fun t ht=>gg t (by rw[hz.1];exact List.mem_append_left _ ht)
  by_cases hq:q.l=[]
  ·right;left
   have ho:=hend q hk hq he
   rw[Go.Eng.stmtsF,if_neg (by rw[jC (p:=q) (.inr hq)];rintro(a|a);exact a he;cases a),pV ho.2]
   exact ho
  ·have ep:=rF hz hq
   by_cases hb:q.peek=[125]
   ·rw[Go.Eng.stmtsF,if_pos (.inr (by rw[ep];exact hb)),Go.Eng.stmtsF,if_pos (.inr hb)]
    exact .inl ⟨hz,fun _=>rfl⟩
   ·rw[Go.Eng.stmtsF,if_neg (by rw[ep];rintro(a|a);exact a hpe;exact hb a),Go.Eng.stmtsF,if_neg (by rintro(a|a);exact a he;exact hb a)]
    have sp:=(hx.sx p).length_le
    have sq:=(hx.sy q).length_le
    rcases hx.tr p q hn hk gg hz he with⟨hz',hv⟩|ho|hpa
    ·by_cases e:(y q).2.e=0
     ·have e3:(x p).2.e=0:=by rw[hz'.2];exact e
      have l1:=(ex p hn gg hpe).resolve_left (fun h=>h e3)
      have l2:=(ey q hk gq he).resolve_left (fun h=>h e)
      rw[hv e]
      exact TR.stmtsF hx ex ey hend f g _ _ _ (by omega) (by omega) (by omega) (by omega) (oY (hx.sx p) gg) hz' e
     ·have e3:(x p).2.e≠0:=by rw[hz'.2];exact e
      rw[pV e3,pV e]
      exact .inl ⟨hz',fun q=>absurd q e⟩
    ·rw[pV ho.2];exact .inr (.inl ho)
    ·exact .inr (.inr (hpa.le (vK hx.sx f _ _)))
theorem TR.block{x y:PS→Nd×PS}(hx:TR z n k x y)(ex:Cx n x)(ey:Cx k y)(hend:∀q:PS,q.l.length<k→q.l=[]→q.e=0→Ov (y q).2):TR z n k (fZ x) (fZ y):=by
 have hs:TR z n k (fun p=>Go.Eng.stmtsF x (p.l.length+1) [] p) (fun p=>Go.Eng.stmtsF y (p.l.length+1) [] p):=
  ⟨fun p q hn hk hg hz he=>TR.stmtsF hx ex ey hend _ _ [] p q (Nat.lt_succ_self _) (Nat.lt_succ_self _) hn hk hg hz he,fun p=>vK hx.sx _ _ p,fun p=>vK hx.sy _ _ p,fun p h=>by simp only[pV h],fun p h=>by simp only[pV h]⟩
 exact(TR.need [123]).bind (gx:=fun _ p=>(Nd.mk 8 [] 0 (Go.Eng.stmtsF x (p.l.length+1) [] p).1,(Go.Eng.stmtsF x (p.l.length+1) [] p).2.need [125])) (gy:=fun _ p=>(Nd.mk 8 [] 0 (Go.Eng.stmtsF y (p.l.length+1) [] p).1,(Go.Eng.stmtsF y (p.l.length+1) [] p).2.need [125])) fun _=>
  hs.bind (gx:=fun r p=>(Nd.mk 8 [] 0 r,p.need [125])) (gy:=fun r p=>(Nd.mk 8 [] 0 r,p.need [125])) fun r=>(TR.need [125]).map fun _=>Nd.mk 8 [] 0 r
theorem TR.semi{α:Type}{x y:PS→α×PS}(h:TR z n k x y)(w:aR):TR z n k (fun p=>((x p).1,(x p).2.need w)) (fun p=>((y p).1,(y p).2.need w)):=
 h.bind (gx:=fun a p=>(a,p.need w)) (gy:=fun a p=>(a,p.need w)) fun a=>(TR.need w).map fun _=>a
theorem TR.cmdA(c:Int):TR z n k (cmdA c) (cmdA c):=tM (fun _=>TR.local) fun _=>tM (fun _=>zD []) fun _=>TR.name
theorem TR.cmd{x y:PS→Nd×PS}(hx:TR z n k x y)(c:Int):TR z n k (mX x c) (mX y c):=
 (TR.cmdA c).bind
  (gx:=fun t p=>if c=15∨c=22∨c=24 then(Nd.mk c t 0 [(x p).1],(x p).2)else if c=16∨c=23 then(Nd.mk c t 0 [Nd.mk 33 (aM p).1 0 []],(aM p).2)else if c=19∨c=21∨c=25 then(Nd.mk c t (aG c p).1 [],(aG c p).2)else(Nd.mk c t 0 [],p))
  (gy:=fun t p=>if c=15∨c=22∨c=24 then(Nd.mk c t 0 [(y p).1],(y p).2)else if c=16∨c=23 then(Nd.mk c t 0 [Nd.mk 33 (aM p).1 0 []],(aM p).2)else if c=19∨c=21∨c=25 then(Nd.mk c t (aG c p).1 [],(aG c p).2)else(Nd.mk c t 0 [],p)) fun t=>
   tM (fun _=>hx.map fun a=>Nd.mk c t 0 [a]) fun _=>tM (fun _=>TR.local.map fun a=>Nd.mk c t 0 [Nd.mk 33 a 0 []]) fun _=>tM (fun _=>(TR.numeral c).map fun a=>Nd.mk c t a []) fun _=>zD _
def RS(ex bl:PS→Nd×PS)(c:Int)(p:PS):Nd×PS:=
 if c=11 then(if(bl (ex p).2).2.is eD=true then(.mk c [] 0 [(ex p).1,(bl (ex p).2).1,(bl (bl (ex p).2).2.skip).1],(bl (bl (ex p).2).2.skip).2)else(.mk c [] 0 [(ex p).1,(bl (ex p).2).1],(bl (ex p).2).2))
 else(.mk c [] 0 [(ex p).1,(bl (ex p).2).1],(bl (ex p).2).2)
def Ra(ex:PS→Nd×PS)(p:PS):Nd×PS:=(.mk 9 (aM p).1 0 [(ex ((aM p).2.need [61])).1],(ex ((aM p).2.need [61])).2.need [59])
def Me(ex:PS→Nd×PS)(p:PS):Nd×PS:=(.mk 10 [] 0 [(aV p).1,(ex ((aV p).2.need [61])).1],(ex ((aV p).2.need [61])).2.need [59])
theorem TR.br{x y b c:PS→Nd×PS}(hx:TR z n k x y)(hb:TR z n k b c)(m:Int):TR z n k (RS x b m) (RS y c m):=by
 have h1:TR z n k (fun p=>(Nd.mk m [] 0 [(x p).1,(b (x p).2).1],(b (x p).2).2)) (fun p=>(Nd.mk m [] 0 [(y p).1,(c (y p).2).1],(c (y p).2).2)):=
  hx.bind (gx:=fun a p=>(Nd.mk m [] 0 [a,(b p).1],(b p).2)) (gy:=fun a p=>(Nd.mk m [] 0 [a,(c p).1],(c p).2)) fun a=>hb.map fun d=>Nd.mk m [] 0 [a,d]
 refine tM (fun _=>?_) fun _=>h1
 exact hx.bind (gx:=fun a p=>if(b p).2.is eD=true then(Nd.mk m [] 0 [a,(b p).1,(b (b p).2.skip).1],(b (b p).2.skip).2)else(Nd.mk m [] 0 [a,(b p).1],(b p).2))
  (gy:=fun a p=>if(c p).2.is eD=true then(Nd.mk m [] 0 [a,(c p).1,(c (c p).2.skip).1],(c (c p).2.skip).2)else(Nd.mk m [] 0 [a,(c p).1],(c p).2)) fun a=>
   hb.bind (gx:=fun d p=>if p.is eD=true then(Nd.mk m [] 0 [a,d,(b p.skip).1],(b p.skip).2)else(Nd.mk m [] 0 [a,d],p)) (gy:=fun d p=>if p.is eD=true then(Nd.mk m [] 0 [a,d,(c p.skip).1],(c p.skip).2)else(Nd.mk m [] 0 [a,d],p)) fun d=>
    JD (f:=fun p=>(Nd.mk m [] 0 [a,d,(b p).1],(b p).2)) (g:=fun p=>(Nd.mk m [] 0 [a,d,(c p).1],(c p).2)) (hb.map fun v=>Nd.mk m [] 0 [a,d,v]) (zD (Nd.mk m [] 0 [a,d]))
theorem TR.let{x y:PS→Nd×PS}(hx:TR z n k x y):TR z n k (Ra x) (Ra y):=
 (TR.semi TR.local [61]).bind (gx:=fun t p=>(Nd.mk 9 t 0 [(x p).1],(x p).2.need [59])) (gy:=fun t p=>(Nd.mk 9 t 0 [(y p).1],(y p).2.need [59])) fun t=>(hx.map fun a=>Nd.mk 9 t 0 [a]).semi [59]
theorem TR.set{x y:PS→Nd×PS}(hx:TR z n k x y):TR z n k (Me x) (Me y):=
 (TR.semi TR.place [61]).bind (gx:=fun t p=>(Nd.mk 10 [] 0 [t,(x p).1],(x p).2.need [59])) (gy:=fun t p=>(Nd.mk 10 [] 0 [t,(y p).1],(y p).2.need [59])) fun t=>(hx.map fun a=>Nd.mk 10 [] 0 [t,a]).semi [59]
theorem tO(ex bl:PS→Nd×PS)(p:PS):iR ex bl p=if cV p.peek=11∨cV p.peek=12 then RS ex bl (cV p.peek) p.skip else if 12<cV p.peek then((mX ex (cV p.peek) p.skip).1,(mX ex (cV p.peek) p.skip).2.need [59])else if p.peek.take 1=[36]then Ra ex p else Me ex p:=by
 unfold iR
 simp only[]
 by_cases h1:cV p.peek=11∨cV p.peek=12
 ·rw[if_pos h1,if_pos h1]
  unfold RS
  by_cases h2:cV p.peek=11
  ·rw[if_pos h2]
   by_cases h3:(bl (ex p.skip).2).2.is eD=true
   ·rw[if_pos ⟨h2,h3⟩,if_pos h3]
   ·rw[if_neg (fun q=>h3 q.2),if_neg h3]
  ·rw[if_neg (fun q=>h2 q.1),if_neg h2]
 ·rw[if_neg h1,if_neg h1]
  by_cases h2:12<cV p.peek
  ·rw[if_pos h2,if_pos h2]
  ·rw[if_neg h2,if_neg h2]
   by_cases h3:p.peek.take 1=[36]
   ·rw[if_pos h3]
    rw[(oA h3).1]
    rfl
   ·rw[if_neg h3]
    split
    ·rename_i r e;rw[e]at h3;exact absurd rfl h3
    ·rfl
theorem TR.mono{α:Type}{n' k':Nat}{x y:PS→α×PS}(h:TR z n k x y)(hn:n'≤n)(hk:k'≤k):TR z n' k' x y:=⟨fun p q a b=>h.tr p q (Nat.lt_of_lt_of_le a hn) (Nat.lt_of_lt_of_le b hk),h.sx,h.sy,h.bx,h.bd⟩
theorem Qc{ex:PS→Nd×PS}{q:PS}(hb:∀q,q.e≠0→(ex q).2=q)(h:q.l=[])(he:q.e=0):Ov (Me ex q).2:=by
 have ho:=Fw h he
 have e1:(aV q).2.need [61]=(aV q).2:=(TR.need (z:=[]) (n:=0) (k:=0) [61]).bx _ ho.2
 have e2:(ex (aV q).2).2=(aV q).2:=hb _ ho.2
 have e3:(aV q).2.need [59]=(aV q).2:=(TR.need (z:=[]) (n:=0) (k:=0) [59]).bx _ ho.2
 unfold Me
 simp only[e1,e2,e3]
 exact ho
theorem uJ{ex bl:PS→Nd×PS}{p:PS}(h:p.peek=[]):iR ex bl p=Me ex p:=by
 rw[tO,xW h,if_neg (by decide),if_neg (by decide),if_neg (by rw[h];decide)]
theorem HZ{ex bl:PS→Nd×PS}{q:PS}(hb:∀q,q.e≠0→(ex q).2=q)(h:q.l=[])(he:q.e=0):Ov (iR ex bl q).2:=by
 rw[uJ (jC (.inr h))];exact Qc hb h he
theorem Kr{x y b c:PS→Nd×PS}(hx:TR z (n+1) (k+1) x y)(hb:TR z n k b c):TR z (n+1) (k+1) (iR x b) (iR y c):=by
 have hx':=hx.mono (Nat.le_succ n) (Nat.le_succ k)
 refine⟨fun p q hn hk hg hz he=>?_,fun p=>?_,fun p=>?_,fun p hp=>?_,fun q hq=>?_⟩
 ·by_cases hq:q.l=[]
  ·exact .inr (.inl (HZ hx.bd hq he))
  ·have ep:=rF hz hq
   rw[tO,tO,ep]
   by_cases h1:cV q.peek=11∨cV q.peek=12
   ·have iq:=mY (p:=q) (by omega)
    have ip:p.is q.peek=true:=by rw[Cp hz hq];exact iq
    have l1:=iM iq
    have l2:=iM ip
    rw[if_pos h1,if_pos h1]
    exact(hx'.br hb _).tr p.skip q.skip (by omega) (by omega) (oY El hg) (pG hz hq) he
   ·rw[if_neg h1,if_neg h1]
    by_cases h2:12<cV q.peek
    ·have iq:=mY (p:=q) (by omega)
     have ip:p.is q.peek=true:=by rw[Cp hz hq];exact iq
     have l1:=iM iq
     have l2:=iM ip
     rw[if_pos h2,if_pos h2]
     exact((hx'.cmd _).semi [59]).tr p.skip q.skip (by omega) (by omega) (oY El hg) (pG hz hq) he
    ·rw[if_neg h2,if_neg h2]
     by_cases h3:q.peek.take 1=[36]
     ·rw[if_pos h3,if_pos h3];exact hx.let.tr p q hn hk hg hz he
     ·rw[if_neg h3,if_neg h3];exact hx.set.tr p q hn hk hg hz he
 ·rw[tO]
  split
  ·exact((hx'.br hb _).sx _).trans El
  ·split
   ·exact(((hx'.cmd _).semi [59]).sx _).trans El
   ·split
    ·exact hx.let.sx p
    ·exact hx.set.sx p
 ·rw[tO]
  split
  ·exact((hx'.br hb _).sy _).trans El
  ·split
   ·exact(((hx'.cmd _).semi [59]).sy _).trans El
   ·split
    ·exact hx.let.sy p
    ·exact hx.set.sy p
 ·rw[uJ (tL hp)];exact hx.set.bx p hp
 ·rw[uJ (tL hq)];exact hx.set.bd q hq
theorem wJ(f:Nat):kY false (f+1)=iR (fun q=>fS false (q.l.length+1) q) (fZ (kY false f)):=by funext p;rw[kY]
theorem Fx{g:Nat}{q:PS}(hk:q.l.length<g)(h:q.l=[])(he:q.e=0):Ov (kY false g q).2:=by
 obtain⟨m,rfl⟩:∃m,g=m+1:=⟨g-1,by omega⟩
 rw[wJ]
 exact HZ (fun q hq=>tN _ q hq) h he
theorem qQ:∀f:Nat,(∀p,(kY false f p).2.l<:+p.l)∧∀p,p.e≠0→(kY false f p).2=p
 |0=>⟨fun _=>List.suffix_refl _,fun _ _=>rfl⟩
 |f+1=>by
  obtain⟨a,b⟩:=qQ f
  have h0:TR [] 0 0 (kY false f) (kY false f):=⟨fun p _ h=>absurd h (Nat.not_lt_zero _),a,a,b,b⟩
  have hb:TR [] 0 0 (fZ (kY false f)) (fZ (kY false f)):=TR.block h0 (fun q h=>absurd h (Nat.not_lt_zero _)) (fun q h=>absurd h (Nat.not_lt_zero _)) fun q h=>absurd h (Nat.not_lt_zero _)
  have:=Kr (n:=0) (k:=0) HY hb
  rw[wJ]
  exact⟨this.sx,this.bx⟩
theorem Ia:∀f g:Nat,TR z f g (kY false f) (kY false g)
 |0,g=>⟨fun p _ h=>absurd h (Nat.not_lt_zero _),(qQ 0).1,(qQ g).1,(qQ 0).2,(qQ g).2⟩
 |f+1,0=>⟨fun p q _ h=>absurd h (Nat.not_lt_zero _),(qQ _).1,(qQ 0).1,(qQ _).2,(qQ 0).2⟩
 |f+1,g+1=>by
  rw[wJ,wJ]
  exact Kr HY (TR.block (Ia f g) (rC f) (rC g) fun q hk h he=>Fx hk h he)
theorem TR.blockP(f g:Nat):TR z f g (blockP false f) (blockP false g):=TR.block (Ia f g) (rC f) (rC g) fun q hk h he=>Fx hk h he
theorem Mf:TR z n k (fun q=>Go.Eng.blockP false (q.l.length+1) q) (fun q=>Go.Eng.blockP false (q.l.length+1) q):=
 ⟨fun p q _ _ hg hz he=>(TR.blockP (p.l.length+1) (q.l.length+1)).tr p q (Nat.lt_succ_self _) (Nat.lt_succ_self _) hg hz he,fun p=>(TR.blockP (z:=[]) (p.l.length+1) 0).sx p,fun p=>(TR.blockP (z:=[]) (p.l.length+1) 0).sx p,fun p=>(TR.blockP (z:=[]) (p.l.length+1) 0).bx p,fun p=>(TR.blockP (z:=[]) (p.l.length+1) 0).bx p⟩
def Eb(p:PS):Nd×PS:=(.mk 7 (aD p).1 (aZ ((aD p).2.need [61])).1 [],(aZ ((aD p).2.need [61])).2.need [59])
theorem pW:∀(f:Nat) (ks:List Nd) (p:PS),iL f ks p=stmtsF Eb f ks p
 |0,_,_=>rfl
 |f+1,ks,p=>by rw[iL,stmtsF];split;rfl;exact pW f _ _
theorem TR.item:TR z n k Eb Eb:=
 (TR.semi TR.name [61]).bind (gx:=fun t p=>(Nd.mk 7 t (aZ p).1 [],(aZ p).2.need [59])) (gy:=fun t p=>(Nd.mk 7 t (aZ p).1 [],(aZ p).2.need [59])) fun t=>(TR.number.map fun a=>Nd.mk 7 t a []).semi [59]
theorem Ib:Cx n Eb:=fun q _ g _=>by
 by_cases e:(Eb q).2.e=0
 ·exact .inr ((Fj g).2.2 e)
 ·exact .inl e
theorem OI{q:PS}(h:q.l=[])(he:q.e=0):Ov (Eb q).2:=by
 have ho:=HW h he
 have e1:(aD q).2.need [61]=(aD q).2:=(TR.need (z:=[]) (n:=0) (k:=0) [61]).bx _ ho.2
 have e2:(aZ (aD q).2).2=(aD q).2:=(TR.number (z:=[]) (n:=0) (k:=0)).bx _ ho.2
 have e3:(aD q).2.need [59]=(aD q).2:=(TR.need (z:=[]) (n:=0) (k:=0) [59]).bx _ ho.2
 unfold Eb
 simp only[e1,e2,e3]
 exact ho
theorem OJ:TR z n k (fun q=>iL (q.l.length+1) [] q) (fun q=>iL (q.l.length+1) [] q):=by
 refine⟨fun p q hn hk hg hz he=>?_,fun p=>?_,fun p=>?_,fun p h=>?_,fun p h=>?_⟩
 ·simp only[pW]
  exact TR.stmtsF TR.item Ib Ib (fun q _ h he=>OI h he) _ _ [] p q (Nat.lt_succ_self _) (Nat.lt_succ_self _) hn hk hg hz he
 ·simp only[pW];exact vK (TR.item (z:=[]) (n:=0) (k:=0)).sx _ _ p
 ·simp only[pW];exact vK (TR.item (z:=[]) (n:=0) (k:=0)).sx _ _ p
 ·simp only[pW,pV h]
 ·simp only[pW,pV h]
def Rb(c:Int)(p:PS):Nd×PS:=
 if c=5∨c=6 then(.mk c (aD p).1 0 [(blockP false ((aD p).2.l.length+1) (aD p).2).1],(blockP false ((aD p).2.l.length+1) (aD p).2).2)
 else if c=1 then(.mk c (aD p).1 0 (iL (((aD p).2.need [123]).l.length+1) [] ((aD p).2.need [123])).1,(iL (((aD p).2.need [123]).l.length+1) [] ((aD p).2.need [123])).2.need [125])
 else if c=0 then(.mk c (aD p).1 (aZ ((aD p).2.need [61])).1 [],(aZ ((aD p).2.need [61])).2.need [59])
 else if c=2 then(.mk c (aD p).1 (aG 2 (aD p).2).1 [],(aG 2 (aD p).2).2.need [59])
 else(.mk c (aD p).1 0 [],(aD p).2.need [59])
theorem zF(p:PS):kL false p=if dL p.peek<0 then(.mk 0 [] 0 [],p.fail 2)else Rb (dL p.peek) p.skip:=rfl
theorem Ks(c:Int):TR z n k (Rb c) (Rb c):=by
 refine tM (fun _=>?_) fun _=>tM (fun _=>?_) fun _=>tM (fun _=>?_) fun _=>tM (fun _=>?_) fun _=>?_
 ·exact TR.name.bind (gx:=fun t p=>(Nd.mk c t 0 [(Go.Eng.blockP false (p.l.length+1) p).1],(Go.Eng.blockP false (p.l.length+1) p).2)) (gy:=fun t p=>(Nd.mk c t 0 [(Go.Eng.blockP false (p.l.length+1) p).1],(Go.Eng.blockP false (p.l.length+1) p).2)) fun t=>Mf.map fun a=>Nd.mk c t 0 [a]
 ·exact(TR.semi TR.name [123]).bind (gx:=fun t p=>(Nd.mk c t 0 (iL (p.l.length+1) [] p).1,(iL (p.l.length+1) [] p).2.need [125])) (gy:=fun t p=>(Nd.mk c t 0 (iL (p.l.length+1) [] p).1,(iL (p.l.length+1) [] p).2.need [125])) fun t=>(OJ.map fun a=>Nd.mk c t 0 a).semi [125]
 ·exact(TR.semi TR.name [61]).bind (gx:=fun t p=>(Nd.mk c t (aZ p).1 [],(aZ p).2.need [59])) (gy:=fun t p=>(Nd.mk c t (aZ p).1 [],(aZ p).2.need [59])) fun t=>(TR.number.map fun a=>Nd.mk c t a []).semi [59]
 ·exact TR.name.bind (gx:=fun t p=>(Nd.mk c t (aG 2 p).1 [],(aG 2 p).2.need [59])) (gy:=fun t p=>(Nd.mk c t (aG 2 p).1 [],(aG 2 p).2.need [59])) fun t=>((TR.numeral 2).map fun a=>Nd.mk c t a []).semi [59]
 ·exact(TR.name.map fun t=>Nd.mk c t 0 []).semi [59]
theorem Qd{T z:List Tk}(hg:bH (T++z))(h:(kL false ⟨T++z,0⟩).2.l=z):(kL false ⟨T,0⟩).2.l=[]:=by
 have al:Al z (kL false ⟨T++z,0⟩) (kL false ⟨T,0⟩):=by
  have hz:Tz z ⟨T++z,0⟩ ⟨T,0⟩:=⟨rfl,rfl⟩
  by_cases hq:T=[]
  ·right;left
   rw[zF,if_pos (by rw[jC (p:=⟨T,0⟩) (.inr hq)];decide)]
   exact zC hq (by decide)
  ·have ep:=rF hz hq
   rw[zF,zF,ep]
   by_cases hk:dL (PS.mk T 0).peek<0
   ·rw[if_pos hk,if_pos hk]
    exact .inl ⟨wI hz,fun _=>rfl⟩
   ·rw[if_neg hk,if_neg hk]
    exact(Ks _).tr _ _ (Nat.lt_succ_self _) (Nat.lt_succ_self _) (oY El hg) (pG hz hq) rfl
 rcases al with⟨hz,_⟩|ho|hpa
 ·have:=congrArg List.length hz.1
  rw[h,List.length_append]at this
  exact List.eq_nil_of_length_eq_zero (by omega)
 ·exact ho.1
 ·unfold Pa at hpa
  rw[h]at hpa
  omega
end Go.Eng
namespace Go.Eng
open Go.Proofs
theorem Fy{s:aR}{m:Nat}(h0:0<dN s)(h:dN s≤m):dN (s.take m)=dN s:=by
 obtain⟨c,r,rfl,hc,hr,h16⟩:=sK h0
 have hm:0<m:=by omega
 obtain⟨j,rfl⟩:∃j,m=j+1:=⟨m-1,by omega⟩
 have ht:=uS (fun c=>bF c||aW c) (c::r) (j+1)
 rw[←hr,Nat.min_eq_right h]at ht
 rw[List.take_succ_cons]at ht⊢
 show(if bF c then(if iX (fun c=>bF c||aW c) (c::r.take j)≤16 then iX (fun c=>bF c||aW c) (c::r.take j)else 0)else 0)=_
 rw[if_pos hc,ht,if_pos h16]
theorem Mg{s:aR}{m:Nat}(h0:0<bB s)(h:bB s≤m):bB (s.take m)=bB s:=by
 cases s with
 |nil=>simp[bB]at h0
 |cons c r=>
  have hm:0<m:=by omega
  obtain⟨j,rfl⟩:∃j,m=j+1:=⟨m-1,by omega⟩
  rw[List.take_succ_cons,nF]
  rw[nF]at h0 h⊢
  by_cases h1:bF c=true
  ·rw[if_pos h1]at h0 h⊢
   rw[if_pos h1]
   have:=Fy h0 h
   rwa[List.take_succ_cons]at this
  ·rw[if_neg h1]at h0 h⊢
   rw[if_neg h1]
   by_cases h2:c=36
   ·rw[if_pos h2]at h0 h⊢
    rw[if_pos h2]
    by_cases h3:0<dN r
    ·rw[if_pos h3]at h h0⊢
     rw[Fy h3 (by omega),if_pos h3]
    ·rw[if_neg h3]at h0;omega
   ·rw[if_neg h2]at h0 h⊢
    rw[if_neg h2]
    by_cases h3:aW c=true
    ·rw[if_pos h3]at h0 h⊢
     rw[if_pos h3]
     by_cases h4:iX aW (c::r)≤3
     ·rw[if_pos h4]at h0 h⊢
      have ht:=uS aW (c::r) (j+1)
      rw[List.take_succ_cons,Nat.min_eq_right h]at ht
      rw[ht,if_pos h4]
     ·rw[if_neg h4]at h0;omega
    ·rw[if_neg h3]at h0 h⊢
     rw[if_neg h3]
     by_cases h4:(c::r).take 2=[60,61]∨(c::r).take 2=[61,61]
     ·rw[if_pos h4]at h⊢
      have e:(c::r.take j).take 2=(c::r).take 2:=by
       simp only[List.take_succ_cons,List.take_take]
       rw[Nat.min_eq_left (by omega)]
      rw[e,if_pos h4]
     ·rw[if_neg h4]at h0 h⊢
      have e:¬((c::r.take j).take 2=[60,61]∨(c::r.take j).take 2=[61,61]):=by
       intro q
       apply h4
       rw[oX,oX]at q⊢
       have e1:∀b:UInt8,(r.take j).take 1=[b]→r.take 1=[b]:=fun b hb=>by
        rw[List.take_take]at hb
        by_cases hj:1≤j
        ·rwa[Nat.min_eq_left hj]at hb
        ·rw[show j=0 by omega]at hb;simp at hb
       exact q.imp (fun a=>⟨a.1,e1 _ a.2⟩) fun a=>⟨a.1,e1 _ a.2⟩
      rw[if_neg e]
def Sq(R:List Tk)(E:Int):Int:=match R with
 |[]=>E
 |x::_=>x.at_
theorem Ec(w:aR):∀(f i:Nat),w.length-i≤f→i≤w.length→∀(T0 R:List Tk) (E:Int),iQ f (w.drop i) i=(T0++R,E)→
 ∃k:Nat,Sq R E=k∧i≤k∧k≤w.length∧∀g,k-i≤g→iQ g ((w.take k).drop i) i=(T0,(k:Int))
 |0,i,hf,hi,T0,R,E,h=>by
  have e:iQ 0 (w.drop i) i=([],(i:Int)):=rfl
  rw[e]at h
  injection h with h1 h2
  obtain⟨rfl,rfl⟩:=List.append_eq_nil_iff.1 h1.symm
  refine⟨i,h2.symm,Nat.le_refl _,hi,fun g _=>?_⟩
  rw[List.drop_eq_nil_of_le (by rw[List.length_take];omega)]
  cases g<;>rfl
 |f+1,i,hf,hi,T0,R,E,h=>by
  have stop:([],(i:Int))=(T0++R,E)→∃k:Nat,Sq R E=k∧i≤k∧k≤w.length∧∀g,k-i≤g→iQ g ((w.take k).drop i) i=(T0,(k:Int)):=fun h=>by
   injection h with h1 h2
   obtain⟨rfl,rfl⟩:=List.append_eq_nil_iff.1 h1.symm
   refine⟨i,h2.symm,Nat.le_refl _,hi,fun g _=>?_⟩
   rw[List.drop_eq_nil_of_le (by rw[List.length_take];omega)]
   cases g<;>rfl
  by_cases hl:i<w.length
  ·have hd:=List.drop_eq_getElem_cons hl
   have key:∀k,i<k→k≤w.length→(w.take k).drop i=w[i]::(w.take k).drop (i+1):=fun k h1 h2=>by
    rw[List.drop_eq_getElem_cons (by rw[List.length_take];omega),List.getElem_take]
   have ih1:=Ec w f (i+1) (by omega) (by omega)
   have ih2:=Ec w f (i+bB (w.drop i))
   have hnl:=uT (w.drop i)
   rw[List.length_drop]at hnl
   generalize w[i]=c at hd key
   have e:iQ (f+1) (w.drop i) i=if c=32∨c=10 then iQ f (w.drop (i+1)) ((i:Int)+1)else if bB (w.drop i)=0 then([],(i:Int))else
    (⟨(w.drop i).take (bB (w.drop i)),i⟩::(iQ f ((w.drop i).drop (bB (w.drop i))) ((i:Int)+bB (w.drop i))).1,(iQ f ((w.drop i).drop (bB (w.drop i))) ((i:Int)+bB (w.drop i))).2):=by
    rw[hd];rfl
   rw[e]at h
   by_cases hb:c=32∨c=10
   ·rw[if_pos hb]at h
    obtain⟨k,k1,k2,k3,k4⟩:=ih1 T0 R E (by simpa using h)
    refine⟨k,k1,by omega,k3,fun g hg=>?_⟩
    obtain⟨g',rfl⟩:∃g',g=g'+1:=⟨g-1,by omega⟩
    have:=k4 g' (by omega)
    rw[key k (by omega) k3,iQ,if_pos hb]
    simpa using this
   ·rw[if_neg hb]at h
    by_cases hn:bB (w.drop i)=0
    ·rw[if_pos hn]at h;exact stop h
    ·rw[if_neg hn]at h
     cases T0 with
     |nil=>
      injection h with h1 h2
      have h1:_=R:=h1
      refine⟨i,by rw[←h1];rfl,Nat.le_refl _,hi,fun g _=>?_⟩
      rw[List.drop_eq_nil_of_le (by rw[List.length_take];omega)]
      cases g<;>rfl
     |cons t T1=>
      injection h with h1 h2
      injection h1 with h3 h4
      obtain⟨k,k1,k2,k3,k4⟩:=ih2 (by omega) (by omega) T1 R E (by
       rw[List.drop_drop]at h2 h4
       have hc:((i+bB (w.drop i):Nat):Int)=(i:Int)+bB (w.drop i):=by simp
       rw[hc];exact Prod.ext h4 h2)
      refine⟨k,k1,by omega,k3,fun g hg=>?_⟩
      obtain⟨g',rfl⟩:∃g',g=g'+1:=⟨g-1,by omega⟩
      have k5:=k4 g' (by omega)
      have ht:(w.take k).drop i=(w.drop i).take (k-i):=by rw[List.drop_take]
      have hcut:bB ((w.take k).drop i)=bB (w.drop i):=by rw[ht];exact Mg (by omega) (by omega)
      have htk:((w.take k).drop i).take (bB (w.drop i))=(w.drop i).take (bB (w.drop i)):=by rw[ht,List.take_take,Nat.min_eq_left (by omega)]
      have hdd:((w.take k).drop i).drop (bB (w.drop i))=(w.take k).drop (i+bB (w.drop i)):=List.drop_drop
      have e2:iQ (g'+1) ((w.take k).drop i) i=(⟨((w.take k).drop i).take (bB ((w.take k).drop i)),i⟩::(iQ g' (((w.take k).drop i).drop (bB ((w.take k).drop i))) ((i:Int)+bB ((w.take k).drop i))).1,(iQ g' (((w.take k).drop i).drop (bB ((w.take k).drop i))) ((i:Int)+bB ((w.take k).drop i))).2):=by
       have hne:¬bB ((w.take k).drop i)=0:=by rw[hcut];exact hn
       rw[key k (by omega) k3]at hne⊢
       rw[iQ,if_neg hb,if_neg hne]
      have hc:((i+bB (w.drop i):Nat):Int)=(i:Int)+bB (w.drop i):=by simp
      rw[e2,hcut,htk,hdd,←hc,k5,h3]
  ·rw[List.drop_eq_nil_of_le (by omega)]at h
   exact stop h
theorem Rc(p:PS):(kL false p).2.l<:+p.l:=by
 rw[zF]
 split
 ·exact QY
 ·exact((Ks (z:=[]) (n:=0) (k:=0) _).sx _).trans El
def Kt(w:aR)(k:Nat):Prop:=((dD (w.take k)).2.2=2∧(dD (w.take k)).2.1=k)∨(((dD (w.take k)).2.2=0∨(dD (w.take k)).2.2=4)∧(dD (w.take k)).2.1=0)
theorem Rd{w:aR}{k:Nat}{T:List Tk}(hk:k≤w.length)(hl:w.length≤1024)(hs:fL (w.take k)=(T,(k:Int)))(hd:(kL false ⟨T,0⟩).2.l=[]):Kt w k:=by
 have hp:(w.take k).length=k:=by rw[List.length_take];omega
 obtain⟨R,hR⟩:∃R,kL false ⟨T,0⟩=R:=⟨_,rfl⟩
 rw[hR]at hd
 have e:dD (w.take k)=if R.2.e≠0∨(k:Int)<(w.take k).length then(iK,(k:Int),2)else if validB R.1 then(R.1,0,0)else(iK,0,4):=by
  unfold dD
  rw[if_neg (by omega)]
  simp only[hs,hR,hd]
 unfold Kt
 rw[e]
 by_cases h:R.2.e≠0∨(k:Int)<(w.take k).length
 ·rw[if_pos h];exact .inl ⟨rfl,rfl⟩
 ·rw[if_neg h]
  right
  by_cases v:validB R.1=true
  ·rw[if_pos v];exact⟨.inl rfl,rfl⟩
  ·rw[if_neg v];exact⟨.inr rfl,rfl⟩
theorem Mh{w:aR}(h:(dD w).2.2=2∨(dD w).2.2=5):∃k:Nat,(dD w).2.1=k∧k≤w.length∧Kt w k:=by
 by_cases hl:1024<w.length
 ·unfold dD at h;rw[if_pos hl]at h
  have h:(4:Int)=2∨(4:Int)=5:=h
  omega
 ·obtain⟨T,E,hs⟩:∃T E,fL w=(T,E):=⟨(fL w).1,(fL w).2,rfl⟩
  obtain⟨R,hR⟩:∃R,kL false ⟨T,0⟩=R:=⟨_,rfl⟩
  have hsf:=Rc ⟨T,0⟩
  rw[hR]at hsf
  obtain⟨T0,hT⟩:=hsf
  have hT:T0++R.2.l=T:=hT
  have hgT:bH T:=by have:=sY w.length w 0;rw[show iQ w.length w 0=fL w from rfl,hs]at this;exact this
  obtain⟨k,k1,_,k3,k4⟩:=Ec w w.length 0 (by omega) (Nat.zero_le _) T0 R.2.l E (by rw[hT];simpa [fL]using hs)
  have hsp:fL (w.take k)=(T0,(k:Int)):=by
   have:=k4 (w.take k).length (by rw[List.length_take];omega)
   simpa [fL]using this
  have hd0:(kL false ⟨T0,0⟩).2.l=[]:=by
   have:=Qd (T:=T0) (z:=R.2.l) (by rw[hT];exact hgT) (by rw[hT,hR])
   exact this
  refine⟨k,?_,k3,Rd k3 (by omega) hsp hd0⟩
  unfold dD at h⊢
  rw[if_neg hl]at h⊢
  simp only[hs,hR]at h⊢
  cases e:R.2.l with
  |cons x r=>rw[e]at k1;exact k1
  |nil=>
   rw[e]at k1 h
   simp only at h
   by_cases q:R.2.e≠0∨E<w.length
   ·simp only;rw[if_pos q];exact k1
   ·rw[if_neg q]at h
    split at h
    ·have h:(0:Int)=2∨(0:Int)=5:=h
     omega
    ·have h:(4:Int)=2∨(4:Int)=5:=h
     omega
end Go.Eng
namespace Go.Eng
open Go.Proofs
attribute[local simp] mW kX iB bC mT fY hZ nM cN bG oZ.plain oZ.cond oZ.fail dP lW sT mM fP kN lG lH memless mF eJ iW tP Ee hO fI strip oL dV lK bU
 qC fQ iH iC iG oT lk cD dR bP bV bX nK eT oP iF iZ bS eK bK dG iA eV eW dW eX gF gG gH eY dX eZ dY fB gJ gK gN gO fC gR oK nH mkAgg sO AT jI bD hU aX.live TK.isNone TK.agg TK.isBool TK.isStr TK.isStruct Op.operands Call.operands
 bE cO cH cW eE nI lB cU dH iE eO kP aP frozen lI
 jM jN lC gD jP jQ jR jV lD gE jX jY jZ kC rJ lR nO nP nR nS nU kD jK gC eU Nm.d Df.d Ed.d xD xE nE xF jL rU rV dA dB
 xH xI rK xJ xK rL rM rN nV xL xM rO
 bT bA dJ lJ dK bR cB bM eN uF TK.isInt jO jW nQ gM hF dI eL eM fV eS fO lX sA nD wW rI
 nC kR mC mU cL eA dS kW jE jF iV sD gS cZ gT gU cD jT jU nN iI gV kE gP gQ fE
 cK gZ TK.isPtr eF bZ kF oU pR jS kA nT gI gL fD
attribute[local simp] dZ kG gW
section
attribute[local simp] oZ.cond Nd.d_eq nd_t nd_dr nd_td ndsD bJ
set_option maxRecDepth 10000 in
set_option maxHeartbeats 2000000 in
theorem Mm(l:List Int)(a how b:Int)(raw:aR)(hl:Ml l)(ha:HO a)(hh:HO how)(hb:HO b)(hr:raw.length≤9223372036854775807):Ok Tryz.prog 3 [.sl (l.map aC),aC a,aC how,aC b,.str raw] ⟨.d (.bool true),true⟩:=by
 refine Ok.ret Tryz.func3 (by kernel_rfl) (c:=_) rfl Tryz.ntmps3 (by simp) Tryz.results3 (by intro _ h;cases h) fun w0 X hp=>?_
 have h6:HO (how.tdiv 6):=QR (m:=5) hh
 unfold HO at ha hh hb h6
 obtain⟨x,hx⟩:∃x,wM l=x:=⟨_,rfl⟩
 obtain⟨s,hs⟩:∃s,textT x=s:=⟨_,rfl⟩
 obtain⟨u,hu⟩:∃u,qJ s a how b=u:=⟨_,rfl⟩
 obtain⟨v,hv⟩:∃v,qJ u b (how.tdiv 6) a=v:=⟨_,rfl⟩
 obtain⟨r,hrr⟩:∃r,raw.take 100=r:=⟨_,rfl⟩
 have ls:s.length≤40000040:=by rw[←hs,←hx];exact Md l
 have lu:u.length≤80000120:=by rw[←hu];have:=Kp s a how b;omega
 have lv:v.length≤160000280:=by rw[←hv];have:=Kp u b (how.tdiv 6) a;omega
 have lr:r.length≤100:=by rw[←hrr,List.length_take];omega
 have kx:=OA l hl
 have ks:=NE x (by rw[←hx];exact HV l) (by have:=DX l;rw[hx]at this;omega)
 have ku:=Cm s a how b (by omega) ha hh hb
 have kv:=Cm u b (how.tdiv 6) a (by omega) hb h6 ha
 have kr:=OD raw 100 hr
 rw[hx]at kx
 rw[hs]at ks
 rw[hu]at ku
 rw[hv]at kv
 rw[hrr]at kr
 simp at kx ks
 obtain⟨TL,hTL⟩:∃TL:List aR,TL=[u,v,r]:=⟨_,rfl⟩
 have hTl:TL.length=3:=by rw[hTL];rfl
 have hTb:∀w∈TL,w.length≤1000000000:=fun w hw=>by
  rw[hTL]at hw
  simp only[List.mem_cons,List.not_mem_nil,or_false]at hw
  rcases hw with rfl|rfl|rfl<;>omega
 refine oS.sy ?_
 simp
 refine bY hT hW (fun|21=>some<| .plain ⟨.d x.d,false⟩|22=>some<| .plain ⟨.d (.str s),true⟩|26=>some<| .plain ⟨.d (.str u),true⟩|_=>none) ?_
 simp
 refine⟨⟨⟨kx,ks⟩,ku⟩,?_⟩
 refine bY hT hW (fun|33=>some<| .plain ⟨.d (.str v),true⟩|35=>some<| .plain ⟨.d (.str r),true⟩|_=>none) ?_
 simp
 refine⟨by(repeat' with_reducible apply And.intro)<;>first|omega|with_reducible assumption|decide,?_⟩
 refine mE (oM.close 12 (x:=.sl (TL.map DV.str)) (by simp[hTL])) ?_
 simp
 refine oS.seq ?_
 refine oS.sy ?_
 simp
 refine oS.block ?_
 refine cA (ι:=Nat) (fun i=>aY [(12,.d (.sl (TL.map DV.str))),(13,.d (aC (i:Nat)))]) (fun i=>aK []) (fun i=>i≤3) (fun i=>3-i) 0 (aA [12,13] [] (by decide) (by decide) (by simp[hp]) (by simp) (by simp)) (Nat.zero_le _) fun i hi4=>?_
 refine oS.seq ?_
 refine oS.sy ?_
 simp
 refine aB ?_
 simp
 refine⟨fun h4=>?_,fun h4=>?_⟩
 ·refine oS.skip ?_
  simp
  refine oS.seq ?_
  refine oS.block ?_
  refine oS.seq ?_
  have hi:i<TL.length:=by omega
  obtain⟨w,hti⟩:∃w,TL[i]=w:=⟨_,rfl⟩
  have lw:=hTb w (by rw[←hti];exact List.getElem_mem hi)
  have e1:=vJ w
  have hcut:=@Mh w
  obtain⟨Y,hY⟩:∃Y,dD w=Y:=⟨_,rfl⟩
  rw[hY]at e1 hcut
  simp at e1
  refine oS.ro hT hW (fun|46=>some<| .plain ⟨.tup [.d Y.1.d,.d (aC Y.2.1),.d (aC Y.2.2)],false⟩|_=>none) ?_
  simp[dO,hi,hti]
  refine⟨e1,?_⟩
  refine oS.seq ?_
  refine oS.sy ?_
  simp
  refine aB ?_
  simp
  refine⟨fun g1 g2=>?_,fun g=>?_⟩
  ·refine oS.exit ?_
   simp
   refine aL ?_
   simp
   refine⟨by omega,?_⟩
   refine JK.mk (i+1) (aA [12,13] [] (by decide) (by decide) (by simp[hp]) (by simp) (by simp)) ?_ ?_
   ·omega
   ·omega
  ·obtain⟨k,k1,k2,k3⟩:=hcut (by omega)
   unfold Kt at k3
   have e2:=vJ (w.take k)
   obtain⟨P,hP⟩:∃P,dD (w.take k)=P:=⟨_,rfl⟩
   rw[hP]at e2 k3
   simp at e2
   refine oS.skip ?_
   simp
   refine oS.seq ?_
   refine oS.sy ?_
   simp[hi,hti,k1]
   refine aB ?_
   simp
   refine⟨fun q=>absurd q (by omega),fun _=>?_⟩
   refine oS.skip ?_
   simp
   refine bY hT hW (fun|74=>some<| .plain ⟨.tup [.d P.1.d,.d (aC P.2.1),.d (aC P.2.2)],false⟩|_=>none) ?_
   simp[dO,hi,hti,k1]
   refine⟨⟨k2,e2⟩,?_⟩
   refine oS.seq ?_
   rcases k3 with⟨z1,z2⟩|⟨z1|z1,z2⟩
   ·refine mE (lQ [12,13,15,18,19] [] (by decide) (by decide) (by simp[hp])) ?_
    simp
    refine aL ?_
    simp[z1,z2]
    refine aB ?_
    simp
    refine oS.skip ?_
    simp
    refine aL ?_
    simp
    refine⟨by omega,?_⟩
    refine JK.mk (i+1) (aA [12,13] [] (by decide) (by decide) (by simp[hp]) (by simp) (by simp)) ?_ ?_
    ·omega
    ·omega
   ·refine mE (lQ [12,13,15,18,19] [] (by decide) (by decide) (by simp[hp])) ?_
    simp
    refine aL ?_
    simp[z1,z2]
    refine aB ?_
    simp
    refine oS.skip ?_
    simp
    refine aL ?_
    simp
    refine⟨by omega,?_⟩
    refine JK.mk (i+1) (aA [12,13] [] (by decide) (by decide) (by simp[hp]) (by simp) (by simp)) ?_ ?_
    ·omega
    ·omega
   ·refine mE (lQ [12,13,15,18,19] [] (by decide) (by decide) (by simp[hp])) ?_
    simp
    refine aL ?_
    simp[z1,z2]
    refine aB ?_
    simp
    refine oS.skip ?_
    simp
    refine aL ?_
    simp
    refine⟨by omega,?_⟩
    refine JK.mk (i+1) (aA [12,13] [] (by decide) (by decide) (by simp[hp]) (by simp) (by simp)) ?_ ?_
    ·omega
    ·omega
 ·refine oS.exit ?_
  simp
  refine oS.seq ?_
  have hlv:=JA
  refine oS.ro hT hW (fun|105=>some<| .plain ⟨.d (.bool true),true⟩|_=>none) ?_
  simp
  refine⟨hlv,?_⟩
  refine oS.ret ?_
  simp
end
end Go.Eng
