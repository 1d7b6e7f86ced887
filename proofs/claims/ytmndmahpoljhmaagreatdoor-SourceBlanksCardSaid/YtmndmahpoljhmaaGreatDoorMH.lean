/-
  Texts of the proofs of this seat, part 8. No condition.
-/
import Derived.Test.YtmndmahpoljhmaaGreatDoorMG
import Derived.Shelf.SortM.Plain
import Derived.Shelf.GgSortFunc.RowK
import Derived.RangeFuncNested
import Derived.OwnWalkIn
import Derived.Shelf.SortM.SortNone
import Derived.Shelf.SlGeneric
import Derived.Test.YtmndmahpoljhmaaGreatDoorProg
set_option linter.unusedVariables false
set_option linter.unusedSimpArgs false
namespace Go.Eng
open Go.Proofs
attribute[local simp] nP lH gR bA oC gK gS pE cY bD pL.plain pL.cond pL.fail dU mN tQ nO gC kQ kW lR memless nD eV jD uG EJ gQ fJ strip pD eD mC bW
 qY fZ iR gT iQ pU lk cH dX bQ cA bY oL fE pY iU jF bS eW bN dM gM fL fM eI fN gX gY gZ fO eJ fP eL fQ hU hZ iC iD fR iG oY oJ mkAgg tP BO jN bB gN aW.live TK.isNone TK.agg TK.isBool TK.isStr TK.isStruct Op.operands Call.operands
 bF cV cO dF eP oK lN cN dN iO fA kY aQ frozen lS
 jT jU lU gV jW jX jY kD lV gW kF kG kH kJ sE mM oO oP oS oT oV kK jR gU fK Nm.d Df.d Ed.d yV yW mK yX jS sL sM dK dL
 yY yZ sF zA zB sG sH sI oW zC zD sJ
 bZ aZ dP mB dQ bT cI bP eZ uJ TK.isInt jV kE oQ iB gP dO eX eY gE fD gB mO sZ nU yU sD
 nS kX mX nR cS eF dY lJ jG jH iV tF iH dJ iI iJ cH kA kC oN iW iK kL iE iF fT
 cP gO TK.isPtr eR cE kM qB qO jZ kI oU hO iA fS
attribute[local simp] eM kN iL
section
attribute[local simp] pL.cond Nd.d_eq nd_t nd_dr nd_td ndsD bG eT qL Int.add_assoc eB Cu Cv Cw Ir nQ
def Lj(L:List Int)(g:FuncId)(d:Nat)(b:Nat)(x:Nat→Nd×Nat):Prop:=∀j,j≤b→qX Tryz.prog g [.bx 0 0,.d (aD (d:Nat))] (nQ L j) (nQ L (x j).2) (.d (x j).1.d)
structure Tj where
 c:Nat
 ks:List Nd
 j:Nat
theorem ML{L:List Int}{st:Nat→Nd×Nat}{m:Nat}{ks:List Nd}{j:Nat}(h:m=0∨L.length≤j):fG L st m ks j=(ks,j):=by
 cases m with
 |zero=>rfl
 |succ m=>
  unfold fG
  rw[if_pos (by omega)]
theorem Pu{L:List Int}{st:Nat→Nd×Nat}{m:Nat}{ks:List Nd}{j:Nat}(h0:0<m)(h:j<L.length):fG L st m ks j=fG L st (m-1) (ks++[(st j).1]) (st j).2:=by
 obtain⟨k,rfl⟩:∃k,m=k+1:=⟨m-1,by omega⟩
 rw[fG,if_neg (by omega)]
 rfl
theorem Km(L:List Int)(d i:Nat)(st:Nat→Nd×Nat)(hL:Kl L)(hll:L.length≤1000000)(b:Nat)(hi:i≤b)(hb:b≤1800000)(hS:Lj L 56 d (b+40000) st)(hle:∀j,(st j).2≤j+10000):qX Tryz.prog 109 [.bx 0 0,.d (aD (d:Nat))] (nQ L i) (nQ L (rA L st i).2) (.d (rA L st i).1.d):=by
 unfold nQ
 refine qX.cell hT Tryz.func109 (by kernel_rfl) (c:=_) rfl Tryz.ntmps109 (by simp) Tryz.results109 fun w0 X hp=>?_
 refine aA ?_
 simp
 refine aA ?_
 simp
 refine pX (fz:=false) (cs:=[.d (aD 8),.d (.str []),.d (aD 0),.nl]) 5 3 1034 4 (by decide) ⟨by simp,by simp,by simp,?_⟩
 simp
 refine pS.seq ?_
 have ha:=kO L i 4 hL (by omega) (by decide)
 have hr:=bJ L i 4 (by decide)
 obtain⟨n,hn⟩:∃n:Nat,eN L i 4=(n:Int):=⟨(eN L i 4).toNat,by omega⟩
 have hsm:rA L st i=(.mk 8 [] 0 (fG L st n [] (i+1)).1,(fG L st n [] (i+1)).2):=by unfold rA;simp only[];rw[hn];rfl
 rw[hn]at ha
 refine pS.ro hT hW (fun|10=>some (.gen ⟨[(0,0)],[],[],nQ L (i+1),.d (aD (n:Nat))⟩)|_=>none) ?_
 simp
 refine⟨by simpa using ha,?_⟩
 refine pS.seq ?_
 refine aA ?_
 simp
 refine pS.block ?_
 refine bX (ι:=Tj) (fun⟨c,ks,j⟩=>aY [(0,.bx 0 0),(1,.d (aD (d:Nat))),(4,.bx 4 0),(5,.bx 5 0),(6,.d (aD (n:Nat))),(7,.d (aD (c:Nat)))]) (fun⟨c,ks,j⟩=>aK [(0,.box false [.d (.sl (L.map aD)),.d (aD (j:Nat))]),(4,.box false [.d (aD 0),.d (.str []),.d (aD 0),.nl]),(5,.box false [.d (aD 8),.d (.str []),.d (aD 0),.ow 1034 0 ks.length]),(1034,.row false 4 (ks.map Nd.d))]) (fun⟨c,ks,j⟩=>c≤n∧j≤i+1+c*10000∧ks.length≤c∧fG L st n [] (i+1)=fG L st (n-c) ks j) (fun⟨c,ks,j⟩=>n-c) ⟨0,[],i+1⟩ (aB [0,1,4,5,6,7] [(0,0),(4,4),(5,5),(1034,1034)] (by decide) (by decide) (by simp[hp]) (by simp) (by simp)) (⟨Nat.zero_le _,by omega,Nat.le_refl _,rfl⟩) fun⟨c,ks,j⟩ hi4=>?_
 refine pS.seq ?_
 refine pS.seq ?_
 refine aI hT hW bU (lk [[],[],[0,1],[0,1,2],[0,1,2,3],[0,1,2,3,4],[0,1,2,3,4,5],[0,1,2,3,4,5,6],[0,1,2,3],[0,1,2,3,8],[0,1,2,3,8,9],[0,1,2,3,8,9,10],[0,1,2,3,8,9,10,11],[0,1,2,3,4,5,6,7,8,9,10,11,12],[0,1,2,3,4,5,6,7,8,9,10,11,12,13]]) (lk [[],[],[],[],[],[],[],[],[],[],[],[],[],[],[]]) (lk [[],[],[],[],[],[],[],[],[],[],[],[],[],[],[]]) (by kernel_rfl) (fun _=>none) (fun _=>⟨rfl,fun _ h=>h⟩) ?_
 simp
 refine aC ?_
 simp
 refine⟨fun g1 g2=>?_,fun g=>?_⟩
 ·refine pS.skip ?_
  simp
  refine pS.seq ?_
  refine pS.block ?_
  have hs:=hS j (by have:=hi4.2.1;omega)
  have hkl:=hi4.2.2.1
  refine aI hT hW bU (lk [[],[0],[],[],[2,3],[2,3,4],[0,1,2,3,4,5],[0,1,2,3,4,5,6],[0,1,2,3,4,5,6,7]]) (lk [[0,33],[0,33],[],[],[],[],[],[],[]]) (lk [[],[],[],[],[0],[33],[34,1034],[],[5]]) (by kernel_rfl) (fun|32=>some (.gen ⟨[(0,0)],[],[],nQ L (st j).2,.d (st j).1.d⟩)|_=>none) (by intro d;first|exact⟨rfl,fun _ h=>h⟩|(split<;>exact⟨rfl,fun _ h=>h⟩)) ?_
  simp
  refine⟨by(repeat' with_reducible apply And.intro)<;>first|omega|(simpa using hs),?_⟩
  refine aL ?_
  simp
  refine⟨by omega,?_⟩
  refine KN.mk ⟨c+1,ks++[(st j).1],(st j).2⟩ (aB [0,1,4,5,6,7] [(0,0),(4,4),(5,5),(34,1034)] (by decide) (by decide) (by simp[hp]) (by simp) (by simp)) ?_ ?_
  ·refine⟨(show c+1≤n by omega),?_,?_,?_⟩
   ·have:=hle j
    show(st j).2≤i+1+(c+1)*10000
    omega
   ·show(ks++[(st j).1]).length≤c+1
    rw[List.length_append,List.length_singleton]
    omega
   ·rw[hi4.2.2.2,Pu (by omega) (by omega)]
    rfl
  ·show n-(c+1)<n-c
   omega
 ·refine pS.exit ?_
  simp
  refine aA ?_
  simp
  refine pS.ret ?_
  simp
  have e:rA L st i=(.mk 8 [] 0 ks,j):=by rw[hsm,hi4.2.2.2,ML (by rcases Nat.lt_or_ge c n with q|q;exact .inr (by have:=g (by omega);omega);exact .inl (by omega))]
  refine aS (x:=(rA L st i).1.d) (by simp[e]) ?_
  simp
  exact aB [0] [(0,0)] (by decide) (by decide) (by simp[hp]) (by simp) (by simp[e])
structure Wv where
 x:Nd
 j:Nat
def ID(L:List Int)(d i:Nat):Int:=if d=0∧(9+eN L i 17=11∨9+eN L i 17=12)then 24 else 9+eN L i 17
def wK(L:List Int)(bl:Nat→Nd×Nat)(k:Int)(i:Nat):Nd×Nat:=
 if k=9 then(.mk k (mW L i) 0 [(aF L 2 (i+1)).1],(aF L 2 (i+1)).2)
 else if k=10 then(.mk k [] 0 [(cJ L i).1,(aF L 2 (cJ L i).2).1],(aF L 2 (cJ L i).2).2)
 else if k=11∨k=12 then
  (if k=11 then(if eN L (bl (aF L 1 i).2).2 2=0 then(.mk k [] 0 [(aF L 1 i).1,(bl (aF L 1 i).2).1,(bl ((bl (aF L 1 i).2).2+1)).1],(bl ((bl (aF L 1 i).2).2+1)).2)else(.mk k [] 0 [(aF L 1 i).1,(bl (aF L 1 i).2).1],(bl (aF L 1 i).2).2+1))
  else(.mk k [] 0 [(aF L 1 i).1,(bl (aF L 1 i).2).1],(bl (aF L 1 i).2).2))
 else if k=13∨k=14∨k=17∨k=18 then(.mk k (dA L i) 0 [],i+1)
 else if k=15∨k=22 then(.mk k (dA L i) 0 [(aF L 1 (i+1)).1],(aF L 1 (i+1)).2)
 else if k=16∨k=23 then(.mk k (dA L i) 0 [.mk 33 (mW L (i+1)) 0 []],i+2)
 else if k=19 then(.mk k (mW L i) (2+eN L (i+1) 5) [],i+2)
 else if k=20 then(.mk k (mW L i) 0 [],i+1)
 else if k=21 then(.mk k [] (1+eN L i 9) [],i+1)
 else if k=25 then(.mk k [] (1+eN L i 99) [],i+1)
 else(.mk k [] 0 [(aF L 2 i).1],(aF L 2 i).2)
theorem lZ{L:List Int}{d i:Nat}{bl:Nat→Nd×Nat}{k:Int}(hk:ID L d i=k):Bl L d bl i=wK L bl k (i+1):=by subst hk;rfl
theorem tN{L:List Int}{d i:Nat}{k:Int}(hk:ID L d i=k):9≤k∧k≤25∧(k=11∨k=12→0<d):=by
 subst hk
 have h:=bJ L i 17 (by decide)
 unfold ID
 split<;>omega
theorem QY{c:Prop}[Decidable c]{f:Nat→aW}{l:DV}{a b:Int}{x:Nat}(h:f 0=.box false [.d l,.d (aD b)]):
 bD f (if c then [(0,.box false [.d l,.d (aD a)])]else []) x=if x=0 then .box false [.d l,.d (aD (if c then a else b))]else f x:=by
 by_cases hc:c
 ·simp only[hc,if_true,bD,cY]
 ·simp only[hc,if_false,bD]
  split
  ·rename_i e;rw[e];exact h
  ·rfl
theorem Lk{L:List Int}{d i C:Nat}{bl:Nat→Nd×Nat}(hb:∀j,(bl j).2≤j+C):(Bl L d bl i).2≤i+40+2*C:=by
 rw[lZ rfl]
 have v1:=fun j=>AX L 1 j
 have v2:=fun j=>AX L 2 j
 have pl:=AW L (i+1)
 unfold wK
 have a1:=v1 (i+1)
 have a2:=v1 (i+2)
 have a3:=v2 (i+1)
 have a4:=v2 (i+2)
 have a5:=v2 (cJ L (i+1)).2
 have b1:=hb (aF L 1 (i+1)).2
 have b2:=hb ((bl (aF L 1 (i+1)).2).2+1)
 simp only[Nat.add_assoc,Nat.reduceAdd,Nat.reducePow,Nat.reduceMul]at*
 split
 ·simp only;omega
 ·split
  ·simp only;omega
  ·split
   ·split
    ·split<;>simp only<;>omega
    ·simp only;omega
   ·split
    ·simp only;omega
    ·split
     ·simp only;omega
     ·split
      ·simp only;omega
      ·split
       ·simp only;omega
       ·split
        ·simp only;omega
        ·split
         ·simp only;omega
         ·split<;>simp only<;>omega
set_option maxHeartbeats 1000000 in
theorem FR(L:List Int)(d i:Nat)(bl:Nat→Nd×Nat)(hL:Kl L)(hll:L.length≤1000000)(m:Nat)(hi:i≤m)(hm:m≤1800000)(hd:d≤1000)(hB:∀e,d=e+1→Lj L 109 e (m+30000) bl)(hle:∀j,(bl j).2≤j+20000):qX Tryz.prog 56 [.bx 0 0,.d (aD (d:Nat))] (nQ L i) (nQ L (Bl L d bl i).2) (.d (Bl L d bl i).1.d):=by
 unfold nQ
 refine qX.cell hT Tryz.func56 (by kernel_rfl) (c:=_) rfl Tryz.ntmps56 (by simp) Tryz.results56 fun w0 X hp=>?_
 refine aA ?_
 simp
 refine pS.seq ?_
 have ha:=kO L i 17 hL (by omega) (by decide)
 have hr:=bJ L i 17 (by decide)
 refine pS.ro hT hW (fun|8=>some (.gen ⟨[(0,0)],[],[],nQ L (i+1),.d (aD (eN L i 17))⟩)|_=>none) ?_
 simp
 refine⟨by(repeat' with_reducible apply And.intro)<;>first|omega|(simpa using ha),?_⟩
 refine aT (ι:=KC) (fun⟨k⟩=>aY [(0,.bx 0 0),(1,.d (aD (d:Nat))),(4,.bx 4 0),(5,.bx 5 0)]) (fun⟨k⟩=>aK [(0,.box false [.d (.sl (L.map aD)),.d (aD ((i+1:Nat):Int))]),(4,.box false [.d (aD 0),.d (.str []),.d (aD 0),.nl]),(5,.box false [.d (aD k),.d (.str []),.d (aD 0),.nl])]) (fun⟨k⟩=>ID L d i=k) ?_ fun⟨k⟩ hc4=>?_
 ·refine aA ?_
  simp
  refine⟨fun a b=>⟨a,b⟩,?_⟩
  refine aC ?_
  simp
  refine⟨fun g1 g2=>?_,fun g=>?_⟩
  ·refine aL ?_
   simp
   refine Qo.mk ⟨24⟩ (aB [0,1,4,5] [(0,0),(4,4),(5,5)] (by decide) (by decide) (by simp[hp]) (by simp) (by simp)) ?_
   unfold ID;rw[if_pos ⟨by omega,by omega⟩]
  ·refine pS.skip ?_
   simp
   refine Qo.mk ⟨9+eN L i 17⟩ (aB [0,1,4,5] [(0,0),(4,4),(5,5)] (by decide) (by decide) (by simp[hp]) (by simp) (by simp)) ?_
   unfold ID;rw[if_neg (by omega)]
 ·refine aT (ι:=Wv) (fun⟨x,j⟩=>aY [(0,.bx 0 0),(1,.d (aD (d:Nat))),(4,.bx 4 0),(5,.bx 5 0)]) (fun⟨x,j⟩=>aK [(0,.box false [.d (.sl (L.map aD)),.d (aD (j:Nat))]),(4,.box false [.d (aD 0),.d (.str []),.d (aD 0),.nl]),(5,.box false [.d (aD x.kind),.d (.str x.text),.d (aD x.n),.d (ndsD x.kids)])]) (fun⟨x,j⟩=>Bl L d bl i=(x,j)) ?_ fun⟨x,j⟩ hc41=>?_
  ·refine aA ?_
   simp
   refine pS.block ?_
   refine aA ?_
   simp
   refine aC ?_
   simp
   refine⟨fun h5=>?_,fun h5=>?_⟩
   ·refine pS.seq ?_
    have hc6:=AV L (i+1) hL (by omega)
    refine pS.ro hT hW (fun|29=>some (.gen ⟨[(0,0)],[],[],nQ L (i+2),.d (.str (mW L (i+1)))⟩)|_=>none) ?_
    simp
    refine⟨by simpa using hc6,?_⟩
    have hv:=sY L hL hll 2 (i+2) (by omega)
    refine pS.ro hT hW (fun|32=>some (.gen ⟨[(0,0)],[],[],nQ L (aF L 2 (i+2)).2,.d (aF L 2 (i+2)).1.d⟩)|_=>none) ?_
    simp
    refine⟨by simpa using hv,?_⟩
    refine mU (bI 5 [33] (fz:=false) (cs:=[.d (aD k),.d (.str (mW L (i+1))),.d (aD (0)),.ow 33 0 1]) (ds:=[aD k,.str (mW L (i+1)),aD (0),.sl [((aF L 2 (i+2)).1).d]]) (by simp) (by simp) (by simp) (by simp[aW.mut])) ?_
    simp
    refine Qo.mk ⟨.mk k (mW L (i+1)) (0) [(aF L 2 (i+2)).1],(aF L 2 (i+2)).2⟩ (aB [0,1,4,5] [(0,0),(4,4),(5,5)] (by decide) (by decide) (by simp[hp]) (by simp) (by simp)) ?_
    rw[lZ hc4]
    unfold wK
    repeat(first|rw[if_pos (by omega)]|rw[if_neg (by omega)])
   ·refine aA ?_
    simp
    refine aC ?_
    simp
    refine⟨fun h8=>?_,fun h8=>?_⟩
    ·refine pS.seq ?_
     have hpl:=Pt L (i+1) hL (by omega)
     have tpl:=AW L (i+1)
     refine pS.ro hT hW (fun|38=>some (.gen ⟨[(0,0)],[],[],nQ L (cJ L (i+1)).2,.d (cJ L (i+1)).1.d⟩)|_=>none) ?_
     simp
     refine⟨by simpa using hpl,?_⟩
     have hv:=sY L hL hll 2 (cJ L (i+1)).2 (by omega)
     refine aI hT hW bU (lk [[],[],[1],[0,1,2],[0,1,2,3],[0,1,2,3,4]]) (lk [[0],[],[],[],[],[]]) (lk [[],[],[0],[42],[],[5]]) (by kernel_rfl) (fun|41=>some (.gen ⟨[(0,0)],[],[],nQ L (aF L 2 (cJ L (i+1)).2).2,.d (aF L 2 (cJ L (i+1)).2).1.d⟩)|_=>none) (by intro d;first|exact⟨rfl,fun _ h=>h⟩|(split<;>exact⟨rfl,fun _ h=>h⟩)) ?_
     simp
     refine⟨⟨by simpa using hv,by decide⟩,?_⟩
     refine mU (bI 5 [42] (fz:=false) (cs:=[.d (aD k),.d (.str ([])),.d (aD (0)),.ow 42 0 2]) (ds:=[aD k,.str ([]),aD (0),.sl [((cJ L (i+1)).1).d,((aF L 2 (cJ L (i+1)).2).1).d]]) (by simp) (by simp) (by simp) (by simp[aW.mut])) ?_
     simp
     refine Qo.mk ⟨.mk k ([]) (0) [(cJ L (i+1)).1,(aF L 2 (cJ L (i+1)).2).1],(aF L 2 (cJ L (i+1)).2).2⟩ (aB [0,1,4,5] [(0,0),(4,4),(5,5)] (by decide) (by decide) (by simp[hp]) (by simp) (by simp)) ?_
     rw[lZ hc4]
     unfold wK
     repeat(first|rw[if_pos (by omega)]|rw[if_neg (by omega)])
    ·refine aT (ι:=BC) (fun⟨b⟩=>aY [(0,.bx 0 0),(1,.d (aD (d:Nat))),(4,.bx 4 0),(5,.bx 5 0),(25,.d (aD (k))),(44,.d (.bool b))]) (fun⟨b⟩=>aK [(0,.box false [.d (.sl (L.map aD)),.d (aD ((i+1:Nat):Int))]),(4,.box false [.d (aD 0),.d (.str []),.d (aD 0),.nl]),(5,.box false [.d (aD k),.d (.str []),.d (aD 0),.nl])]) (fun⟨b⟩=>b=true↔(k=11∨k=12)) ?_ fun⟨b⟩ hc13=>?_
     ·refine aA ?_
      simp
      refine aC ?_
      simp
      refine⟨fun h11=>?_,fun h11=>?_⟩
      ·refine pS.skip ?_
       simp
       refine Qo.mk ⟨decide (k=11)⟩ (aB [0,1,4,5,25,44] [(0,0),(4,4),(5,5)] (by decide) (by decide) (by simp[hp]) (by simp) (by simp)) ?_
       simp[h11]
      ·refine aL ?_
       simp
       refine Qo.mk ⟨decide (k=12)⟩ (aB [0,1,4,5,25,44] [(0,0),(4,4),(5,5)] (by decide) (by decide) (by simp[hp]) (by simp) (by simp)) ?_
       simp only[decide_eq_true_eq];omega
     ·refine aC ?_
      simp
      refine⟨fun h13=>?_,fun h13=>?_⟩
      ·have q13:=hc13.1 h13
       refine pS.seq ?_
       obtain⟨e,hde⟩:∃e,d=e+1:=⟨d-1,by have:=(tN hc4).2.2 q13;omega⟩
       have hBe:=hB e hde
       subst hde
       have hv:=sY L hL hll 1 (i+1) (by omega)
       have tv:=AX L 1 (i+1)
       obtain⟨a,ha1⟩:∃a,a=aF L 1 (i+1):=⟨_,rfl⟩
       rw[←ha1]at hv tv
       have hs1:=hBe a.2 (by omega)
       obtain⟨b,hb1⟩:∃b,b=bl a.2:=⟨_,rfl⟩
       have tb:=hle a.2
       rw[←hb1]at hs1 tb
       have hs2:=hBe (b.2+1) (by omega)
       obtain⟨c,hc1⟩:∃c,c=bl (b.2+1):=⟨_,rfl⟩
       rw[←hc1]at hs2
       have ht2:=kO L b.2 2 hL (by omega) (by decide)
       have ez:((e:Int)+1)- 1=e:=by omega
       refine pS.ro hT hW (fun|48=>some (.gen ⟨[(0,0)],[],[],nQ L a.2,.d a.1.d⟩)|_=>none) ?_
       simp
       refine⟨by simpa using hv,?_⟩
       refine pS.seq ?_
       refine aI hT hW bU (lk [[],[0],[],[],[3],[2,3,4],[2,3,4,5],[0,1,2,3,4,5,6],[0,1,2,3,4,5,6,7],[0,1,2,3,4,5,6,7,8]]) (lk [[0,57],[0,57],[],[],[],[],[],[],[],[]]) (lk [[],[],[],[],[],[0],[57],[58,49],[],[5]]) (by kernel_rfl) (fun|56=>some (.gen ⟨[(0,0)],[],[],nQ L b.2,.d b.1.d⟩)|_=>none) (by intro d;first|exact⟨rfl,fun _ h=>h⟩|(split<;>exact⟨rfl,fun _ h=>h⟩)) ?_
       simp[ez]
       refine⟨by(repeat' with_reducible apply And.intro)<;>first|omega|(simpa using hs1)|decide,?_⟩
       refine cB hT hW (fun|65=>some (.gen ⟨[(0,0)],[],[],nQ L (b.2+1),.d (aD (eN L b.2 2))⟩)|_=>none) ?_
       simp[QY (b:=(b.2:Int))]
       refine⟨fun _=>by simpa using ht2,?_⟩
       refine aC ?_
       simp
       refine⟨fun g3 g4=>?_,fun g3=>?_⟩
       ·simp only[if_pos g3]
        refine aI hT hW bU (lk [[],[0],[],[],[3],[2,3,4],[2,3,4,5],[0,1,2,3,4,5,6],[0,1,2,3,4,5,6,7],[0,1,2,3,4,5,6,7,8]]) (lk [[0,74],[0,74],[],[],[],[],[],[],[],[]]) (lk [[],[],[],[],[],[0],[74],[75,58],[],[5]]) (by kernel_rfl) (fun|73=>some (.gen ⟨[(0,0)],[],[],nQ L c.2,.d c.1.d⟩)|_=>none) (by intro d;first|exact⟨rfl,fun _ h=>h⟩|(split<;>exact⟨rfl,fun _ h=>h⟩)) ?_
        simp[ez]
        refine⟨by(repeat' with_reducible apply And.intro)<;>first|omega|(simpa using hs2)|decide,?_⟩
        refine mU (bI 5 [75] (fz:=false) (cs:=[.d (aD k),.d (.str ([])),.d (aD (0)),.ow 75 0 3]) (ds:=[aD k,.str ([]),aD (0),.sl [(a.1).d,(b.1).d,(c.1).d]]) (by simp) (by simp) (by simp) (by simp[aW.mut])) ?_
        simp
        refine Qo.mk ⟨.mk k ([]) (0) [a.1,b.1,c.1],c.2⟩ (aB [0,1,4,5] [(0,0),(4,4),(5,5)] (by decide) (by decide) (by simp[hp]) (by simp) (by simp[g3])) ?_
        rw[lZ hc4]
        unfold wK
        rw[←ha1,←hb1,←hc1,if_neg (by omega),if_neg (by omega),if_pos (by omega),if_pos g3,if_pos g4]
       ·refine pS.skip ?_
        simp
        refine mU (bI 5 [58] (fz:=false) (cs:=[.d (aD k),.d (.str ([])),.d (aD (0)),.ow 58 0 2]) (ds:=[aD k,.str ([]),aD (0),.sl [(a.1).d,(b.1).d]]) (by simp) (by simp) (by simp) (by simp[aW.mut])) ?_
        simp
        refine Qo.mk ⟨.mk k ([]) (0) [a.1,b.1],if k=11 then b.2+1 else b.2⟩ (aB [0,1,4,5] [(0,0),(4,4),(5,5)] (by decide) (by decide) (by simp[hp]) (by simp) (by by_cases hk:k=11<;>simp[hk])) ?_
        rw[lZ hc4]
        unfold wK
        rw[←ha1,←hb1]
        by_cases hk:k=11
        ·rw[if_neg (by omega),if_neg (by omega),if_pos (by omega),if_pos hk,if_neg (g3 hk)]
         simp[hk]
        ·rw[if_neg (by omega),if_neg (by omega),if_pos (by omega),if_neg hk]
         simp[hk]
      ·have q13:¬(k=11∨k=12):=fun q=>by simp[hc13.2 q]at h13
       refine aT (ι:=BC) (fun⟨b⟩=>aY [(0,.bx 0 0),(1,.d (aD (d:Nat))),(4,.bx 4 0),(5,.bx 5 0),(25,.d (aD (k))),(77,.d (.bool b))]) (fun⟨b⟩=>aK [(0,.box false [.d (.sl (L.map aD)),.d (aD ((i+1:Nat):Int))]),(4,.box false [.d (aD 0),.d (.str []),.d (aD 0),.nl]),(5,.box false [.d (aD k),.d (.str []),.d (aD 0),.nl])]) (fun⟨b⟩=>b=true↔(k=13∨k=14∨k=17∨k=18)) ?_ fun⟨b⟩ hc21=>?_
       ·refine aA ?_
        simp
        refine aC ?_
        simp
        refine⟨fun h17=>?_,fun h17=>?_⟩
        ·refine pS.skip ?_
         simp
         refine Qo.mk ⟨decide (k=13)⟩ (aB [0,1,4,5,25,77] [(0,0),(4,4),(5,5)] (by decide) (by decide) (by simp[hp]) (by simp) (by simp)) ?_
         simp[h17]
        ·refine aA ?_
         simp
         refine aC ?_
         simp
         refine⟨fun h18=>?_,fun h18=>?_⟩
         ·refine pS.skip ?_
          simp
          refine Qo.mk ⟨decide (k=14)⟩ (aB [0,1,4,5,25,77] [(0,0),(4,4),(5,5)] (by decide) (by decide) (by simp[hp]) (by simp) (by simp)) ?_
          simp[h18]
         ·refine aA ?_
          simp
          refine aC ?_
          simp
          refine⟨fun h19=>?_,fun h19=>?_⟩
          ·refine pS.skip ?_
           simp
           refine Qo.mk ⟨decide (k=17)⟩ (aB [0,1,4,5,25,77] [(0,0),(4,4),(5,5)] (by decide) (by decide) (by simp[hp]) (by simp) (by simp)) ?_
           simp[h19]
          ·refine aL ?_
           simp
           refine Qo.mk ⟨decide (k=18)⟩ (aB [0,1,4,5,25,77] [(0,0),(4,4),(5,5)] (by decide) (by decide) (by simp[hp]) (by simp) (by simp)) ?_
           simp only[decide_eq_true_eq];omega
       ·refine aC ?_
        simp
        refine⟨fun h21=>?_,fun h21=>?_⟩
        ·have q21:=hc21.1 h21
         have hc6:=oA L (i+1) hL (by omega)
         refine pS.ro hT hW (fun|83=>some (.gen ⟨[(0,0)],[],[],nQ L (i+2),.d (.str (dA L (i+1)))⟩)|_=>none) ?_
         simp
         refine⟨by simpa using hc6,?_⟩
         refine mU (bI 5 [] (fz:=false) (cs:=[.d (aD k),.d (.str (dA L (i+1))),.d (aD (0)),.nl]) (ds:=[aD k,.str (dA L (i+1)),aD (0),.sl []]) (by simp) (by simp) (by simp) (by simp[aW.mut])) ?_
         simp
         refine Qo.mk ⟨.mk k (dA L (i+1)) (0) [],i+2⟩ (aB [0,1,4,5] [(0,0),(4,4),(5,5)] (by decide) (by decide) (by simp[hp]) (by simp) (by simp)) ?_
         rw[lZ hc4]
         unfold wK
         repeat(first|rw[if_pos (by omega)]|rw[if_neg (by omega)])
        ·have q21:¬(k=13∨k=14∨k=17∨k=18):=fun q=>by simp[hc21.2 q]at h21
         refine aT (ι:=BC) (fun⟨b⟩=>aY [(0,.bx 0 0),(1,.d (aD (d:Nat))),(4,.bx 4 0),(5,.bx 5 0),(25,.d (aD (k))),(85,.d (.bool b))]) (fun⟨b⟩=>aK [(0,.box false [.d (.sl (L.map aD)),.d (aD ((i+1:Nat):Int))]),(4,.box false [.d (aD 0),.d (.str []),.d (aD 0),.nl]),(5,.box false [.d (aD k),.d (.str []),.d (aD 0),.nl])]) (fun⟨b⟩=>b=true↔(k=15∨k=22)) ?_ fun⟨b⟩ hc24=>?_
         ·refine aA ?_
          simp
          refine aC ?_
          simp
          refine⟨fun h22=>?_,fun h22=>?_⟩
          ·refine pS.skip ?_
           simp
           refine Qo.mk ⟨decide (k=15)⟩ (aB [0,1,4,5,25,85] [(0,0),(4,4),(5,5)] (by decide) (by decide) (by simp[hp]) (by simp) (by simp)) ?_
           simp[h22]
          ·refine aL ?_
           simp
           refine Qo.mk ⟨decide (k=22)⟩ (aB [0,1,4,5,25,85] [(0,0),(4,4),(5,5)] (by decide) (by decide) (by simp[hp]) (by simp) (by simp)) ?_
           simp only[decide_eq_true_eq];omega
         ·refine aC ?_
          simp
          refine⟨fun h24=>?_,fun h24=>?_⟩
          ·have q24:=hc24.1 h24
           refine pS.seq ?_
           have hc6:=oA L (i+1) hL (by omega)
           refine pS.ro hT hW (fun|89=>some (.gen ⟨[(0,0)],[],[],nQ L (i+2),.d (.str (dA L (i+1)))⟩)|_=>none) ?_
           simp
           refine⟨by simpa using hc6,?_⟩
           have hv:=sY L hL hll 1 (i+2) (by omega)
           refine pS.ro hT hW (fun|92=>some (.gen ⟨[(0,0)],[],[],nQ L (aF L 1 (i+2)).2,.d (aF L 1 (i+2)).1.d⟩)|_=>none) ?_
           simp
           refine⟨by simpa using hv,?_⟩
           refine mU (bI 5 [93] (fz:=false) (cs:=[.d (aD k),.d (.str (dA L (i+1))),.d (aD (0)),.ow 93 0 1]) (ds:=[aD k,.str (dA L (i+1)),aD (0),.sl [((aF L 1 (i+2)).1).d]]) (by simp) (by simp) (by simp) (by simp[aW.mut])) ?_
           simp
           refine Qo.mk ⟨.mk k (dA L (i+1)) (0) [(aF L 1 (i+2)).1],(aF L 1 (i+2)).2⟩ (aB [0,1,4,5] [(0,0),(4,4),(5,5)] (by decide) (by decide) (by simp[hp]) (by simp) (by simp)) ?_
           rw[lZ hc4]
           unfold wK
           repeat(first|rw[if_pos (by omega)]|rw[if_neg (by omega)])
          ·have q24:¬(k=15∨k=22):=fun q=>by simp[hc24.2 q]at h24
           refine aT (ι:=BC) (fun⟨b⟩=>aY [(0,.bx 0 0),(1,.d (aD (d:Nat))),(4,.bx 4 0),(5,.bx 5 0),(25,.d (aD (k))),(95,.d (.bool b))]) (fun⟨b⟩=>aK [(0,.box false [.d (.sl (L.map aD)),.d (aD ((i+1:Nat):Int))]),(4,.box false [.d (aD 0),.d (.str []),.d (aD 0),.nl]),(5,.box false [.d (aD k),.d (.str []),.d (aD 0),.nl])]) (fun⟨b⟩=>b=true↔(k=16∨k=23)) ?_ fun⟨b⟩ hc28=>?_
           ·refine aA ?_
            simp
            refine aC ?_
            simp
            refine⟨fun h26=>?_,fun h26=>?_⟩
            ·refine pS.skip ?_
             simp
             refine Qo.mk ⟨decide (k=16)⟩ (aB [0,1,4,5,25,95] [(0,0),(4,4),(5,5)] (by decide) (by decide) (by simp[hp]) (by simp) (by simp)) ?_
             simp[h26]
            ·refine aL ?_
             simp
             refine Qo.mk ⟨decide (k=23)⟩ (aB [0,1,4,5,25,95] [(0,0),(4,4),(5,5)] (by decide) (by decide) (by simp[hp]) (by simp) (by simp)) ?_
             simp only[decide_eq_true_eq];omega
           ·refine aC ?_
            simp
            refine⟨fun h28=>?_,fun h28=>?_⟩
            ·have q28:=hc28.1 h28
             refine pS.seq ?_
             have hc6:=oA L (i+1) hL (by omega)
             refine pS.ro hT hW (fun|99=>some (.gen ⟨[(0,0)],[],[],nQ L (i+2),.d (.str (dA L (i+1)))⟩)|_=>none) ?_
             simp
             refine⟨by simpa using hc6,?_⟩
             have hc7:=AV L (i+2) hL (by omega)
             refine pS.ro hT hW (fun|102=>some (.gen ⟨[(0,0)],[],[],nQ L (i+3),.d (.str (mW L (i+2)))⟩)|_=>none) ?_
             simp
             refine⟨by simpa using hc7,?_⟩
             refine mU (bI 5 [104] (fz:=false) (cs:=[.d (aD k),.d (.str (dA L (i+1))),.d (aD (0)),.ow 104 0 1]) (ds:=[aD k,.str (dA L (i+1)),aD (0),.sl [(Nd.mk 33 (mW L (i+2)) 0 []).d]]) (by simp) (by simp) (by simp) (by simp[aW.mut])) ?_
             simp
             refine Qo.mk ⟨.mk k (dA L (i+1)) (0) [Nd.mk 33 (mW L (i+2)) 0 []],i+3⟩ (aB [0,1,4,5] [(0,0),(4,4),(5,5)] (by decide) (by decide) (by simp[hp]) (by simp) (by simp)) ?_
             rw[lZ hc4]
             unfold wK
             repeat(first|rw[if_pos (by omega)]|rw[if_neg (by omega)])
            ·have q28:¬(k=16∨k=23):=fun q=>by simp[hc28.2 q]at h28
             refine aA ?_
             simp
             refine aC ?_
             simp
             refine⟨fun h30=>?_,fun h30=>?_⟩
             ·refine pS.seq ?_
              have hc6:=AV L (i+1) hL (by omega)
              refine pS.ro hT hW (fun|109=>some (.gen ⟨[(0,0)],[],[],nQ L (i+2),.d (.str (mW L (i+1)))⟩)|_=>none) ?_
              simp
              refine⟨by simpa using hc6,?_⟩
              have hc7:=kO L (i+2) 5 hL (by omega) (by decide)
              have hr7:=bJ L ((i:Int)+2) 5 (by decide)
              refine pS.ro hT hW (fun|112=>some (.gen ⟨[(0,0)],[],[],nQ L (i+3),.d (aD (eN L ((i:Int)+2) 5))⟩)|_=>none) ?_
              simp
              refine⟨⟨by simpa using hc7,by omega⟩,?_⟩
              refine mU (bI 5 [] (fz:=false) (cs:=[.d (aD k),.d (.str (mW L (i+1))),.d (aD (2+eN L ((i:Int)+2) 5)),.nl]) (ds:=[aD k,.str (mW L (i+1)),aD (2+eN L ((i:Int)+2) 5),.sl []]) (by simp) (by simp) (by simp) (by simp[aW.mut])) ?_
              simp
              refine Qo.mk ⟨.mk k (mW L (i+1)) (2+eN L ((i:Int)+2) 5) [],i+3⟩ (aB [0,1,4,5] [(0,0),(4,4),(5,5)] (by decide) (by decide) (by simp[hp]) (by simp) (by simp)) ?_
              rw[lZ hc4]
              unfold wK
              repeat(first|rw[if_pos (by omega)]|rw[if_neg (by omega)])
              simp
             ·refine aA ?_
              simp
              refine aC ?_
              simp
              refine⟨fun h33=>?_,fun h33=>?_⟩
              ·have hc6:=AV L (i+1) hL (by omega)
               refine pS.ro hT hW (fun|118=>some (.gen ⟨[(0,0)],[],[],nQ L (i+2),.d (.str (mW L (i+1)))⟩)|_=>none) ?_
               simp
               refine⟨by simpa using hc6,?_⟩
               refine mU (bI 5 [] (fz:=false) (cs:=[.d (aD k),.d (.str (mW L (i+1))),.d (aD (0)),.nl]) (ds:=[aD k,.str (mW L (i+1)),aD (0),.sl []]) (by simp) (by simp) (by simp) (by simp[aW.mut])) ?_
               simp
               refine Qo.mk ⟨.mk k (mW L (i+1)) (0) [],i+2⟩ (aB [0,1,4,5] [(0,0),(4,4),(5,5)] (by decide) (by decide) (by simp[hp]) (by simp) (by simp)) ?_
               rw[lZ hc4]
               unfold wK
               repeat(first|rw[if_pos (by omega)]|rw[if_neg (by omega)])
              ·refine aA ?_
               simp
               refine aC ?_
               simp
               refine⟨fun h35=>?_,fun h35=>?_⟩
               ·have hc7:=kO L (i+1) 9 hL (by omega) (by decide)
                have hr7:=bJ L ((i:Int)+1) 9 (by decide)
                refine pS.ro hT hW (fun|123=>some (.gen ⟨[(0,0)],[],[],nQ L (i+2),.d (aD (eN L ((i:Int)+1) 9))⟩)|_=>none) ?_
                simp
                refine⟨⟨by simpa using hc7,by omega⟩,?_⟩
                refine mU (bI 5 [] (fz:=false) (cs:=[.d (aD k),.d (.str ([])),.d (aD (1+eN L ((i:Int)+1) 9)),.nl]) (ds:=[aD k,.str ([]),aD (1+eN L ((i:Int)+1) 9),.sl []]) (by simp) (by simp) (by simp) (by simp[aW.mut])) ?_
                simp
                refine Qo.mk ⟨.mk k ([]) (1+eN L ((i:Int)+1) 9) [],i+2⟩ (aB [0,1,4,5] [(0,0),(4,4),(5,5)] (by decide) (by decide) (by simp[hp]) (by simp) (by simp)) ?_
                rw[lZ hc4]
                unfold wK
                repeat(first|rw[if_pos (by omega)]|rw[if_neg (by omega)])
                simp
               ·refine aA ?_
                simp
                refine aC ?_
                simp
                refine⟨fun h37=>?_,fun h37=>?_⟩
                ·have hc7:=kO L (i+1) 99 hL (by omega) (by decide)
                 have hr7:=bJ L ((i:Int)+1) 99 (by decide)
                 refine pS.ro hT hW (fun|129=>some (.gen ⟨[(0,0)],[],[],nQ L (i+2),.d (aD (eN L ((i:Int)+1) 99))⟩)|_=>none) ?_
                 simp
                 refine⟨⟨by simpa using hc7,by omega⟩,?_⟩
                 refine mU (bI 5 [] (fz:=false) (cs:=[.d (aD k),.d (.str ([])),.d (aD (1+eN L ((i:Int)+1) 99)),.nl]) (ds:=[aD k,.str ([]),aD (1+eN L ((i:Int)+1) 99),.sl []]) (by simp) (by simp) (by simp) (by simp[aW.mut])) ?_
                 simp
                 refine Qo.mk ⟨.mk k ([]) (1+eN L ((i:Int)+1) 99) [],i+2⟩ (aB [0,1,4,5] [(0,0),(4,4),(5,5)] (by decide) (by decide) (by simp[hp]) (by simp) (by simp)) ?_
                 rw[lZ hc4]
                 unfold wK
                 repeat(first|rw[if_pos (by omega)]|rw[if_neg (by omega)])
                 simp
                ·refine pS.seq ?_
                 have hk24:k=24:=by have:=tN hc4;omega
                 subst hk24
                 refine aL ?_
                 simp
                 refine aC ?_
                 simp
                 have hv:=sY L hL hll 2 (i+1) (by omega)
                 refine pS.ro hT hW (fun|135=>some (.gen ⟨[(0,0)],[],[],nQ L (aF L 2 (i+1)).2,.d (aF L 2 (i+1)).1.d⟩)|_=>none) ?_
                 simp
                 refine⟨by simpa using hv,?_⟩
                 refine mU (bI 5 [136] (fz:=false) (cs:=[.d (aD 24),.d (.str ([])),.d (aD (0)),.ow 136 0 1]) (ds:=[aD 24,.str ([]),aD (0),.sl [((aF L 2 (i+1)).1).d]]) (by simp) (by simp) (by simp) (by simp[aW.mut])) ?_
                 simp
                 refine Qo.mk ⟨.mk 24 ([]) (0) [(aF L 2 (i+1)).1],(aF L 2 (i+1)).2⟩ (aB [0,1,4,5] [(0,0),(4,4),(5,5)] (by decide) (by decide) (by simp[hp]) (by simp) (by simp)) ?_
                 rw[lZ hc4]
                 unfold wK
                 repeat(first|rw[if_pos (by omega)]|rw[if_neg (by omega)])
  ·refine aA ?_
   simp
   refine pS.ret ?_
   simp
   refine aS (x:=(Bl L d bl i).1.d) (by simp[hc41]) ?_
   simp
   exact aB [0] [(0,0)] (by decide) (by decide) (by simp[hp]) (by simp) (by simp[hc41])
theorem IE{L:List Int}{st:Nat→Nd×Nat}{C:Nat}(h:∀j,(st j).2≤j+C):∀(m:Nat) (ks:List Nd) (j:Nat),(fG L st m ks j).2≤j+m*C
 |0,ks,j=>by simp[fG]
 |m+1,ks,j=>by
  unfold fG
  split
  ·simp
  ·have a:=IE (L:=L) h m (ks++[(st j).1]) (st j).2
   have b:=h j
   rw[Nat.succ_mul]
   omega
theorem Ll{L:List Int}{st:Nat→Nd×Nat}{C:Nat}(h:∀j,(st j).2≤j+C)(i:Nat):(rA L st i).2≤i+1+3*C:=by
 have hr:=bJ L i 4 (by decide)
 have a:=IE (L:=L) h (eN L i 4).toNat [] (i+1)
 have b:(eN L i 4).toNat*C≤3*C:=Nat.mul_le_mul_right C (by omega)
 show(fG L st (eN L i 4).toNat [] (i+1)).2≤_
 omega
def Ep:Nat→Nat
 |0=>40
 |d+1=>40+2*(1+3*Ep d)
theorem GP(L:List Int):∀d i,(mF L d i).2≤i+Ep d
 |0,i=>by
  have h:∀j:Nat,((fun _=>default:Nat→Nd×Nat) j).2≤j+0:=fun j=>Nat.zero_le _
  have:=Lk (L:=L) (d:=0) (i:=i) h
  rw[mF]
  simp only[Ep]
  omega
 |d+1,i=>by
  have h:=fun j=>Ll (L:=L) (GP L d) j
  have:=Lk (L:=L) (d:=d+1) (i:=i) (bl:=rA L (mF L d)) (C:=1+3*Ep d) fun j=>by have:=h j;omega
  rw[mF]
  simp only[Ep]
  omega
theorem IF{d:Nat}(h:d≤2):Ep d≤2000:=by
 have:∀d:Nat,d<3→Ep d≤2000:=by decide
 exact this d (by omega)
theorem Lm(L:List Int)(hL:Kl L)(hll:L.length≤1000000):∀(d:Nat),d≤2→∀b,b+70000*d≤1800000→Lj L 56 d b (mF L d)
 |0,_,b,hb=>fun j hj=>FR L 0 j (fun _=>default) hL hll b hj (by omega) (by omega) (fun e he=>by omega) fun j=>by show 0≤j+20000;omega
 |d+1,hd,b,hb=>fun j hj=>by
  have hst:=IF (d:=d) (by omega)
  have hle:=fun j=>Ll (L:=L) (GP L d) j
  obtain⟨c,hc⟩:∃c,c=b+30000:=⟨_,rfl⟩
  have h1:=Lm L hL hll d (by omega) (c+40000) (by omega)
  have h2:Lj L 109 d c (rA L (mF L d)):=fun i hi=>Km L d i (mF L d) hL hll c hi (by omega) h1 fun j=>by have:=GP L d j;omega
  refine FR L (d+1) j (rA L (mF L d)) hL hll b hj (by omega) (by omega) (fun e he=>?_) fun j=>?_
  ·have:e=d:=by omega
   rw[this,←hc]
   exact h2
  ·have:=hle j
   omega
end
open Go.Proofs
section
attribute[local simp] pL.cond Nd.d_eq nd_t nd_dr nd_td ndsD bG eT qL Int.add_assoc eB Cu Cv Cw Ir nQ
theorem Pv(l:List Int):List.take (if(48:Int)<(l.length:Int)then 48 else(l.length:Int)).toNat (l.map aD)=(l.take 48).map aD:=by
 rw[←List.map_take]
 congr 1
 split
 ·rfl
 ·rw[show((l.length:Int)).toNat=l.length from rfl,List.take_length,List.take_of_length_le (by omega)]
theorem QZ{L:List Int}:(iM.map aD)[(eN L 0 10).toNat]?.getD default=aD (iM.getD (eN L 0 10).toNat 0):=by
 have h:=bJ L 0 10 (by decide)
 have hk:(eN L 0 10).toNat<iM.length:=by show _<10;omega
 rw[List.getElem?_map,List.getElem?_eq_getElem hk]
 simp[List.getD_eq_getElem?_getD,hk]
theorem Pw{L:List Int}:0≤iM.getD (eN L 0 10).toNat 0∧iM.getD (eN L 0 10).toNat 0≤6:=by
 have h:=bJ L 0 10 (by decide)
 have key:∀n:Nat,n<10→0≤iM.getD n 0∧iM.getD n 0≤6:=by decide
 exact key _ (by omega)
theorem Eq(L:List Int)(i:Nat):i+2≤(cJ L i).2:=by unfold cJ;split<;>simp
theorem xL(L:List Int):∀(d i:Nat),i+1≤(aF L d i).2:=fun d=>by
 induction d with
 |zero=>
  intro i
  obtain⟨r0,_,r2⟩:=jC L 0 i
  have r2:=r2 rfl
  by_cases h0:dB L 0 i=0∨dB L 0 i=1
  ·rw[nM h0];simp
  ·by_cases h1:dB L 0 i=2
   ·rw[nN h1];simp
   ·by_cases h2:dB L 0 i=3∨dB L 0 i=4
    ·rw[kU h2];have:=Eq L (i+1);omega
    ·rw[mJ (by omega)];simp
 |succ e ih=>
  intro i
  obtain⟨r0,_,_⟩:=jC L (e+1) i
  by_cases h0:dB L (e+1) i=0∨dB L (e+1) i=1
  ·rw[nM h0];simp
  ·by_cases h1:dB L (e+1) i=2
   ·rw[nN h1];simp
   ·by_cases h3:dB L (e+1) i=3∨dB L (e+1) i=4
    ·rw[kU h3];have:=Eq L (i+1);omega
    ·by_cases h4:dB L (e+1) i=5
     ·rw[mJ h4];simp
     ·rw[sX (by omega)]
      have a:=ih (i+1)
      have b:=ih (aF L e (i+1)).2
      simp only
      omega
theorem Ln{L:List Int}{d i:Nat}{bl:Nat→Nd×Nat}(hb:0<d→∀j,j≤(bl j).2):i+1≤(Bl L d bl i).2:=by
 rw[lZ rfl]
 have hk:=tN (L:=L) (d:=d) (i:=i) rfl
 have pl:=Eq L (i+1)
 have a1:=xL L 1 (i+1)
 have a2:=xL L 1 (i+2)
 have a3:=xL L 2 (i+1)
 have a4:=xL L 2 (i+2)
 have a5:=xL L 2 (cJ L (i+1)).2
 unfold wK
 simp only[Nat.add_assoc,Nat.reduceAdd]at*
 split
 ·simp only;omega
 ·split
  ·simp only;omega
  ·split
   ·rename_i h
    have hb:=hb (hk.2.2 h)
    have b1:=hb (aF L 1 (i+1)).2
    have b2:=hb ((bl (aF L 1 (i+1)).2).2+1)
    split
    ·split<;>simp only<;>omega
    ·simp only;omega
   ·repeat(first|(simp only;omega)|split)
theorem IG{L:List Int}{st:Nat→Nd×Nat}(h:∀j,j≤(st j).2):∀(m:Nat) (ks:List Nd) (j:Nat),j≤(fG L st m ks j).2
 |0,ks,j=>Nat.le_refl _
 |m+1,ks,j=>by
  unfold fG
  split
  ·exact Nat.le_refl _
  ·have a:=IG (L:=L) h m (ks++[(st j).1]) (st j).2
   have b:=h j
   omega
theorem Px(L:List Int):∀d i,i+1≤(mF L d i).2
 |0,i=>by rw[mF];exact Ln fun h=>absurd h (Nat.lt_irrefl _)
 |d+1,i=>by
  rw[mF]
  refine Ln fun _ j=>?_
  have:=IG (L:=L) (st:=mF L d) (fun j=>by have:=Px L d j;omega) (eN L j 4).toNat [] (j+1)
  show j≤(fG L (mF L d) (eN L j 4).toNat [] (j+1)).2
  omega
theorem Py{L:List Int}{m:Nat}{ks:List Nd}{j:Nat}(h:L.length≤j):nY L m ks j=ks:=by
 cases m with
 |zero=>rfl
 |succ m=>unfold nY;rw[if_pos h]
theorem Ra{L:List Int}{m:Nat}{ks:List Nd}{j:Nat}(h0:0<m)(h:j<L.length):nY L m ks j=nY L (m-1) (ks++[(mF L 2 j).1]) (mF L 2 j).2:=by
 obtain⟨k,rfl⟩:∃k,m=k+1:=⟨m-1,by omega⟩
 rw[nY,if_neg (by omega)]
 rfl
theorem uD(L:List Int):∀c,(nI L c).length=c
 |0=>rfl
 |c+1=>by rw[nI,List.length_append,uD L c];rfl
structure Tl where
 x:Nd
structure Ww where
 c:Nat
section
variable{L:List Int} {k:Int} {t:aN} (hk:iM.getD (eN L 0 10).toNat 0=k) (ht:dA L 1=t)
include hk ht
theorem Pz(h:k=0):sK L=.mk k t (eN L 2 1999-999) []:=by subst hk ht;unfold sK;simp only[];rw[if_pos h]
theorem MM(h:k=2):sK L=.mk k t (eN L 2 4) []:=by subst hk ht;unfold sK;simp only[];rw[if_neg (by omega),if_pos h]
theorem PA(h:k=1):sK L=.mk k t 0 (nI L (eN L 2 4).toNat):=by subst hk ht;unfold sK;simp only[];rw[if_neg (by omega),if_neg (by omega),if_pos h]
theorem MN(h:k=5∨k=6):sK L=.mk k t 0 [.mk 8 [] 0 (nY L L.length [] 2)]:=by subst hk ht;unfold sK;simp only[];rw[if_neg (by omega),if_neg (by omega),if_neg (by omega),if_pos h]
theorem MO(h0:¬k=0)(h1:¬k=2)(h2:¬k=1)(h3:¬(k=5∨k=6)):sK L=.mk k t 0 []:=by subst hk ht;unfold sK;simp only[];rw[if_neg h0,if_neg h1,if_neg h2,if_neg h3]
end
set_option maxHeartbeats 1000000 in
theorem PB(l:List Int)(hl:Kl l):Ok Tryz.prog 14 [.sl (l.map aD)] ⟨.d (uA l).d,false⟩:=by
 refine Ok.cell hT Tryz.func14 (by kernel_rfl) (c:=_) rfl Tryz.ntmps14 (by simp) Tryz.results14 (by intro _ h;cases h) fun w0 X hp=>?_
 obtain⟨L,hLl⟩:∃L,L=l.take 48:=⟨_,rfl⟩
 have hL:Kl L:=fun n hn=>hl n (by rw[hLl]at hn;exact List.mem_of_mem_take hn)
 have hll:L.length≤48:=by rw[hLl,List.length_take];omega
 have htr:uA l=sK L:=by rw[hLl];rfl
 refine aA ?_
 simp
 refine aA ?_
 simp[Pv,←hLl]
 refine⟨by split<;>omega,?_⟩
 refine pS.seq ?_
 have ha:=kO L 0 10 hL (by omega) (by decide)
 have hr:=bJ L 0 10 (by decide)
 have hc:=oA L 1 hL (by omega)
 have hka:=QZ (L:=L)
 have hkr:=Pw (L:=L)
 simp[iM]at hka
 obtain⟨k,hk⟩:∃k,iM.getD (eN L 0 10).toNat 0=k:=⟨_,rfl⟩
 obtain⟨t,ht⟩:∃t,dA L 1=t:=⟨_,rfl⟩
 refine aI hT hW bU (lk [[],[],[1],[0,1,2],[0,1,2,3],[],[1,2,5],[0,1,2,3,4,5,6],[],[0,1,2,3,4,5,6,7,8]]) (lk [[4,15],[4,16],[4,16],[4,15],[4,15],[4,15,16],[4,16],[4],[15,16],[]]) (lk [[16],[],[15],[],[],[],[15],[],[4],[4]]) (by kernel_rfl) (fun|18=>some (.gen ⟨[(15,0)],[],[],nQ L 1,.d (aD (eN L 0 10))⟩)|22=>some (.gen ⟨[(15,0)],[],[],nQ L 2,.d (.str t)⟩)|_=>none) (by intro d;first|exact⟨rfl,fun _ h=>h⟩|(split<;>exact⟨rfl,fun _ h=>h⟩)) ?_
 simp[hka]
 rw[hk]at hkr
 rw[ht]at hc
 refine⟨⟨⟨⟨⟨by decide,by simpa using ha⟩,by omega⟩,by omega⟩,by simpa using hc⟩,?_⟩
 have hk':[5,6,5,6,5,0,1,2,3,4][(eN L 0 10).toNat]?.getD 0=k:=by rw[←hk];simp[iM]
 simp only[hk']
 refine aT (ι:=Tl) (fun⟨x⟩=>aY [(2,.bx 2 0),(4,.bx 4 0)]) (fun⟨x⟩=>aK [(2,.box false [.d (aD 0),.d (.str []),.d (aD 0),.nl]),(4,.box false [.d (aD x.kind),.d (.str x.text),.d (aD x.n),.d (ndsD x.kids)])]) (fun⟨x⟩=>sK L=x) ?_ fun⟨x⟩ hc21=>?_
 ·refine aA ?_
  simp
  refine pS.block ?_
  refine aA ?_
  simp
  refine aC ?_
  simp
  refine⟨fun h4=>?_,fun h4=>?_⟩
  ·have h5a:=kO L 2 1999 hL (by omega) (by decide)
   have h5r:=bJ L 2 1999 (by decide)
   refine pS.ro hT hW (fun|29=>some (.gen ⟨[(15,0)],[],[],nQ L 3,.d (aD (eN L 2 1999))⟩)|_=>none) ?_
   simp
   refine⟨⟨by simpa using h5a,by omega⟩,?_⟩
   refine mU (bI 4 [] (fz:=false) (cs:=[.d (aD k),.d (.str t),.d (aD (eN L 2 1999-999)),.nl]) (ds:=[aD k,.str t,aD (eN L 2 1999-999),.sl []]) (by simp) (by simp) (by simp) (by simp[aW.mut])) ?_
   simp
   refine Qo.mk ⟨.mk k t (eN L 2 1999-999) []⟩ (aB [2,4] [(2,2),(4,4)] (by decide) (by decide) (by simp[hp]) (by simp) (by simp)) ?_
   exact Pz hk ht h4
  ·refine aA ?_
   simp
   refine aC ?_
   simp
   refine⟨fun h6=>?_,fun h6=>?_⟩
   ·have h5a:=kO L 2 4 hL (by omega) (by decide)
    refine pS.ro hT hW (fun|35=>some (.gen ⟨[(15,0)],[],[],nQ L 3,.d (aD (eN L 2 4))⟩)|_=>none) ?_
    simp
    refine⟨by simpa using h5a,?_⟩
    refine mU (bI 4 [] (fz:=false) (cs:=[.d (aD k),.d (.str t),.d (aD (eN L 2 4)),.nl]) (ds:=[aD k,.str t,aD (eN L 2 4),.sl []]) (by simp) (by simp) (by simp) (by simp[aW.mut])) ?_
    simp
    refine Qo.mk ⟨.mk k t (eN L 2 4) []⟩ (aB [2,4] [(2,2),(4,4)] (by decide) (by decide) (by simp[hp]) (by simp) (by simp)) ?_
    exact MM hk ht h6
   ·refine aA ?_
    simp
    refine aC ?_
    simp
    refine⟨fun h8=>?_,fun h8=>?_⟩
    ·refine pS.seq ?_
     have h5a:=kO L 2 4 hL (by omega) (by decide)
     have h5r:=bJ L 2 4 (by decide)
     obtain⟨m,hm9⟩:∃m:Nat,(eN L 2 4).toNat=m:=⟨_,rfl⟩
     have hm9i:eN L 2 4=(m:Int):=by omega
     refine pS.ro hT hW (fun|40=>some (.gen ⟨[(15,0)],[],[],nQ L 3,.d (aD (m:Nat))⟩)|_=>none) ?_
     simp
     refine⟨by simpa [hm9i]using h5a,?_⟩
     refine pX (fz:=false) (cs:=[.d (aD k),.d (.str t),.d (aD 0),.nl]) 4 3 1056 4 (by decide) ⟨by simp,by simp,by simp,?_⟩
     simp
     refine aA ?_
     simp
     refine pS.block ?_
     refine bX (ι:=Ww) (fun⟨c⟩=>aY [(2,.bx 2 0),(3,.bx 15 0),(4,.bx 4 0),(5,.d (aD (m:Nat))),(6,.d (aD (c:Nat)))]) (fun⟨c⟩=>aK [(2,.box false [.d (aD 0),.d (.str []),.d (aD 0),.nl]),(4,.box false [.d (aD k),.d (.str t),.d (aD 0),.ow 1056 0 c]),(15,.box false [.d (.sl (L.map aD)),.d (aD ((3+2*c:Nat):Int))]),(1056,.row false 4 ((nI L c).map Nd.d))]) (fun⟨c⟩=>c≤m) (fun⟨c⟩=>m-c) ⟨0⟩ (aB [2,3,4,5,6] [(2,2),(4,4),(15,15),(1056,1056)] (by decide) (by decide) (by simp[hp]) (by simp) (by simp[nI])) (Nat.zero_le _) fun⟨c⟩ hi11=>?_
     refine pS.seq ?_
     refine aA ?_
     simp
     refine aC ?_
     simp
     refine⟨fun h11=>?_,fun h11=>?_⟩
     ·refine pS.skip ?_
      simp
      refine pS.seq ?_
      refine pS.block ?_
      refine pS.seq ?_
      have h13c:=oA L (3+2*c) hL (by omega)
      refine pS.ro hT hW (fun|47=>some (.gen ⟨[(15,0)],[],[],nQ L (3+2*c+1),.d (.str (dA L (3+2*c)))⟩)|_=>none) ?_
      simp
      refine⟨by simpa using h13c,?_⟩
      have h14c:=kO L (4+2*c) 1999 hL (by omega) (by decide)
      have h14r:=bJ L (4+2*(c:Int)) 1999 (by decide)
      have hcm:c≤m:=hi11
      have e14:(3:Int)+(2*(c:Int)+1)=4+2*c:=by omega
      have e15:(4:Int)+(2*(c:Int)+1)=3+(2*c+2):=by omega
      have hic:=uD L c
      refine aI hT hW bU (lk [[],[0],[],[],[3],[3,4],[2,3,4,5],[2,3,4,5,6],[0,1,2,3,4,5,6,7],[0,1,2,3,4,5,6,7,8],[0,1,2,3,4,5,6,7,8,9]]) (lk [[15,55],[15,55],[15],[],[],[],[],[],[],[],[]]) (lk [[],[],[],[],[15],[],[],[55],[56,1056],[],[4]]) (by kernel_rfl) (fun|52=>some (.gen ⟨[(15,0)],[],[],nQ L (4+2*c+1),.d (aD (eN L ((4+2*c:Nat):Int) 1999))⟩)|_=>none) (by intro d;first|exact⟨rfl,fun _ h=>h⟩|(split<;>exact⟨rfl,fun _ h=>h⟩)) ?_
      simp[e14]
      refine⟨⟨⟨by simpa using h14c,by omega,by omega⟩,by omega,by omega⟩,?_⟩
      have hcm2:c≤m:=hi11
      refine aL ?_
      simp
      refine⟨by omega,?_⟩
      refine KN.mk ⟨c+1⟩ (aB [2,3,4,5,6] [(2,2),(4,4),(15,15),(56,1056)] (by decide) (by decide) (by simp[hp]) (by simp) (by simp[nI,Int.mul_add,uD,List.take_of_length_le,e15])) ?_ ?_
      ·show c+1≤m
       omega
      ·show m-(c+1)<m-c
       omega
     ·refine pS.exit ?_
      simp
      refine mU (bI 4 [1056] (fz:=false) (cs:=[.d (aD k),.d (.str t),.d (aD 0),.ow 1056 0 c]) (ds:=[aD k,.str t,aD 0,.sl ((nI L c).map Nd.d)]) (by simp) (by simp) (by simp[uD,List.take_of_length_le]) (by simp[aW.mut])) ?_
      simp
      refine Qo.mk ⟨.mk k t 0 (nI L c)⟩ (aB [2,4] [(2,2),(4,4)] (by decide) (by decide) (by simp[hp]) (by simp) (by simp)) ?_
      rw[PA hk ht h8,hm9]
      have e11:c=m:=by have:=(show c≤m from hi11);omega
      rw[e11]
    ·refine aT (ι:=BC) (fun⟨b⟩=>aY [(2,.bx 2 0),(3,.bx 15 0),(4,.bx 4 0),(25,.d (aD (k))),(58,.d (.bool b))]) (fun⟨b⟩=>aK [(2,.box false [.d (aD 0),.d (.str []),.d (aD 0),.nl]),(4,.box false [.d (aD k),.d (.str t),.d (aD 0),.nl]),(15,.box false [.d (.sl (L.map aD)),.d (aD 2)])]) (fun⟨b⟩=>b=true↔(k=5∨k=6)) ?_ fun⟨b⟩ hc17=>?_
     ·refine aA ?_
      simp
      refine aC ?_
      simp
      refine⟨fun h15=>?_,fun h15=>?_⟩
      ·refine pS.skip ?_
       simp
       refine Qo.mk ⟨decide (k=5)⟩ (aB [2,3,4,25,58] [(2,2),(4,4),(15,15)] (by decide) (by decide) (by simp[hp]) (by simp) (by simp)) ?_
       simp[h15]
      ·refine aL ?_
       simp
       refine Qo.mk ⟨decide (k=6)⟩ (aB [2,3,4,25,58] [(2,2),(4,4),(15,15)] (by decide) (by decide) (by simp[hp]) (by simp) (by simp)) ?_
       simp only[decide_eq_true_eq];omega
     ·refine aC ?_
      simp
      refine⟨fun h17=>?_,fun h17=>?_⟩
      ·have q17:=hc17.1 h17
       refine aA ?_
       simp
       refine pX (fz:=false) (cs:=[.d (aD 8),.d (.str []),.d (aD 0),.nl]) 8 3 1077 4 (by decide) ⟨by simp,by simp,by simp,?_⟩
       simp
       refine pS.seq ?_
       refine pS.block ?_
       refine bX (ι:=Tj) (fun⟨m,ks,j⟩=>aY [(2,.bx 2 0),(3,.bx 15 0),(4,.bx 4 0),(8,.bx 8 0)]) (fun⟨m,ks,j⟩=>aK [(2,.box false [.d (aD 0),.d (.str []),.d (aD 0),.nl]),(4,.box false [.d (aD k),.d (.str t),.d (aD 0),.nl]),(8,.box false [.d (aD 8),.d (.str []),.d (aD 0),.ow 1077 0 ks.length]),(15,.box false [.d (.sl (L.map aD)),.d (aD (j:Nat))]),(1077,.row false 4 (ks.map Nd.d))]) (fun⟨m,ks,j⟩=>j≤3000∧L.length≤m+j∧ks.length≤j∧nY L L.length [] 2=nY L m ks j) (fun⟨m,ks,j⟩=>L.length-j) ⟨L.length,[],2⟩ (aB [2,3,4,8] [(2,2),(4,4),(8,8),(15,15),(1077,1077)] (by decide) (by decide) (by simp[hp]) (by simp) (by simp)) (⟨by omega,by omega,by simp,rfl⟩) fun⟨m,ks,j⟩ hi18=>?_
       refine pS.seq ?_
       refine pS.seq ?_
       refine aI hT hW bU (lk [[],[0],[0,1],[0,1,2],[],[4],[4,5],[4,5,6],[4,5,6,7],[0,1,2,3,4,5,6,7,8]]) (lk [[],[],[],[],[],[],[],[],[],[]]) (lk [[],[],[],[],[],[],[],[],[],[]]) (by kernel_rfl) (fun _=>none) (fun _=>⟨rfl,fun _ h=>h⟩) ?_
       simp
       refine aC ?_
       simp
       refine⟨fun h18=>?_,fun h18=>?_⟩
       ·refine pS.skip ?_
        simp
        refine pS.block ?_
        have h19:=Lm L hL (by omega) 2 (by omega) 5000 (by omega) j (by omega)
        have hup:=Px L 2 j
        have hto:=GP L 2 j
        have hto2:=IF (d:=2) (by omega)
        have hkl:=hi18.2.2.1
        refine aI hT hW bU (lk [[],[0],[],[2],[2,3],[0,1,2,3,4],[0,1,2,3,4,5],[0,1,2,3,4,5,6]]) (lk [[15,76],[15,76],[],[],[],[],[],[]]) (lk [[],[],[],[15],[76],[77,1077],[],[8]]) (by kernel_rfl) (fun|75=>some (.gen ⟨[(15,0)],[],[],nQ L (mF L 2 j).2,.d (mF L 2 j).1.d⟩)|_=>none) (by intro d;first|exact⟨rfl,fun _ h=>h⟩|(split<;>exact⟨rfl,fun _ h=>h⟩)) ?_
        simp
        refine⟨by(repeat' with_reducible apply And.intro)<;>first|omega|(simpa using h19),?_⟩
        refine KN.mk ⟨m-1,ks++[(mF L 2 j).1],(mF L 2 j).2⟩ (aB [2,3,4,8] [(2,2),(4,4),(8,8),(15,15),(77,1077)] (by decide) (by decide) (by simp[hp]) (by simp) (by simp)) ?_ ?_
        ·refine⟨(show(mF L 2 j).2≤3000 by omega),(show L.length≤m-1+(mF L 2 j).2 by omega),(by rw[List.length_append,List.length_singleton];show ks.length+1≤(mF L 2 j).2;omega),?_⟩
         rw[hi18.2.2.2,Ra (by omega) (by omega)]
        ·show L.length-(mF L 2 j).2<L.length-j
         omega
       ·refine pS.exit ?_
        simp
        refine aL ?_
        simp
        refine mU (bI 4 [80] (fz:=false) (cs:=[.d (aD k),.d (.str t),.d (aD 0),.ow 80 0 1]) (ds:=[aD k,.str t,aD 0,.sl [(Nd.mk 8 [] 0 ks).d]]) (by simp) (by simp) (by simp) (by simp[aW.mut])) ?_
        simp
        refine Qo.mk ⟨.mk k t 0 [.mk 8 [] 0 ks]⟩ (aB [2,4] [(2,2),(4,4)] (by decide) (by decide) (by simp[hp]) (by simp) (by simp)) ?_
        rw[MN hk ht q17,hi18.2.2.2,Py (by omega)]
      ·have q17:¬(k=5∨k=6):=fun q=>by simp[hc17.2 q]at h17
       refine pS.skip ?_
       simp
       refine mU (bI 4 [] (fz:=false) (cs:=[.d (aD k),.d (.str t),.d (aD 0),.nl]) (ds:=[aD k,.str t,aD 0,.sl []]) (by simp) (by simp) (by simp) (by simp[aW.mut])) ?_
       simp
       refine Qo.mk ⟨.mk k t 0 []⟩ (aB [2,4] [(2,2),(4,4)] (by decide) (by decide) (by simp[hp]) (by simp) (by simp)) ?_
       exact MO hk ht h4 h6 h8 q17
 ·refine aA ?_
  simp
  refine pS.ret ?_
  have e:uA l=x:=htr.trans hc21
  simp[e]
end
open Go.Proofs
section
attribute[local simp] pL.cond Nd.d_eq nd_t nd_dr nd_td ndsD bG qL eB Cu Cv Cw Ir
def xM(n:Int):Prop:= -9223372036854775808≤n∧n≤9223372036854775807
theorem PC{a:Int}{m:Nat}(h:xM a):xM (a.tdiv ((m:Int)+1)):=by
 unfold xM at*
 have h1:(a.tdiv ((m:Int)+1)).natAbs≤a.natAbs:=by rw[Int.natAbs_tdiv];exact Nat.div_le_self _ _
 by_cases h0:0≤a
 ·have:=Int.tdiv_nonneg h0 (show(0:Int)≤(m:Int)+1 by omega)
  omega
 ·have h2:a.tdiv ((m:Int)+1)≤0:=by
   obtain⟨b,rfl⟩:∃b,a= -b:=⟨-a,by omega⟩
   rw[Int.neg_tdiv]
   have:=Int.tdiv_nonneg (show(0:Int)≤b by omega) (show(0:Int)≤(m:Int)+1 by omega)
   omega
  omega
theorem MP{x:Nd}{a how b:Int}{j:Nat}(hj:fF a ((x.kids.length:Int)+1)=(j:Int))(hlt:j<x.kids.length):qR x a how b=.mk x.kind x.text x.n (x.kids.set j (qR x.kids[j] (a.tdiv ((x.kids.length:Int)+1)) how b)):=by
 obtain⟨k,t,n,ks⟩:=x
 have hj:fF a ((ks.length:Int)+1)=(j:Int):=hj
 have hlt:j<ks.length:=hlt
 have e:((ks.length+1:Nat):Int)=(ks.length:Int)+1:=rfl
 rw[qR]
 simp only[e]
 rw[hj,if_pos (by omega)]
 congr 1
 exact spoilL_set ks j _ how b hlt
theorem Kn{x:Nd}{a how b:Int}(hj:¬fF a ((x.kids.length:Int)+1)<x.kids.length):qR x a how b=qE x how b:=by
 obtain⟨k,t,n,ks⟩:=x
 have hj:¬fF a ((ks.length:Int)+1)<ks.length:=hj
 have e:((ks.length+1:Nat):Int)=(ks.length:Int)+1:=rfl
 rw[qR]
 simp only[e]
 rw[if_neg hj]
theorem Se{b:Int}:(pV.map DV.str)[(fF b 14).toNat]?.getD default=.str (pV.getD (fF b 14).toNat []):=by
 have h:=oE b 14 (by decide)
 have hk:(fF b 14).toNat<pV.length:=by show _<14;omega
 rw[List.getElem?_map,List.getElem?_eq_getElem hk]
 simp[List.getD_eq_getElem?_getD,hk]
theorem Sf{b:Int}:(rG.map aD)[(fF b 16).toNat]?.getD default=aD (rG.getD (fF b 16).toNat 0):=by
 have h:=oE b 16 (by decide)
 have hk:(fF b 16).toNat<rG.length:=by show _<16;omega
 rw[List.getElem?_map,List.getElem?_eq_getElem hk]
 simp[List.getD_eq_getElem?_getD,hk]
theorem GQ(x:Nd)(a how b:Int)(ha:xM a)(hh:xM how)(hb:xM b)(hw:x.kids.length≤1000000000)(ih:∀y∈x.kids,∀a:Int,xM a→Ok Tryz.prog 22 [y.d,aD a,aD how,aD b] ⟨.d (qR y a how b).d,false⟩):Ok Tryz.prog 22 [x.d,aD a,aD how,aD b] ⟨.d (qR x a how b).d,false⟩:=by
 refine Ok.cell hT Tryz.func22 (by kernel_rfl) (c:=_) rfl Tryz.ntmps22 (by simp) Tryz.results22 (by intro _ h;cases h) fun w0 X hp=>?_
 refine aA ?_
 simp
 refine pS.seq ?_
 have h1:=rM a ((x.kids.length:Int)+1) ha.1 ha.2 (by omega)
 have hr:=oE a ((x.kids.length:Int)+1) (by omega)
 refine pS.ro hT hW (fun|16=>some<| .plain ⟨.d (aD (fF a ((x.kids.length:Int)+1))),true⟩|_=>none) ?_
 simp
 refine⟨⟨by omega,h1⟩,?_⟩
 obtain⟨j,hj⟩:∃j:Nat,fF a ((x.kids.length:Int)+1)=(j:Int):=⟨(fF a ((x.kids.length:Int)+1)).toNat,by omega⟩
 simp only[hj]
 refine pS.seq ?_
 refine aA ?_
 simp
 refine aC ?_
 simp
 refine⟨fun h2=>?_,fun h2=>?_⟩
 ·refine pS.seq ?_
  have hlt:j<x.kids.length:=by omega
  refine aL ?_
  simp
  refine⟨⟨by omega,by omega⟩,?_⟩
  refine pS.seq ?_
  have hk:=ih _ (List.getElem_mem hlt) (a.tdiv ((x.kids.length:Int)+1)) (PC ha)
  have hdr:=PC (m:=x.kids.length) ha
  simp at hk
  unfold xM at hdr
  refine aI hT hW bU (lk [[],[],[],[],[2,3],[2,3,4],[],[],[7],[7,8],[7,8,9],[6,7,8,9,10],[],[],[2,3,4,5,6,7,8,9,10,11,12,13],[0,1,2,3,4,5,6,7,8,9,10,11,12,13,14],[0,1,2,3,4,5,6,7,8,9,10,11,12,13,14,15]]) (lk [[],[],[],[],[],[],[],[],[],[],[],[],[],[],[],[],[]]) (lk [[],[],[],[],[],[],[],[],[],[],[],[],[],[],[],[],[25]]) (by kernel_rfl) (fun|40=>some<| .plain ⟨.d (qR x.kids[j] (a.tdiv ((x.kids.length:Int)+1)) how b).d,false⟩|_=>none) (by intro d;first|exact⟨rfl,fun _ h=>h⟩|(split<;>exact⟨rfl,fun _ h=>h⟩)) ?_
  simp[hlt]
  refine⟨by(repeat' with_reducible apply And.intro)<;>first|omega|exact hk,?_⟩
  refine aA ?_
  simp
  refine aA ?_
  simp
  refine pS.ret ?_
  have e:=MP (how:=how) (b:=b) hj hlt
  simp[e,List.take_of_length_le]
 ·refine pS.skip ?_
  simp
  refine aT (ι:=Tl) (fun⟨y⟩=>aY [(4,.bx 4 0),(8,.bx 8 0)]) (fun⟨y⟩=>aK [(4,.box false [.d (aD y.kind),.d (.str y.text),.d (aD y.n),.d (ndsD y.kids)]),(8,.box false [.d (aD 0),.d (.str []),.d (aD 0),.nl])]) (fun⟨y⟩=>qE x how b=y) ?_ fun⟨y⟩ hc17=>?_
  ·refine pS.seq ?_
   have h7:=rM how 5 hh.1 hh.2 (by omega)
   have h7r:=oE how 5 (by omega)
   obtain⟨c,hc⟩:∃c,fF how 5=c:=⟨_,rfl⟩
   refine pS.ro hT hW (fun|46=>some<| .plain ⟨.d (aD c),true⟩|_=>none) ?_
   simp
   refine⟨by simpa [hc]using h7,?_⟩
   refine pS.block ?_
   refine aA ?_
   simp
   refine aC ?_
   simp
   refine⟨fun h9=>?_,fun h9=>?_⟩
   ·have h10a:=rM b 40 hb.1 hb.2 (by omega)
    have h10r:=oE b 40 (by omega)
    refine pS.ro hT hW (fun|58=>some<| .plain ⟨.d (aD (fF b 40)),true⟩|_=>none) ?_
    simp
    refine⟨⟨h10a,by omega⟩,?_⟩
    refine Qo.mk ⟨.mk (fF b 40-2) x.text x.n x.kids⟩ (aB [4,8] [(4,4),(8,8)] (by decide) (by decide) (by simp[hp]) (by simp) (by simp)) ?_
    unfold qE;simp only[];rw[hc,if_pos h9]
   ·refine aA ?_
    simp
    refine aC ?_
    simp
    refine⟨fun h11=>?_,fun h11=>?_⟩
    ·have h12a:=rM b 14 hb.1 hb.2 (by omega)
     have h12r:=oE b 14 (by omega)
     have hc12:=Se (b:=b)
     simp[pV]at hc12
     refine pS.ro hT hW (fun|65=>some<| .plain ⟨.d (aD (fF b 14)),true⟩|_=>none) ?_
     simp[hc12]
     refine⟨by(repeat' with_reducible apply And.intro)<;>first|omega|exact h12a|decide,?_⟩
     refine Qo.mk ⟨.mk x.kind (pV.getD (fF b 14).toNat []) x.n x.kids⟩ (aB [4,8] [(4,4),(8,8)] (by decide) (by decide) (by simp[hp]) (by simp) (by simp[pV])) ?_
     unfold qE;simp only[];rw[hc,if_neg h9,if_pos h11]
    ·refine aA ?_
     simp
     refine aC ?_
     simp
     refine⟨fun h13=>?_,fun h13=>?_⟩
     ·have h14a:=rM b 16 hb.1 hb.2 (by omega)
      have h14r:=oE b 16 (by omega)
      have hc14:=Sf (b:=b)
      simp[rG]at hc14
      refine pS.ro hT hW (fun|73=>some<| .plain ⟨.d (aD (fF b 16)),true⟩|_=>none) ?_
      simp[hc14]
      refine⟨by(repeat' with_reducible apply And.intro)<;>first|omega|exact h14a|decide,?_⟩
      refine Qo.mk ⟨.mk x.kind x.text (rG.getD (fF b 16).toNat 0) x.kids⟩ (aB [4,8] [(4,4),(8,8)] (by decide) (by decide) (by simp[hp]) (by simp) (by simp[rG])) ?_
      unfold qE;simp only[];rw[hc,if_neg h9,if_neg h11,if_pos h13]
     ·refine aA ?_
      simp
      refine aC ?_
      simp
      refine⟨fun h15=>?_,fun h15=>?_⟩
      ·refine aL ?_
       simp
       refine⟨by(repeat' with_reducible apply And.intro)<;>first|omega|decide,?_⟩
       refine mU (bI 4 [85] (fz:=false) (cs:=[.d (aD x.kind),.d (.str x.text),.d (aD x.n),.ow 85 0 (x.kids.length+1)]) (ds:=[aD x.kind,.str x.text,aD x.n,.sl ((x.kids++[Nd.mk 32 [] 0 []]).map Nd.d)]) (by simp) (by simp) (by simp[List.take_of_length_le]) (by simp[aW.mut])) ?_
       simp
       refine Qo.mk ⟨.mk x.kind x.text x.n (x.kids++[.mk 32 [] 0 []])⟩ (aB [4,8] [(4,4),(8,8)] (by decide) (by decide) (by simp[hp]) (by simp) (by simp)) ?_
       unfold qE;simp only[];rw[hc,if_neg h9,if_neg h11,if_neg h13,if_pos h15]
      ·have e8:((x.kids.length:Int)).tdiv 2=((x.kids.length / 2:Nat):Int):=rfl
       obtain⟨n2,hn2⟩:∃n2,n2=x.kids.length / 2:=⟨_,rfl⟩
       rw[←hn2]at e8
       refine aL ?_
       simp[e8]
       refine⟨by(repeat' with_reducible apply And.intro)<;>first|omega|decide,?_⟩
       refine Qo.mk ⟨.mk x.kind x.text x.n (x.kids.take n2)⟩ (aB [4,8] [(4,4),(8,8)] (by decide) (by decide) (by simp[hp]) (by simp) (by simp)) ?_
       unfold qE;simp only[];rw[hc,if_neg h9,if_neg h11,if_neg h13,if_neg h15,hn2]
  ·refine aA ?_
   simp
   refine pS.ret ?_
   simp
   have e:qR x a how b=y:=(Kn (by omega)).trans hc17
   simp[e]
theorem Ko(x:Nd):weighN x≤1000000000→∀a how b:Int,xM a→xM how→xM b→Ok Tryz.prog 22 [x.d,aD a,aD how,aD b] ⟨.d (qR x a how b).d,false⟩:=
 mS (p:=fun x=>weighN x≤1000000000→∀a how b:Int,xM a→xM how→xM b→Ok Tryz.prog 22 [x.d,aD a,aD how,aD b] ⟨.d (qR x a how b).d,false⟩)
  (fun k t n ks ih hw a how b ha hh hb=>GQ _ a how b ha hh hb (by have:=pW (.mk k t n ks);omega) fun y hy a' ha'=>ih y hy (by have:=weigh_mem (show y∈ks from hy);rw[weighN]at hw;omega) a' how b ha' hh hb) x
end
end Go.Eng
namespace Go.Eng
open Go.Proofs
theorem wH(L:List Int)(i:Nat):(mW L i).length≤16:=by
 unfold mW
 have:∀k:Nat,(HJ.getD k []).length≤16:=fun k=>by
  rw[List.getD_eq_getElem?_getD]
  cases e:HJ[k]? with
  |none=>simp
  |some w=>
   have:=List.mem_of_getElem? e
   exact(by decide:∀w∈HJ,w.length≤16) w this
 exact this _
theorem oB(k:Int)(t:aN)(n:Int):weighN (.mk k t n [])=t.length+1:=by simp[weighN,weighL]
theorem xN(L:List Int)(i:Nat):weighN (cJ L i).1≤34:=by
 have h1:=lM L (i+1)
 have h2:=lM L (i+2)
 unfold cJ
 split<;>simp only[oB,List.length_append,List.length_cons]<;>omega
theorem xO(L:List Int):∀(d i:Nat),weighN (aF L d i).1+1≤35*2^d:=fun d=>by
 induction d with
 |zero=>
  intro i
  obtain⟨r0,_,r2⟩:=jC L 0 i
  have r2:=r2 rfl
  have ho:=wH L (i+1)
  have hp:=xN L (i+1)
  by_cases h0:dB L 0 i=0∨dB L 0 i=1
  ·rw[nM h0];simp[oB]
  ·by_cases h1:dB L 0 i=2
   ·rw[nN h1];simp only[oB];omega
   ·by_cases h2:dB L 0 i=3∨dB L 0 i=4
    ·rw[kU h2];omega
    ·rw[mJ (by omega)];simp[oB]
 |succ e ih=>
  intro i
  have hp1:1≤2^e:=Nat.one_le_two_pow
  have h2:2^(e+1)=2*2^e:=by rw[Nat.pow_succ,Nat.mul_comm]
  have ho:=wH L (i+1)
  have hp:=xN L (i+1)
  obtain⟨r0,_,_⟩:=jC L (e+1) i
  by_cases h0:dB L (e+1) i=0∨dB L (e+1) i=1
  ·rw[nM h0];simp only[oB,List.length_nil];omega
  ·by_cases h1:dB L (e+1) i=2
   ·rw[nN h1];simp only[oB];omega
   ·by_cases h3:dB L (e+1) i=3∨dB L (e+1) i=4
    ·rw[kU h3];omega
    ·by_cases h4:dB L (e+1) i=5
     ·rw[mJ h4];simp only[oB,List.length_nil];omega
     ·rw[sX (by omega)]
      have a:=ih (i+1)
      have b:=ih (aF L e (i+1)).2
      simp only[weighN,weighL,List.length_nil]
      omega
theorem Er{L:List Int}{d i C:Nat}{bl:Nat→Nd×Nat}(hb:∀j,weighN (bl j).1≤C):weighN (Bl L d bl i).1≤200+2*C:=by
 rw[lZ rfl]
 have v1:=fun j=>xO L 1 j
 have v2:=fun j=>xO L 2 j
 have pl:=xN L (i+1)
 have cl:=lM L (i+1)
 have ol:=wH L (i+1)
 have ol2:=wH L (i+1+1)
 unfold wK
 have a1:=v1 (i+1)
 have a2:=v1 (i+1+1)
 have a3:=v2 (i+1)
 have a4:=v2 (i+1+1)
 have a5:=v2 (cJ L (i+1)).2
 have b1:=hb (aF L 1 (i+1)).2
 have b2:=hb ((bl (aF L 1 (i+1)).2).2+1)
 simp only[Nat.reducePow,Nat.reduceMul]at*
 repeat(first|(simp only[weighN,weighL,List.length_nil];omega)|split)
theorem Cy{L:List Int}{st:Nat→Nd×Nat}{C:Nat}(h:∀j,weighN (st j).1≤C):∀(m:Nat) (ks:List Nd) (j:Nat),weighL (fG L st m ks j).1≤weighL ks+m*C
 |0,ks,j=>by simp[fG]
 |m+1,ks,j=>by
  unfold fG
  split
  ·simp
  ·have a:=Cy (L:=L) h m (ks++[(st j).1]) (st j).2
   have b:=h j
   rw[weighL_append]at a
   simp only[weighL]at a
   rw[Nat.succ_mul]
   omega
theorem Kp{L:List Int}{st:Nat→Nd×Nat}{C:Nat}(h:∀j,weighN (st j).1≤C)(i:Nat):weighN (rA L st i).1≤1+3*C:=by
 have hr:=bJ L i 4 (by decide)
 have a:=Cy (L:=L) h (eN L i 4).toNat [] (i+1)
 have b:(eN L i 4).toNat*C≤3*C:=Nat.mul_le_mul_right C (by omega)
 show weighN (.mk 8 [] 0 (fG L st (eN L i 4).toNat [] (i+1)).1)≤_
 simp only[weighN,weighL,List.length_nil]at*
 omega
def Es:Nat→Nat
 |0=>204
 |d+1=>200+2*(1+3*Es d)
theorem FS(L:List Int):∀d i,weighN (mF L d i).1≤Es d
 |0,i=>by
  rw[mF]
  exact Er (C:=2) fun j=>by show weighN default≤2;decide
 |d+1,i=>by
  rw[mF]
  exact Er (C:=1+3*Es d) fun j=>Kp (FS L d) j
theorem Et(L:List Int):∀(m:Nat) (ks:List Nd) (j:Nat),weighL (nY L m ks j)≤weighL ks+m*Es 2
 |0,ks,j=>by simp[nY]
 |m+1,ks,j=>by
  unfold nY
  split
  ·simp
  ·have a:=Et L m (ks++[(mF L 2 j).1]) (mF L 2 j).2
   have b:=FS L 2 j
   rw[weighL_append]at a
   simp only[weighL]at a
   rw[Nat.succ_mul]
   omega
theorem Cz(L:List Int):∀c,weighL (nI L c)≤17*c
 |0=>Nat.le_refl _
 |c+1=>by
  have a:=Cz L c
  have b:=lM L (3+2*c)
  rw[nI,weighL_append]
  simp only[weighL,oB]
  omega
theorem Kq(l:List Int):weighN (uA l)≤1000000:=by
 have hl:(l.take 48).length≤48:=by rw[List.length_take];omega
 have cl:=lM (l.take 48) 1
 have r4:=bJ (l.take 48) 2 4 (by decide)
 have bw:=Et (l.take 48) (l.take 48).length [] 2
 have b2:(l.take 48).length*Es 2≤48*Es 2:=Nat.mul_le_mul_right _ hl
 have b3:Es 2=8758:=rfl
 have iw:=Cz (l.take 48) (eN (l.take 48) 2 4).toNat
 unfold uA sK
 simp only[]
 simp only[weighL]at bw
 repeat(first|(simp only[weighN,weighL,List.length_nil];omega)|split)
def Td:aN:=[118,97,114,32,110,61,45,55,59]
def Sg:aN:=[112,114,111,99,32,112,123,36,97,61,40,120,46,121,43,49,41,42,50,59,105,102,32,36,97,60,51,123,103,111,32,113,59,125,101,108,115,101,123,125,125]
def Te:aN:=[116,101,115,116,32,116,32,123,32,99,104,101,99,107,32,49,32,61,61,32,107,105,110,100,59,32,125]
def Tf:aN:=[112,114,111,99,32,112,32,123,32,36,97,32,61,32,40,120,46,121,32,43,32,49,41,32,42,32,50,59,32,105,102,32,36,97,32,60,32,51,32,123,32,103,111,32,113,59,32,125,32,101,108,115,101,32,123,32,125,32,125]
def SS:Nd:=.mk 24 [] 0 [.mk 28 [] 0 [.mk 32 [] 1 [],.mk 36 [] 0 []]]
def Sh:List aN:=[[99,104,97,110,32,99,32,52,59],[116,101,115,116,32,116,32,123,32,120,32,61,32,59,32,125],[108,111,99,107,32,108],[118,97,114,32,114,101,97,100,32,61,32,49,59]]
def Si:List Int:=[7,13,6,4]
set_option maxRecDepth 10000
theorem MQ:dW Td=(.mk 0 [110] (-7) [],0,0):=by decide
theorem MR:printS (.mk 0 [110] (-7) [])=[118,97,114,32,110,32,61,32,45,55,59]:=by decide
theorem MS:(dW Sg).2=(0,0):=by decide
theorem PD:sizeN (dW Sg).1=15:=by decide
theorem MT:weighN (dW Sg).1≤1000:=by decide
theorem MU:printS (dW Sg).1=Tf:=by decide
theorem MV:dW Te=(.mk 6 [116] 0 [.mk 8 [] 0 [SS]],0,0):=by decide
theorem PE:headK (.mk 6 [116] 0 [.mk 8 [] 0 [SS]])=6∧headT (.mk 6 [116] 0 [.mk 8 [] 0 [SS]])=[116]:=by decide
theorem MW:∀i,i<4→(dW (Sh.getD i [])).2=(Si.getD i 0,if i=0 then 5 else 2):=by decide
end Go.Eng
namespace Go.Eng
open Go.Proofs
attribute[local simp] nP lH gR bA oC gK gS pE cY bD pL.plain pL.cond pL.fail dU mN tQ nO gC kQ kW lR memless nD eV jD uG EJ gQ fJ strip pD eD mC bW
 qY fZ iR gT iQ pU lk cH dX bQ cA bY oL fE pY iU jF bS eW bN dM gM fL fM eI fN gX gY gZ fO eJ fP eL fQ hU hZ iC iD fR iG oY oJ mkAgg tP BO jN bB gN aW.live TK.isNone TK.agg TK.isBool TK.isStr TK.isStruct Op.operands Call.operands
 bF cV cO dF eP oK lN cN dN iO fA kY aQ frozen lS
 jT jU lU gV jW jX jY kD lV gW kF kG kH kJ sE mM oO oP oS oT oV kK jR gU fK Nm.d Df.d Ed.d yV yW mK yX jS sL sM dK dL
 yY yZ sF zA zB sG sH sI oW zC zD sJ
 bZ aZ dP mB dQ bT cI bP eZ uJ TK.isInt jV kE oQ iB gP dO eX eY gE fD gB mO sZ nU yU sD
 nS kX mX nR cS eF dY lJ jG jH iV tF iH dJ iI iJ cH kA kC oN iW iK kL iE iF fT
 cP gO TK.isPtr eR cE kM qB qO jZ kI oU hO iA fS
attribute[local simp] eM kN iL
section
attribute[local simp] pL.cond Nd.d_eq nd_t nd_dr nd_td ndsD bG eT qZ eU eB
theorem Eu{s:aN}{R:Nd×PS}(hR:kP false ⟨(eS s).1,0⟩=R)(hl:s.length≤1024){x:Tk}{r:List Tk}(h:R.2.l=x::r):dW s=(iZ,x.at_,if R.2.e≠0 then R.2.e else 2):=by
 unfold dW;rw[if_neg (by omega)];simp only[];rw[hR,h]
theorem IH{s:aN}{R:Nd×PS}(hR:kP false ⟨(eS s).1,0⟩=R)(hl:s.length≤1024)(h:R.2.l=[])(h2:¬R.2.e=0∨(eS s).2<s.length):dW s=(iZ,(eS s).2,2):=by
 unfold dW;rw[if_neg (by omega)];simp only[];rw[hR,h];simp only[];rw[if_pos h2]
theorem FT{s:aN}{R:Nd×PS}(hR:kP false ⟨(eS s).1,0⟩=R)(hl:s.length≤1024)(h:R.2.l=[])(h2:¬(¬R.2.e=0∨(eS s).2<s.length)):dW s=if validB R.1 then(R.1,0,0)else(iZ,0,4):=by
 unfold dW;rw[if_neg (by omega)];simp only[];rw[hR,h];simp only[];rw[if_neg h2]
theorem Kr(s:aN)(R:Nd×PS)(hR:kP false ⟨(eS s).1,0⟩=R)(hD:s.length≤1024→qX Tryz.prog 58 [.bx 0 0] (eU ⟨(eS s).1,0⟩) (eU R.2) (.d R.1.d))(hw:s.length≤1024→weighN R.1≤1000000000):Ok Tryz.prog 16 [.str s] ⟨.tup [.d (dW s).1.d,.d (aD (dW s).2.1),.d (aD (dW s).2.2)],false⟩:=by
 refine Gr hT Tryz.func16 (by kernel_rfl) (c:=_) rfl Tryz.ntmps16 (by simp) Tryz.results16 (by simp) (by rfl) fun w0 X hp=>?_
 refine aA ?_
 simp
 refine pS.seq ?_
 refine aA ?_
 simp
 refine aC ?_
 simp
 refine⟨fun h1=>?_,fun h1=>?_⟩
 ·refine aA ?_
  simp
  refine pS.ret ?_
  have e:dW s=(iZ,1024,4):=by unfold dW;rw[if_pos (by omega)]
  simp[e,iZ]
 ·refine pS.skip ?_
  simp
  refine pS.seq ?_
  have hs:=QE s (by omega)
  refine pS.ro hT hW (fun|15=>some<| .plain ⟨.tup [.d (.sl ((eS s).1.map Tk.d)),.d (aD (eS s).2)],true⟩|_=>none) ?_
  simp[cX]
  refine⟨hs,?_⟩
  refine aA ?_
  simp
  refine pS.seq ?_
  have hd:=hD (by omega)
  refine pS.ro hT hW (fun|22=>some (.gen ⟨[(20,0)],[],[],eU R.2,.d R.1.d⟩)|_=>none) ?_
  simp
  refine⟨by simpa using hd,?_⟩
  refine pS.seq ?_
  refine pS.block ?_
  refine aA ?_
  simp
  refine aC ?_
  simp
  refine⟨fun g1 g2=>?_,fun g=>?_⟩
  ·refine pS.seq ?_
   obtain⟨x,r,hxr⟩:=List.exists_cons_of_length_pos g2
   have hx2:(aE x.d).length=2:=rfl
   refine aI hT hW bU (lk [[],[],[1],[1,2],[1,2,3],[1,2,3,4],[1,2,3,4,5],[1,2,3,4,5,6],[],[8],[8,9],[8,9,10],[0],[0,1,2,3,4,5,6,7,12],[0,1,2,3,4,5,6,7,8,9,10,11,12,13]]) (lk [[],[2],[2],[2],[2],[2],[2],[2],[2],[2],[2],[2],[],[],[]]) (lk [[],[],[],[],[],[],[],[],[],[],[],[],[2],[],[]]) (by kernel_rfl) (fun _=>none) (fun _=>⟨rfl,fun _ h=>h⟩) ?_
   simp[hxr,Tk.d]
   refine pS.ret ?_
   have e:=Eu hR (by omega) hxr
   simp[e,iZ,g1]
  ·refine aA ?_
   simp
   refine aC ?_
   simp
   refine⟨fun h8=>?_,fun h8=>?_⟩
   ·refine pS.seq ?_
    obtain⟨x,r,hxr⟩:=List.exists_cons_of_length_pos h8
    refine aI hT hW bU (lk [[],[],[1],[1,2],[1,2,3],[1,2,3,4],[1,2,3,4,5],[1,2,3,4,5,6],[0],[0,1,2,3,4,5,6,7,8],[0,1,2,3,4,5,6,7,8,9]]) (lk [[],[2],[2],[2],[2],[2],[2],[2],[],[],[]]) (lk [[],[],[],[],[],[],[],[],[2],[],[]]) (by kernel_rfl) (fun _=>none) (fun _=>⟨rfl,fun _ h=>h⟩) ?_
    simp[hxr,Tk.d]
    refine pS.ret ?_
    have e:=Eu hR (by omega) hxr
    have g9:R.2.e=0:=Classical.byContradiction fun q=>by have:=g q;rw[this]at hxr;cases hxr
    simp[e,iZ,g9]
   ·refine aA ?_
    simp
    refine aC ?_
    simp
    refine⟨fun h10=>?_,fun h10 h11=>?_⟩
    ·refine aA ?_
     simp
     refine pS.ret ?_
     have e:=IH hR (by omega) h8 h10
     simp[e,iZ]
    ·refine pS.seq ?_
     have hv:=DW R.1 (hw (by omega))
     refine pS.ro hT hW (fun|80=>some<| .plain ⟨.d (.bool (validB R.1)),true⟩|_=>none) ?_
     simp
     refine⟨by simpa using hv,?_⟩
     refine aC ?_
     simp
     refine⟨fun h12=>?_,fun h12=>?_⟩
     ·refine aA ?_
      simp
      refine pS.ret ?_
      have e:=FT hR (by omega) h8 (by omega)
      simp[e,h12,iZ]
     ·refine pS.skip ?_
      simp
      refine aA ?_
      simp
      refine pS.ret ?_
      have e:=FT hR (by omega) h8 (by omega)
      simp[e,h12]
end
end Go.Eng
namespace Go.Eng
open Go.Proofs
theorem rY(s:aN):Ok Tryz.prog 16 [.str s] ⟨.tup [.d (dW s).1.d,.d (aD (dW s).2.1),.d (aD (dW s).2.2)],false⟩:=
 Kr s _ rfl (fun hl=>Sb ⟨(eS s).1,0⟩ (rI _ _ _) (by have:=vG s.length s 0;show(lW s.length s 0).1.length≤1000000;omega)) fun hl=>IC hl
end Go.Eng
namespace Go.Eng
open Go.Proofs
attribute[local simp] nP lH gR bA oC gK gS pE cY bD pL.plain pL.cond pL.fail dU mN tQ nO gC kQ kW lR memless nD eV jD uG EJ gQ fJ strip pD eD mC bW
 qY fZ iR gT iQ pU lk cH dX bQ cA bY oL fE pY iU jF bS eW bN dM gM fL fM eI fN gX gY gZ fO eJ fP eL fQ hU hZ iC iD fR iG oY oJ mkAgg tP BO jN bB gN aW.live TK.isNone TK.agg TK.isBool TK.isStr TK.isStruct Op.operands Call.operands
 bF cV cO dF eP oK lN cN dN iO fA kY aQ frozen lS
 jT jU lU gV jW jX jY kD lV gW kF kG kH kJ sE mM oO oP oS oT oV kK jR gU fK Nm.d Df.d Ed.d yV yW mK yX jS sL sM dK dL
 yY yZ sF zA zB sG sH sI oW zC zD sJ
 bZ aZ dP mB dQ bT cI bP eZ uJ TK.isInt jV kE oQ iB gP dO eX eY gE fD gB mO sZ nU yU sD
 nS kX mX nR cS eF dY lJ jG jH iV tF iH dJ iI iJ cH kA kC oN iW iK kL iE iF fT
 cP gO TK.isPtr eR cE kM qB qO jZ kI oU hO iA fS
attribute[local simp] eM kN iL
section
set_option maxRecDepth 10000
set_option maxHeartbeats 4000000
attribute[local simp] pL.cond Nd.d_eq nd_t nd_dr nd_td ndsD bG qL eB Cu Cv Cw Ir
theorem Sj{i:Nat}{s:aN}(hi:i<4)(hs:Sh.getD i []=s):(Sh.map DV.str)[i]?.getD default=.str s:=by
 have hk:i<Sh.length:=hi
 subst hs
 rw[List.getElem?_map,List.getElem?_eq_getElem hk]
 simp[List.getD_eq_getElem?_getD,hk]
theorem Sk{i:Nat}{o:Int}(hi:i<4)(hs:Si.getD i 0=o):(Si.map aD)[i]?.getD default=aD o:=by
 have hk:i<Si.length:=hi
 subst hs
 rw[List.getElem?_map,List.getElem?_eq_getElem hk]
 simp[List.getD_eq_getElem?_getD,hk]
theorem Ks:Ok Tryz.prog 17 [] ⟨.d (.bool true),true⟩:=by
 refine Ok.ret Tryz.func17 (by kernel_rfl) (c:=_) rfl Tryz.ntmps17 (by simp) Tryz.results17 (by intro _ h;cases h) fun w0 X hp=>?_
 obtain⟨TL,hTL⟩:∃TL,Sh.map DV.str=TL:=⟨_,rfl⟩
 obtain⟨OL,hOL⟩:∃OL,Si.map aD=OL:=⟨_,rfl⟩
 have lT:TL.length=4:=by rw[←hTL];rfl
 have lO:OL.length=4:=by rw[←hOL];rfl
 have pA:=rY Td
 have pB:=rY Sg
 have pC:=rY Te
 rw[MQ]at pA
 rw[MS]at pB
 rw[MV]at pC
 obtain⟨B,hB⟩:∃B,(dW Sg).1=B:=⟨_,rfl⟩
 obtain⟨K,hK⟩:∃K,SS=K:=⟨_,rfl⟩
 have hK24:K.kind=24:=by rw[←hK];rfl
 have sB:=PD
 have wB:=MT
 have tB:=MU
 have hC:=PE
 have wC:weighN (.mk 6 [116] 0 [.mk 8 [] 0 [K]])≤1000000000:=by rw[←hK];decide
 rw[hB]at pB sB wB tB
 rw[hK]at pC hC
 have kB:=Qt B (by omega)
 have nB:=DX B (by omega)
 have nA:=DX (.mk 0 [110] (-7) []) (by decide)
 have dC:=QA (.mk 6 [116] 0 [.mk 8 [] 0 [K]]) wC
 rw[sB]at kB
 rw[tB]at nB
 rw[MR]at nA
 rw[hC.1,hC.2]at dC
 simp[Td]at pA
 simp[Sg]at pB
 simp[Te]at pC
 simp at kB nB nA dC
 refine aA ?_
 simp
 refine cB hT hW (fun|19=>some<| .plain ⟨.tup [.d (Nd.mk 0 [110] (-7) []).d,.d (aD 0),.d (aD 0)],false⟩|_=>none) ?_
 simp[cX]
 refine⟨pA,?_⟩
 refine cB hT hW (fun|24=>some<| .plain ⟨.tup [.d B.d,.d (aD 0),.d (aD 0)],false⟩|_=>none) ?_
 simp[cX]
 refine⟨pB,?_⟩
 refine cB hT hW (fun|29=>some<| .plain ⟨.tup [.d (Nd.mk 6 [116] 0 [.mk 8 [] 0 [K]]).d,.d (aD 0),.d (aD 0)],false⟩|_=>none) ?_
 simp[cX]
 refine⟨pC,?_⟩
 refine aA ?_
 simp
 refine⟨by decide,?_⟩
 refine wR (oM.close 10 (x:=.sl TL) (by simp[←hTL,Sh])) ?_
 simp
 refine aA ?_
 simp
 refine⟨by decide,?_⟩
 refine wR (oM.close 11 (x:=.sl OL) (by simp[←hOL,Si])) ?_
 simp
 refine pS.seq ?_
 refine aA ?_
 simp
 refine pS.block ?_
 refine bX (ι:=Nat) (fun i=>aY [(1,.bx 1 0),(3,.d (aD 0)),(4,.bx 4 0),(6,.d (aD 0)),(7,.bx 7 0),(9,.d (aD 0)),(10,.d (.sl TL)),(11,.d (.sl OL)),(12,.d (aD (i:Nat)))]) (fun i=>aK [(1,.box false [.d (aD 0),.d (.str [110]),.d (aD (-7)),.d (.sl [])]),(4,.box false [.d (aD B.kind),.d (.str B.text),.d (aD B.n),.d (ndsD B.kids)]),(7,.box false [.d (aD 6),.d (.str [116]),.d (aD 0),.d (.sl [.agg [aD 8,.str [],aD 0,.sl [.agg [aD K.kind,.str K.text,aD K.n,.sl (K.kids.map Nd.d)]]]])])]) (fun i=>i≤4) (fun i=>4-i) 0 (aB [1,3,4,6,7,9,10,11,12] [(1,1),(4,4),(7,7)] (by decide) (by decide) (by simp[hp]) (by simp) (by simp)) (Nat.zero_le _) fun i hi7=>?_
 refine pS.seq ?_
 refine aA ?_
 simp
 refine aC ?_
 simp
 refine⟨fun h7=>?_,fun h7=>?_⟩
 ·refine pS.skip ?_
  simp
  refine pS.seq ?_
  refine pS.block ?_
  refine pS.seq ?_
  have hi:i<4:=by omega
  obtain⟨s,hs⟩:∃s,Sh.getD i []=s:=⟨_,rfl⟩
  obtain⟨o,ho⟩:∃o,Si.getD i 0=o:=⟨_,rfl⟩
  have hsa:=Sj hi hs
  have hoa:=Sk hi ho
  have hps:=rY s
  have hpe:=MW i hi
  rw[hs,ho]at hpe
  rw[hTL]at hsa
  rw[hOL]at hoa
  rw[hpe]at hps
  simp at hps
  obtain⟨Y,hY⟩:∃Y,(dW s).1=Y:=⟨_,rfl⟩
  rw[hY]at hps
  refine pS.ro hT hW (fun|44=>some<| .plain ⟨.tup [.d Y.d,.d (aD o),.d (aD (if i=0 then 5 else 2))],false⟩|_=>none) ?_
  simp[cX,hsa]
  refine⟨⟨by omega,hps⟩,?_⟩
  refine aA ?_
  simp[hoa]
  refine⟨by omega,?_⟩
  refine aC ?_
  simp
  refine⟨fun a b=>absurd b (by omega),fun _=>?_⟩
  refine pS.skip ?_
  simp
  refine aL ?_
  simp
  refine⟨by omega,?_⟩
  refine KN.mk (i+1) (aB [1,3,4,6,7,9,10,11,12] [(1,1),(4,4),(7,7)] (by decide) (by decide) (by simp[hp]) (by simp) (by simp)) ?_ ?_
  ·omega
  ·omega
 ·refine pS.exit ?_
  simp
  refine pS.seq ?_
  refine cB hT hW (fun|93=>some<| .plain ⟨.d (aD 15),true⟩|_=>none) ?_
  simp
  refine⟨kB,?_⟩
  refine aC ?_
  simp
  refine pS.skip ?_
  simp
  refine cB hT hW (fun|98=>some<| .plain ⟨.tup [.d (aD 6),.d (.str [116])],true⟩|_=>none) ?_
  simp[cX]
  refine⟨dC,?_⟩
  refine cB hT hW (fun|102=>some<| .plain ⟨.d (.str [118,97,114,32,110,32,61,32,45,55,59]),true⟩|106=>some<| .plain ⟨.d (.str Tf),true⟩|_=>none) ?_
  simp
  refine⟨⟨nA,nB⟩,?_⟩
  refine pS.ret ?_
  simp[Tf,hK24]
end
open Go.Proofs
section
attribute[local simp] pL.cond Nd.d_eq nd_t nd_dr nd_td ndsD bG
def SH(w:aN):Nat→aN
 |0=>[]
 |n+1=>SH w n++w
theorem FU(x:Nd):sameN x x=true:=(sameN_iff x x).2 rfl
theorem Sl(w:aN):SH w 0=[]:=rfl
attribute[local simp] Sl
end
open Go.Proofs
section
attribute[local simp] pL.cond Nd.d_eq nd_t nd_dr nd_td ndsD bG
theorem II(T:List Tk)(l:List Int):spacedTo T l 0=[]:=rfl
attribute[local simp] II
def Rb(out w:aN)(k:Int)(i:Nat):Bool:=
 decide (k<3)||(match out.getLast? with
  |none=>false
  |some c=>(firstIs aV w||firstIs aO w)&&decide (c≠32)&&decide (c≠10)&& !signB c)||(decide (0<i)&&(decide (w=[61])||decide (w=[61,61])))
theorem uE(T:List Tk)(l:List Int)(i:Nat):spacedTo T l (i+1)=(if Rb (spacedTo T l i) (T.getD i default).text (eN l i 6) i=true then spacedTo T l i++sepsL.getD ((eN l i 6).tmod 3).toNat []else spacedTo T l i)++(T.getD i default).text:=rfl
theorem PF{m:Int}(h0:0≤m)(h1:m<3):([DV.str [32],DV.str [10],DV.str [32,32,10,32]]:List DV)[m.toNat]?.getD default=.str (sepsL.getD m.toNat []):=by
 have:m=0∨m=1∨m=2:=by omega
 rcases this with rfl|rfl|rfl<;>rfl
theorem GR{out w:aN}{k:Int}{i:Nat}{d:UInt8}(hd:out[out.length-1]?.getD 0=d):Rb out w k i=true↔((k<3∨(((0<out.length∧(firstIs aV w=true∨firstIs aO w=true))∧¬(d.toNat:Int)=32)∧¬(d.toNat:Int)=10)∧¬d∈mL)∨0<i∧(w=[61]∨w=[61,61])):=by
 unfold Rb
 rw[List.getLast?_eq_getElem?]
 cases e:out[out.length-1]? with
 |none=>
  have h0:¬0<out.length:=fun q=>by rw[List.getElem?_eq_getElem (by omega)]at e;cases e
  simp[h0]
 |some c=>
  rw[e]at hd
  have hd:c=d:=hd
  subst hd
  have h0:0<out.length:=by
   have:=(List.getElem?_eq_some_iff.1 e).1
   omega
  have e1:(c.toNat:Int)=32↔c=32:=by rw[←UInt8.toNat_inj];have:(32:UInt8).toNat=32:=rfl;omega
  have e2:(c.toNat:Int)=10↔c=10:=by rw[←UInt8.toNat_inj];have:(10:UInt8).toNat=10:=rfl;omega
  simp[h0,e1,e2,signB]
theorem AY(T:List Tk)(l:List Int)(b:Nat)(hb:∀t∈T,t.text.length≤b):∀i,(spacedTo T l i).length≤i*(b+4)
 |0=>by simp[spacedTo]
 |i+1=>by
  have ih:=AY T l b hb i
  have hs:∀k:Nat,(sepsL.getD k []).length≤4:=fun k=>by
   rw[List.getD_eq_getElem?_getD]
   cases e:sepsL[k]? with
   |none=>simp
   |some w=>exact(by decide:∀w∈sepsL,w.length≤4) w (List.mem_of_getElem? e)
  have hw:(T.getD i default).text.length≤b:=by
   rw[List.getD_eq_getElem?_getD]
   cases e:T[i]? with
   |none=>exact Nat.zero_le _
   |some w=>exact hb w (List.mem_of_getElem? e)
  have h4:=hs ((eN l i 6).tmod 3).toNat
  rw[Nat.succ_mul,uE,List.length_append]
  cases Rb (spacedTo T l i) (T.getD i default).text (eN l i 6) i
  ·simp only[Bool.false_eq_true,if_false];omega
  ·rw[if_pos rfl,List.length_append];omega
set_option maxRecDepth 10000 in
theorem Kt(s:aN)(l:List Int)(hs:s.length≤100000000)(hl:∀n∈l, -9223372036854775808≤n∧n≤9223372036854775807):Ok Tryz.prog 19 [.str s,.sl (l.map aD)] ⟨.d (.str (spacedS s l)),true⟩:=by
 refine Ok.ret Tryz.func19 (by kernel_rfl) (c:=_) rfl Tryz.ntmps19 (by simp) Tryz.results19 (by intro _ h;cases h) fun w0 X hp=>?_
 obtain⟨T,hT1⟩:∃T,(eS s).1=T:=⟨_,rfl⟩
 have hin:∀t∈T,SQ s t:=fun t ht=>OS (hT1▸ht)
 have htl:T.length≤s.length:=by rw[←hT1];exact vG _ _ _
 have hgT:bH T:=by rw[←hT1];exact rI _ _ _
 have hwl:∀t∈T,t.text.length≤17:=fun t ht=>La (hgT t ht)
 refine aA ?_
 simp
 refine pS.seq ?_
 have hsc:=OT s (by omega)
 rw[hT1]at hsc
 refine pS.ro hT hW (fun|14=>some<| .plain ⟨.tup [.d (.sl (T.map Tk.r)),.d (aD (eS s).2)],true⟩|_=>none) ?_
 simp[cX]
 refine⟨hsc,?_⟩
 refine aA ?_
 simp
 refine pS.seq ?_
 refine aA ?_
 simp
 refine pS.block ?_
 refine bX (ι:=Nat) (fun i=>aY [(0,.d (.str s)),(1,.d (.sl (l.map aD))),(5,.d (.sl (T.map Tk.r))),(7,.d (.str (spacedTo T l i))),(8,.d (aD i))]) (fun i=>aK []) (fun i=>i≤T.length) (fun i=>T.length-i) 0 (aB [0,1,5,7,8] [] (by decide) (by decide) (by simp[hp]) (by simp) (by simp)) ((Nat.zero_le _)) fun i hi4=>?_
 refine pS.seq ?_
 refine aA ?_
 simp
 refine aC ?_
 simp
 refine⟨fun h4=>?_,fun h4=>?_⟩
 ·refine pS.skip ?_
  simp
  refine pS.seq ?_
  refine pS.block ?_
  refine pS.seq ?_
  have hi:i<T.length:=by omega
  obtain⟨t,htt⟩:∃t,T[i]=t:=⟨_,rfl⟩
  have hti:T[i]? =some t:=by rw[List.getElem?_eq_getElem hi,htt]
  have htm:t∈T:=List.mem_of_getElem? hti
  obtain⟨a,ha,hal,hat⟩:=hin t htm
  refine aI hT hW bU (lk [[],[],[],[1,2],[1,2,3],[1,2,3,4],[],[],[6,7],[6,7,8],[6,7,8,9],[0,1,2,3,4,5,6,7,8,9,10],[0,1,2,3,4,5,6,7,8,9,10,11]]) (lk [[],[],[],[],[],[],[],[],[],[],[],[],[]]) (lk [[],[],[],[],[],[],[],[],[],[],[],[],[]]) (by kernel_rfl) (fun _=>none) (fun _=>⟨rfl,fun _ h=>h⟩) ?_
  simp[hti,Tk.r,ha,GF,hat]
  refine⟨⟨hi,by omega,by omega⟩,?_⟩
  refine pS.seq ?_
  have h7:=Ro l i 6 hl (by decide)
  refine pS.ro hT hW (fun|37=>some<| .plain ⟨.d (aD (eN l i 6)),true⟩|_=>none) ?_
  simp
  refine⟨h7,?_⟩
  refine pS.seq ?_
  obtain⟨out,hout⟩:∃out,spacedTo T l i=out:=⟨_,rfl⟩
  have hol:=AY T l 17 hwl i
  rw[hout]at hol
  have hol2:i*(17+4)≤100000000*(17+4):=Nat.mul_le_mul_right _ (by omega)
  obtain⟨d,hd⟩:∃d,out[out.length-1]?.getD 0=d:=⟨_,rfl⟩
  have h81:=tJ t.text 0 (by omega)
  have h82:=sW t.text 0 (by omega)
  have h83:=Ih d
  have hpos:0<out.length↔out≠[]:=List.length_pos_iff
  refine pS.ro hT hW (fun|43=>some<| .plain ⟨.d (.bool (firstIs aV t.text)),true⟩|46=>some<| .plain ⟨.d (.bool (firstIs aO t.text)),true⟩|71=>some<| .plain ⟨.d (.bool (decide (d∈mL))),true⟩|_=>none) ?_
  simp[hout,hd]
  refine⟨by(repeat' with_reducible apply And.intro)<;>intros<;>first|(with_reducible exact h83)|omega|(simpa using h81)|(simpa using h82)|(constructor<;>first|omega|assumption),?_⟩
  refine pS.seq ?_
  refine aA ?_
  simp
  refine⟨by(repeat' with_reducible apply And.intro)<;>intros<;>((repeat' with_reducible apply And.intro)<;>first|assumption|grind),?_⟩
  refine aC ?_
  simp
  refine⟨fun g=>?_,fun g1 g2 g3=>?_⟩
  ·have hB:=(GR hd).2 g
   have htg:T.getD i default=t:=by rw[List.getD_eq_getElem?_getD,hti];rfl
   have hstep:=uE T l i
   rw[hout,htg,if_pos hB]at hstep
   have hk:=bJ l i 6 (by decide)
   have hm3:0≤(eN l i 6).tmod 3∧(eN l i 6).tmod 3<3:=by rw[Int.tmod_eq_emod_of_nonneg hk.1];omega
   have hsp:=PF hm3.1 hm3.2
   have hs4:(sepsL.getD ((eN l i 6).tmod 3).toNat []).length≤4:=by
    rw[List.getD_eq_getElem?_getD]
    cases e:sepsL[((eN l i 6).tmod 3).toNat]? with
    |none=>simp
    |some w=>exact(by decide:∀w∈sepsL,w.length≤4) w (List.mem_of_getElem? e)
   obtain⟨sep,hse⟩:∃sep,sepsL.getD ((eN l i 6).tmod 3).toNat []=sep:=⟨_,rfl⟩
   rw[hse]at hsp hs4 hstep
   refine aL ?_
   simp[hsp]
   refine⟨⟨⟨⟨by decide,hm3⟩,hm3.2⟩,by omega⟩,?_⟩
   have hwt:=hwl t htm
   refine aL ?_
   simp[List.length_append]
   refine⟨by omega,?_⟩
   refine aL ?_
   simp
   refine⟨by omega,?_⟩
   refine KN.mk (i+1) (aB [0,1,5,7,8] [] (by decide) (by decide) (by simp[hp]) (by simp[hstep]) (by simp)) ?_ ?_
   ·omega
   ·omega
  ·have hB:Rb out t.text (eN l i 6) i=false:=by
    cases e:Rb out t.text (eN l i 6) i with
    |false=>rfl
    |true=>
     rcases(GR hd).1 e with(h|h)|h
     ·omega
     ·exact absurd (g2 h.1.1.1.1 h.1.1.1.2 h.1.1.2 h.1.2) h.2
     ·exact absurd h.2 (not_or.2 (g3 h.1))
   have htg:T.getD i default=t:=by rw[List.getD_eq_getElem?_getD,hti];rfl
   have hstep:=uE T l i
   rw[hout,htg,if_neg (by simp[hB])]at hstep
   refine pS.skip ?_
   simp
   have hwt:=hwl t htm
   refine aL ?_
   simp[List.length_append]
   refine⟨by omega,?_⟩
   refine aL ?_
   simp
   refine⟨by omega,?_⟩
   refine KN.mk (i+1) (aB [0,1,5,7,8] [] (by decide) (by decide) (by simp[hp]) (by simp[hstep]) (by simp)) ?_ ?_
   ·omega
   ·omega
 ·refine pS.exit ?_
  simp
  refine aA ?_
  simp
  refine pS.ret ?_
  simp
  rw[show i=T.length by omega]
  unfold spacedS
  rw[hT1]
end
open Go.Proofs
section
attribute[local simp] pL.cond Nd.d_eq nd_t nd_dr nd_td ndsD bG
end
end Go.Eng
namespace Go.Eng
open Go.Proofs
theorem vH{α:Type}{p:α→Prop}{l:List α}{d:α}(h:∀x∈l,p x){k:Nat}(hk:k<l.length):p (l.getD k d):=by
 rw[List.getD_eq_getElem?_getD,List.getElem?_eq_getElem hk]
 exact h _ (List.getElem_mem hk)
theorem rQ(L:List Int)(i:Nat):cC (dA L i) true=true:=by
 have h:=bJ L i 8 (by decide)
 exact vH (p:=fun w=>cC w true=true) (by decide:∀w∈Ch,cC w true=true) (show(eN L i 8).toNat<8 by omega)
theorem FV(L:List Int)(i:Nat):cC (mW L i) false=true:=by
 have h:=bJ L i 4 (by decide)
 exact vH (p:=fun w=>cC w false=true) (by decide:∀w∈HJ,cC w false=true) (show(eN L i 4).toNat<4 by omega)
theorem xP{k:Int}{t:aN}{n:Int}{ks:List Nd}(h:0≤k∧k≤6):0≤(Nd.mk k t n ks).kind∧(Nd.mk k t n ks).kind≤6:=h
theorem lC{k:Int}{t:aN}{n:Int}(h0:0≤k∧k<37)(h1:cU k []=true)(h2:dZ k≤n∧n≤eC k)(h3:jK k t=true):aG (.mk k t n [])=true:=
 right_mk.2 ⟨h0.1,h0.2,h1,h2.1,h2.2,h3,fun x hx=>by cases hx⟩
theorem xQ(L:List Int)(i:Nat):aG (.mk 33 (mW L i) 0 [])=true:=lC (by decide) rfl (by decide) (FV L i)
theorem rZ(L:List Int)(i:Nat):aG (cJ L i).1=true∧gG (cJ L i).1.kind=true:=by
 unfold cJ
 split
 ·exact⟨lC (by decide) rfl (by decide) (rQ L (i+1)),rfl⟩
 ·exact⟨lC (by decide) rfl (by decide) (HO (rQ L (i+1)) (rQ L (i+2))),rfl⟩
theorem qI(L:List Int):∀(d i:Nat),aG (aF L d i).1=true∧aH (aF L d i).1.kind=true:=fun d=>by
 induction d with
 |zero=>
  intro i
  obtain⟨r0,_,r2⟩:=jC L 0 i
  have r2:=r2 rfl
  by_cases h0:dB L 0 i=0∨dB L 0 i=1
  ·rw[nM h0]
   have hr:=bJ L (i+1) 6 (by decide)
   exact⟨lC (by decide) rfl (vH (p:=fun n:Int=>dZ 32≤n∧n≤eC 32) (by decide:∀n∈Av,dZ 32≤n∧n≤eC 32) (show(eN L (i+1) 6).toNat<6 by omega)) rfl,rfl⟩
  ·by_cases h1:dB L 0 i=2
   ·rw[nN h1];exact⟨xQ L (i+1),rfl⟩
   ·by_cases h2:dB L 0 i=3∨dB L 0 i=4
    ·rw[kU h2];exact⟨(rZ L (i+1)).1,mH (rZ L (i+1)).2⟩
    ·rw[mJ (by omega)];exact⟨lC (by decide) rfl (by decide) rfl,rfl⟩
 |succ e ih=>
  intro i
  obtain⟨r0,r1,_⟩:=jC L (e+1) i
  by_cases h0:dB L (e+1) i=0∨dB L (e+1) i=1
  ·rw[nM h0]
   have hr:=bJ L (i+1) 6 (by decide)
   exact⟨lC (by decide) rfl (vH (p:=fun n:Int=>dZ 32≤n∧n≤eC 32) (by decide:∀n∈Av,dZ 32≤n∧n≤eC 32) (show(eN L (i+1) 6).toNat<6 by omega)) rfl,rfl⟩
  ·by_cases h1:dB L (e+1) i=2
   ·rw[nN h1];exact⟨xQ L (i+1),rfl⟩
   ·by_cases h3:dB L (e+1) i=3∨dB L (e+1) i=4
    ·rw[kU h3];exact⟨(rZ L (i+1)).1,mH (rZ L (i+1)).2⟩
    ·by_cases h4:dB L (e+1) i=5
     ·rw[mJ h4];exact⟨lC (by decide) rfl (by decide) rfl,rfl⟩
     ·rw[sX (by omega)]
      exact Bn (by omega) (by omega) (ih (i+1)) (ih (aF L e (i+1)).2)
theorem oH{k:Int}{t:aN}{n:Int}{ks:List Nd}(hk:9≤k∧k≤25)(h1:jK k t=true)(h2:dZ k≤n∧n≤eC k)(h3:cU k ks=true)(h4:∀x∈ks,aG x=true):
 aG (.mk k t n ks)=true∧cG (Nd.mk k t n ks).kind=true:=⟨right_mk.2 ⟨by omega,by omega,h3,h2.1,h2.2,h1,h4⟩,tZ.2 hk⟩
theorem PG{x:Nd}(h:aG x=true):∀y∈[x],aG y=true:=fun y hy=>by rw[List.mem_singleton.1 hy];exact h
theorem Ev{L:List Int}{d i:Nat}{bl:Nat→Nd×Nat}(hb:0<d→∀j,aG (bl j).1=true∧cL (bl j).1.kind=true):aG (Bl L d bl i).1=true∧cG (Bl L d bl i).1.kind=true:=by
 obtain⟨k,hk⟩:∃k,ID L d i=k:=⟨_,rfl⟩
 obtain⟨r0,r1,r2⟩:=tN hk
 rw[lZ hk]
 have v1:=fun j=>qI L 1 j
 have v2:=fun j=>qI L 2 j
 have pl:=rZ L (i+1)
 have cl:=rQ L (i+1)
 have ol:=FV L (i+1)
 unfold wK
 split
 ·rename_i q;subst q
  exact oH (by decide) ol (by decide) (by simp[cU,cT,(v2 (i+1+1)).2]) (PG (v2 (i+1+1)).1)
 split
 ·rename_i q;subst q
  refine oH (by decide) rfl (by decide) (by simp[cU,cT,pl.2,(v2 (cJ L (i+1)).2).2]) fun y hy=>?_
  simp only[List.mem_cons,List.not_mem_nil,or_false]at hy
  rcases hy with rfl|rfl
  ·exact pl.1
  ·exact(v2 _).1
 split
 ·rename_i q
  have hb:=hb (r2 q)
  have a1:=v1 (i+1)
  have a2:=hb (aF L 1 (i+1)).2
  have a3:=hb ((bl (aF L 1 (i+1)).2).2+1)
  have m2:∀y∈[(aF L 1 (i+1)).1,(bl (aF L 1 (i+1)).2).1],aG y=true:=fun y hy=>by
   simp only[List.mem_cons,List.not_mem_nil,or_false]at hy
   rcases hy with rfl|rfl
   ·exact a1.1
   ·exact a2.1
  have m3:∀y∈[(aF L 1 (i+1)).1,(bl (aF L 1 (i+1)).2).1,(bl ((bl (aF L 1 (i+1)).2).2+1)).1],aG y=true:=fun y hy=>by
   simp only[List.mem_cons,List.not_mem_nil,or_false]at hy
   rcases hy with rfl|rfl|rfl
   ·exact a1.1
   ·exact a2.1
   ·exact a3.1
  split
  ·rename_i q2;subst q2
   split
   ·exact oH (by decide) rfl (by decide) (by simp[cU,cT,a1.2,a2.2,a3.2]) m3
   ·exact oH (by decide) rfl (by decide) (by simp[cU,cT,a1.2,a2.2]) m2
  ·rename_i q2
   have q3:k=12:=by omega
   subst q3
   exact oH (by decide) rfl (by decide) (by simp[cU,cT,a1.2,a2.2]) m2
 split
 ·rename_i q
  rcases q with rfl|rfl|rfl|rfl<;>exact oH (by decide) cl (by decide) rfl fun x hx=>by cases hx
 split
 ·rename_i q
  rcases q with rfl|rfl<;>exact oH (by decide) cl (by decide) (by simp[cU,cT,(v1 (i+1+1)).2]) (PG (v1 (i+1+1)).1)
 split
 ·rename_i q
  rcases q with rfl|rfl<;>exact oH (by decide) cl (by decide) rfl (PG (xQ L (i+1+1)))
 split
 ·rename_i q;subst q
  have hr:=bJ L (((i+1:Nat):Int)+1) 5 (by decide)
  have e1:dZ 19=2:=rfl
  have e2:eC 19=6:=rfl
  exact oH (by decide) ol (by omega) rfl fun x hx=>by cases hx
 split
 ·rename_i q;subst q
  exact oH (by decide) ol (by decide) rfl fun x hx=>by cases hx
 split
 ·rename_i q;subst q
  have hr:=bJ L ((i+1:Nat):Int) 9 (by decide)
  have e1:dZ 21=1:=rfl
  have e2:eC 21=9:=rfl
  exact oH (by decide) rfl (by omega) rfl fun x hx=>by cases hx
 split
 ·rename_i q;subst q
  have hr:=bJ L ((i+1:Nat):Int) 99 (by decide)
  have e1:dZ 25=1:=rfl
  have e2:eC 25=99:=rfl
  exact oH (by decide) rfl (by omega) rfl fun x hx=>by cases hx
 ·have q:k=24:=by omega
  subst q
  exact oH (by decide) rfl (by decide) (by simp[cU,cT,(v2 (i+1)).2]) (PG (v2 (i+1)).1)
theorem CA{L:List Int}{st:Nat→Nd×Nat}(h:∀j,aG (st j).1=true∧cG (st j).1.kind=true):∀(m:Nat) (ks:List Nd) (j:Nat),(∀x∈ks,aG x=true∧cG x.kind=true)→∀x∈(fG L st m ks j).1,aG x=true∧cG x.kind=true
 |0,ks,j,hk=>by simpa [fG]using hk
 |m+1,ks,j,hk=>by
  unfold fG
  split
  ·exact hk
  ·refine CA h m _ _ fun x hx=>?_
   rcases List.mem_append.1 hx with hx|hx
   ·exact hk x hx
   ·rw[List.mem_singleton.1 hx];exact h j
theorem Ku{L:List Int}{st:Nat→Nd×Nat}(h:∀j,aG (st j).1=true∧cG (st j).1.kind=true)(i:Nat):aG (rA L st i).1=true∧cL (rA L st i).1.kind=true:=
 ⟨xD (CA h _ [] _ fun x hx=>by cases hx),rfl⟩
theorem FW(L:List Int):∀d i,aG (mF L d i).1=true∧cG (mF L d i).1.kind=true
 |0,i=>by rw[mF];exact Ev fun h=>absurd h (Nat.lt_irrefl 0)
 |d+1,i=>by rw[mF];exact Ev fun _ j=>Ku (FW L d) j
theorem Ew(L:List Int):∀(m:Nat) (ks:List Nd) (j:Nat),(∀x∈ks,aG x=true∧cG x.kind=true)→∀x∈nY L m ks j,aG x=true∧cG x.kind=true
 |0,ks,j,hk=>by simpa [nY]using hk
 |m+1,ks,j,hk=>by
  unfold nY
  split
  ·exact hk
  ·refine Ew L m _ _ fun x hx=>?_
   rcases List.mem_append.1 hx with hx|hx
   ·exact hk x hx
   ·rw[List.mem_singleton.1 hx];exact FW L 2 j
theorem xR(L:List Int):∀c,∀x∈nI L c,aG x=true∧tY x.kind=true
 |0,x,hx=>by cases hx
 |c+1,x,hx=>by
  rw[nI]at hx
  rcases List.mem_append.1 hx with hx|hx
  ·exact xR L c x hx
  ·rw[List.mem_singleton.1 hx]
   have hr:=bJ L (4+2*c) 1999 (by decide)
   have e1:dZ 7= -999:=rfl
   have e2:eC 7=999:=rfl
   exact⟨lC (by decide) rfl (by omega) (rQ L (3+2*c)),rfl⟩
theorem Kv(l:List Int):aG (uA l)=true∧0≤(uA l).kind∧(uA l).kind≤6:=by
 unfold uA
 generalize l.take 48=L
 have cl:=rQ L 1
 have hk:=bJ L 0 10 (by decide)
 have hx:=vH (p:=fun n:Int=>0≤n∧n≤6) (d:=0) (by decide:∀n∈iM,0≤n∧n≤6) (show(eN L 0 10).toNat<10 by omega)
 unfold sK
 simp only[]
 generalize iM.getD (eN L 0 10).toNat 0=k at hx
 split
 ·rename_i q;subst q
  have hr:=bJ L 2 1999 (by decide)
  have e1:dZ 0= -999:=rfl
  have e2:eC 0=999:=rfl
  exact⟨lC (by decide) rfl (by omega) cl,xP (by decide)⟩
 split
 ·rename_i q;subst q
  have hr:=bJ L 2 4 (by decide)
  have e1:dZ 2=0:=rfl
  have e2:eC 2=3:=rfl
  exact⟨lC (by decide) rfl (by omega) cl,xP (by decide)⟩
 split
 ·rename_i q;subst q
  exact⟨right_mk.2 ⟨by decide,by decide,List.all_eq_true.2 fun x hx=>(xR L _ x hx).2,by decide,by decide,cl,fun x hx=>(xR L _ x hx).1⟩,xP (by decide)⟩
 split
 ·rename_i q
  have hb:aG (.mk 8 [] 0 (nY L L.length [] 2))=true:=xD (Ew L _ [] 2 fun x hx=>by cases hx)
  rcases q with rfl|rfl<;>exact⟨right_mk.2 ⟨by decide,by decide,rfl,by decide,by decide,cl,PG hb⟩,xP (by decide)⟩
 ·have q:k=3∨k=4:=by omega
  rcases q with rfl|rfl<;>exact⟨lC (by decide) rfl (by decide) cl,xP (by decide)⟩
end Go.Eng
namespace Go.Eng
open Go.Proofs
attribute[local simp] nP lH gR bA oC gK gS pE cY bD pL.plain pL.cond pL.fail dU mN tQ nO gC kQ kW lR memless nD eV jD uG EJ gQ fJ strip pD eD mC bW
 qY fZ iR gT iQ pU lk cH dX bQ cA bY oL fE pY iU jF bS eW bN dM gM fL fM eI fN gX gY gZ fO eJ fP eL fQ hU hZ iC iD fR iG oY oJ mkAgg tP BO jN bB gN aW.live TK.isNone TK.agg TK.isBool TK.isStr TK.isStruct Op.operands Call.operands
 bF cV cO dF eP oK lN cN dN iO fA kY aQ frozen lS
 jT jU lU gV jW jX jY kD lV gW kF kG kH kJ sE mM oO oP oS oT oV kK jR gU fK Nm.d Df.d Ed.d yV yW mK yX jS sL sM dK dL
 yY yZ sF zA zB sG sH sI oW zC zD sJ
 bZ aZ dP mB dQ bT cI bP eZ uJ TK.isInt jV kE oQ iB gP dO eX eY gE fD gB mO sZ nU yU sD
 nS kX mX nR cS eF dY lJ jG jH iV tF iH dJ iI iJ cH kA kC oN iW iK kL iE iF fT
 cP gO TK.isPtr eR cE kM qB qO jZ kI oU hO iA fS
attribute[local simp] eM kN iL
section
attribute[local simp] pL.cond Nd.d_eq nd_t nd_dr nd_td ndsD bG
end
end Go.Eng
namespace Go.Eng
open Go.Proofs
theorem Kw{t s:aN}(ht:vV t){d:UInt8}(hd:t[t.length-1]?.getD 0=d)(hg:d∈mL)(hs:∀c r,s=c::r→c≠61):bV (t++s)=t.length:=by
 obtain⟨h0,h1⟩:=ht
 have nl:∀c∈mL,aV c=false∧aO c=false∧c≠36:=by decide
 obtain⟨dl,dd,d36⟩:=nl d hg
 cases t with
 |nil=>exact absurd rfl h0
 |cons c r=>
  have hlast:d∈c::r:=by
   have hlt:(c::r).length-1<(c::r).length:=by rw[List.length_cons];omega
   rw[List.getElem?_eq_getElem hlt,Option.getD_some]at hd
   rw[←hd];exact List.getElem_mem hlt
  rw[lY]at h1
  rw[List.cons_append,lY]
  by_cases q1:aV c=true
  ·rw[if_pos q1]at h1
   obtain⟨c',r',e,_,hr,_⟩:=oF (s:=c::r) (by rw[h1];simp)
   have:=qG (p:=fun c=>aV c||aO c) (t:=c::r) (by rw[←hr];exact h1) d hlast
   rw[dl,dd]at this;cases this
  ·rw[if_neg q1]at h1⊢
   by_cases q2:c=36
   ·rw[if_pos q2]at h1
    by_cases q3:0<dR r
    ·rw[if_pos q3]at h1
     obtain⟨c',r',e,_,hr,_⟩:=oF q3
     have hm:=qG (p:=fun c=>aV c||aO c) (t:=r) (by rw[←hr];simpa using h1)
     rcases List.mem_cons.1 hlast with e2|e2
     ·exact absurd (e2.trans q2) d36
     ·have:=hm d e2
      rw[dl,dd]at this;cases this
    ·rw[if_neg q3]at h1;simp at h1
   ·rw[if_neg q2]at h1⊢
    by_cases q3:aO c=true
    ·rw[if_pos q3]at h1
     by_cases q4:iX aO (c::r)≤3
     ·rw[if_pos q4]at h1
      have:=qG h1 d hlast
      rw[dd]at this;cases this
     ·rw[if_neg q4]at h1;simp at h1
    ·rw[if_neg q3]at h1⊢
     by_cases q4:(c::r).take 2=[60,61]∨(c::r).take 2=[61,61]
     ·rw[if_pos q4]at h1
      have hl:r.length=1:=by simpa using h1.symm
      have e:(c::(r++s)).take 2=(c::r).take 2:=by
       cases r with
       |nil=>simp at hl
       |cons d u=>simp
      rw[e,if_pos q4];exact h1
     ·rw[if_neg q4]at h1
      by_cases q5:c∈mL
      ·rw[if_pos q5]at h1
       have hr:r=[]:=by simpa using h1.symm
       subst hr
       have hno:¬((c::([]++s)).take 2=[60,61]∨(c::([]++s)).take 2=[61,61]):=by
        cases s with
        |nil=>simp
        |cons e u=>
         have:=hs e u rfl
         simp[this]
       rw[if_neg hno,if_pos q5];rfl
      ·rw[if_neg q5]at h1;simp at h1
def FX(T:List Tk)(l:List Int)(j:Nat):aN:=if Rb (spacedTo T l j) (T.getD j default).text (eN l j 6) j=true then sepsL.getD ((eN l j 6).tmod 3).toNat []else []
def AZ(T:List Tk)(l:List Int):Nat→Nat→aN
 |_,0=>[]
 |j,m+1=>FX T l j++((T.getD j default).text++AZ T l (j+1) m)
theorem zZ(T:List Tk)(l:List Int)(j:Nat):spacedTo T l (j+1)=spacedTo T l j++(FX T l j++(T.getD j default).text):=by
 rw[uE]
 unfold FX
 split
 ·rw[List.append_assoc]
 ·rfl
theorem CB(T:List Tk)(l:List Int):∀(m j:Nat),spacedTo T l (j+m)=spacedTo T l j++AZ T l j m
 |0,j=>by simp[AZ]
 |m+1,j=>by
  have:=CB T l m (j+1)
  rw[show j+(m+1)=j+1+m by omega,this,zZ,AZ]
  simp
theorem Rc{T:List Tk}{l:List Int}{j:Nat}{s:aN}{ts:List aN}(h:rB s ts):rB (FX T l j++s) ts:=by
 unfold FX
 split
 ·have hk:=bJ l j 6 (by decide)
  have hm3:0≤(eN l j 6).tmod 3∧(eN l j 6).tmod 3<3:=by rw[Int.tmod_eq_emod_of_nonneg hk.1];omega
  have:(eN l j 6).tmod 3=0∨(eN l j 6).tmod 3=1∨(eN l j 6).tmod 3=2:=by omega
  rcases this with e|e|e<;>rw[e]
  ·exact .blank (.inl rfl) h
  ·exact .blank (.inr rfl) h
  ·exact .blank (.inl rfl) (.blank (.inl rfl) (.blank (.inr rfl) (.blank (.inl rfl) h)))
 ·exact h
end Go.Eng
namespace Go.Eng
open Go.Proofs
theorem PH{t:aN}(ht:vV t){d:UInt8}(hd:t[t.length-1]?.getD 0=d):aV d=true∨aO d=true∨d∈mL:=by
 obtain⟨h0,h1⟩:=ht
 cases t with
 |nil=>exact absurd rfl h0
 |cons c r=>
  have hlast:d∈c::r:=by
   have hlt:(c::r).length-1<(c::r).length:=by rw[List.length_cons];omega
   rw[List.getElem?_eq_getElem hlt,Option.getD_some]at hd
   rw[←hd];exact List.getElem_mem hlt
  rw[lY]at h1
  by_cases q1:aV c=true
  ·rw[if_pos q1]at h1
   obtain⟨c',r',e,_,hr,_⟩:=oF (s:=c::r) (by rw[h1];simp)
   have:=qG (p:=fun c=>aV c||aO c) (t:=c::r) (by rw[←hr];exact h1) d hlast
   rcases Bool.or_eq_true _ _▸this with e|e
   ·exact .inl e
   ·exact .inr (.inl e)
  ·rw[if_neg q1]at h1
   by_cases q2:c=36
   ·rw[if_pos q2]at h1
    by_cases q3:0<dR r
    ·rw[if_pos q3]at h1
     obtain⟨c',r',e,_,hr,_⟩:=oF q3
     have hm:=qG (p:=fun c=>aV c||aO c) (t:=r) (by rw[←hr];simpa using h1)
     have hdr:d∈r:=by
      subst e
      rw[show(c::c'::r').length-1=(c'::r').length-1+1 by simp,List.getElem?_cons_succ]at hd
      have hlt:(c'::r').length-1<(c'::r').length:=by rw[List.length_cons];omega
      rw[List.getElem?_eq_getElem hlt,Option.getD_some]at hd
      rw[←hd];exact List.getElem_mem hlt
     rcases Bool.or_eq_true _ _▸hm d hdr with e|e
     ·exact .inl e
     ·exact .inr (.inl e)
    ·rw[if_neg q3]at h1;simp at h1
   ·rw[if_neg q2]at h1
    by_cases q3:aO c=true
    ·rw[if_pos q3]at h1
     by_cases q4:iX aO (c::r)≤3
     ·rw[if_pos q4]at h1
      exact .inr (.inl (qG h1 d hlast))
     ·rw[if_neg q4]at h1;simp at h1
    ·rw[if_neg q3]at h1
     by_cases q4:(c::r).take 2=[60,61]∨(c::r).take 2=[61,61]
     ·rw[if_pos q4]at h1
      have hl:r.length=1:=by simpa using h1.symm
      obtain⟨e,rfl⟩:=List.length_eq_one_iff.1 hl
      have he:d=e:=by rw[←hd];rfl
      have:e=61:=by rcases q4 with q|q<;>simp at q<;>exact q.2
      rw[he,this];exact .inr (.inr (by decide))
     ·rw[if_neg q4]at h1
      by_cases q5:c∈mL
      ·rw[if_pos q5]at h1
       have hr:r=[]:=by simpa using h1.symm
       subst hr
       have he:d=c:=by rw[←hd];rfl
       rw[he];exact .inr (.inr q5)
      ·rw[if_neg q5]at h1;simp at h1
theorem Rd{r:aN}(ht:vV (61::r)):(61::r:aN)=[61]∨(61::r:aN)=[61,61]:=by
 obtain⟨_,h1⟩:=ht
 rw[lY,if_neg (by decide),if_neg (by decide),if_neg (by decide)]at h1
 by_cases q4:(61::r).take 2=[60,61]∨(61::r).take 2=[61,61]
 ·rw[if_pos q4]at h1
  have hl:r.length=1:=by simpa using h1.symm
  obtain⟨e,rfl⟩:=List.length_eq_one_iff.1 hl
  rcases q4 with q|q<;>simp at q
  subst q;exact .inr rfl
 ·rw[if_neg q4,if_pos (by decide)]at h1
  have hr:r=[]:=by simpa using h1.symm
  subst hr;exact .inl rfl
theorem Kx{T:List Tk}(hT:bH T)(l:List Int){j m:Nat}(hj:j+1+m≤T.length):bV ((T.getD j default).text++AZ T l (j+1) m)=(T.getD j default).text.length:=by
 have hg:∀i,i<T.length→vV (T.getD i default).text:=fun i hi=>by
  rw[List.getD_eq_getElem?_getD,List.getElem?_eq_getElem hi,Option.getD_some]
  exact hT _ (List.getElem_mem hi)
 have ht:=hg j (by omega)
 cases m with
 |zero=>exact yF ht rfl
 |succ m=>
  have hu:=hg (j+1) (by omega)
  have hd0:(spacedTo T l (j+1))[(spacedTo T l (j+1)).length-1]?.getD 0=(T.getD j default).text[(T.getD j default).text.length-1]?.getD 0:=by
   have hp:0<(T.getD j default).text.length:=List.length_pos_iff.2 ht.1
   rw[zZ,←List.append_assoc,List.getElem?_append_right (by rw[List.length_append (bs:=(T.getD j default).text)];omega)]
   congr 2
   rw[List.length_append (bs:=(T.getD j default).text)];omega
  have hlen:0<(spacedTo T l (j+1)).length:=by
   have hp:0<(T.getD j default).text.length:=List.length_pos_iff.2 ht.1
   rw[zZ];simp only[List.length_append];omega
  rw[AZ]
  unfold FX
  cases hB:Rb (spacedTo T l (j+1)) (T.getD (j+1) default).text (eN l ((j+1:Nat):Int) 6) (j+1)with
  |true=>
   rw[if_pos rfl]
   refine yF ht ?_
   have hk:=bJ l ((j+1:Nat):Int) 6 (by decide)
   have:(eN l ((j+1:Nat):Int) 6).tmod 3=0∨(eN l ((j+1:Nat):Int) 6).tmod 3=1∨(eN l ((j+1:Nat):Int) 6).tmod 3=2:=by rw[Int.tmod_eq_emod_of_nonneg hk.1];omega
   rcases this with e|e|e<;>rw[e]<;>rfl
  |false=>
   rw[if_neg (by decide),List.nil_append]
   have hn:¬Rb (spacedTo T l (j+1)) (T.getD (j+1) default).text (eN l ((j+1:Nat):Int) 6) (j+1)=true:=by rw[hB];decide
   rw[GR hd0]at hn
   obtain⟨c,u,e⟩:∃c u,(T.getD (j+1) default).text=c::u:=by
    cases h:(T.getD (j+1) default).text with
    |nil=>exact absurd h hu.1
    |cons c u=>exact⟨c,u,rfl⟩
   rw[e]at hu hn⊢
   have hc:c≠61:=fun h=>by
    subst h
    exact hn (.inr ⟨by omega,Rd hu⟩)
   by_cases hf:aV c=true∨aO c=true
   ·refine Kw ht rfl ?_ fun c' r' e'=>?_
    ·rcases Classical.em ((T.getD j default).text[(T.getD j default).text.length-1]?.getD 0∈mL)with hs|hs
     ·exact hs
     ·have hnb:∀d:UInt8,(aV d=true∨aO d=true∨d∈mL)→¬(d.toNat:Int)=32∧¬(d.toNat:Int)=10:=fun d h=>by
       refine⟨fun q=>?_,fun q=>?_⟩
       ·have:d=32:=UInt8.toNat_inj.1 (by simpa using Int.ofNat_inj.1 q)
        subst this;revert h;decide
       ·have:d=10:=UInt8.toNat_inj.1 (by simpa using Int.ofNat_inj.1 q)
        subst this;revert h;decide
      have:=hnb _ (PH ht rfl)
      exact absurd (.inl (.inr ⟨⟨⟨⟨hlen,hf⟩,this.1⟩,this.2⟩,hs⟩)) hn
    ·rw[List.cons_append]at e'
     injection e' with e1 e2
     rw[←e1];exact hc
   ·refine yF ht ?_
    rw[List.cons_append]
    have h1:aV c=false:=by cases h:aV c with|true=>exact absurd (.inl h) hf|false=>rfl
    have h2:aO c=false:=by cases h:aO c with|true=>exact absurd (.inr h) hf|false=>rfl
    simp[AA,h1,h2,hc]
theorem IJ{T:List Tk}(hT:bH T)(l:List Int):∀(m j:Nat),j+m≤T.length→rB (AZ T l j m) (((T.drop j).take m).map Tk.text)
 |0,j,_=>by simpa [AZ]using rB.nil
 |m+1,j,h=>by
  rw[AZ]
  refine Rc ?_
  have hj:j<T.length:=by omega
  have e:T.drop j=T.getD j default::T.drop (j+1):=by
   rw[List.drop_eq_getElem_cons hj,List.getD_eq_getElem?_getD,List.getElem?_eq_getElem hj,Option.getD_some]
  rw[e,List.take_succ_cons,List.map_cons]
  have ht:vV (T.getD j default).text:=by
   rw[List.getD_eq_getElem?_getD,List.getElem?_eq_getElem hj,Option.getD_some]
   exact hT _ (List.getElem_mem hj)
  exact .tok ht.1 (Kx hT l (by omega)) (IJ hT l m (j+1) (by omega))
theorem Ky(s:aN)(l:List Int)(h:bH (eS s).1):rB (spacedS s l) ((eS s).1.map Tk.text):=by
 have:=IJ h l (eS s).1.length 0 (by omega)
 rw[List.drop_zero,List.take_length]at this
 unfold spacedS
 have e:=CB (eS s).1 l (eS s).1.length 0
 rw[Nat.zero_add,II,List.nil_append]at e
 rw[e];exact this
end Go.Eng
namespace Go.Eng
open Go.Proofs
theorem MX{x:Nd}(hv:validB x=true){s:aN}(hs:rB s (AE x))(hl:s.length≤1024):dW s=(x,0,0):=by
 have hv':=hv
 unfold validB at hv'
 simp only[Bool.and_eq_true,decide_eq_true_eq]at hv'
 obtain⟨⟨⟨⟨h0,h1⟩,_⟩,hr⟩,_⟩:=hv'
 have hd:=uZ hr h0 h1
 obtain⟨s1,s2⟩:=AB hs s.length 0 (Nat.le_refl _)
 obtain⟨q,g1,g2,g3⟩:=Fo hd (p:=⟨(eS s).1,0⟩) ⟨rfl,s1⟩
 have hq:q.l=[]:=by simpa using g3
 unfold dW
 rw[if_neg (by omega)]
 simp only
 rw[g1]
 simp only[hq]
 rw[if_neg,if_pos hv]
 rintro(h|h)
 ·exact h g2
 ·unfold eS at h
  rw[s2]at h;omega
theorem GS{x:Nd}(hv:validB x=true)(l:List Int)(hl:(spacedS (textT x) l).length≤1024):dW (spacedS (textT x) l)=(x,0,0):=by
 have hv':=hv
 unfold validB at hv'
 simp only[Bool.and_eq_true,decide_eq_true_eq]at hv'
 obtain⟨⟨⟨⟨h0,h1⟩,_⟩,hr⟩,_⟩:=hv'
 have hd:=uZ hr h0 h1
 have hg:bH (eS (textT x)).1:=rI _ _ _
 have:=Ky (textT x) l hg
 rw[show(eS (textT x)).1.map Tk.text=AE x from(AB (KR hd) (textT x).length 0 (Nat.le_refl _)).1]at this
 exact MX hv this hl
end Go.Eng
namespace Go.Eng
open Go.Proofs
structure VB(L:List Int)(d i:Nat)(x:Nd×Nat):Prop where
 bytes:(exprT x.1).length+2+10*i≤10*x.2
 lt:i<x.2
 ends:x.2≤max (i+2) (L.length+3+2*d)
 depth:depthN x.1≤d+1
theorem Lo(L:List Int)(i:Nat):(exprT (cJ L i).1).length+11*i≤11*(cJ L i).2∧i+2≤(cJ L i).2∧(cJ L i).2≤i+3∧depthN (cJ L i).1=1:=by
 have c1:=lM L (i+1)
 have c2:=lM L (i+2)
 unfold cJ
 split
 ·have e:exprT (.mk 34 (dA L (i+1)) 0 [])=dA L (i+1):=by simp[exprT]
  refine⟨?_,?_,?_,rfl⟩<;>simp only[e]<;>omega
 ·have e:exprT (.mk 35 (dA L (i+1)++46::dA L (i+2)) 0 [])=dA L (i+1)++46::dA L (i+2):=by simp[exprT]
  refine⟨?_,?_,?_,rfl⟩<;>simp only[e,List.length_append,List.length_cons]<;>omega
theorem FY{L:List Int}{d i:Nat}(h:L.length≤i):dB L d i=0:=by
 unfold dB
 rw[if_pos (.inr (by omega))]
 unfold eN
 rw[if_pos (.inr (by omega))]
 rfl
theorem SI(L:List Int)(d i:Nat)(n:Int):VB L d i (.mk 32 [] n [],i+2):=by
 have:=lX n
 refine⟨?_,by simp only;omega,by simp only;omega,by simp[depthN,depthL]⟩
 have e:exprT (.mk 32 [] n [])=fC n:=by simp[exprT]
 simp only[e];omega
theorem uF(L:List Int):∀(d i:Nat),VB L d i (aF L d i):=fun d=>by
 have leaf:∀d i,dB L d i<6→VB L d i (aF L d i):=fun d i h6=>by
  obtain⟨r0,_,_⟩:=jC L d i
  by_cases h0:dB L d i=0∨dB L d i=1
  ·rw[nM h0];exact SI L d i _
  ·have hi:i<L.length:=Nat.lt_of_not_le fun q=>h0 (.inl (FY q))
   by_cases h1:dB L d i=2
   ·rw[nN h1]
    have ho:=wH L (i+1)
    have e:exprT (.mk 33 (mW L (i+1)) 0 [])=36::mW L (i+1):=by simp[exprT]
    refine⟨?_,by simp only;omega,by simp only;omega,by simp[depthN,depthL]⟩
    simp only[e,List.length_cons];omega
   ·by_cases h2:dB L d i=3∨dB L d i=4
    ·rw[kU h2]
     obtain⟨p1,p2,p3,p4⟩:=Lo L (i+1)
     exact⟨by omega,by omega,by omega,by omega⟩
    ·rw[mJ (by omega)]
     have e:exprT (.mk 36 [] 0 [])=jJ:=by simp[exprT]
     have ek:jJ.length=4:=rfl
     refine⟨?_,by simp only;omega,by simp only;omega,by simp[depthN,depthL]⟩
     simp only[e,ek];omega
 induction d with
 |zero=>exact fun i=>leaf 0 i ((jC L 0 i).2.2 rfl)
 |succ e ih=>
  intro i
  by_cases h6:dB L (e+1) i<6
  ·exact leaf (e+1) i h6
  ·have hi:i<L.length:=Nat.lt_of_not_le fun q=>h6 (by rw[FY q];decide)
   obtain⟨_,r1,_⟩:=jC L (e+1) i
   rw[sX (by omega)]
   obtain⟨a1,a2,a3,a4⟩:=ih (i+1)
   obtain⟨b1,b2,b3,b4⟩:=ih (aF L e (i+1)).2
   generalize dB L (e+1) i=k at h6 r1
   have e1:=qH (decide (lvlN (aF L e (i+1)).1.kind<(if bM (26+k-6)=1 then 2 else bM (26+k-6)))) (exprT (aF L e (i+1)).1)
   have e2:=qH (decide (lvlN (aF L e (aF L e (i+1)).2).1.kind<bM (26+k-6)+1)) (exprT (aF L e (aF L e (i+1)).2).1)
   have e3:=DR (26+k-6) (by omega)
   refine⟨?_,by simp only;omega,by simp only;omega,?_⟩
   ·simp only
    rw[yG (by omega) (by omega)]
    simp only[List.length_append,List.length_cons]
    omega
   ·simp only[depthN,depthL];omega
structure SB(L:List Int)(c e i:Nat)(x:Nd×Nat):Prop where
 bytes:(stmtT x.1).length+1+14*i≤14*x.2
 lt:i<x.2
 ends:x.2≤L.length+c
 depth:depthN x.1≤e
structure BB(L:List Int)(c e j:Nat)(x:Nd×Nat):Prop where
 bytes:(blockT x.1).length+14*j≤14*x.2
 lt:j<x.2
 ends:x.2≤max (j+1) (L.length+c)
 depth:depthN x.1≤e
theorem CC{L:List Int}{c e i j:Nat}{k:Int}{t:aN}{n:Int}{ks:List Nd}(hk:13≤k)(hb:(bC k).length+(midT k t).length+(withN n).length+(withE ks).length+2+14*i≤14*j)(h1:i<j)(h2:j≤L.length+c)(h3:depthL ks+1≤e):
 SB L c e i (.mk k t n ks,j):=by
 refine⟨?_,h1,h2,by simp only[depthN];exact h3⟩
 simp only
 rw[stmtT_cmd t n ks hk]
 simp only[List.length_append,List.length_cons,List.length_nil]
 omega
theorem GT(x:Nd):(withE [x]).length=(exprT x).length+1:=by simp[withE]
theorem Ba:(withE []).length=0:=rfl
theorem Bb:(withN 0).length=0:=rfl
theorem vI(x:Nd):depthL [x]=depthN x:=by simp[depthL]
set_option maxHeartbeats 4000000 in
theorem PI{L:List Int}{d i c e:Nat}{bl:Nat→Nd×Nat}(hi:i<L.length)(hc:7≤c)(he:2≤e)(hb:0<d→∀j,BB L c e j (bl j)):SB L (c+2) (e+2) i (Bl L d bl i):=by
 obtain⟨k,hk⟩:∃k,ID L d i=k:=⟨_,rfl⟩
 obtain⟨r0,r1,r2⟩:=tN hk
 rw[lZ hk]
 have cl:=lM L (i+1)
 have ol:=wH L (i+1)
 have ol2:=wH L (i+1+1)
 obtain⟨p1,p2,p3,p4⟩:=Lo L (i+1)
 obtain⟨x1,x2,x3,x4⟩:=uF L 2 (i+1+1)
 obtain⟨y1,y2,y3,y4⟩:=uF L 2 (cJ L (i+1)).2
 obtain⟨u1,u2,u3,u4⟩:=uF L 1 (i+1)
 obtain⟨v1,v2,v3,v4⟩:=uF L 1 (i+1+1)
 obtain⟨w1,w2,w3,w4⟩:=uF L 2 (i+1)
 have nl:=Bz
 unfold wK
 split
 ·rename_i q;subst q
  refine⟨?_,by simp only;omega,by simp only;omega,by simp only[depthN,depthL];omega⟩
  have et:stmtT (.mk 9 (mW L (i+1)) 0 [(aF L 2 (i+1+1)).1])=36::mW L (i+1)++32::61::32::(exprT (aF L 2 (i+1+1)).1++[59]):=by simp[stmtT]
  simp only[et,List.length_append,List.length_cons,List.length_nil];omega
 split
 ·rename_i q;subst q
  refine⟨?_,by simp only;omega,by simp only;omega,by simp only[depthN,depthL];omega⟩
  have et:stmtT (.mk 10 [] 0 [(cJ L (i+1)).1,(aF L 2 (cJ L (i+1)).2).1])=exprT (cJ L (i+1)).1++32::61::32::(exprT (aF L 2 (cJ L (i+1)).2).1++[59]):=by simp[stmtT]
  simp only[et,List.length_append,List.length_cons,List.length_nil];omega
 split
 ·rename_i q
  have hb:=hb (r2 q)
  obtain⟨b1,b2,b3,b4⟩:=hb (aF L 1 (i+1)).2
  obtain⟨c1,c2,c3,c4⟩:=hb ((bl (aF L 1 (i+1)).2).2+1)
  have w11:(bC 11).length=2:=rfl
  have w12:(bC 12).length=5:=rfl
  have wE:cF.length=4:=rfl
  split
  ·rename_i q2;subst q2
   split
   ·refine⟨?_,by simp only;omega,by simp only;omega,by simp only[depthN,depthL];omega⟩
    have et:stmtT (.mk 11 [] 0 [(aF L 1 (i+1)).1,(bl (aF L 1 (i+1)).2).1,(bl ((bl (aF L 1 (i+1)).2).2+1)).1])=
     bC 11++32::(exprT (aF L 1 (i+1)).1++32::blockT (bl (aF L 1 (i+1)).2).1)++32::(cF++32::blockT (bl ((bl (aF L 1 (i+1)).2).2+1)).1):=by simp[stmtT]
    simp only[et,List.length_append,List.length_cons,List.length_nil];omega
   ·refine⟨?_,by simp only;omega,by simp only;omega,by simp only[depthN,depthL];omega⟩
    have et:stmtT (.mk 11 [] 0 [(aF L 1 (i+1)).1,(bl (aF L 1 (i+1)).2).1])=bC 11++32::(exprT (aF L 1 (i+1)).1++32::blockT (bl (aF L 1 (i+1)).2).1):=by simp[stmtT]
    simp only[et,List.length_append,List.length_cons,List.length_nil];omega
  ·rename_i q2
   have q3:k=12:=by omega
   subst q3
   refine⟨?_,by simp only;omega,by simp only;omega,by simp only[depthN,depthL];omega⟩
   have et:stmtT (.mk 12 [] 0 [(aF L 1 (i+1)).1,(bl (aF L 1 (i+1)).2).1])=bC 12++32::(exprT (aF L 1 (i+1)).1++32::blockT (bl (aF L 1 (i+1)).2).1):=by simp[stmtT]
   simp only[et,List.length_append,List.length_cons,List.length_nil];omega
 have wk:=xH k
 have md:=CR k (dA L (i+1))
 have mo:=CR k (mW L (i+1))
 split
 ·rename_i q
  have m1:(midT k (dA L (i+1))).length=(dA L (i+1)).length+1:=by unfold midT;rw[if_neg (by omega),if_neg (by omega)];simp
  exact CC (by omega) (by rw[Bb,Ba,m1];omega) (by omega) (by omega) (by simp[depthL])
 split
 ·rename_i q
  have m1:(midT k (dA L (i+1))).length=(dA L (i+1)).length+1:=by unfold midT;rw[if_neg (by omega),if_neg (by omega)];simp
  exact CC (by omega) (by rw[Bb,GT,m1];omega) (by omega) (by omega) (by rw[vI];omega)
 split
 ·rename_i q
  have m1:(midT k (dA L (i+1))).length=(dA L (i+1)).length+1:=by unfold midT;rw[if_neg (by omega),if_neg (by omega)];simp
  have e1:exprT (.mk 33 (mW L (i+1+1)) 0 [])=36::mW L (i+1+1):=by simp[exprT]
  have w4:(bC k).length=4:=by rcases q with rfl|rfl<;>rfl
  exact CC (by omega) (by rw[Bb,GT,m1,e1,w4,List.length_cons];omega) (by omega) (by omega) (by rw[vI];simp[depthN,depthL])
 split
 ·rename_i q;subst q
  have:=nl (2+eN L (((i+1:Nat):Int)+1) 5)
  have w4:(bC 19).length=4:=rfl
  exact CC (by omega) (by rw[Ba,w4];omega) (by omega) (by omega) (by simp[depthL])
 split
 ·rename_i q;subst q
  have w4:(bC 20).length=3:=rfl
  exact CC (by omega) (by rw[Bb,Ba,w4];omega) (by omega) (by omega) (by simp[depthL])
 split
 ·rename_i q;subst q
  have:=nl (1+eN L ((i+1:Nat):Int) 9)
  have m0:(midT 21 []).length=0:=rfl
  exact CC (by omega) (by rw[Ba,m0];omega) (by omega) (by omega) (by simp[depthL])
 split
 ·rename_i q;subst q
  have:=nl (1+eN L ((i+1:Nat):Int) 99)
  have m0:(midT 25 []).length=0:=rfl
  exact CC (by omega) (by rw[Ba,m0];omega) (by omega) (by omega) (by simp[depthL])
 ·have q:k=24:=by omega
  subst q
  have m0:(midT 24 []).length=0:=rfl
  have w4:(bC 24).length=5:=rfl
  exact CC (by omega) (by rw[Bb,GT,m0,w4];omega) (by omega) (by omega) (by rw[vI];omega)
theorem Lp{L:List Int}{c e:Nat}{st:Nat→Nd×Nat}(h:∀j,j<L.length→SB L c e j (st j)):∀(m:Nat) (ks:List Nd) (j:Nat),depthL ks≤e→
 (stmtsT (fG L st m ks j).1).length+14*j≤(stmtsT ks).length+14*(fG L st m ks j).2∧j≤(fG L st m ks j).2∧(fG L st m ks j).2≤max j (L.length+c)∧depthL (fG L st m ks j).1≤e
 |0,ks,j,hk=>by simp only[fG];exact⟨by omega,Nat.le_refl _,by omega,hk⟩
 |m+1,ks,j,hk=>by
  unfold fG
  split
  ·exact⟨by simp only;omega,Nat.le_refl _,by simp only;omega,hk⟩
  ·rename_i q
   obtain⟨a1,a2,a3,a4⟩:=h j (by omega)
   obtain⟨b1,b2,b3,b4⟩:=Lp h m (ks++[(st j).1]) (st j).2 (by rw[depthL_append,vI];omega)
   have et:(stmtsT (ks++[(st j).1])).length=(stmtsT ks).length+(stmtT (st j).1).length+1:=by rw[pI];simp[stmtsT];omega
   rw[et]at b1
   exact⟨by omega,by omega,by omega,b4⟩
theorem FZ(ks:List Nd):(blockT (.mk 8 [] 0 ks)).length=(stmtsT ks).length+3:=by simp[blockT]
theorem Sm{L:List Int}{c e:Nat}{st:Nat→Nd×Nat}(h:∀j,j<L.length→SB L c e j (st j))(j:Nat):BB L c (e+1) j (rA L st j):=by
 obtain⟨a1,a2,a3,a4⟩:=Lp h (eN L j 4).toNat [] (j+1) (Nat.zero_le _)
 have e1:(rA L st j).1=.mk 8 [] 0 (fG L st (eN L j 4).toNat [] (j+1)).1:=rfl
 have e2:(rA L st j).2=(fG L st (eN L j 4).toNat [] (j+1)).2:=rfl
 have e3:(stmtsT []).length=0:=rfl
 refine⟨?_,by rw[e2];omega,by rw[e2];omega,by rw[e1,depthN];omega⟩
 rw[e1,e2,FZ];omega
theorem Rs(L:List Int):∀d i,i<L.length→SB L (9+2*d) (4+3*d) i (mF L d i)
 |0,i,hi=>by rw[mF];exact PI hi (Nat.le_refl 7) (Nat.le_refl 2) fun h=>absurd h (Nat.lt_irrefl 0)
 |d+1,i,hi=>by
  rw[mF]
  have:=PI (c:=9+2*d) (e:=4+3*d+1) (bl:=rA L (mF L d)) (d:=d+1) hi (by omega) (by omega) fun _ j=>Sm (Rs L d) j
  exact⟨this.bytes,this.lt,by have:=this.ends;omega,by have:=this.depth;omega⟩
theorem PJ(L:List Int):∀(m:Nat) (ks:List Nd) (j:Nat),depthL ks≤10→(stmtsT (nY L m ks j)).length+14*j≤(stmtsT ks).length+14*max j (L.length+13)∧depthL (nY L m ks j)≤10
 |0,ks,j,hk=>by simp only[nY];exact⟨by omega,hk⟩
 |m+1,ks,j,hk=>by
  unfold nY
  split
  ·exact⟨by omega,hk⟩
  ·rename_i q
   obtain⟨a1,a2,a3,a4⟩:=Rs L 2 j (by omega)
   obtain⟨b1,b2⟩:=PJ L m (ks++[(mF L 2 j).1]) (mF L 2 j).2 (by rw[depthL_append,vI];omega)
   have et:(stmtsT (ks++[(mF L 2 j).1])).length=(stmtsT ks).length+(stmtT (mF L 2 j).1).length+1:=by rw[pI];simp[stmtsT];omega
   rw[et]at b1
   exact⟨by omega,b2⟩
theorem Lq(L:List Int):∀c,((nI L c).flatMap itemT).length≤25*c∧depthL (nI L c)≤1
 |0=>⟨Nat.le_refl _,Nat.zero_le _⟩
 |c+1=>by
  obtain⟨a,b⟩:=Lq L c
  have h1:=lM L (3+2*c)
  have h2:=lX (eN L (4+2*c) 1999-999)
  rw[nI,List.flatMap_append,depthL_append,vI]
  refine⟨?_,by simp only[depthN,depthL];omega⟩
  simp only[List.flatMap_cons,List.flatMap_nil,itemT,List.length_append,List.length_cons,List.length_nil,lA,rR]
  omega
theorem Ey(l:List Int):(textT (uA l)).length≤900∧depthN (uA l)≤12:=by
 have hl:(l.take 48).length≤48:=by rw[List.length_take];omega
 have hx:=vH (p:=fun n:Int=>0≤n∧n≤6) (d:=0) (by decide:∀n∈iM,0≤n∧n≤6) (show(eN (l.take 48) 0 10).toNat<10 by have:=bJ (l.take 48) 0 10 (by decide);omega)
 unfold uA
 generalize l.take 48=L at hl hx
 have cl:=lM L 1
 have r4:=bJ L 2 4 (by decide)
 obtain⟨b1,b2⟩:=PJ L L.length [] 2 (Nat.zero_le _)
 obtain⟨i1,i2⟩:=Lq L (eN L 2 4).toNat
 have e3:(stmtsT []).length=0:=rfl
 unfold sK
 simp only[]
 generalize iM.getD (eN L 0 10).toNat 0=k at hx
 have wl:=xH k
 split
 ·rename_i q;subst q
  have il:=lX (eN L 2 1999-999)
  refine⟨?_,by simp only[depthN,depthL];omega⟩
  have et:textT (.mk 0 (dA L 1) (eN L 2 1999-999) [])=(bC 0++32::dA L 1)++32::61::32::(fC (eN L 2 1999-999)++[59]):=by simp[textT]
  rw[et];simp only[List.length_append,List.length_cons,List.length_nil];omega
 split
 ·rename_i q;subst q
  have il:=lX (eN L 2 4)
  refine⟨?_,by simp only[depthN,depthL];omega⟩
  have et:textT (.mk 2 (dA L 1) (eN L 2 4) [])=(bC 2++32::dA L 1)++32::(fC (eN L 2 4)++[59]):=by simp[textT]
  rw[et];simp only[List.length_append,List.length_cons,List.length_nil];omega
 split
 ·rename_i q;subst q
  refine⟨?_,by simp only[depthN];omega⟩
  have et:textT (.mk 1 (dA L 1) 0 (nI L (eN L 2 4).toNat))=(bC 1++32::dA L 1)++32::123::32::((nI L (eN L 2 4).toNat).flatMap itemT++[125]):=by simp[textT]
  rw[et];simp only[List.length_append,List.length_cons,List.length_nil];omega
 split
 ·rename_i q
  refine⟨?_,by simp only[depthN,depthL];omega⟩
  have et:textT (.mk k (dA L 1) 0 [.mk 8 [] 0 (nY L L.length [] 2)])=(bC k++32::dA L 1)++32::blockT (.mk 8 [] 0 (nY L L.length [] 2)):=by rcases q with rfl|rfl<;>simp[textT]
  rw[et];simp only[List.length_append,List.length_cons,FZ];omega
 ·have q:k=3∨k=4:=by omega
  refine⟨?_,by simp only[depthN,depthL];omega⟩
  have et:textT (.mk k (dA L 1) 0 [])=(bC k++32::dA L 1)++[59]:=by rcases q with rfl|rfl<;>simp[textT]
  rw[et];simp only[List.length_append,List.length_cons,List.length_nil];omega
theorem Kz(l:List Int):validB (uA l)=true:=by
 obtain⟨a,b,c⟩:=Kv l
 obtain⟨d,e⟩:=Ey l
 unfold validB
 rw[a]
 simp only[Bool.and_eq_true,decide_eq_true_eq]
 exact⟨⟨⟨⟨b,c⟩,by omega⟩,trivial⟩,by omega⟩
end Go.Eng
namespace Go.Eng
open Go.Proofs
def tO(v:Nd):Nd:=.mk 6 [116] 0 [.mk 8 [] 0 [.mk 24 [] 0 [v],.mk 10 [] 0 [.mk 34 [120] 0 [],v]]]
theorem Ez(v:Nd):textT (tO v)=[116,101,115,116,32,116,32,123,32,99,104,101,99,107,32]++exprT v++[59,32,120,32,61,32]++exprT v++[59,32,125]:=by
 have e1:exprT (.mk 34 [120] 0 [])=[120]:=by simp[exprT]
 have e2:stmtT (.mk 24 [] 0 [v])=[99,104,101,99,107,32]++exprT v++[59]:=by
  rw[stmtT,if_neg (by decide),if_neg (by decide),if_neg (by decide)]
  simp[midT,withN,withE,bC,cZ]
 have e3:stmtT (.mk 10 [] 0 [.mk 34 [120] 0 [],v])=[120,32,61,32]++exprT v++[59]:=by
  rw[stmtT,if_neg (by decide),if_pos rfl]
  simp only[e1];simp
 unfold tO textT
 simp only[Nd.kind,Nd.kids,Nd.text]
 rw[if_pos (by decide)]
 simp only[blockT,stmtsT,e2,e3]
 simp[bC,cZ]
theorem IK{v:Nd}(hr:aG v=true)(hk:aH v.kind=true):aG (tO v)=true:=by
 have p34:aG (.mk 34 [120] 0 [])=true:=by decide
 have p10:aG (.mk 10 [] 0 [.mk 34 [120] 0 [],v])=true:=right_mk.2 ⟨by decide,by decide,by show(gG 34&&(aH v.kind&&true))=true;rw[hk];decide,by decide,by decide,by decide,fun x hx=>by
  rcases List.mem_cons.1 hx with rfl|h
  ·exact p34
  ·rw[List.mem_singleton.1 h];exact hr⟩
 have p24:aG (.mk 24 [] 0 [v])=true:=right_mk.2 ⟨by decide,by decide,by show(aH v.kind&&true)=true;rw[hk];decide,by decide,by decide,by decide,fun x hx=>by
  rw[List.mem_singleton.1 hx];exact hr⟩
 have p8:aG (.mk 8 [] 0 [.mk 24 [] 0 [v],.mk 10 [] 0 [.mk 34 [120] 0 [],v]])=true:=right_mk.2 ⟨by decide,by decide,rfl,by decide,by decide,by decide,fun x hx=>by
  rcases List.mem_cons.1 hx with rfl|h
  ·exact p24
  ·rw[List.mem_singleton.1 h];exact p10⟩
 exact right_mk.2 ⟨by decide,by decide,rfl,by decide,by decide,by decide,fun x hx=>by
  rw[List.mem_singleton.1 hx];exact p8⟩
theorem CD{v:Nd}(hr:aG v=true)(hk:aH v.kind=true)(hd:depthN v≤4)(hl:(exprT v).length≤400):validB (tO v)=true:=by
 have e:depthN (tO v)≤24:=by
  unfold tO
  simp only[depthN,depthL]
  omega
 have l:(textT (tO v)).length≤1024:=by
  rw[Ez]
  simp only[List.length_append,List.length_cons,List.length_nil];omega
 unfold validB
 rw[IK hr hk]
 simp only[e,l,decide_true]
 rfl
theorem yS(m:List Int):(rF m).length≤400:=by
 have h:=uF (m.take 20) 3 0
 have h1:=h.bytes
 have h2:=h.ends
 have h3:(m.take 20).length≤20:=List.length_take_le ..
 unfold rF
 omega
theorem IL(m:List Int):dW ([116,101,115,116,32,116,32,123,32,99,104,101,99,107,32]++rF m++[59,32,120,32,61,32]++rF m++[59,32,125])=(tO (aF (m.take 20) 3 0).1,0,0):=by
 have h:=qI (m.take 20) 3 0
 have:=JF (CD h.1 h.2 (uF (m.take 20) 3 0).depth (yS m))
 rw[Ez]at this
 exact this
end Go.Eng
namespace Go.Eng
open Go.Proofs
theorem PK(r:List aN):Gy ([41]::r):=⟨show some [41]≠some [46]by decide,show qD 1 [41]<0 by decide,show qD 2 [41]<0 by decide,show qD 3 [41]<0 by decide⟩
theorem KA{x:Nd}{K:List aN}{D:Nat}(h:∀f rest,D≤f→Gy rest→fV (dD false f) K x rest):∀f rest,D+1≤f→Gy rest→fV (dD false f) ([40]::(K++[[41]])) x rest:=fun f rest hf he=>by
 cases f with
 |zero=>omega
 |succ f=>
  have hfact:fV (dS (dD false f)) ([40]::(K++[[41]])) x rest:=fun p hp=>by
   obtain⟨q,h1,h2⟩:=h f ([41]::rest) (by omega) (PK rest) p.skip (by simpa using hp.skip)
   refine⟨q.skip,?_,h2.skip⟩
   unfold dS
   rw[hp.is [40] (by decide),if_pos (by simp),h1,h2.need (by decide)]
  have c3:LZ 3 (dS (dD false f)) ([40]::(K++[[41]])) x rest:=LZ.one hfact
  have c2:LZ 2 (uT (dD false f)) ([40]::(K++[[41]])) x rest:=LZ.one (c3.done he.2.2.2)
  exact yI (c2.done he.2.2.1) he.2.1
theorem Ru{x:Nd}(hr:aG x=true)(hk:aH x.kind=true):∀f rest,depthN x+1≤f→Gy rest→fV (dD false f) (bR x) x rest:=fun f rest hf he=>
 (DN x hr hk).a1 f rest (by omega) he.1 he.2.1 he.2.2.1 he.2.2.2
def GU(v:Nd):List aN:=[40]::(bR v++[[41]])
def PL(v:Nd):List aN:=[40]::(GU v++[[41]])
theorem Sn{x:Nd}(hr:aG x=true)(hk:aH x.kind=true){rest:List aN}(he:Gy rest):fV zJ (GU x) x rest:=fun p hp=>by
 have hd:=nJ x hr hk
 have hl:=hp.len
 simp only[List.length_append,GU,List.length_cons]at hl
 exact KA (Ru hr hk) (p.l.length+1) rest (by omega) he p hp
theorem So{x:Nd}(hr:aG x=true)(hk:aH x.kind=true){rest:List aN}(he:Gy rest):fV zJ (PL x) x rest:=fun p hp=>by
 have hd:=nJ x hr hk
 have hl:=hp.len
 simp only[List.length_append,GU,PL,List.length_cons]at hl
 exact KA (KA (Ru hr hk)) (p.l.length+1) rest (by omega) he p hp
end Go.Eng
namespace Go.Eng
open Go.Proofs
def KB:aN:=[99,104,101,99,107]
theorem Sp{v:Nd}(hr:aG v=true)(hk:aH v.kind=true){f:Nat}{rest:List aN}:fV (kS false (f+1)) (KB::(PL v++[[59]])) (.mk 24 [] 0 [v]) rest:=fun p hp=>by
 have hst:kS false (f+1) p=gH zJ (fU (kS false f)) p:=rfl
 rw[hst]
 simp only[List.cons_append,List.append_assoc,List.nil_append]at hp
 obtain⟨q,g1,g2⟩:=So hr hk (sT rest) p.skip hp.skip
 refine⟨q.skip,?_,g2.skip⟩
 have hw:dT KB=24:=by decide
 unfold gH
 simp only
 rw[hp.peek,hw,if_neg (by decide),if_pos (by decide)]
 have hc:mE zJ 24 p.skip=(.mk 24 [] 0 [(zJ p.skip).1],(zJ p.skip).2):=rfl
 rw[hc,g1]
 simp only
 rw[g2.need (by decide)]
theorem Re{v:Nd}(hr:aG v=true)(hk:aH v.kind=true){f:Nat}{rest:List aN}:fV (kS false (f+1)) ([120]::[61]::(GU v++[[59]])) (.mk 10 [] 0 [.mk 34 [120] 0 [],v]) rest:=fun p hp=>by
 have hst:kS false (f+1) p=gH zJ (fU (kS false f)) p:=rfl
 rw[hst]
 simp only[List.cons_append,List.append_assoc,List.nil_append]at hp
 have h34:aG (.mk 34 [120] 0 [])=true:=by decide
 have hk34:bR (.mk 34 [120] 0 [])=[[120]]:=by simp[bR]
 obtain⟨q0,g3,g4⟩:=xG h34 (by decide) (rest:=[61]::(GU v++[59]::rest)) (show some [61]≠some [46]by decide) p (by rw[hk34];exact hp)
 obtain⟨q,g1,g2⟩:=Sn hr hk (sT rest) q0.skip g4.skip
 refine⟨q.skip,?_,g2.skip⟩
 have hw:dT [120]= -1:=by decide
 unfold gH
 simp only
 rw[hp.peek,hw,if_neg (by decide),if_neg (by decide)]
 rw[g3]
 simp only
 rw[g4.need (by decide),g1]
 simp only
 rw[g2.need (by decide)]
 rfl
def IM(v:Nd):List aN:=[116,101,115,116]::[116]::[123]::(KB::(PL v++[59]::([120]::[61]::(GU v++[59]::[[125]]))))
theorem MY{v:Nd}(hr:aG v=true)(hk:aH v.kind=true){p:PS}(hp:Ab p (IM v)):∃q,kP false p=(tO v,q)∧Ab q []:=by
 unfold IM at hp
 have h3:=hp.skip.skip.skip
 have hlen:=h3.len
 have hl:2≤p.skip.skip.skip.l.length:=by
  rw[hlen];simp only[List.length_cons,List.length_append];omega
 obtain⟨N,hN⟩:∃N,p.skip.skip.skip.l.length+1=N+3:=⟨p.skip.skip.skip.l.length-2,by omega⟩
 obtain⟨F,hF⟩:∃F,p.skip.skip.l.length+1=F+1:=⟨_,rfl⟩
 obtain⟨q1,a1,a2⟩:=Sp hr hk (f:=F) (rest:=[120]::[61]::(GU v++[59]::[[125]])) p.skip.skip.skip (by simpa using h3)
 obtain⟨q2,b1,b2⟩:=Re hr hk (f:=F) (rest:=[[125]]) q1 (by simpa using a2)
 refine⟨q2.skip,?_,b2.skip⟩
 have hkd:dG p.peek=6:=by rw[hp.peek];decide
 have hnm:aM p.skip=([116],p.skip.skip):=hp.skip.name (by decide)
 unfold kP
 simp only
 rw[hkd,if_neg (by decide),if_pos (by decide),hnm]
 simp only
 have hb:qQ false (p.skip.skip.l.length+1) p.skip.skip=(.mk 8 [] 0 [.mk 24 [] 0 [v],.mk 10 [] 0 [.mk 34 [120] 0 [],v]],q2.skip):=by
  unfold qQ fU
  simp only
  rw[hp.skip.skip.need (by decide),hN,hF]
  have s1:¬(p.skip.skip.skip.e≠0∨p.skip.skip.skip.peek=[125]):=by rw[h3.peek,h3.1];decide
  have s2:¬(q1.e≠0∨q1.peek=[125]):=by rw[a2.peek,a2.1];decide
  have s3:q2.e≠0∨q2.peek=[125]:=.inr b2.peek
  rw[eE,if_neg s1,a1]
  simp only
  rw[eE,if_neg s2,b1]
  simp only
  rw[eE,if_pos s3]
  simp only[List.nil_append,List.cons_append]
  rw[b2.need (by decide)]
 rw[hb]
 rfl
end Go.Eng
namespace Go.Eng
open Go.Proofs
def EA(t:aN):aN:=[116,101,115,116,32,116,123,99,104,101,99,107,40,40]++t++[41,41,59,120,61,40]++t++[41,59,125]
theorem Rg(s:aN):bV ([120]++61::s)=1:=by
 rw[List.cons_append,lY,if_pos (by decide)]
 simp[dR,iX,aV,aO]
theorem Rh{v:Nd}(hr:aG v=true)(hk:aH v.kind=true):rB (EA (exprT v)) (IM v):=by
 have e:EA (exprT v)=[116,101,115,116]++32::([116]++123::(KB++40::40::(exprT v++41::41::59::([120]++61::((40::(exprT v++41::59::[125]))))))):=by
  simp[EA,KB]
 have t:IM v=[116,101,115,116]::[116]::[123]::KB::[40]::[40]::(bR v++([41]::[41]::[59]::[120]::[61]::[40]::(bR v++([41]::[59]::[[125]])))):=by
  simp[IM,GU,PL]
 rw[e,t]
 have s1:rB (41::59::[125]) ([41]::[59]::[[125]]):=.sign (by decide) (.sign (by decide) (.sign (by decide) .nil))
 have s2:=rV v hr hk _ _ s1 rfl
 have s3:rB (40::(exprT v++41::59::[125])) ([40]::(bR v++([41]::[59]::[[125]]))):=.sign (by decide) s2
 have s4:rB (61::(40::(exprT v++41::59::[125]))) ([61]::([40]::(bR v++([41]::[59]::[[125]])))):=dI (t:=[61]) ⟨by decide,by decide⟩ rfl s3
 have s5:rB ([120]++61::(40::(exprT v++41::59::[125]))) ([120]::[61]::([40]::(bR v++([41]::[59]::[[125]])))):=.tok (by decide) (Rg _) s4
 have s6:=rB.sign (c:=41) (by decide) (rB.sign (c:=41) (by decide) (rB.sign (c:=59) (by decide) s5))
 have s7:=rV v hr hk _ _ s6 rfl
 have s8:=rB.sign (c:=40) (by decide) (rB.sign (c:=40) (by decide) s7)
 have s9:=dI (t:=KB) ⟨by decide,by decide⟩ rfl s8
 have s10:=rB.sign (c:=123) (by decide) s9
 have s11:=dI (t:=[116]) ⟨by decide,by decide⟩ rfl s10
 exact dI (t:=[116,101,115,116]) ⟨by decide,by decide⟩ rfl (rB.sp s11)
theorem MZ(m:List Int):dW (EA (rF m))=(tO (aF (m.take 20) 3 0).1,0,0):=by
 have h:=qI (m.take 20) 3 0
 have hv:=CD h.1 h.2 (uF (m.take 20) 3 0).depth (yS m)
 have hs:=Rh h.1 h.2
 have hl:(EA (rF m)).length≤1024:=by
  have:=yS m
  unfold EA
  simp only[List.length_append,List.length_cons,List.length_nil];omega
 obtain⟨s1,s2⟩:=AB hs (EA (rF m)).length 0 (Nat.le_refl _)
 obtain⟨q,g1,g2,g3⟩:=MY h.1 h.2 (p:=⟨(eS (EA (rF m))).1,0⟩) ⟨rfl,s1⟩
 have hq:q.l=[]:=by simpa using g3
 unfold dW
 rw[if_neg (by omega)]
 simp only
 rw[g1]
 simp only[hq]
 rw[if_neg,if_pos hv]
 intro h
 rcases h with h|h
 ·exact h g2
 ·have:(eS (EA (rF m))).2=0+((EA (rF m)).length:Int):=s2
  omega
set_option maxRecDepth 100000 in
theorem IN:∀w∈(cZ.filter (·≠[]))++[cF,jJ],(dW ([108,111,99,107,32]++w++[59])).2=(5,2):=by decide
end Go.Eng
namespace Go.Eng
open Go.RowKit Go.Shelf Go.Sort Go.Proofs
structure CE{α:Type}(k:Nat)(d:α→DV)(enc:α→List Value):Prop where
 pos:0<k
 len:∀x,(enc x).length=k
 lenD:∀x,(aE (d x)).length=k
 one:∀x,∀v∈enc x,v.oneCell'=true
 cell:∀(x:α) (i:Nat) (c:DV) (v:Value),(aE (d x))[i]? =some c→(enc x)[i]? =some v→∀w E u,RD w E c u↔u=v
theorem KD{α:Type}[Inhabited α]{k:Nat}{d:α→DV}{enc:α→List Value}(C:CE k d enc)(l:List α):(flatK enc k l.toArray).toList=l.flatMap enc:=by
 have hk:=C.pos
 apply List.ext_getElem?
 intro i
 by_cases hi:i<l.length*k
 ·have hlt:i / k<l.length:=(Nat.div_lt_iff_lt_mul hk).2 hi
  have hm:=Nat.mod_lt i hk
  have e1:(l.flatMap enc)[i]? =(enc l[i / k])[i%k]? :=by
   have key:∀(l:List α) (q r:Nat) (hq:q<l.length),r<k→(l.flatMap enc)[q*k+r]? =(enc l[q])[r]? :=by
    intro l
    induction l with
    |nil=>intro q r hq;simp at hq
    |cons x t ih=>
     intro q r hq hr
     simp only[List.flatMap_cons]
     cases q with
     |zero=>rw[Nat.zero_mul,Nat.zero_add,List.getElem?_append_left (by rw[C.len];exact hr)];rfl
     |succ q=>
      rw[List.getElem?_append_right (by rw[C.len,Nat.add_mul];omega),C.len,show(q+1)*k+r-k=q*k+r by rw[Nat.add_mul];omega]
      exact ih q r (by simpa using hq) hr
   have:=key l (i / k) (i%k) hlt hm
   rw[show i / k*k+i%k=i by rw[Nat.mul_comm];exact Nat.div_add_mod _ _]at this
   exact this
  rw[e1]
  have hr:i%k<(enc l[i / k]).length:=by rw[C.len];exact hm
  have e2:(flatK enc k l.toArray)[i]? =some ((enc l.toArray[i / k]!)[i%k]!):=by simp[flatK,hi]
  rw[Array.getElem?_toList,e2,List.getElem?_eq_getElem hr]
  simp[hlt,hr]
 ·rw[List.getElem?_eq_none (by simp[flatK];omega),List.getElem?_eq_none]
  have:(l.flatMap enc).length=l.length*k:=by
   clear hi
   induction l with
   |nil=>simp
   |cons x t ih=>simp only[List.flatMap_cons,List.length_append,C.len,ih,List.length_cons,Nat.add_mul];omega
  omega
section
variable{P:Program} {ρ:Ren} {α:Type} [Inhabited α]
theorem Aa{α:Type}{k:Nat}{d:α→DV}{enc:α→List Value}(C:CE k d enc):∀(l:List α) (i:Nat) (c:DV) (v:Value),(bE (l.map d))[i]? =some c→(l.flatMap enc)[i]? =some v→∀w E u,RD w E c u↔u=v
 |[],i,c,v,hc,_=>by simp[bE]at hc
 |x::t,i,c,v,hc,hv=>by
  simp only[List.map_cons,bE,List.flatMap_cons]at hc hv
  by_cases hi:i<k
  ·rw[List.getElem?_append_left (by rw[C.lenD];exact hi)]at hc
   rw[List.getElem?_append_left (by rw[C.len];exact hi)]at hv
   exact C.cell x i c v hc hv
  ·rw[List.getElem?_append_right (by rw[C.lenD];omega),C.lenD]at hc
   rw[List.getElem?_append_right (by rw[C.len];omega),C.len]at hv
   exact Aa C t (i-k) c v hc hv
end
end Go.Eng
namespace Go.Eng
open Go.RowKit
def Tm{β:Type}(B:Nat)(J:β→World→Prop):Prop:=
 ∀s W W' row,J s W→W.grownBy W' row→W.drawn≤W'.drawn→(∀r,row=some r→B≤r∧∃o:Obj,W.heap[r]? =some o∧o.isCells=false)→J s W'
theorem Tm.putObj{β:Type}{B:Nat}{J:β→World→Prop}(h:Tm B J){s:β}{W:World}{l:Nat}{o:Obj}(o':Obj)(hs:J s W)(hB:B≤l)(hl:W.heap[l]? =some o)(ho:o.isCells=false):J s (W.putObj l o'):=
 h s W _ (some l) hs (grownBy_putObj' W l o') (Nat.le_refl _) (fun r e=>by cases e;exact⟨hB,o,hl,ho⟩)
theorem Tm.alloc{β:Type}{B:Nat}{J:β→World→Prop}(h:Tm B J){s:β}{W:World}(o:Obj)(hs:J s W):J s (W.alloc o):=
 h s W _ none hs (World.grownBy_alloc W o none) (Nat.le_refl _) (fun r e=>by cases e)
structure PM(s:Nat)(b0:Option Nat)(base:Nat)(W:World)(v:Value)(n:Nat)(cells:List Value)(gb:Option Nat):Prop where
 len:cells.length=n*s
 one:∀u∈cells,u.oneCell'=true
 lies:(gb=none∧n=0∧∃a,v=.slice a 0 0)∨∃g cap cur e,gb=some g∧v=.slice (some ⟨g,0,none⟩) n cap∧(b0=some g∨base≤g)∧W.heap[g]? =some (.cells cur e (0,0))∧n≤cap∧cap≤maxLen∧cap*s=cur.size∧cur.toList.take (n*s)=cells
theorem PM.append{P:Program}{t e:TypeId}{i:TypeInfo}{z:Value}{s:Nat}(ty:TypeId)(ht:P.underlying t=some (.slice e))(hi:P.info? e=some i)(hz:i.zero=some z)(hsz:i.size=s)(hzs:z.cells.size=s)(hs:0<s)
 {b0:Option Nat}{base:Nat}{W:World}{v:Value}{n:Nat}{cells:List Value}{gb:Option Nat}(h:PM s b0 base W v n cells gb)(hbase:base≤W.heap.size){ad c:Nat}{news:List Value}(hn:news.length=s)(h1:∀u∈news,u.oneCell'=true)
 (hc:∀(j:Nat) (u:Value),news[j]? =some u→W.cell? ⟨ad,j,none⟩=some u)(hb:(n+1)*i.bytes≤140737488355328)(hm:n+1≤140737488355328):
 ∃v' W' g',(Builtin.append_ #[t,t] ty #[v,.slice (some ⟨ad,0,none⟩) 1 c]).run P W=.ok v' W'∧PM s b0 base W' v' (n+1) (cells++news) (some g')∧W.grownBy W' gb∧W.drawn≤W'.drawn∧(gb=some g'∨g'=W.heap.size)∧
  ((g'=W.heap.size∧W.grownBy W' none)∨(gb=some g'∧∀cur e,W.heap[g']? =some (.cells cur e (0,0))→∃cur',W'.heap[g']? =some (.cells cur' e (0,0))∧cur'.size=cur.size∧cur'.toList.take (n*s)=cur.toList.take (n*s))):=by
 have hlen:(cells++news).length=(n+1)*s:=by rw[List.length_append,h.len,hn,Nat.add_mul];omega
 have hone:∀u∈cells++news,u.oneCell'=true:=fun u hu=>(List.mem_append.1 hu).elim (h.one u) (h1 u)
 have hlo:(Builtin.lenOf (.slice (some ⟨ad,0,none⟩) 1 c)).run P W=.ok 1 W:=by simp[Builtin.lenOf]
 have hf:∀w2:World,w2.heap=W.heap→(Builtin.firstCells i.size 1 (.slice (some ⟨ad,0,none⟩) 1 c)).run P w2=.ok news.toArray w2:=fun w2 hw=>
  nW (by rw[hsz];omega) fun j u hu=>by rw[uN hw];simpa using hc j u hu
 have hd:∀k,(TypeDesc.slice e)≠ .int k:=fun k=>by simp
 have out:∀{ba:Option Addr} {cap:Nat} (olds:List Value),olds=cells→(∀w2:World,w2.heap=W.heap→(Builtin.firstCells i.size n (.slice ba n cap)).run P w2=.ok olds.toArray w2)→cap<n+1→
  ∃v' W' g',(Builtin.append_ #[t,t] ty #[.slice ba n cap,.slice (some ⟨ad,0,none⟩) 1 c]).run P W=.ok v' W'∧PM s b0 base W' v' (n+1) (cells++news) (some g')∧W.grownBy W' gb∧W.drawn≤W'.drawn∧(gb=some g'∨g'=W.heap.size)∧
  ((g'=W.heap.size∧W.grownBy W' none)∨(gb=some g'∧∀cur e,W.heap[g']? =some (.cells cur e (0,0))→∃cur',W'.heap[g']? =some (.cells cur' e (0,0))∧cur'.size=cur.size∧cur'.toList.take (n*s)=cur.toList.take (n*s))):=by
  intro ba cap olds ho hol hcap
  subst ho
  have hrun:=nX (P:=P) (w:=W) (ty:=ty) (base:=ba) (sLen:=n) (sCap:=cap) ht ht hd hi hz hlo hf hol hcap (by omega) hb
  have hge:=grownCap_ge W (n+1) cap e
  have hgc:(olds.toArray++news.toArray++Builtin.zeroCells z.cells (grownCap W (n+1) cap e-(n+1))).size=grownCap W (n+1) cap e*s:=by
   simp only[Array.size_append,List.size_toArray,size_zeroCells,hzs,h.len,hn]
   have:(n+1+(grownCap W (n+1) cap e-(n+1)))*s=n*s+s+(grownCap W (n+1) cap e-(n+1))*s:=by rw[Nat.add_mul,Nat.add_mul];omega
   rw[←this];congr 1;omega
  refine⟨_,_,_,hrun,⟨hlen,hone,.inr ⟨_,_,_,e,rfl,rfl,.inr hbase,heap_alloc_new W.drew _,hge,grownCap_le_maxLen W (n+1) cap e (by unfold maxLen;omega),hgc.symm,?_⟩⟩,⟨rfl,rfl,rfl,by simp,fun k hk _=>heap_alloc_old W.drew _ hk⟩,Nat.le_succ _,.inr rfl,.inl ⟨rfl,⟨rfl,rfl,rfl,by simp,fun k hk _=>heap_alloc_old W.drew _ hk⟩⟩⟩
  rw[←hlen]
  simp only[Array.toList_append,List.append_assoc]
  rw[←List.append_assoc,List.take_left]
 rcases h.lies with⟨rfl,rfl,a,rfl⟩|⟨g,cap,cur,e',rfl,rfl,hbg,hblk,hnc,hcm,hcs,htk⟩
 ·have hc0:cells=[]:=List.eq_nil_of_length_eq_zero (by simpa using h.len)
  refine out [] hc0.symm (fun w2 _=>by cases a<;>simp[Builtin.firstCells,loadCells,loadCellsFrom]) (by omega)
 ·by_cases hroom:n+1≤cap
  ·have hfit:n*s+news.length≤cur.size:=by
    rw[hn,←hcs]
    have:(n+1)*s≤cap*s:=Nat.mul_le_mul_right _ hroom
    rw[Nat.add_mul]at this;omega
   have hrun:=kR (P:=P) (w:=W) (ty:=ty) (base:=some ⟨g,0,none⟩) (sLen:=n) (sCap:=cap) ht ht hd hi hlo hf hroom
   have hst:=run_storeCells_at P g (n*s) e' news 0 cur W hblk (by omega) h1
   simp only[Nat.add_zero]at hst
   simp only[Addr.add_lit,Nat.zero_add,hsz]at hrun
   rw[hst]at hrun
   have hcl:cur.toList.length=cur.size:=by simp
   refine⟨_,_,g,hrun,⟨hlen,hone,.inr ⟨g,cap,_,e',rfl,rfl,hbg,setRow_heap W g cur _ e' (0,0) hblk,hroom,hcm,?_,?_⟩⟩,⟨rfl,rfl,rfl,by simp,fun k _ hk=>setRow_other W g k _ (fun e=>hk (by rw[e]))⟩,Nat.le_refl _,.inl rfl,.inr ⟨rfl,fun cur2 e2 hc2=>?_⟩⟩
   ·rw[hcs];simp only[List.size_toArray,List.length_append,List.length_take,List.length_drop,hcl];omega
   ·simp only[htk]
    rw[List.append_assoc,←List.append_assoc,←hlen,List.take_left]
   ·rw[hblk]at hc2;injection hc2 with hc2;injection hc2 with p1 p2;subst p1;subst p2
    refine⟨_,setRow_heap W g cur _ e' (0,0) hblk,?_,?_⟩
    ·simp only[List.size_toArray,List.length_append,List.length_take,List.length_drop,hcl];omega
    ·simp only[htk]
     rw[List.append_assoc,←h.len,List.take_left]
  ·refine out (cur.toList.take (n*s)) htk (fun w2 hw=>?_) (by omega)
   refine nW (by rw[hsz,List.length_take,Array.length_toList,←hcs];have:n*s≤cap*s:=Nat.mul_le_mul_right _ hnc;omega) fun j u hu=>?_
   rw[uN hw,cell_of_row W g _ cur e' (0,0) hblk]
   rw[List.getElem?_take]at hu
   split at hu
   ·simpa using hu
   ·cases hu
structure PN(b0:Option Nat)(W0 W:World):Prop where
 os:W.os=W0.os
 tape:W.tape=W0.tape
 output:W.output=W0.output
 size:W0.heap.size≤W.heap.size
 block:∀k,k<W0.heap.size→some k≠b0→W.heap[k]? =W0.heap[k]?
 drawn:W0.drawn≤W.drawn
theorem PN.refl(b0:Option Nat)(W:World):PN b0 W W:=⟨rfl,rfl,rfl,Nat.le_refl _,fun _ _ _=>rfl,Nat.le_refl _⟩
theorem PN.step{b0:Option Nat}{W0 W W':World}{row:Option Nat}(h:PN b0 W0 W)(hg:W.grownBy W' row)(hd:W.drawn≤W'.drawn)(hr:∀r,row=some r→b0=some r∨W0.heap.size≤r):PN b0 W0 W':=
 ⟨hg.os.trans h.os,hg.tape.trans h.tape,hg.output.trans h.output,Nat.le_trans h.size hg.size,fun k hk hb=>(hg.block k (Nat.lt_of_lt_of_le hk h.size) (fun e=>by rcases hr k e.symm with q|q;exact hb q.symm;omega)).trans (h.block k hk hb),Nat.le_trans h.drawn hd⟩
def PO(m:Nat)(b0:Option Nat)(W0 W:World):Prop:=∀g cur0 e0,b0=some g→W0.heap[g]? =some (.cells cur0 e0 (0,0))→∃cur,W.heap[g]? =some (.cells cur e0 (0,0))∧cur.size=cur0.size∧cur.toList.take m=cur0.toList.take m
theorem PO.refl(m:Nat)(b0:Option Nat)(W:World):PO m b0 W W:=fun _ cur0 _ _ h=>⟨cur0,h,rfl,rfl⟩
theorem PO.step{m:Nat}{b0:Option Nat}{W0 W W':World}{row:Option Nat}(h:PO m b0 W0 W)(hg:W.grownBy W' row)(hr:b0=none∨b0≠row):PO m b0 W0 W':=fun g cur0 e0 hb h0=>by
 obtain⟨cur,h1,h2,h3⟩:=h g cur0 e0 hb h0
 refine⟨cur,(hg.block g (Array.getElem?_eq_some_iff.1 h1).1 (fun e=>?_)).trans h1,h2,h3⟩
 rcases hr with hr|hr
 ·rw[hr]at hb;cases hb
 ·exact hr (hb.trans e)
section
variable{w0:iT} {X:Nat→Prop} {H:Nat→aW} {β:Nat→Option Nat} {w w':World} {α:Type} [Inhabited α] {k:Nat} {d:α→DV} {enc:α→List Value}
theorem CE.flat_len(C:CE k d enc)(l:List α):(l.flatMap enc).length=l.length*k:=by rw[←KD C l];simp
theorem CE.flatD_len{α:Type}{k:Nat}{d:α→DV}{enc:α→List Value}(C:CE k d enc)(l:List α):(bE (l.map d)).length=l.length*k:=by
 rw[Go.Eng.flat_len (size:=k) (fun x hx=>by obtain⟨y,_,rfl⟩:=List.mem_map.1 hx;exact C.lenD y)];simp
theorem CE.all{α:Type}{k:Nat}{d:α→DV}{enc:α→List Value}(C:CE k d enc)(l:List α):∀x∈l.map d,(aE x).length=k:=fun x hx=>by obtain⟨y,_,rfl⟩:=List.mem_map.1 hx;exact C.lenD y
theorem CE.reads(C:CE k d enc){l:List α}{cur:Array Value}(h:cur.toList.take (l.length*k)=l.flatMap enc):l.length*k≤cur.size∧∀(E:Nat→Prop) (W:World) (i:Nat) (c:DV) (v:Value),(bE (l.map d))[i]? =some c→cur[i]? =some v→v.oneCell'=true∧RD W E c v:=by
 have hl:=congrArg List.length h
 rw[List.length_take,C.flat_len]at hl
 have hcl:cur.toList.length=cur.size:=by simp
 refine⟨by omega,fun E W i c v hc hv=>?_⟩
 have hi:i<l.length*k:=by have:=(List.getElem?_eq_some_iff.1 hc).1;rw[C.flatD_len]at this;exact this
 have hv':(l.flatMap enc)[i]? =some v:=by rw[←h,List.getElem?_take,if_pos hi];simpa using hv
 refine⟨?_,(Aa C l i c v hc hv' _ _ _).2 rfl⟩
 obtain⟨x,_,hx⟩:=List.mem_flatMap.1 (List.mem_of_getElem? hv')
 exact C.one x v hx
theorem CE.holds(C:CE k d enc){l:List α}{cur:Array Value}(hn:l.length*k≤cur.size){E:Nat→Prop}{W:World}(h:∀(i:Nat) (c:DV) (v:Value),(bE (l.map d))[i]? =some c→cur[i]? =some v→RD W E c v):cur.toList.take (l.length*k)=l.flatMap enc:=by
 apply List.ext_getElem?
 intro i
 rw[List.getElem?_take]
 by_cases hi:i<l.length*k
 ·rw[if_pos hi]
  have h1:i<cur.size:=by omega
  have h2:i<(l.flatMap enc).length:=by rw[C.flat_len];exact hi
  have h3:i<(bE (l.map d)).length:=by rw[C.flatD_len];exact hi
  have:=(Aa C l i _ _ (List.getElem?_eq_getElem h3) (List.getElem?_eq_getElem h2) W E _).1 (h i _ _ (List.getElem?_eq_getElem h3) (Array.getElem?_eq_getElem h1))
  rw[List.getElem?_eq_getElem h2,←this]
  simp[h1]
 ·rw[if_neg hi,List.getElem?_eq_none (by rw[C.flat_len];omega)]
end
end Go.Eng
namespace Go.Proofs
open Go.Shelf
def Tryz.sortStr_ren:Go.Shelf.Ren:=⟨fun|6=>70|8=>126|9=>125|19=>179|20=>180|21=>170|22=>171|23=>172|24=>173|25=>174|26=>175|27=>176|28=>177|29=>178|36=>225|31=>226|32=>227|37=>228|38=>229|39=>133|41=>257|n=>n,fun|27=>30|29=>9|3=>3|32=>165|26=>30|0=>0|44=>142|46=>145|4=>4|36=>199|35=>198|41=>135|5=>5|9=>9|53=>227|57=>231|63=>251|64=>252|n=>n,fun|n=>n⟩
theorem Tryz.sortStr:Go.Proofs.SlLaysM.n6 Tryz.prog Tryz.sortStr_ren:={
 mixed:=by kernel_rfl,
 f6:=⟨Tryz.f70.name,by decide,Tryz.func70.trans (congrArg some (by kernel_rfl))⟩,
 f8:=Tryz.func126.trans (congrArg some (by kernel_rfl)),
 f9:=⟨Tryz.f125.name,by decide,Tryz.func125.trans (congrArg some (by kernel_rfl))⟩,
 f19:=Tryz.func179.trans (congrArg some (by kernel_rfl)),
 f20:=Tryz.func180.trans (congrArg some (by kernel_rfl)),
 f21:=⟨Tryz.f170.name,by decide,Tryz.func170.trans (congrArg some (by kernel_rfl))⟩,
 f22:=⟨Tryz.f171.name,by decide,Tryz.func171.trans (congrArg some (by kernel_rfl))⟩,
 f23:=⟨Tryz.f172.name,by decide,Tryz.func172.trans (congrArg some (by kernel_rfl))⟩,
 f24:=⟨Tryz.f173.name,by decide,Tryz.func173.trans (congrArg some (by kernel_rfl))⟩,
 f25:=⟨Tryz.f174.name,by decide,Tryz.func174.trans (congrArg some (by kernel_rfl))⟩,
 f26:=⟨Tryz.f175.name,by decide,Tryz.func175.trans (congrArg some (by kernel_rfl))⟩,
 f27:=⟨Tryz.f176.name,by decide,Tryz.func176.trans (congrArg some (by kernel_rfl))⟩,
 f28:=⟨Tryz.f177.name,by decide,Tryz.func177.trans (congrArg some (by kernel_rfl))⟩,
 f29:=⟨Tryz.f178.name,by decide,Tryz.func178.trans (congrArg some (by kernel_rfl))⟩,
 f31:=Tryz.func226.trans (congrArg some (by kernel_rfl)),
 f32:=Tryz.func227.trans (congrArg some (by kernel_rfl)),
 f36:=⟨Tryz.f225.name,by decide,Tryz.func225.trans (congrArg some (by kernel_rfl))⟩,
 f37:=⟨Tryz.f228.name,by decide,Tryz.func228.trans (congrArg some (by kernel_rfl))⟩,
 f38:=⟨Tryz.f229.name,by decide,Tryz.func229.trans (congrArg some (by kernel_rfl))⟩,
 f39:=⟨Tryz.f133.name,by decide,Tryz.func133.trans (congrArg some (by kernel_rfl))⟩,
 f41:=⟨Tryz.f257.name,by decide,Tryz.func257.trans (congrArg some (by kernel_rfl))⟩,
 t0:=Tryz.underlying0,
 a0:=Tryz.isAgg0,
 z0:=Tryz.sizeOf0,
 v0:=Tryz.zeroValue0,
 t3:=Tryz.underlying3,
 a3:=Tryz.isAgg3,
 z3:=Tryz.sizeOf3,
 v3:=Tryz.zeroValue3,
 t4:=Tryz.underlying4,
 a4:=Tryz.isAgg4,
 z4:=Tryz.sizeOf4,
 v4:=Tryz.zeroValue4,
 t5:=Tryz.underlying5,
 a5:=Tryz.isAgg5,
 z5:=Tryz.sizeOf5,
 v5:=Tryz.zeroValue5,
 t9:=Tryz.underlying9,
 a9:=Tryz.isAgg9,
 z9:=Tryz.sizeOf9,
 v9:=Tryz.zeroValue9,
 t26:=Tryz.underlying30,
 a26:=Tryz.isAgg30,
 z26:=Tryz.sizeOf30,
 v26:=Tryz.zeroValue30,
 t27:=Tryz.underlying30,
 a27:=Tryz.isAgg30,
 z27:=Tryz.sizeOf30,
 v27:=Tryz.zeroValue30,
 t29:=Tryz.underlying9,
 a29:=Tryz.isAgg9,
 z29:=Tryz.sizeOf9,
 v29:=Tryz.zeroValue9,
 t32:=Tryz.underlying165,
 a32:=Tryz.isAgg165,
 z32:=Tryz.sizeOf165,
 v32:=Tryz.zeroValue165,
 t35:=Tryz.underlying198,
 a35:=Tryz.isAgg198,
 z35:=Tryz.sizeOf198,
 v35:=Tryz.zeroValue198,
 t36:=Tryz.underlying199,
 a36:=Tryz.isAgg199,
 z36:=Tryz.sizeOf199,
 v36:=Tryz.zeroValue199,
 t41:=Tryz.underlying135,
 a41:=Tryz.isAgg135,
 z41:=Tryz.sizeOf135,
 v41:=Tryz.zeroValue135,
 t44:=Tryz.underlying142,
 a44:=Tryz.isAgg142,
 z44:=Tryz.sizeOf142,
 v44:=Tryz.zeroValue142,
 t46:=Tryz.underlying145,
 a46:=Tryz.isAgg145,
 z46:=Tryz.sizeOf145,
 v46:=Tryz.zeroValue145,
 t53:=Tryz.underlying227,
 a53:=Tryz.isAgg227,
 z53:=Tryz.sizeOf227,
 v53:=Tryz.zeroValue227,
 t57:=Tryz.underlying231,
 a57:=Tryz.isAgg231,
 z57:=Tryz.sizeOf231,
 v57:=Tryz.zeroValue231,
 t63:=Tryz.underlying251,
 a63:=Tryz.isAgg251,
 z63:=Tryz.sizeOf251,
 v63:=Tryz.zeroValue251,
 t64:=Tryz.underlying252,
 a64:=Tryz.isAgg252,
 z64:=Tryz.sizeOf252,
 v64:=Tryz.zeroValue252}
end Go.Proofs
namespace Go.Eng
open Go.Proofs Go.Sort Go.Shelf Go.RowKit
def PP(x:aN):Value:=.string ⟨x.toArray⟩
def mA(x:aN):List Value:=[PP x]
theorem vJ:CE 1 DV.str mA where
 pos:=by decide
 len:=fun _=>rfl
 lenD:=fun _=>rfl
 one:=fun x v hv=>by simp[mA]at hv;subst hv;rfl
 cell:=fun x i c v hc hv w E u=>by
  match i,hc,hv with
  |0,hc,hv=>simp[mA,aE]at hc hv;subst hc;subst hv;exact⟨fun h=>by cases h;rfl,fun h=>h▸ .str _⟩
def zM(l:List aN):List aN:=l.mergeSort fun x y=>decide (x≤y)
theorem Na(l:List aN):(zM l).length=l.length:=List.length_mergeSort _
theorem GV{cur:Array Value}{s:List aN}(h:s.length≤cur.size):putCells encStr 0 s.toArray cur=(cN 0 cur.toList (s.flatMap mA)).toArray:=by
 have hsf:(s.flatMap mA).length=s.length:=by have:=vJ.flat_len s;simpa using this
 apply Array.ext_getElem?
 intro i
 rw[show(cN 0 cur.toList (s.flatMap mA)).toArray[i]? =(cN 0 cur.toList (s.flatMap mA))[i]? from by simp,mR (by rw[Nat.zero_add,hsf];simpa using h)]
 simp only[putCells,Array.getElem?_mapIdx,Nat.not_lt_zero,if_false,Nat.zero_add,List.size_toArray,hsf,Nat.sub_zero,Nat.zero_le,true_and]
 by_cases hi:i<s.length
 ·have hic:i<cur.size:=by omega
  have hm:s.flatMap mA=s.map PP:=by
   clear h hsf hi
   induction s with
   |nil=>rfl
   |cons x t ih=>simp[mA,ih]
  simp only[hi,if_true,Array.getElem?_eq_getElem hic,Option.map_some]
  rw[hm]
  simp[hi,getElem!_def,encStr,PP]
 ·simp only[hi,if_false]
  rw[Array.getElem?_toList]
  cases cur[i]? <;>rfl
set_option maxRecDepth 100000 in
theorem KE(l:List aN)(hl:l.length≤8000000000000):qX Tryz.prog 70 [.ow 0 0 l.length] [(0,.row false 1 (l.map .str))] [(0,.row false 1 ((zM l).map .str))] (.tup []):=by
 refine⟨⟨_,Tryz.func70,by kernel_rfl,by rfl⟩,fun w X β vs m hvl hr=>?_⟩
 have hH:aK [(0,aW.row false 1 (l.map DV.str))] 0=.row false 1 (l.map .str):=by simp[aK,kW]
 have hfin:∀o,aK [(0,o)]=cY (aK [(0,aW.row false 1 (l.map DV.str))]) 0 o:=fun o=>by
  funext j;simp only[aK,kW,cY];split<;>rfl
 generalize hHd:aK [(0,aW.row false 1 (l.map DV.str))]=H at*
 match vs,hvl with
 |[v0],_=>
 have r0:=hr 0 _ _ rfl rfl
 rcases uR m hH r0 with⟨b,c,cur,e,rfl,hb,hkn,hn,hc,hblk,hroom,hcap⟩|⟨p,rfl,hz,_⟩
 ·have hob:=m.obj 0
  simp only[fH,hH]at hob
  obtain⟨hpos,hall,hob⟩:=hob
  rcases hob with⟨hnone,_⟩|⟨b',e',cur',hb',hblk2,hlen',hpo⟩
  ·rw[hnone]at hb;cases hb
  rw[hb]at hb';injection hb' with hb';subst hb'
  rw[hblk]at hblk2;injection hblk2 with hblk2;injection hblk2 with p1 p2;subst p1;subst p2
  rw[List.length_map]at hlen'
  have htk:=vJ.holds hlen' (fun i c v hc hv=>(hpo i c v hc hv).2)
  have hfl:(l.flatMap mA).length=l.length:=by have:=vJ.flat_len l;simpa using this
  have hmap:∀l:List aN,l.flatMap mA=l.map PP:=fun l=>by
   induction l with
   |nil=>rfl
   |cons x t ih=>simp[mA,ih]
  have hlb:=(Array.getElem?_eq_some_iff.1 hblk).1
  have hhold:Holds encStr w b 0 l.toArray:=by
   intro j hj
   simp only[List.size_toArray]at hj
   have hjc:j<cur.size:=by omega
   refine⟨?_,by simp[World.frozen?,hblk]⟩
   rw[cell_of_row w b _ cur e (0,0) hblk,Nat.zero_add,Array.getElem?_eq_getElem hjc]
   have h1:(cur.toList.take (l.length*1))[j]? =some cur[j]:=by rw[List.getElem?_take,if_pos (by omega)];simp[hjc]
   rw[htk,hmap]at h1
   simp[hj]at h1
   rw[←h1]
   simp[encStr,PP,hj]
  have hcon:=AnyM.slices_Sort_string Tryz.sortStr b 0 c l w hhold hlb (by omega)
  rw[show #[Value.slice (some ⟨b,0,none⟩) l.length c]=[Value.slice (some ⟨b,0*1,none⟩) l.length c].toArray from rfl]at hcon
  refine hcon.mono ?_
  rintro ee w' ⟨rfl,n,os,rfl⟩
  have hsl:=Na l
  change ∃v β',_∧fY _ X _ β' (grow (putRow encStr (Sort.ahead w n) b 0 (zM l).toArray) os)∧R (grow (putRow encStr (Sort.ahead w n) b 0 (zM l).toArray) os) _ _ _ _ v
  generalize zM l=s at*
  have hsf:(s.flatMap mA).length=s.length:=by have:=vJ.flat_len s;simpa using this
  have hput:(putRow encStr (Sort.ahead w n) b 0 s.toArray).heap[b]? =some (.cells (cN 0 cur.toList (s.flatMap mA)).toArray e (0,0)):=by
   rw[←GV (by omega)]
   unfold putRow mapBlock
   simp only[heap_ahead,Array.getElem?_modify,if_pos,hblk,Option.map_some]
   rfl
  have hother:∀j,j≠b→(putRow encStr (Sort.ahead w n) b 0 s.toArray).heap[j]? =w.heap[j]? :=fun j hj=>by
   unfold putRow mapBlock
   simp only[heap_ahead,Array.getElem?_modify,Ne.symm hj,if_false]
  have hsize:(putRow encStr (Sort.ahead w n) b 0 s.toArray).heap.size=w.heap.size:=by simp
  have hcl:cur.toList.length=cur.size:=by simp
  have hpl:(cN 0 cur.toList (s.flatMap mA)).toArray.size=cur.size:=by rw[List.size_toArray,kZ (by rw[Nat.zero_add,hsf,hcl];omega)];exact hcl
  have hstk:(cN 0 cur.toList (s.flatMap mA)).toArray.toList.take (s.length*1)=s.flatMap mA:=by
   unfold cN
   simp[hsf]
  obtain⟨m1,g1⟩:=m.rewriteG (id:=0) (b:=b) (o':=.row false 1 (s.map .str)) (w':=putRow encStr (Sort.ahead w n) b 0 s.toArray) (by rw[hH];rfl) hb rfl rfl rfl (Nat.le_add_right _ _) hsize hother (by
   unfold cD
   rw[hH,aJ]
   refine .inr ⟨⟨false,s.map .str,rfl,by simp[hsl]⟩,rfl,fun b' c' t hbb hblk'=>?_⟩
   rw[hb]at hbb;injection hbb with hbb;subst hbb
   rw[hblk]at hblk';injection hblk' with hblk';injection hblk' with q1 q2;subst q1;subst q2
   exact⟨_,e,hput,hpl⟩) (fun _ _=>by
   unfold fH
   rw[aJ]
   obtain⟨z1,z2⟩:=vJ.reads hstk
   exact⟨hpos,vJ.all s,.inr ⟨b,e,_,hb,hput,by simpa using z1,z2 _ _⟩⟩)
  obtain⟨m2,g2⟩:=m1.grow (w':=grow (putRow encStr (Sort.ahead w n) b 0 s.toArray) os) ⟨rfl,rfl,rfl,by simp,fun j hj=>heap_grow_old _ _ hj,Nat.le_refl _⟩
  refine⟨_,β,rfl,?_,.tup [] [] rfl (by simp)⟩
  rw[hfin]
  exact m2
 ·have hl0:l=[]:=List.eq_nil_of_length_eq_zero hz
  subst hl0
  refine(AnyM.slices_Sort_string_none Tryz.sortStr p 0 w).mono ?_
  rintro e w' ⟨rfl,rfl⟩
  refine⟨_,β,rfl,?_,.tup [] [] rfl (by simp)⟩
  rw[hfin,show zM []=[] from by simp[zM],zN hH]
  exact m
theorem GW(l:List aN):(zM l).Pairwise fun x y=>x≤y:=by
 have:=List.pairwise_mergeSort (le:=fun x y:aN=>decide (x≤y)) (fun a b c h1 h2=>by simp at*;exact List.le_trans h1 h2) (fun a b=>by simp;exact List.le_total a b) l
 exact this.imp fun h=>by simpa using h
end Go.Eng
namespace Go.Eng
open Go.Proofs
attribute[local simp] nP lH gR bA oC gK gS pE cY bD pL.plain pL.cond pL.fail dU mN tQ nO gC kQ kW lR memless nD eV jD uG EJ gQ fJ strip pD eD mC bW
 qY fZ iR gT iQ pU lk cH dX bQ cA bY oL fE pY iU jF bS eW bN dM gM fL fM eI fN gX gY gZ fO eJ fP eL fQ hU hZ iC iD fR iG oY oJ mkAgg tP BO jN bB gN aW.live TK.isNone TK.agg TK.isBool TK.isStr TK.isStruct Op.operands Call.operands
 bF cV cO dF eP oK lN cN dN iO fA kY aQ frozen lS
 jT jU lU gV jW jX jY kD lV gW kF kG kH kJ sE mM oO oP oS oT oV kK jR gU fK Nm.d Df.d Ed.d yV yW mK yX jS sL sM dK dL
 yY yZ sF zA zB sG sH sI oW zC zD sJ
 bZ aZ dP mB dQ bT cI bP eZ uJ TK.isInt jV kE oQ iB gP dO eX eY gE fD gB mO sZ nU yU sD
 nS kX mX nR cS eF dY lJ jG jH iV tF iH dJ iI iJ cH kA kC oN iW iK kL iE iF fT
 cP gO TK.isPtr eR cE kM qB qO jZ kI oU hO iA fS
attribute[local simp] eM kN iL
section
attribute[local simp] pL.cond Nd.d_eq nd_t nd_dr nd_td ndsD bG nQ
theorem KF(l:List Int):List.take (if(20:Int)<(l.length:Int)then 20 else(l.length:Int)).toNat (l.map aD)=(l.take 20).map aD:=by
 rw[←List.map_take]
 congr 1
 split
 ·rfl
 ·rw[show((l.length:Int)).toNat=l.length from rfl,List.take_length,List.take_of_length_le (by omega)]
def oI(i:Nat):List aN:=cF::jJ::(cZ.take i).filter (·≠[])
theorem Bc:oI 0=[cF,jJ]:=rfl
theorem GX{i:Nat}(hi:i<26){w:aN}(hw:cZ[i]'hi=w):oI (i+1)=if w=[]then oI i else oI i++[w]:=by
 unfold oI
 rw[List.take_succ_eq_append_getElem (by exact hi),hw,List.filter_append]
 split
 ·rename_i h;subst h;simp
 ·rename_i h;simp[h]
theorem CF(i:Nat):(oI i).length≤28:=by
 unfold oI
 have:=List.length_filter_le (fun s:aN=>decide (s≠[])) (cZ.take i)
 have h2:(cZ.take i).length≤26:=by rw[List.length_take,Bk];omega
 simp only[List.length_cons]
 omega
set_option maxRecDepth 100000 in
theorem EB:(oI 26).Perm jQ:=by decide
set_option maxRecDepth 100000 in
theorem KG:jQ.Pairwise fun x y=>x≤y:=by decide
theorem GY:zM (oI 26)=jQ:=
 List.Perm.eq_of_pairwise (le:=fun x y:aN=>x≤y) (fun a b _ _ h1 h2=>List.le_antisymm h1 h2) (GW _) KG ((List.mergeSort_perm _ _).trans EB)
theorem PQ:Ok Tryz.prog 24 [] ⟨.own 1 (jQ.map .str),true⟩:=by
 refine Ok.ret Tryz.func24 (by kernel_rfl) (c:=_) rfl Tryz.ntmps24 (by simp) Tryz.results24 (by intro _ h;cases h) fun w0 X hp=>?_
 refine aA ?_
 simp
 refine aA ?_
 simp
 refine⟨by decide,?_⟩
 refine pS.seq ?_
 refine aA ?_
 simp[vY]
 refine⟨by decide,?_⟩
 refine pS.block ?_
 refine bX (ι:=Nat) (fun i=>aY [(1,.ow 4 0 (oI i).length),(5,.d (.agg (cZ.map DV.str))),(6,.d (aD (i:Nat)))]) (fun i=>aK [(4,.row false 1 ((oI i).map .str))]) (fun i=>i≤26) (fun i=>26-i) 0 (aB [1,5,6] [(4,4)] (by decide) (by decide) (by simp[hp]) (by simp[Bc]) (by simp[Bc,cF,jJ])) (Nat.zero_le _) fun i hi3=>?_
 refine aA ?_
 simp
 refine pS.seq ?_
 refine aC ?_
 simp
 refine⟨fun h3=>?_,fun h3=>?_⟩
 ·refine pS.skip ?_
  simp
  refine pS.seq ?_
  refine pS.block ?_
  refine pS.seq ?_
  have hi:i<26:=by omega
  obtain⟨w,hw⟩:∃w,cZ[i]'hi=w:=⟨_,rfl⟩
  have hn:=GX hi hw
  have hl:=CF i
  have h26:=Bk
  have hwl:cZ[i]? =some w:=by rw[←hw];exact List.getElem?_eq_getElem hi
  refine aL ?_
  simp[hwl]
  refine⟨by omega,?_⟩
  refine aA ?_
  simp
  refine aC ?_
  simp
  refine⟨fun h5=>?_,fun h5=>?_⟩
  ·simp only[if_neg h5]at hn
   refine aL ?_
   simp
   refine⟨by omega,?_⟩
   refine aL ?_
   simp
   refine⟨by omega,?_⟩
   refine KN.mk (i+1) (aB [1,5,6] [(14,4)] (by decide) (by decide) (by simp[hp]) (by simp[hn]) (by simp[hn])) ?_ ?_
   ·omega
   ·omega
  ·have h5':w=[]:=by simpa using h5
   simp only[if_pos h5']at hn
   refine pS.skip ?_
   simp
   refine aL ?_
   simp
   refine⟨by omega,?_⟩
   refine KN.mk (i+1) (aB [1,5,6] [(4,4)] (by decide) (by decide) (by simp[hp]) (by simp[hn]) (by simp[hn])) ?_ ?_
   ·omega
   ·omega
 ·refine pS.exit ?_
  simp
  refine pS.seq ?_
  have hi26:i=26:=by omega
  subst hi26
  have hl:=CF 26
  refine pS.ro hT hW (fun|17=>some (.gen ⟨[(4,0)],[],[],[(0,.row false 1 ((zM (oI 26)).map .str))],.tup []⟩)|_=>none) ?_
  simp
  refine⟨by simpa using KE (oI 26) (by omega),?_⟩
  refine aA ?_
  simp
  refine pS.ret ?_
  simp[GY,EB.length_eq]
theorem Nb(l:List Int)(hl:Kl l):Ok Tryz.prog 23 [.sl (l.map aD)] ⟨.d (.str (rF l)),true⟩:=by
 refine Ok.ret Tryz.func23 (by kernel_rfl) (c:=_) rfl Tryz.ntmps23 (by simp) Tryz.results23 (by intro _ h;cases h) fun w0 X hp=>?_
 obtain⟨L,hLl⟩:∃L,L=l.take 20:=⟨_,rfl⟩
 have hL:Kl L:=fun n hn=>hl n (by rw[hLl]at hn;exact List.mem_of_mem_take hn)
 have hll:L.length≤20:=by rw[hLl,List.length_take];omega
 have hv:rF l=exprT (aF L 3 0).1:=by rw[hLl];rfl
 refine aA ?_
 simp
 refine aA ?_
 simp[KF,←hLl]
 refine⟨by split<;>omega,?_⟩
 refine pS.seq ?_
 have k1:=sY L hL (by omega) 3 0 (by decide)
 have kw:=xO L 3 0
 have k2:=OK (aF L 3 0).1 (qI L 3 0).1 (qI L 3 0).2 (by omega)
 refine pS.ro hT hW (fun|12=>some (.gen ⟨[(10,0)],[],[],nQ L (aF L 3 0).2,.d (aF L 3 0).1.d⟩)|13=>some<| .plain ⟨.d (.str (exprT (aF L 3 0).1)),true⟩|_=>none) ?_
 simp
 refine⟨⟨by simpa using k1,by simpa using k2⟩,?_⟩
 refine pS.ret ?_
 simp[hv]
theorem GZ(a b:List aN):Ok Tryz.prog 25 [mK a,mK b] ⟨.d (.bool (decide (a=b))),true⟩:=by
 refine Ok.ret Tryz.func25 (by kernel_rfl) (c:=_) rfl Tryz.ntmps25 (by simp) Tryz.results25 (by intro _ h;cases h) fun w0 X hp=>?_
 refine pS.len (t:=0) rfl fun hlen=>?_
 simp at hlen
 refine aA ?_
 simp
 refine pS.seq ?_
 refine aA ?_
 simp
 refine aC ?_
 simp
 refine⟨fun h1=>?_,fun h1=>?_⟩
 ·refine aA ?_
  simp
  refine pS.ret ?_
  simp
  exact fun e=>h1 (by rw[e])
 ·refine pS.skip ?_
  simp
  refine pS.seq ?_
  refine aA ?_
  simp
  refine pS.block ?_
  refine bX (ι:=Nat) (fun i=>aY [(0,.d (mK a)),(1,.d (mK b)),(5,.d (aD i))]) (fun i=>aK []) (fun i=>i≤a.length∧a.take i=b.take i) (fun i=>a.length-i) 0 (aB [0,1,5] [] (by decide) (by decide) (by simp[hp]) (by simp) (by simp)) (by simp) fun i hi4=>?_
  refine pS.seq ?_
  refine aA ?_
  simp
  refine aC ?_
  simp
  refine⟨fun h4=>?_,fun h4=>?_⟩
  ·refine pS.skip ?_
   simp
   refine pS.seq ?_
   refine pS.block ?_
   refine pS.seq ?_
   refine aI hT hW bU (lk [[],[],[0,1],[0,1,2],[],[],[4,5],[4,5,6],[0,1,2,3,4,5,6,7]]) (lk [[],[],[],[],[],[],[],[],[]]) (lk [[],[],[],[],[],[],[],[],[]]) (by kernel_rfl) (fun _=>none) (fun _=>⟨rfl,fun _ h=>h⟩) ?_
   simp[h4,show i<b.length by omega]
   refine aC ?_
   simp
   refine⟨fun h6=>?_,fun h6=>?_⟩
   ·refine aA ?_
    simp
    refine pS.ret ?_
    simp
    intro e
    subst e
    simp at h6
   ·refine pS.skip ?_
    simp
    refine aL ?_
    simp
    refine⟨by omega,?_⟩
    refine KN.mk (i+1) (aB [0,1,5] [] (by decide) (by decide) (by simp[hp]) (by simp) (by simp)) ?_ ?_
    ·exact⟨h4,Gt hi4.2 h4 (by omega) (by simpa using h6)⟩
    ·omega
  ·refine pS.exit ?_
   simp
   refine aA ?_
   simp
   refine pS.ret ?_
   simp
   have e:i=a.length:=by omega
   have:=hi4.2
   rw[e,List.take_length]at this
   have h1':a.length=b.length:=by omega
   rw[this,h1',List.take_length]
end
end Go.Eng
