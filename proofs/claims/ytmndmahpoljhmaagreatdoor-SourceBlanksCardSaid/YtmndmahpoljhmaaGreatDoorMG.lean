/-
  Texts of the proofs of this seat, part 7. No condition.
-/
import Derived.Test.YtmndmahpoljhmaaGreatDoorMF
set_option linter.unusedVariables false
set_option linter.unusedSimpArgs false
namespace Go.Eng
open Go.Proofs
attribute[local simp] nP lH gR bA oC gK gS pE cY bD pL.plain pL.cond pL.fail dU mN tQ nO gC kQ kW lR memless nD eV jD uG EJ gQ fJ strip pD eD mC bW
 qY fZ iR gT iQ pU lk cH dX bQ cA bY oL fE pY iU jF bS eW bN dM gM fL fM eI fN gX gY gZ fO eJ fP eL fQ hU hZ iC iD fR iG oY oJ mkAgg tP BO jN bB gN aW.live TK.isNone TK.agg TK.isBool TK.isStr TK.isStruct Op.operands Call.operands
 bF cV cO dF eP oK lN cN dN iO fA kY aQ frozen lS
 jT jU lU gV jW jX jY kD lV gW kF kG kH kJ sE mM oO oP oS oT oV kK jR gU fK Nm.d Df.d Ed.d yV yW mK yX jS sL sM dK dL
 yY yZ sF zA zB sG sH sI oW zC zD sJ
 bZ aZ dP mB dQ bT cI bP eZ uJ TK.isInt jV kE oQ iB gP dO eX eY gE fD gB mO sZ nU yU sD
 nS kX mX nR cS eF dY lJ jG jH iV tF iH dJ iI iJ cH kA kC oN iW iK kL iE iF fT
 cP gO TK.isPtr eR cE kM qB qO jZ kI oU hO iA fS
attribute[local simp] eM kN iL
section
attribute[local simp] pL.cond Nd.d_eq nd_t nd_dr nd_td ndsD bG eT qZ eU eB
theorem yQ{c:Prop}[Decidable c]{f:Nat→aW}{A:aW}{x:Nat}(h:f 0=A):bD f (if c then [(0,A)]else []) x=f x:=by
 by_cases hc:c
 ·rw[if_pos hc]
  subst h
  simp only[bD,cY]
  split
  ·rename_i e;rw[e]
  ·rfl
 ·rw[if_neg hc];rfl
def JZ(n:Nat)(x:PS→Nd×PS):Prop:=∀q:PS,q.l.length<n→bH q.l→q.e=0→(x q).2.e≠0∨(x q).2.l.length<q.l.length
structure Tc where
 f:Nat
 ks:List Nd
 q:PS
theorem FI{st:PS→Nd×PS}{ks:List Nd}{q:PS}(h:q.e=0→q.peek=[125]):∀f,eE st f ks q=(ks,q)
 |0=>rfl
 |f+1=>by
  rw[eE,if_pos]
  by_cases e:q.e=0
  ·exact .inr (h e)
  ·exact .inl e
theorem In{st:PS→Nd×PS}{ks:List Nd}{q:PS}{f:Nat}(hf:q.l.length<f)(h:q.e=0)(hp:¬q.peek=[125]):eE st f ks q=eE st (f-1) (ks++[(st q).1]) (st q).2:=by
 obtain⟨k,rfl⟩:∃k,f=k+1:=⟨f-1,by omega⟩
 rw[eE,if_neg]
 ·rfl
 ·rintro(e|e)
  ·exact e h
  ·exact hp e
theorem Io(p:PS)(n:Nat)(st:PS→Nd×PS)(hS:rC n 162 st)(hE:JZ n st)(hn:p.l.length<n)(hg:bH p.l)(hb:p.l.length≤1100000):qX Tryz.prog 116 [.bx 0 0] (eU p) (eU (fU st p).2) (.d (fU st p).1.d):=by
 unfold eU
 refine qX.cell hT Tryz.func116 (by kernel_rfl) (c:=_) rfl Tryz.ntmps116 (by simp) Tryz.results116 fun w0 X hp=>?_
 refine aA ?_
 simp
 refine aA ?_
 simp
 refine pX (fz:=false) (cs:=[.d (aD 8),.d (.str []),.d (aD 0),.nl]) 3 3 1022 4 (by decide) ⟨by simp,by simp,by simp,?_⟩
 simp
 refine pS.seq ?_
 have hn2:=pN p [123]
 have gl:=cM (s:=[123]) hg
 refine pS.ro hT hW (fun|6=>some (.gen ⟨[(0,0)],[],[],eU (p.need [123]),.tup []⟩)|_=>none) ?_
 simp
 refine⟨hn2,?_⟩
 refine pS.seq ?_
 refine pS.block ?_
 refine bX (ι:=Tc) (fun⟨f,ks,q⟩=>aY [(0,.bx 0 0),(2,.bx 2 0),(3,.bx 3 0)]) (fun⟨f,ks,q⟩=>aK [(0,.box false [.d (qZ q.l),.d (aD q.e)]),(2,.box false [.d (aD 0),.d (.str []),.d (aD 0),.nl]),(3,.box false [.d (aD 8),.d (.str []),.d (aD 0),.ow 1022 0 ks.length]),(1022,.row false 4 (ks.map Nd.d))]) (fun⟨f,ks,q⟩=>(q.e=0→q.l.length<f)∧bH q.l∧q.l.length≤p.l.length∧ks.length+q.l.length≤p.l.length+(if q.e=0 then 0 else 1)∧eE st ((p.need [123]).l.length+1) [] (p.need [123])=eE st f ks q) (fun⟨f,ks,q⟩=>2*q.l.length+(if q.e=0 then 1 else 0)) ⟨(p.need [123]).l.length+1,[],p.need [123]⟩ (aB [0,2,3] [(0,0),(2,2),(3,3),(1022,1022)] (by decide) (by decide) (by simp[hp]) (by simp) (by simp)) (⟨fun _=>Nat.lt_succ_self _,gl.2,gl.1,by have:=gl.1;simp only[List.length_nil];omega,rfl⟩) fun⟨f,ks,q⟩ hi3=>?_
 refine pS.seq ?_
 refine pS.seq ?_
 have hpk:=qU q
 refine pS.ro hT hW (fun|14=>some (.gen ⟨[(0,0)],[],[],eU q,.d (.str q.peek)⟩)|_=>none) ?_
 simp[yQ]
 refine⟨fun _=>hpk,?_⟩
 refine aC ?_
 simp
 refine⟨fun g1 g2=>?_,fun g=>?_⟩
 ·refine pS.skip ?_
  simp
  refine pS.block ?_
  have ha:q.l.length≤p.l.length:=hi3.2.2.1
  have hk:ks.length+q.l.length≤p.l.length:=by have z:=hi3.2.2.2.1;simp only[g1,if_true]at z;omega
  have hs:=hS.ok q (by omega) hi3.2.1
  have hle:=hS.le q (by omega) hi3.2.1
  have heat:=hE q (by omega) hi3.2.1 g1
  refine aI hT hW bU (lk [[],[0],[],[2],[2,3],[0,1,2,3,4],[0,1,2,3,4,5],[0,1,2,3,4,5,6]]) (lk [[0,21],[0,21],[],[],[],[],[],[]]) (lk [[],[],[],[0],[21],[22,1022],[],[3]]) (by kernel_rfl) (fun|20=>some (.gen ⟨[(0,0)],[],[],eU (st q).2,.d (st q).1.d⟩)|_=>none) (by intro d;first|exact⟨rfl,fun _ h=>h⟩|(split<;>exact⟨rfl,fun _ h=>h⟩)) ?_
  simp
  refine⟨⟨by simpa using hs,by omega,by omega⟩,?_⟩
  refine KN.mk ⟨f-1,ks++[(st q).1],(st q).2⟩ (aB [0,2,3] [(0,0),(2,2),(3,3),(22,1022)] (by decide) (by decide) (by simp[hp]) (by simp) (by simp)) ?_ ?_
  ·refine⟨fun e=>?_,hle.2,?_,?_,?_⟩
   ·show(st q).2.l.length<f-1
    have z:=hi3.1 g1
    rcases heat with h|h
    ·exact absurd e h
    ·omega
   ·show(st q).2.l.length≤p.l.length
    omega
   ·show(ks++[(st q).1]).length+(st q).2.l.length≤p.l.length+(if(st q).2.e=0 then 0 else 1)
    rw[List.length_append,List.length_singleton]
    by_cases e:(st q).2.e=0
    ·rw[if_pos e]
     rcases heat with h|h
     ·exact absurd e h
     ·omega
    ·rw[if_neg e];omega
   ·rw[hi3.2.2.2.2];exact In (hi3.1 g1) g1 g2
  ·show 2*(st q).2.l.length+(if(st q).2.e=0 then 1 else 0)<2*q.l.length+(if q.e=0 then 1 else 0)
   rw[if_pos g1]
   by_cases e:(st q).2.e=0
   ·rw[if_pos e]
    rcases heat with h|h
    ·exact absurd e h
    ·omega
   ·rw[if_neg e];omega
 ·refine pS.exit ?_
  simp
  refine pS.seq ?_
  have hn5:=pN q [125]
  refine pS.ro hT hW (fun|25=>some (.gen ⟨[(0,0)],[],[],eU (q.need [125]),.tup []⟩)|_=>none) ?_
  simp
  refine⟨hn5,?_⟩
  refine aA ?_
  simp
  refine pS.ret ?_
  simp
  have e:fU st p=(.mk 8 [] 0 ks,q.need [125]):=by unfold fU;simp only[];rw[hi3.2.2.2.2,FI g]
  refine aS (x:=(fU st p).1.d) (by simp[e]) ?_
  simp
  exact aB [0] [(0,0)] (by decide) (by decide) (by simp[hp]) (by simp) (by simp[e])
end
open Go.Proofs
section
attribute[local simp] pL.cond Nd.d_eq nd_t nd_dr nd_td ndsD bG eT qZ eU eB
def cmdA(k:Int)(p:PS):aN×PS:=if k=19∨k=20 then aU p else if k=21∨k=25∨k=24 then([],p)else aM p
theorem vE{k:Int}{p:PS}(h:bH p.l):(cmdA k p).2.l.length≤p.l.length∧bH (cmdA k p).2.l:=by
 unfold cmdA
 split
 ·exact⟨(gI h).1,(gI h).2.1⟩
 ·split
  ·exact⟨Nat.le_refl _,h⟩
  ·exact⟨(eO h).1,(eO h).2.1⟩
theorem Ek{ex:PS→Nd×PS}{k:Int}{p:PS}(h:k=15∨k=22∨k=24):mE ex k p=(.mk k (cmdA k p).1 0 [(ex (cmdA k p).2).1],(ex (cmdA k p).2).2):=by
 unfold mE;simp only[];rw[if_pos h];rfl
theorem CU{ex:PS→Nd×PS}{k:Int}{p:PS}(h0:¬(k=15∨k=22∨k=24))(h:k=16∨k=23):mE ex k p=(.mk k (cmdA k p).1 0 [.mk 33 (aU (cmdA k p).2).1 0 []],(aU (cmdA k p).2).2):=by
 unfold mE;simp only[];rw[if_neg h0,if_pos h];rfl
theorem yR{ex:PS→Nd×PS}{k:Int}{p:PS}(h0:¬(k=15∨k=22∨k=24))(h1:¬(k=16∨k=23))(h:k=19∨k=21∨k=25):mE ex k p=(.mk k (cmdA k p).1 (aP k (cmdA k p).2).1 [],(aP k (cmdA k p).2).2):=by
 unfold mE;simp only[];rw[if_neg h0,if_neg h1,if_pos h];rfl
theorem vF{ex:PS→Nd×PS}{k:Int}{p:PS}(h0:¬(k=15∨k=22∨k=24))(h1:¬(k=16∨k=23))(h:¬(k=19∨k=21∨k=25)):mE ex k p=(.mk k (cmdA k p).1 0 [],(cmdA k p).2):=by
 unfold mE;simp only[];rw[if_neg h0,if_neg h1,if_neg h];rfl
def SF(p:PS)(x:Nd):List (Nat×aW):=[(0,.box false [.d (qZ p.l),.d (aD p.e)]),(1,.box false [.d (aD x.kind),.d (.str x.text),.d (aD x.n),.d (ndsD x.kids)])]
structure Wq where
 s:aN
 q:PS
theorem Ka(p:PS)(n:Nat)(ex:PS→Nd×PS)(k:Int)(hk:0≤k∧k<37)(hE:rC n 208 ex)(hn:p.l.length<n)(hg:bH p.l):qX Tryz.prog 209 [.bx 0 0,.bx 1 0] [(0,.box false [.d (qZ p.l),.d (aD p.e)]),(1,.box false [.d (aD k),.d (.str []),.d (aD 0),.nl])] (SF (mE ex k p).2 (mE ex k p).1) (.tup []):=by
 unfold SF
 refine Au Tryz.func209 (by kernel_rfl) (c:=_) rfl Tryz.ntmps209 (by simp) Tryz.results209 fun w0 X hp=>?_
 refine aT (ι:=Wq) (fun⟨s,q⟩=>aY [(0,.bx 0 0),(1,.bx 1 0)]) (fun⟨s,q⟩=>aK [(0,.box false [.d (qZ q.l),.d (aD q.e)]),(1,.box false [.d (aD k),.d (.str s),.d (aD 0),.nl])]) (fun⟨s,q⟩=>cmdA k p=(s,q)) ?_ fun⟨s,q⟩ hc8=>?_
 ·refine aA ?_
  simp
  refine pS.block ?_
  refine aT (ι:=BC) (fun⟨b⟩=>aY [(0,.bx 0 0),(1,.bx 1 0),(7,.d (aD k)),(13,.d (.bool b))]) (fun⟨b⟩=>aK [(0,.box false [.d (qZ p.l),.d (aD p.e)]),(1,.box false [.d (aD k),.d (.str []),.d (aD 0),.nl])]) (fun⟨b⟩=>b=true↔(k=19∨k=20)) ?_ fun⟨b⟩ hc4=>?_
  ·refine aA ?_
   simp
   refine aC ?_
   simp
   refine⟨fun h2=>?_,fun h2=>?_⟩
   ·refine pS.skip ?_
    simp
    refine Qo.mk ⟨decide (k=19)⟩ (aB [0,1,7,13] [(0,0),(1,1)] (by decide) (by decide) (by simp[hp]) (by simp) (by simp)) ?_
    simp[h2]
   ·refine aL ?_
    simp
    refine Qo.mk ⟨decide (k=20)⟩ (aB [0,1,7,13] [(0,0),(1,1)] (by decide) (by decide) (by simp[hp]) (by simp) (by simp)) ?_
    simp only[decide_eq_true_eq];omega
  ·refine aC ?_
   simp
   refine⟨fun h4=>?_,fun h4=>?_⟩
   ·have q4:=hc4.1 h4
    have hlo:=AM p hg
    refine pS.ro hT hW (fun|18=>some (.gen ⟨[(0,0)],[],[],eU (aU p).2,.d (.str (aU p).1)⟩)|_=>none) ?_
    simp
    refine⟨hlo,?_⟩
    refine Qo.mk ⟨(aU p).1,(aU p).2⟩ (aB [0,1] [(0,0),(1,1)] (by decide) (by decide) (by simp[hp]) (by simp) (by simp)) ?_
    unfold cmdA;rw[if_pos q4]
   ·have q4:¬(k=19∨k=20):=fun q=>by simp[hc4.2 q]at h4
    refine aT (ι:=BC) (fun⟨b⟩=>aY [(0,.bx 0 0),(1,.bx 1 0),(7,.d (aD k)),(21,.d (.bool b))]) (fun⟨b⟩=>aK [(0,.box false [.d (qZ p.l),.d (aD p.e)]),(1,.box false [.d (aD k),.d (.str []),.d (aD 0),.nl])]) (fun⟨b⟩=>b=true↔(k=21∨k=25∨k=24)) ?_ fun⟨b⟩ hc1=>?_
    ·refine aA ?_
     simp
     refine aC ?_
     simp
     refine⟨fun h5=>?_,fun h5=>?_⟩
     ·refine pS.skip ?_
      simp
      refine Qo.mk ⟨decide (k=21)⟩ (aB [0,1,7,21] [(0,0),(1,1)] (by decide) (by decide) (by simp[hp]) (by simp) (by simp)) ?_
      simp[h5]
     ·refine aA ?_
      simp
      refine aC ?_
      simp
      refine⟨fun h6=>?_,fun h6=>?_⟩
      ·refine pS.skip ?_
       simp
       refine Qo.mk ⟨decide (k=25)⟩ (aB [0,1,7,21] [(0,0),(1,1)] (by decide) (by decide) (by simp[hp]) (by simp) (by simp)) ?_
       simp[h6]
      ·refine aL ?_
       simp
       refine Qo.mk ⟨decide (k=24)⟩ (aB [0,1,7,21] [(0,0),(1,1)] (by decide) (by decide) (by simp[hp]) (by simp) (by simp)) ?_
       simp only[decide_eq_true_eq];omega
    ·refine aC ?_
     simp
     refine⟨fun h1=>?_,fun h1=>?_⟩
     ·have q1:=hc1.1 h1
      refine pS.skip ?_
      simp
      refine Qo.mk ⟨[],p⟩ (aB [0,1] [(0,0),(1,1)] (by decide) (by decide) (by simp[hp]) (by simp) (by simp)) ?_
      unfold cmdA;rw[if_neg q4,if_pos q1]
     ·have q1:¬(k=21∨k=25∨k=24):=fun q=>by simp[hc1.2 q]at h1
      have hna:=AL p
      refine pS.ro hT hW (fun|10=>some (.gen ⟨[(0,0)],[],[],eU (aM p).2,.d (.str (aM p).1)⟩)|_=>none) ?_
      simp
      refine⟨hna,?_⟩
      refine Qo.mk ⟨(aM p).1,(aM p).2⟩ (aB [0,1] [(0,0),(1,1)] (by decide) (by decide) (by simp[hp]) (by simp) (by simp)) ?_
      unfold cmdA;rw[if_neg q4,if_neg q1]
 ·refine aA ?_
  simp
  refine pS.block ?_
  refine aT (ι:=BC) (fun⟨b⟩=>aY [(0,.bx 0 0),(1,.bx 1 0),(28,.d (aD k)),(29,.d (.bool b))]) (fun⟨b⟩=>aK [(0,.box false [.d (qZ q.l),.d (aD q.e)]),(1,.box false [.d (aD k),.d (.str s),.d (aD 0),.nl])]) (fun⟨b⟩=>b=true↔(k=15∨k=22∨k=24)) ?_ fun⟨b⟩ hc12=>?_
  ·refine aA ?_
   simp
   refine aC ?_
   simp
   refine⟨fun h9=>?_,fun h9=>?_⟩
   ·refine pS.skip ?_
    simp
    refine Qo.mk ⟨decide (k=15)⟩ (aB [0,1,28,29] [(0,0),(1,1)] (by decide) (by decide) (by simp[hp]) (by simp) (by simp)) ?_
    simp[h9]
   ·refine aA ?_
    simp
    refine aC ?_
    simp
    refine⟨fun h10=>?_,fun h10=>?_⟩
    ·refine pS.skip ?_
     simp
     refine Qo.mk ⟨decide (k=22)⟩ (aB [0,1,28,29] [(0,0),(1,1)] (by decide) (by decide) (by simp[hp]) (by simp) (by simp)) ?_
     simp[h10]
    ·refine aL ?_
     simp
     refine Qo.mk ⟨decide (k=24)⟩ (aB [0,1,28,29] [(0,0),(1,1)] (by decide) (by decide) (by simp[hp]) (by simp) (by simp)) ?_
     simp only[decide_eq_true_eq];omega
  ·refine aC ?_
   simp
   refine⟨fun h12=>?_,fun h12=>?_⟩
   ·have q12:=hc12.1 h12
    have ga:=vE (k:=k) hg
    rw[hc8]at ga
    have hx:=hE.ok q (by have:=ga.1;simp only at this;omega) ga.2
    refine pS.ro hT hW (fun|35=>some (.gen ⟨[(0,0)],[],[],eU (ex q).2,.d (ex q).1.d⟩)|_=>none) ?_
    simp
    refine⟨by simpa using hx,?_⟩
    have e:=Ek (ex:=ex) (p:=p) q12
    rw[hc8]at e
    refine oM.trans (bI 1 [36] (fz:=false) (cs:=[.d (aD k),.d (.str s),.d (aD 0),.ow 36 0 1]) (ds:=[aD k,.str s,aD 0,.sl [(ex q).1.d]]) (by simp) (by simp) (by simp) (by simp[aW.mut])) ?_
    simp
    exact aB [] [(0,0),(1,1)] (by decide) (by decide) (by simp[hp]) (by simp) (by simp[e])
   ·have q12:¬(k=15∨k=22∨k=24):=fun q=>by simp[hc12.2 q]at h12
    refine aT (ι:=BC) (fun⟨b⟩=>aY [(0,.bx 0 0),(1,.bx 1 0),(28,.d (aD k)),(39,.d (.bool b))]) (fun⟨b⟩=>aK [(0,.box false [.d (qZ q.l),.d (aD q.e)]),(1,.box false [.d (aD k),.d (.str s),.d (aD 0),.nl])]) (fun⟨b⟩=>b=true↔(k=16∨k=23)) ?_ fun⟨b⟩ hc15=>?_
    ·refine aA ?_
     simp
     refine aC ?_
     simp
     refine⟨fun h13=>?_,fun h13=>?_⟩
     ·refine pS.skip ?_
      simp
      refine Qo.mk ⟨decide (k=16)⟩ (aB [0,1,28,39] [(0,0),(1,1)] (by decide) (by decide) (by simp[hp]) (by simp) (by simp)) ?_
      simp[h13]
     ·refine aL ?_
      simp
      refine Qo.mk ⟨decide (k=23)⟩ (aB [0,1,28,39] [(0,0),(1,1)] (by decide) (by decide) (by simp[hp]) (by simp) (by simp)) ?_
      simp only[decide_eq_true_eq];omega
    ·refine aC ?_
     simp
     refine⟨fun h15=>?_,fun h15=>?_⟩
     ·have q15:=hc15.1 h15
      have ga:=vE (k:=k) hg
      rw[hc8]at ga
      have hlo:=AM q ga.2
      refine pS.ro hT hW (fun|44=>some (.gen ⟨[(0,0)],[],[],eU (aU q).2,.d (.str (aU q).1)⟩)|_=>none) ?_
      simp
      refine⟨hlo,?_⟩
      have e:=CU (ex:=ex) (p:=p) q12 q15
      rw[hc8]at e
      refine oM.trans (bI 1 [46] (fz:=false) (cs:=[.d (aD k),.d (.str s),.d (aD 0),.ow 46 0 1]) (ds:=[aD k,.str s,aD 0,.sl [(Nd.mk 33 (aU q).1 0 []).d]]) (by simp) (by simp) (by simp) (by simp[aW.mut])) ?_
      simp
      exact aB [] [(0,0),(1,1)] (by decide) (by decide) (by simp[hp]) (by simp) (by simp[e])
     ·have q15:¬(k=16∨k=23):=fun q=>by simp[hc15.2 q]at h15
      refine aT (ι:=BC) (fun⟨b⟩=>aY [(0,.bx 0 0),(1,.bx 1 0),(28,.d (aD k)),(49,.d (.bool b))]) (fun⟨b⟩=>aK [(0,.box false [.d (qZ q.l),.d (aD q.e)]),(1,.box false [.d (aD k),.d (.str s),.d (aD 0),.nl])]) (fun⟨b⟩=>b=true↔(k=19∨k=21∨k=25)) ?_ fun⟨b⟩ hc19=>?_
      ·refine aA ?_
       simp
       refine aC ?_
       simp
       refine⟨fun h16=>?_,fun h16=>?_⟩
       ·refine pS.skip ?_
        simp
        refine Qo.mk ⟨decide (k=19)⟩ (aB [0,1,28,49] [(0,0),(1,1)] (by decide) (by decide) (by simp[hp]) (by simp) (by simp)) ?_
        simp[h16]
       ·refine aA ?_
        simp
        refine aC ?_
        simp
        refine⟨fun h17=>?_,fun h17=>?_⟩
        ·refine pS.skip ?_
         simp
         refine Qo.mk ⟨decide (k=21)⟩ (aB [0,1,28,49] [(0,0),(1,1)] (by decide) (by decide) (by simp[hp]) (by simp) (by simp)) ?_
         simp[h17]
        ·refine aL ?_
         simp
         refine Qo.mk ⟨decide (k=25)⟩ (aB [0,1,28,49] [(0,0),(1,1)] (by decide) (by decide) (by simp[hp]) (by simp) (by simp)) ?_
         simp only[decide_eq_true_eq];omega
      ·refine aC ?_
       simp
       refine⟨fun h19=>?_,fun h19=>?_⟩
       ·have q19:=hc19.1 h19
        have ga:=vE (k:=k) hg
        rw[hc8]at ga
        have hnu:=tL q k ga.2 hk
        refine pS.ro hT hW (fun|59=>some (.gen ⟨[(0,0)],[],[],eU (aP k q).2,.d (aD (aP k q).1)⟩)|_=>none) ?_
        simp
        refine⟨hnu,?_⟩
        have e:=yR (ex:=ex) (p:=p) q12 q15 q19
        rw[hc8]at e
        refine oM.trans (bI 1 [] (fz:=false) (cs:=[.d (aD k),.d (.str s),.d (aD (aP k q).1),.nl]) (ds:=[aD k,.str s,aD (aP k q).1,.sl []]) (by simp) (by simp) (by simp) (by simp[aW.mut])) ?_
        simp
        exact aB [] [(0,0),(1,1)] (by decide) (by decide) (by simp[hp]) (by simp) (by simp[e])
       ·have q19:¬(k=19∨k=21∨k=25):=fun q=>by simp[hc19.2 q]at h19
        refine pS.skip ?_
        simp
        have e:=vF (ex:=ex) (p:=p) q12 q15 q19
        rw[hc8]at e
        refine oM.trans (bI 1 [] (fz:=false) (cs:=[.d (aD k),.d (.str s),.d (aD 0),.nl]) (ds:=[aD k,.str s,aD 0,.sl []]) (by simp) (by simp) (by simp) (by simp[aW.mut])) ?_
        simp
        exact aB [] [(0,0),(1,1)] (by decide) (by decide) (by simp[hp]) (by simp) (by simp[e])
end
end Go.Eng
namespace Go.Eng
open Go.Proofs
theorem zX{α:Type}(q:α→Bool)(d:α):∀l:List α,(List.range l.length).find? (fun i=>q (l.getD i d))=l.findIdx? q
 |[]=>rfl
 |x::l=>by
  have ih:=zX q d l
  rw[List.length_cons,List.range_succ_eq_map,List.find?_cons,List.findIdx?_cons]
  have e:(x::l).getD 0 d=x:=rfl
  rw[e]
  cases h:q x with
  |true=>simp
  |false=>
   simp only[List.find?_map]
   rw[←ih]
   rfl
theorem QN{s:aN}(h:¬s=[]):dT s=vX (fun x=>decide (s=x)) cZ:=by
 unfold dT HI vX
 rw[if_neg h]
 have e:=zX (fun x=>decide (s=x)) [] cZ
 rw[show cZ.length=26 from rfl]at e
 rw[←e]
 have e2:(fun i=>decide (cZ.getD i []=s))=fun i=>decide (s=cZ.getD i []):=by funext i;rw[decide_eq_decide];exact eq_comm
 rw[e2]
 rfl
theorem AR{s:aN}(h:s=[]):dT s= -1:=by unfold dT;rw[if_pos h]
theorem pK{p:PS}(h:0≤dT p.peek):p.is p.peek=true:=jM.2 ⟨fun e=>by rw[AR e]at h;omega,rfl⟩
theorem CV{ex bl:PS→Nd×PS}{p:PS}{k:Int}(hk:dT p.peek=k)(h:k=11)(he:(bl (ex (p.took p.peek)).2).2.is cF=true):
 gH ex bl p=(.mk k [] 0 [(ex (p.took p.peek)).1,(bl (ex (p.took p.peek)).2).1,(bl ((bl (ex (p.took p.peek)).2).2.took cF)).1],(bl ((bl (ex (p.took p.peek)).2).2.took cF)).2):=by
 subst hk
 rw[cR he]
 rw[cR (pK (by omega))]at he⊢
 unfold gH;simp only[]
 rw[if_pos (by omega),if_pos ⟨h,he⟩]
theorem Ld{ex bl:PS→Nd×PS}{p:PS}{k:Int}(hk:dT p.peek=k)(h:k=11∨k=12)(he:k=11→(bl (ex (p.took p.peek)).2).2.is cF=false):
 gH ex bl p=(.mk k [] 0 [(ex (p.took p.peek)).1,(bl (ex (p.took p.peek)).2).1],(bl (ex (p.took p.peek)).2).2):=by
 subst hk
 rw[cR (pK (by omega))]at he⊢
 unfold gH;simp only[]
 rw[if_pos h,if_neg (fun q=>by rw[he q.1]at q;exact absurd q.2 (by simp))]
theorem GL{ex bl:PS→Nd×PS}{p:PS}{k:Int}(hk:dT p.peek=k)(h:12<k):gH ex bl p=((mE ex k (p.took p.peek)).1,(mE ex k (p.took p.peek)).2.need [59]):=by
 subst hk
 rw[cR (pK (by omega))]
 unfold gH;simp only[]
 rw[if_neg (by omega),if_pos h]
theorem AS{ex bl:PS→Nd×PS}{p:PS}{k:Int}(hk:dT p.peek=k)(h0:¬(k=11∨k=12))(h:¬12<k)(hd:p.peek.take 1=[36]):gH ex bl p=(.mk 9 (aU p).1 0 [(ex ((aU p).2.need [61])).1],(ex ((aU p).2.need [61])).2.need [59]):=by
 subst hk
 unfold gH;simp only[]
 rw[if_neg h0,if_neg h]
 rw[(pJ hd).1]
 rfl
theorem AT{ex bl:PS→Nd×PS}{p:PS}{k:Int}(hk:dT p.peek=k)(h0:¬(k=11∨k=12))(h:¬12<k)(hd:¬p.peek.take 1=[36]):gH ex bl p=(.mk 10 [] 0 [(aX p).1,(ex ((aX p).2.need [61])).1],(ex ((aX p).2.need [61])).2.need [59]):=by
 subst hk
 unfold gH;simp only[]
 rw[if_neg h0,if_neg h]
 split
 ·rename_i r e;rw[e]at hd;exact absurd rfl hd
 ·rfl
theorem nK{p:PS}{s:aN}:(p.need s).l.length≤p.l.length:=by
 unfold PS.need
 split
 ·exact gA
 ·rw[sA];exact Nat.le_refl _
theorem El{m:Nat}{ex bl:PS→Nd×PS}(hs:vL ex)(ht:vL bl)(hx:Rt (m+1) aH ex)(hb:Rt m cL bl):JZ (m+1) (gH ex bl):=fun p hl h _=>by
 by_cases he:(gH ex bl p).2.e=0
 ·right
  obtain⟨k,hk⟩:∃k,dT p.peek=k:=⟨_,rfl⟩
  by_cases h1:k=11∨k=12
  ·have ip:=pK (p:=p) (by omega)
   have lp:=mG ip
   rw[←cR ip]at lp
   have gp:=gJ (s:=p.peek) h
   obtain⟨e0,e1,_⟩:=hx (p.took p.peek) (by omega) gp
   obtain⟨b0,b1,_⟩:=hb (ex (p.took p.peek)).2 (by omega) e1
   by_cases h2:k=11∧(bl (ex (p.took p.peek)).2).2.is cF=true
   ·rw[CV hk h2.1 h2.2]
    have l2:=mG h2.2
    rw[←cR h2.2]at l2
    obtain⟨c0,_,_⟩:=hb ((bl (ex (p.took p.peek)).2).2.took cF) (by omega) (gJ b1)
    show(bl ((bl (ex (p.took p.peek)).2).2.took cF)).2.l.length<p.l.length
    omega
   ·rw[Ld hk h1 (fun q=>by
     cases z:(bl (ex (p.took p.peek)).2).2.is cF with
     |false=>rfl
     |true=>exact absurd ⟨q,z⟩ h2)]
    show(bl (ex (p.took p.peek)).2).2.l.length<p.l.length
    omega
  ·by_cases h3:12<k
   ·have ip:=pK (p:=p) (by omega)
    have lp:=mG ip
    rw[←cR ip]at lp
    have gp:=gJ (s:=p.peek) h
    obtain⟨c0,_,_⟩:=KQ (m:=m+1) hs hx (k:=k) (hk▸zR (s:=p.peek) (by omega)) (p.took p.peek) (by omega) gp
    rw[GL hk h3]
    have:=nK (p:=(mE ex k (p.took p.peek)).2) (s:=[59])
    show((mE ex k (p.took p.peek)).2.need [59]).l.length<p.l.length
    omega
   ·by_cases h4:p.peek.take 1=[36]
    ·obtain⟨i1,i2⟩:=pJ h4
     have ip:p.is p.peek=true:=jM.2 ⟨fun e=>(by rw[e]at h4;cases h4),rfl⟩
     have lp:=mG ip
     rw[←cR ip]at lp
     rw[AS hk h1 h3 h4,i2]
     have n1:=nK (p:=p.took p.peek) (s:=[61])
     obtain⟨e0,_,_⟩:=hx ((p.took p.peek).need [61]) (by omega) (cM (gJ h)).2
     have n2:=nK (p:=(ex ((p.took p.peek).need [61])).2) (s:=[59])
     show((ex ((p.took p.peek).need [61])).2.need [59]).l.length<p.l.length
     omega
    ·rw[AT hk h1 h3 h4]at he⊢
     have he:((ex ((aX p).2.need [61])).2.need [59]).e=0:=he
     have he2:=hs _ (jA he).2
     have he3:=(jA he2).2
     have pl:(aX p).2.l.length<p.l.length:=by
      unfold aX at he3⊢
      have nm:(aM p).2.e=0→(aM p).2.l.length<p.l.length:=fun z=>by
       cases q:jO p.peek with
       |false=>rw[tK q]at z;exact absurd z (qS (by decide))
       |true=>
        have ip:p.is p.peek=true:=jM.2 ⟨fun e=>(by rw[e]at q;cases q),rfl⟩
        have lp:=mG ip
        rw[wA q,cR ip]
        simp only;omega
      have ng:=eO h
      split at he3
      ·rename_i z
       rw[if_pos z]
       have z2:=rH _ he3
       have z3:(aM p).2.e=0:=z2
       have ll:=(eO (p:=(aM p).2.skip) (eG ng.2.1)).1
       have l3:=gA (p:=(aM p).2)
       have:=nm z3
       simp only;omega
      ·rename_i z
       rw[if_neg z]
       exact nm he3
     have n1:=nK (p:=(aX p).2) (s:=[61])
     have pg:=(qF (p.l.length+1) p (Nat.lt_succ_self _) h).2.1
     obtain⟨e0,_,_⟩:=hx ((aX p).2.need [61]) (by omega) (cM pg).2
     have n2:=nK (p:=(ex ((aX p).2.need [61])).2) (s:=[59])
     show((ex ((aX p).2.need [61])).2.need [59]).l.length<p.l.length
     omega
 ·exact .inl he
end Go.Eng
namespace Go.Eng
open Go.Proofs
attribute[local simp] nP lH gR bA oC gK gS pE cY bD pL.plain pL.cond pL.fail dU mN tQ nO gC kQ kW lR memless nD eV jD uG EJ gQ fJ strip pD eD mC bW
 qY fZ iR gT iQ pU lk cH dX bQ cA bY oL fE pY iU jF bS eW bN dM gM fL fM eI fN gX gY gZ fO eJ fP eL fQ hU hZ iC iD fR iG oY oJ mkAgg tP BO jN bB gN aW.live TK.isNone TK.agg TK.isBool TK.isStr TK.isStruct Op.operands Call.operands
 bF cV cO dF eP oK lN cN dN iO fA kY aQ frozen lS
 jT jU lU gV jW jX jY kD lV gW kF kG kH kJ sE mM oO oP oS oT oV kK jR gU fK Nm.d Df.d Ed.d yV yW mK yX jS sL sM dK dL
 yY yZ sF zA zB sG sH sI oW zC zD sJ
 bZ aZ dP mB dQ bT cI bP eZ uJ TK.isInt jV kE oQ iB gP dO eX eY gE fD gB mO sZ nU yU sD
 nS kX mX nR cS eF dY lJ jG jH iV tF iH dJ iI iJ cH kA kC oN iW iK kL iE iF fT
 cP gO TK.isPtr eR cE kM qB qO jZ kI oU hO iA fS
attribute[local simp] eM kN iL
section
attribute[local simp] pL.cond Nd.d_eq nd_t nd_dr nd_td ndsD bG eT eB iY AN AO AP sA GK
def Fs(T:List Tk)(n:Nat)(x:PS→Nd×PS):Prop:=∀q:PS,q.l.length<n→qK T q→qK T (x q).2∧(x q).2.l.length≤q.l.length
theorem qK.goodT{T:List Tk}{q:PS}(f:qK T q)(hg:bH T):bH q.l:=fun t ht=>hg t (f.suf.mem ht)
theorem tM{p:PS}{w:aN}(h:p.is w=true):(p.took w).l.length+1=p.l.length:=by rw[cR h];exact mG h
theorem GM{p:PS}{w:aN}:(p.took w).l.length≤p.l.length:=by
 unfold PS.took;split
 ·exact gA
 ·exact Nat.le_refl _
theorem Fs.place{T:List Tk}(hg:bH T)(n:Nat):Fs T n aX:=fun q h f=>⟨f.place,(qF n q h (f.goodT hg)).1⟩
theorem Fs.chainF{T:List Tk}{m:Nat}{lv:Int}{x:PS→Nd×PS}(hx:Fs T m x):∀(f:Nat) (n:Nd) (p:PS),p.l.length<m→qK T p→qK T (chainF lv x f n p).2∧(chainF lv x f n p).2.l.length≤p.l.length
 |0,_,p,_,hf=>⟨hf,Nat.le_refl _⟩
 |f+1,n,p,hm,hf=>by
  rw[Go.Eng.chainF]
  split
  ·exact⟨hf,Nat.le_refl _⟩
  ·split
   ·rename_i h
    rw[FG h];exact⟨hf,Nat.le_refl _⟩
   ·rename_i h
    have h':0≤qD lv p.peek:=by have:¬qD lv p.peek<0:=h;omega
    rw[zW h']
    have l1:=tM (wF h').2.1
    obtain⟨a1,a2⟩:=hx (p.took p.peek) (by omega) hf.took
    obtain⟨b1,b2⟩:=Fs.chainF (lv:=lv) hx f (.mk (26+(qD lv p.peek)) [] 0 [n,(x (p.took p.peek)).1]) (x (p.took p.peek)).2 (by omega) a1
    exact⟨b1,Nat.le_trans b2 (by omega)⟩
theorem AU{T:List Tk}{m:Nat}{lv:Int}{x:PS→Nd×PS}(hx:Fs T m x):Fs T m (gD lv x):=fun q h f=>by
 obtain⟨a1,a2⟩:=hx q h f
 obtain⟨b1,b2⟩:=Fs.chainF (lv:=lv) hx ((x q).2.l.length+1) (x q).1 (x q).2 (by omega) a1
 exact⟨b1,by unfold gD;omega⟩
theorem Fs.fact{T:List Tk}(hg:bH T){n:Nat}{ex:PS→Nd×PS}(hx:Fs T n ex):Fs T (n+1) (dS ex):=fun q h f=>by
 have gq:=f.goodT hg
 unfold dS
 split
 ·rename_i z
  have hl:=mG z
  obtain⟨a1,a2⟩:=hx q.skip (by omega) f.skip
  exact⟨a1.need,by have:=nK (p:=(ex q.skip).2) (s:=[41]);simp only;omega⟩
 ·split
  ·exact⟨f.skip,gA⟩
  ·split
   ·split
    ·exact⟨f.numeral,(kT gq).1⟩
    ·split
     ·exact⟨f.local,(gI gq).1⟩
     ·exact Fs.place hg (n+1) q h f
   ·exact Fs.place hg (n+1) q h f
theorem Fs.exprB{T:List Tk}(hg:bH T){n:Nat}{ex:PS→Nd×PS}(hx:Fs T n ex):Fs T (n+1) (exprB ex):=fun q h f=>by
 have hs:Fs T (n+1) (eA ex):=AU (AU (Fs.fact hg hx))
 obtain⟨a1,a2⟩:=hs q h f
 unfold Go.Eng.exprB
 simp only[]
 by_cases z:0≤qD 1 (eA ex q).2.peek
 ·rw[if_pos (show 0≤(opP 1 (eA ex q).2).1 from z),zW z]
  have l1:=tM (wF z).2.1
  obtain⟨b1,b2⟩:=hs ((eA ex q).2.took (eA ex q).2.peek) (by omega) a1.took
  exact⟨b1,by simp only;omega⟩
 ·rw[if_neg (show¬0≤(opP 1 (eA ex q).2).1 from z),FG (by omega)]
  exact⟨a1,a2⟩
theorem GN{T:List Tk}(hg:bH T):∀n,Fs T n (dD true n)
 |0=>fun q h _=>absurd h (Nat.not_lt_zero _)
 |n+1=>fun q h f=>by
  rw[dD]
  split
  ·exact⟨f,Nat.le_refl _⟩
  ·exact Fs.exprB hg (GN hg n) q h f
structure RR(s:aN)(T:List Tk)(n:Nat)(g:FuncId)(x:PS→Nd×PS):Prop where
 ok:∀q:PS,q.l.length<n→qK T q→qX Tryz.prog g [.bx 0 0] (iY s T q) (iY s T (x q).2) (.d (x q).1.d)
 fs:Fs T n x
theorem Rr(s:aN):qD 3 s=if s=[42]then 5 else -1:=by
 by_cases h:s=[42]
 ·subst h;rfl
 ·rw[if_neg h]
  simp[qD,zE,List.range,List.range.loop,Ne.symm h,h]
theorem OY(s:aN):qD 2 s=if s=[43]then 3 else if s=[45]then 4 else -1:=by
 by_cases h:s=[43]
 ·subst h;rfl
 ·rw[if_neg h]
  by_cases h2:s=[45]
  ·subst h2;rfl
  ·rw[if_neg h2]
   have a:=Ne.symm h
   have b:=Ne.symm h2
   simp[qD,zE,List.range,List.range.loop,a,b]
theorem SG(s:aN):qD 1 s=if s=[60]then 0 else if s=[60,61]then 1 else if s=[61,61]then 2 else -1:=by
 by_cases h:s=[60]
 ·subst h;rfl
 ·rw[if_neg h]
  by_cases h2:s=[60,61]
  ·subst h2;rfl
  ·rw[if_neg h2]
   by_cases h3:s=[61,61]
   ·subst h3;rfl
   ·rw[if_neg h3]
    have a:=Ne.symm h
    have b:=Ne.symm h2
    have c:=Ne.symm h3
    simp[qD,zE,List.range,List.range.loop,a,b,c]
theorem FJ{lv:Int}{x:PS→Nd×PS}{f:Nat}{n:Nd}{q:PS}(hf:q.l.length<f)(h:qD lv q.peek<0):chainF lv x f n q=(n,q):=by
 by_cases e:q.e=0
 ·rw[Eh hf e h,FG h]
 ·exact FH hf e
theorem Ip{lv:Int}{x:PS→Nd×PS}{f:Nat}{n:Nd}{q:PS}(hf:q.l.length<f)(h:0≤qD lv q.peek):
 chainF lv x f n q=chainF lv x (f-1) (.mk (26+qD lv q.peek) [] 0 [n,(x (q.took q.peek)).1]) (x (q.took q.peek)).2:=by
 have hn:q.peek≠[]:=(jM.1 (wF h).2.1).1
 rw[Il hf (OU hn) h,zW h]
theorem QO(w:aN):firstIs aO w=true↔(¬w=[]∧aO (w[0]?.getD 0)=true):=by
 cases w with
 |nil=>simp[firstIs]
 |cons c r=>simp[firstIs]
theorem FK(s:aN)(T:List Tk)(p:PS)(c:Co s T)(f:qK T p):qX Tryz.prog 291 [.bx 0 0] (iY s T p) (iY s T (aX p).2) (.d (aX p).1.d):=by
 unfold iY
 refine qX.cell hT Tryz.func291 (by kernel_rfl) (c:=_) rfl Tryz.ntmps291 (by simp) Tryz.results291 fun w0 X hp=>?_
 refine aA ?_
 simp
 refine cB hT hW (fun|5=>some (.gen ⟨[(0,0)],[],[],iY s T (aM p).2,.d (.str (aM p).1)⟩)|_=>none) ?_
 simp
 refine⟨xJ s T p c f,?_⟩
 refine pS.seq ?_
 refine cB hT hW (fun|8=>some (.gen ⟨[(0,0)],[],[],iY s T ((aM p).2.took [46]),.d (.bool ((aM p).2.is [46]))⟩)|_=>none) ?_
 simp
 refine⟨zV s T (aM p).2 c f.name [46] (by simp),?_⟩
 refine aC ?_
 simp
 refine⟨fun h2=>?_,fun h2=>?_⟩
 ·refine aA ?_
  simp
  have l1:=sQ (f.good c)
  have l2:=sQ (p:=(aM p).2.took [46]) (f.name.took.good c)
  refine aI hT hW bU (lk [[],[0],[0,1],[],[3],[0,1,2,3,4],[0,1,2,3,4,5],[0,1,2,3,4,5,6]]) (lk [[0],[0],[0],[],[],[],[],[]]) (lk [[],[],[],[],[0],[],[],[3]]) (by kernel_rfl) (fun|14=>some (.gen ⟨[(0,0)],[],[],iY s T (aM ((aM p).2.took [46])).2,.d (.str (aM ((aM p).2.took [46])).1)⟩)|_=>none) (by intro d;first|exact⟨rfl,fun _ h=>h⟩|(split<;>exact⟨rfl,fun _ h=>h⟩)) ?_
  simp
  refine⟨⟨⟨by omega,xJ s T _ c f.name.took⟩,by omega⟩,?_⟩
  refine aA ?_
  simp
  refine pS.ret ?_
  simp
  have e:=FF h2
  refine aS (x:=(aX p).1.d) (by simp[e]) ?_
  simp
  exact aB [0] [(0,0)] (by decide) (by decide) (by simp[hp]) (by simp) (by simp[e])
 ·refine pS.skip ?_
  simp
  refine aA ?_
  simp
  refine pS.ret ?_
  simp
  have e:=Cp h2
  refine aS (x:=(aX p).1.d) (by simp[e]) ?_
  simp
  exact aB [0] [(0,0)] (by decide) (by decide) (by simp[hp]) (by simp) (by simp[e])
theorem OZ(s:aN)(T:List Tk)(c:Co s T)(p:PS)(n:Nat)(ex:PS→Nd×PS)(hE:RR s T n 280 ex)(hn:p.l.length<n+1)(f:qK T p):qX Tryz.prog 293 [.bx 0 0] (iY s T p) (iY s T (dS ex p).2) (.d (dS ex p).1.d):=by
 unfold iY
 have hg:=f.good c
 have htl:=qV hg
 refine qX.cell hT Tryz.func293 (by kernel_rfl) (c:=_) rfl Tryz.ntmps293 (by simp) Tryz.results293 fun w0 X hp=>?_
 refine aA ?_
 simp
 refine pS.seq ?_
 refine cB hT hW (fun|6=>some (.gen ⟨[(0,0)],[],[],iY s T (p.took [40]),.d (.bool (p.is [40]))⟩)|_=>none) ?_
 simp
 refine⟨zV s T p c f [40] (by simp),?_⟩
 refine aC ?_
 simp
 refine⟨fun h1=>?_,fun h1=>?_⟩
 ·refine pS.seq ?_
  have hl:=tM h1
  have hx:=hE.ok (p.took [40]) (by omega) f.took
  have fx:=(hE.fs (p.took [40]) (by omega) f.took).1
  refine pS.ro hT hW (fun|8=>some (.gen ⟨[(0,0)],[],[],iY s T (ex (p.took [40])).2,.d (ex (p.took [40])).1.d⟩)|_=>none) ?_
  simp
  refine⟨by simpa using hx,?_⟩
  refine pS.seq ?_
  have hn4:=vC s T (ex (p.took [40])).2 c fx [41] (by simp)
  refine pS.ro hT hW (fun|10=>some (.gen ⟨[(0,0)],[],[],iY s T ((ex (p.took [40])).2.need [41]),.tup []⟩)|_=>none) ?_
  simp
  refine⟨hn4,?_⟩
  refine aA ?_
  simp
  refine pS.ret ?_
  simp
  have e:=Cq (ex:=ex) h1
  exact aB [0] [(0,0)] (by decide) (by decide) (by simp[hp]) (by simp[e]) (by simp[e])
 ·have e2:p.took [40]=p:=mV (by simp[h1])
  simp only[e2]
  refine pS.skip ?_
  simp
  refine pS.seq ?_
  refine cB hT hW (fun|13=>some (.gen ⟨[(0,0)],[],[],iY s T (p.took [107,105,110,100]),.d (.bool (p.is [107,105,110,100]))⟩)|_=>none) ?_
  simp
  refine⟨zV s T p c f [107,105,110,100] (by simp),?_⟩
  refine aC ?_
  simp
  refine⟨fun h5=>?_,fun h5=>?_⟩
  ·refine aA ?_
   simp
   refine pS.ret ?_
   simp
   have e:=Ei (ex:=ex) h1 h5
   refine aS (x:=(dS ex p).1.d) (by simp[e]) ?_
   simp
   exact aB [0] [(0,0)] (by decide) (by decide) (by simp[hp]) (by simp) (by simp[e,jJ])
  ·have e6:p.took [107,105,110,100]=p:=mV (by simp[h5])
   simp only[e6]
   refine pS.skip ?_
   simp
   refine cB hT hW (fun|16=>some (.gen ⟨[(0,0)],[],[],iY s T p,.d (.str p.peek)⟩)|_=>none) ?_
   simp
   refine⟨qW s T p c f,?_⟩
   refine pS.seq ?_
   refine pS.seq ?_
   have hd:=sW p.peek 0 (by omega)
   refine pS.ro hT hW (fun|18=>some<| .plain ⟨.d (.bool (firstIs aO p.peek)),true⟩|_=>none) ?_
   simp
   refine⟨by simpa using hd,?_⟩
   refine aC ?_
   simp
   refine⟨fun h8=>?_,fun h8=>?_⟩
   ·refine pS.seq ?_
    have hnu:=uC s T p c f 32 0 999 (.inl rfl) rfl
    refine pS.ro hT hW (fun|20=>some (.gen ⟨[(0,0)],[],[],iY s T (aP 32 p).2,.d (aD (aP 32 p).1)⟩)|_=>none) ?_
    simp
    refine⟨hnu,?_⟩
    refine pS.ret ?_
    simp
    have e:=Cr (ex:=ex) h1 h5 ((QO _).1 h8).1 ((QO _).1 h8).2
    refine aS (x:=(dS ex p).1.d) (by simp[e]) ?_
    simp
    exact aB [0] [(0,0)] (by decide) (by decide) (by simp[hp]) (by simp) (by simp[e])
   ·refine pS.skip ?_
    simp
    refine pS.seq ?_
    refine aA ?_
    simp
    refine aC ?_
    simp
    refine⟨fun g1 g2=>?_,fun g=>?_⟩
    ·refine pS.seq ?_
     have hlo:=vD s T p c f
     refine pS.ro hT hW (fun|31=>some (.gen ⟨[(0,0)],[],[],iY s T (aU p).2,.d (.str (aU p).1)⟩)|_=>none) ?_
     simp
     refine⟨hlo,?_⟩
     refine pS.ret ?_
     simp
     have g8:¬p.peek=[]→aO (p.peek[0]?.getD 0)=false:=fun a=>by
      cases e:aO (p.peek[0]?.getD 0)with
      |false=>rfl
      |true=>rw[(QO _).2 ⟨a,e⟩]at h8;cases h8
     have e:=Cs (ex:=ex) h1 h5 g8 (Ss.2 ⟨by omega,g2⟩)
     refine aS (x:=(dS ex p).1.d) (by simp[e]) ?_
     simp
     exact aB [0] [(0,0)] (by decide) (by decide) (by simp[hp]) (by simp) (by simp[e])
    ·refine pS.skip ?_
     simp
     refine pS.seq ?_
     have hpl:=FK s T p c f
     refine pS.ro hT hW (fun|34=>some (.gen ⟨[(0,0)],[],[],iY s T (aX p).2,.d (aX p).1.d⟩)|_=>none) ?_
     simp
     refine⟨by simpa using hpl,?_⟩
     refine pS.ret ?_
     simp
     have g8:¬p.peek=[]→aO (p.peek[0]?.getD 0)=false:=fun a=>by
      cases e:aO (p.peek[0]?.getD 0)with
      |false=>rfl
      |true=>rw[(QO _).2 ⟨a,e⟩]at h8;cases h8
     have e:=Ct (ex:=ex) h1 h5 g8 (fun z=>by have:=Ss.1 z;have:=g (by omega);omega)
     exact aB [0] [(0,0)] (by decide) (by decide) (by simp[hp]) (by simp[e]) (by simp[e])
theorem RR.fact{s:aN}{T:List Tk}(c:Co s T){n:Nat}{ex:PS→Nd×PS}(hE:RR s T n 280 ex):RR s T (n+1) 293 (dS ex):=
 ⟨fun q hq f=>OZ s T c q n ex hE hq f,Fs.fact c.hg hE.fs⟩
theorem Pa(s:aN)(T:List Tk)(c:Co s T)(p:PS)(n:Nat)(x:PS→Nd×PS)(hE:RR s T n 293 x)(hn:p.l.length<n)(f:qK T p):qX Tryz.prog 292 [.bx 0 0] (iY s T p) (iY s T (gD 3 x p).2) (.d (gD 3 x p).1.d):=by
 unfold iY
 refine qX.cell hT Tryz.func292 (by kernel_rfl) (c:=_) rfl Tryz.ntmps292 (by simp) Tryz.results292 fun w0 X hp=>?_
 refine aA ?_
 simp
 refine pS.seq ?_
 have hx:=hE.ok p hn f
 have fx:=hE.fs p hn f
 refine pS.ro hT hW (fun|5=>some (.gen ⟨[(0,0)],[],[],iY s T (x p).2,.d (x p).1.d⟩)|_=>none) ?_
 simp
 refine⟨by simpa using hx,?_⟩
 refine pS.seq ?_
 refine pS.block ?_
 refine bX (ι:=Tb) (fun⟨f,n,q⟩=>aY [(0,.bx 0 0),(2,.bx 2 0),(3,.bx 3 0)]) (fun⟨f,n,q⟩=>aK [(0,.box false [.d (.str s),.d (.sl (T.map Tk.r)),.d (aD ((T.length:Int)- q.l.length)),.d (.bool (!decide (q.e=0))),.d (.bool (decide (q.e=5)))]),(2,.box false [.d (aD 0),.d (.str []),.d (aD 0),.nl]),(3,.box false [.d (aD n.kind),.d (.str n.text),.d (aD n.n),.d (ndsD n.kids)])]) (fun⟨f,n,q⟩=>q.l.length<f∧qK T q∧q.l.length≤p.l.length∧gD 3 x p=chainF 3 x f n q) (fun⟨f,n,q⟩=>q.l.length) ⟨(x p).2.l.length+1,(x p).1,(x p).2⟩ (aB [0,2,3] [(0,0),(2,2),(3,3)] (by decide) (by decide) (by simp[hp]) (by simp) (by simp)) (⟨Nat.lt_succ_self _,fx.1,fx.2,rfl⟩) fun⟨f,n,q⟩ hi2=>?_
 refine pS.seq ?_
 refine pS.seq ?_
 have hi:=zV s T q c hi2.2.1 [42] (by simp)
 refine pS.ro hT hW (fun|7=>some (.gen ⟨[(0,0)],[],[],iY s T (q.took [42]),.d (.bool (q.is [42]))⟩)|_=>none) ?_
 simp
 refine⟨hi,?_⟩
 refine aC ?_
 simp
 refine⟨fun h2=>?_,fun h2=>?_⟩
 ·refine pS.skip ?_
  simp
  refine pS.block ?_
  have hl:=tM h2
  have hpk:=(jM.1 h2).2
  have i3:=hi2.2.2.1
  have hx3:=hE.ok (q.took [42]) (by omega) hi2.2.1.took
  have fx3:=hE.fs (q.took [42]) (by omega) hi2.2.1.took
  refine aI hT hW bU (lk [[],[],[1],[0,1,2],[0,1,2,3],[0,1,2,3,4]]) (lk [[0],[],[],[],[],[]]) (lk [[],[],[0],[11],[],[3]]) (by kernel_rfl) (fun|10=>some (.gen ⟨[(0,0)],[],[],iY s T (x (q.took [42])).2,.d (x (q.took [42])).1.d⟩)|_=>none) (by intro d;first|exact⟨rfl,fun _ h=>h⟩|(split<;>exact⟨rfl,fun _ h=>h⟩)) ?_
  simp
  refine⟨⟨by simpa using hx3,by decide⟩,?_⟩
  refine zU (bI 3 [11] (fz:=false) (cs:=[.d (aD 31),.d (.str []),.d (aD 0),.ow 11 0 2]) (ds:=[aD 31,.str [],aD 0,.sl [n.d,(x (q.took [42])).1.d]]) (by simp) (by simp) (by simp) (by simp[aW.mut])) ?_
  simp
  refine KN.mk ⟨f-1,.mk 31 [] 0 [n,(x (q.took [42])).1],(x (q.took [42])).2⟩ (aB [0,2,3] [(0,0),(2,2),(3,3)] (by decide) (by decide) (by simp[hp]) (by simp) (by simp)) ?_ ?_
  ·have i1:=hi2.1
   have i3:=hi2.2.2.1
   refine⟨?_,fx3.1,?_,?_⟩
   ·show(x (q.took [42])).2.l.length<f-1
    have:=fx3.2
    omega
   ·show(x (q.took [42])).2.l.length≤p.l.length
    have:=fx3.2
    omega
   ·rw[hi2.2.2.2,Ip hi2.1 (by rw[Rr,hpk];decide),hpk];rfl
  ·have:=fx3.2
   show(x (q.took [42])).2.l.length<q.l.length
   omega
 ·have e2:q.took [42]=q:=mV (by simp[h2])
  simp only[e2]
  refine pS.exit ?_
  simp
  refine aA ?_
  simp
  refine pS.ret ?_
  simp
  have hno:qD 3 q.peek<0:=by
   rw[Rr,if_neg (fun z=>by rw[jM.2 ⟨by simp,z⟩]at h2;cases h2)];decide
  have e:gD 3 x p=(n,q):=by rw[hi2.2.2.2];exact FJ hi2.1 hno
  exact aB [0] [(0,0)] (by decide) (by decide) (by simp[hp]) (by simp[e]) (by simp[e])
theorem My{c:Prop}[Decidable c]{f:Nat→aW}{A:aW}{x:Nat}(h:f 0=A):bD f (if c then []else [(0,A)]) x=f x:=by
 by_cases hc:c
 ·rw[if_pos hc];rfl
 ·rw[if_neg hc]
  subst h
  simp only[bD,cY]
  split
  ·rename_i e;rw[e]
  ·rfl
theorem RR.prod{s:aN}{T:List Tk}(c:Co s T){n:Nat}{x:PS→Nd×PS}(hE:RR s T n 293 x):RR s T n 292 (gD 3 x):=
 ⟨fun q hq f=>Pa s T c q n x hE hq f,AU hE.fs⟩
structure Ti where
 k:Int
theorem Le{q:aN}:(q=[43]∨q=[45])↔0≤qD 2 q:=by
 rw[OY]
 by_cases h:q=[43]
 ·simp[h]
 ·by_cases h2:q=[45]
  ·simp[h2]
  ·simp[h,h2]
theorem QP(s:aN)(T:List Tk)(c:Co s T)(p:PS)(n:Nat)(x:PS→Nd×PS)(hE:RR s T n 292 x)(hn:p.l.length<n)(f:qK T p):qX Tryz.prog 290 [.bx 0 0] (iY s T p) (iY s T (gD 2 x p).2) (.d (gD 2 x p).1.d):=by
 unfold iY
 have htl:=c.ht
 refine qX.cell hT Tryz.func290 (by kernel_rfl) (c:=_) rfl Tryz.ntmps290 (by simp) Tryz.results290 fun w0 X hp=>?_
 refine aA ?_
 simp
 refine pS.seq ?_
 have hx:=hE.ok p hn f
 have fx:=hE.fs p hn f
 refine pS.ro hT hW (fun|6=>some (.gen ⟨[(0,0)],[],[],iY s T (x p).2,.d (x p).1.d⟩)|_=>none) ?_
 simp
 refine⟨by simpa using hx,?_⟩
 refine pS.seq ?_
 refine pS.block ?_
 refine bX (ι:=Tb) (fun⟨f,n,q⟩=>aY [(0,.bx 0 0),(2,.bx 2 0),(3,.bx 3 0)]) (fun⟨f,n,q⟩=>aK [(0,.box false [.d (.str s),.d (.sl (T.map Tk.r)),.d (aD ((T.length:Int)- q.l.length)),.d (.bool (!decide (q.e=0))),.d (.bool (decide (q.e=5)))]),(2,.box false [.d (aD 0),.d (.str []),.d (aD 0),.nl]),(3,.box false [.d (aD n.kind),.d (.str n.text),.d (aD n.n),.d (ndsD n.kids)])]) (fun⟨f,n,q⟩=>q.l.length<f∧qK T q∧q.l.length≤p.l.length∧gD 2 x p=chainF 2 x f n q) (fun⟨f,n,q⟩=>q.l.length) ⟨(x p).2.l.length+1,(x p).1,(x p).2⟩ (aB [0,2,3] [(0,0),(2,2),(3,3)] (by decide) (by decide) (by simp[hp]) (by simp) (by simp)) (⟨Nat.lt_succ_self _,fx.1,fx.2,rfl⟩) fun⟨f,n,q⟩ hi2=>?_
 refine pS.seq ?_
 refine pS.seq ?_
 have hk:=qW s T q c hi2.2.1
 refine pS.ro hT hW (fun|8=>some (.gen ⟨[(0,0)],[],[],iY s T q,.d (.str q.peek)⟩)|12=>some (.gen ⟨[(0,0)],[],[],iY s T q,.d (.str q.peek)⟩)|_=>none) ?_
 simp[My]
 refine⟨⟨hk,fun _=>hk⟩,?_⟩
 refine aC ?_
 simp
 refine⟨fun g=>?_,fun g1 g2=>?_⟩
 ·have hop:=Le.1 g
  have his:=(wF hop).2.1
  have hne:=(jM.1 his).1
  have hl:=tM his
  have hsk:=wD (T:=T) hne
  have hps:=hi2.2.1.pos hne
  have i3:=hi2.2.2.1
  have hx3:=hE.ok (q.took q.peek) (by omega) hi2.2.1.took
  have fx3:=hE.fs (q.took q.peek) (by omega) hi2.2.1.took
  refine pS.skip ?_
  simp
  refine pS.block ?_
  refine aA ?_
  simp
  refine aT (ι:=Ti) (fun⟨k⟩=>aY [(0,.bx 0 0),(2,.bx 2 0),(3,.bx 3 0),(4,.d (aD k))]) (fun⟨k⟩=>aK [(0,.box false [.d (.str s),.d (.sl (T.map Tk.r)),.d (aD ((T.length:Int)- q.l.length)),.d (.bool (!decide (q.e=0))),.d (.bool (decide (q.e=5)))]),(2,.box false [.d (aD 0),.d (.str []),.d (aD 0),.nl]),(3,.box false [.d (aD n.kind),.d (.str n.text),.d (aD n.n),.d (ndsD n.kids)])]) (fun⟨k⟩=>k=26+qD 2 q.peek) ?_ fun⟨k⟩ hc6=>?_
  ·refine pS.seq ?_
   have hk4:=qW s T q c hi2.2.1
   refine pS.ro hT hW (fun|16=>some (.gen ⟨[(0,0)],[],[],iY s T q,.d (.str q.peek)⟩)|_=>none) ?_
   simp
   refine⟨hk4,?_⟩
   refine aC ?_
   simp
   refine⟨fun h4=>?_,fun h4=>?_⟩
   ·refine aL ?_
    simp
    refine Qo.mk ⟨30⟩ (aB [0,2,3,4] [(0,0),(2,2),(3,3)] (by decide) (by decide) (by simp[hp]) (by simp) (by simp)) ?_
    rw[OY,h4];decide
   ·refine pS.skip ?_
    simp
    refine Qo.mk ⟨29⟩ (aB [0,2,3,4] [(0,0),(2,2),(3,3)] (by decide) (by decide) (by simp[hp]) (by simp) (by simp)) ?_
    rw[OY,if_pos (g.resolve_right h4)];decide
  ·refine aA ?_
   simp
   refine⟨by omega,?_⟩
   simp only[←hsk]
   refine aI hT hW bU (lk [[],[],[],[2],[1,2,3],[0,1,2,3,4],[0,1,2,3,4,5]]) (lk [[0,29],[0],[],[],[],[],[]]) (lk [[],[],[],[0],[29],[],[3]]) (by kernel_rfl) (fun|28=>some (.gen ⟨[(0,0)],[],[],iY s T (x (q.took q.peek)).2,.d (x (q.took q.peek)).1.d⟩)|_=>none) (by intro d;first|exact⟨rfl,fun _ h=>h⟩|(split<;>exact⟨rfl,fun _ h=>h⟩)) ?_
   simp
   refine⟨⟨by simpa [cR his]using hx3,by decide⟩,?_⟩
   simp only[hc6]
   refine zU (bI 3 [29] (fz:=false) (cs:=[.d (aD (26+qD 2 q.peek)),.d (.str []),.d (aD 0),.ow 29 0 2]) (ds:=[aD (26+qD 2 q.peek),.str [],aD 0,.sl [n.d,(x (q.took q.peek)).1.d]]) (by simp) (by simp) (by simp) (by simp[aW.mut])) ?_
   simp
   refine KN.mk ⟨f-1,.mk (26+qD 2 q.peek) [] 0 [n,(x (q.took q.peek)).1],(x (q.took q.peek)).2⟩ (aB [0,2,3] [(0,0),(2,2),(3,3)] (by decide) (by decide) (by simp[hp]) (by simp) (by simp)) ?_ ?_
   ·have i1:=hi2.1
    have i3:=hi2.2.2.1
    have:=fx3.2
    refine⟨?_,fx3.1,?_,?_⟩
    ·show(x (q.took q.peek)).2.l.length<f-1
     omega
    ·show(x (q.took q.peek)).2.l.length≤p.l.length
     omega
    ·rw[hi2.2.2.2,Ip hi2.1 hop]
   ·have:=fx3.2
    show(x (q.took q.peek)).2.l.length<q.l.length
    omega
 ·refine pS.exit ?_
  simp
  refine aA ?_
  simp
  refine pS.ret ?_
  simp
  have hno:qD 2 q.peek<0:=by
   have z:¬0≤qD 2 q.peek:=fun z=>(Le.2 z).elim g1 g2
   omega
  have e:gD 2 x p=(n,q):=by rw[hi2.2.2.2];exact FJ hi2.1 hno
  exact aB [0] [(0,0)] (by decide) (by decide) (by simp[hp]) (by simp[e]) (by simp[e])
theorem RR.sum{s:aN}{T:List Tk}(c:Co s T){n:Nat}{x:PS→Nd×PS}(hE:RR s T n 292 x):RR s T n 290 (gD 2 x):=
 ⟨fun q hq f=>QP s T c q n x hE hq f,AU hE.fs⟩
def zY:List aN:=[[60],[60,61],[61,61]]
theorem Lf{i:Nat}(h:i<3):zY[i]?.getD []≠[]:=by
 match i,h with
 |0,_=>decide
 |1,_=>decide
 |2,_=>decide
theorem RX{w:aN}{i:Nat}(h:i<3)(hw:w=zY[i]?.getD []):qD 1 w=i:=by
 subst hw
 match i,h with
 |0,_=>decide
 |1,_=>decide
 |2,_=>decide
theorem Pb{w:aN}(h:∀j,j<3→w≠zY[j]?.getD []):qD 1 w<0:=by
 have a:w≠[60]:=h 0 (by decide)
 have b:w≠[60,61]:=h 1 (by decide)
 have d:w≠[61,61]:=h 2 (by decide)
 rw[SG,if_neg a,if_neg b,if_neg d];decide
theorem Pc(i:Nat)(h:i<3):([DV.str [60],DV.str [60,61],DV.str [61,61]]:List DV)[i]?.getD default=.str (zY[i]?.getD []):=by
 match i,h with
 |0,_=>rfl
 |1,_=>rfl
 |2,_=>rfl
theorem Iq(s:aN)(T:List Tk)(c:Co s T)(p:PS)(n:Nat)(ex:PS→Nd×PS)(hE:RR s T n 290 (eA ex))(hn:p.l.length<n)(f:qK T p):qX Tryz.prog 280 [.bx 0 0] (iY s T p) (iY s T (if p.e=0 then exprB ex p else(iZ,p)).2) (.d (if p.e=0 then exprB ex p else(iZ,p)).1.d):=by
 unfold iY
 refine qX.cell hT Tryz.func280 (by kernel_rfl) (c:=_) rfl Tryz.ntmps280 (by simp) Tryz.results280 fun w0 X hp=>?_
 refine aA ?_
 simp
 refine pS.seq ?_
 refine aA ?_
 simp
 refine aC ?_
 simp
 refine⟨fun h1=>?_,fun h1=>?_⟩
 ·refine aA ?_
  simp
  refine pS.ret ?_
  simp
  have e:(if p.e=0 then exprB ex p else(iZ,p))=(iZ,p):=if_neg h1
  rw[e]
  refine aS (x:=iZ.d) (by simp[iZ]) ?_
  simp
  exact aB [0] [(0,0)] (by decide) (by decide) (by simp[hp]) (by simp) (by simp)
 ·refine pS.skip ?_
  simp
  refine pS.seq ?_
  have hx:=hE.ok p hn f
  have fx:=hE.fs p hn f
  refine pS.ro hT hW (fun|12=>some (.gen ⟨[(0,0)],[],[],iY s T (eA ex p).2,.d (eA ex p).1.d⟩)|_=>none) ?_
  simp
  refine⟨by simpa using hx,?_⟩
  refine aA ?_
  simp
  refine⟨by decide,?_⟩
  refine pS.seq ?_
  refine aA ?_
  simp
  refine pS.block ?_
  refine bX (ι:=Nat) (fun i=>aY [(0,.bx 0 0),(2,.bx 2 0),(3,.bx 3 0),(4,.ow 13 0 3),(5,.d (aD i))]) (fun i=>aK [(0,.box false [.d (.str s),.d (.sl (T.map Tk.r)),.d (aD ((T.length:Int)-(eA ex p).2.l.length)),.d (.bool (!decide ((eA ex p).2.e=0))),.d (.bool (decide ((eA ex p).2.e=5)))]),(2,.box false [.d (aD 0),.d (.str []),.d (aD 0),.nl]),(3,.box false [.d (aD (eA ex p).1.kind),.d (.str (eA ex p).1.text),.d (aD (eA ex p).1.n),.d (ndsD (eA ex p).1.kids)]),(13,.row false 1 [.str [60],.str [60,61],.str [61,61]])]) (fun i=>i≤3∧∀j,j<i→(eA ex p).2.peek≠zY[j]?.getD []) (fun i=>3-i) 0 (aB [0,2,3,4,5] [(0,0),(2,2),(3,3),(13,13)] (by decide) (by decide) (by simp[hp]) (by simp) (by simp)) (⟨Nat.zero_le _,fun j h=>absurd h (Nat.not_lt_zero j)⟩) fun i hi6=>?_
  refine pS.seq ?_
  refine aA ?_
  simp
  refine aC ?_
  simp
  refine⟨fun h6=>?_,fun h6=>?_⟩
  ·refine pS.skip ?_
   simp
   refine pS.seq ?_
   refine pS.block ?_
   refine pS.seq ?_
   have hi3:i<3:=by omega
   have hi:=zV s T (eA ex p).2 c fx.1 (zY[i]?.getD []) (Lf hi3)
   refine pS.ro hT hW (fun|23=>some (.gen ⟨[(0,0)],[],[],iY s T ((eA ex p).2.took (zY[i]?.getD [])),.d (.bool ((eA ex p).2.is (zY[i]?.getD [])))⟩)|_=>none) ?_
   simp[Pc i hi3]
   refine⟨⟨by omega,hi⟩,?_⟩
   refine aC ?_
   simp
   refine⟨fun h8=>?_,fun h8=>?_⟩
   ·refine pS.seq ?_
    have hpk:=(jM.1 h8).2
    have hop:=RX hi3 hpk
    have hl:=tM h8
    have hx9:=hE.ok ((eA ex p).2.took (zY[i]?.getD [])) (by have:=fx.2;omega) fx.1.took
    refine aI hT hW bU (lk [[],[0],[],[],[3],[2,3,4],[0,1,2,3,4,5],[0,1,2,3,4,5,6]]) (lk [[0,29],[0,29],[0],[],[],[],[],[]]) (lk [[],[],[],[],[0],[29],[],[2]]) (by kernel_rfl) (fun|28=>some (.gen ⟨[(0,0)],[],[],iY s T (eA ex ((eA ex p).2.took (zY[i]?.getD []))).2,.d (eA ex ((eA ex p).2.took (zY[i]?.getD []))).1.d⟩)|_=>none) (by intro d;first|exact⟨rfl,fun _ h=>h⟩|(split<;>exact⟨rfl,fun _ h=>h⟩)) ?_
    simp
    refine⟨⟨⟨by omega,by simpa using hx9⟩,by decide⟩,?_⟩
    refine pS.ret ?_
    simp
    have e:(if p.e=0 then exprB ex p else(iZ,p))=exprB ex p:=if_pos h1
    have e2:exprB ex p=(.mk (26+(i:Int)) [] 0 [(eA ex p).1,(eA ex ((eA ex p).2.took (zY[i]?.getD []))).1],(eA ex ((eA ex p).2.took (zY[i]?.getD []))).2):=by
     rw[BI (by rw[zW (by omega)];show 0≤qD 1 _;omega),zW (by omega),hop,hpk]
    rw[e,e2]
    refine aS (x:=(Nd.mk (26+(i:Int)) [] 0 [(eA ex p).1,(eA ex ((eA ex p).2.took (zY[i]?.getD []))).1]).d) (by simp) ?_
    simp
    exact aB [0] [(0,0)] (by decide) (by decide) (by simp[hp]) (by simp) (by simp)
   ·have e2:(eA ex p).2.took (zY[i]?.getD [])=(eA ex p).2:=mV (by simp[h8])
    simp only[e2]
    refine pS.skip ?_
    simp
    refine aL ?_
    simp
    refine⟨by omega,?_⟩
    refine KN.mk (i+1) (aB [0,2,3,4,5] [(0,0),(2,2),(3,3),(13,13)] (by decide) (by decide) (by simp[hp]) (by simp) (by simp)) ?_ ?_
    ·refine⟨by omega,fun j hj=>?_⟩
     by_cases e:j=i
     ·subst e
      exact fun z=>by rw[jM.2 ⟨Lf hi3,z⟩]at h8;cases h8
     ·exact hi6.2 j (by omega)
    ·omega
  ·refine pS.exit ?_
   simp
   refine aA ?_
   simp
   refine pS.ret ?_
   simp
   have e:(if p.e=0 then exprB ex p else(iZ,p))=exprB ex p:=if_pos h1
   have hno:=Pb (w:=(eA ex p).2.peek) (fun j hj=>hi6.2 j (by omega))
   have e2:exprB ex p=((eA ex p).1,(eA ex p).2):=by rw[BJ (by rw[FG hno];exact hno),FG hno]
   rw[e,e2]
   exact aB [0] [(0,0)] (by decide) (by decide) (by simp[hp]) (by simp) (by simp)
theorem Lg{s:aN}{T:List Tk}(c:Co s T):∀n:Nat,RR s T n 280 (dD true n)
 |0=>⟨fun q h _=>absurd h (Nat.not_lt_zero _),fun q h _=>absurd h (Nat.not_lt_zero _)⟩
 |n+1=>by
  have e:∀q,dD true (n+1) q=if q.e=0 then exprB (dD true n) q else(iZ,q):=fun q=>by
   rw[dD]
   by_cases h:q.e=0
   ·rw[if_neg (by simp[h]),if_pos h]
   ·rw[if_pos ⟨rfl,h⟩,if_neg h]
  refine⟨fun q hq f=>?_,GN c.hg (n+1)⟩
  rw[e]
  exact Iq s T c q (n+1) (dD true n) (((Lg c n).fact c).prod c |>.sum c) hq f
end
open Go.Proofs
section
attribute[local simp] pL.cond Nd.d_eq nd_t nd_dr nd_td ndsD bG eT qZ eU eB
theorem Cu(k:IntKind)(n:Int):(Value.int k n).oneCell'=true:=rfl
theorem Cv(x:ByteArray):(Value.string x).oneCell'=true:=rfl
theorem Cw(x:Option Addr)(a b:Nat):(Value.slice x a b).oneCell'=true:=rfl
theorem Ir(a b c d:Value):(∀(i:Nat) (x:i<4),([a,b,c,d][i]'(x)).oneCell'=true)↔(a.oneCell'=true∧b.oneCell'=true∧c.oneCell'=true∧d.oneCell'=true):=by
 constructor
 ·intro h
  exact⟨h 0 (by decide),h 1 (by decide),h 2 (by decide),h 3 (by decide)⟩
 ·rintro⟨h1,h2,h3,h4⟩ i hi
  match i,hi with
  |0,_=>exact h1
  |1,_=>exact h2
  |2,_=>exact h3
  |3,_=>exact h4
attribute[local simp] qL Cu Cv Cw Ir
theorem Mz{c:Prop}[Decidable c]{f:Nat→aW}{a b:PS}{x:Nat}(h:f 0=.box false [.d (.sl (b.l.map Tk.d)),.d (aD b.e)]):
 bD f (if c then [(0,.box false [.d (.sl (a.l.map Tk.d)),.d (aD a.e)])]else []) x=if x=0 then .box false [.d (.sl ((if c then a else b).l.map Tk.d)),.d (aD (if c then a else b).e)]else f x:=by
 by_cases hc:c
 ·simp only[hc,if_true,bD,cY]
 ·simp only[hc,if_false,bD]
  split
  ·rename_i e;rw[e];exact h
  ·rfl
structure KC where
 k:Int
structure Wr where
 x:Nd
 q:PS
theorem Kb(p:PS)(n:Nat)(ex bl:PS→Nd×PS)(hE:rC (n+1) 208 ex)(hB:rC n 116 bl)(hn:p.l.length<n+1)(hg:bH p.l):qX Tryz.prog 162 [.bx 0 0] (eU p) (eU (gH ex bl p).2) (.d (gH ex bl p).1.d):=by
 unfold eU
 refine qX.cell hT Tryz.func162 (by kernel_rfl) (c:=_) rfl Tryz.ntmps162 (by simp) Tryz.results162 fun w0 X hp=>?_
 refine aA ?_
 simp
 refine cB hT hW (fun|7=>some (.gen ⟨[(0,0)],[],[],eU p,.d (.str p.peek)⟩)|_=>none) ?_
 simp
 refine⟨qU p,?_⟩
 refine aA ?_
 simp
 refine aT (ι:=KC) (fun⟨k⟩=>aY [(0,.bx 0 0),(2,.bx 2 0),(3,.d (.str p.peek)),(4,.d (aD k))]) (fun⟨k⟩=>aK [(0,.box false [.d (qZ p.l),.d (aD p.e)]),(2,.box false [.d (aD 0),.d (.str []),.d (aD 0),.nl])]) (fun⟨k⟩=>dT p.peek=k) ?_ fun⟨k⟩ hc5=>?_
 ·refine aA ?_
  simp
  refine aC ?_
  simp
  refine⟨fun h3=>?_,fun h3=>?_⟩
  ·have hi:=uI cZ p.peek
   have q2:=sV
   rw[←QN h3]at hi
   refine pS.ro hT hW (fun|12=>some<| .plain ⟨.d (aD (dT p.peek)),true⟩|_=>none) ?_
   simp[vY]
   refine⟨⟨by omega,hi⟩,?_⟩
   refine Qo.mk ⟨dT p.peek⟩ (aB [0,2,3,4] [(0,0),(2,2)] (by decide) (by decide) (by simp[hp]) (by simp) (by simp)) ?_
   rfl
  ·refine pS.skip ?_
   simp
   refine Qo.mk ⟨-1⟩ (aB [0,2,3,4] [(0,0),(2,2)] (by decide) (by decide) (by simp[hp]) (by simp) (by simp)) ?_
   exact AR h3
 ·refine aA ?_
  simp
  refine aT (ι:=Wr) (fun⟨x,q⟩=>aY [(0,.bx 0 0),(2,.bx 2 0),(5,.bx 5 0)]) (fun⟨x,q⟩=>aK [(0,.box false [.d (qZ q.l),.d (aD q.e)]),(2,.box false [.d (aD 0),.d (.str []),.d (aD 0),.nl]),(5,.box false [.d (aD x.kind),.d (.str x.text),.d (aD x.n),.d (ndsD x.kids)])]) (fun⟨x,q⟩=>gH ex bl p=(x,q.need [59])) ?_ fun⟨x,q⟩ hc22=>?_
  ·refine pS.block ?_
   refine aA ?_
   simp
   refine aC ?_
   simp
   refine⟨fun g=>?_,fun g1 g2=>?_⟩
   ·refine pS.seq ?_
    have ip:=pK (p:=p) (by omega)
    have lp:=mG ip
    rw[←cR ip]at lp
    have gp:=gJ (s:=p.peek) hg
    refine pS.ro hT hW (fun|39=>some (.gen ⟨[(0,0)],[],[],eU (p.took p.peek),.d (.bool (p.is p.peek))⟩)|_=>none) ?_
    simp
    refine⟨oG p p.peek,?_⟩
    refine pX (fz:=false) (cs:=[.d (aD k),.d (.str []),.d (aD 0),.nl]) 5 3 1048 4 (by decide) ⟨by simp,by simp,by simp,?_⟩
    simp
    refine pS.seq ?_
    have he:=hE.ok (p.took p.peek) (by omega) gp
    have le:=hE.le (p.took p.peek) (by omega) gp
    have hb:=hB.ok (ex (p.took p.peek)).2 (by omega) le.2
    have lb:=hB.le (ex (p.took p.peek)).2 (by omega) le.2
    refine aI hT hW bU (lk [[],[0],[],[2],[],[2,3,4],[0,1],[],[0,1,2,3,4,5,6,7],[0,1,2,3,4,5,6,7,8],[0,1,2,3,4,5,6,7,8,9],[0,1,6],[0,1,2,3,4,5,6,7,8,9,10,11],[0,1,2,3,4,5,6,7,8,9,10,11,12],[0,1,2,3,4,5,6,7,8],[0,1,2,3,4,5,6,7,8,14]]) (lk [[0,47],[0,47],[47],[47],[0,47],[47],[0,47],[0],[],[5],[5],[0,5,47,48,1048],[5],[5],[48],[48]]) (lk [[],[],[],[0],[],[0],[],[47],[48,1048],[],[48],[],[],[48],[],[5]]) (by kernel_rfl) (fun|43=>some (.gen ⟨[(0,0)],[],[],eU (ex (p.took p.peek)).2,.d (ex (p.took p.peek)).1.d⟩)|45=>some (.gen ⟨[(0,0)],[],[],eU (bl (ex (p.took p.peek)).2).2,.d (bl (ex (p.took p.peek)).2).1.d⟩)|_=>none) (by intro d;first|exact⟨rfl,fun _ h=>h⟩|(split<;>exact⟨rfl,fun _ h=>h⟩)) ?_
    simp
    refine⟨⟨⟨by simpa using he,by simpa using hb⟩,by decide⟩,?_⟩
    refine pS.seq ?_
    refine pS.seq ?_
    have ht:=oG (bl (ex (p.took p.peek)).2).2 cF
    refine pS.ro hT hW (fun|57=>some (.gen ⟨[(0,0)],[],[],eU ((bl (ex (p.took p.peek)).2).2.took cF),.d (.bool ((bl (ex (p.took p.peek)).2).2.is cF))⟩)|_=>none) ?_
    simp[Mz (b:=(bl (ex (p.took p.peek)).2).2)]
    refine⟨fun _=>ht,?_⟩
    refine aC ?_
    simp
    refine⟨fun g3 g4=>?_,fun g3=>?_⟩
    ·simp only[g3,if_true]
     have gt:=gJ (s:=cF) lb.2
     have lt:((bl (ex (p.took p.peek)).2).2.took cF).l.length≤(bl (ex (p.took p.peek)).2).2.l.length:=by rw[cR g4];exact gA
     have hb2:=hB.ok ((bl (ex (p.took p.peek)).2).2.took cF) (by omega) gt
     refine aI hT hW bU (lk [[],[0],[],[2],[0,1],[],[0,1,2,3,4,5],[0,1,2,3,4,5,6],[0,1,2,3,4,5,6,7],[0,1,2,3,4,5,6],[0,1,2,3,4,5,6,9]]) (lk [[0,64],[0,64],[64],[64],[0,64],[0],[],[5],[5],[65],[65]]) (lk [[],[],[],[0],[],[64],[65,48],[],[65],[],[5]]) (by kernel_rfl) (fun|62=>some (.gen ⟨[(0,0)],[],[],eU (bl ((bl (ex (p.took p.peek)).2).2.took cF)).2,.d (bl ((bl (ex (p.took p.peek)).2).2.took cF)).1.d⟩)|_=>none) (by intro d;first|exact⟨rfl,fun _ h=>h⟩|(split<;>exact⟨rfl,fun _ h=>h⟩)) ?_
     simp
     refine⟨by simpa using hb2,?_⟩
     refine aA ?_
     simp
     refine pS.ret ?_
     simp
     have e:=CV (ex:=ex) (bl:=bl) hc5 g3 g4
     refine aS (x:=(gH ex bl p).1.d) (by simp[e,g3]) ?_
     simp
     exact aB [0] [(0,0)] (by decide) (by decide) (by simp[hp]) (by simp) (by simp[e])
    ·have eq:(if k=11 then(bl (ex (p.took p.peek)).2).2.took cF else(bl (ex (p.took p.peek)).2).2)=(bl (ex (p.took p.peek)).2).2:=by
      split
      ·rename_i z
       exact mV (by simp[g3 z])
      ·rfl
     simp only[eq]
     refine pS.skip ?_
     simp
     refine aA ?_
     simp
     refine pS.ret ?_
     simp
     have e:=Ld (ex:=ex) (bl:=bl) hc5 g g3
     refine aS (x:=(gH ex bl p).1.d) (by simp[e]) ?_
     simp
     exact aB [0] [(0,0)] (by decide) (by decide) (by simp[hp]) (by simp) (by simp[e])
   ·refine aA ?_
    simp
    refine aC ?_
    simp
    refine⟨fun h15=>?_,fun h15=>?_⟩
    ·refine pS.seq ?_
     have ip:=pK (p:=p) (by have:=hc5;simp only at this;omega)
     have lp:=mG ip
     rw[←cR ip]at lp
     have gp:=gJ (s:=p.peek) hg
     refine pS.ro hT hW (fun|74=>some (.gen ⟨[(0,0)],[],[],eU (p.took p.peek),.d (.bool (p.is p.peek))⟩)|_=>none) ?_
     simp
     refine⟨oG p p.peek,?_⟩
     have kr:=zR (s:=p.peek) (by have:=hc5;simp only at this;omega)
     have hcm:=Ka (p.took p.peek) (n+1) ex k (by have:=hc5;simp only at this;omega) hE (by omega) gp
     refine pS.ro hT hW (fun|76=>some (.gen ⟨[(0,0),(5,1)],[],[],SF (mE ex k (p.took p.peek)).2 (mE ex k (p.took p.peek)).1,.tup []⟩)|_=>none) ?_
     simp[SF]
     refine⟨by simpa [SF]using hcm,?_⟩
     refine Qo.mk ⟨(mE ex k (p.took p.peek)).1,(mE ex k (p.took p.peek)).2⟩ (aB [0,2,5] [(0,0),(2,2),(5,5)] (by decide) (by decide) (by simp[hp]) (by simp) (by simp)) ?_
     exact GL hc5 h15
    ·refine pS.seq ?_
     have hpf:=sP p.peek [36] (by have:=qV hg;omega) (by decide)
     refine pS.ro hT hW (fun|79=>some<| .plain ⟨.d (.bool (decide (p.peek.take 1=[36]))),true⟩|_=>none) ?_
     simp
     refine⟨hpf,?_⟩
     refine aC ?_
     simp
     refine⟨fun h18=>?_,fun h18=>?_⟩
     ·refine pS.seq ?_
      have hlo:=AM p hg
      have gl:=gI hg
      refine pS.ro hT hW (fun|81=>some (.gen ⟨[(0,0)],[],[],eU (aU p).2,.d (.str (aU p).1)⟩)|_=>none) ?_
      simp
      refine⟨hlo,?_⟩
      refine pS.seq ?_
      have hne:=pN (aU p).2 [61]
      have gn:=cM (s:=[61]) gl.2.1
      refine pS.ro hT hW (fun|84=>some (.gen ⟨[(0,0)],[],[],eU ((aU p).2.need [61]),.tup []⟩)|_=>none) ?_
      simp
      refine⟨hne,?_⟩
      have hx:=hE.ok ((aU p).2.need [61]) (by have:=gl.1;omega) gn.2
      refine pS.ro hT hW (fun|86=>some (.gen ⟨[(0,0)],[],[],eU (ex ((aU p).2.need [61])).2,.d (ex ((aU p).2.need [61])).1.d⟩)|_=>none) ?_
      simp
      refine⟨by simpa using hx,?_⟩
      refine mU (bI 5 [87] (fz:=false) (cs:=[.d (aD 9),.d (.str (aU p).1),.d (aD 0),.ow 87 0 1]) (ds:=[aD 9,.str (aU p).1,aD 0,.sl [(ex ((aU p).2.need [61])).1.d]]) (by simp) (by simp) (by simp) (by simp[aW.mut])) ?_
      simp
      refine Qo.mk ⟨.mk 9 (aU p).1 0 [(ex ((aU p).2.need [61])).1],(ex ((aU p).2.need [61])).2⟩ (aB [0,2,5] [(0,0),(2,2),(5,5)] (by decide) (by decide) (by simp[hp]) (by simp) (by simp)) ?_
      exact AS hc5 (by omega) (by omega) h18
     ·refine pS.seq ?_
      have hpl:=Ik p hg
      have gl:=qF (p.l.length+1) p (Nat.lt_succ_self _) hg
      refine pS.ro hT hW (fun|16=>some (.gen ⟨[(0,0)],[],[],eU (aX p).2,.d (aX p).1.d⟩)|_=>none) ?_
      simp
      refine⟨by simpa using hpl,?_⟩
      refine pS.seq ?_
      have hne:=pN (aX p).2 [61]
      have gn:=cM (s:=[61]) gl.2.1
      refine pS.ro hT hW (fun|20=>some (.gen ⟨[(0,0)],[],[],eU ((aX p).2.need [61]),.tup []⟩)|_=>none) ?_
      simp
      refine⟨hne,?_⟩
      have hx:=hE.ok ((aX p).2.need [61]) (by have:=gl.1;omega) gn.2
      refine aI hT hW bU (lk [[],[0],[],[2],[0,1],[],[0,1,2,3,4,5],[0,1,2,3,4,5,6],[0,1,2,3,4,5,6,7],[0,1,2,3,4,5,6],[0,1,2,3,4,5,6,9]]) (lk [[0,26],[0,26],[26],[26],[0,26],[0],[],[5],[5],[27],[27]]) (lk [[],[],[],[0],[],[26],[27,17],[],[27],[],[5]]) (by kernel_rfl) (fun|24=>some (.gen ⟨[(0,0)],[],[],eU (ex ((aX p).2.need [61])).2,.d (ex ((aX p).2.need [61])).1.d⟩)|_=>none) (by intro d;first|exact⟨rfl,fun _ h=>h⟩|(split<;>exact⟨rfl,fun _ h=>h⟩)) ?_
      simp
      refine⟨by simpa using hx,?_⟩
      refine mU (bI 5 [27] (fz:=false) (cs:=[.d (aD 10),.d (.str []),.d (aD 0),.ow 27 0 2]) (ds:=[aD 10,.str [],aD 0,.sl [(aX p).1.d,(ex ((aX p).2.need [61])).1.d]]) (by simp) (by simp) (by simp) (by simp[aW.mut])) ?_
      simp
      refine Qo.mk ⟨.mk 10 [] 0 [(aX p).1,(ex ((aX p).2.need [61])).1],(ex ((aX p).2.need [61])).2⟩ (aB [0,2,5] [(0,0),(2,2),(5,5)] (by decide) (by decide) (by simp[hp]) (by simp) (by simp)) ?_
      exact AT hc5 (by omega) (by omega) h18
  ·refine pS.seq ?_
   have hne:=pN q [59]
   refine pS.ro hT hW (fun|90=>some (.gen ⟨[(0,0)],[],[],eU (q.need [59]),.tup []⟩)|_=>none) ?_
   simp
   refine⟨hne,?_⟩
   refine aA ?_
   simp
   refine pS.ret ?_
   simp
   exact aB [0] [(0,0)] (by decide) (by decide) (by simp[hp]) (by simp[hc22]) (by simp[hc22])
end
open Go.Proofs
section
attribute[local simp] pL.cond Nd.d_eq nd_t nd_dr nd_td ndsD bG eT eB iY AN AO AP sA GK
theorem Fs.need{T:List Tk}{p:PS}(f:qK T p)(w:aN):qK T (p.need w)∧(p.need w).l.length≤p.l.length:=⟨f.need,nK⟩
theorem Is{T:List Tk}{m:Nat}{st:PS→Nd×PS}(hs:Fs T m st):∀(f:Nat) (ks:List Nd) (p:PS),p.l.length<m→qK T p→qK T (eE st f ks p).2∧(eE st f ks p).2.l.length≤p.l.length
 |0,_,p,_,hf=>⟨hf,Nat.le_refl _⟩
 |f+1,ks,p,hm,hf=>by
  rw[eE]
  split
  ·exact⟨hf,Nat.le_refl _⟩
  ·obtain⟨a1,a2⟩:=hs p hm hf
   obtain⟨b1,b2⟩:=Is hs f (ks++[(st p).1]) (st p).2 (by omega) a1
   exact⟨b1,Nat.le_trans b2 a2⟩
theorem Fs.block{T:List Tk}{m:Nat}{st:PS→Nd×PS}(hs:Fs T m st):Fs T m (fU st):=fun p hm hf=>by
 obtain⟨a1,a2⟩:=Fs.need hf [123]
 obtain⟨b1,b2⟩:=Is hs ((p.need [123]).l.length+1) [] (p.need [123]) (by omega) a1
 obtain⟨c1,c2⟩:=Fs.need b1 [125]
 exact⟨c1,Nat.le_trans c2 (Nat.le_trans b2 a2)⟩
theorem Pd{T:List Tk}(hg:bH T)(m:Nat):Fs T m fun q=>dD true (q.l.length+1) q:=fun q _ f=>GN hg (q.l.length+1) q (Nat.lt_succ_self _) f
theorem Pe{s:aN}{T:List Tk}(c:Co s T)(m:Nat):RR s T m 280 fun q=>dD true (q.l.length+1) q:=
 ⟨fun q _ f=>(Lg c (q.l.length+1)).ok q (Nat.lt_succ_self _) f,Pd c.hg m⟩
def BK(ex:PS→Nd×PS)(p:PS):Nd×PS:=
 if p.peek.take 1=[36]then(.mk 9 (aU p).1 0 [(ex ((aU p).2.need [61])).1],(ex ((aU p).2.need [61])).2)
 else(.mk 10 [] 0 [(aX p).1,(ex ((aX p).2.need [61])).1],(ex ((aX p).2.need [61])).2)
def MA(ex bl:PS→Nd×PS)(k:Int)(p:PS):Nd×PS:=
 if k=11∧(bl (ex (p.took p.peek)).2).2.is cF=true then
  (.mk k [] 0 [(ex (p.took p.peek)).1,(bl (ex (p.took p.peek)).2).1,(bl ((bl (ex (p.took p.peek)).2).2.took cF)).1],(bl ((bl (ex (p.took p.peek)).2).2.took cF)).2)
 else(.mk k [] 0 [(ex (p.took p.peek)).1,(bl (ex (p.took p.peek)).2).1],(bl (ex (p.took p.peek)).2).2)
theorem MB(s:aN)(T:List Tk)(c:Co s T)(p:PS)(n:Nat)(st:PS→Nd×PS)(hS:RR s T n 235 st)(hE:JZ n st)(hn:p.l.length<n)(f:qK T p):qX Tryz.prog 196 [.bx 0 0] (iY s T p) (iY s T (fU st p).2) (.d (fU st p).1.d):=by
 unfold iY
 have htt:=c.ht
 have hpT:=f.le
 refine qX.cell hT Tryz.func196 (by kernel_rfl) (c:=_) rfl Tryz.ntmps196 (by simp) Tryz.results196 fun w0 X hp=>?_
 refine aA ?_
 simp
 refine aA ?_
 simp
 refine pX (fz:=false) (cs:=[.d (aD 8),.d (.str []),.d (aD 0),.nl]) 3 3 1022 4 (by decide) ⟨by simp,by simp,by simp,?_⟩
 simp
 refine pS.seq ?_
 have hn2:=vC s T p c f [123] (by simp)
 have gl:=Fs.need f [123]
 refine pS.ro hT hW (fun|6=>some (.gen ⟨[(0,0)],[],[],iY s T (p.need [123]),.tup []⟩)|_=>none) ?_
 simp
 refine⟨hn2,?_⟩
 refine pS.seq ?_
 refine pS.block ?_
 refine bX (ι:=Tc) (fun⟨f,ks,q⟩=>aY [(0,.bx 0 0),(2,.bx 2 0),(3,.bx 3 0)]) (fun⟨f,ks,q⟩=>aK [(0,.box false [.d (.str s),.d (.sl (T.map Tk.r)),.d (aD ((T.length:Int)- q.l.length)),.d (.bool (!decide (q.e=0))),.d (.bool (decide (q.e=5)))]),(2,.box false [.d (aD 0),.d (.str []),.d (aD 0),.nl]),(3,.box false [.d (aD 8),.d (.str []),.d (aD 0),.ow 1022 0 ks.length]),(1022,.row false 4 (ks.map Nd.d))]) (fun⟨f,ks,q⟩=>(q.e=0→q.l.length<f)∧qK T q∧q.l.length≤p.l.length∧ks.length+q.l.length≤p.l.length+(if q.e=0 then 0 else 1)∧eE st ((p.need [123]).l.length+1) [] (p.need [123])=eE st f ks q) (fun⟨f,ks,q⟩=>2*q.l.length+(if q.e=0 then 1 else 0)) ⟨(p.need [123]).l.length+1,[],p.need [123]⟩ (aB [0,2,3] [(0,0),(2,2),(3,3),(1022,1022)] (by decide) (by decide) (by simp[hp]) (by simp) (by simp)) (⟨fun _=>Nat.lt_succ_self _,gl.1,gl.2,by have:=gl.2;simp only[List.length_nil];omega,rfl⟩) fun⟨f,ks,q⟩ hi3=>?_
 refine pS.seq ?_
 refine pS.seq ?_
 have hpk:=qW s T q c hi3.2.1
 refine pS.ro hT hW (fun|14=>some (.gen ⟨[(0,0)],[],[],iY s T q,.d (.str q.peek)⟩)|_=>none) ?_
 simp[yQ]
 refine⟨fun _=>hpk,?_⟩
 refine aC ?_
 simp
 refine⟨fun g1 g2=>?_,fun g=>?_⟩
 ·refine pS.skip ?_
  simp
  refine pS.block ?_
  have ha:q.l.length≤p.l.length:=hi3.2.2.1
  have hk:ks.length+q.l.length≤p.l.length:=by have z:=hi3.2.2.2.1;simp only[g1,if_true]at z;omega
  have hs:=hS.ok q (by omega) hi3.2.1
  have hle:=hS.fs q (by omega) hi3.2.1
  have heat:=hE q (by omega) (hi3.2.1.good c) g1
  refine aI hT hW bU (lk [[],[0],[],[2],[2,3],[0,1,2,3,4],[0,1,2,3,4,5],[0,1,2,3,4,5,6]]) (lk [[0,21],[0,21],[],[],[],[],[],[]]) (lk [[],[],[],[0],[21],[22,1022],[],[3]]) (by kernel_rfl) (fun|20=>some (.gen ⟨[(0,0)],[],[],iY s T (st q).2,.d (st q).1.d⟩)|_=>none) (by intro d;first|exact⟨rfl,fun _ h=>h⟩|(split<;>exact⟨rfl,fun _ h=>h⟩)) ?_
  simp
  refine⟨⟨by simpa using hs,by omega,by omega⟩,?_⟩
  refine KN.mk ⟨f-1,ks++[(st q).1],(st q).2⟩ (aB [0,2,3] [(0,0),(2,2),(3,3),(22,1022)] (by decide) (by decide) (by simp[hp]) (by simp) (by simp)) ?_ ?_
  ·refine⟨fun e=>?_,hle.1,?_,?_,?_⟩
   ·show(st q).2.l.length<f-1
    have z:=hi3.1 g1
    rcases heat with h|h
    ·exact absurd e h
    ·omega
   ·show(st q).2.l.length≤p.l.length
    omega
   ·show(ks++[(st q).1]).length+(st q).2.l.length≤p.l.length+(if(st q).2.e=0 then 0 else 1)
    rw[List.length_append,List.length_singleton]
    by_cases e:(st q).2.e=0
    ·rw[if_pos e]
     rcases heat with h|h
     ·exact absurd e h
     ·omega
    ·rw[if_neg e];omega
   ·rw[hi3.2.2.2.2];exact In (hi3.1 g1) g1 g2
  ·show 2*(st q).2.l.length+(if(st q).2.e=0 then 1 else 0)<2*q.l.length+(if q.e=0 then 1 else 0)
   rw[if_pos g1]
   by_cases e:(st q).2.e=0
   ·rw[if_pos e]
    rcases heat with h|h
    ·exact absurd e h
    ·omega
   ·rw[if_neg e];omega
 ·refine pS.exit ?_
  simp
  refine pS.seq ?_
  have hn5:=vC s T q c hi3.2.1 [125] (by simp)
  refine pS.ro hT hW (fun|25=>some (.gen ⟨[(0,0)],[],[],iY s T (q.need [125]),.tup []⟩)|_=>none) ?_
  simp
  refine⟨hn5,?_⟩
  refine aA ?_
  simp
  refine pS.ret ?_
  simp
  have e:fU st p=(.mk 8 [] 0 ks,q.need [125]):=by unfold fU;simp only[];rw[hi3.2.2.2.2,FI g]
  refine aS (x:=(fU st p).1.d) (by simp[e]) ?_
  simp
  exact aB [0] [(0,0)] (by decide) (by decide) (by simp[hp]) (by simp) (by simp[e])
theorem RR.block{s:aN}{T:List Tk}(c:Co s T){n:Nat}{st:PS→Nd×PS}(hS:RR s T n 235 st)(hE:JZ n st):RR s T n 196 (fU st):=
 ⟨fun q hq f=>MB s T c q n st hS hE hq f,Fs.block hS.fs⟩
theorem Kc(s:aN)(T:List Tk)(c:Co s T)(p:PS)(w:aN)(hw:p.peek=w)(n:Nat)(ex:PS→Nd×PS)(hE:RR s T n 280 ex)(hn:p.l.length<n)(f:qK T p):qX Tryz.prog 281 [.bx 0 0,.d (.str w)] (iY s T p) (iY s T (BK ex p).2) (.d (BK ex p).1.d):=by
 unfold iY
 have gp:=f.good c
 refine qX.cell hT Tryz.func281 (by kernel_rfl) (c:=_) rfl Tryz.ntmps281 (by simp) Tryz.results281 fun w0 X hp=>?_
 refine aA ?_
 simp
 refine pS.seq ?_
 refine aA ?_
 simp
 refine aC ?_
 simp
 refine⟨fun g1 g2=>?_,fun g=>?_⟩
 ·have gd:p.peek.take 1=[36]:=Ss.2 ⟨by rw[hw];omega,by rw[hw];exact g2⟩
  refine pS.seq ?_
  have hlo:=vD s T p c f
  have gl:=(gI gp).1
  refine pS.ro hT hW (fun|16=>some (.gen ⟨[(0,0)],[],[],iY s T (aU p).2,.d (.str (aU p).1)⟩)|_=>none) ?_
  simp
  refine⟨hlo,?_⟩
  refine pS.seq ?_
  have hne:=vC s T (aU p).2 c f.local [61] (by simp)
  have gn:=Fs.need f.local [61]
  refine pS.ro hT hW (fun|19=>some (.gen ⟨[(0,0)],[],[],iY s T ((aU p).2.need [61]),.tup []⟩)|_=>none) ?_
  simp
  refine⟨hne,?_⟩
  refine pS.seq ?_
  have hx:=hE.ok ((aU p).2.need [61]) (by omega) gn.1
  refine aI hT hW bU (lk [[],[0],[],[2],[2,3],[0,1,2,3,4],[0,1,2,3,4,5],[0,1,2,3,4,5,6]]) (lk [[0,24],[0,24],[],[],[],[],[],[]]) (lk [[],[],[],[0],[24],[25],[],[5]]) (by kernel_rfl) (fun|23=>some (.gen ⟨[(0,0)],[],[],iY s T (ex ((aU p).2.need [61])).2,.d (ex ((aU p).2.need [61])).1.d⟩)|_=>none) (by intro d;first|exact⟨rfl,fun _ h=>h⟩|(split<;>exact⟨rfl,fun _ h=>h⟩)) ?_
  simp
  refine⟨by simpa using hx,?_⟩
  refine aA ?_
  simp
  refine pS.ret ?_
  simp
  have e:BK ex p=(.mk 9 (aU p).1 0 [(ex ((aU p).2.need [61])).1],(ex ((aU p).2.need [61])).2):=if_pos gd
  refine aS (x:=(BK ex p).1.d) (by simp[e]) ?_
  simp
  exact aB [0] [(0,0)] (by decide) (by decide) (by simp[hp]) (by simp) (by simp[e])
 ·have gd:¬p.peek.take 1=[36]:=fun z=>by have y:=Ss.1 z;rw[hw]at y;have:=g (by omega);omega
  refine pS.skip ?_
  simp
  refine aA ?_
  simp
  refine pS.seq ?_
  have hpl:=FK s T p c f
  have gl:=(qF (p.l.length+1) p (Nat.lt_succ_self _) gp).1
  refine aI hT hW bU (lk [[],[0],[],[2],[2,3],[0,1,2,3,4],[0,1,2,3,4,5],[0,1,2,3,4,5,6]]) (lk [[0,33],[0,33],[],[],[],[],[],[]]) (lk [[],[],[],[0],[33],[34],[],[6]]) (by kernel_rfl) (fun|32=>some (.gen ⟨[(0,0)],[],[],iY s T (aX p).2,.d (aX p).1.d⟩)|_=>none) (by intro d;first|exact⟨rfl,fun _ h=>h⟩|(split<;>exact⟨rfl,fun _ h=>h⟩)) ?_
  simp
  refine⟨by simpa using hpl,?_⟩
  refine pS.seq ?_
  have hne:=vC s T (aX p).2 c f.place [61] (by simp)
  have gn:=Fs.need f.place [61]
  refine pS.ro hT hW (fun|37=>some (.gen ⟨[(0,0)],[],[],iY s T ((aX p).2.need [61]),.tup []⟩)|_=>none) ?_
  simp
  refine⟨hne,?_⟩
  refine pS.seq ?_
  have hx:=hE.ok ((aX p).2.need [61]) (by omega) gn.1
  refine aI hT hW bU (lk [[],[0],[],[2],[2,3],[0,1,2,3,4],[0,1,2,3,4,5],[0,1,2,3,4,5,6]]) (lk [[0,42],[0,42],[],[],[],[],[],[]]) (lk [[],[],[],[0],[42],[43,34],[],[6]]) (by kernel_rfl) (fun|41=>some (.gen ⟨[(0,0)],[],[],iY s T (ex ((aX p).2.need [61])).2,.d (ex ((aX p).2.need [61])).1.d⟩)|_=>none) (by intro d;first|exact⟨rfl,fun _ h=>h⟩|(split<;>exact⟨rfl,fun _ h=>h⟩)) ?_
  simp
  refine⟨by simpa using hx,?_⟩
  refine aA ?_
  simp
  refine pS.ret ?_
  simp
  have e:BK ex p=(.mk 10 [] 0 [(aX p).1,(ex ((aX p).2.need [61])).1],(ex ((aX p).2.need [61])).2):=if_neg gd
  refine aS (x:=(BK ex p).1.d) (by simp[e]) ?_
  simp
  exact aB [0] [(0,0)] (by decide) (by decide) (by simp[hp]) (by simp) (by simp[e])
end
open Go.Proofs
section
attribute[local simp] pL.cond Nd.d_eq nd_t nd_dr nd_td ndsD bG eT eB iY AN AO AP sA GK
theorem MC{s:aN}{T:List Tk}{c:Prop}[Decidable c]{f:Nat→aW}{a b:PS}{x:Nat}(h:f 0=.box false [.d (.str s),.d (.sl (T.map Tk.r)),.d (aD ((T.length:Int)- b.l.length)),.d (.bool (!decide (b.e=0))),.d (.bool (decide (b.e=5)))]):
 bD f (if c then [(0,.box false [.d (.str s),.d (.sl (T.map Tk.r)),.d (aD ((T.length:Int)- a.l.length)),.d (.bool (!decide (a.e=0))),.d (.bool (decide (a.e=5)))])]else []) x=
  if x=0 then .box false [.d (.str s),.d (.sl (T.map Tk.r)),.d (aD ((T.length:Int)-(if c then a else b).l.length)),.d (.bool (!decide ((if c then a else b).e=0))),.d (.bool (decide ((if c then a else b).e=5)))]else f x:=by
 by_cases hc:c
 ·simp only[hc,if_true,bD,cY]
 ·simp only[hc,if_false,bD]
  split
  ·rename_i e;rw[e];exact h
  ·rfl
def Pf:aN:=[119,104,105,108,101]
theorem QQ{ex bl:PS→Nd×PS}{k:Int}{p:PS}(hs:p.took p.peek=p.skip)(h:k=11)(he:(bl (ex p.skip).2).2.is cF=true):
 MA ex bl k p=(.mk k [] 0 [(ex p.skip).1,(bl (ex p.skip).2).1,(bl ((bl (ex p.skip).2).2.took cF)).1],(bl ((bl (ex p.skip).2).2.took cF)).2):=by
 unfold MA;rw[hs,if_pos ⟨h,he⟩]
theorem RY{ex bl:PS→Nd×PS}{k:Int}{p:PS}(hs:p.took p.peek=p.skip)(he:k=11→(bl (ex p.skip).2).2.is cF=false):
 MA ex bl k p=(.mk k [] 0 [(ex p.skip).1,(bl (ex p.skip).2).1],(bl (ex p.skip).2).2):=by
 unfold MA;rw[hs,if_neg (fun z=>by rw[he z.1]at z;exact absurd z.2 (by simp))]
set_option maxRecDepth 10000 in
theorem Kd(s:aN)(T:List Tk)(c:Co s T)(p:PS)(w:aN)(k:Int)(hk:k=11∨k=12)(hw:w=Pf↔k=12)(hpk:p.peek≠[])(n:Nat)(ex bl:PS→Nd×PS)(hE:RR s T (n+1) 280 ex)(hB:RR s T n 196 bl)(hn:p.l.length<n+1)(f:qK T p):qX Tryz.prog 262 [.bx 0 0,.d (.str w)] (iY s T p) (iY s T (MA ex bl k p).2) (.d (MA ex bl k p).1.d):=by
 unfold iY
 have htt:=c.ht
 have hsk:=wD (T:=T) hpk
 have hps:=f.pos hpk
 have htk:p.took p.peek=p.skip:=cR (jM.2 ⟨hpk,rfl⟩)
 have hl:=uU hpk
 have fx:=hE.fs p.skip (by omega) f.skip
 have fb:=hB.fs (ex p.skip).2 (by omega) fx.1
 refine qX.cell hT Tryz.func262 (by kernel_rfl) (c:=_) rfl Tryz.ntmps262 (by simp) Tryz.results262 fun w0 X hp=>?_
 refine aA ?_
 simp
 refine aA ?_
 simp
 refine⟨by omega,?_⟩
 simp only[←hsk]
 refine aA ?_
 simp
 refine aT (ι:=Ti) (fun⟨j⟩=>aY [(0,.bx 0 0),(4,.bx 4 0),(5,.bx 5 0)]) (fun⟨j⟩=>aK [(0,.box false [.d (.str s),.d (.sl (T.map Tk.r)),.d (aD ((T.length:Int)- p.skip.l.length)),.d (.bool (!decide (p.e=0))),.d (.bool (decide (p.e=5)))]),(4,.box false [.d (aD 0),.d (.str []),.d (aD 0),.nl]),(5,.box false [.d (aD j),.d (.str []),.d (aD 0),.nl])]) (fun⟨j⟩=>k=j) ?_ fun⟨j⟩ hc5=>?_
 ·refine aA ?_
  simp
  refine aC ?_
  simp
  refine⟨fun h3=>?_,fun h3=>?_⟩
  ·have ek:k=12:=hw.1 h3
   refine aL ?_
   simp
   refine Qo.mk ⟨12⟩ (aB [0,4,5] [(0,0),(4,4),(5,5)] (by decide) (by decide) (by simp[hp]) (by simp) (by simp)) ?_
   exact ek
  ·have ek:k=11:=hk.resolve_right fun z=>h3 (hw.2 z)
   refine pS.skip ?_
   simp
   refine Qo.mk ⟨11⟩ (aB [0,4,5] [(0,0),(4,4),(5,5)] (by decide) (by decide) (by simp[hp]) (by simp) (by simp)) ?_
   exact ek
 ·refine pS.seq ?_
  have hj:k=j:=hc5
  subst hj
  have he:=hE.ok p.skip (by omega) f.skip
  rw[Nd.d_eq]at he
  refine aI hT hW bU (lk [[],[0],[],[2],[2,3],[0,1,2,3,4],[0,1,2,3,4,5],[0,1,2,3,4,5,6]]) (lk [[0,21],[0,21],[],[],[],[],[],[]]) (lk [[],[],[],[0],[21],[22],[],[5]]) (by kernel_rfl) (fun|20=>some (.gen ⟨[(0,0)],[],[],iY s T (ex p.skip).2,.d (ex p.skip).1.d⟩)|_=>none) (by intro d;first|exact⟨rfl,fun _ h=>h⟩|(split<;>exact⟨rfl,fun _ h=>h⟩)) ?_
  simp
  refine⟨he,?_⟩
  refine pS.seq ?_
  have hb:=hB.ok (ex p.skip).2 (by omega) fx.1
  refine aI hT hW bU (lk [[],[0],[],[2],[2,3],[0,1,2,3,4],[0,1,2,3,4,5],[0,1,2,3,4,5,6]]) (lk [[0,28],[0,28],[],[],[],[],[],[]]) (lk [[],[],[],[0],[28],[29,22],[],[5]]) (by kernel_rfl) (fun|27=>some (.gen ⟨[(0,0)],[],[],iY s T (bl (ex p.skip).2).2,.d (bl (ex p.skip).2).1.d⟩)|_=>none) (by intro d;first|exact⟨rfl,fun _ h=>h⟩|(split<;>exact⟨rfl,fun _ h=>h⟩)) ?_
  simp
  refine⟨by simpa using hb,?_⟩
  refine pS.seq ?_
  refine pS.seq ?_
  have ht:=zV s T (bl (ex p.skip).2).2 c fb.1 cF (by decide)
  refine pS.ro hT hW (fun|36=>some (.gen ⟨[(0,0)],[],[],iY s T ((bl (ex p.skip).2).2.took cF),.d (.bool ((bl (ex p.skip).2).2.is cF))⟩)|_=>none) ?_
  simp[MC (b:=(bl (ex p.skip).2).2)]
  refine⟨fun _=>ht,?_⟩
  refine aC ?_
  simp
  refine⟨fun g3 g4=>?_,fun g3=>?_⟩
  ·simp only[g3,if_true]
   have lt:((bl (ex p.skip).2).2.took cF).l.length≤(bl (ex p.skip).2).2.l.length:=GM
   have hb2:=hB.ok ((bl (ex p.skip).2).2.took cF) (by omega) fb.1.took
   refine aI hT hW bU (lk [[],[0],[],[2],[2,3],[0,1,2,3,4],[0,1,2,3,4,5],[0,1,2,3,4,5,6]]) (lk [[0,42],[0,42],[],[],[],[],[],[]]) (lk [[],[],[],[0],[42],[43,29],[],[5]]) (by kernel_rfl) (fun|41=>some (.gen ⟨[(0,0)],[],[],iY s T (bl ((bl (ex p.skip).2).2.took cF)).2,.d (bl ((bl (ex p.skip).2).2.took cF)).1.d⟩)|_=>none) (by intro d;first|exact⟨rfl,fun _ h=>h⟩|(split<;>exact⟨rfl,fun _ h=>h⟩)) ?_
   simp
   refine⟨by simpa using hb2,?_⟩
   refine aA ?_
   simp
   refine pS.ret ?_
   simp
   subst g3
   have e:=QQ (ex:=ex) (bl:=bl) htk rfl g4
   refine aS (x:=(MA ex bl 11 p).1.d) (by simp[e]) ?_
   simp
   exact aB [0] [(0,0)] (by decide) (by decide) (by simp[hp]) (by simp) (by simp[e])
  ·have eq:(if k=11 then(bl (ex p.skip).2).2.took cF else(bl (ex p.skip).2).2)=(bl (ex p.skip).2).2:=by
    split
    ·rename_i z
     exact mV (by simp[g3 z])
    ·rfl
   simp only[eq]
   refine pS.skip ?_
   simp
   refine aA ?_
   simp
   refine pS.ret ?_
   simp
   have e:=RY (ex:=ex) (bl:=bl) htk g3
   refine aS (x:=(MA ex bl k p).1.d) (by simp[e]) ?_
   simp
   exact aB [0] [(0,0)] (by decide) (by decide) (by simp[hp]) (by simp) (by simp[e])
def tR(ex:PS→Nd×PS)(p:PS):Nd×PS:=if 12<dT p.peek then mE ex (dT p.peek) (p.took p.peek)else BK ex p
theorem GO{w:aN}(h:0≤dT w):bC (dT w)=w∧dT w<26:=by
 unfold dT HI at h⊢
 split at h
 ·omega
 ·rename_i hw
  rw[if_neg hw]
  cases e:(List.range 26).find? (fun i=>decide (cZ.getD i []=w))with
  |none=>rw[e]at h;simp at h
  |some i=>
   have h1:=List.find?_some e
   have h2:=List.mem_range.1 (List.mem_of_find?_eq_some e)
   simp only[decide_eq_true_eq]at h1
   exact⟨h1,by simp only;omega⟩
theorem BL{k:Int}{p:PS}(h:¬(k=19∨k=20))(h2:¬(k=21∨k=25∨k=24)):cmdA k p=aM p:=by unfold cmdA;rw[if_neg h,if_neg h2]
theorem It{k:Int}{p:PS}(h:k=19∨k=20):cmdA k p=aU p:=by unfold cmdA;rw[if_pos h]
theorem BM{k:Int}{p:PS}(h:k=21∨k=25∨k=24):cmdA k p=([],p):=by unfold cmdA;rw[if_neg (by omega),if_pos h]
set_option maxRecDepth 10000 in
theorem Ke(s:aN)(T:List Tk)(c:Co s T)(p:PS)(w:aN)(hw:p.peek=w)(n:Nat)(ex:PS→Nd×PS)(hE:RR s T n 280 ex)(hn:p.l.length<n)(f:qK T p):qX Tryz.prog 263 [.bx 0 0,.d (.str w)] (iY s T p) (iY s T (tR ex p).2) (.d (tR ex p).1.d):=by
 unfold iY
 have htt:=c.ht
 have hst:=JQ
 have q2:=sV
 refine qX.cell hT Tryz.func263 (by kernel_rfl) (c:=_) rfl Tryz.ntmps263 (by simp) Tryz.results263 fun w0 X hp=>?_
 refine aA ?_
 simp
 refine aA ?_
 simp
 refine aT (ι:=Nat) (fun i=>aY [(0,.bx 0 0),(1,.d (.str w)),(4,.bx 4 0),(5,.d (aD (i:Int)))]) (fun i=>aK [(0,.box false [.d (.str s),.d (.sl (T.map Tk.r)),.d (aD ((T.length:Int)- p.l.length)),.d (.bool (!decide (p.e=0))),.d (.bool (decide (p.e=5)))]),(4,.box false [.d (aD 0),.d (.str []),.d (aD 0),.nl])]) (fun i=>13≤i∧i≤26∧(∀j:Nat,13≤j→j<i→bC (j:Int)≠w)∧((i:Int)<26→bC (i:Int)=w)) ?_ fun i hc4=>?_
 ·refine pS.block ?_
  refine bX (ι:=Nat) (fun i=>aY [(0,.bx 0 0),(1,.d (.str w)),(4,.bx 4 0),(5,.d (aD (i:Int)))]) (fun i=>aK [(0,.box false [.d (.str s),.d (.sl (T.map Tk.r)),.d (aD ((T.length:Int)- p.l.length)),.d (.bool (!decide (p.e=0))),.d (.bool (decide (p.e=5)))]),(4,.box false [.d (aD 0),.d (.str []),.d (aD 0),.nl])]) (fun i=>13≤i∧i≤26∧∀j:Nat,13≤j→j<i→bC (j:Int)≠w) (fun i=>26-i) 13 (aB [0,1,4,5] [(0,0),(4,4)] (by decide) (by decide) (by simp[hp]) (by simp) (by simp)) (⟨Nat.le_refl _,by decide,fun j h1 h2=>absurd h2 (by omega)⟩) fun i hi2=>?_
  refine pS.seq ?_
  refine pS.seq ?_
  rcases(by have:=hi2.2.1;omega:¬(i:Int)<26∨(i:Int)<26)with h26|h26
  ·refine Gg hT hW (fun _=>none) (by intro d;first|exact⟨rfl,fun _ h=>h⟩|(split<;>exact⟨rfl,fun _ h=>h⟩)) ?_
   simp[h26]
   refine aC ?_
   simp[h26]
   refine pS.exit ?_
   simp
   refine Qo.mk i (aB [0,1,4,5] [(0,0),(4,4)] (by decide) (by decide) (by simp[hp]) (by simp) (by simp)) ?_
   exact⟨hi2.1,hi2.2.1,hi2.2.2,fun z=>absurd z h26⟩
  ·have q1:=AI (k:=(i:Int)) (by omega) h26
   rw[Int.toNat_natCast]at q1
   refine pS.ro hT hW (fun|10=>some<| .plain ⟨.d (.sl zG),true⟩|_=>none) ?_
   simp[h26,q1]
   refine⟨⟨hst,by have:=hi2.2.1;omega⟩,?_⟩
   refine aC ?_
   simp
   refine⟨fun h2=>?_,fun h2=>?_⟩
   ·refine pS.skip ?_
    simp
    refine pS.block ?_
    refine aL ?_
    simp
    refine⟨by omega,?_⟩
    refine KN.mk (i+1) (aB [0,1,4,5] [(0,0),(4,4)] (by decide) (by decide) (by simp[hp]) (by simp) (by simp)) ?_ ?_
    ·refine⟨by omega,by omega,fun j z1 z2=>?_⟩
     by_cases e:j=i
     ·rw[e];exact h2
     ·exact hi2.2.2 j z1 (by omega)
    ·omega
   ·refine pS.exit ?_
    simp
    refine Qo.mk i (aB [0,1,4,5] [(0,0),(4,4)] (by decide) (by decide) (by simp[hp]) (by simp) (by simp)) ?_
    exact⟨hi2.1,hi2.2.1,hi2.2.2,fun _=>h2⟩
 ·refine pS.seq ?_
  refine aA ?_
  simp
  refine aC ?_
  simp
  refine⟨fun h4=>?_,fun h4=>?_⟩
  ·have hlow:¬12<dT p.peek:=fun z=>by
    obtain⟨z1,z2⟩:=GO (w:=p.peek) (by omega)
    refine hc4.2.2.1 (dT p.peek).toNat (by omega) (by omega) ?_
    rw[Int.toNat_of_nonneg (by omega),z1,hw]
   have esm:tR ex p=BK ex p:=if_neg hlow
   refine pS.seq ?_
   have ha:=Kc s T c p w hw n ex hE hn f
   refine pS.ro hT hW (fun|23=>some (.gen ⟨[(0,0)],[],[],iY s T (BK ex p).2,.d (BK ex p).1.d⟩)|_=>none) ?_
   simp
   refine⟨by simpa using ha,?_⟩
   refine pS.ret ?_
   simp
   exact aB [0] [(0,0)] (by decide) (by decide) (by simp[hp]) (by simp[esm]) (by simp[esm])
  ·have hi:13≤i∧i≤25:=by have:=hc4.1;have:=hc4.2.1;omega
   have hwi:=hc4.2.2.2 (by omega)
   have hki:dT p.peek=(i:Int):=by rw[hw,←hwi];exact yK (by omega)
   have hpk:p.peek≠[]:=fun e=>by rw[AR e]at hki;omega
   have hsk:=wD (T:=T) hpk
   have hps:=f.pos hpk
   have htk:p.took p.peek=p.skip:=cR (jM.2 ⟨hpk,rfl⟩)
   have esm:tR ex p=mE ex (i:Int) p.skip:=by unfold tR;rw[hki,htk,if_pos (by omega)]
   have hl:=uU hpk
   have fsk:=f.skip
   refine pS.skip ?_
   simp
   refine aA ?_
   simp
   refine⟨by omega,?_⟩
   simp only[←hsk]
   refine aA ?_
   simp
   refine pS.seq ?_
   refine aA ?_
   simp
   refine pS.block ?_
   refine aT (ι:=BC) (fun⟨b⟩=>aY [(0,.bx 0 0),(4,.bx 4 0),(6,.bx 6 0),(33,.d (aD (i:Int))),(34,.d (.bool b))]) (fun⟨b⟩=>aK [(0,.box false [.d (.str s),.d (.sl (T.map Tk.r)),.d (aD ((T.length:Int)- p.skip.l.length)),.d (.bool (!decide (p.e=0))),.d (.bool (decide (p.e=5)))]),(4,.box false [.d (aD 0),.d (.str []),.d (aD 0),.nl]),(6,.box false [.d (aD (i:Int)),.d (.str []),.d (aD 0),.nl])]) (fun⟨b⟩=>b=true↔((i:Int)=13∨(i:Int)=14∨(i:Int)=17∨(i:Int)=18)) ?_ fun⟨b⟩ hc13=>?_
   ·refine aA ?_
    simp
    refine aC ?_
    simp
    refine⟨fun h9=>?_,fun h9=>?_⟩
    ·refine pS.skip ?_
     simp
     refine Qo.mk ⟨decide ((i:Int)=13)⟩ (aB [0,4,6,33,34] [(0,0),(4,4),(6,6)] (by decide) (by decide) (by simp[hp]) (by simp) (by simp)) ?_
     simp[h9]
    ·refine aA ?_
     simp
     refine aC ?_
     simp
     refine⟨fun h10=>?_,fun h10=>?_⟩
     ·refine pS.skip ?_
      simp
      refine Qo.mk ⟨decide ((i:Int)=14)⟩ (aB [0,4,6,33,34] [(0,0),(4,4),(6,6)] (by decide) (by decide) (by simp[hp]) (by simp) (by simp)) ?_
      simp[h10]
     ·refine aA ?_
      simp
      refine aC ?_
      simp
      refine⟨fun h11=>?_,fun h11=>?_⟩
      ·refine pS.skip ?_
       simp
       refine Qo.mk ⟨decide ((i:Int)=17)⟩ (aB [0,4,6,33,34] [(0,0),(4,4),(6,6)] (by decide) (by decide) (by simp[hp]) (by simp) (by simp)) ?_
       simp[h11]
      ·refine aL ?_
       simp
       refine Qo.mk ⟨decide ((i:Int)=18)⟩ (aB [0,4,6,33,34] [(0,0),(4,4),(6,6)] (by decide) (by decide) (by simp[hp]) (by simp) (by simp)) ?_
       simp only[decide_eq_true_eq];omega
   ·refine aC ?_
    simp
    refine⟨fun h13=>?_,fun h13=>?_⟩
    ·have q13:=hc13.1 h13
     have hna:=xJ s T p.skip c fsk
     refine pS.ro hT hW (fun|40=>some (.gen ⟨[(0,0)],[],[],iY s T (aM p.skip).2,.d (.str (aM p.skip).1)⟩)|_=>none) ?_
     simp
     refine⟨hna,?_⟩
     refine aA ?_
     simp
     refine pS.ret ?_
     simp
     have e:=vF (ex:=ex) (k:=(i:Int)) (p:=p.skip) (by omega) (by omega) (by omega)
     rw[BL (by omega) (by omega)]at e
     refine aS (x:=(tR ex p).1.d) (by simp[esm,e]) ?_
     simp
     exact aB [0] [(0,0)] (by decide) (by decide) (by simp[hp]) (by simp) (by simp[esm,e])
    ·have q13:¬((i:Int)=13∨(i:Int)=14∨(i:Int)=17∨(i:Int)=18):=fun q=>by simp[hc13.2 q]at h13
     refine aT (ι:=BC) (fun⟨b⟩=>aY [(0,.bx 0 0),(4,.bx 4 0),(6,.bx 6 0),(33,.d (aD (i:Int))),(42,.d (.bool b))]) (fun⟨b⟩=>aK [(0,.box false [.d (.str s),.d (.sl (T.map Tk.r)),.d (aD ((T.length:Int)- p.skip.l.length)),.d (.bool (!decide (p.e=0))),.d (.bool (decide (p.e=5)))]),(4,.box false [.d (aD 0),.d (.str []),.d (aD 0),.nl]),(6,.box false [.d (aD (i:Int)),.d (.str []),.d (aD 0),.nl])]) (fun⟨b⟩=>b=true↔((i:Int)=15∨(i:Int)=22)) ?_ fun⟨b⟩ hc16=>?_
     ·refine aA ?_
      simp
      refine aC ?_
      simp
      refine⟨fun h14=>?_,fun h14=>?_⟩
      ·refine pS.skip ?_
       simp
       refine Qo.mk ⟨decide ((i:Int)=15)⟩ (aB [0,4,6,33,42] [(0,0),(4,4),(6,6)] (by decide) (by decide) (by simp[hp]) (by simp) (by simp)) ?_
       simp[h14]
      ·refine aL ?_
       simp
       refine Qo.mk ⟨decide ((i:Int)=22)⟩ (aB [0,4,6,33,42] [(0,0),(4,4),(6,6)] (by decide) (by decide) (by simp[hp]) (by simp) (by simp)) ?_
       simp only[decide_eq_true_eq];omega
     ·refine aC ?_
      simp
      refine⟨fun h16=>?_,fun h16=>?_⟩
      ·have q16:=hc16.1 h16
       refine pS.seq ?_
       have hna:=xJ s T p.skip c fsk
       have gl:=(eO (fsk.good c)).1
       refine pS.ro hT hW (fun|46=>some (.gen ⟨[(0,0)],[],[],iY s T (aM p.skip).2,.d (.str (aM p.skip).1)⟩)|_=>none) ?_
       simp
       refine⟨hna,?_⟩
       have hx:=hE.ok (aM p.skip).2 (by omega) fsk.name
       refine aI hT hW bU (lk [[],[0],[],[2],[2,3],[0,1,2,3,4],[0,1,2,3,4,5],[0,1,2,3,4,5,6]]) (lk [[0,52],[0,52],[],[],[],[],[],[]]) (lk [[],[],[],[0],[52],[53],[],[6]]) (by kernel_rfl) (fun|51=>some (.gen ⟨[(0,0)],[],[],iY s T (ex (aM p.skip).2).2,.d (ex (aM p.skip).2).1.d⟩)|_=>none) (by intro d;first|exact⟨rfl,fun _ h=>h⟩|(split<;>exact⟨rfl,fun _ h=>h⟩)) ?_
       simp
       refine⟨by simpa using hx,?_⟩
       refine aA ?_
       simp
       refine pS.ret ?_
       simp
       have e:=Ek (ex:=ex) (k:=(i:Int)) (p:=p.skip) (by omega)
       rw[BL (by omega) (by omega)]at e
       refine aS (x:=(tR ex p).1.d) (by simp[esm,e]) ?_
       simp
       exact aB [0] [(0,0)] (by decide) (by decide) (by simp[hp]) (by simp) (by simp[esm,e])
      ·have q16:¬((i:Int)=15∨(i:Int)=22):=fun q=>by simp[hc16.2 q]at h16
       refine aT (ι:=BC) (fun⟨b⟩=>aY [(0,.bx 0 0),(4,.bx 4 0),(6,.bx 6 0),(33,.d (aD (i:Int))),(55,.d (.bool b))]) (fun⟨b⟩=>aK [(0,.box false [.d (.str s),.d (.sl (T.map Tk.r)),.d (aD ((T.length:Int)- p.skip.l.length)),.d (.bool (!decide (p.e=0))),.d (.bool (decide (p.e=5)))]),(4,.box false [.d (aD 0),.d (.str []),.d (aD 0),.nl]),(6,.box false [.d (aD (i:Int)),.d (.str []),.d (aD 0),.nl])]) (fun⟨b⟩=>b=true↔((i:Int)=16∨(i:Int)=23)) ?_ fun⟨b⟩ hc20=>?_
       ·refine aA ?_
        simp
        refine aC ?_
        simp
        refine⟨fun h18=>?_,fun h18=>?_⟩
        ·refine pS.skip ?_
         simp
         refine Qo.mk ⟨decide ((i:Int)=16)⟩ (aB [0,4,6,33,55] [(0,0),(4,4),(6,6)] (by decide) (by decide) (by simp[hp]) (by simp) (by simp)) ?_
         simp[h18]
        ·refine aL ?_
         simp
         refine Qo.mk ⟨decide ((i:Int)=23)⟩ (aB [0,4,6,33,55] [(0,0),(4,4),(6,6)] (by decide) (by decide) (by simp[hp]) (by simp) (by simp)) ?_
         simp only[decide_eq_true_eq];omega
       ·refine aC ?_
        simp
        refine⟨fun h20=>?_,fun h20=>?_⟩
        ·have q20:=hc20.1 h20
         refine pS.seq ?_
         have hna:=xJ s T p.skip c fsk
         refine pS.ro hT hW (fun|59=>some (.gen ⟨[(0,0)],[],[],iY s T (aM p.skip).2,.d (.str (aM p.skip).1)⟩)|_=>none) ?_
         simp
         refine⟨hna,?_⟩
         have hlo:=vD s T (aM p.skip).2 c fsk.name
         refine aI hT hW bU (lk [[],[0],[],[2],[2,3],[2,3,4],[0,1,2,3,4,5],[0,1,2,3,4,5,6],[0,1,2,3,4,5,6,7]]) (lk [[0,66],[0,66],[],[],[],[],[],[],[]]) (lk [[],[],[],[0],[],[66],[67],[],[6]]) (by kernel_rfl) (fun|64=>some (.gen ⟨[(0,0)],[],[],iY s T (aU (aM p.skip).2).2,.d (.str (aU (aM p.skip).2).1)⟩)|_=>none) (by intro d;first|exact⟨rfl,fun _ h=>h⟩|(split<;>exact⟨rfl,fun _ h=>h⟩)) ?_
         simp
         refine⟨hlo,?_⟩
         refine aA ?_
         simp
         refine pS.ret ?_
         simp
         have e:=CU (ex:=ex) (k:=(i:Int)) (p:=p.skip) (by omega) (by omega)
         rw[BL (by omega) (by omega)]at e
         refine aS (x:=(tR ex p).1.d) (by simp[esm,e]) ?_
         simp
         exact aB [0] [(0,0)] (by decide) (by decide) (by simp[hp]) (by simp) (by simp[esm,e])
        ·have q20:¬((i:Int)=16∨(i:Int)=23):=fun q=>by simp[hc20.2 q]at h20
         refine aA ?_
         simp
         refine aC ?_
         simp
         refine⟨fun h22=>?_,fun h22=>?_⟩
         ·refine pS.seq ?_
          have hlo:=vD s T p.skip c fsk
          refine pS.ro hT hW (fun|72=>some (.gen ⟨[(0,0)],[],[],iY s T (aU p.skip).2,.d (.str (aU p.skip).1)⟩)|_=>none) ?_
          simp
          refine⟨hlo,?_⟩
          have hnu:=uC s T (aU p.skip).2 c fsk.local (i:Int) 2 6 (.inl (by rw[h22];rfl)) (by rw[h22];rfl)
          refine pS.ro hT hW (fun|75=>some (.gen ⟨[(0,0)],[],[],iY s T (aP (i:Int) (aU p.skip).2).2,.d (aD (aP (i:Int) (aU p.skip).2).1)⟩)|_=>none) ?_
          simp
          refine⟨hnu,?_⟩
          refine aA ?_
          simp
          refine pS.ret ?_
          simp
          have e:=yR (ex:=ex) (k:=(i:Int)) (p:=p.skip) (by omega) (by omega) (by omega)
          rw[It (by omega)]at e
          refine aS (x:=(tR ex p).1.d) (by simp[esm,e]) ?_
          simp
          exact aB [0] [(0,0)] (by decide) (by decide) (by simp[hp]) (by simp) (by simp[esm,e])
         ·refine aA ?_
          simp
          refine aC ?_
          simp
          refine⟨fun h25=>?_,fun h25=>?_⟩
          ·have hlo:=vD s T p.skip c fsk
           refine pS.ro hT hW (fun|80=>some (.gen ⟨[(0,0)],[],[],iY s T (aU p.skip).2,.d (.str (aU p.skip).1)⟩)|_=>none) ?_
           simp
           refine⟨hlo,?_⟩
           refine aA ?_
           simp
           refine pS.ret ?_
           simp
           have e:=vF (ex:=ex) (k:=(i:Int)) (p:=p.skip) (by omega) (by omega) (by omega)
           rw[It (by omega)]at e
           refine aS (x:=(tR ex p).1.d) (by simp[esm,e]) ?_
           simp
           exact aB [0] [(0,0)] (by decide) (by decide) (by simp[hp]) (by simp) (by simp[esm,e])
          ·refine aA ?_
           simp
           refine aC ?_
           simp
           refine⟨fun h27=>?_,fun h27=>?_⟩
           ·have hnu:=uC s T p.skip c fsk (i:Int) 1 9 (.inl (by rw[h27];rfl)) (by rw[h27];rfl)
            refine pS.ro hT hW (fun|85=>some (.gen ⟨[(0,0)],[],[],iY s T (aP (i:Int) p.skip).2,.d (aD (aP (i:Int) p.skip).1)⟩)|_=>none) ?_
            simp
            refine⟨hnu,?_⟩
            refine aA ?_
            simp
            refine pS.ret ?_
            simp
            have e:=yR (ex:=ex) (k:=(i:Int)) (p:=p.skip) (by omega) (by omega) (by omega)
            rw[BM (by omega)]at e
            refine aS (x:=(tR ex p).1.d) (by simp[esm,e]) ?_
            simp
            exact aB [0] [(0,0)] (by decide) (by decide) (by simp[hp]) (by simp) (by simp[esm,e])
           ·refine aA ?_
            simp
            refine aC ?_
            simp
            refine⟨fun h29=>?_,fun h29=>?_⟩
            ·have hnu:=uC s T p.skip c fsk (i:Int) 1 99 (.inl (by rw[h29];rfl)) (by rw[h29];rfl)
             refine pS.ro hT hW (fun|90=>some (.gen ⟨[(0,0)],[],[],iY s T (aP (i:Int) p.skip).2,.d (aD (aP (i:Int) p.skip).1)⟩)|_=>none) ?_
             simp
             refine⟨hnu,?_⟩
             refine aA ?_
             simp
             refine pS.ret ?_
             simp
             have e:=yR (ex:=ex) (k:=(i:Int)) (p:=p.skip) (by omega) (by omega) (by omega)
             rw[BM (by omega)]at e
             refine aS (x:=(tR ex p).1.d) (by simp[esm,e]) ?_
             simp
             exact aB [0] [(0,0)] (by decide) (by decide) (by simp[hp]) (by simp) (by simp[esm,e])
            ·refine aA ?_
             simp
             refine aC ?_
             simp
             refine⟨fun h31=>?_,fun h31=>?_⟩
             ·have hx:=hE.ok p.skip (by omega) fsk
              rw[Nd.d_eq]at hx
              refine aI hT hW bU (lk [[],[0],[],[2],[2,3],[0,1,2,3,4],[0,1,2,3,4,5],[0,1,2,3,4,5,6]]) (lk [[0,98],[0,98],[],[],[],[],[],[]]) (lk [[],[],[],[0],[98],[99],[],[6]]) (by kernel_rfl) (fun|97=>some (.gen ⟨[(0,0)],[],[],iY s T (ex p.skip).2,.d (ex p.skip).1.d⟩)|_=>none) (by intro d;first|exact⟨rfl,fun _ h=>h⟩|(split<;>exact⟨rfl,fun _ h=>h⟩)) ?_
              simp
              refine⟨hx,?_⟩
              refine aA ?_
              simp
              refine pS.ret ?_
              simp
              have e:=Ek (ex:=ex) (k:=(i:Int)) (p:=p.skip) (by omega)
              rw[BM (by omega)]at e
              refine aS (x:=(tR ex p).1.d) (by simp[esm,e]) ?_
              simp
              exact aB [0] [(0,0)] (by decide) (by decide) (by simp[hp]) (by simp) (by simp[esm,e])
             ·refine pS.skip ?_
              simp
              refine aA ?_
              simp
              refine pS.ret ?_
              exact absurd (show False by omega) id
theorem RZ{T:List Tk}(hg:bH T){n:Nat}{ex:PS→Nd×PS}(hx:Fs T n ex):Fs T n (BK ex):=fun p h f=>by
 have gp:=f.goodT hg
 unfold BK
 split
 ·obtain⟨a1,a2⟩:=Fs.need f.local [61]
  have l1:=(gI gp).1
  obtain⟨b1,b2⟩:=hx ((aU p).2.need [61]) (by omega) a1
  exact⟨b1,by simp only;omega⟩
 ·obtain⟨a1,a2⟩:=Fs.need f.place [61]
  have l1:=(qF (p.l.length+1) p (Nat.lt_succ_self _) gp).1
  obtain⟨b1,b2⟩:=hx ((aX p).2.need [61]) (by omega) a1
  exact⟨b1,by simp only;omega⟩
theorem Fs.cmdA{T:List Tk}(hg:bH T){k:Int}{p:PS}(f:qK T p):qK T (cmdA k p).2∧(cmdA k p).2.l.length≤p.l.length:=by
 have gp:=f.goodT hg
 refine⟨?_,(vE gp).1⟩
 unfold Go.Eng.cmdA
 split
 ·exact f.local
 ·split
  ·exact f
  ·exact f.name
theorem Sa{T:List Tk}(hg:bH T){n:Nat}{ex:PS→Nd×PS}(hx:Fs T n ex)(k:Int):Fs T n (mE ex k):=fun p h f=>by
 obtain⟨a1,a2⟩:=Fs.cmdA (k:=k) hg f
 have ga:=a1.goodT hg
 by_cases h1:k=15∨k=22∨k=24
 ·rw[Ek h1]
  obtain⟨b1,b2⟩:=hx _ (by omega) a1
  exact⟨b1,by simp only;omega⟩
 ·by_cases h2:k=16∨k=23
  ·rw[CU h1 h2]
   have:=(gI ga).1
   exact⟨a1.local,by simp only;omega⟩
  ·by_cases h3:k=19∨k=21∨k=25
   ·rw[yR h1 h2 h3]
    have:=(kT (k:=k) ga).1
    exact⟨a1.numeral,by simp only;omega⟩
   ·rw[vF h1 h2 h3]
    exact⟨a1,a2⟩
theorem Pg{T:List Tk}(hg:bH T){n:Nat}{ex:PS→Nd×PS}(hx:Fs T n ex):Fs T n (tR ex):=fun p h f=>by
 unfold tR
 split
 ·have l1:=GM (p:=p) (w:=p.peek)
  obtain⟨a1,a2⟩:=Sa hg hx (dT p.peek) (p.took p.peek) (by omega) f.took
  exact⟨a1,by omega⟩
 ·exact RZ hg hx p h f
theorem Lh{ex bl:PS→Nd×PS}{p:PS}(h:dT p.peek=11∨dT p.peek=12):gH ex bl p=MA ex bl (dT p.peek) p:=by
 unfold MA
 split
 ·rename_i z
  exact CV rfl z.1 z.2
 ·rename_i z
  refine Ld rfl h fun q=>?_
  cases e:(bl (ex (p.took p.peek)).2).2.is cF with
  |false=>rfl
  |true=>exact absurd ⟨q,e⟩ z
theorem Iu{ex bl:PS→Nd×PS}{p:PS}(h:¬(dT p.peek=11∨dT p.peek=12)):gH ex bl p=((tR ex p).1,(tR ex p).2.need [59]):=by
 unfold tR
 by_cases h2:12<dT p.peek
 ·rw[if_pos h2,GL rfl h2]
 ·rw[if_neg h2]
  unfold BK
  by_cases h3:p.peek.take 1=[36]
  ·rw[if_pos h3,AS rfl h h2 h3]
  ·rw[if_neg h3,AT rfl h h2 h3]
theorem Ph{T:List Tk}(hg:bH T){n:Nat}{ex bl:PS→Nd×PS}(hx:Fs T (n+1) ex)(hb:Fs T n bl):Fs T (n+1) (gH ex bl):=fun p h f=>by
 by_cases hk:dT p.peek=11∨dT p.peek=12
 ·rw[Lh hk]
  have l0:=tM (pK (p:=p) (by omega))
  obtain⟨a1,a2⟩:=hx (p.took p.peek) (by omega) f.took
  obtain⟨b1,b2⟩:=hb (ex (p.took p.peek)).2 (by omega) a1
  unfold MA
  split
  ·have l2:=GM (p:=(bl (ex (p.took p.peek)).2).2) (w:=cF)
   obtain⟨c1,c2⟩:=hb ((bl (ex (p.took p.peek)).2).2.took cF) (by omega) b1.took
   exact⟨c1,by simp only;omega⟩
  ·exact⟨b1,by simp only;omega⟩
 ·rw[Iu hk]
  obtain⟨a1,a2⟩:=Pg hg hx p h f
  obtain⟨b1,b2⟩:=Fs.need a1 [59]
  exact⟨b1,by simp only;omega⟩
theorem Pi{w:aN}:w=[105,102]↔dT w=11:=by
 constructor
 ·rintro rfl;decide
 ·intro h
  have:=(GO (w:=w) (by omega)).1
  rw[h]at this
  exact this.symm
theorem Kf{w:aN}:w=Pf↔dT w=12:=by
 constructor
 ·rintro rfl;decide
 ·intro h
  have:=(GO (w:=w) (by omega)).1
  rw[h]at this
  exact this.symm
theorem Iv(s:aN)(T:List Tk)(c:Co s T)(p:PS)(n:Nat)(ex bl:PS→Nd×PS)(hE:RR s T (n+1) 280 ex)(hB:RR s T n 196 bl)(hn:p.l.length<n+1)(f:qK T p):qX Tryz.prog 235 [.bx 0 0] (iY s T p) (iY s T (gH ex bl p).2) (.d (gH ex bl p).1.d):=by
 unfold iY
 refine qX.cell hT Tryz.func235 (by kernel_rfl) (c:=_) rfl Tryz.ntmps235 (by simp) Tryz.results235 fun w0 X hp=>?_
 refine aA ?_
 simp
 refine cB hT hW (fun|6=>some (.gen ⟨[(0,0)],[],[],iY s T p,.d (.str p.peek)⟩)|_=>none) ?_
 simp
 refine⟨qW s T p c f,?_⟩
 refine pS.seq ?_
 refine aA ?_
 simp
 refine aC ?_
 simp
 refine⟨fun g=>?_,fun g1 g2=>?_⟩
 ·have hk:dT p.peek=11∨dT p.peek=12:=g.imp Pi.1 Kf.1
  have es:=Lh (ex:=ex) (bl:=bl) hk
  have hpk:p.peek≠[]:=fun e=>by rw[AR e]at hk;omega
  refine pS.seq ?_
  have hbr:=Kd s T c p p.peek (dT p.peek) hk Kf hpk n ex bl hE hB hn f
  refine pS.ro hT hW (fun|15=>some (.gen ⟨[(0,0)],[],[],iY s T (MA ex bl (dT p.peek) p).2,.d (MA ex bl (dT p.peek) p).1.d⟩)|_=>none) ?_
  simp
  refine⟨by simpa using hbr,?_⟩
  refine pS.ret ?_
  simp
  exact aB [0] [(0,0)] (by decide) (by decide) (by simp[hp]) (by simp[es]) (by simp[es])
 ·have hk:¬(dT p.peek=11∨dT p.peek=12):=fun z=>z.elim (fun y=>g1 (Pi.2 y)) (fun y=>g2 (Kf.2 y))
  have es:=Iu (ex:=ex) (bl:=bl) hk
  refine pS.skip ?_
  simp
  refine pS.seq ?_
  have hsm:=Ke s T c p p.peek rfl (n+1) ex hE hn f
  have fm:=Pg c.hg hE.fs p hn f
  refine pS.ro hT hW (fun|18=>some (.gen ⟨[(0,0)],[],[],iY s T (tR ex p).2,.d (tR ex p).1.d⟩)|_=>none) ?_
  simp
  refine⟨by simpa using hsm,?_⟩
  refine pS.seq ?_
  have hw5:=vC s T (tR ex p).2 c fm.1 [59] (by simp)
  refine pS.ro hT hW (fun|20=>some (.gen ⟨[(0,0)],[],[],iY s T ((tR ex p).2.need [59]),.tup []⟩)|_=>none) ?_
  simp
  refine⟨hw5,?_⟩
  refine aA ?_
  simp
  refine pS.ret ?_
  simp
  exact aB [0] [(0,0)] (by decide) (by decide) (by simp[hp]) (by simp[es]) (by simp[es])
theorem MD(n:Nat)(q:PS):(kS false n q).2=(kS true n q).2:=(HM n q).1
theorem Kg:∀n:Nat,JZ n (kS false n)
 |0=>fun q h _ _=>absurd h (Nat.not_lt_zero _)
 |n+1=>El (sS false) (tH (mT false n)) (Az (n+1)) (uW (mT false n) (uX n))
theorem JZ.stmtT(n:Nat):JZ n (kS true n):=fun q h g e=>by
 rw[←MD];exact Kg n q h g e
theorem Li{s:aN}{T:List Tk}(c:Co s T):∀n:Nat,RR s T n 235 (kS true n)
 |0=>⟨fun q h _=>absurd h (Nat.not_lt_zero _),fun q h _=>absurd h (Nat.not_lt_zero _)⟩
 |n+1=>by
  have hB:=RR.block c (Li c n) (JZ.stmtT n)
  have hE:=Pe c (n+1)
  exact⟨fun q hq f=>Iv s T c q n _ _ hE hB hq f,Ph c.hg hE.fs hB.fs⟩
theorem RR.blockT{s:aN}{T:List Tk}(c:Co s T)(n:Nat):RR s T n 196 (qQ true n):=RR.block c (Li c n) (JZ.stmtT n)
end
open Go.Proofs
section
attribute[local simp] pL.cond Nd.d_eq nd_t nd_dr nd_td ndsD bG eT qZ eU eB
attribute[local simp] qL Cu Cv Cw Ir
theorem Iw(n:Nat):rC n 208 (fun q=>dD false (q.l.length+1) q):=
 ⟨fun q _ hg=>(Ej (q.l.length+1)).ok q (Nat.lt_succ_self _) hg,fun q hq hg=>(Az n).le q hq hg⟩
theorem Em:∀n,JZ n (kS false n)
 |0=>fun q h=>absurd h (Nat.not_lt_zero _)
 |n+1=>El (sS false) (tH (mT false n)) (Az (n+1)) (uW (mT false n) (uX n))
theorem En:∀n:Nat,n≤1100000→rC n 162 (kS false n)
 |0,_=>⟨fun q h _=>absurd h (Nat.not_lt_zero _),fun q h _=>absurd h (Nat.not_lt_zero _)⟩
 |n+1,h=>by
  have hB:rC n 116 (fU (kS false n)):=
   ⟨fun q hq hg=>Io q n (kS false n) (En n (by omega)) (Em n) hq hg (by omega),fun q hq hg=>(uW (mT false n) (uX n)).le q hq hg⟩
  refine⟨fun q hq hg=>?_,fun q hq hg=>(uX (n+1)).le q hq hg⟩
  exact Kb q n (fun q=>dD false (q.l.length+1) q) (fU (kS false n)) (Iw (n+1)) hB hq hg
theorem rC.block(n:Nat)(h:n≤1100000):rC n 116 (qQ false n):=
 ⟨fun q hq hg=>Io q n (kS false n) (En n h) (Em n) hq hg (by omega),fun q hq hg=>(uW (mT false n) (uX n)).le q hq hg⟩
theorem QR(s:aN):dG s=vX (fun x=>decide (s=x)) (cZ.take 7):=by
 unfold dG
 have e2:(fun i=>decide (cZ.getD i []=s))=fun i=>decide (s=cZ.getD i []):=by funext i;rw[decide_eq_decide];exact eq_comm
 have e:=zX (fun x=>decide (s=x)) [] (cZ.take 7)
 split
 ·rename_i h;subst h;rfl
 ·unfold vX
  rw[←e]
  rw[e2]
  rfl
theorem ME{s:aN}: -1≤dG s∧dG s≤6:=by
 unfold dG
 split
 ·omega
 ·split
  ·rename_i i e
   have:=List.mem_of_find?_eq_some e
   simp at this
   omega
  ·omega
theorem Pj{s:aN}(h:0≤dG s):bC (dG s)=s∧s≠[]:=by
 unfold dG at*
 split at h
 ·omega
 ·rename_i hs
  split at h
  ·rename_i i e
   have:=List.find?_some e
   simp only[decide_eq_true_eq]at this
   rw[if_neg hs]
   exact⟨this,hs⟩
  ·omega
theorem QS{p:PS}(h:dG p.peek<0):kP false p=(.mk 0 [] 0 [],p.fail 2):=by unfold kP;simp only[];rw[if_pos h]
theorem xK{p:PS}(h:¬dG p.peek<0):p.skip=p.took (bC (dG p.peek)):=by
 obtain⟨h1,h2⟩:=Pj (s:=p.peek) (by omega)
 rw[h1,cR (jM.2 ⟨h2,rfl⟩)]
section
variable{p q:PS} {t:aN} {k:Int} (hk:dG p.peek=k) (h:¬k<0) (hn:aM (p.took (bC k))=(t,q))
include hk h hn
theorem MF(h5:k=5∨k=6):kP false p=(.mk k t 0 [(qQ false (q.l.length+1) q).1],(qQ false (q.l.length+1) q).2):=by
 subst hk
 unfold kP;simp only[];rw[if_neg h,xK h,hn,if_pos h5]
theorem QT(h1:k=1):kP false p=(.mk k t 0 (lL ((q.need [123]).l.length+1) [] (q.need [123])).1,(lL ((q.need [123]).l.length+1) [] (q.need [123])).2.need [125]):=by
 subst hk
 unfold kP;simp only[];rw[if_neg h,xK h,hn,if_neg (by omega),if_pos h1]
theorem QU(h1:k=0):kP false p=(.mk k t (bK (q.need [61])).1 [],(bK (q.need [61])).2.need [59]):=by
 subst hk
 unfold kP;simp only[];rw[if_neg h,xK h,hn,if_neg (by omega),if_neg (by omega),if_pos h1]
theorem Pk(h1:k=2):kP false p=(.mk k t (aP 2 q).1 [],(aP 2 q).2.need [59]):=by
 subst hk
 unfold kP;simp only[];rw[if_neg h,xK h,hn,if_neg (by omega),if_neg (by omega),if_neg (by omega),if_pos h1]
theorem Pl(h1:¬(k=5∨k=6))(h2:¬k=1)(h3:¬k=0)(h4:¬k=2):kP false p=(.mk k t 0 [],q.need [59]):=by
 subst hk
 unfold kP;simp only[];rw[if_neg h,xK h,hn,if_neg h1,if_neg h2,if_neg h3,if_neg h4]
end
theorem MG{ks:List Nd}{q:PS}(h:q.e=0→q.peek=[125]):∀f,lL f ks q=(ks,q)
 |0=>rfl
 |f+1=>by
  rw[lL,if_pos]
  by_cases e:q.e=0
  ·exact .inr (h e)
  ·exact .inl e
theorem Pm{ks:List Nd}{q:PS}{f:Nat}(hf:q.l.length<f)(h:q.e=0)(hp:¬q.peek=[125]):
 lL f ks q=lL (f-1) (ks++[.mk 7 (aM q).1 (bK ((aM q).2.need [61])).1 []]) ((bK ((aM q).2.need [61])).2.need [59]):=by
 obtain⟨k,rfl⟩:∃k,f=k+1:=⟨f-1,by omega⟩
 rw[lL,if_neg]
 ·rfl
 ·rintro(e|e)
  ·exact e h
  ·exact hp e
theorem MH{q:PS}(h:bH q.l):((bK ((aM q).2.need [61])).2.need [59]).l.length≤q.l.length∧bH ((bK ((aM q).2.need [61])).2.need [59]).l∧
 (((bK ((aM q).2.need [61])).2.need [59]).e=0→((bK ((aM q).2.need [61])).2.need [59]).l.length<q.l.length):=by
 have g1:=eO h
 have g2:=cM (s:=[61]) g1.2.1
 have g3:=Ax g2.2
 have g4:=cM (s:=[59]) g3.2.1
 refine⟨by omega,g4.2,fun e=>?_⟩
 have e1:=(jA e).1
 have l1:=mG e1
 have:(bK ((aM q).2.need [61])).2.need [59]=(bK ((aM q).2.need [61])).2.skip:=by rw[GG e1,cR e1]
 rw[this]
 omega
theorem Ix:∀x∈List.take 26 zG,(aE x).length=1:=by
 intro x hx
 rw[vY]at hx
 obtain⟨a,_,rfl⟩:=List.mem_map.1 hx
 rfl
theorem Iy:List.take 7 zG=(cZ.take 7).map DV.str:=rfl
structure Wu where
 n:Int
 q:PS
theorem Sb(p:PS)(hg:bH p.l)(hb:p.l.length≤1000000):qX Tryz.prog 58 [.bx 0 0] (eU p) (eU (kP false p).2) (.d (kP false p).1.d):=by
 unfold eU
 refine qX.cell hT Tryz.func58 (by kernel_rfl) (c:=_) rfl Tryz.ntmps58 (by simp) Tryz.results58 fun w0 X hp=>?_
 refine aA ?_
 simp
 refine pS.seq ?_
 have hi:=uI (cZ.take 7) p.peek
 have q2:=sV
 rw[←QR]at hi
 have hr:=ME (s:=p.peek)
 refine aI hT hW bU (lk [[],[],[1],[0,1,2],[0,1,2,3]]) (lk [[0],[],[],[],[]]) (lk [[],[],[0],[],[]]) (by kernel_rfl) (fun|8=>some (.gen ⟨[(0,0)],[],[],eU p,.d (.str p.peek)⟩)|9=>some<| .plain ⟨.d (aD (dG p.peek)),true⟩|_=>none) (by intro d;first|exact⟨rfl,fun _ h=>h⟩|(split<;>exact⟨rfl,fun _ h=>h⟩)) ?_
 simp[Iy]
 refine⟨⟨⟨⟨by omega,Ix⟩,qU p⟩,by simpa using hi⟩,?_⟩
 refine pS.seq ?_
 refine cB hT hW (fun|14=>some (.gen ⟨[(0,0)],[],[],eU p,.d (.str p.peek)⟩)|_=>none) ?_
 simp[yQ]
 refine⟨fun _=>qU p,?_⟩
 refine aC ?_
 simp
 refine⟨fun h2=>?_,fun h2 h2b=>?_⟩
 ·have h2:dG p.peek<0:=by
   rcases h2 with h|h
   ·exact h
   ·rw[h];decide
  refine cB hT hW (fun|18=>some (.gen ⟨[(0,0)],[],[],eU (p.fail 2),.tup []⟩)|_=>none) ?_
  simp
  refine⟨yP p 2,?_⟩
  refine aA ?_
  simp
  refine pS.ret ?_
  simp
  have e:=QS h2
  refine aS (x:=(kP false p).1.d) (by simp[e]) ?_
  simp
  exact aB [0] [(0,0)] (by decide) (by decide) (by simp[hp]) (by simp) (by simp[e])
 ·have hlt:¬dG p.peek<0:=by omega
  refine pS.skip ?_
  simp
  refine pS.seq ?_
  have hlt:¬dG p.peek<0:=by omega
  have wat:=AI (k:=dG p.peek) (by omega) (by omega)
  have htk:=oG p (bC (dG p.peek))
  refine pS.ro hT hW (fun|24=>some (.gen ⟨[(0,0)],[],[],eU (p.took (bC (dG p.peek))),.d (.bool (p.is (bC (dG p.peek))))⟩)|_=>none) ?_
  simp[wat]
  refine⟨⟨⟨by omega,by omega⟩,htk⟩,?_⟩
  refine pS.seq ?_
  have hna:=AL (p.took (bC (dG p.peek)))
  have gt:=gJ (s:=bC (dG p.peek)) hg
  have gl:=eO gt
  have lt:(p.took (bC (dG p.peek))).l.length≤p.l.length:=by unfold PS.took;split;exact gA;exact Nat.le_refl _
  refine pS.ro hT hW (fun|27=>some (.gen ⟨[(0,0)],[],[],eU (aM (p.took (bC (dG p.peek)))).2,.d (.str (aM (p.took (bC (dG p.peek)))).1)⟩)|_=>none) ?_
  simp
  refine⟨hna,?_⟩
  obtain⟨k,hk⟩:∃k,dG p.peek=k:=⟨_,rfl⟩
  obtain⟨⟨t,q⟩,hn⟩:∃x,aM (p.took (bC (dG p.peek)))=x:=⟨_,rfl⟩
  simp only[hn]at gl
  have lq:q.l.length≤p.l.length:=by omega
  simp only[hn]
  rw[hk]at hlt hn hr⊢
  refine aT (ι:=Wu) (fun⟨n,r⟩=>aY [(0,.bx 0 0),(2,.bx 2 0),(4,.bx 4 0)]) (fun⟨n,r⟩=>aK [(0,.box false [.d (qZ r.l),.d (aD r.e)]),(2,.box false [.d (aD 0),.d (.str []),.d (aD 0),.nl]),(4,.box false [.d (aD k),.d (.str t),.d (aD n),.nl])]) (fun⟨n,r⟩=>kP false p=(.mk k t n [],r.need [59])) ?_ fun⟨n,r⟩ hc27=>?_
  ·refine aA ?_
   simp
   refine pS.block ?_
   refine aT (ι:=BC) (fun⟨b⟩=>aY [(0,.bx 0 0),(2,.bx 2 0),(4,.bx 4 0),(29,.d (aD k)),(30,.d (.bool b))]) (fun⟨b⟩=>aK [(0,.box false [.d (qZ q.l),.d (aD q.e)]),(2,.box false [.d (aD 0),.d (.str []),.d (aD 0),.nl]),(4,.box false [.d (aD k),.d (.str t),.d (aD 0),.nl])]) (fun⟨b⟩=>b=true↔(k=5∨k=6)) ?_ fun⟨b⟩ hc10=>?_
   ·refine aA ?_
    simp
    refine aC ?_
    simp
    refine⟨fun h8=>?_,fun h8=>?_⟩
    ·refine pS.skip ?_
     simp
     refine Qo.mk ⟨decide (k=5)⟩ (aB [0,2,4,29,30] [(0,0),(2,2),(4,4)] (by decide) (by decide) (by simp[hp]) (by simp) (by simp)) ?_
     simp[h8]
    ·refine aL ?_
     simp
     refine Qo.mk ⟨decide (k=6)⟩ (aB [0,2,4,29,30] [(0,0),(2,2),(4,4)] (by decide) (by decide) (by simp[hp]) (by simp) (by simp)) ?_
     simp only[decide_eq_true_eq];omega
   ·refine aC ?_
    simp
    refine⟨fun h10=>?_,fun h10=>?_⟩
    ·have q10:=hc10.1 h10
     refine pS.seq ?_
     have hbl:=(rC.block (q.l.length+1) (by omega)).ok q (Nat.lt_succ_self _) gl.2.1
     refine pS.ro hT hW (fun|34=>some (.gen ⟨[(0,0)],[],[],eU (qQ false (q.l.length+1) q).2,.d (qQ false (q.l.length+1) q).1.d⟩)|_=>none) ?_
     simp
     refine⟨by simpa using hbl,?_⟩
     refine aA ?_
     simp
     refine pS.ret ?_
     simp
     have e:=MF hk hlt hn q10
     refine aS (x:=(kP false p).1.d) (by simp[e]) ?_
     simp
     exact aB [0] [(0,0)] (by decide) (by decide) (by simp[hp]) (by simp) (by simp[e])
    ·have q10:¬(k=5∨k=6):=fun z=>by simp[hc10.2 z]at h10
     refine aA ?_
     simp
     refine aC ?_
     simp
     refine⟨fun h12=>?_,fun h12=>?_⟩
     ·refine pS.seq ?_
      have hne:=pN q [123]
      have gn:=cM (s:=[123]) gl.2.1
      refine pS.ro hT hW (fun|41=>some (.gen ⟨[(0,0)],[],[],eU (q.need [123]),.tup []⟩)|_=>none) ?_
      simp
      refine⟨hne,?_⟩
      refine pX (fz:=false) (cs:=[.d (aD k),.d (.str t),.d (aD 0),.nl]) 4 3 1066 4 (by decide) ⟨by simp,by simp,by simp,?_⟩
      simp
      refine pS.seq ?_
      refine pS.block ?_
      refine bX (ι:=Tc) (fun⟨f,ks,r⟩=>aY [(0,.bx 0 0),(2,.bx 2 0),(4,.bx 4 0)]) (fun⟨f,ks,r⟩=>aK [(0,.box false [.d (qZ r.l),.d (aD r.e)]),(2,.box false [.d (aD 0),.d (.str []),.d (aD 0),.nl]),(4,.box false [.d (aD k),.d (.str t),.d (aD 0),.ow 1066 0 ks.length]),(1066,.row false 4 (ks.map Nd.d))]) (fun⟨f,ks,r⟩=>(r.e=0→r.l.length<f)∧bH r.l∧r.l.length≤p.l.length∧ks.length+r.l.length≤p.l.length+(if r.e=0 then 0 else 1)∧lL ((q.need [123]).l.length+1) [] (q.need [123])=lL f ks r) (fun⟨f,ks,r⟩=>2*r.l.length+(if r.e=0 then 1 else 0)) ⟨(q.need [123]).l.length+1,[],q.need [123]⟩ (aB [0,2,4] [(0,0),(2,2),(4,4),(1066,1066)] (by decide) (by decide) (by simp[hp]) (by simp) (by simp)) (⟨fun _=>Nat.lt_succ_self _,gn.2,by have:=gn.1;omega,by have:=gn.1;simp only[List.length_nil];omega,rfl⟩) fun⟨f,ks,r⟩ hi14=>?_
      refine pS.seq ?_
      refine pS.seq ?_
      have hpk:=qU r
      refine pS.ro hT hW (fun|49=>some (.gen ⟨[(0,0)],[],[],eU r,.d (.str r.peek)⟩)|_=>none) ?_
      simp[yQ]
      refine⟨fun _=>hpk,?_⟩
      refine aC ?_
      simp
      refine⟨fun g1 g2=>?_,fun g=>?_⟩
      ·refine pS.skip ?_
       simp
       refine pS.block ?_
       refine pS.seq ?_
       have ha:r.l.length≤p.l.length:=hi14.2.2.1
       have hks:ks.length+r.l.length≤p.l.length:=by have z:=hi14.2.2.2.1;simp only[g1,if_true]at z;omega
       have hle:=MH (q:=r) hi14.2.1
       have hn15:=AL r
       have g15:=eO (p:=r) hi14.2.1
       have g16:=cM (s:=[61]) g15.2.1
       refine pS.ro hT hW (fun|53=>some (.gen ⟨[(0,0)],[],[],eU (aM r).2,.d (.str (aM r).1)⟩)|_=>none) ?_
       simp
       refine⟨hn15,?_⟩
       refine pS.seq ?_
       have hn16:=pN (aM r).2 [61]
       refine pS.ro hT hW (fun|56=>some (.gen ⟨[(0,0)],[],[],eU ((aM r).2.need [61]),.tup []⟩)|_=>none) ?_
       simp
       refine⟨hn16,?_⟩
       refine pS.seq ?_
       have hn17:=FE ((aM r).2.need [61]) g16.2
       refine pS.ro hT hW (fun|58=>some (.gen ⟨[(0,0)],[],[],eU (bK ((aM r).2.need [61])).2,.d (aD (bK ((aM r).2.need [61])).1)⟩)|_=>none) ?_
       simp
       refine⟨hn17,?_⟩
       refine pS.seq ?_
       have hn18:=pN (bK ((aM r).2.need [61])).2 [59]
       refine pS.ro hT hW (fun|61=>some (.gen ⟨[(0,0)],[],[],eU ((bK ((aM r).2.need [61])).2.need [59]),.tup []⟩)|_=>none) ?_
       simp
       refine⟨hn18,?_⟩
       refine aL ?_
       simp
       refine⟨⟨by omega,by omega⟩,?_⟩
       refine KN.mk ⟨f-1,ks++[.mk 7 (aM r).1 (bK ((aM r).2.need [61])).1 []],(bK ((aM r).2.need [61])).2.need [59]⟩ (aB [0,2,4] [(0,0),(2,2),(4,4),(66,1066)] (by decide) (by decide) (by simp[hp]) (by simp) (by simp)) ?_ ?_
       ·refine⟨fun e=>?_,hle.2.1,?_,?_,?_⟩
        ·show((bK ((aM r).2.need [61])).2.need [59]).l.length<f-1
         have z:=hi14.1 g1
         have h:=hle.2.2 e
         omega
        ·show((bK ((aM r).2.need [61])).2.need [59]).l.length≤p.l.length
         omega
        ·show(ks++[Nd.mk 7 (aM r).1 (bK ((aM r).2.need [61])).1 []]).length+((bK ((aM r).2.need [61])).2.need [59]).l.length≤p.l.length+(if((bK ((aM r).2.need [61])).2.need [59]).e=0 then 0 else 1)
         rw[List.length_append,List.length_singleton]
         by_cases e:((bK ((aM r).2.need [61])).2.need [59]).e=0
         ·rw[if_pos e]
          have h:=hle.2.2 e
          omega
         ·rw[if_neg e];omega
        ·rw[hi14.2.2.2.2];exact Pm (hi14.1 g1) g1 g2
       ·show 2*((bK ((aM r).2.need [61])).2.need [59]).l.length+(if((bK ((aM r).2.need [61])).2.need [59]).e=0 then 1 else 0)<2*r.l.length+(if r.e=0 then 1 else 0)
        rw[if_pos g1]
        by_cases e:((bK ((aM r).2.need [61])).2.need [59]).e=0
        ·rw[if_pos e]
         have h:=hle.2.2 e
         omega
        ·rw[if_neg e];omega
      ·refine pS.exit ?_
       simp
       refine pS.seq ?_
       have hn20:=pN r [125]
       refine pS.ro hT hW (fun|69=>some (.gen ⟨[(0,0)],[],[],eU (r.need [125]),.tup []⟩)|_=>none) ?_
       simp
       refine⟨hn20,?_⟩
       refine aA ?_
       simp
       refine pS.ret ?_
       simp
       have e:kP false p=(.mk k t 0 ks,r.need [125]):=by rw[QT hk hlt hn h12,hi14.2.2.2.2,MG g]
       refine aS (x:=(kP false p).1.d) (by simp[e]) ?_
       simp
       exact aB [0] [(0,0)] (by decide) (by decide) (by simp[hp]) (by simp) (by simp[e])
     ·refine aA ?_
      simp
      refine aC ?_
      simp
      refine⟨fun h22=>?_,fun h22=>?_⟩
      ·refine pS.seq ?_
       have hne:=pN q [61]
       have gn:=cM (s:=[61]) gl.2.1
       refine pS.ro hT hW (fun|74=>some (.gen ⟨[(0,0)],[],[],eU (q.need [61]),.tup []⟩)|_=>none) ?_
       simp
       refine⟨hne,?_⟩
       have hnu:=FE (q.need [61]) gn.2
       refine pS.ro hT hW (fun|76=>some (.gen ⟨[(0,0)],[],[],eU (bK (q.need [61])).2,.d (aD (bK (q.need [61])).1)⟩)|_=>none) ?_
       simp
       refine⟨hnu,?_⟩
       refine Qo.mk ⟨(bK (q.need [61])).1,(bK (q.need [61])).2⟩ (aB [0,2,4] [(0,0),(2,2),(4,4)] (by decide) (by decide) (by simp[hp]) (by simp) (by simp)) ?_
       exact QU hk hlt hn h22
      ·refine aA ?_
       simp
       refine aC ?_
       simp
       refine⟨fun h25=>?_,fun h25=>?_⟩
       ·have hnu:=tL q 2 gl.2.1 (by decide)
        refine pS.ro hT hW (fun|81=>some (.gen ⟨[(0,0)],[],[],eU (aP 2 q).2,.d (aD (aP 2 q).1)⟩)|_=>none) ?_
        simp
        refine⟨hnu,?_⟩
        refine Qo.mk ⟨(aP 2 q).1,(aP 2 q).2⟩ (aB [0,2,4] [(0,0),(2,2),(4,4)] (by decide) (by decide) (by simp[hp]) (by simp) (by simp)) ?_
        exact Pk hk hlt hn h25
       ·refine pS.skip ?_
        simp
        refine Qo.mk ⟨0,q⟩ (aB [0,2,4] [(0,0),(2,2),(4,4)] (by decide) (by decide) (by simp[hp]) (by simp) (by simp)) ?_
        exact Pl hk hlt hn q10 h12 h22 h25
  ·refine pS.seq ?_
   have hne:=pN r [59]
   refine pS.ro hT hW (fun|84=>some (.gen ⟨[(0,0)],[],[],eU (r.need [59]),.tup []⟩)|_=>none) ?_
   simp
   refine⟨hne,?_⟩
   refine aA ?_
   simp
   refine pS.ret ?_
   simp
   refine aS (x:=(kP false p).1.d) (by simp[hc27]) ?_
   simp
   exact aB [0] [(0,0)] (by decide) (by decide) (by simp[hp]) (by simp) (by simp[hc27])
end
open Go.Proofs
section
attribute[local simp] pL.cond Nd.d_eq nd_t nd_dr nd_td ndsD bG eT eB iY AN AO AP sA
theorem Pn{p:PS}(h:dG p.peek<0):kP true p=(.mk 0 [] 0 [],p.fail 2):=by unfold kP;simp only[];rw[if_pos h]
section
variable{p q:PS} {t:aN} {k:Int} (hk:dG p.peek=k) (h:¬k<0) (hn:aM p.skip=(t,q))
include hk h hn
theorem Kh(h5:k=5∨k=6):kP true p=(.mk k t 0 [(qQ true (q.l.length+1) q).1],(qQ true (q.l.length+1) q).2):=by
 subst hk
 unfold kP;simp only[];rw[if_neg h,hn,if_pos h5]
theorem Po(h1:k=1):kP true p=(.mk k t 0 (lL ((q.need [123]).l.length+1) [] (q.need [123])).1,(lL ((q.need [123]).l.length+1) [] (q.need [123])).2.need [125]):=by
 subst hk
 unfold kP;simp only[];rw[if_neg h,hn,if_neg (by omega),if_pos h1]
theorem Pp(h1:k=0):kP true p=(.mk k t (bK (q.need [61])).1 [],(bK (q.need [61])).2.need [59]):=by
 subst hk
 unfold kP;simp only[];rw[if_neg h,hn,if_neg (by omega),if_neg (by omega),if_pos h1]
theorem MI(h1:k=2):kP true p=(.mk k t (aP 2 q).1 [],(aP 2 q).2.need [59]):=by
 subst hk
 unfold kP;simp only[];rw[if_neg h,hn,if_neg (by omega),if_neg (by omega),if_neg (by omega),if_pos h1]
theorem MJ(h1:¬(k=5∨k=6))(h2:¬k=1)(h3:¬k=0)(h4:¬k=2):kP true p=(.mk k t 0 [],q.need [59]):=by
 subst hk
 unfold kP;simp only[];rw[if_neg h,hn,if_neg h1,if_neg h2,if_neg h3,if_neg h4]
end
theorem qK.item{T:List Tk}{q:PS}(f:qK T q):qK T ((bK ((aM q).2.need [61])).2.need [59]):=f.name.need.number.need
theorem FL{T:List Tk}:∀(g:Nat) (ks:List Nd) (p:PS),qK T p→qK T (lL g ks p).2
 |0,_,_,f=>f
 |g+1,ks,p,f=>by
  rw[lL]
  split
  ·exact f
  ·exact FL g _ _ f.item
theorem SR{s:aN}{T:List Tk}(c:Co s T){p:PS}(f:qK T p):qK T (kP true p).2:=by
 obtain⟨k,hk⟩:∃k,dG p.peek=k:=⟨_,rfl⟩
 obtain⟨⟨t,q⟩,hn⟩:∃x,aM p.skip=x:=⟨_,rfl⟩
 have fq:qK T q:=by have:=f.skip.name;rw[hn]at this;exact this
 by_cases h:k<0
 ·rw[Pn (by omega)];exact f.fail (.inl rfl)
 ·by_cases h1:k=5∨k=6
  ·rw[Kh hk h hn h1]
   exact((RR.blockT c (q.l.length+1)).fs q (Nat.lt_succ_self _) fq).1
  ·by_cases h2:k=1
   ·rw[Po hk h hn h2]
    exact(FL _ _ _ fq.need).need
   ·by_cases h3:k=0
    ·rw[Pp hk h hn h3]
     exact fq.need.number.need
    ·by_cases h4:k=2
     ·rw[MI hk h hn h4]
      exact fq.numeral.need
     ·rw[MJ hk h hn h1 h2 h3 h4]
      exact fq.need
end
open Go.Proofs
section
attribute[local simp] pL.cond Nd.d_eq nd_t nd_dr nd_td ndsD bG
theorem Ki(x y:Nd)(ih:∀a∈x.kids,∀b:Nd,Ok Tryz.prog 20 [a.d,b.d] ⟨.d (.bool (sameN a b)),true⟩)(hl:x.kids.length≤9223372036854775806):Ok Tryz.prog 20 [x.d,y.d] ⟨.d (.bool (sameN x y)),true⟩:=by
 refine Ok.ret Tryz.func20 (by kernel_rfl) (c:=_) rfl Tryz.ntmps20 (by simp) Tryz.results20 (by intro _ h;cases h) fun w0 X hp=>?_
 refine aA ?_
 simp
 refine pS.seq ?_
 refine aA ?_
 simp
 refine aC ?_
 simp
 refine⟨fun g=>?_,fun g0 g1 g2 g3=>?_⟩
 ·refine aA ?_
  simp
  refine pS.ret ?_
  simp
  rw[Bool.eq_false_iff]
  intro h
  have e:=(sameN_iff _ _).1 h
  subst e
  simp at g
 ·refine pS.skip ?_
  simp
  refine pS.seq ?_
  refine aA ?_
  simp
  refine pS.block ?_
  refine bX (ι:=Nat) (fun i=>aY [(2,.bx 2 0),(3,.bx 3 0),(5,.d (aD i))]) (fun i=>aK [(2,.box false [.d (aD x.kind),.d (.str x.text),.d (aD x.n),.d (ndsD x.kids)]),(3,.box false [.d (aD y.kind),.d (.str y.text),.d (aD y.n),.d (ndsD y.kids)])]) (fun i=>i≤x.kids.length∧x.kids.take i=y.kids.take i) (fun i=>x.kids.length-i) 0 (aB [2,3,5] [(2,2),(3,3)] (by decide) (by decide) (by simp[hp]) (by simp) (by simp)) (⟨Nat.zero_le _,rfl⟩) fun i hi4=>?_
  refine pS.seq ?_
  refine aA ?_
  simp
  refine aC ?_
  simp
  refine⟨fun h4=>?_,fun h4=>?_⟩
  ·refine pS.skip ?_
   simp
   refine pS.seq ?_
   refine pS.block ?_
   refine pS.seq ?_
   have hi:i<x.kids.length:=by omega
   have hm:i<y.kids.length:=by omega
   have hs:=ih _ (List.getElem_mem hi) y.kids[i]
   simp at hs
   refine aI hT hW bU (lk [[],[0],[],[0,1,2],[0,1,2,3],[],[5],[],[5,6,7],[5,6,7,8],[0,1,2,3,4,5,6,7,8,9],[0,1,2,3,4,5,6,7,8,9,10]]) (lk [[],[],[],[],[],[],[],[],[],[],[],[]]) (lk [[],[],[],[],[],[],[],[],[],[],[51],[]]) (by kernel_rfl) (fun|51=>some<| .plain ⟨.d (.bool (sameN x.kids[i] y.kids[i])),true⟩|_=>none) (by intro d;first|exact⟨rfl,fun _ h=>h⟩|(split<;>exact⟨rfl,fun _ h=>h⟩)) ?_
   simp[hi,hm]
   refine⟨hs,?_⟩
   refine aC ?_
   simp
   refine⟨fun h6=>?_,fun h6=>?_⟩
   ·refine aA ?_
    simp
    refine pS.ret ?_
    simp
    rw[Bool.eq_false_iff]
    intro h
    have e:=(sameN_iff _ _).1 h
    subst e
    rw[(sameN_iff _ _).2 rfl]at h6
    cases h6
   ·refine pS.skip ?_
    simp
    refine aL ?_
    simp
    refine⟨by omega,?_⟩
    refine KN.mk (i+1) (aB [2,3,5] [(2,2),(3,3)] (by decide) (by decide) (by simp[hp]) (by simp) (by simp)) ?_ ?_
    ·refine⟨by omega,?_⟩
     have e:=(sameN_iff _ _).1 h6
     rw[List.take_add_one,List.take_add_one,hi4.2,List.getElem?_eq_getElem hi,List.getElem?_eq_getElem hm,e]
    ·omega
  ·refine pS.exit ?_
   simp
   refine aA ?_
   simp
   refine pS.ret ?_
   simp
   have e:=hi4.2
   rw[List.take_of_length_le (by omega),List.take_of_length_le (by omega)]at e
   refine(sameN_iff _ _).2 ?_
   rw[NW x,NW y,g0,g1,g2,e]
theorem Iz(x:Nd):weighN x≤1000000000→∀y:Nd,Ok Tryz.prog 20 [x.d,y.d] ⟨.d (.bool (sameN x y)),true⟩:=
 mS (p:=fun x=>weighN x≤1000000000→∀y:Nd,Ok Tryz.prog 20 [x.d,y.d] ⟨.d (.bool (sameN x y)),true⟩) (fun k t n ks ih hw y=>Ki _ y (fun a ha b=>ih a ha (by have:=weigh_mem (show a∈ks from ha);rw[weighN]at hw;omega) b) (by have:=pW (.mk k t n ks);omega)) x
end
end Go.Eng
namespace Go.Eng
def Wt(x:PS→Nd×PS):Prop:=∀p:PS,bH p.l→weighN (x p).1+41*(x p).2.l.length≤41*p.l.length+40∧bH (x p).2.l
theorem Eo:Wt aX:=fun p h=>by
 have a:=eO h
 have t1:=sQ h
 unfold aX
 split
 ·have b:=eO (eG a.2.1)
  have t2:=sQ (p:=(aM p).2.skip) (eG a.2.1)
  have s:=gA (p:=(aM p).2)
  refine⟨?_,b.2.1⟩
  simp only[weighN,weighL,List.length_append,List.length_cons]
  omega
 ·refine⟨?_,a.2.1⟩
  simp only[weighN,weighL]
  omega
theorem QV{ex:PS→Nd×PS}(hx:Wt ex):Wt (dS ex):=fun p h=>by
 unfold dS
 split
 ·have a:=hx p.skip (eG h)
  have s:=gA (p:=p)
  have n:=nK (p:=(ex p.skip).2) (s:=[41])
  exact⟨by simp only;omega,(cM a.2).2⟩
 ·split
  ·have s:=gA (p:=p)
   exact⟨by simp only[weighN,weighL,List.length_nil];omega,eG h⟩
  ·split
   ·split
    ·have a:=kT (k:=32) h
     exact⟨by simp only[weighN,weighL,List.length_nil];omega,a.2.1⟩
    ·split
     ·have a:=gI h
      have t:(aU p).1.length≤17:=by
       by_cases q:p.peek.take 1=[36]
       ·rw[(pJ q).2]
        have:=qV h
        simp only[List.length_drop];omega
       ·rw[rP q];simp
      exact⟨by simp only[weighN,weighL];omega,a.2.1⟩
     ·exact Eo p h
   ·exact Eo p h
theorem FM{lv:Int}{x:PS→Nd×PS}(hx:Wt x)(B:Nat):∀(f:Nat) (n:Nd) (p:PS),bH p.l→weighN n+41*p.l.length≤B→weighN (chainF lv x f n p).1+41*(chainF lv x f n p).2.l.length≤B∧bH (chainF lv x f n p).2.l
 |0,_,_,h,hn=>⟨hn,h⟩
 |f+1,n,p,h,hn=>by
  have o:=yE (lv:=lv) h
  unfold chainF
  split
  ·exact⟨hn,h⟩
  ·split
   ·exact⟨by simp only;omega,o.2⟩
   ·rename_i q
    have ol:=CT (lv:=lv) (q:=p) (by omega)
    have a:=hx (opP lv p).2 o.2
    refine FM hx B f _ _ a.2 ?_
    simp only[weighN,weighL,List.length_nil]
    omega
theorem FN{lv:Int}{x:PS→Nd×PS}(hx:Wt x):Wt (gD lv x):=fun p h=>FM hx _ _ _ _ (hx p h).2 (hx p h).1
theorem Pq{ex:PS→Nd×PS}(hx:Wt ex):Wt (eA ex):=FN (FN (QV hx))
theorem Pr{ex:PS→Nd×PS}(hx:Wt ex):Wt (exprB ex):=fun p h=>by
 have a:=Pq hx p h
 have o:=yE (lv:=1) a.2
 by_cases q:0≤(opP 1 (eA ex p).2).1
 ·have ol:=CT q
  have b:=Pq hx (opP 1 (eA ex p).2).2 o.2
  rw[BI q]
  refine⟨?_,b.2⟩
  simp only[weighN,weighL,List.length_nil]
  omega
 ·rw[BJ (by omega)]
  exact⟨by simp only;omega,o.2⟩
theorem IA:∀f,Wt (dD false f)
 |0=>fun p h=>⟨by
  have:weighN (default:Nd)≤40:=by decide
  show weighN default+41*p.l.length≤_
  omega,h⟩
 |f+1=>fun p h=>by
  rw[dD,if_neg (by simp)]
  exact Pr (IA f) p h
end Go.Eng
namespace Go.Eng
def Ws(n:Nat)(x:PS→Nd×PS):Prop:=∀p:PS,p.l.length<n→bH p.l→weighN (x p).1+240*(x p).2.l.length≤240*p.l.length+90∧bH (x p).2.l∧((x p).2.e=0→weighN (x p).1+240*(x p).2.l.length≤240*p.l.length)
def Wb(n:Nat)(x:PS→Nd×PS):Prop:=∀p:PS,p.l.length<n→bH p.l→weighN (x p).1+240*(x p).2.l.length≤240*p.l.length+91∧bH (x p).2.l
theorem wG(a b:List Nd):weighL (a++b)=weighL a+weighL b:=by
 induction a with
 |nil=>simp[weighL]
 |cons x a ih=>simp only[List.cons_append,weighL,ih];omega
theorem FO{m:Nat}{st:PS→Nd×PS}(hs:Ws m st)(B:Nat):∀(f:Nat) (ks:List Nd) (p:PS),p.l.length<m→bH p.l→weighL ks+240*p.l.length≤B+90→(p.e=0→weighL ks+240*p.l.length≤B)→
 weighL (eE st f ks p).1+240*(eE st f ks p).2.l.length≤B+90∧bH (eE st f ks p).2.l
 |0,_,_,_,h,h1,_=>⟨h1,h⟩
 |f+1,ks,p,hm,h,h1,h2=>by
  unfold eE
  split
  ·exact⟨h1,h⟩
  ·rename_i q
   have e0:p.e=0:=Classical.byContradiction fun z=>q (.inl z)
   have a:=hs p hm h
   have b:=h2 e0
   refine FO hs B f _ _ (by have:=a.1;omega) a.2.1 ?_ fun z=>?_
   ·rw[wG];simp only[weighL];have:=a.1;omega
   ·rw[wG];simp only[weighL];have:=a.2.2 z;omega
theorem FP{m:Nat}{st:PS→Nd×PS}(hs:Ws m st):Wb m (fU st):=fun p hm h=>by
 have n:=nK (p:=p) (s:=[123])
 have g:=(cM (s:=[123]) h).2
 unfold fU
 simp only[]
 have a:=FO hs (240*(p.need [123]).l.length) ((p.need [123]).l.length+1) [] (p.need [123]) (by omega) g (by simp only[weighL];omega) (fun _=>by simp only[weighL];omega)
 have m:=nK (p:=(eE st ((p.need [123]).l.length+1) [] (p.need [123])).2) (s:=[125])
 refine⟨?_,(cM a.2).2⟩
 simp only[weighN,List.length_nil]
 have:=a.1
 omega
theorem QW{ex:PS→Nd×PS}(hx:Wt ex){k:Int}:∀p:PS,bH p.l→weighN (mE ex k p).1+240*(mE ex k p).2.l.length≤240*p.l.length+90∧bH (mE ex k p).2.l:=fun p h=>by
 have a:=vE (k:=k) h
 have t:(cmdA k p).1.length≤17:=by
  unfold cmdA
  split
  ·by_cases q:p.peek.take 1=[36]
   ·rw[(pJ q).2]
    have:=qV h
    simp only[List.length_drop];omega
   ·rw[rP q];simp
  ·split
   ·simp
   ·exact sQ h
 by_cases h1:k=15∨k=22∨k=24
 ·rw[Ek h1]
  have b:=hx (cmdA k p).2 a.2
  refine⟨?_,b.2⟩
  simp only[weighN,weighL];omega
 ·by_cases h2:k=16∨k=23
  ·rw[CU h1 h2]
   have b:=gI a.2
   have t2:(aU (cmdA k p).2).1.length≤17:=by
    by_cases q:(cmdA k p).2.peek.take 1=[36]
    ·rw[(pJ q).2]
     have:=qV a.2
     simp only[List.length_drop];omega
    ·rw[rP q];simp
   refine⟨?_,b.2.1⟩
   simp only[weighN,weighL];omega
  ·by_cases h3:k=19∨k=21∨k=25
   ·rw[yR h1 h2 h3]
    have b:=kT (k:=k) a.2
    refine⟨?_,b.2.1⟩
    simp only[weighN,weighL];omega
   ·rw[vF h1 h2 h3]
    refine⟨?_,a.2⟩
    simp only[weighN,weighL];omega
end Go.Eng
namespace Go.Eng
theorem Kj{p:PS}(h:bH p.l)(he3:(aX p).2.e=0):(aX p).2.l.length<p.l.length:=by
 unfold aX at he3⊢
 have nm:(aM p).2.e=0→(aM p).2.l.length<p.l.length:=fun z=>by
  cases q:jO p.peek with
  |false=>rw[tK q]at z;exact absurd z (qS (by decide))
  |true=>
   have ip:p.is p.peek=true:=jM.2 ⟨fun e=>(by rw[e]at q;cases q),rfl⟩
   have lp:=mG ip
   rw[wA q,cR ip]
   simp only;omega
 have ng:=eO h
 split at he3
 ·rename_i z
  rw[if_pos z]
  have z2:(aM p).2.skip.e=0:=rH _ he3
  have z3:(aM p).2.e=0:=z2
  have ll:=(eO (p:=(aM p).2.skip) (eG ng.2.1)).1
  have l3:=gA (p:=(aM p).2)
  have:=nm z3
  simp only;omega
 ·rename_i z
  rw[if_neg z]
  exact nm he3
theorem Ps{m:Nat}{ex bl:PS→Nd×PS}(hs:vL ex)(hx:Wt ex)(hb:Wb m bl):Ws (m+1) (gH ex bl):=fun p hm h=>by
 obtain⟨k,hk⟩:∃k,dT p.peek=k:=⟨_,rfl⟩
 by_cases h1:k=11∨k=12
 ·have ip:=pK (p:=p) (by omega)
  have lp:=mG ip
  rw[←cR ip]at lp
  have e0:=hx (p.took p.peek) (gJ h)
  have b0:=hb (ex (p.took p.peek)).2 (by have:=e0.1;omega) e0.2
  by_cases h2:k=11∧(bl (ex (p.took p.peek)).2).2.is cF=true
  ·rw[CV hk h2.1 h2.2]
   have l2:=mG h2.2
   rw[←cR h2.2]at l2
   have c0:=hb ((bl (ex (p.took p.peek)).2).2.took cF) (by have:=e0.1;have:=b0.1;omega) (gJ b0.2)
   refine⟨?_,c0.2,fun _=>?_⟩<;>(simp only[weighN,weighL,List.length_nil];omega)
  ·rw[Ld hk h1 (fun q=>by
    cases z:(bl (ex (p.took p.peek)).2).2.is cF with
    |false=>rfl
    |true=>exact absurd ⟨q,z⟩ h2)]
   refine⟨?_,b0.2,fun _=>?_⟩<;>(simp only[weighN,weighL,List.length_nil];omega)
 ·by_cases h3:12<k
  ·have ip:=pK (p:=p) (by omega)
   have lp:=mG ip
   rw[←cR ip]at lp
   have c0:=QW hx (k:=k) (p.took p.peek) (gJ h)
   rw[GL hk h3]
   have n:=nK (p:=(mE ex k (p.took p.peek)).2) (s:=[59])
   refine⟨?_,(cM c0.2).2,fun _=>?_⟩<;>(simp only;omega)
  ·by_cases h4:p.peek.take 1=[36]
   ·obtain⟨i1,i2⟩:=pJ h4
    have ip:p.is p.peek=true:=jM.2 ⟨fun e=>(by rw[e]at h4;cases h4),rfl⟩
    have lp:=mG ip
    rw[←cR ip]at lp
    have t:=qV h
    rw[AS hk h1 h3 h4,i2]
    have n1:=nK (p:=p.took p.peek) (s:=[61])
    have e0:=hx ((p.took p.peek).need [61]) (cM (gJ h)).2
    have n2:=nK (p:=(ex ((p.took p.peek).need [61])).2) (s:=[59])
    refine⟨?_,(cM e0.2).2,fun _=>?_⟩<;>(simp only[weighN,weighL,List.length_drop];omega)
   ·rw[AT hk h1 h3 h4]
    have a:=Eo p h
    have le:=(qF (p.l.length+1) p (Nat.lt_succ_self _) h).1
    have n1:=nK (p:=(aX p).2) (s:=[61])
    have e0:=hx ((aX p).2.need [61]) (cM a.2).2
    have n2:=nK (p:=(ex ((aX p).2.need [61])).2) (s:=[59])
    refine⟨?_,(cM e0.2).2,fun z=>?_⟩
    ·simp only[weighN,weighL,List.length_nil];omega
    ·have z:((ex ((aX p).2.need [61])).2.need [59]).e=0:=z
     have pe:=Kj h (jA (hs _ (jA z).2)).2
     simp only[weighN,weighL,List.length_nil];omega
theorem IB:∀f,Ws f (kS false f)
 |0=>fun p hm _=>absurd hm (Nat.not_lt_zero _)
 |f+1=>Ps (sS false) (fun p h=>IA _ p h) (FP (IB f))
end Go.Eng
namespace Go.Eng
theorem MK{p:PS}(z:(aM p).2.e=0):(aM p).2.l.length<p.l.length:=by
 cases q:jO p.peek with
 |false=>rw[tK q]at z;exact absurd z (qS (by decide))
 |true=>
  have ip:p.is p.peek=true:=jM.2 ⟨fun e=>(by rw[e]at q;cases q),rfl⟩
  have lp:=mG ip
  rw[wA q,cR ip]
  simp only;omega
theorem FQ(B:Nat):∀(f:Nat) (ks:List Nd) (p:PS),bH p.l→weighL ks+240*p.l.length≤B+90→(p.e=0→weighL ks+240*p.l.length≤B)→
 weighL (lL f ks p).1+240*(lL f ks p).2.l.length≤B+90∧bH (lL f ks p).2.l
 |0,_,_,h,h1,_=>⟨h1,h⟩
 |f+1,ks,p,h,h1,h2=>by
  unfold lL
  split
  ·exact⟨h1,h⟩
  ·rename_i q
   have e0:p.e=0:=Classical.byContradiction fun z=>q (.inl z)
   have b:=h2 e0
   have a:=eO h
   have t:=sQ h
   have g1:=cM (s:=[61]) a.2.1
   have v:=Ax g1.2
   have g2:=cM (s:=[59]) v.2.1
   simp only[]
   refine FQ B f _ _ g2.2 ?_ fun z=>?_
   ·rw[wG];simp only[weighN,weighL];omega
   ·have z1:=HK _ (jA z).2
    have ne:=MK (jA z1).2
    rw[wG];simp only[weighN,weighL];omega
theorem Kk{p:PS}(h:bH p.l):weighN (kP false p).1≤240*p.l.length+300:=by
 have s:=gA (p:=p)
 have a:=eO (eG h)
 have t:=sQ (eG h)
 unfold kP
 simp only[]
 split
 ·simp only[weighN,weighL,List.length_nil];omega
 ·split
  ·have b:=FP (IB ((aM p.skip).2.l.length+1)) (aM p.skip).2 (Nat.lt_succ_self _) a.2.1
   have b1:weighN (qQ false ((aM p.skip).2.l.length+1) (aM p.skip).2).1≤240*(aM p.skip).2.l.length+91:=by
    have:=b.1
    show weighN (fU (kS false ((aM p.skip).2.l.length+1)) (aM p.skip).2).1≤_
    omega
   simp only[weighN,weighL];omega
  ·split
   ·have g1:=cM (s:=[123]) a.2.1
    have i:=FQ (240*((aM p.skip).2.need [123]).l.length) (((aM p.skip).2.need [123]).l.length+1) [] ((aM p.skip).2.need [123]) g1.2 (by simp only[weighL];omega) (fun _=>by simp only[weighL];omega)
    have i1:=i.1
    simp only[weighN];omega
   ·split
    ·simp only[weighN,weighL];omega
    ·split
     ·simp only[weighN,weighL];omega
     ·simp only[weighN,weighL];omega
theorem vG:∀(f:Nat) (s:aN) (i:Int),(lW f s i).1.length≤f
 |0,_,_=>Nat.le_refl _
 |f+1,s,i=>by
  unfold lW
  split
  ·simp
  ·split
   ·have:=vG f (by assumption) (i+1);omega
   ·split
    ·simp
    ·simp only[List.length_cons]
     exact Nat.succ_le_succ (vG f _ _)
theorem IC{s:aN}(hl:s.length≤1024):weighN (kP false ⟨(eS s).1,0⟩).1≤1000000000:=by
 have h1:(eS s).1.length≤s.length:=vG _ _ _
 have h2:=Kk (p:=⟨(eS s).1,0⟩) (rI _ _ _)
 have h3:(PS.mk (eS s).1 0).l.length=(eS s).1.length:=rfl
 omega
end Go.Eng
namespace Go.Eng
open Go.Proofs
attribute[local simp] nP lH gR bA oC gK gS pE cY bD pL.plain pL.cond pL.fail dU mN tQ nO gC kQ kW lR memless nD eV jD uG EJ gQ fJ strip pD eD mC bW
 qY fZ iR gT iQ pU lk cH dX bQ cA bY oL fE pY iU jF bS eW bN dM gM fL fM eI fN gX gY gZ fO eJ fP eL fQ hU hZ iC iD fR iG oY oJ mkAgg tP BO jN bB gN aW.live TK.isNone TK.agg TK.isBool TK.isStr TK.isStruct Op.operands Call.operands
 bF cV cO dF eP oK lN cN dN iO fA kY aQ frozen lS
 jT jU lU gV jW jX jY kD lV gW kF kG kH kJ sE mM oO oP oS oT oV kK jR gU fK Nm.d Df.d Ed.d yV yW mK yX jS sL sM dK dL
 yY yZ sF zA zB sG sH sI oW zC zD sJ
 bZ aZ dP mB dQ bT cI bP eZ uJ TK.isInt jV kE oQ iB gP dO eX eY gE fD gB mO sZ nU yU sD
 nS kX mX nR cS eF dY lJ jG jH iV tF iH dJ iI iJ cH kA kC oN iW iK kL iE iF fT
 cP gO TK.isPtr eR cE kM qB qO jZ kI oU hO iA fS
attribute[local simp] eM kN iL
section
attribute[local simp] pL.cond Nd.d_eq nd_t nd_dr nd_td ndsD bG eT eB iY
end
open Go.Proofs
section
attribute[local simp] pL.cond Nd.d_eq nd_t nd_dr nd_td ndsD bG eT eB qL Cu Cv Cw Ir Int.add_assoc
def nQ(L:List Int)(i:Nat):List (Nat×aW):=[(0,.box false [.d (.sl (L.map aD)),.d (aD i)])]
def Kl(L:List Int):Prop:=∀n∈L, -9223372036854775808≤n∧n≤9223372036854775807
attribute[local simp] nQ
theorem bJ(l:List Int)(i m:Int)(h:0<m):0≤eN l i m∧eN l i m<m:=by
 unfold eN
 split
 ·omega
 ·exact oE _ _ h
theorem kO(L:List Int)(i:Nat)(m:Int)(hL:Kl L)(hi:i≤3000000)(hm:m≠0):qX Tryz.prog 54 [.bx 0 0,.d (aD m)] (nQ L i) (nQ L (i+1)) (.d (aD (eN L i m))):=by
 unfold nQ
 refine qX.one Tryz.func54 (by kernel_rfl) (c:=_) rfl Tryz.ntmps54 (by simp) Tryz.results54 fun w0 X hp=>?_
 refine aA ?_
 simp
 refine aA ?_
 simp
 refine⟨by omega,?_⟩
 refine pS.seq ?_
 have ha:=Ro L i m hL hm
 have e1:(i:Int)+1-1=i:=by omega
 refine aI hT hW bU (lk [[],[0],[0,1],[0,1,2],[],[4],[4,5],[4,5,6],[4,5,6,7],[],[0,1,2,3,4,5,6,7,8,9],[0,1,2,3,4,5,6,7,8,9,10]]) (lk [[],[],[],[],[],[],[],[],[],[],[],[]]) (lk [[],[],[],[],[],[],[],[],[],[],[22],[]]) (by kernel_rfl) (fun|22=>some<| .plain ⟨.d (aD (eN L i m)),true⟩|_=>none) (by intro d;first|exact⟨rfl,fun _ h=>h⟩|(split<;>exact⟨rfl,fun _ h=>h⟩)) ?_
 simp[e1]
 refine⟨⟨by omega,ha⟩,?_⟩
 refine pS.ret ?_
 simp
 exact aB [4] [(0,0)] (by decide) (by decide) (by simp[hp]) (by simp) (by simp)
theorem QX{L:List Int}{i:Nat}:(Ch.map DV.str)[(eN L i 8).toNat]?.getD default=.str (dA L i):=by
 have h:=bJ L i 8 (by decide)
 have hk:(eN L i 8).toNat<Ch.length:=by show _<8;omega
 unfold dA
 rw[List.getElem?_map,List.getElem?_eq_getElem hk]
 simp[List.getD_eq_getElem?_getD,hk]
theorem Sc{L:List Int}{i:Nat}:(HJ.map DV.str)[(eN L i 4).toNat]?.getD default=.str (mW L i):=by
 have h:=bJ L i 4 (by decide)
 have hk:(eN L i 4).toNat<HJ.length:=by show _<4;omega
 unfold mW
 rw[List.getElem?_map,List.getElem?_eq_getElem hk]
 simp[List.getD_eq_getElem?_getD,hk]
theorem Sd{L:List Int}{i:Nat}:(Av.map aD)[(eN L i 6).toNat]?.getD default=aD (Av.getD (eN L i 6).toNat 0):=by
 have h:=bJ L i 6 (by decide)
 have hk:(eN L i 6).toNat<Av.length:=by show _<6;omega
 rw[List.getElem?_map,List.getElem?_eq_getElem hk]
 simp[List.getD_eq_getElem?_getD,hk]
theorem oA(L:List Int)(i:Nat)(hL:Kl L)(hi:i≤3000000):qX Tryz.prog 55 [.bx 0 0] (nQ L i) (nQ L (i+1)) (.d (.str (dA L i))):=by
 unfold nQ
 refine qX.one Tryz.func55 (by kernel_rfl) (c:=_) rfl Tryz.ntmps55 (by simp) Tryz.results55 fun w0 X hp=>?_
 refine aA ?_
 simp
 refine pS.seq ?_
 have ha:=kO L i 8 hL hi (by decide)
 have hr:=bJ L i 8 (by decide)
 have hc:=QX (L:=L) (i:=i)
 simp[Ch]at hc
 refine pS.ro hT hW (fun|5=>some (.gen ⟨[(0,0)],[],[],nQ L (i+1),.d (aD (eN L i 8))⟩)|_=>none) ?_
 simp[hc]
 refine⟨⟨⟨⟨by decide,by simpa using ha⟩,by omega⟩,by omega⟩,?_⟩
 refine pS.ret ?_
 simp
 exact aB [2] [(0,0)] (by decide) (by decide) (by simp[hp]) (by simp) (by simp)
theorem AV(L:List Int)(i:Nat)(hL:Kl L)(hi:i≤3000000):qX Tryz.prog 107 [.bx 0 0] (nQ L i) (nQ L (i+1)) (.d (.str (mW L i))):=by
 unfold nQ
 refine qX.one Tryz.func107 (by kernel_rfl) (c:=_) rfl Tryz.ntmps107 (by simp) Tryz.results107 fun w0 X hp=>?_
 refine aA ?_
 simp
 refine pS.seq ?_
 have ha:=kO L i 4 hL hi (by decide)
 have hr:=bJ L i 4 (by decide)
 have hc:=Sc (L:=L) (i:=i)
 simp[HJ]at hc
 refine pS.ro hT hW (fun|5=>some (.gen ⟨[(0,0)],[],[],nQ L (i+1),.d (aD (eN L i 4))⟩)|_=>none) ?_
 simp[hc]
 refine⟨⟨⟨⟨by decide,by simpa using ha⟩,by omega⟩,by omega⟩,?_⟩
 refine pS.ret ?_
 simp
 exact aB [2] [(0,0)] (by decide) (by decide) (by simp[hp]) (by simp) (by simp)
theorem lM(L:List Int)(i:Nat):(dA L i).length≤16:=by
 have h:=bJ L i 8 (by decide)
 unfold dA
 have:∀k:Nat,(Ch.getD k []).length≤16:=fun k=>by
  rw[List.getD_eq_getElem?_getD]
  cases e:Ch[k]? with
  |none=>simp
  |some w=>
   have:=List.mem_of_getElem? e
   exact(by decide:∀w∈Ch,w.length≤16) w this
 exact this _
theorem Pt(L:List Int)(i:Nat)(hL:Kl L)(hi:i≤2000000):qX Tryz.prog 108 [.bx 0 0] (nQ L i) (nQ L (cJ L i).2) (.d (cJ L i).1.d):=by
 unfold nQ
 refine qX.cell hT Tryz.func108 (by kernel_rfl) (c:=_) rfl Tryz.ntmps108 (by simp) Tryz.results108 fun w0 X hp=>?_
 refine aA ?_
 simp
 refine pS.seq ?_
 refine pS.seq ?_
 have ha:=kO L i 3 hL (by omega) (by decide)
 refine pS.ro hT hW (fun|5=>some (.gen ⟨[(0,0)],[],[],nQ L (i+1),.d (aD (eN L i 3))⟩)|_=>none) ?_
 simp
 refine⟨by simpa using ha,?_⟩
 refine aC ?_
 simp
 refine⟨fun h1=>?_,fun h1=>?_⟩
 ·refine pS.seq ?_
  have hc:=oA L (i+1) hL (by omega)
  refine pS.ro hT hW (fun|8=>some (.gen ⟨[(0,0)],[],[],nQ L (i+1+1),.d (.str (dA L (i+1)))⟩)|_=>none) ?_
  simp
  refine⟨by simpa using hc,?_⟩
  refine pS.ret ?_
  simp
  have e:cJ L i=(.mk 34 (dA L (i+1)) 0 [],i+2):=by unfold cJ;rw[if_pos h1]
  refine aS (x:=(cJ L i).1.d) (by simp[e]) ?_
  simp
  exact aB [0] [(0,0)] (by decide) (by decide) (by simp[hp]) (by simp) (by simp[e])
 ·refine pS.skip ?_
  simp
  refine pS.seq ?_
  have hc:=oA L (i+1) hL (by omega)
  refine pS.ro hT hW (fun|11=>some (.gen ⟨[(0,0)],[],[],nQ L (i+1+1),.d (.str (dA L (i+1)))⟩)|_=>none) ?_
  simp
  refine⟨by simpa using hc,?_⟩
  refine pS.seq ?_
  have hc2:=oA L (i+2) hL (by omega)
  have l1:=lM L (i+1)
  have l2:=lM L (i+2)
  refine pS.ro hT hW (fun|15=>some (.gen ⟨[(0,0)],[],[],nQ L (i+2+1),.d (.str (dA L (i+2)))⟩)|_=>none) ?_
  simp
  refine⟨⟨⟨by omega,by simpa using hc2⟩,by omega⟩,?_⟩
  refine pS.ret ?_
  simp
  have e:cJ L i=(.mk 35 (dA L (i+1)++46::dA L (i+2)) 0 [],i+3):=by unfold cJ;rw[if_neg (by omega)]
  refine aS (x:=(cJ L i).1.d) (by simp[e]) ?_
  simp
  exact aB [0] [(0,0)] (by decide) (by decide) (by simp[hp]) (by simp) (by simp[e])
end
open Go.Proofs
section
attribute[local simp] pL.cond Nd.d_eq nd_t nd_dr nd_td ndsD bG eT qL Int.add_assoc eB Cu Cv Cw Ir nQ
def dB(L:List Int)(d i:Nat):Int:=if d=0∨L.length<i+1 then(eN L i 12).tmod 6 else eN L i 12
theorem jC(L:List Int)(d i:Nat):0≤dB L d i∧dB L d i<12∧(d=0→dB L d i<6):=by
 have h:=bJ L i 12 (by decide)
 unfold dB
 split
 ·have:(eN L i 12).tmod 6=eN L i 12%6:=Int.tmod_eq_emod_of_nonneg h.1
  rw[this]
  omega
 ·omega
theorem nM{L:List Int}{d i:Nat}(h:dB L d i=0∨dB L d i=1):aF L d i=(.mk 32 [] (Av.getD (eN L (i+1) 6).toNat 0) [],i+2):=by
 unfold dB at h
 unfold aF
 simp only[]
 rw[if_pos h]
theorem nN{L:List Int}{d i:Nat}(h:dB L d i=2):aF L d i=(.mk 33 (mW L (i+1)) 0 [],i+2):=by
 have h0:¬(dB L d i=0∨dB L d i=1):=by omega
 unfold dB at h h0
 unfold aF
 simp only[]
 rw[if_neg h0,if_pos h]
theorem kU{L:List Int}{d i:Nat}(h:dB L d i=3∨dB L d i=4):aF L d i=cJ L (i+1):=by
 have h0:¬(dB L d i=0∨dB L d i=1):=by omega
 have h1:¬(dB L d i=2):=by omega
 unfold dB at h h0 h1
 unfold aF
 simp only[]
 rw[if_neg h0,if_neg h1,if_pos h]
theorem mJ{L:List Int}{d i:Nat}(h:dB L d i=5):aF L d i=(.mk 36 [] 0 [],i+1):=by
 have h0:¬(dB L d i=0∨dB L d i=1):=by omega
 have h1:¬(dB L d i=2):=by omega
 have h2:¬(dB L d i=3∨dB L d i=4):=by omega
 unfold dB at h h0 h1 h2
 unfold aF
 simp only[]
 rw[if_neg h0,if_neg h1,if_neg h2,if_pos h]
theorem sX{L:List Int}{e i:Nat}(h:6≤dB L (e+1) i):aF L (e+1) i=(.mk (26+dB L (e+1) i-6) [] 0 [(aF L e (i+1)).1,(aF L e (aF L e (i+1)).2).1],(aF L e (aF L e (i+1)).2).2):=by
 have h0:¬(dB L (e+1) i=0∨dB L (e+1) i=1):=by omega
 have h1:¬(dB L (e+1) i=2):=by omega
 have h2:¬(dB L (e+1) i=3∨dB L (e+1) i=4):=by omega
 have h3:¬(dB L (e+1) i=5):=by omega
 rw[aF]
 have hv:(if e+1=0∨L.length<i+1 then(eN L i 12).tmod 6 else eN L i 12)=dB L (e+1) i:=rfl
 rw[hv,if_neg h0,if_neg h1,if_neg h2,if_neg h3]
theorem AW(L:List Int)(i:Nat):(cJ L i).2≤i+3:=by unfold cJ;split<;>simp
theorem AX(L:List Int):∀(d i:Nat),(aF L d i).2+1≤i+5*2^d:=fun d=>by
 induction d with
 |zero=>
  intro i
  obtain⟨r0,_,r2⟩:=jC L 0 i
  have r2:=r2 rfl
  by_cases h0:dB L 0 i=0∨dB L 0 i=1
  ·rw[nM h0];simp
  ·by_cases h1:dB L 0 i=2
   ·rw[nN h1];simp
   ·by_cases h2:dB L 0 i=3∨dB L 0 i=4
    ·rw[kU h2];have:=AW L (i+1);omega
    ·rw[mJ (by omega)];simp
 |succ e ih=>
  intro i
  have hp:1≤2^e:=Nat.one_le_two_pow
  have h2:2^(e+1)=2*2^e:=by rw[Nat.pow_succ,Nat.mul_comm]
  obtain⟨r0,_,_⟩:=jC L (e+1) i
  by_cases h0:dB L (e+1) i=0∨dB L (e+1) i=1
  ·rw[nM h0];simp only;omega
  ·by_cases h1:dB L (e+1) i=2
   ·rw[nN h1];simp only;omega
   ·by_cases h3:dB L (e+1) i=3∨dB L (e+1) i=4
    ·rw[kU h3];have:=AW L (i+1);omega
    ·by_cases h4:dB L (e+1) i=5
     ·rw[mJ h4];simp only;omega
     ·rw[sX (by omega)]
      have a:=ih (i+1)
      have b:=ih (aF L e (i+1)).2
      simp only
      omega
theorem Cx(L:List Int)(d i:Nat)(hL:Kl L)(hll:L.length≤1000000)(hi:i+5*2^d≤2000000)(ih:∀e,d=e+1→∀j,j+5*2^e≤2000000→qX Tryz.prog 69 [.bx 0 0,.d (aD (e:Nat))] (nQ L j) (nQ L (aF L e j).2) (.d (aF L e j).1.d)):qX Tryz.prog 69 [.bx 0 0,.d (aD (d:Nat))] (nQ L i) (nQ L (aF L d i).2) (.d (aF L d i).1.d):=by
 have h2d:1≤2^d:=Nat.one_le_two_pow
 unfold nQ
 refine qX.cell hT Tryz.func69 (by kernel_rfl) (c:=_) rfl Tryz.ntmps69 (by simp) Tryz.results69 fun w0 X hp=>?_
 refine aA ?_
 simp
 refine pS.seq ?_
 have ha:=kO L i 12 hL (by omega) (by decide)
 refine pS.ro hT hW (fun|8=>some (.gen ⟨[(0,0)],[],[],nQ L (i+1),.d (aD (eN L i 12))⟩)|_=>none) ?_
 simp
 refine⟨by simpa using ha,?_⟩
 refine aT (ι:=KC) (fun⟨k⟩=>aY [(0,.bx 0 0),(1,.d (aD (d:Nat))),(4,.bx 4 0),(5,.d (aD k))]) (fun⟨k⟩=>aK [(0,.box false [.d (.sl (L.map aD)),.d (aD ((i+1:Nat):Int))]),(4,.box false [.d (aD 0),.d (.str []),.d (aD 0),.nl])]) (fun⟨k⟩=>dB L d i=k) ?_ fun⟨k⟩ hc4=>?_
 ·refine pS.seq ?_
  refine aI hT hW bU (lk [[],[0],[0,1],[0,1,2],[0,1,2,3],[0,1,2,3,4],[0,1,2,3,4,5],[0,1,2],[0,1,2,7],[0,1,2,7,8],[0,1,2,7,8,9],[0,1,2,7,8,9,10],[0,1,2,3,4,5,6,7,8,9,10,11],[0,1,2,3,4,5,6,7,8,9,10,11,12]]) (lk [[],[],[],[],[],[],[],[],[],[],[],[],[],[]]) (lk [[],[],[],[],[],[],[],[],[],[],[],[],[],[]]) (by kernel_rfl) (fun _=>none) (fun _=>⟨rfl,fun _ h=>h⟩) ?_
  simp
  refine aC ?_
  simp
  refine⟨fun h2=>?_,fun h2 h2b=>?_⟩
  ·refine aL ?_
   simp
   refine Qo.mk ⟨(eN L i 12).tmod 6⟩ (aB [0,1,4,5] [(0,0),(4,4)] (by decide) (by decide) (by simp[hp]) (by simp) (by simp)) ?_
   unfold dB;rw[if_pos (by omega)]
  ·refine pS.skip ?_
   simp
   refine Qo.mk ⟨eN L i 12⟩ (aB [0,1,4,5] [(0,0),(4,4)] (by decide) (by decide) (by simp[hp]) (by simp) (by simp)) ?_
   unfold dB;rw[if_neg (by omega)]
 ·refine pS.seq ?_
  refine aA ?_
  simp
  refine pS.block ?_
  refine aT (ι:=BC) (fun⟨b⟩=>aY [(0,.bx 0 0),(1,.d (aD (d:Nat))),(4,.bx 4 0),(5,.d (aD k)),(25,.d (aD (k))),(26,.d (.bool b))]) (fun⟨b⟩=>aK [(0,.box false [.d (.sl (L.map aD)),.d (aD ((i+1:Nat):Int))]),(4,.box false [.d (aD 0),.d (.str []),.d (aD 0),.nl])]) (fun⟨b⟩=>b=true↔(k=0∨k=1)) ?_ fun⟨b⟩ hc7=>?_
  ·refine aA ?_
   simp
   refine aC ?_
   simp
   refine⟨fun h5=>?_,fun h5=>?_⟩
   ·refine pS.skip ?_
    simp
    refine Qo.mk ⟨decide (k=0)⟩ (aB [0,1,4,5,25,26] [(0,0),(4,4)] (by decide) (by decide) (by simp[hp]) (by simp) (by simp)) ?_
    simp[h5]
   ·refine aL ?_
    simp
    refine Qo.mk ⟨decide (k=1)⟩ (aB [0,1,4,5,25,26] [(0,0),(4,4)] (by decide) (by decide) (by simp[hp]) (by simp) (by simp)) ?_
    simp only[decide_eq_true_eq];omega
  ·refine aC ?_
   simp
   refine⟨fun h7=>?_,fun h7=>?_⟩
   ·have q7:=hc7.1 h7
    refine pS.seq ?_
    have ha:=kO L (i+1) 6 hL (by omega) (by decide)
    have hr:=bJ L ((i:Int)+1) 6 (by decide)
    have hc:=Sd (L:=L) (i:=i+1)
    simp[Av]at hc
    refine pS.ro hT hW (fun|31=>some (.gen ⟨[(0,0)],[],[],nQ L (i+1+1),.d (aD (eN L ((i:Int)+1) 6))⟩)|_=>none) ?_
    simp[hc]
    refine⟨⟨⟨⟨by decide,by simpa using ha⟩,by omega⟩,by omega⟩,?_⟩
    refine pS.ret ?_
    simp
    have e:=nM (L:=L) (d:=d) (i:=i) (by simp only at hc4;omega)
    refine aS (x:=(aF L d i).1.d) (by simp[e,Av]) ?_
    simp
    exact aB [0] [(0,0)] (by decide) (by decide) (by simp[hp]) (by simp) (by simp[e])
   ·have q7:¬(k=0∨k=1):=fun q=>by simp[hc7.2 q]at h7
    refine aA ?_
    simp
    refine aC ?_
    simp
    refine⟨fun h8=>?_,fun h8=>?_⟩
    ·refine pS.seq ?_
     have hc:=AV L (i+1) hL (by omega)
     refine pS.ro hT hW (fun|38=>some (.gen ⟨[(0,0)],[],[],nQ L (i+1+1),.d (.str (mW L (i+1)))⟩)|_=>none) ?_
     simp
     refine⟨by simpa using hc,?_⟩
     refine pS.ret ?_
     simp
     have e:=nN (L:=L) (d:=d) (i:=i) (by simp only at hc4;omega)
     refine aS (x:=(aF L d i).1.d) (by simp[e]) ?_
     simp
     exact aB [0] [(0,0)] (by decide) (by decide) (by simp[hp]) (by simp) (by simp[e])
    ·refine aT (ι:=BC) (fun⟨b⟩=>aY [(0,.bx 0 0),(1,.d (aD (d:Nat))),(4,.bx 4 0),(5,.d (aD k)),(25,.d (aD (k))),(40,.d (.bool b))]) (fun⟨b⟩=>aK [(0,.box false [.d (.sl (L.map aD)),.d (aD ((i+1:Nat):Int))]),(4,.box false [.d (aD 0),.d (.str []),.d (aD 0),.nl])]) (fun⟨b⟩=>b=true↔(k=3∨k=4)) ?_ fun⟨b⟩ hc12=>?_
     ·refine aA ?_
      simp
      refine aC ?_
      simp
      refine⟨fun h10=>?_,fun h10=>?_⟩
      ·refine pS.skip ?_
       simp
       refine Qo.mk ⟨decide (k=3)⟩ (aB [0,1,4,5,25,40] [(0,0),(4,4)] (by decide) (by decide) (by simp[hp]) (by simp) (by simp)) ?_
       simp[h10]
      ·refine aL ?_
       simp
       refine Qo.mk ⟨decide (k=4)⟩ (aB [0,1,4,5,25,40] [(0,0),(4,4)] (by decide) (by decide) (by simp[hp]) (by simp) (by simp)) ?_
       simp only[decide_eq_true_eq];omega
     ·refine aC ?_
      simp
      refine⟨fun h12=>?_,fun h12=>?_⟩
      ·have q12:=hc12.1 h12
       refine pS.seq ?_
       have hc:=Pt L (i+1) hL (by omega)
       refine pS.ro hT hW (fun|44=>some (.gen ⟨[(0,0)],[],[],nQ L (cJ L (i+1)).2,.d (cJ L (i+1)).1.d⟩)|_=>none) ?_
       simp
       refine⟨by simpa using hc,?_⟩
       refine pS.ret ?_
       simp
       have e:=kU (L:=L) (d:=d) (i:=i) (by simp only at hc4;omega)
       refine aS (x:=(aF L d i).1.d) (by simp[e]) ?_
       simp
       exact aB [0] [(0,0)] (by decide) (by decide) (by simp[hp]) (by simp) (by simp[e])
      ·have q12:¬(k=3∨k=4):=fun q=>by simp[hc12.2 q]at h12
       refine aA ?_
       simp
       refine aC ?_
       simp
       refine⟨fun h13=>?_,fun h13=>?_⟩
       ·refine aA ?_
        simp
        refine pS.ret ?_
        simp
        have e:=mJ (L:=L) (d:=d) (i:=i) (by simp only at hc4;omega)
        refine aS (x:=(aF L d i).1.d) (by simp[e]) ?_
        simp
        exact aB [0] [(0,0)] (by decide) (by decide) (by simp[hp]) (by simp) (by simp[e])
       ·refine pS.skip ?_
        simp
        refine pS.seq ?_
        have hk6:6≤k∧k<12:=by have:=jC L d i;simp only at hc4;omega
        obtain⟨e,rfl⟩:∃e,d=e+1:=⟨d-1,by have:=jC L d i;simp only at hc4;omega⟩
        have hp2:2^(e+1)=2*2^e:=by rw[Nat.pow_succ,Nat.mul_comm]
        have hpe:1≤2^e:=Nat.one_le_two_pow
        have hlt:e<2^e:=Nat.lt_two_pow_self
        have c1:=ih e rfl (i+1) (by omega)
        have t1:=AX L e (i+1)
        have c2:=ih e rfl (aF L e (i+1)).2 (by omega)
        have ez:((e:Int)+1)- 1=e:=by omega
        refine pS.ro hT hW (fun|51=>some (.gen ⟨[(0,0)],[],[],nQ L (aF L e (i+1)).2,.d (aF L e (i+1)).1.d⟩)|_=>none) ?_
        simp[ez]
        refine⟨⟨by omega,by simpa using c1⟩,?_⟩
        refine pS.seq ?_
        refine aI hT hW bU (lk [[],[0],[0,1],[],[],[],[5],[4,5,6],[3,4,5,6,7],[0,1,2,3,4,5,6,7,8],[0,1,2,3,4,5,6,7,8,9]]) (lk [[0,60],[0,60],[0,60],[0],[],[],[],[],[],[],[]]) (lk [[],[],[],[],[],[],[],[0],[60],[],[4]]) (by kernel_rfl) (fun|59=>some (.gen ⟨[(0,0)],[],[],nQ L (aF L e (aF L e (i+1)).2).2,.d (aF L e (aF L e (i+1)).2).1.d⟩)|_=>none) (by intro d;first|exact⟨rfl,fun _ h=>h⟩|(split<;>exact⟨rfl,fun _ h=>h⟩)) ?_
        simp[ez]
        refine⟨⟨⟨⟨⟨by omega,by omega⟩,by omega⟩,by simpa using c2⟩,by decide⟩,?_⟩
        refine pS.ret ?_
        simp
        have ev:=sX (L:=L) (e:=e) (i:=i) (by simp only at hc4;omega)
        rw[show dB L (e+1) i=k from hc4]at ev
        refine aS (x:=(aF L (e+1) i).1.d) (by simp[ev]) ?_
        simp
        exact aB [0] [(0,0)] (by decide) (by decide) (by simp[hp]) (by simp) (by simp[ev])
theorem sY(L:List Int)(hL:Kl L)(hll:L.length≤1000000):∀(d i:Nat),i+5*2^d≤2000000→qX Tryz.prog 69 [.bx 0 0,.d (aD (d:Nat))] (nQ L i) (nQ L (aF L d i).2) (.d (aF L d i).1.d):=fun d=>by
 induction d with
 |zero=>exact fun i hi=>Cx L 0 i hL hll hi fun e he=>by omega
 |succ d ihd=>
  intro i hi
  refine Cx L (d+1) i hL hll hi fun e he j hj=>?_
  have:e=d:=by omega
  subst this
  exact ihd j hj
end
end Go.Eng
