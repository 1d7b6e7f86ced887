/-
  Texts of the proofs of this seat, part 7. No condition.
-/
import Derived.Test.YtmndmahpoljhmaaGreatDoorMF
set_option linter.unusedVariables false
set_option linter.unusedSimpArgs false
namespace Go.Eng
open Go.Proofs
attribute[local simp] mW kX iB bC mT fY hZ nM cN bG oZ.plain oZ.cond oZ.fail dP lW sT mM fP kN lG lH memless mF eJ iW tP Ee hO fI strip oL dV lK bU
 qC fQ iH iC iG oT lk cD dR bP bV bX nK eT oP iF iZ bS eK bK dG iA eV eW dW eX gF gG gH eY dX eZ dY fB gJ gK gN gO fC gR oK nH mkAgg sO AT jI bD hU aX.live TK.isNone TK.agg TK.isBool TK.isStr TK.isStruct Op.operands Call.operands
 bE cO cH cW eE nI lB cU dH iE eO kP aP frozen lI
 jM jN lC gD jP jQ jR jV lD gE jX jY jZ kC rJ lR nO nP nR nS nU kD jK gC eU Nm.d Df.d Ed.d xD xE nE xF jL rU rV dA dB
 xH xI rK xJ xK rL rM rN nV xL xM rO
 bT bA dJ lJ dK bR cB bM eN uF TK.isInt jO jW nQ gM hF dI eL eM fV eS fO lX sA nD wW rI
 nC kR mC mU cL eA dS kW jE jF iV sD gS cZ gT gU cD jT jU nN iI gV kE gP gQ fE
 cK gZ TK.isPtr eF bZ kF oU pR jS kA nT gI gL fD
attribute[local simp] dZ kG gW
section
attribute[local simp] oZ.cond Nd.d_eq nd_t nd_dr nd_td ndsD bJ eP qS eR eC
theorem Cb{ex:PS→Nd×PS}{p:PS}(h:p.is [40]=true):fM ex p=((ex (p.took [40])).1,(ex (p.took [40])).2.need [41]):=by
 rw[cE h];unfold fM;rw[if_pos h]
theorem DL{ex:PS→Nd×PS}{p:PS}(h1:p.is [40]=false)(h2:p.is qD=true):fM ex p=(.mk 36 [] 0 [],p.took qD):=by
 rw[cE h2];unfold fM;rw[if_neg (by simp[h1]),if_pos h2]
theorem Cc{ex:PS→Nd×PS}{p:PS}(h1:p.is [40]=false)(h2:p.is qD=false)(h3:¬p.peek=[])(h4:aW (p.peek[0]?.getD 0)=true):fM ex p=(.mk 32 [] (aG 32 p).1 [],(aG 32 p).2):=by
 unfold fM;rw[if_neg (by simp[h1]),if_neg (by simp[h2])]
 cases e:p.peek with
 |nil=>exact absurd e h3
 |cons c r=>
  rw[e]at h4
  have h4:aW c=true:=h4
  simp only[h4,if_true]
theorem Cd{ex:PS→Nd×PS}{p:PS}(h1:p.is [40]=false)(h2:p.is qD=false)(h3:¬p.peek=[]→aW (p.peek[0]?.getD 0)=false)(h4:p.peek.take 1=[36]):fM ex p=(.mk 33 (aM p).1 0 [],(aM p).2):=by
 unfold fM;rw[if_neg (by simp[h1]),if_neg (by simp[h2])]
 cases e:p.peek with
 |nil=>rw[e]at h4;cases h4
 |cons c r=>
  rw[e]at h3 h4
  have h3:aW c=false:=h3 (by simp)
  have h4:c=36:=by simpa using h4
  simp[h4]
  decide
theorem Ce{ex:PS→Nd×PS}{p:PS}(h1:p.is [40]=false)(h2:p.is qD=false)(h3:¬p.peek=[]→aW (p.peek[0]?.getD 0)=false)(h4:¬p.peek.take 1=[36]):fM ex p=aV p:=by
 unfold fM;rw[if_neg (by simp[h1]),if_neg (by simp[h2])]
 cases e:p.peek with
 |nil=>rfl
 |cons c r=>
  rw[e]at h3 h4
  have h3:aW c=false:=h3 (by simp)
  have h4:¬c=36:=by simpa using h4
  simp[h3,h4]
theorem PG(p:PS)(n:Nat)(ex:PS→Nd×PS)(hE:qT n 208 ex)(hn:p.l.length<n+1)(hg:bH p.l):qR Tryz.prog 285 [.bx 0 0] (eR p) (eR (fM ex p).2) (.d (fM ex p).1.d):=by
 unfold eR
 refine qR.cell hT Tryz.func285 (by kernel_rfl) (c:=_) rfl Tryz.ntmps285 (by simp) Tryz.results285 fun w0 X hp=>?_
 refine oS.sy ?_
 simp
 refine bY hT hW (fun|6=>some (.gen ⟨[(0,0)],[],[],eR p,.d (.str p.peek)⟩)|_=>none) ?_
 simp
 refine⟨qL p,?_⟩
 refine oS.seq ?_
 refine oS.block ?_
 refine bY hT hW (fun|9=>some (.gen ⟨[(0,0)],[],[],eR (p.took [40]),.d (.bool (p.is [40]))⟩)|_=>none) ?_
 simp
 refine⟨oF p [40],?_⟩
 refine aB ?_
 simp
 refine⟨fun h2=>?_,fun h2=>?_⟩
 ·refine oS.seq ?_
  have hl:=iM h2
  rw[←cE h2]at hl
  have hx:=hE.ok (p.took [40]) (by omega) (gY hg)
  refine oS.ro hT hW (fun|11=>some (.gen ⟨[(0,0)],[],[],eR (ex (p.took [40])).2,.d (ex (p.took [40])).1.d⟩)|_=>none) ?_
  simp
  refine⟨by simpa using hx,?_⟩
  refine oS.seq ?_
  have hn4:=pF (ex (p.took [40])).2 [41]
  refine oS.ro hT hW (fun|13=>some (.gen ⟨[(0,0)],[],[],eR ((ex (p.took [40])).2.need [41]),.tup []⟩)|_=>none) ?_
  simp
  refine⟨hn4,?_⟩
  refine oS.sy ?_
  simp
  refine oS.ret ?_
  simp
  have e:=Cb (ex:=ex) h2
  exact aA [0] [(0,0)] (by decide) (by decide) (by simp[hp]) (by simp[e]) (by simp[e])
 ·have e2:p.took [40]=p:=mH (by simp[h2])
  simp only[e2]
  refine bY hT hW (fun|17=>some (.gen ⟨[(0,0)],[],[],eR (p.took [107,105,110,100]),.d (.bool (p.is [107,105,110,100]))⟩)|_=>none) ?_
  simp
  refine⟨oF p [107,105,110,100],?_⟩
  refine aB ?_
  simp
  refine⟨fun h6=>?_,fun h6=>?_⟩
  ·refine oS.sy ?_
   simp
   refine oS.ret ?_
   simp
   have e:=DL (ex:=ex) h2 h6
   refine aU (x:=(fM ex p).1.d) (by simp[e]) ?_
   simp
   exact aA [0] [(0,0)] (by decide) (by decide) (by simp[hp]) (by simp) (by simp[e,qD])
  ·have e6:p.took [107,105,110,100]=p:=mH (by simp[h6])
   simp only[e6]
   refine oS.seq ?_
   have hd:=xT (p.peek[0]?.getD 0)
   refine oS.ro hT hW (fun|25=>some<| .plain ⟨.d (.bool (aW (p.peek[0]?.getD 0))),true⟩|_=>none) ?_
   simp
   refine⟨⟨fun h=>List.length_pos_iff.2 h,fun _=>hd⟩,?_⟩
   refine aB ?_
   simp
   refine⟨fun g1 g2=>?_,fun g=>?_⟩
   ·refine oS.seq ?_
    have hnu:=tI p 32 hg (by decide)
    refine oS.ro hT hW (fun|28=>some (.gen ⟨[(0,0)],[],[],eR (aG 32 p).2,.d (aC (aG 32 p).1)⟩)|_=>none) ?_
    simp
    refine⟨hnu,?_⟩
    refine oS.ret ?_
    simp
    have e:=Cc (ex:=ex) h2 h6 g1 g2
    refine aU (x:=(fM ex p).1.d) (by simp[e]) ?_
    simp
    exact aA [0] [(0,0)] (by decide) (by decide) (by simp[hp]) (by simp) (by simp[e])
   ·refine oS.seq ?_
    have hpf:=sF p.peek [36] (by have:=qM hg;omega) (by decide)
    refine oS.ro hT hW (fun|32=>some<| .plain ⟨.d (.bool (decide (p.peek.take 1=[36]))),true⟩|_=>none) ?_
    simp
    refine⟨hpf,?_⟩
    refine aB ?_
    simp
    refine⟨fun h10=>?_,fun h10=>?_⟩
    ·refine oS.seq ?_
     have hlo:=AH p hg
     refine oS.ro hT hW (fun|34=>some (.gen ⟨[(0,0)],[],[],eR (aM p).2,.d (.str (aM p).1)⟩)|_=>none) ?_
     simp
     refine⟨hlo,?_⟩
     refine oS.ret ?_
     simp
     have e:=Cd (ex:=ex) h2 h6 g h10
     refine aU (x:=(fM ex p).1.d) (by simp[e]) ?_
     simp
     exact aA [0] [(0,0)] (by decide) (by decide) (by simp[hp]) (by simp) (by simp[e])
    ·refine oS.skip ?_
     simp
     refine oS.seq ?_
     have hpl:=Ht p hg
     refine oS.ro hT hW (fun|37=>some (.gen ⟨[(0,0)],[],[],eR (aV p).2,.d (aV p).1.d⟩)|_=>none) ?_
     simp
     refine⟨by simpa using hpl,?_⟩
     refine oS.ret ?_
     simp
     have e:=Ce (ex:=ex) h2 h6 g h10
     exact aA [0] [(0,0)] (by decide) (by decide) (by simp[hp]) (by simp[e]) (by simp[e])
theorem Rt.le{n:Nat}{cls:Int→Bool}{x:PS→Nd×PS}(h:Rt n cls x)(q:PS)(hq:q.l.length<n)(hg:bH q.l):(x q).2.l.length≤q.l.length∧bH (x q).2.l:=⟨(h q hq hg).1,(h q hq hg).2.1⟩
theorem qT.fact{n:Nat}{ex:PS→Nd×PS}(hE:qT n 208 ex)(hR:Rt n aH ex):qT (n+1) 285 (fM ex):=
 ⟨fun q hq hg=>PG q n ex hE hq hg,fun q hq hg=>(Dq hR).le q hq hg⟩
theorem PH(p:PS)(n:Nat)(ex:PS→Nd×PS)(hE:qT n 208 ex)(hR:Rt n aH ex)(hn:p.l.length<n+1)(hg:bH p.l):qR Tryz.prog 267 [.bx 0 0] (eR p) (eR (Av ex p).2) (.d (Av ex p).1.d):=by
 unfold eR
 refine qR.cell hT Tryz.func267 (by kernel_rfl) (c:=_) rfl Tryz.ntmps267 (by simp) Tryz.results267 fun w0 X hp=>?_
 refine oS.sy ?_
 simp
 refine oS.seq ?_
 have hc:=Hv p 3 (fM ex) 285 (n+1) (hE.fact hR) hn hg
 refine oS.ro hT hW (fun|6=>some (.gen ⟨[(0,0)],[],[],eR (Av ex p).2,.d (Av ex p).1.d⟩)|_=>none) ?_
 simp
 refine⟨by simpa [Av]using hc,?_⟩
 refine oS.ret ?_
 simp
 exact aA [0] [(0,0)] (by decide) (by decide) (by simp[hp]) (by simp) (by simp)
theorem qT.prod{n:Nat}{ex:PS→Nd×PS}(hE:qT n 208 ex)(hR:Rt n aH ex):qT (n+1) 267 (Av ex):=
 ⟨fun q hq hg=>PH q n ex hE hR hq hg,fun q hq hg=>(Bh (Dq hR)).le q hq hg⟩
theorem NR(p:PS)(n:Nat)(ex:PS→Nd×PS)(hE:qT n 208 ex)(hR:Rt n aH ex)(hn:p.l.length<n+1)(hg:bH p.l):qR Tryz.prog 243 [.bx 0 0] (eR p) (eR (dF ex p).2) (.d (dF ex p).1.d):=by
 unfold eR
 refine qR.cell hT Tryz.func243 (by kernel_rfl) (c:=_) rfl Tryz.ntmps243 (by simp) Tryz.results243 fun w0 X hp=>?_
 refine oS.sy ?_
 simp
 refine oS.seq ?_
 have hc:=Hv p 2 (Av ex) 267 (n+1) (hE.prod hR) hn hg
 refine oS.ro hT hW (fun|6=>some (.gen ⟨[(0,0)],[],[],eR (dF ex p).2,.d (dF ex p).1.d⟩)|_=>none) ?_
 simp
 refine⟨by simpa [dF]using hc,?_⟩
 refine oS.ret ?_
 simp
 exact aA [0] [(0,0)] (by decide) (by decide) (by simp[hp]) (by simp) (by simp)
theorem Bu{ex:PS→Nd×PS}{p:PS}(h:0≤(opP 1 (dF ex p).2).1):exprB ex p=(.mk (26+(opP 1 (dF ex p).2).1) [] 0 [(dF ex p).1,(dF ex (opP 1 (dF ex p).2).2).1],(dF ex (opP 1 (dF ex p).2).2).2):=by
 unfold exprB;simp only[];rw[if_pos h]
theorem Bv{ex:PS→Nd×PS}{p:PS}(h:(opP 1 (dF ex p).2).1<0):exprB ex p=((dF ex p).1,(opP 1 (dF ex p).2).2):=by
 unfold exprB;simp only[];rw[if_neg (by omega)]
theorem Jl(p:PS)(n:Nat)(ex:PS→Nd×PS)(hE:qT n 208 ex)(hR:Rt n aH ex)(hn:p.l.length<n+1)(hg:bH p.l):qR Tryz.prog 208 [.bx 0 0] (eR p) (eR (exprB ex p).2) (.d (exprB ex p).1.d):=by
 unfold eR
 refine qR.cell hT Tryz.func208 (by kernel_rfl) (c:=_) rfl Tryz.ntmps208 (by simp) Tryz.results208 fun w0 X hp=>?_
 refine oS.sy ?_
 simp
 refine oS.seq ?_
 have hc:=NR p n ex hE hR hn hg
 have hl1:=(FR hR).le p hn hg
 refine oS.ro hT hW (fun|6=>some (.gen ⟨[(0,0)],[],[],eR (dF ex p).2,.d (dF ex p).1.d⟩)|_=>none) ?_
 simp
 refine⟨by simpa using hc,?_⟩
 refine oS.seq ?_
 refine oS.seq ?_
 have ho:=AL (dF ex p).2 1
 refine oS.ro hT hW (fun|8=>some (.gen ⟨[(0,0)],[],[],eR (opP 1 (dF ex p).2).2,.d (aC (opP 1 (dF ex p).2).1)⟩)|_=>none) ?_
 simp
 refine⟨ho,?_⟩
 refine oS.sy ?_
 simp
 refine aB ?_
 simp
 refine⟨fun h3=>?_,fun h3=>?_⟩
 ·refine oS.seq ?_
  have hol:=CA h3
  have hog:=yT (lv:=1) hl1.2
  have hc4:=NR (opP 1 (dF ex p).2).2 n ex hE hR (by omega) hog.2
  refine aF hT hW bI (lk [[],[0],[],[],[3],[2,3,4],[0,1,2,3,4,5],[0,1,2,3,4,5,6]]) (lk [[0,16],[0,16],[0],[],[],[],[],[]]) (lk [[],[],[],[],[0],[16],[],[2]]) (by kernel_rfl) (fun|15=>some (.gen ⟨[(0,0)],[],[],eR (dF ex (opP 1 (dF ex p).2).2).2,.d (dF ex (opP 1 (dF ex p).2).2).1.d⟩)|_=>none) (by intro d;first|exact⟨rfl,fun _ h=>h⟩|(split<;>exact⟨rfl,fun _ h=>h⟩)) ?_
  simp
  refine⟨⟨⟨⟨by omega,by omega⟩,by simpa using hc4⟩,by decide⟩,?_⟩
  refine oS.ret ?_
  simp
  have e:=Bu h3
  refine aU (x:=(exprB ex p).1.d) (by simp[e]) ?_
  simp
  exact aA [0] [(0,0)] (by decide) (by decide) (by simp[hp]) (by simp) (by simp[e])
 ·refine oS.skip ?_
  simp
  refine oS.sy ?_
  simp
  refine oS.ret ?_
  simp
  have e:=Bv h3
  exact aA [0] [(0,0)] (by decide) (by decide) (by simp[hp]) (by simp[e]) (by simp[e])
theorem DM:∀n:Nat,qT n 208 (fS false n)
 |0=>⟨fun q h _=>absurd h (Nat.not_lt_zero _),fun q h _=>absurd h (Nat.not_lt_zero _)⟩
 |n+1=>by
  have e:∀q,fS false (n+1) q=exprB (fS false n) q:=fun q=>by rw[fS,if_neg (by simp)]
  refine⟨fun q hq hg=>?_,fun q hq hg=>(Az (n+1)).le q hq hg⟩
  rw[e]
  exact Jl q n (fS false n) (DM n) (Az n) hq hg
end
end Go.Eng
namespace Go.Eng
open Go.RowKit
section
variable{P:Program} {N:Nat} {w0:iU} {X:Nat→Prop} {Q:LX→mI→kV→Prop} {env:mI} {H:kV}
theorem pO{c:Code}(b j id s:Nat){fz:Bool}{cs:List LV}(hs:0<s)(h:H b=.box fz cs∧cs[j]? =some .nl∧H id=.absent∧oS P N w0 X c Q env (cN (cN H id (.row false s [])) b (.box fz (cs.set j (.ow id 0 0))))):oS P N w0 X c Q env H:=by
 obtain⟨hb,hj,hid,h⟩:=h
 have hne:b≠id:=fun e=>by rw[e,hid]at hb;cases hb
 intro r hr β a w sm
 obtain⟨m1,g1⟩:=Ah sm.mem hid hs
 obtain⟨m2,g2⟩:=m1.rebox (b:=b) (fz:=fz) (cs:=cs) (cs':=cs.set j (.ow id 0 0)) (by rw[cP _ _ hne];exact hb) (by simp) fun i c c' v hc hc' hr=>by
  rw[List.getElem?_set]at hc'
  by_cases e:j=i
  ·subst e
   rw[hj]at hc;injection hc with hc;subst hc
   have hl:=(List.getElem?_eq_some_iff.1 hj).1
   simp[hl]at hc'
   subst hc'
   cases hr with|nl p=>exact .ow0 id 0 p false s [] (by rw[aJ]) (.inl ⟨by rw[aJ],rfl⟩)
  ·simp only[e,if_false]at hc'
   rw[hc]at hc';injection hc' with hc';subst hc'
   exact hr
 exact h r hr _ a w ⟨g2.marks (g1.marks sm.defers),sm.size,m2.ext,m2.xold,m2.fresh,m2.inj,fun t=>g2.R (g1.R (sm.env t)),m2.obj,m2.pin⟩
end
end Go.Eng
namespace Go.Eng
open Go.Proofs
attribute[local simp] mW kX iB bC mT fY hZ nM cN bG oZ.plain oZ.cond oZ.fail dP lW sT mM fP kN lG lH memless mF eJ iW tP Ee hO fI strip oL dV lK bU
 qC fQ iH iC iG oT lk cD dR bP bV bX nK eT oP iF iZ bS eK bK dG iA eV eW dW eX gF gG gH eY dX eZ dY fB gJ gK gN gO fC gR oK nH mkAgg sO AT jI bD hU aX.live TK.isNone TK.agg TK.isBool TK.isStr TK.isStruct Op.operands Call.operands
 bE cO cH cW eE nI lB cU dH iE eO kP aP frozen lI
 jM jN lC gD jP jQ jR jV lD gE jX jY jZ kC rJ lR nO nP nR nS nU kD jK gC eU Nm.d Df.d Ed.d xD xE nE xF jL rU rV dA dB
 xH xI rK xJ xK rL rM rN nV xL xM rO
 bT bA dJ lJ dK bR cB bM eN uF TK.isInt jO jW nQ gM hF dI eL eM fV eS fO lX sA nD wW rI
 nC kR mC mU cL eA dS kW jE jF iV sD gS cZ gT gU cD jT jU nN iI gV kE gP gQ fE
 cK gZ TK.isPtr eF bZ kF oU pR jS kA nT gI gL fD
attribute[local simp] dZ kG gW
section
attribute[local simp] oZ.cond Nd.d_eq nd_t nd_dr nd_td ndsD bJ eP qS eR eC
theorem zA{c:Prop}[Decidable c]{f:Nat→aX}{A:aX}{x:Nat}(h:f 0=A):bG f (if c then [(0,A)]else []) x=f x:=by
 by_cases hc:c
 ·rw[if_pos hc]
  subst h
  simp only[bG,cN]
  split
  ·rename_i e;rw[e]
  ·rfl
 ·rw[if_neg hc];rfl
def Cx(n:Nat)(x:PS→Nd×PS):Prop:=∀q:PS,q.l.length<n→bH q.l→q.e=0→(x q).2.e≠0∨(x q).2.l.length<q.l.length
structure Sd where
 f:Nat
 ks:List Nd
 q:PS
theorem Bw{st:PS→Nd×PS}{ks:List Nd}{q:PS}(h:q.e=0→q.peek=[125]):∀f,stmtsF st f ks q=(ks,q)
 |0=>rfl
 |f+1=>by
  rw[stmtsF,if_pos]
  by_cases e:q.e=0
  ·exact .inr (h e)
  ·exact .inl e
theorem Hw{st:PS→Nd×PS}{ks:List Nd}{q:PS}{f:Nat}(hf:q.l.length<f)(h:q.e=0)(hp:¬q.peek=[125]):stmtsF st f ks q=stmtsF st (f-1) (ks++[(st q).1]) (st q).2:=by
 obtain⟨k,rfl⟩:∃k,f=k+1:=⟨f-1,by omega⟩
 rw[stmtsF,if_neg]
 ·rfl
 ·rintro(e|e)
  ·exact e h
  ·exact hp e
theorem Hx(p:PS)(n:Nat)(st:PS→Nd×PS)(hS:qT n 162 st)(hE:Cx n st)(hn:p.l.length<n)(hg:bH p.l)(hb:p.l.length≤1100000):qR Tryz.prog 116 [.bx 0 0] (eR p) (eR (fZ st p).2) (.d (fZ st p).1.d):=by
 unfold eR
 refine qR.cell hT Tryz.func116 (by kernel_rfl) (c:=_) rfl Tryz.ntmps116 (by simp) Tryz.results116 fun w0 X hp=>?_
 refine oS.sy ?_
 simp
 refine oS.sy ?_
 simp
 refine pO (fz:=false) (cs:=[.d (aC 8),.d (.str []),.d (aC 0),.nl]) 3 3 1022 4 (by decide) ⟨by simp,by simp,by simp,?_⟩
 simp
 refine oS.seq ?_
 have hn2:=pF p [123]
 have gl:=cJ (s:=[123]) hg
 refine oS.ro hT hW (fun|6=>some (.gen ⟨[(0,0)],[],[],eR (p.need [123]),.tup []⟩)|_=>none) ?_
 simp
 refine⟨hn2,?_⟩
 refine oS.seq ?_
 refine oS.block ?_
 refine cA (ι:=Sd) (fun⟨f,ks,q⟩=>aY [(0,.bx 0 0),(2,.bx 2 0),(3,.bx 3 0)]) (fun⟨f,ks,q⟩=>aK [(0,.box false [.d (qS q.l),.d (aC q.e)]),(2,.box false [.d (aC 0),.d (.str []),.d (aC 0),.nl]),(3,.box false [.d (aC 8),.d (.str []),.d (aC 0),.ow 1022 0 ks.length]),(1022,.row false 4 (ks.map Nd.d))]) (fun⟨f,ks,q⟩=>(q.e=0→q.l.length<f)∧bH q.l∧q.l.length≤p.l.length∧ks.length+q.l.length≤p.l.length+(if q.e=0 then 0 else 1)∧stmtsF st ((p.need [123]).l.length+1) [] (p.need [123])=stmtsF st f ks q) (fun⟨f,ks,q⟩=>2*q.l.length+(if q.e=0 then 1 else 0)) ⟨(p.need [123]).l.length+1,[],p.need [123]⟩ (aA [0,2,3] [(0,0),(2,2),(3,3),(1022,1022)] (by decide) (by decide) (by simp[hp]) (by simp) (by simp)) (⟨fun _=>Nat.lt_succ_self _,gl.2,gl.1,by have:=gl.1;simp only[List.length_nil];omega,rfl⟩) fun⟨f,ks,q⟩ hi3=>?_
 refine oS.seq ?_
 refine oS.seq ?_
 have hpk:=qL q
 refine oS.ro hT hW (fun|14=>some (.gen ⟨[(0,0)],[],[],eR q,.d (.str q.peek)⟩)|_=>none) ?_
 simp[zA]
 refine⟨fun _=>hpk,?_⟩
 refine aB ?_
 simp
 refine⟨fun g1 g2=>?_,fun g=>?_⟩
 ·refine oS.skip ?_
  simp
  refine oS.block ?_
  have ha:q.l.length≤p.l.length:=hi3.2.2.1
  have hk:ks.length+q.l.length≤p.l.length:=by have z:=hi3.2.2.2.1;simp only[g1,if_true]at z;omega
  have hs:=hS.ok q (by omega) hi3.2.1
  have hle:=hS.le q (by omega) hi3.2.1
  have heat:=hE q (by omega) hi3.2.1 g1
  refine aF hT hW bI (lk [[],[0],[],[2],[2,3],[0,1,2,3,4],[0,1,2,3,4,5],[0,1,2,3,4,5,6]]) (lk [[0,21],[0,21],[],[],[],[],[],[]]) (lk [[],[],[],[0],[21],[22,1022],[],[3]]) (by kernel_rfl) (fun|20=>some (.gen ⟨[(0,0)],[],[],eR (st q).2,.d (st q).1.d⟩)|_=>none) (by intro d;first|exact⟨rfl,fun _ h=>h⟩|(split<;>exact⟨rfl,fun _ h=>h⟩)) ?_
  simp
  refine⟨⟨by simpa using hs,by omega,by omega⟩,?_⟩
  refine JK.mk ⟨f-1,ks++[(st q).1],(st q).2⟩ (aA [0,2,3] [(0,0),(2,2),(3,3),(22,1022)] (by decide) (by decide) (by simp[hp]) (by simp) (by simp)) ?_ ?_
  ·refine⟨fun e=>?_,hle.2,?_,?_,?_⟩
   ·show(st q).2.l.length<f-1
    have z:=hi3.1 g1
    rcases heat with h|h
    ·exact absurd e h
    ·omega
   ·show(st q).2.l.length≤p.l.length
    omega
   ·show(ks++[(st q).1]).length+(st q).2.l.length≤p.l.length+(if(st q).2.e=0 then 0 else 1)
    rw[List.length_append,List.length_singleton]
    by_cases e:(st q).2.e=0
    ·rw[if_pos e]
     rcases heat with h|h
     ·exact absurd e h
     ·omega
    ·rw[if_neg e];omega
   ·rw[hi3.2.2.2.2];exact Hw (hi3.1 g1) g1 g2
  ·show 2*(st q).2.l.length+(if(st q).2.e=0 then 1 else 0)<2*q.l.length+(if q.e=0 then 1 else 0)
   rw[if_pos g1]
   by_cases e:(st q).2.e=0
   ·rw[if_pos e]
    rcases heat with h|h
    ·exact absurd e h
    ·omega
   ·rw[if_neg e];omega
 ·refine oS.exit ?_
  simp
  refine oS.seq ?_
  have hn5:=pF q [125]
  refine oS.ro hT hW (fun|25=>some (.gen ⟨[(0,0)],[],[],eR (q.need [125]),.tup []⟩)|_=>none) ?_
  simp
  refine⟨hn5,?_⟩
  refine oS.sy ?_
  simp
  refine oS.ret ?_
  simp
  have e:fZ st p=(.mk 8 [] 0 ks,q.need [125]):=by unfold fZ;simp only[];rw[hi3.2.2.2.2,Bw g]
  refine aU (x:=(fZ st p).1.d) (by simp[e]) ?_
  simp
  exact aA [0] [(0,0)] (by decide) (by decide) (by simp[hp]) (by simp) (by simp[e])
end
open Go.Proofs
section
attribute[local simp] oZ.cond Nd.d_eq nd_t nd_dr nd_td ndsD bJ eP qS eR eC
def cmdA(k:Int)(p:PS):aR×PS:=if k=19∨k=20 then aM p else if k=21∨k=25∨k=24 then([],p)else aD p
theorem vE{k:Int}{p:PS}(h:bH p.l):(cmdA k p).2.l.length≤p.l.length∧bH (cmdA k p).2.l:=by
 unfold cmdA
 split
 ·exact⟨(gX h).1,(gX h).2.1⟩
 ·split
  ·exact⟨Nat.le_refl _,h⟩
  ·exact⟨(eI h).1,(eI h).2.1⟩
theorem DN{ex:PS→Nd×PS}{k:Int}{p:PS}(h:k=15∨k=22∨k=24):mX ex k p=(.mk k (cmdA k p).1 0 [(ex (cmdA k p).2).1],(ex (cmdA k p).2).2):=by
 unfold mX;simp only[];rw[if_pos h];rfl
theorem CB{ex:PS→Nd×PS}{k:Int}{p:PS}(h0:¬(k=15∨k=22∨k=24))(h:k=16∨k=23):mX ex k p=(.mk k (cmdA k p).1 0 [.mk 33 (aM (cmdA k p).2).1 0 []],(aM (cmdA k p).2).2):=by
 unfold mX;simp only[];rw[if_neg h0,if_pos h];rfl
theorem zB{ex:PS→Nd×PS}{k:Int}{p:PS}(h0:¬(k=15∨k=22∨k=24))(h1:¬(k=16∨k=23))(h:k=19∨k=21∨k=25):mX ex k p=(.mk k (cmdA k p).1 (aG k (cmdA k p).2).1 [],(aG k (cmdA k p).2).2):=by
 unfold mX;simp only[];rw[if_neg h0,if_neg h1,if_pos h];rfl
theorem vF{ex:PS→Nd×PS}{k:Int}{p:PS}(h0:¬(k=15∨k=22∨k=24))(h1:¬(k=16∨k=23))(h:¬(k=19∨k=21∨k=25)):mX ex k p=(.mk k (cmdA k p).1 0 [],(cmdA k p).2):=by
 unfold mX;simp only[];rw[if_neg h0,if_neg h1,if_neg h];rfl
def RA(p:PS)(x:Nd):List (Nat×aX):=[(0,.box false [.d (qS p.l),.d (aC p.e)]),(1,.box false [.d (aC x.kind),.d (.str x.text),.d (aC x.n),.d (ndsD x.kids)])]
structure Vv where
 s:aR
 q:PS
theorem Jm(p:PS)(n:Nat)(ex:PS→Nd×PS)(k:Int)(hk:0≤k∧k<37)(hE:qT n 208 ex)(hn:p.l.length<n)(hg:bH p.l):qR Tryz.prog 209 [.bx 0 0,.bx 1 0] [(0,.box false [.d (qS p.l),.d (aC p.e)]),(1,.box false [.d (aC k),.d (.str []),.d (aC 0),.nl])] (RA (mX ex k p).2 (mX ex k p).1) (.tup []):=by
 unfold RA
 refine Au Tryz.func209 (by kernel_rfl) (c:=_) rfl Tryz.ntmps209 (by simp) Tryz.results209 fun w0 X hp=>?_
 refine aO (ι:=Vv) (fun⟨s,q⟩=>aY [(0,.bx 0 0),(1,.bx 1 0)]) (fun⟨s,q⟩=>aK [(0,.box false [.d (qS q.l),.d (aC q.e)]),(1,.box false [.d (aC k),.d (.str s),.d (aC 0),.nl])]) (fun⟨s,q⟩=>cmdA k p=(s,q)) ?_ fun⟨s,q⟩ hc8=>?_
 ·refine oS.sy ?_
  simp
  refine oS.block ?_
  refine aO (ι:=BC) (fun⟨b⟩=>aY [(0,.bx 0 0),(1,.bx 1 0),(7,.d (aC k)),(13,.d (.bool b))]) (fun⟨b⟩=>aK [(0,.box false [.d (qS p.l),.d (aC p.e)]),(1,.box false [.d (aC k),.d (.str []),.d (aC 0),.nl])]) (fun⟨b⟩=>b=true↔(k=19∨k=20)) ?_ fun⟨b⟩ hc4=>?_
  ·refine oS.sy ?_
   simp
   refine aB ?_
   simp
   refine⟨fun h2=>?_,fun h2=>?_⟩
   ·refine oS.skip ?_
    simp
    refine Pg.mk ⟨decide (k=19)⟩ (aA [0,1,7,13] [(0,0),(1,1)] (by decide) (by decide) (by simp[hp]) (by simp) (by simp)) ?_
    simp[h2]
   ·refine aL ?_
    simp
    refine Pg.mk ⟨decide (k=20)⟩ (aA [0,1,7,13] [(0,0),(1,1)] (by decide) (by decide) (by simp[hp]) (by simp) (by simp)) ?_
    simp only[decide_eq_true_eq];omega
  ·refine aB ?_
   simp
   refine⟨fun h4=>?_,fun h4=>?_⟩
   ·have q4:=hc4.1 h4
    have hlo:=AH p hg
    refine oS.ro hT hW (fun|18=>some (.gen ⟨[(0,0)],[],[],eR (aM p).2,.d (.str (aM p).1)⟩)|_=>none) ?_
    simp
    refine⟨hlo,?_⟩
    refine Pg.mk ⟨(aM p).1,(aM p).2⟩ (aA [0,1] [(0,0),(1,1)] (by decide) (by decide) (by simp[hp]) (by simp) (by simp)) ?_
    unfold cmdA;rw[if_pos q4]
   ·have q4:¬(k=19∨k=20):=fun q=>by simp[hc4.2 q]at h4
    refine aO (ι:=BC) (fun⟨b⟩=>aY [(0,.bx 0 0),(1,.bx 1 0),(7,.d (aC k)),(21,.d (.bool b))]) (fun⟨b⟩=>aK [(0,.box false [.d (qS p.l),.d (aC p.e)]),(1,.box false [.d (aC k),.d (.str []),.d (aC 0),.nl])]) (fun⟨b⟩=>b=true↔(k=21∨k=25∨k=24)) ?_ fun⟨b⟩ hc1=>?_
    ·refine oS.sy ?_
     simp
     refine aB ?_
     simp
     refine⟨fun h5=>?_,fun h5=>?_⟩
     ·refine oS.skip ?_
      simp
      refine Pg.mk ⟨decide (k=21)⟩ (aA [0,1,7,21] [(0,0),(1,1)] (by decide) (by decide) (by simp[hp]) (by simp) (by simp)) ?_
      simp[h5]
     ·refine oS.sy ?_
      simp
      refine aB ?_
      simp
      refine⟨fun h6=>?_,fun h6=>?_⟩
      ·refine oS.skip ?_
       simp
       refine Pg.mk ⟨decide (k=25)⟩ (aA [0,1,7,21] [(0,0),(1,1)] (by decide) (by decide) (by simp[hp]) (by simp) (by simp)) ?_
       simp[h6]
      ·refine aL ?_
       simp
       refine Pg.mk ⟨decide (k=24)⟩ (aA [0,1,7,21] [(0,0),(1,1)] (by decide) (by decide) (by simp[hp]) (by simp) (by simp)) ?_
       simp only[decide_eq_true_eq];omega
    ·refine aB ?_
     simp
     refine⟨fun h1=>?_,fun h1=>?_⟩
     ·have q1:=hc1.1 h1
      refine oS.skip ?_
      simp
      refine Pg.mk ⟨[],p⟩ (aA [0,1] [(0,0),(1,1)] (by decide) (by decide) (by simp[hp]) (by simp) (by simp)) ?_
      unfold cmdA;rw[if_neg q4,if_pos q1]
     ·have q1:¬(k=21∨k=25∨k=24):=fun q=>by simp[hc1.2 q]at h1
      have hna:=AG p
      refine oS.ro hT hW (fun|10=>some (.gen ⟨[(0,0)],[],[],eR (aD p).2,.d (.str (aD p).1)⟩)|_=>none) ?_
      simp
      refine⟨hna,?_⟩
      refine Pg.mk ⟨(aD p).1,(aD p).2⟩ (aA [0,1] [(0,0),(1,1)] (by decide) (by decide) (by simp[hp]) (by simp) (by simp)) ?_
      unfold cmdA;rw[if_neg q4,if_neg q1]
 ·refine oS.sy ?_
  simp
  refine oS.block ?_
  refine aO (ι:=BC) (fun⟨b⟩=>aY [(0,.bx 0 0),(1,.bx 1 0),(28,.d (aC k)),(29,.d (.bool b))]) (fun⟨b⟩=>aK [(0,.box false [.d (qS q.l),.d (aC q.e)]),(1,.box false [.d (aC k),.d (.str s),.d (aC 0),.nl])]) (fun⟨b⟩=>b=true↔(k=15∨k=22∨k=24)) ?_ fun⟨b⟩ hc12=>?_
  ·refine oS.sy ?_
   simp
   refine aB ?_
   simp
   refine⟨fun h9=>?_,fun h9=>?_⟩
   ·refine oS.skip ?_
    simp
    refine Pg.mk ⟨decide (k=15)⟩ (aA [0,1,28,29] [(0,0),(1,1)] (by decide) (by decide) (by simp[hp]) (by simp) (by simp)) ?_
    simp[h9]
   ·refine oS.sy ?_
    simp
    refine aB ?_
    simp
    refine⟨fun h10=>?_,fun h10=>?_⟩
    ·refine oS.skip ?_
     simp
     refine Pg.mk ⟨decide (k=22)⟩ (aA [0,1,28,29] [(0,0),(1,1)] (by decide) (by decide) (by simp[hp]) (by simp) (by simp)) ?_
     simp[h10]
    ·refine aL ?_
     simp
     refine Pg.mk ⟨decide (k=24)⟩ (aA [0,1,28,29] [(0,0),(1,1)] (by decide) (by decide) (by simp[hp]) (by simp) (by simp)) ?_
     simp only[decide_eq_true_eq];omega
  ·refine aB ?_
   simp
   refine⟨fun h12=>?_,fun h12=>?_⟩
   ·have q12:=hc12.1 h12
    have ga:=vE (k:=k) hg
    rw[hc8]at ga
    have hx:=hE.ok q (by have:=ga.1;simp only at this;omega) ga.2
    refine oS.ro hT hW (fun|35=>some (.gen ⟨[(0,0)],[],[],eR (ex q).2,.d (ex q).1.d⟩)|_=>none) ?_
    simp
    refine⟨by simpa using hx,?_⟩
    have e:=DN (ex:=ex) (p:=p) q12
    rw[hc8]at e
    refine oM.trans (bN 1 [36] (fz:=false) (cs:=[.d (aC k),.d (.str s),.d (aC 0),.ow 36 0 1]) (ds:=[aC k,.str s,aC 0,.sl [(ex q).1.d]]) (by simp) (by simp) (by simp) (by simp[aX.mut])) ?_
    simp
    exact aA [] [(0,0),(1,1)] (by decide) (by decide) (by simp[hp]) (by simp) (by simp[e])
   ·have q12:¬(k=15∨k=22∨k=24):=fun q=>by simp[hc12.2 q]at h12
    refine aO (ι:=BC) (fun⟨b⟩=>aY [(0,.bx 0 0),(1,.bx 1 0),(28,.d (aC k)),(39,.d (.bool b))]) (fun⟨b⟩=>aK [(0,.box false [.d (qS q.l),.d (aC q.e)]),(1,.box false [.d (aC k),.d (.str s),.d (aC 0),.nl])]) (fun⟨b⟩=>b=true↔(k=16∨k=23)) ?_ fun⟨b⟩ hc15=>?_
    ·refine oS.sy ?_
     simp
     refine aB ?_
     simp
     refine⟨fun h13=>?_,fun h13=>?_⟩
     ·refine oS.skip ?_
      simp
      refine Pg.mk ⟨decide (k=16)⟩ (aA [0,1,28,39] [(0,0),(1,1)] (by decide) (by decide) (by simp[hp]) (by simp) (by simp)) ?_
      simp[h13]
     ·refine aL ?_
      simp
      refine Pg.mk ⟨decide (k=23)⟩ (aA [0,1,28,39] [(0,0),(1,1)] (by decide) (by decide) (by simp[hp]) (by simp) (by simp)) ?_
      simp only[decide_eq_true_eq];omega
    ·refine aB ?_
     simp
     refine⟨fun h15=>?_,fun h15=>?_⟩
     ·have q15:=hc15.1 h15
      have ga:=vE (k:=k) hg
      rw[hc8]at ga
      have hlo:=AH q ga.2
      refine oS.ro hT hW (fun|44=>some (.gen ⟨[(0,0)],[],[],eR (aM q).2,.d (.str (aM q).1)⟩)|_=>none) ?_
      simp
      refine⟨hlo,?_⟩
      have e:=CB (ex:=ex) (p:=p) q12 q15
      rw[hc8]at e
      refine oM.trans (bN 1 [46] (fz:=false) (cs:=[.d (aC k),.d (.str s),.d (aC 0),.ow 46 0 1]) (ds:=[aC k,.str s,aC 0,.sl [(Nd.mk 33 (aM q).1 0 []).d]]) (by simp) (by simp) (by simp) (by simp[aX.mut])) ?_
      simp
      exact aA [] [(0,0),(1,1)] (by decide) (by decide) (by simp[hp]) (by simp) (by simp[e])
     ·have q15:¬(k=16∨k=23):=fun q=>by simp[hc15.2 q]at h15
      refine aO (ι:=BC) (fun⟨b⟩=>aY [(0,.bx 0 0),(1,.bx 1 0),(28,.d (aC k)),(49,.d (.bool b))]) (fun⟨b⟩=>aK [(0,.box false [.d (qS q.l),.d (aC q.e)]),(1,.box false [.d (aC k),.d (.str s),.d (aC 0),.nl])]) (fun⟨b⟩=>b=true↔(k=19∨k=21∨k=25)) ?_ fun⟨b⟩ hc19=>?_
      ·refine oS.sy ?_
       simp
       refine aB ?_
       simp
       refine⟨fun h16=>?_,fun h16=>?_⟩
       ·refine oS.skip ?_
        simp
        refine Pg.mk ⟨decide (k=19)⟩ (aA [0,1,28,49] [(0,0),(1,1)] (by decide) (by decide) (by simp[hp]) (by simp) (by simp)) ?_
        simp[h16]
       ·refine oS.sy ?_
        simp
        refine aB ?_
        simp
        refine⟨fun h17=>?_,fun h17=>?_⟩
        ·refine oS.skip ?_
         simp
         refine Pg.mk ⟨decide (k=21)⟩ (aA [0,1,28,49] [(0,0),(1,1)] (by decide) (by decide) (by simp[hp]) (by simp) (by simp)) ?_
         simp[h17]
        ·refine aL ?_
         simp
         refine Pg.mk ⟨decide (k=25)⟩ (aA [0,1,28,49] [(0,0),(1,1)] (by decide) (by decide) (by simp[hp]) (by simp) (by simp)) ?_
         simp only[decide_eq_true_eq];omega
      ·refine aB ?_
       simp
       refine⟨fun h19=>?_,fun h19=>?_⟩
       ·have q19:=hc19.1 h19
        have ga:=vE (k:=k) hg
        rw[hc8]at ga
        have hnu:=tI q k ga.2 hk
        refine oS.ro hT hW (fun|59=>some (.gen ⟨[(0,0)],[],[],eR (aG k q).2,.d (aC (aG k q).1)⟩)|_=>none) ?_
        simp
        refine⟨hnu,?_⟩
        have e:=zB (ex:=ex) (p:=p) q12 q15 q19
        rw[hc8]at e
        refine oM.trans (bN 1 [] (fz:=false) (cs:=[.d (aC k),.d (.str s),.d (aC (aG k q).1),.nl]) (ds:=[aC k,.str s,aC (aG k q).1,.sl []]) (by simp) (by simp) (by simp) (by simp[aX.mut])) ?_
        simp
        exact aA [] [(0,0),(1,1)] (by decide) (by decide) (by simp[hp]) (by simp) (by simp[e])
       ·have q19:¬(k=19∨k=21∨k=25):=fun q=>by simp[hc19.2 q]at h19
        refine oS.skip ?_
        simp
        have e:=vF (ex:=ex) (p:=p) q12 q15 q19
        rw[hc8]at e
        refine oM.trans (bN 1 [] (fz:=false) (cs:=[.d (aC k),.d (.str s),.d (aC 0),.nl]) (ds:=[aC k,.str s,aC 0,.sl []]) (by simp) (by simp) (by simp) (by simp[aX.mut])) ?_
        simp
        exact aA [] [(0,0),(1,1)] (by decide) (by decide) (by simp[hp]) (by simp) (by simp[e])
end
end Go.Eng
namespace Go.Eng
open Go.Proofs
theorem zX{α:Type}(q:α→Bool)(d:α):∀l:List α,(List.range l.length).find? (fun i=>q (l.getD i d))=l.findIdx? q
 |[]=>rfl
 |x::l=>by
  have ih:=zX q d l
  rw[List.length_cons,List.range_succ_eq_map,List.find?_cons,List.findIdx?_cons]
  have e:(x::l).getD 0 d=x:=rfl
  rw[e]
  cases h:q x with
  |true=>simp
  |false=>
   simp only[List.find?_map]
   rw[←ih]
   rfl
theorem PI{s:aR}(h:¬s=[]):cV s=vY (fun x=>decide (s=x)) jA:=by
 unfold cV JM vY
 rw[if_neg h]
 have e:=zX (fun x=>decide (s=x)) [] jA
 rw[show jA.length=26 from rfl]at e
 rw[←e]
 have e2:(fun i=>decide (jA.getD i []=s))=fun i=>decide (s=jA.getD i []):=by funext i;rw[decide_eq_decide];exact eq_comm
 rw[e2]
 rfl
theorem xW{s:aR}(h:s=[]):cV s= -1:=by unfold cV;rw[if_pos h]
theorem mY{p:PS}(h:0≤cV p.peek):p.is p.peek=true:=fW.2 ⟨fun e=>by rw[xW e]at h;omega,rfl⟩
theorem CC{ex bl:PS→Nd×PS}{p:PS}{k:Int}(hk:cV p.peek=k)(h:k=11)(he:(bl (ex (p.took p.peek)).2).2.is eD=true):
 iR ex bl p=(.mk k [] 0 [(ex (p.took p.peek)).1,(bl (ex (p.took p.peek)).2).1,(bl ((bl (ex (p.took p.peek)).2).2.took eD)).1],(bl ((bl (ex (p.took p.peek)).2).2.took eD)).2):=by
 subst hk
 rw[cE he]
 rw[cE (mY (by omega))]at he⊢
 unfold iR;simp only[]
 rw[if_pos (by omega),if_pos ⟨h,he⟩]
theorem Ke{ex bl:PS→Nd×PS}{p:PS}{k:Int}(hk:cV p.peek=k)(h:k=11∨k=12)(he:k=11→(bl (ex (p.took p.peek)).2).2.is eD=false):
 iR ex bl p=(.mk k [] 0 [(ex (p.took p.peek)).1,(bl (ex (p.took p.peek)).2).1],(bl (ex (p.took p.peek)).2).2):=by
 subst hk
 rw[cE (mY (by omega))]at he⊢
 unfold iR;simp only[]
 rw[if_pos h,if_neg (fun q=>by rw[he q.1]at q;exact absurd q.2 (by simp))]
theorem Gd{ex bl:PS→Nd×PS}{p:PS}{k:Int}(hk:cV p.peek=k)(h:12<k):iR ex bl p=((mX ex k (p.took p.peek)).1,(mX ex k (p.took p.peek)).2.need [59]):=by
 subst hk
 rw[cE (mY (by omega))]
 unfold iR;simp only[]
 rw[if_neg (by omega),if_pos h]
theorem AM{ex bl:PS→Nd×PS}{p:PS}{k:Int}(hk:cV p.peek=k)(h0:¬(k=11∨k=12))(h:¬12<k)(hd:p.peek.take 1=[36]):iR ex bl p=(.mk 9 (aM p).1 0 [(ex ((aM p).2.need [61])).1],(ex ((aM p).2.need [61])).2.need [59]):=by
 subst hk
 unfold iR;simp only[]
 rw[if_neg h0,if_neg h]
 rw[(oA hd).1]
 rfl
theorem AN{ex bl:PS→Nd×PS}{p:PS}{k:Int}(hk:cV p.peek=k)(h0:¬(k=11∨k=12))(h:¬12<k)(hd:¬p.peek.take 1=[36]):iR ex bl p=(.mk 10 [] 0 [(aV p).1,(ex ((aV p).2.need [61])).1],(ex ((aV p).2.need [61])).2.need [59]):=by
 subst hk
 unfold iR;simp only[]
 rw[if_neg h0,if_neg h]
 split
 ·rename_i r e;rw[e]at hd;exact absurd rfl hd
 ·rfl
theorem mR{p:PS}{s:aR}:(p.need s).l.length≤p.l.length:=by
 unfold PS.need
 split
 ·exact fG
 ·rw[oO];exact Nat.le_refl _
theorem DO{m:Nat}{ex bl:PS→Nd×PS}(hs:vM ex)(ht:vM bl)(hx:Rt (m+1) aH ex)(hb:Rt m cF bl):Cx (m+1) (iR ex bl):=fun p hl h _=>by
 by_cases he:(iR ex bl p).2.e=0
 ·right
  obtain⟨k,hk⟩:∃k,cV p.peek=k:=⟨_,rfl⟩
  by_cases h1:k=11∨k=12
  ·have ip:=mY (p:=p) (by omega)
   have lp:=iM ip
   rw[←cE ip]at lp
   have gp:=gY (s:=p.peek) h
   obtain⟨e0,e1,_⟩:=hx (p.took p.peek) (by omega) gp
   obtain⟨b0,b1,_⟩:=hb (ex (p.took p.peek)).2 (by omega) e1
   by_cases h2:k=11∧(bl (ex (p.took p.peek)).2).2.is eD=true
   ·rw[CC hk h2.1 h2.2]
    have l2:=iM h2.2
    rw[←cE h2.2]at l2
    obtain⟨c0,_,_⟩:=hb ((bl (ex (p.took p.peek)).2).2.took eD) (by omega) (gY b1)
    show(bl ((bl (ex (p.took p.peek)).2).2.took eD)).2.l.length<p.l.length
    omega
   ·rw[Ke hk h1 (fun q=>by
     cases z:(bl (ex (p.took p.peek)).2).2.is eD with
     |false=>rfl
     |true=>exact absurd ⟨q,z⟩ h2)]
    show(bl (ex (p.took p.peek)).2).2.l.length<p.l.length
    omega
  ·by_cases h3:12<k
   ·have ip:=mY (p:=p) (by omega)
    have lp:=iM ip
    rw[←cE ip]at lp
    have gp:=gY (s:=p.peek) h
    obtain⟨c0,_,_⟩:=JO (m:=m+1) hs hx (k:=k) (hk▸zQ (s:=p.peek) (by omega)) (p.took p.peek) (by omega) gp
    rw[Gd hk h3]
    have:=mR (p:=(mX ex k (p.took p.peek)).2) (s:=[59])
    show((mX ex k (p.took p.peek)).2.need [59]).l.length<p.l.length
    omega
   ·by_cases h4:p.peek.take 1=[36]
    ·obtain⟨i1,i2⟩:=oA h4
     have ip:p.is p.peek=true:=fW.2 ⟨fun e=>(by rw[e]at h4;cases h4),rfl⟩
     have lp:=iM ip
     rw[←cE ip]at lp
     rw[AM hk h1 h3 h4,i2]
     have n1:=mR (p:=p.took p.peek) (s:=[61])
     obtain⟨e0,_,_⟩:=hx ((p.took p.peek).need [61]) (by omega) (cJ (gY h)).2
     have n2:=mR (p:=(ex ((p.took p.peek).need [61])).2) (s:=[59])
     show((ex ((p.took p.peek).need [61])).2.need [59]).l.length<p.l.length
     omega
    ·rw[AN hk h1 h3 h4]at he⊢
     have he:((ex ((aV p).2.need [61])).2.need [59]).e=0:=he
     have he2:=hs _ (jB he).2
     have he3:=(jB he2).2
     have pl:(aV p).2.l.length<p.l.length:=by
      unfold aV at he3⊢
      have nm:(aD p).2.e=0→(aD p).2.l.length<p.l.length:=fun z=>by
       cases q:kQ p.peek with
       |false=>rw[tH q]at z;exact absurd z (pM (by decide))
       |true=>
        have ip:p.is p.peek=true:=fW.2 ⟨fun e=>(by rw[e]at q;cases q),rfl⟩
        have lp:=iM ip
        rw[wE q,cE ip]
        simp only;omega
      have ng:=eI h
      split at he3
      ·rename_i z
       rw[if_pos z]
       have z2:=qZ _ he3
       have z3:(aD p).2.e=0:=z2
       have ll:=(eI (p:=(aD p).2.skip) (eG ng.2.1)).1
       have l3:=fG (p:=(aD p).2)
       have:=nm z3
       simp only;omega
      ·rename_i z
       rw[if_neg z]
       exact nm he3
     have n1:=mR (p:=(aV p).2) (s:=[61])
     have pg:=(pS (p.l.length+1) p (Nat.lt_succ_self _) h).2.1
     obtain⟨e0,_,_⟩:=hx ((aV p).2.need [61]) (by omega) (cJ pg).2
     have n2:=mR (p:=(ex ((aV p).2.need [61])).2) (s:=[59])
     show((ex ((aV p).2.need [61])).2.need [59]).l.length<p.l.length
     omega
 ·exact .inl he
end Go.Eng
namespace Go.Eng
open Go.Proofs
attribute[local simp] mW kX iB bC mT fY hZ nM cN bG oZ.plain oZ.cond oZ.fail dP lW sT mM fP kN lG lH memless mF eJ iW tP Ee hO fI strip oL dV lK bU
 qC fQ iH iC iG oT lk cD dR bP bV bX nK eT oP iF iZ bS eK bK dG iA eV eW dW eX gF gG gH eY dX eZ dY fB gJ gK gN gO fC gR oK nH mkAgg sO AT jI bD hU aX.live TK.isNone TK.agg TK.isBool TK.isStr TK.isStruct Op.operands Call.operands
 bE cO cH cW eE nI lB cU dH iE eO kP aP frozen lI
 jM jN lC gD jP jQ jR jV lD gE jX jY jZ kC rJ lR nO nP nR nS nU kD jK gC eU Nm.d Df.d Ed.d xD xE nE xF jL rU rV dA dB
 xH xI rK xJ xK rL rM rN nV xL xM rO
 bT bA dJ lJ dK bR cB bM eN uF TK.isInt jO jW nQ gM hF dI eL eM fV eS fO lX sA nD wW rI
 nC kR mC mU cL eA dS kW jE jF iV sD gS cZ gT gU cD jT jU nN iI gV kE gP gQ fE
 cK gZ TK.isPtr eF bZ kF oU pR jS kA nT gI gL fD
attribute[local simp] dZ kG gW
section
attribute[local simp] oZ.cond Nd.d_eq nd_t nd_dr nd_td ndsD bJ eP eC iY AI AJ AK oO Gc
def Fs(T:List Tk)(n:Nat)(x:PS→Nd×PS):Prop:=∀q:PS,q.l.length<n→pX T q→pX T (x q).2∧(x q).2.l.length≤q.l.length
theorem pX.goodT{T:List Tk}{q:PS}(f:pX T q)(hg:bH T):bH q.l:=fun t ht=>hg t (f.suf.mem ht)
theorem tK{p:PS}{w:aR}(h:p.is w=true):(p.took w).l.length+1=p.l.length:=by rw[cE h];exact iM h
theorem Ge{p:PS}{w:aR}:(p.took w).l.length≤p.l.length:=by
 unfold PS.took;split
 ·exact fG
 ·exact Nat.le_refl _
theorem Fs.place{T:List Tk}(hg:bH T)(n:Nat):Fs T n aV:=fun q h f=>⟨f.place,(pS n q h (f.goodT hg)).1⟩
theorem Fs.chainF{T:List Tk}{m:Nat}{lv:Int}{x:PS→Nd×PS}(hx:Fs T m x):∀(f:Nat) (n:Nd) (p:PS),p.l.length<m→pX T p→pX T (chainF lv x f n p).2∧(chainF lv x f n p).2.l.length≤p.l.length
 |0,_,p,_,hf=>⟨hf,Nat.le_refl _⟩
 |f+1,n,p,hm,hf=>by
  rw[Go.Eng.chainF]
  split
  ·exact⟨hf,Nat.le_refl _⟩
  ·split
   ·rename_i h
    rw[zM h];exact⟨hf,Nat.le_refl _⟩
   ·rename_i h
    have h':0≤qH lv p.peek:=by have:¬qH lv p.peek<0:=h;omega
    rw[tJ h']
    have l1:=tK (qO h').2.1
    obtain⟨a1,a2⟩:=hx (p.took p.peek) (by omega) hf.took
    obtain⟨b1,b2⟩:=Fs.chainF (lv:=lv) hx f (.mk (26+(qH lv p.peek)) [] 0 [n,(x (p.took p.peek)).1]) (x (p.took p.peek)).2 (by omega) a1
    exact⟨b1,Nat.le_trans b2 (by omega)⟩
theorem AO{T:List Tk}{m:Nat}{lv:Int}{x:PS→Nd×PS}(hx:Fs T m x):Fs T m (fK lv x):=fun q h f=>by
 obtain⟨a1,a2⟩:=hx q h f
 obtain⟨b1,b2⟩:=Fs.chainF (lv:=lv) hx ((x q).2.l.length+1) (x q).1 (x q).2 (by omega) a1
 exact⟨b1,by unfold fK;omega⟩
theorem Fs.fact{T:List Tk}(hg:bH T){n:Nat}{ex:PS→Nd×PS}(hx:Fs T n ex):Fs T (n+1) (fM ex):=fun q h f=>by
 have gq:=f.goodT hg
 unfold fM
 split
 ·rename_i z
  have hl:=iM z
  obtain⟨a1,a2⟩:=hx q.skip (by omega) f.skip
  exact⟨a1.need,by have:=mR (p:=(ex q.skip).2) (s:=[41]);simp only;omega⟩
 ·split
  ·exact⟨f.skip,fG⟩
  ·split
   ·split
    ·exact⟨f.numeral,(kS gq).1⟩
    ·split
     ·exact⟨f.local,(gX gq).1⟩
     ·exact Fs.place hg (n+1) q h f
   ·exact Fs.place hg (n+1) q h f
theorem Fs.exprB{T:List Tk}(hg:bH T){n:Nat}{ex:PS→Nd×PS}(hx:Fs T n ex):Fs T (n+1) (exprB ex):=fun q h f=>by
 have hs:Fs T (n+1) (dF ex):=AO (AO (Fs.fact hg hx))
 obtain⟨a1,a2⟩:=hs q h f
 unfold Go.Eng.exprB
 simp only[]
 by_cases z:0≤qH 1 (dF ex q).2.peek
 ·rw[if_pos (show 0≤(opP 1 (dF ex q).2).1 from z),tJ z]
  have l1:=tK (qO z).2.1
  obtain⟨b1,b2⟩:=hs ((dF ex q).2.took (dF ex q).2.peek) (by omega) a1.took
  exact⟨b1,by simp only;omega⟩
 ·rw[if_neg (show¬0≤(opP 1 (dF ex q).2).1 from z),zM (by omega)]
  exact⟨a1,a2⟩
theorem Gf{T:List Tk}(hg:bH T):∀n,Fs T n (fS true n)
 |0=>fun q h _=>absurd h (Nat.not_lt_zero _)
 |n+1=>fun q h f=>by
  rw[fS]
  split
  ·exact⟨f,Nat.le_refl _⟩
  ·exact Fs.exprB hg (Gf hg n) q h f
structure RR(s:aR)(T:List Tk)(n:Nat)(g:FuncId)(x:PS→Nd×PS):Prop where
 ok:∀q:PS,q.l.length<n→pX T q→qR Tryz.prog g [.bx 0 0] (iY s T q) (iY s T (x q).2) (.d (x q).1.d)
 fs:Fs T n x
theorem Ql(s:aR):qH 3 s=if s=[42]then 5 else -1:=by
 by_cases h:s=[42]
 ·subst h;rfl
 ·rw[if_neg h]
  simp[qH,zH,List.range,List.range.loop,Ne.symm h,h]
theorem NS(s:aR):qH 2 s=if s=[43]then 3 else if s=[45]then 4 else -1:=by
 by_cases h:s=[43]
 ·subst h;rfl
 ·rw[if_neg h]
  by_cases h2:s=[45]
  ·subst h2;rfl
  ·rw[if_neg h2]
   have a:=Ne.symm h
   have b:=Ne.symm h2
   simp[qH,zH,List.range,List.range.loop,a,b]
theorem RB(s:aR):qH 1 s=if s=[60]then 0 else if s=[60,61]then 1 else if s=[61,61]then 2 else -1:=by
 by_cases h:s=[60]
 ·subst h;rfl
 ·rw[if_neg h]
  by_cases h2:s=[60,61]
  ·subst h2;rfl
  ·rw[if_neg h2]
   by_cases h3:s=[61,61]
   ·subst h3;rfl
   ·rw[if_neg h3]
    have a:=Ne.symm h
    have b:=Ne.symm h2
    have c:=Ne.symm h3
    simp[qH,zH,List.range,List.range.loop,a,b,c]
theorem Fh{lv:Int}{x:PS→Nd×PS}{f:Nat}{n:Nd}{q:PS}(hf:q.l.length<f)(h:qH lv q.peek<0):chainF lv x f n q=(n,q):=by
 by_cases e:q.e=0
 ·rw[zW hf e h,zM h]
 ·exact Bt hf e
theorem Hy{lv:Int}{x:PS→Nd×PS}{f:Nat}{n:Nd}{q:PS}(hf:q.l.length<f)(h:0≤qH lv q.peek):
 chainF lv x f n q=chainF lv x (f-1) (.mk (26+qH lv q.peek) [] 0 [n,(x (q.took q.peek)).1]) (x (q.took q.peek)).2:=by
 have hn:q.peek≠[]:=(fW.1 (qO h).2.1).1
 rw[Hu hf (NO hn) h,tJ h]
theorem PJ(w:aR):dE aW w=true↔(¬w=[]∧aW (w[0]?.getD 0)=true):=by
 cases w with
 |nil=>simp[dE]
 |cons c r=>simp[dE]
theorem Fi(s:aR)(T:List Tk)(p:PS)(c:BZ s T)(f:pX T p):qR Tryz.prog 291 [.bx 0 0] (iY s T p) (iY s T (aV p).2) (.d (aV p).1.d):=by
 unfold iY
 refine qR.cell hT Tryz.func291 (by kernel_rfl) (c:=_) rfl Tryz.ntmps291 (by simp) Tryz.results291 fun w0 X hp=>?_
 refine oS.sy ?_
 simp
 refine bY hT hW (fun|5=>some (.gen ⟨[(0,0)],[],[],iY s T (aD p).2,.d (.str (aD p).1)⟩)|_=>none) ?_
 simp
 refine⟨xV s T p c f,?_⟩
 refine oS.seq ?_
 refine bY hT hW (fun|8=>some (.gen ⟨[(0,0)],[],[],iY s T ((aD p).2.took [46]),.d (.bool ((aD p).2.is [46]))⟩)|_=>none) ?_
 simp
 refine⟨zV s T (aD p).2 c f.name [46] (by simp),?_⟩
 refine aB ?_
 simp
 refine⟨fun h2=>?_,fun h2=>?_⟩
 ·refine oS.sy ?_
  simp
  have l1:=sG (f.good c)
  have l2:=sG (p:=(aD p).2.took [46]) (f.name.took.good c)
  refine aF hT hW bI (lk [[],[0],[0,1],[],[3],[0,1,2,3,4],[0,1,2,3,4,5],[0,1,2,3,4,5,6]]) (lk [[0],[0],[0],[],[],[],[],[]]) (lk [[],[],[],[],[0],[],[],[3]]) (by kernel_rfl) (fun|14=>some (.gen ⟨[(0,0)],[],[],iY s T (aD ((aD p).2.took [46])).2,.d (.str (aD ((aD p).2.took [46])).1)⟩)|_=>none) (by intro d;first|exact⟨rfl,fun _ h=>h⟩|(split<;>exact⟨rfl,fun _ h=>h⟩)) ?_
  simp
  refine⟨⟨⟨by omega,xV s T _ c f.name.took⟩,by omega⟩,?_⟩
  refine oS.sy ?_
  simp
  refine oS.ret ?_
  simp
  have e:=Fg h2
  refine aU (x:=(aV p).1.d) (by simp[e]) ?_
  simp
  exact aA [0] [(0,0)] (by decide) (by decide) (by simp[hp]) (by simp) (by simp[e])
 ·refine oS.skip ?_
  simp
  refine oS.sy ?_
  simp
  refine oS.ret ?_
  simp
  have e:=Ca h2
  refine aU (x:=(aV p).1.d) (by simp[e]) ?_
  simp
  exact aA [0] [(0,0)] (by decide) (by decide) (by simp[hp]) (by simp) (by simp[e])
theorem NT(s:aR)(T:List Tk)(c:BZ s T)(p:PS)(n:Nat)(ex:PS→Nd×PS)(hE:RR s T n 280 ex)(hn:p.l.length<n+1)(f:pX T p):qR Tryz.prog 293 [.bx 0 0] (iY s T p) (iY s T (fM ex p).2) (.d (fM ex p).1.d):=by
 unfold iY
 have hg:=f.good c
 have htl:=qM hg
 refine qR.cell hT Tryz.func293 (by kernel_rfl) (c:=_) rfl Tryz.ntmps293 (by simp) Tryz.results293 fun w0 X hp=>?_
 refine oS.sy ?_
 simp
 refine oS.seq ?_
 refine bY hT hW (fun|6=>some (.gen ⟨[(0,0)],[],[],iY s T (p.took [40]),.d (.bool (p.is [40]))⟩)|_=>none) ?_
 simp
 refine⟨zV s T p c f [40] (by simp),?_⟩
 refine aB ?_
 simp
 refine⟨fun h1=>?_,fun h1=>?_⟩
 ·refine oS.seq ?_
  have hl:=tK h1
  have hx:=hE.ok (p.took [40]) (by omega) f.took
  have fx:=(hE.fs (p.took [40]) (by omega) f.took).1
  refine oS.ro hT hW (fun|8=>some (.gen ⟨[(0,0)],[],[],iY s T (ex (p.took [40])).2,.d (ex (p.took [40])).1.d⟩)|_=>none) ?_
  simp
  refine⟨by simpa using hx,?_⟩
  refine oS.seq ?_
  have hn4:=vC s T (ex (p.took [40])).2 c fx [41] (by simp)
  refine oS.ro hT hW (fun|10=>some (.gen ⟨[(0,0)],[],[],iY s T ((ex (p.took [40])).2.need [41]),.tup []⟩)|_=>none) ?_
  simp
  refine⟨hn4,?_⟩
  refine oS.sy ?_
  simp
  refine oS.ret ?_
  simp
  have e:=Cb (ex:=ex) h1
  exact aA [0] [(0,0)] (by decide) (by decide) (by simp[hp]) (by simp[e]) (by simp[e])
 ·have e2:p.took [40]=p:=mH (by simp[h1])
  simp only[e2]
  refine oS.skip ?_
  simp
  refine oS.seq ?_
  refine bY hT hW (fun|13=>some (.gen ⟨[(0,0)],[],[],iY s T (p.took [107,105,110,100]),.d (.bool (p.is [107,105,110,100]))⟩)|_=>none) ?_
  simp
  refine⟨zV s T p c f [107,105,110,100] (by simp),?_⟩
  refine aB ?_
  simp
  refine⟨fun h5=>?_,fun h5=>?_⟩
  ·refine oS.sy ?_
   simp
   refine oS.ret ?_
   simp
   have e:=DL (ex:=ex) h1 h5
   refine aU (x:=(fM ex p).1.d) (by simp[e]) ?_
   simp
   exact aA [0] [(0,0)] (by decide) (by decide) (by simp[hp]) (by simp) (by simp[e,qD])
  ·have e6:p.took [107,105,110,100]=p:=mH (by simp[h5])
   simp only[e6]
   refine oS.skip ?_
   simp
   refine bY hT hW (fun|16=>some (.gen ⟨[(0,0)],[],[],iY s T p,.d (.str p.peek)⟩)|_=>none) ?_
   simp
   refine⟨qN s T p c f,?_⟩
   refine oS.seq ?_
   refine oS.seq ?_
   have hd:=vA p.peek 0 (by omega)
   refine oS.ro hT hW (fun|18=>some<| .plain ⟨.d (.bool (dE aW p.peek)),true⟩|_=>none) ?_
   simp
   refine⟨by simpa using hd,?_⟩
   refine aB ?_
   simp
   refine⟨fun h8=>?_,fun h8=>?_⟩
   ·refine oS.seq ?_
    have hnu:=uC s T p c f 32 0 999 (.inl rfl) rfl
    refine oS.ro hT hW (fun|20=>some (.gen ⟨[(0,0)],[],[],iY s T (aG 32 p).2,.d (aC (aG 32 p).1)⟩)|_=>none) ?_
    simp
    refine⟨hnu,?_⟩
    refine oS.ret ?_
    simp
    have e:=Cc (ex:=ex) h1 h5 ((PJ _).1 h8).1 ((PJ _).1 h8).2
    refine aU (x:=(fM ex p).1.d) (by simp[e]) ?_
    simp
    exact aA [0] [(0,0)] (by decide) (by decide) (by simp[hp]) (by simp) (by simp[e])
   ·refine oS.skip ?_
    simp
    refine oS.seq ?_
    refine oS.sy ?_
    simp
    refine aB ?_
    simp
    refine⟨fun g1 g2=>?_,fun g=>?_⟩
    ·refine oS.seq ?_
     have hlo:=vD s T p c f
     refine oS.ro hT hW (fun|31=>some (.gen ⟨[(0,0)],[],[],iY s T (aM p).2,.d (.str (aM p).1)⟩)|_=>none) ?_
     simp
     refine⟨hlo,?_⟩
     refine oS.ret ?_
     simp
     have g8:¬p.peek=[]→aW (p.peek[0]?.getD 0)=false:=fun a=>by
      cases e:aW (p.peek[0]?.getD 0)with
      |false=>rfl
      |true=>rw[(PJ _).2 ⟨a,e⟩]at h8;cases h8
     have e:=Cd (ex:=ex) h1 h5 g8 (Rh.2 ⟨by omega,g2⟩)
     refine aU (x:=(fM ex p).1.d) (by simp[e]) ?_
     simp
     exact aA [0] [(0,0)] (by decide) (by decide) (by simp[hp]) (by simp) (by simp[e])
    ·refine oS.skip ?_
     simp
     refine oS.seq ?_
     have hpl:=Fi s T p c f
     refine oS.ro hT hW (fun|34=>some (.gen ⟨[(0,0)],[],[],iY s T (aV p).2,.d (aV p).1.d⟩)|_=>none) ?_
     simp
     refine⟨by simpa using hpl,?_⟩
     refine oS.ret ?_
     simp
     have g8:¬p.peek=[]→aW (p.peek[0]?.getD 0)=false:=fun a=>by
      cases e:aW (p.peek[0]?.getD 0)with
      |false=>rfl
      |true=>rw[(PJ _).2 ⟨a,e⟩]at h8;cases h8
     have e:=Ce (ex:=ex) h1 h5 g8 (fun z=>by have:=Rh.1 z;have:=g (by omega);omega)
     exact aA [0] [(0,0)] (by decide) (by decide) (by simp[hp]) (by simp[e]) (by simp[e])
theorem RR.fact{s:aR}{T:List Tk}(c:BZ s T){n:Nat}{ex:PS→Nd×PS}(hE:RR s T n 280 ex):RR s T (n+1) 293 (fM ex):=
 ⟨fun q hq f=>NT s T c q n ex hE hq f,Fs.fact c.hg hE.fs⟩
theorem NU(s:aR)(T:List Tk)(c:BZ s T)(p:PS)(n:Nat)(x:PS→Nd×PS)(hE:RR s T n 293 x)(hn:p.l.length<n)(f:pX T p):qR Tryz.prog 292 [.bx 0 0] (iY s T p) (iY s T (fK 3 x p).2) (.d (fK 3 x p).1.d):=by
 unfold iY
 refine qR.cell hT Tryz.func292 (by kernel_rfl) (c:=_) rfl Tryz.ntmps292 (by simp) Tryz.results292 fun w0 X hp=>?_
 refine oS.sy ?_
 simp
 refine oS.seq ?_
 have hx:=hE.ok p hn f
 have fx:=hE.fs p hn f
 refine oS.ro hT hW (fun|5=>some (.gen ⟨[(0,0)],[],[],iY s T (x p).2,.d (x p).1.d⟩)|_=>none) ?_
 simp
 refine⟨by simpa using hx,?_⟩
 refine oS.seq ?_
 refine oS.block ?_
 refine cA (ι:=Sc) (fun⟨f,n,q⟩=>aY [(0,.bx 0 0),(2,.bx 2 0),(3,.bx 3 0)]) (fun⟨f,n,q⟩=>aK [(0,.box false [.d (.str s),.d (.sl (T.map Tk.r)),.d (aC ((T.length:Int)- q.l.length)),.d (.bool (!decide (q.e=0))),.d (.bool (decide (q.e=5)))]),(2,.box false [.d (aC 0),.d (.str []),.d (aC 0),.nl]),(3,.box false [.d (aC n.kind),.d (.str n.text),.d (aC n.n),.d (ndsD n.kids)])]) (fun⟨f,n,q⟩=>q.l.length<f∧pX T q∧q.l.length≤p.l.length∧fK 3 x p=chainF 3 x f n q) (fun⟨f,n,q⟩=>q.l.length) ⟨(x p).2.l.length+1,(x p).1,(x p).2⟩ (aA [0,2,3] [(0,0),(2,2),(3,3)] (by decide) (by decide) (by simp[hp]) (by simp) (by simp)) (⟨Nat.lt_succ_self _,fx.1,fx.2,rfl⟩) fun⟨f,n,q⟩ hi2=>?_
 refine oS.seq ?_
 refine oS.seq ?_
 have hi:=zV s T q c hi2.2.1 [42] (by simp)
 refine oS.ro hT hW (fun|7=>some (.gen ⟨[(0,0)],[],[],iY s T (q.took [42]),.d (.bool (q.is [42]))⟩)|_=>none) ?_
 simp
 refine⟨hi,?_⟩
 refine aB ?_
 simp
 refine⟨fun h2=>?_,fun h2=>?_⟩
 ·refine oS.skip ?_
  simp
  refine oS.block ?_
  have hl:=tK h2
  have hpk:=(fW.1 h2).2
  have i3:=hi2.2.2.1
  have hx3:=hE.ok (q.took [42]) (by omega) hi2.2.1.took
  have fx3:=hE.fs (q.took [42]) (by omega) hi2.2.1.took
  refine aF hT hW bI (lk [[],[],[1],[0,1,2],[0,1,2,3],[0,1,2,3,4]]) (lk [[0],[],[],[],[],[]]) (lk [[],[],[0],[11],[],[3]]) (by kernel_rfl) (fun|10=>some (.gen ⟨[(0,0)],[],[],iY s T (x (q.took [42])).2,.d (x (q.took [42])).1.d⟩)|_=>none) (by intro d;first|exact⟨rfl,fun _ h=>h⟩|(split<;>exact⟨rfl,fun _ h=>h⟩)) ?_
  simp
  refine⟨⟨by simpa using hx3,by decide⟩,?_⟩
  refine zU (bN 3 [11] (fz:=false) (cs:=[.d (aC 31),.d (.str []),.d (aC 0),.ow 11 0 2]) (ds:=[aC 31,.str [],aC 0,.sl [n.d,(x (q.took [42])).1.d]]) (by simp) (by simp) (by simp) (by simp[aX.mut])) ?_
  simp
  refine JK.mk ⟨f-1,.mk 31 [] 0 [n,(x (q.took [42])).1],(x (q.took [42])).2⟩ (aA [0,2,3] [(0,0),(2,2),(3,3)] (by decide) (by decide) (by simp[hp]) (by simp) (by simp)) ?_ ?_
  ·have i1:=hi2.1
   have i3:=hi2.2.2.1
   refine⟨?_,fx3.1,?_,?_⟩
   ·show(x (q.took [42])).2.l.length<f-1
    have:=fx3.2
    omega
   ·show(x (q.took [42])).2.l.length≤p.l.length
    have:=fx3.2
    omega
   ·rw[hi2.2.2.2,Hy hi2.1 (by rw[Ql,hpk];decide),hpk];rfl
  ·have:=fx3.2
   show(x (q.took [42])).2.l.length<q.l.length
   omega
 ·have e2:q.took [42]=q:=mH (by simp[h2])
  simp only[e2]
  refine oS.exit ?_
  simp
  refine oS.sy ?_
  simp
  refine oS.ret ?_
  simp
  have hno:qH 3 q.peek<0:=by
   rw[Ql,if_neg (fun z=>by rw[fW.2 ⟨by simp,z⟩]at h2;cases h2)];decide
  have e:fK 3 x p=(n,q):=by rw[hi2.2.2.2];exact Fh hi2.1 hno
  exact aA [0] [(0,0)] (by decide) (by decide) (by simp[hp]) (by simp[e]) (by simp[e])
theorem LD{c:Prop}[Decidable c]{f:Nat→aX}{A:aX}{x:Nat}(h:f 0=A):bG f (if c then []else [(0,A)]) x=f x:=by
 by_cases hc:c
 ·rw[if_pos hc];rfl
 ·rw[if_neg hc]
  subst h
  simp only[bG,cN]
  split
  ·rename_i e;rw[e]
  ·rfl
theorem RR.prod{s:aR}{T:List Tk}(c:BZ s T){n:Nat}{x:PS→Nd×PS}(hE:RR s T n 293 x):RR s T n 292 (fK 3 x):=
 ⟨fun q hq f=>NU s T c q n x hE hq f,AO hE.fs⟩
structure So where
 k:Int
theorem Kf{q:aR}:(q=[43]∨q=[45])↔0≤qH 2 q:=by
 rw[NS]
 by_cases h:q=[43]
 ·simp[h]
 ·by_cases h2:q=[45]
  ·simp[h2]
  ·simp[h,h2]
theorem PK(s:aR)(T:List Tk)(c:BZ s T)(p:PS)(n:Nat)(x:PS→Nd×PS)(hE:RR s T n 292 x)(hn:p.l.length<n)(f:pX T p):qR Tryz.prog 290 [.bx 0 0] (iY s T p) (iY s T (fK 2 x p).2) (.d (fK 2 x p).1.d):=by
 unfold iY
 have htl:=c.ht
 refine qR.cell hT Tryz.func290 (by kernel_rfl) (c:=_) rfl Tryz.ntmps290 (by simp) Tryz.results290 fun w0 X hp=>?_
 refine oS.sy ?_
 simp
 refine oS.seq ?_
 have hx:=hE.ok p hn f
 have fx:=hE.fs p hn f
 refine oS.ro hT hW (fun|6=>some (.gen ⟨[(0,0)],[],[],iY s T (x p).2,.d (x p).1.d⟩)|_=>none) ?_
 simp
 refine⟨by simpa using hx,?_⟩
 refine oS.seq ?_
 refine oS.block ?_
 refine cA (ι:=Sc) (fun⟨f,n,q⟩=>aY [(0,.bx 0 0),(2,.bx 2 0),(3,.bx 3 0)]) (fun⟨f,n,q⟩=>aK [(0,.box false [.d (.str s),.d (.sl (T.map Tk.r)),.d (aC ((T.length:Int)- q.l.length)),.d (.bool (!decide (q.e=0))),.d (.bool (decide (q.e=5)))]),(2,.box false [.d (aC 0),.d (.str []),.d (aC 0),.nl]),(3,.box false [.d (aC n.kind),.d (.str n.text),.d (aC n.n),.d (ndsD n.kids)])]) (fun⟨f,n,q⟩=>q.l.length<f∧pX T q∧q.l.length≤p.l.length∧fK 2 x p=chainF 2 x f n q) (fun⟨f,n,q⟩=>q.l.length) ⟨(x p).2.l.length+1,(x p).1,(x p).2⟩ (aA [0,2,3] [(0,0),(2,2),(3,3)] (by decide) (by decide) (by simp[hp]) (by simp) (by simp)) (⟨Nat.lt_succ_self _,fx.1,fx.2,rfl⟩) fun⟨f,n,q⟩ hi2=>?_
 refine oS.seq ?_
 refine oS.seq ?_
 have hk:=qN s T q c hi2.2.1
 refine oS.ro hT hW (fun|8=>some (.gen ⟨[(0,0)],[],[],iY s T q,.d (.str q.peek)⟩)|12=>some (.gen ⟨[(0,0)],[],[],iY s T q,.d (.str q.peek)⟩)|_=>none) ?_
 simp[LD]
 refine⟨⟨hk,fun _=>hk⟩,?_⟩
 refine aB ?_
 simp
 refine⟨fun g=>?_,fun g1 g2=>?_⟩
 ·have hop:=Kf.1 g
  have his:=(qO hop).2.1
  have hne:=(fW.1 his).1
  have hl:=tK his
  have hsk:=wF (T:=T) hne
  have hps:=hi2.2.1.pos hne
  have i3:=hi2.2.2.1
  have hx3:=hE.ok (q.took q.peek) (by omega) hi2.2.1.took
  have fx3:=hE.fs (q.took q.peek) (by omega) hi2.2.1.took
  refine oS.skip ?_
  simp
  refine oS.block ?_
  refine oS.sy ?_
  simp
  refine aO (ι:=So) (fun⟨k⟩=>aY [(0,.bx 0 0),(2,.bx 2 0),(3,.bx 3 0),(4,.d (aC k))]) (fun⟨k⟩=>aK [(0,.box false [.d (.str s),.d (.sl (T.map Tk.r)),.d (aC ((T.length:Int)- q.l.length)),.d (.bool (!decide (q.e=0))),.d (.bool (decide (q.e=5)))]),(2,.box false [.d (aC 0),.d (.str []),.d (aC 0),.nl]),(3,.box false [.d (aC n.kind),.d (.str n.text),.d (aC n.n),.d (ndsD n.kids)])]) (fun⟨k⟩=>k=26+qH 2 q.peek) ?_ fun⟨k⟩ hc6=>?_
  ·refine oS.seq ?_
   have hk4:=qN s T q c hi2.2.1
   refine oS.ro hT hW (fun|16=>some (.gen ⟨[(0,0)],[],[],iY s T q,.d (.str q.peek)⟩)|_=>none) ?_
   simp
   refine⟨hk4,?_⟩
   refine aB ?_
   simp
   refine⟨fun h4=>?_,fun h4=>?_⟩
   ·refine aL ?_
    simp
    refine Pg.mk ⟨30⟩ (aA [0,2,3,4] [(0,0),(2,2),(3,3)] (by decide) (by decide) (by simp[hp]) (by simp) (by simp)) ?_
    rw[NS,h4];decide
   ·refine oS.skip ?_
    simp
    refine Pg.mk ⟨29⟩ (aA [0,2,3,4] [(0,0),(2,2),(3,3)] (by decide) (by decide) (by simp[hp]) (by simp) (by simp)) ?_
    rw[NS,if_pos (g.resolve_right h4)];decide
  ·refine oS.sy ?_
   simp
   refine⟨by omega,?_⟩
   simp only[←hsk]
   refine aF hT hW bI (lk [[],[],[],[2],[1,2,3],[0,1,2,3,4],[0,1,2,3,4,5]]) (lk [[0,29],[0],[],[],[],[],[]]) (lk [[],[],[],[0],[29],[],[3]]) (by kernel_rfl) (fun|28=>some (.gen ⟨[(0,0)],[],[],iY s T (x (q.took q.peek)).2,.d (x (q.took q.peek)).1.d⟩)|_=>none) (by intro d;first|exact⟨rfl,fun _ h=>h⟩|(split<;>exact⟨rfl,fun _ h=>h⟩)) ?_
   simp
   refine⟨⟨by simpa [cE his]using hx3,by decide⟩,?_⟩
   simp only[hc6]
   refine zU (bN 3 [29] (fz:=false) (cs:=[.d (aC (26+qH 2 q.peek)),.d (.str []),.d (aC 0),.ow 29 0 2]) (ds:=[aC (26+qH 2 q.peek),.str [],aC 0,.sl [n.d,(x (q.took q.peek)).1.d]]) (by simp) (by simp) (by simp) (by simp[aX.mut])) ?_
   simp
   refine JK.mk ⟨f-1,.mk (26+qH 2 q.peek) [] 0 [n,(x (q.took q.peek)).1],(x (q.took q.peek)).2⟩ (aA [0,2,3] [(0,0),(2,2),(3,3)] (by decide) (by decide) (by simp[hp]) (by simp) (by simp)) ?_ ?_
   ·have i1:=hi2.1
    have i3:=hi2.2.2.1
    have:=fx3.2
    refine⟨?_,fx3.1,?_,?_⟩
    ·show(x (q.took q.peek)).2.l.length<f-1
     omega
    ·show(x (q.took q.peek)).2.l.length≤p.l.length
     omega
    ·rw[hi2.2.2.2,Hy hi2.1 hop]
   ·have:=fx3.2
    show(x (q.took q.peek)).2.l.length<q.l.length
    omega
 ·refine oS.exit ?_
  simp
  refine oS.sy ?_
  simp
  refine oS.ret ?_
  simp
  have hno:qH 2 q.peek<0:=by
   have z:¬0≤qH 2 q.peek:=fun z=>(Kf.2 z).elim g1 g2
   omega
  have e:fK 2 x p=(n,q):=by rw[hi2.2.2.2];exact Fh hi2.1 hno
  exact aA [0] [(0,0)] (by decide) (by decide) (by simp[hp]) (by simp[e]) (by simp[e])
theorem RR.sum{s:aR}{T:List Tk}(c:BZ s T){n:Nat}{x:PS→Nd×PS}(hE:RR s T n 292 x):RR s T n 290 (fK 2 x):=
 ⟨fun q hq f=>PK s T c q n x hE hq f,AO hE.fs⟩
def zY:List aR:=[[60],[60,61],[61,61]]
theorem Kg{i:Nat}(h:i<3):zY[i]?.getD []≠[]:=by
 match i,h with
 |0,_=>decide
 |1,_=>decide
 |2,_=>decide
theorem QL{w:aR}{i:Nat}(h:i<3)(hw:w=zY[i]?.getD []):qH 1 w=i:=by
 subst hw
 match i,h with
 |0,_=>decide
 |1,_=>decide
 |2,_=>decide
theorem NV{w:aR}(h:∀j,j<3→w≠zY[j]?.getD []):qH 1 w<0:=by
 have a:w≠[60]:=h 0 (by decide)
 have b:w≠[60,61]:=h 1 (by decide)
 have d:w≠[61,61]:=h 2 (by decide)
 rw[RB,if_neg a,if_neg b,if_neg d];decide
theorem NW(i:Nat)(h:i<3):([DV.str [60],DV.str [60,61],DV.str [61,61]]:List DV)[i]?.getD default=.str (zY[i]?.getD []):=by
 match i,h with
 |0,_=>rfl
 |1,_=>rfl
 |2,_=>rfl
theorem Hz(s:aR)(T:List Tk)(c:BZ s T)(p:PS)(n:Nat)(ex:PS→Nd×PS)(hE:RR s T n 290 (dF ex))(hn:p.l.length<n)(f:pX T p):qR Tryz.prog 280 [.bx 0 0] (iY s T p) (iY s T (if p.e=0 then exprB ex p else(iK,p)).2) (.d (if p.e=0 then exprB ex p else(iK,p)).1.d):=by
 unfold iY
 refine qR.cell hT Tryz.func280 (by kernel_rfl) (c:=_) rfl Tryz.ntmps280 (by simp) Tryz.results280 fun w0 X hp=>?_
 refine oS.sy ?_
 simp
 refine oS.seq ?_
 refine oS.sy ?_
 simp
 refine aB ?_
 simp
 refine⟨fun h1=>?_,fun h1=>?_⟩
 ·refine oS.sy ?_
  simp
  refine oS.ret ?_
  simp
  have e:(if p.e=0 then exprB ex p else(iK,p))=(iK,p):=if_neg h1
  rw[e]
  refine aU (x:=iK.d) (by simp[iK]) ?_
  simp
  exact aA [0] [(0,0)] (by decide) (by decide) (by simp[hp]) (by simp) (by simp)
 ·refine oS.skip ?_
  simp
  refine oS.seq ?_
  have hx:=hE.ok p hn f
  have fx:=hE.fs p hn f
  refine oS.ro hT hW (fun|12=>some (.gen ⟨[(0,0)],[],[],iY s T (dF ex p).2,.d (dF ex p).1.d⟩)|_=>none) ?_
  simp
  refine⟨by simpa using hx,?_⟩
  refine oS.sy ?_
  simp
  refine⟨by decide,?_⟩
  refine oS.seq ?_
  refine oS.sy ?_
  simp
  refine oS.block ?_
  refine cA (ι:=Nat) (fun i=>aY [(0,.bx 0 0),(2,.bx 2 0),(3,.bx 3 0),(4,.ow 13 0 3),(5,.d (aC i))]) (fun i=>aK [(0,.box false [.d (.str s),.d (.sl (T.map Tk.r)),.d (aC ((T.length:Int)-(dF ex p).2.l.length)),.d (.bool (!decide ((dF ex p).2.e=0))),.d (.bool (decide ((dF ex p).2.e=5)))]),(2,.box false [.d (aC 0),.d (.str []),.d (aC 0),.nl]),(3,.box false [.d (aC (dF ex p).1.kind),.d (.str (dF ex p).1.text),.d (aC (dF ex p).1.n),.d (ndsD (dF ex p).1.kids)]),(13,.row false 1 [.str [60],.str [60,61],.str [61,61]])]) (fun i=>i≤3∧∀j,j<i→(dF ex p).2.peek≠zY[j]?.getD []) (fun i=>3-i) 0 (aA [0,2,3,4,5] [(0,0),(2,2),(3,3),(13,13)] (by decide) (by decide) (by simp[hp]) (by simp) (by simp)) (⟨Nat.zero_le _,fun j h=>absurd h (Nat.not_lt_zero j)⟩) fun i hi6=>?_
  refine oS.seq ?_
  refine oS.sy ?_
  simp
  refine aB ?_
  simp
  refine⟨fun h6=>?_,fun h6=>?_⟩
  ·refine oS.skip ?_
   simp
   refine oS.seq ?_
   refine oS.block ?_
   refine oS.seq ?_
   have hi3:i<3:=by omega
   have hi:=zV s T (dF ex p).2 c fx.1 (zY[i]?.getD []) (Kg hi3)
   refine oS.ro hT hW (fun|23=>some (.gen ⟨[(0,0)],[],[],iY s T ((dF ex p).2.took (zY[i]?.getD [])),.d (.bool ((dF ex p).2.is (zY[i]?.getD [])))⟩)|_=>none) ?_
   simp[NW i hi3]
   refine⟨⟨by omega,hi⟩,?_⟩
   refine aB ?_
   simp
   refine⟨fun h8=>?_,fun h8=>?_⟩
   ·refine oS.seq ?_
    have hpk:=(fW.1 h8).2
    have hop:=QL hi3 hpk
    have hl:=tK h8
    have hx9:=hE.ok ((dF ex p).2.took (zY[i]?.getD [])) (by have:=fx.2;omega) fx.1.took
    refine aF hT hW bI (lk [[],[0],[],[],[3],[2,3,4],[0,1,2,3,4,5],[0,1,2,3,4,5,6]]) (lk [[0,29],[0,29],[0],[],[],[],[],[]]) (lk [[],[],[],[],[0],[29],[],[2]]) (by kernel_rfl) (fun|28=>some (.gen ⟨[(0,0)],[],[],iY s T (dF ex ((dF ex p).2.took (zY[i]?.getD []))).2,.d (dF ex ((dF ex p).2.took (zY[i]?.getD []))).1.d⟩)|_=>none) (by intro d;first|exact⟨rfl,fun _ h=>h⟩|(split<;>exact⟨rfl,fun _ h=>h⟩)) ?_
    simp
    refine⟨⟨⟨by omega,by simpa using hx9⟩,by decide⟩,?_⟩
    refine oS.ret ?_
    simp
    have e:(if p.e=0 then exprB ex p else(iK,p))=exprB ex p:=if_pos h1
    have e2:exprB ex p=(.mk (26+(i:Int)) [] 0 [(dF ex p).1,(dF ex ((dF ex p).2.took (zY[i]?.getD []))).1],(dF ex ((dF ex p).2.took (zY[i]?.getD []))).2):=by
     rw[Bu (by rw[tJ (by omega)];show 0≤qH 1 _;omega),tJ (by omega),hop,hpk]
    rw[e,e2]
    refine aU (x:=(Nd.mk (26+(i:Int)) [] 0 [(dF ex p).1,(dF ex ((dF ex p).2.took (zY[i]?.getD []))).1]).d) (by simp) ?_
    simp
    exact aA [0] [(0,0)] (by decide) (by decide) (by simp[hp]) (by simp) (by simp)
   ·have e2:(dF ex p).2.took (zY[i]?.getD [])=(dF ex p).2:=mH (by simp[h8])
    simp only[e2]
    refine oS.skip ?_
    simp
    refine aL ?_
    simp
    refine⟨by omega,?_⟩
    refine JK.mk (i+1) (aA [0,2,3,4,5] [(0,0),(2,2),(3,3),(13,13)] (by decide) (by decide) (by simp[hp]) (by simp) (by simp)) ?_ ?_
    ·refine⟨by omega,fun j hj=>?_⟩
     by_cases e:j=i
     ·subst e
      exact fun z=>by rw[fW.2 ⟨Kg hi3,z⟩]at h8;cases h8
     ·exact hi6.2 j (by omega)
    ·omega
  ·refine oS.exit ?_
   simp
   refine oS.sy ?_
   simp
   refine oS.ret ?_
   simp
   have e:(if p.e=0 then exprB ex p else(iK,p))=exprB ex p:=if_pos h1
   have hno:=NV (w:=(dF ex p).2.peek) (fun j hj=>hi6.2 j (by omega))
   have e2:exprB ex p=((dF ex p).1,(dF ex p).2):=by rw[Bv (by rw[zM hno];exact hno),zM hno]
   rw[e,e2]
   exact aA [0] [(0,0)] (by decide) (by decide) (by simp[hp]) (by simp) (by simp)
theorem Kh{s:aR}{T:List Tk}(c:BZ s T):∀n:Nat,RR s T n 280 (fS true n)
 |0=>⟨fun q h _=>absurd h (Nat.not_lt_zero _),fun q h _=>absurd h (Nat.not_lt_zero _)⟩
 |n+1=>by
  have e:∀q,fS true (n+1) q=if q.e=0 then exprB (fS true n) q else(iK,q):=fun q=>by
   rw[fS]
   by_cases h:q.e=0
   ·rw[if_neg (by simp[h]),if_pos h]
   ·rw[if_pos ⟨rfl,h⟩,if_neg h]
  refine⟨fun q hq f=>?_,Gf c.hg (n+1)⟩
  rw[e]
  exact Hz s T c q (n+1) (fS true n) (((Kh c n).fact c).prod c |>.sum c) hq f
end
open Go.Proofs
section
attribute[local simp] oZ.cond Nd.d_eq nd_t nd_dr nd_td ndsD bJ eP qS eR eC
theorem Cf(k:IntKind)(n:Int):(Value.int k n).oneCell'=true:=rfl
theorem Cg(x:ByteArray):(Value.string x).oneCell'=true:=rfl
theorem Ch(x:Option Addr)(a b:Nat):(Value.slice x a b).oneCell'=true:=rfl
theorem HA(a b c d:Value):(∀(i:Nat) (x:i<4),([a,b,c,d][i]'(x)).oneCell'=true)↔(a.oneCell'=true∧b.oneCell'=true∧c.oneCell'=true∧d.oneCell'=true):=by
 constructor
 ·intro h
  exact⟨h 0 (by decide),h 1 (by decide),h 2 (by decide),h 3 (by decide)⟩
 ·rintro⟨h1,h2,h3,h4⟩ i hi
  match i,hi with
  |0,_=>exact h1
  |1,_=>exact h2
  |2,_=>exact h3
  |3,_=>exact h4
attribute[local simp] pY Cf Cg Ch HA
theorem LE{c:Prop}[Decidable c]{f:Nat→aX}{a b:PS}{x:Nat}(h:f 0=.box false [.d (.sl (b.l.map Tk.d)),.d (aC b.e)]):
 bG f (if c then [(0,.box false [.d (.sl (a.l.map Tk.d)),.d (aC a.e)])]else []) x=if x=0 then .box false [.d (.sl ((if c then a else b).l.map Tk.d)),.d (aC (if c then a else b).e)]else f x:=by
 by_cases hc:c
 ·simp only[hc,if_true,bG,cN]
 ·simp only[hc,if_false,bG]
  split
  ·rename_i e;rw[e];exact h
  ·rfl
structure KC where
 k:Int
structure Vw where
 x:Nd
 q:PS
theorem Jn(p:PS)(n:Nat)(ex bl:PS→Nd×PS)(hE:qT (n+1) 208 ex)(hB:qT n 116 bl)(hn:p.l.length<n+1)(hg:bH p.l):qR Tryz.prog 162 [.bx 0 0] (eR p) (eR (iR ex bl p).2) (.d (iR ex bl p).1.d):=by
 unfold eR
 refine qR.cell hT Tryz.func162 (by kernel_rfl) (c:=_) rfl Tryz.ntmps162 (by simp) Tryz.results162 fun w0 X hp=>?_
 refine oS.sy ?_
 simp
 refine bY hT hW (fun|7=>some (.gen ⟨[(0,0)],[],[],eR p,.d (.str p.peek)⟩)|_=>none) ?_
 simp
 refine⟨qL p,?_⟩
 refine oS.sy ?_
 simp
 refine aO (ι:=KC) (fun⟨k⟩=>aY [(0,.bx 0 0),(2,.bx 2 0),(3,.d (.str p.peek)),(4,.d (aC k))]) (fun⟨k⟩=>aK [(0,.box false [.d (qS p.l),.d (aC p.e)]),(2,.box false [.d (aC 0),.d (.str []),.d (aC 0),.nl])]) (fun⟨k⟩=>cV p.peek=k) ?_ fun⟨k⟩ hc5=>?_
 ·refine oS.sy ?_
  simp
  refine aB ?_
  simp
  refine⟨fun h3=>?_,fun h3=>?_⟩
  ·have hi:=uH jA p.peek
   have q2:=pT
   rw[←PI h3]at hi
   refine oS.ro hT hW (fun|12=>some<| .plain ⟨.d (aC (cV p.peek)),true⟩|_=>none) ?_
   simp[zS]
   refine⟨⟨by omega,hi⟩,?_⟩
   refine Pg.mk ⟨cV p.peek⟩ (aA [0,2,3,4] [(0,0),(2,2)] (by decide) (by decide) (by simp[hp]) (by simp) (by simp)) ?_
   rfl
  ·refine oS.skip ?_
   simp
   refine Pg.mk ⟨-1⟩ (aA [0,2,3,4] [(0,0),(2,2)] (by decide) (by decide) (by simp[hp]) (by simp) (by simp)) ?_
   exact xW h3
 ·refine oS.sy ?_
  simp
  refine aO (ι:=Vw) (fun⟨x,q⟩=>aY [(0,.bx 0 0),(2,.bx 2 0),(5,.bx 5 0)]) (fun⟨x,q⟩=>aK [(0,.box false [.d (qS q.l),.d (aC q.e)]),(2,.box false [.d (aC 0),.d (.str []),.d (aC 0),.nl]),(5,.box false [.d (aC x.kind),.d (.str x.text),.d (aC x.n),.d (ndsD x.kids)])]) (fun⟨x,q⟩=>iR ex bl p=(x,q.need [59])) ?_ fun⟨x,q⟩ hc22=>?_
  ·refine oS.block ?_
   refine oS.sy ?_
   simp
   refine aB ?_
   simp
   refine⟨fun g=>?_,fun g1 g2=>?_⟩
   ·refine oS.seq ?_
    have ip:=mY (p:=p) (by omega)
    have lp:=iM ip
    rw[←cE ip]at lp
    have gp:=gY (s:=p.peek) hg
    refine oS.ro hT hW (fun|39=>some (.gen ⟨[(0,0)],[],[],eR (p.took p.peek),.d (.bool (p.is p.peek))⟩)|_=>none) ?_
    simp
    refine⟨oF p p.peek,?_⟩
    refine pO (fz:=false) (cs:=[.d (aC k),.d (.str []),.d (aC 0),.nl]) 5 3 1048 4 (by decide) ⟨by simp,by simp,by simp,?_⟩
    simp
    refine oS.seq ?_
    have he:=hE.ok (p.took p.peek) (by omega) gp
    have le:=hE.le (p.took p.peek) (by omega) gp
    have hb:=hB.ok (ex (p.took p.peek)).2 (by omega) le.2
    have lb:=hB.le (ex (p.took p.peek)).2 (by omega) le.2
    refine aF hT hW bI (lk [[],[0],[],[2],[],[2,3,4],[0,1],[],[0,1,2,3,4,5,6,7],[0,1,2,3,4,5,6,7,8],[0,1,2,3,4,5,6,7,8,9],[0,1,6],[0,1,2,3,4,5,6,7,8,9,10,11],[0,1,2,3,4,5,6,7,8,9,10,11,12],[0,1,2,3,4,5,6,7,8],[0,1,2,3,4,5,6,7,8,14]]) (lk [[0,47],[0,47],[47],[47],[0,47],[47],[0,47],[0],[],[5],[5],[0,5,47,48,1048],[5],[5],[48],[48]]) (lk [[],[],[],[0],[],[0],[],[47],[48,1048],[],[48],[],[],[48],[],[5]]) (by kernel_rfl) (fun|43=>some (.gen ⟨[(0,0)],[],[],eR (ex (p.took p.peek)).2,.d (ex (p.took p.peek)).1.d⟩)|45=>some (.gen ⟨[(0,0)],[],[],eR (bl (ex (p.took p.peek)).2).2,.d (bl (ex (p.took p.peek)).2).1.d⟩)|_=>none) (by intro d;first|exact⟨rfl,fun _ h=>h⟩|(split<;>exact⟨rfl,fun _ h=>h⟩)) ?_
    simp
    refine⟨⟨⟨by simpa using he,by simpa using hb⟩,by decide⟩,?_⟩
    refine oS.seq ?_
    refine oS.seq ?_
    have ht:=oF (bl (ex (p.took p.peek)).2).2 eD
    refine oS.ro hT hW (fun|57=>some (.gen ⟨[(0,0)],[],[],eR ((bl (ex (p.took p.peek)).2).2.took eD),.d (.bool ((bl (ex (p.took p.peek)).2).2.is eD))⟩)|_=>none) ?_
    simp[LE (b:=(bl (ex (p.took p.peek)).2).2)]
    refine⟨fun _=>ht,?_⟩
    refine aB ?_
    simp
    refine⟨fun g3 g4=>?_,fun g3=>?_⟩
    ·simp only[g3,if_true]
     have gt:=gY (s:=eD) lb.2
     have lt:((bl (ex (p.took p.peek)).2).2.took eD).l.length≤(bl (ex (p.took p.peek)).2).2.l.length:=by rw[cE g4];exact fG
     have hb2:=hB.ok ((bl (ex (p.took p.peek)).2).2.took eD) (by omega) gt
     refine aF hT hW bI (lk [[],[0],[],[2],[0,1],[],[0,1,2,3,4,5],[0,1,2,3,4,5,6],[0,1,2,3,4,5,6,7],[0,1,2,3,4,5,6],[0,1,2,3,4,5,6,9]]) (lk [[0,64],[0,64],[64],[64],[0,64],[0],[],[5],[5],[65],[65]]) (lk [[],[],[],[0],[],[64],[65,48],[],[65],[],[5]]) (by kernel_rfl) (fun|62=>some (.gen ⟨[(0,0)],[],[],eR (bl ((bl (ex (p.took p.peek)).2).2.took eD)).2,.d (bl ((bl (ex (p.took p.peek)).2).2.took eD)).1.d⟩)|_=>none) (by intro d;first|exact⟨rfl,fun _ h=>h⟩|(split<;>exact⟨rfl,fun _ h=>h⟩)) ?_
     simp
     refine⟨by simpa using hb2,?_⟩
     refine oS.sy ?_
     simp
     refine oS.ret ?_
     simp
     have e:=CC (ex:=ex) (bl:=bl) hc5 g3 g4
     refine aU (x:=(iR ex bl p).1.d) (by simp[e,g3]) ?_
     simp
     exact aA [0] [(0,0)] (by decide) (by decide) (by simp[hp]) (by simp) (by simp[e])
    ·have eq:(if k=11 then(bl (ex (p.took p.peek)).2).2.took eD else(bl (ex (p.took p.peek)).2).2)=(bl (ex (p.took p.peek)).2).2:=by
      split
      ·rename_i z
       exact mH (by simp[g3 z])
      ·rfl
     simp only[eq]
     refine oS.skip ?_
     simp
     refine oS.sy ?_
     simp
     refine oS.ret ?_
     simp
     have e:=Ke (ex:=ex) (bl:=bl) hc5 g g3
     refine aU (x:=(iR ex bl p).1.d) (by simp[e]) ?_
     simp
     exact aA [0] [(0,0)] (by decide) (by decide) (by simp[hp]) (by simp) (by simp[e])
   ·refine oS.sy ?_
    simp
    refine aB ?_
    simp
    refine⟨fun h15=>?_,fun h15=>?_⟩
    ·refine oS.seq ?_
     have ip:=mY (p:=p) (by have:=hc5;simp only at this;omega)
     have lp:=iM ip
     rw[←cE ip]at lp
     have gp:=gY (s:=p.peek) hg
     refine oS.ro hT hW (fun|74=>some (.gen ⟨[(0,0)],[],[],eR (p.took p.peek),.d (.bool (p.is p.peek))⟩)|_=>none) ?_
     simp
     refine⟨oF p p.peek,?_⟩
     have kr:=zQ (s:=p.peek) (by have:=hc5;simp only at this;omega)
     have hcm:=Jm (p.took p.peek) (n+1) ex k (by have:=hc5;simp only at this;omega) hE (by omega) gp
     refine oS.ro hT hW (fun|76=>some (.gen ⟨[(0,0),(5,1)],[],[],RA (mX ex k (p.took p.peek)).2 (mX ex k (p.took p.peek)).1,.tup []⟩)|_=>none) ?_
     simp[RA]
     refine⟨by simpa [RA]using hcm,?_⟩
     refine Pg.mk ⟨(mX ex k (p.took p.peek)).1,(mX ex k (p.took p.peek)).2⟩ (aA [0,2,5] [(0,0),(2,2),(5,5)] (by decide) (by decide) (by simp[hp]) (by simp) (by simp)) ?_
     exact Gd hc5 h15
    ·refine oS.seq ?_
     have hpf:=sF p.peek [36] (by have:=qM hg;omega) (by decide)
     refine oS.ro hT hW (fun|79=>some<| .plain ⟨.d (.bool (decide (p.peek.take 1=[36]))),true⟩|_=>none) ?_
     simp
     refine⟨hpf,?_⟩
     refine aB ?_
     simp
     refine⟨fun h18=>?_,fun h18=>?_⟩
     ·refine oS.seq ?_
      have hlo:=AH p hg
      have gl:=gX hg
      refine oS.ro hT hW (fun|81=>some (.gen ⟨[(0,0)],[],[],eR (aM p).2,.d (.str (aM p).1)⟩)|_=>none) ?_
      simp
      refine⟨hlo,?_⟩
      refine oS.seq ?_
      have hne:=pF (aM p).2 [61]
      have gn:=cJ (s:=[61]) gl.2.1
      refine oS.ro hT hW (fun|84=>some (.gen ⟨[(0,0)],[],[],eR ((aM p).2.need [61]),.tup []⟩)|_=>none) ?_
      simp
      refine⟨hne,?_⟩
      have hx:=hE.ok ((aM p).2.need [61]) (by have:=gl.1;omega) gn.2
      refine oS.ro hT hW (fun|86=>some (.gen ⟨[(0,0)],[],[],eR (ex ((aM p).2.need [61])).2,.d (ex ((aM p).2.need [61])).1.d⟩)|_=>none) ?_
      simp
      refine⟨by simpa using hx,?_⟩
      refine mQ (bN 5 [87] (fz:=false) (cs:=[.d (aC 9),.d (.str (aM p).1),.d (aC 0),.ow 87 0 1]) (ds:=[aC 9,.str (aM p).1,aC 0,.sl [(ex ((aM p).2.need [61])).1.d]]) (by simp) (by simp) (by simp) (by simp[aX.mut])) ?_
      simp
      refine Pg.mk ⟨.mk 9 (aM p).1 0 [(ex ((aM p).2.need [61])).1],(ex ((aM p).2.need [61])).2⟩ (aA [0,2,5] [(0,0),(2,2),(5,5)] (by decide) (by decide) (by simp[hp]) (by simp) (by simp)) ?_
      exact AM hc5 (by omega) (by omega) h18
     ·refine oS.seq ?_
      have hpl:=Ht p hg
      have gl:=pS (p.l.length+1) p (Nat.lt_succ_self _) hg
      refine oS.ro hT hW (fun|16=>some (.gen ⟨[(0,0)],[],[],eR (aV p).2,.d (aV p).1.d⟩)|_=>none) ?_
      simp
      refine⟨by simpa using hpl,?_⟩
      refine oS.seq ?_
      have hne:=pF (aV p).2 [61]
      have gn:=cJ (s:=[61]) gl.2.1
      refine oS.ro hT hW (fun|20=>some (.gen ⟨[(0,0)],[],[],eR ((aV p).2.need [61]),.tup []⟩)|_=>none) ?_
      simp
      refine⟨hne,?_⟩
      have hx:=hE.ok ((aV p).2.need [61]) (by have:=gl.1;omega) gn.2
      refine aF hT hW bI (lk [[],[0],[],[2],[0,1],[],[0,1,2,3,4,5],[0,1,2,3,4,5,6],[0,1,2,3,4,5,6,7],[0,1,2,3,4,5,6],[0,1,2,3,4,5,6,9]]) (lk [[0,26],[0,26],[26],[26],[0,26],[0],[],[5],[5],[27],[27]]) (lk [[],[],[],[0],[],[26],[27,17],[],[27],[],[5]]) (by kernel_rfl) (fun|24=>some (.gen ⟨[(0,0)],[],[],eR (ex ((aV p).2.need [61])).2,.d (ex ((aV p).2.need [61])).1.d⟩)|_=>none) (by intro d;first|exact⟨rfl,fun _ h=>h⟩|(split<;>exact⟨rfl,fun _ h=>h⟩)) ?_
      simp
      refine⟨by simpa using hx,?_⟩
      refine mQ (bN 5 [27] (fz:=false) (cs:=[.d (aC 10),.d (.str []),.d (aC 0),.ow 27 0 2]) (ds:=[aC 10,.str [],aC 0,.sl [(aV p).1.d,(ex ((aV p).2.need [61])).1.d]]) (by simp) (by simp) (by simp) (by simp[aX.mut])) ?_
      simp
      refine Pg.mk ⟨.mk 10 [] 0 [(aV p).1,(ex ((aV p).2.need [61])).1],(ex ((aV p).2.need [61])).2⟩ (aA [0,2,5] [(0,0),(2,2),(5,5)] (by decide) (by decide) (by simp[hp]) (by simp) (by simp)) ?_
      exact AN hc5 (by omega) (by omega) h18
  ·refine oS.seq ?_
   have hne:=pF q [59]
   refine oS.ro hT hW (fun|90=>some (.gen ⟨[(0,0)],[],[],eR (q.need [59]),.tup []⟩)|_=>none) ?_
   simp
   refine⟨hne,?_⟩
   refine oS.sy ?_
   simp
   refine oS.ret ?_
   simp
   exact aA [0] [(0,0)] (by decide) (by decide) (by simp[hp]) (by simp[hc22]) (by simp[hc22])
end
open Go.Proofs
section
attribute[local simp] oZ.cond Nd.d_eq nd_t nd_dr nd_td ndsD bJ eP eC iY AI AJ AK oO Gc
theorem Fs.need{T:List Tk}{p:PS}(f:pX T p)(w:aR):pX T (p.need w)∧(p.need w).l.length≤p.l.length:=⟨f.need,mR⟩
theorem HB{T:List Tk}{m:Nat}{st:PS→Nd×PS}(hs:Fs T m st):∀(f:Nat) (ks:List Nd) (p:PS),p.l.length<m→pX T p→pX T (stmtsF st f ks p).2∧(stmtsF st f ks p).2.l.length≤p.l.length
 |0,_,p,_,hf=>⟨hf,Nat.le_refl _⟩
 |f+1,ks,p,hm,hf=>by
  rw[stmtsF]
  split
  ·exact⟨hf,Nat.le_refl _⟩
  ·obtain⟨a1,a2⟩:=hs p hm hf
   obtain⟨b1,b2⟩:=HB hs f (ks++[(st p).1]) (st p).2 (by omega) a1
   exact⟨b1,Nat.le_trans b2 a2⟩
theorem Fs.block{T:List Tk}{m:Nat}{st:PS→Nd×PS}(hs:Fs T m st):Fs T m (fZ st):=fun p hm hf=>by
 obtain⟨a1,a2⟩:=Fs.need hf [123]
 obtain⟨b1,b2⟩:=HB hs ((p.need [123]).l.length+1) [] (p.need [123]) (by omega) a1
 obtain⟨c1,c2⟩:=Fs.need b1 [125]
 exact⟨c1,Nat.le_trans c2 (Nat.le_trans b2 a2)⟩
theorem NX{T:List Tk}(hg:bH T)(m:Nat):Fs T m fun q=>fS true (q.l.length+1) q:=fun q _ f=>Gf hg (q.l.length+1) q (Nat.lt_succ_self _) f
theorem NY{s:aR}{T:List Tk}(c:BZ s T)(m:Nat):RR s T m 280 fun q=>fS true (q.l.length+1) q:=
 ⟨fun q _ f=>(Kh c (q.l.length+1)).ok q (Nat.lt_succ_self _) f,NX c.hg m⟩
def Bx(ex:PS→Nd×PS)(p:PS):Nd×PS:=
 if p.peek.take 1=[36]then(.mk 9 (aM p).1 0 [(ex ((aM p).2.need [61])).1],(ex ((aM p).2.need [61])).2)
 else(.mk 10 [] 0 [(aV p).1,(ex ((aV p).2.need [61])).1],(ex ((aV p).2.need [61])).2)
def LF(ex bl:PS→Nd×PS)(k:Int)(p:PS):Nd×PS:=
 if k=11∧(bl (ex (p.took p.peek)).2).2.is eD=true then
  (.mk k [] 0 [(ex (p.took p.peek)).1,(bl (ex (p.took p.peek)).2).1,(bl ((bl (ex (p.took p.peek)).2).2.took eD)).1],(bl ((bl (ex (p.took p.peek)).2).2.took eD)).2)
 else(.mk k [] 0 [(ex (p.took p.peek)).1,(bl (ex (p.took p.peek)).2).1],(bl (ex (p.took p.peek)).2).2)
theorem LG(s:aR)(T:List Tk)(c:BZ s T)(p:PS)(n:Nat)(st:PS→Nd×PS)(hS:RR s T n 235 st)(hE:Cx n st)(hn:p.l.length<n)(f:pX T p):qR Tryz.prog 196 [.bx 0 0] (iY s T p) (iY s T (fZ st p).2) (.d (fZ st p).1.d):=by
 unfold iY
 have htt:=c.ht
 have hpT:=f.le
 refine qR.cell hT Tryz.func196 (by kernel_rfl) (c:=_) rfl Tryz.ntmps196 (by simp) Tryz.results196 fun w0 X hp=>?_
 refine oS.sy ?_
 simp
 refine oS.sy ?_
 simp
 refine pO (fz:=false) (cs:=[.d (aC 8),.d (.str []),.d (aC 0),.nl]) 3 3 1022 4 (by decide) ⟨by simp,by simp,by simp,?_⟩
 simp
 refine oS.seq ?_
 have hn2:=vC s T p c f [123] (by simp)
 have gl:=Fs.need f [123]
 refine oS.ro hT hW (fun|6=>some (.gen ⟨[(0,0)],[],[],iY s T (p.need [123]),.tup []⟩)|_=>none) ?_
 simp
 refine⟨hn2,?_⟩
 refine oS.seq ?_
 refine oS.block ?_
 refine cA (ι:=Sd) (fun⟨f,ks,q⟩=>aY [(0,.bx 0 0),(2,.bx 2 0),(3,.bx 3 0)]) (fun⟨f,ks,q⟩=>aK [(0,.box false [.d (.str s),.d (.sl (T.map Tk.r)),.d (aC ((T.length:Int)- q.l.length)),.d (.bool (!decide (q.e=0))),.d (.bool (decide (q.e=5)))]),(2,.box false [.d (aC 0),.d (.str []),.d (aC 0),.nl]),(3,.box false [.d (aC 8),.d (.str []),.d (aC 0),.ow 1022 0 ks.length]),(1022,.row false 4 (ks.map Nd.d))]) (fun⟨f,ks,q⟩=>(q.e=0→q.l.length<f)∧pX T q∧q.l.length≤p.l.length∧ks.length+q.l.length≤p.l.length+(if q.e=0 then 0 else 1)∧stmtsF st ((p.need [123]).l.length+1) [] (p.need [123])=stmtsF st f ks q) (fun⟨f,ks,q⟩=>2*q.l.length+(if q.e=0 then 1 else 0)) ⟨(p.need [123]).l.length+1,[],p.need [123]⟩ (aA [0,2,3] [(0,0),(2,2),(3,3),(1022,1022)] (by decide) (by decide) (by simp[hp]) (by simp) (by simp)) (⟨fun _=>Nat.lt_succ_self _,gl.1,gl.2,by have:=gl.2;simp only[List.length_nil];omega,rfl⟩) fun⟨f,ks,q⟩ hi3=>?_
 refine oS.seq ?_
 refine oS.seq ?_
 have hpk:=qN s T q c hi3.2.1
 refine oS.ro hT hW (fun|14=>some (.gen ⟨[(0,0)],[],[],iY s T q,.d (.str q.peek)⟩)|_=>none) ?_
 simp[zA]
 refine⟨fun _=>hpk,?_⟩
 refine aB ?_
 simp
 refine⟨fun g1 g2=>?_,fun g=>?_⟩
 ·refine oS.skip ?_
  simp
  refine oS.block ?_
  have ha:q.l.length≤p.l.length:=hi3.2.2.1
  have hk:ks.length+q.l.length≤p.l.length:=by have z:=hi3.2.2.2.1;simp only[g1,if_true]at z;omega
  have hs:=hS.ok q (by omega) hi3.2.1
  have hle:=hS.fs q (by omega) hi3.2.1
  have heat:=hE q (by omega) (hi3.2.1.good c) g1
  refine aF hT hW bI (lk [[],[0],[],[2],[2,3],[0,1,2,3,4],[0,1,2,3,4,5],[0,1,2,3,4,5,6]]) (lk [[0,21],[0,21],[],[],[],[],[],[]]) (lk [[],[],[],[0],[21],[22,1022],[],[3]]) (by kernel_rfl) (fun|20=>some (.gen ⟨[(0,0)],[],[],iY s T (st q).2,.d (st q).1.d⟩)|_=>none) (by intro d;first|exact⟨rfl,fun _ h=>h⟩|(split<;>exact⟨rfl,fun _ h=>h⟩)) ?_
  simp
  refine⟨⟨by simpa using hs,by omega,by omega⟩,?_⟩
  refine JK.mk ⟨f-1,ks++[(st q).1],(st q).2⟩ (aA [0,2,3] [(0,0),(2,2),(3,3),(22,1022)] (by decide) (by decide) (by simp[hp]) (by simp) (by simp)) ?_ ?_
  ·refine⟨fun e=>?_,hle.1,?_,?_,?_⟩
   ·show(st q).2.l.length<f-1
    have z:=hi3.1 g1
    rcases heat with h|h
    ·exact absurd e h
    ·omega
   ·show(st q).2.l.length≤p.l.length
    omega
   ·show(ks++[(st q).1]).length+(st q).2.l.length≤p.l.length+(if(st q).2.e=0 then 0 else 1)
    rw[List.length_append,List.length_singleton]
    by_cases e:(st q).2.e=0
    ·rw[if_pos e]
     rcases heat with h|h
     ·exact absurd e h
     ·omega
    ·rw[if_neg e];omega
   ·rw[hi3.2.2.2.2];exact Hw (hi3.1 g1) g1 g2
  ·show 2*(st q).2.l.length+(if(st q).2.e=0 then 1 else 0)<2*q.l.length+(if q.e=0 then 1 else 0)
   rw[if_pos g1]
   by_cases e:(st q).2.e=0
   ·rw[if_pos e]
    rcases heat with h|h
    ·exact absurd e h
    ·omega
   ·rw[if_neg e];omega
 ·refine oS.exit ?_
  simp
  refine oS.seq ?_
  have hn5:=vC s T q c hi3.2.1 [125] (by simp)
  refine oS.ro hT hW (fun|25=>some (.gen ⟨[(0,0)],[],[],iY s T (q.need [125]),.tup []⟩)|_=>none) ?_
  simp
  refine⟨hn5,?_⟩
  refine oS.sy ?_
  simp
  refine oS.ret ?_
  simp
  have e:fZ st p=(.mk 8 [] 0 ks,q.need [125]):=by unfold fZ;simp only[];rw[hi3.2.2.2.2,Bw g]
  refine aU (x:=(fZ st p).1.d) (by simp[e]) ?_
  simp
  exact aA [0] [(0,0)] (by decide) (by decide) (by simp[hp]) (by simp) (by simp[e])
theorem RR.block{s:aR}{T:List Tk}(c:BZ s T){n:Nat}{st:PS→Nd×PS}(hS:RR s T n 235 st)(hE:Cx n st):RR s T n 196 (fZ st):=
 ⟨fun q hq f=>LG s T c q n st hS hE hq f,Fs.block hS.fs⟩
theorem Jo(s:aR)(T:List Tk)(c:BZ s T)(p:PS)(w:aR)(hw:p.peek=w)(n:Nat)(ex:PS→Nd×PS)(hE:RR s T n 280 ex)(hn:p.l.length<n)(f:pX T p):qR Tryz.prog 281 [.bx 0 0,.d (.str w)] (iY s T p) (iY s T (Bx ex p).2) (.d (Bx ex p).1.d):=by
 unfold iY
 have gp:=f.good c
 refine qR.cell hT Tryz.func281 (by kernel_rfl) (c:=_) rfl Tryz.ntmps281 (by simp) Tryz.results281 fun w0 X hp=>?_
 refine oS.sy ?_
 simp
 refine oS.seq ?_
 refine oS.sy ?_
 simp
 refine aB ?_
 simp
 refine⟨fun g1 g2=>?_,fun g=>?_⟩
 ·have gd:p.peek.take 1=[36]:=Rh.2 ⟨by rw[hw];omega,by rw[hw];exact g2⟩
  refine oS.seq ?_
  have hlo:=vD s T p c f
  have gl:=(gX gp).1
  refine oS.ro hT hW (fun|16=>some (.gen ⟨[(0,0)],[],[],iY s T (aM p).2,.d (.str (aM p).1)⟩)|_=>none) ?_
  simp
  refine⟨hlo,?_⟩
  refine oS.seq ?_
  have hne:=vC s T (aM p).2 c f.local [61] (by simp)
  have gn:=Fs.need f.local [61]
  refine oS.ro hT hW (fun|19=>some (.gen ⟨[(0,0)],[],[],iY s T ((aM p).2.need [61]),.tup []⟩)|_=>none) ?_
  simp
  refine⟨hne,?_⟩
  refine oS.seq ?_
  have hx:=hE.ok ((aM p).2.need [61]) (by omega) gn.1
  refine aF hT hW bI (lk [[],[0],[],[2],[2,3],[0,1,2,3,4],[0,1,2,3,4,5],[0,1,2,3,4,5,6]]) (lk [[0,24],[0,24],[],[],[],[],[],[]]) (lk [[],[],[],[0],[24],[25],[],[5]]) (by kernel_rfl) (fun|23=>some (.gen ⟨[(0,0)],[],[],iY s T (ex ((aM p).2.need [61])).2,.d (ex ((aM p).2.need [61])).1.d⟩)|_=>none) (by intro d;first|exact⟨rfl,fun _ h=>h⟩|(split<;>exact⟨rfl,fun _ h=>h⟩)) ?_
  simp
  refine⟨by simpa using hx,?_⟩
  refine oS.sy ?_
  simp
  refine oS.ret ?_
  simp
  have e:Bx ex p=(.mk 9 (aM p).1 0 [(ex ((aM p).2.need [61])).1],(ex ((aM p).2.need [61])).2):=if_pos gd
  refine aU (x:=(Bx ex p).1.d) (by simp[e]) ?_
  simp
  exact aA [0] [(0,0)] (by decide) (by decide) (by simp[hp]) (by simp) (by simp[e])
 ·have gd:¬p.peek.take 1=[36]:=fun z=>by have y:=Rh.1 z;rw[hw]at y;have:=g (by omega);omega
  refine oS.skip ?_
  simp
  refine oS.sy ?_
  simp
  refine oS.seq ?_
  have hpl:=Fi s T p c f
  have gl:=(pS (p.l.length+1) p (Nat.lt_succ_self _) gp).1
  refine aF hT hW bI (lk [[],[0],[],[2],[2,3],[0,1,2,3,4],[0,1,2,3,4,5],[0,1,2,3,4,5,6]]) (lk [[0,33],[0,33],[],[],[],[],[],[]]) (lk [[],[],[],[0],[33],[34],[],[6]]) (by kernel_rfl) (fun|32=>some (.gen ⟨[(0,0)],[],[],iY s T (aV p).2,.d (aV p).1.d⟩)|_=>none) (by intro d;first|exact⟨rfl,fun _ h=>h⟩|(split<;>exact⟨rfl,fun _ h=>h⟩)) ?_
  simp
  refine⟨by simpa using hpl,?_⟩
  refine oS.seq ?_
  have hne:=vC s T (aV p).2 c f.place [61] (by simp)
  have gn:=Fs.need f.place [61]
  refine oS.ro hT hW (fun|37=>some (.gen ⟨[(0,0)],[],[],iY s T ((aV p).2.need [61]),.tup []⟩)|_=>none) ?_
  simp
  refine⟨hne,?_⟩
  refine oS.seq ?_
  have hx:=hE.ok ((aV p).2.need [61]) (by omega) gn.1
  refine aF hT hW bI (lk [[],[0],[],[2],[2,3],[0,1,2,3,4],[0,1,2,3,4,5],[0,1,2,3,4,5,6]]) (lk [[0,42],[0,42],[],[],[],[],[],[]]) (lk [[],[],[],[0],[42],[43,34],[],[6]]) (by kernel_rfl) (fun|41=>some (.gen ⟨[(0,0)],[],[],iY s T (ex ((aV p).2.need [61])).2,.d (ex ((aV p).2.need [61])).1.d⟩)|_=>none) (by intro d;first|exact⟨rfl,fun _ h=>h⟩|(split<;>exact⟨rfl,fun _ h=>h⟩)) ?_
  simp
  refine⟨by simpa using hx,?_⟩
  refine oS.sy ?_
  simp
  refine oS.ret ?_
  simp
  have e:Bx ex p=(.mk 10 [] 0 [(aV p).1,(ex ((aV p).2.need [61])).1],(ex ((aV p).2.need [61])).2):=if_neg gd
  refine aU (x:=(Bx ex p).1.d) (by simp[e]) ?_
  simp
  exact aA [0] [(0,0)] (by decide) (by decide) (by simp[hp]) (by simp) (by simp[e])
end
open Go.Proofs
section
attribute[local simp] oZ.cond Nd.d_eq nd_t nd_dr nd_td ndsD bJ eP eC iY AI AJ AK oO Gc
theorem LH{s:aR}{T:List Tk}{c:Prop}[Decidable c]{f:Nat→aX}{a b:PS}{x:Nat}(h:f 0=.box false [.d (.str s),.d (.sl (T.map Tk.r)),.d (aC ((T.length:Int)- b.l.length)),.d (.bool (!decide (b.e=0))),.d (.bool (decide (b.e=5)))]):
 bG f (if c then [(0,.box false [.d (.str s),.d (.sl (T.map Tk.r)),.d (aC ((T.length:Int)- a.l.length)),.d (.bool (!decide (a.e=0))),.d (.bool (decide (a.e=5)))])]else []) x=
  if x=0 then .box false [.d (.str s),.d (.sl (T.map Tk.r)),.d (aC ((T.length:Int)-(if c then a else b).l.length)),.d (.bool (!decide ((if c then a else b).e=0))),.d (.bool (decide ((if c then a else b).e=5)))]else f x:=by
 by_cases hc:c
 ·simp only[hc,if_true,bG,cN]
 ·simp only[hc,if_false,bG]
  split
  ·rename_i e;rw[e];exact h
  ·rfl
def NZ:aR:=[119,104,105,108,101]
theorem PL{ex bl:PS→Nd×PS}{k:Int}{p:PS}(hs:p.took p.peek=p.skip)(h:k=11)(he:(bl (ex p.skip).2).2.is eD=true):
 LF ex bl k p=(.mk k [] 0 [(ex p.skip).1,(bl (ex p.skip).2).1,(bl ((bl (ex p.skip).2).2.took eD)).1],(bl ((bl (ex p.skip).2).2.took eD)).2):=by
 unfold LF;rw[hs,if_pos ⟨h,he⟩]
theorem QM{ex bl:PS→Nd×PS}{k:Int}{p:PS}(hs:p.took p.peek=p.skip)(he:k=11→(bl (ex p.skip).2).2.is eD=false):
 LF ex bl k p=(.mk k [] 0 [(ex p.skip).1,(bl (ex p.skip).2).1],(bl (ex p.skip).2).2):=by
 unfold LF;rw[hs,if_neg (fun z=>by rw[he z.1]at z;exact absurd z.2 (by simp))]
set_option maxRecDepth 10000 in
theorem Jp(s:aR)(T:List Tk)(c:BZ s T)(p:PS)(w:aR)(k:Int)(hk:k=11∨k=12)(hw:w=NZ↔k=12)(hpk:p.peek≠[])(n:Nat)(ex bl:PS→Nd×PS)(hE:RR s T (n+1) 280 ex)(hB:RR s T n 196 bl)(hn:p.l.length<n+1)(f:pX T p):qR Tryz.prog 262 [.bx 0 0,.d (.str w)] (iY s T p) (iY s T (LF ex bl k p).2) (.d (LF ex bl k p).1.d):=by
 unfold iY
 have htt:=c.ht
 have hsk:=wF (T:=T) hpk
 have hps:=f.pos hpk
 have htk:p.took p.peek=p.skip:=cE (fW.2 ⟨hpk,rfl⟩)
 have hl:=sZ hpk
 have fx:=hE.fs p.skip (by omega) f.skip
 have fb:=hB.fs (ex p.skip).2 (by omega) fx.1
 refine qR.cell hT Tryz.func262 (by kernel_rfl) (c:=_) rfl Tryz.ntmps262 (by simp) Tryz.results262 fun w0 X hp=>?_
 refine oS.sy ?_
 simp
 refine oS.sy ?_
 simp
 refine⟨by omega,?_⟩
 simp only[←hsk]
 refine oS.sy ?_
 simp
 refine aO (ι:=So) (fun⟨j⟩=>aY [(0,.bx 0 0),(4,.bx 4 0),(5,.bx 5 0)]) (fun⟨j⟩=>aK [(0,.box false [.d (.str s),.d (.sl (T.map Tk.r)),.d (aC ((T.length:Int)- p.skip.l.length)),.d (.bool (!decide (p.e=0))),.d (.bool (decide (p.e=5)))]),(4,.box false [.d (aC 0),.d (.str []),.d (aC 0),.nl]),(5,.box false [.d (aC j),.d (.str []),.d (aC 0),.nl])]) (fun⟨j⟩=>k=j) ?_ fun⟨j⟩ hc5=>?_
 ·refine oS.sy ?_
  simp
  refine aB ?_
  simp
  refine⟨fun h3=>?_,fun h3=>?_⟩
  ·have ek:k=12:=hw.1 h3
   refine aL ?_
   simp
   refine Pg.mk ⟨12⟩ (aA [0,4,5] [(0,0),(4,4),(5,5)] (by decide) (by decide) (by simp[hp]) (by simp) (by simp)) ?_
   exact ek
  ·have ek:k=11:=hk.resolve_right fun z=>h3 (hw.2 z)
   refine oS.skip ?_
   simp
   refine Pg.mk ⟨11⟩ (aA [0,4,5] [(0,0),(4,4),(5,5)] (by decide) (by decide) (by simp[hp]) (by simp) (by simp)) ?_
   exact ek
 ·refine oS.seq ?_
  have hj:k=j:=hc5
  subst hj
  have he:=hE.ok p.skip (by omega) f.skip
  rw[Nd.d_eq]at he
  refine aF hT hW bI (lk [[],[0],[],[2],[2,3],[0,1,2,3,4],[0,1,2,3,4,5],[0,1,2,3,4,5,6]]) (lk [[0,21],[0,21],[],[],[],[],[],[]]) (lk [[],[],[],[0],[21],[22],[],[5]]) (by kernel_rfl) (fun|20=>some (.gen ⟨[(0,0)],[],[],iY s T (ex p.skip).2,.d (ex p.skip).1.d⟩)|_=>none) (by intro d;first|exact⟨rfl,fun _ h=>h⟩|(split<;>exact⟨rfl,fun _ h=>h⟩)) ?_
  simp
  refine⟨he,?_⟩
  refine oS.seq ?_
  have hb:=hB.ok (ex p.skip).2 (by omega) fx.1
  refine aF hT hW bI (lk [[],[0],[],[2],[2,3],[0,1,2,3,4],[0,1,2,3,4,5],[0,1,2,3,4,5,6]]) (lk [[0,28],[0,28],[],[],[],[],[],[]]) (lk [[],[],[],[0],[28],[29,22],[],[5]]) (by kernel_rfl) (fun|27=>some (.gen ⟨[(0,0)],[],[],iY s T (bl (ex p.skip).2).2,.d (bl (ex p.skip).2).1.d⟩)|_=>none) (by intro d;first|exact⟨rfl,fun _ h=>h⟩|(split<;>exact⟨rfl,fun _ h=>h⟩)) ?_
  simp
  refine⟨by simpa using hb,?_⟩
  refine oS.seq ?_
  refine oS.seq ?_
  have ht:=zV s T (bl (ex p.skip).2).2 c fb.1 eD (by decide)
  refine oS.ro hT hW (fun|36=>some (.gen ⟨[(0,0)],[],[],iY s T ((bl (ex p.skip).2).2.took eD),.d (.bool ((bl (ex p.skip).2).2.is eD))⟩)|_=>none) ?_
  simp[LH (b:=(bl (ex p.skip).2).2)]
  refine⟨fun _=>ht,?_⟩
  refine aB ?_
  simp
  refine⟨fun g3 g4=>?_,fun g3=>?_⟩
  ·simp only[g3,if_true]
   have lt:((bl (ex p.skip).2).2.took eD).l.length≤(bl (ex p.skip).2).2.l.length:=Ge
   have hb2:=hB.ok ((bl (ex p.skip).2).2.took eD) (by omega) fb.1.took
   refine aF hT hW bI (lk [[],[0],[],[2],[2,3],[0,1,2,3,4],[0,1,2,3,4,5],[0,1,2,3,4,5,6]]) (lk [[0,42],[0,42],[],[],[],[],[],[]]) (lk [[],[],[],[0],[42],[43,29],[],[5]]) (by kernel_rfl) (fun|41=>some (.gen ⟨[(0,0)],[],[],iY s T (bl ((bl (ex p.skip).2).2.took eD)).2,.d (bl ((bl (ex p.skip).2).2.took eD)).1.d⟩)|_=>none) (by intro d;first|exact⟨rfl,fun _ h=>h⟩|(split<;>exact⟨rfl,fun _ h=>h⟩)) ?_
   simp
   refine⟨by simpa using hb2,?_⟩
   refine oS.sy ?_
   simp
   refine oS.ret ?_
   simp
   subst g3
   have e:=PL (ex:=ex) (bl:=bl) htk rfl g4
   refine aU (x:=(LF ex bl 11 p).1.d) (by simp[e]) ?_
   simp
   exact aA [0] [(0,0)] (by decide) (by decide) (by simp[hp]) (by simp) (by simp[e])
  ·have eq:(if k=11 then(bl (ex p.skip).2).2.took eD else(bl (ex p.skip).2).2)=(bl (ex p.skip).2).2:=by
    split
    ·rename_i z
     exact mH (by simp[g3 z])
    ·rfl
   simp only[eq]
   refine oS.skip ?_
   simp
   refine oS.sy ?_
   simp
   refine oS.ret ?_
   simp
   have e:=QM (ex:=ex) (bl:=bl) htk g3
   refine aU (x:=(LF ex bl k p).1.d) (by simp[e]) ?_
   simp
   exact aA [0] [(0,0)] (by decide) (by decide) (by simp[hp]) (by simp) (by simp[e])
def tQ(ex:PS→Nd×PS)(p:PS):Nd×PS:=if 12<cV p.peek then mX ex (cV p.peek) (p.took p.peek)else Bx ex p
theorem Gg{w:aR}(h:0≤cV w):cX (cV w)=w∧cV w<26:=by
 unfold cV JM at h⊢
 split at h
 ·omega
 ·rename_i hw
  rw[if_neg hw]
  cases e:(List.range 26).find? (fun i=>decide (jA.getD i []=w))with
  |none=>rw[e]at h;simp at h
  |some i=>
   have h1:=List.find?_some e
   have h2:=List.mem_range.1 (List.mem_of_find?_eq_some e)
   simp only[decide_eq_true_eq]at h1
   exact⟨h1,by simp only;omega⟩
theorem By{k:Int}{p:PS}(h:¬(k=19∨k=20))(h2:¬(k=21∨k=25∨k=24)):cmdA k p=aD p:=by unfold cmdA;rw[if_neg h,if_neg h2]
theorem HC{k:Int}{p:PS}(h:k=19∨k=20):cmdA k p=aM p:=by unfold cmdA;rw[if_pos h]
theorem Bz{k:Int}{p:PS}(h:k=21∨k=25∨k=24):cmdA k p=([],p):=by unfold cmdA;rw[if_neg (by omega),if_pos h]
set_option maxRecDepth 10000 in
theorem Jq(s:aR)(T:List Tk)(c:BZ s T)(p:PS)(w:aR)(hw:p.peek=w)(n:Nat)(ex:PS→Nd×PS)(hE:RR s T n 280 ex)(hn:p.l.length<n)(f:pX T p):qR Tryz.prog 263 [.bx 0 0,.d (.str w)] (iY s T p) (iY s T (tQ ex p).2) (.d (tQ ex p).1.d):=by
 unfold iY
 have htt:=c.ht
 have hst:=zT
 have q2:=pT
 refine qR.cell hT Tryz.func263 (by kernel_rfl) (c:=_) rfl Tryz.ntmps263 (by simp) Tryz.results263 fun w0 X hp=>?_
 refine oS.sy ?_
 simp
 refine oS.sy ?_
 simp
 refine aO (ι:=Nat) (fun i=>aY [(0,.bx 0 0),(1,.d (.str w)),(4,.bx 4 0),(5,.d (aC (i:Int)))]) (fun i=>aK [(0,.box false [.d (.str s),.d (.sl (T.map Tk.r)),.d (aC ((T.length:Int)- p.l.length)),.d (.bool (!decide (p.e=0))),.d (.bool (decide (p.e=5)))]),(4,.box false [.d (aC 0),.d (.str []),.d (aC 0),.nl])]) (fun i=>13≤i∧i≤26∧(∀j:Nat,13≤j→j<i→cX (j:Int)≠w)∧((i:Int)<26→cX (i:Int)=w)) ?_ fun i hc4=>?_
 ·refine oS.block ?_
  refine cA (ι:=Nat) (fun i=>aY [(0,.bx 0 0),(1,.d (.str w)),(4,.bx 4 0),(5,.d (aC (i:Int)))]) (fun i=>aK [(0,.box false [.d (.str s),.d (.sl (T.map Tk.r)),.d (aC ((T.length:Int)- p.l.length)),.d (.bool (!decide (p.e=0))),.d (.bool (decide (p.e=5)))]),(4,.box false [.d (aC 0),.d (.str []),.d (aC 0),.nl])]) (fun i=>13≤i∧i≤26∧∀j:Nat,13≤j→j<i→cX (j:Int)≠w) (fun i=>26-i) 13 (aA [0,1,4,5] [(0,0),(4,4)] (by decide) (by decide) (by simp[hp]) (by simp) (by simp)) (⟨Nat.le_refl _,by decide,fun j h1 h2=>absurd h2 (by omega)⟩) fun i hi2=>?_
  refine oS.seq ?_
  refine oS.seq ?_
  rcases(by have:=hi2.2.1;omega:¬(i:Int)<26∨(i:Int)<26)with h26|h26
  ·refine FF hT hW (fun _=>none) (by intro d;first|exact⟨rfl,fun _ h=>h⟩|(split<;>exact⟨rfl,fun _ h=>h⟩)) ?_
   simp[h26]
   refine aB ?_
   simp[h26]
   refine oS.exit ?_
   simp
   refine Pg.mk i (aA [0,1,4,5] [(0,0),(4,4)] (by decide) (by decide) (by simp[hp]) (by simp) (by simp)) ?_
   exact⟨hi2.1,hi2.2.1,hi2.2.2,fun z=>absurd z h26⟩
  ·have q1:=vZ (k:=(i:Int)) (by omega) h26
   rw[Int.toNat_natCast]at q1
   refine oS.ro hT hW (fun|10=>some<| .plain ⟨.d (.sl wK),true⟩|_=>none) ?_
   simp[h26,q1]
   refine⟨⟨hst,by have:=hi2.2.1;omega⟩,?_⟩
   refine aB ?_
   simp
   refine⟨fun h2=>?_,fun h2=>?_⟩
   ·refine oS.skip ?_
    simp
    refine oS.block ?_
    refine aL ?_
    simp
    refine⟨by omega,?_⟩
    refine JK.mk (i+1) (aA [0,1,4,5] [(0,0),(4,4)] (by decide) (by decide) (by simp[hp]) (by simp) (by simp)) ?_ ?_
    ·refine⟨by omega,by omega,fun j z1 z2=>?_⟩
     by_cases e:j=i
     ·rw[e];exact h2
     ·exact hi2.2.2 j z1 (by omega)
    ·omega
   ·refine oS.exit ?_
    simp
    refine Pg.mk i (aA [0,1,4,5] [(0,0),(4,4)] (by decide) (by decide) (by simp[hp]) (by simp) (by simp)) ?_
    exact⟨hi2.1,hi2.2.1,hi2.2.2,fun _=>h2⟩
 ·refine oS.seq ?_
  refine oS.sy ?_
  simp
  refine aB ?_
  simp
  refine⟨fun h4=>?_,fun h4=>?_⟩
  ·have hlow:¬12<cV p.peek:=fun z=>by
    obtain⟨z1,z2⟩:=Gg (w:=p.peek) (by omega)
    refine hc4.2.2.1 (cV p.peek).toNat (by omega) (by omega) ?_
    rw[Int.toNat_of_nonneg (by omega),z1,hw]
   have esm:tQ ex p=Bx ex p:=if_neg hlow
   refine oS.seq ?_
   have ha:=Jo s T c p w hw n ex hE hn f
   refine oS.ro hT hW (fun|23=>some (.gen ⟨[(0,0)],[],[],iY s T (Bx ex p).2,.d (Bx ex p).1.d⟩)|_=>none) ?_
   simp
   refine⟨by simpa using ha,?_⟩
   refine oS.ret ?_
   simp
   exact aA [0] [(0,0)] (by decide) (by decide) (by simp[hp]) (by simp[esm]) (by simp[esm])
  ·have hi:13≤i∧i≤25:=by have:=hc4.1;have:=hc4.2.1;omega
   have hwi:=hc4.2.2.2 (by omega)
   have hki:cV p.peek=(i:Int):=by rw[hw,←hwi];exact Lf (by omega)
   have hpk:p.peek≠[]:=fun e=>by rw[xW e]at hki;omega
   have hsk:=wF (T:=T) hpk
   have hps:=f.pos hpk
   have htk:p.took p.peek=p.skip:=cE (fW.2 ⟨hpk,rfl⟩)
   have esm:tQ ex p=mX ex (i:Int) p.skip:=by unfold tQ;rw[hki,htk,if_pos (by omega)]
   have hl:=sZ hpk
   have fsk:=f.skip
   refine oS.skip ?_
   simp
   refine oS.sy ?_
   simp
   refine⟨by omega,?_⟩
   simp only[←hsk]
   refine oS.sy ?_
   simp
   refine oS.seq ?_
   refine oS.sy ?_
   simp
   refine oS.block ?_
   refine aO (ι:=BC) (fun⟨b⟩=>aY [(0,.bx 0 0),(4,.bx 4 0),(6,.bx 6 0),(33,.d (aC (i:Int))),(34,.d (.bool b))]) (fun⟨b⟩=>aK [(0,.box false [.d (.str s),.d (.sl (T.map Tk.r)),.d (aC ((T.length:Int)- p.skip.l.length)),.d (.bool (!decide (p.e=0))),.d (.bool (decide (p.e=5)))]),(4,.box false [.d (aC 0),.d (.str []),.d (aC 0),.nl]),(6,.box false [.d (aC (i:Int)),.d (.str []),.d (aC 0),.nl])]) (fun⟨b⟩=>b=true↔((i:Int)=13∨(i:Int)=14∨(i:Int)=17∨(i:Int)=18)) ?_ fun⟨b⟩ hc13=>?_
   ·refine oS.sy ?_
    simp
    refine aB ?_
    simp
    refine⟨fun h9=>?_,fun h9=>?_⟩
    ·refine oS.skip ?_
     simp
     refine Pg.mk ⟨decide ((i:Int)=13)⟩ (aA [0,4,6,33,34] [(0,0),(4,4),(6,6)] (by decide) (by decide) (by simp[hp]) (by simp) (by simp)) ?_
     simp[h9]
    ·refine oS.sy ?_
     simp
     refine aB ?_
     simp
     refine⟨fun h10=>?_,fun h10=>?_⟩
     ·refine oS.skip ?_
      simp
      refine Pg.mk ⟨decide ((i:Int)=14)⟩ (aA [0,4,6,33,34] [(0,0),(4,4),(6,6)] (by decide) (by decide) (by simp[hp]) (by simp) (by simp)) ?_
      simp[h10]
     ·refine oS.sy ?_
      simp
      refine aB ?_
      simp
      refine⟨fun h11=>?_,fun h11=>?_⟩
      ·refine oS.skip ?_
       simp
       refine Pg.mk ⟨decide ((i:Int)=17)⟩ (aA [0,4,6,33,34] [(0,0),(4,4),(6,6)] (by decide) (by decide) (by simp[hp]) (by simp) (by simp)) ?_
       simp[h11]
      ·refine aL ?_
       simp
       refine Pg.mk ⟨decide ((i:Int)=18)⟩ (aA [0,4,6,33,34] [(0,0),(4,4),(6,6)] (by decide) (by decide) (by simp[hp]) (by simp) (by simp)) ?_
       simp only[decide_eq_true_eq];omega
   ·refine aB ?_
    simp
    refine⟨fun h13=>?_,fun h13=>?_⟩
    ·have q13:=hc13.1 h13
     have hna:=xV s T p.skip c fsk
     refine oS.ro hT hW (fun|40=>some (.gen ⟨[(0,0)],[],[],iY s T (aD p.skip).2,.d (.str (aD p.skip).1)⟩)|_=>none) ?_
     simp
     refine⟨hna,?_⟩
     refine oS.sy ?_
     simp
     refine oS.ret ?_
     simp
     have e:=vF (ex:=ex) (k:=(i:Int)) (p:=p.skip) (by omega) (by omega) (by omega)
     rw[By (by omega) (by omega)]at e
     refine aU (x:=(tQ ex p).1.d) (by simp[esm,e]) ?_
     simp
     exact aA [0] [(0,0)] (by decide) (by decide) (by simp[hp]) (by simp) (by simp[esm,e])
    ·have q13:¬((i:Int)=13∨(i:Int)=14∨(i:Int)=17∨(i:Int)=18):=fun q=>by simp[hc13.2 q]at h13
     refine aO (ι:=BC) (fun⟨b⟩=>aY [(0,.bx 0 0),(4,.bx 4 0),(6,.bx 6 0),(33,.d (aC (i:Int))),(42,.d (.bool b))]) (fun⟨b⟩=>aK [(0,.box false [.d (.str s),.d (.sl (T.map Tk.r)),.d (aC ((T.length:Int)- p.skip.l.length)),.d (.bool (!decide (p.e=0))),.d (.bool (decide (p.e=5)))]),(4,.box false [.d (aC 0),.d (.str []),.d (aC 0),.nl]),(6,.box false [.d (aC (i:Int)),.d (.str []),.d (aC 0),.nl])]) (fun⟨b⟩=>b=true↔((i:Int)=15∨(i:Int)=22)) ?_ fun⟨b⟩ hc16=>?_
     ·refine oS.sy ?_
      simp
      refine aB ?_
      simp
      refine⟨fun h14=>?_,fun h14=>?_⟩
      ·refine oS.skip ?_
       simp
       refine Pg.mk ⟨decide ((i:Int)=15)⟩ (aA [0,4,6,33,42] [(0,0),(4,4),(6,6)] (by decide) (by decide) (by simp[hp]) (by simp) (by simp)) ?_
       simp[h14]
      ·refine aL ?_
       simp
       refine Pg.mk ⟨decide ((i:Int)=22)⟩ (aA [0,4,6,33,42] [(0,0),(4,4),(6,6)] (by decide) (by decide) (by simp[hp]) (by simp) (by simp)) ?_
       simp only[decide_eq_true_eq];omega
     ·refine aB ?_
      simp
      refine⟨fun h16=>?_,fun h16=>?_⟩
      ·have q16:=hc16.1 h16
       refine oS.seq ?_
       have hna:=xV s T p.skip c fsk
       have gl:=(eI (fsk.good c)).1
       refine oS.ro hT hW (fun|46=>some (.gen ⟨[(0,0)],[],[],iY s T (aD p.skip).2,.d (.str (aD p.skip).1)⟩)|_=>none) ?_
       simp
       refine⟨hna,?_⟩
       have hx:=hE.ok (aD p.skip).2 (by omega) fsk.name
       refine aF hT hW bI (lk [[],[0],[],[2],[2,3],[0,1,2,3,4],[0,1,2,3,4,5],[0,1,2,3,4,5,6]]) (lk [[0,52],[0,52],[],[],[],[],[],[]]) (lk [[],[],[],[0],[52],[53],[],[6]]) (by kernel_rfl) (fun|51=>some (.gen ⟨[(0,0)],[],[],iY s T (ex (aD p.skip).2).2,.d (ex (aD p.skip).2).1.d⟩)|_=>none) (by intro d;first|exact⟨rfl,fun _ h=>h⟩|(split<;>exact⟨rfl,fun _ h=>h⟩)) ?_
       simp
       refine⟨by simpa using hx,?_⟩
       refine oS.sy ?_
       simp
       refine oS.ret ?_
       simp
       have e:=DN (ex:=ex) (k:=(i:Int)) (p:=p.skip) (by omega)
       rw[By (by omega) (by omega)]at e
       refine aU (x:=(tQ ex p).1.d) (by simp[esm,e]) ?_
       simp
       exact aA [0] [(0,0)] (by decide) (by decide) (by simp[hp]) (by simp) (by simp[esm,e])
      ·have q16:¬((i:Int)=15∨(i:Int)=22):=fun q=>by simp[hc16.2 q]at h16
       refine aO (ι:=BC) (fun⟨b⟩=>aY [(0,.bx 0 0),(4,.bx 4 0),(6,.bx 6 0),(33,.d (aC (i:Int))),(55,.d (.bool b))]) (fun⟨b⟩=>aK [(0,.box false [.d (.str s),.d (.sl (T.map Tk.r)),.d (aC ((T.length:Int)- p.skip.l.length)),.d (.bool (!decide (p.e=0))),.d (.bool (decide (p.e=5)))]),(4,.box false [.d (aC 0),.d (.str []),.d (aC 0),.nl]),(6,.box false [.d (aC (i:Int)),.d (.str []),.d (aC 0),.nl])]) (fun⟨b⟩=>b=true↔((i:Int)=16∨(i:Int)=23)) ?_ fun⟨b⟩ hc20=>?_
       ·refine oS.sy ?_
        simp
        refine aB ?_
        simp
        refine⟨fun h18=>?_,fun h18=>?_⟩
        ·refine oS.skip ?_
         simp
         refine Pg.mk ⟨decide ((i:Int)=16)⟩ (aA [0,4,6,33,55] [(0,0),(4,4),(6,6)] (by decide) (by decide) (by simp[hp]) (by simp) (by simp)) ?_
         simp[h18]
        ·refine aL ?_
         simp
         refine Pg.mk ⟨decide ((i:Int)=23)⟩ (aA [0,4,6,33,55] [(0,0),(4,4),(6,6)] (by decide) (by decide) (by simp[hp]) (by simp) (by simp)) ?_
         simp only[decide_eq_true_eq];omega
       ·refine aB ?_
        simp
        refine⟨fun h20=>?_,fun h20=>?_⟩
        ·have q20:=hc20.1 h20
         refine oS.seq ?_
         have hna:=xV s T p.skip c fsk
         refine oS.ro hT hW (fun|59=>some (.gen ⟨[(0,0)],[],[],iY s T (aD p.skip).2,.d (.str (aD p.skip).1)⟩)|_=>none) ?_
         simp
         refine⟨hna,?_⟩
         have hlo:=vD s T (aD p.skip).2 c fsk.name
         refine aF hT hW bI (lk [[],[0],[],[2],[2,3],[2,3,4],[0,1,2,3,4,5],[0,1,2,3,4,5,6],[0,1,2,3,4,5,6,7]]) (lk [[0,66],[0,66],[],[],[],[],[],[],[]]) (lk [[],[],[],[0],[],[66],[67],[],[6]]) (by kernel_rfl) (fun|64=>some (.gen ⟨[(0,0)],[],[],iY s T (aM (aD p.skip).2).2,.d (.str (aM (aD p.skip).2).1)⟩)|_=>none) (by intro d;first|exact⟨rfl,fun _ h=>h⟩|(split<;>exact⟨rfl,fun _ h=>h⟩)) ?_
         simp
         refine⟨hlo,?_⟩
         refine oS.sy ?_
         simp
         refine oS.ret ?_
         simp
         have e:=CB (ex:=ex) (k:=(i:Int)) (p:=p.skip) (by omega) (by omega)
         rw[By (by omega) (by omega)]at e
         refine aU (x:=(tQ ex p).1.d) (by simp[esm,e]) ?_
         simp
         exact aA [0] [(0,0)] (by decide) (by decide) (by simp[hp]) (by simp) (by simp[esm,e])
        ·have q20:¬((i:Int)=16∨(i:Int)=23):=fun q=>by simp[hc20.2 q]at h20
         refine oS.sy ?_
         simp
         refine aB ?_
         simp
         refine⟨fun h22=>?_,fun h22=>?_⟩
         ·refine oS.seq ?_
          have hlo:=vD s T p.skip c fsk
          refine oS.ro hT hW (fun|72=>some (.gen ⟨[(0,0)],[],[],iY s T (aM p.skip).2,.d (.str (aM p.skip).1)⟩)|_=>none) ?_
          simp
          refine⟨hlo,?_⟩
          have hnu:=uC s T (aM p.skip).2 c fsk.local (i:Int) 2 6 (.inl (by rw[h22];rfl)) (by rw[h22];rfl)
          refine oS.ro hT hW (fun|75=>some (.gen ⟨[(0,0)],[],[],iY s T (aG (i:Int) (aM p.skip).2).2,.d (aC (aG (i:Int) (aM p.skip).2).1)⟩)|_=>none) ?_
          simp
          refine⟨hnu,?_⟩
          refine oS.sy ?_
          simp
          refine oS.ret ?_
          simp
          have e:=zB (ex:=ex) (k:=(i:Int)) (p:=p.skip) (by omega) (by omega) (by omega)
          rw[HC (by omega)]at e
          refine aU (x:=(tQ ex p).1.d) (by simp[esm,e]) ?_
          simp
          exact aA [0] [(0,0)] (by decide) (by decide) (by simp[hp]) (by simp) (by simp[esm,e])
         ·refine oS.sy ?_
          simp
          refine aB ?_
          simp
          refine⟨fun h25=>?_,fun h25=>?_⟩
          ·have hlo:=vD s T p.skip c fsk
           refine oS.ro hT hW (fun|80=>some (.gen ⟨[(0,0)],[],[],iY s T (aM p.skip).2,.d (.str (aM p.skip).1)⟩)|_=>none) ?_
           simp
           refine⟨hlo,?_⟩
           refine oS.sy ?_
           simp
           refine oS.ret ?_
           simp
           have e:=vF (ex:=ex) (k:=(i:Int)) (p:=p.skip) (by omega) (by omega) (by omega)
           rw[HC (by omega)]at e
           refine aU (x:=(tQ ex p).1.d) (by simp[esm,e]) ?_
           simp
           exact aA [0] [(0,0)] (by decide) (by decide) (by simp[hp]) (by simp) (by simp[esm,e])
          ·refine oS.sy ?_
           simp
           refine aB ?_
           simp
           refine⟨fun h27=>?_,fun h27=>?_⟩
           ·have hnu:=uC s T p.skip c fsk (i:Int) 1 9 (.inl (by rw[h27];rfl)) (by rw[h27];rfl)
            refine oS.ro hT hW (fun|85=>some (.gen ⟨[(0,0)],[],[],iY s T (aG (i:Int) p.skip).2,.d (aC (aG (i:Int) p.skip).1)⟩)|_=>none) ?_
            simp
            refine⟨hnu,?_⟩
            refine oS.sy ?_
            simp
            refine oS.ret ?_
            simp
            have e:=zB (ex:=ex) (k:=(i:Int)) (p:=p.skip) (by omega) (by omega) (by omega)
            rw[Bz (by omega)]at e
            refine aU (x:=(tQ ex p).1.d) (by simp[esm,e]) ?_
            simp
            exact aA [0] [(0,0)] (by decide) (by decide) (by simp[hp]) (by simp) (by simp[esm,e])
           ·refine oS.sy ?_
            simp
            refine aB ?_
            simp
            refine⟨fun h29=>?_,fun h29=>?_⟩
            ·have hnu:=uC s T p.skip c fsk (i:Int) 1 99 (.inl (by rw[h29];rfl)) (by rw[h29];rfl)
             refine oS.ro hT hW (fun|90=>some (.gen ⟨[(0,0)],[],[],iY s T (aG (i:Int) p.skip).2,.d (aC (aG (i:Int) p.skip).1)⟩)|_=>none) ?_
             simp
             refine⟨hnu,?_⟩
             refine oS.sy ?_
             simp
             refine oS.ret ?_
             simp
             have e:=zB (ex:=ex) (k:=(i:Int)) (p:=p.skip) (by omega) (by omega) (by omega)
             rw[Bz (by omega)]at e
             refine aU (x:=(tQ ex p).1.d) (by simp[esm,e]) ?_
             simp
             exact aA [0] [(0,0)] (by decide) (by decide) (by simp[hp]) (by simp) (by simp[esm,e])
            ·refine oS.sy ?_
             simp
             refine aB ?_
             simp
             refine⟨fun h31=>?_,fun h31=>?_⟩
             ·have hx:=hE.ok p.skip (by omega) fsk
              rw[Nd.d_eq]at hx
              refine aF hT hW bI (lk [[],[0],[],[2],[2,3],[0,1,2,3,4],[0,1,2,3,4,5],[0,1,2,3,4,5,6]]) (lk [[0,98],[0,98],[],[],[],[],[],[]]) (lk [[],[],[],[0],[98],[99],[],[6]]) (by kernel_rfl) (fun|97=>some (.gen ⟨[(0,0)],[],[],iY s T (ex p.skip).2,.d (ex p.skip).1.d⟩)|_=>none) (by intro d;first|exact⟨rfl,fun _ h=>h⟩|(split<;>exact⟨rfl,fun _ h=>h⟩)) ?_
              simp
              refine⟨hx,?_⟩
              refine oS.sy ?_
              simp
              refine oS.ret ?_
              simp
              have e:=DN (ex:=ex) (k:=(i:Int)) (p:=p.skip) (by omega)
              rw[Bz (by omega)]at e
              refine aU (x:=(tQ ex p).1.d) (by simp[esm,e]) ?_
              simp
              exact aA [0] [(0,0)] (by decide) (by decide) (by simp[hp]) (by simp) (by simp[esm,e])
             ·refine oS.skip ?_
              simp
              refine oS.sy ?_
              simp
              refine oS.ret ?_
              exact absurd (show False by omega) id
theorem QN{T:List Tk}(hg:bH T){n:Nat}{ex:PS→Nd×PS}(hx:Fs T n ex):Fs T n (Bx ex):=fun p h f=>by
 have gp:=f.goodT hg
 unfold Bx
 split
 ·obtain⟨a1,a2⟩:=Fs.need f.local [61]
  have l1:=(gX gp).1
  obtain⟨b1,b2⟩:=hx ((aM p).2.need [61]) (by omega) a1
  exact⟨b1,by simp only;omega⟩
 ·obtain⟨a1,a2⟩:=Fs.need f.place [61]
  have l1:=(pS (p.l.length+1) p (Nat.lt_succ_self _) gp).1
  obtain⟨b1,b2⟩:=hx ((aV p).2.need [61]) (by omega) a1
  exact⟨b1,by simp only;omega⟩
theorem Fs.cmdA{T:List Tk}(hg:bH T){k:Int}{p:PS}(f:pX T p):pX T (cmdA k p).2∧(cmdA k p).2.l.length≤p.l.length:=by
 have gp:=f.goodT hg
 refine⟨?_,(vE gp).1⟩
 unfold Go.Eng.cmdA
 split
 ·exact f.local
 ·split
  ·exact f
  ·exact f.name
theorem Fs.cmd{T:List Tk}(hg:bH T){n:Nat}{ex:PS→Nd×PS}(hx:Fs T n ex)(k:Int):Fs T n (mX ex k):=fun p h f=>by
 obtain⟨a1,a2⟩:=Fs.cmdA (k:=k) hg f
 have ga:=a1.goodT hg
 by_cases h1:k=15∨k=22∨k=24
 ·rw[DN h1]
  obtain⟨b1,b2⟩:=hx _ (by omega) a1
  exact⟨b1,by simp only;omega⟩
 ·by_cases h2:k=16∨k=23
  ·rw[CB h1 h2]
   have:=(gX ga).1
   exact⟨a1.local,by simp only;omega⟩
  ·by_cases h3:k=19∨k=21∨k=25
   ·rw[zB h1 h2 h3]
    have:=(kS (k:=k) ga).1
    exact⟨a1.numeral,by simp only;omega⟩
   ·rw[vF h1 h2 h3]
    exact⟨a1,a2⟩
theorem Oa{T:List Tk}(hg:bH T){n:Nat}{ex:PS→Nd×PS}(hx:Fs T n ex):Fs T n (tQ ex):=fun p h f=>by
 unfold tQ
 split
 ·have l1:=Ge (p:=p) (w:=p.peek)
  obtain⟨a1,a2⟩:=Fs.cmd hg hx (cV p.peek) (p.took p.peek) (by omega) f.took
  exact⟨a1,by omega⟩
 ·exact QN hg hx p h f
theorem Ki{ex bl:PS→Nd×PS}{p:PS}(h:cV p.peek=11∨cV p.peek=12):iR ex bl p=LF ex bl (cV p.peek) p:=by
 unfold LF
 split
 ·rename_i z
  exact CC rfl z.1 z.2
 ·rename_i z
  refine Ke rfl h fun q=>?_
  cases e:(bl (ex (p.took p.peek)).2).2.is eD with
  |false=>rfl
  |true=>exact absurd ⟨q,e⟩ z
theorem HD{ex bl:PS→Nd×PS}{p:PS}(h:¬(cV p.peek=11∨cV p.peek=12)):iR ex bl p=((tQ ex p).1,(tQ ex p).2.need [59]):=by
 unfold tQ
 by_cases h2:12<cV p.peek
 ·rw[if_pos h2,Gd rfl h2]
 ·rw[if_neg h2]
  unfold Bx
  by_cases h3:p.peek.take 1=[36]
  ·rw[if_pos h3,AM rfl h h2 h3]
  ·rw[if_neg h3,AN rfl h h2 h3]
theorem Ob{T:List Tk}(hg:bH T){n:Nat}{ex bl:PS→Nd×PS}(hx:Fs T (n+1) ex)(hb:Fs T n bl):Fs T (n+1) (iR ex bl):=fun p h f=>by
 by_cases hk:cV p.peek=11∨cV p.peek=12
 ·rw[Ki hk]
  have l0:=tK (mY (p:=p) (by omega))
  obtain⟨a1,a2⟩:=hx (p.took p.peek) (by omega) f.took
  obtain⟨b1,b2⟩:=hb (ex (p.took p.peek)).2 (by omega) a1
  unfold LF
  split
  ·have l2:=Ge (p:=(bl (ex (p.took p.peek)).2).2) (w:=eD)
   obtain⟨c1,c2⟩:=hb ((bl (ex (p.took p.peek)).2).2.took eD) (by omega) b1.took
   exact⟨c1,by simp only;omega⟩
  ·exact⟨b1,by simp only;omega⟩
 ·rw[HD hk]
  obtain⟨a1,a2⟩:=Oa hg hx p h f
  obtain⟨b1,b2⟩:=Fs.need a1 [59]
  exact⟨b1,by simp only;omega⟩
theorem Oc{w:aR}:w=[105,102]↔cV w=11:=by
 constructor
 ·rintro rfl;decide
 ·intro h
  have:=(Gg (w:=w) (by omega)).1
  rw[h]at this
  exact this.symm
theorem Jr{w:aR}:w=NZ↔cV w=12:=by
 constructor
 ·rintro rfl;decide
 ·intro h
  have:=(Gg (w:=w) (by omega)).1
  rw[h]at this
  exact this.symm
theorem HE(s:aR)(T:List Tk)(c:BZ s T)(p:PS)(n:Nat)(ex bl:PS→Nd×PS)(hE:RR s T (n+1) 280 ex)(hB:RR s T n 196 bl)(hn:p.l.length<n+1)(f:pX T p):qR Tryz.prog 235 [.bx 0 0] (iY s T p) (iY s T (iR ex bl p).2) (.d (iR ex bl p).1.d):=by
 unfold iY
 refine qR.cell hT Tryz.func235 (by kernel_rfl) (c:=_) rfl Tryz.ntmps235 (by simp) Tryz.results235 fun w0 X hp=>?_
 refine oS.sy ?_
 simp
 refine bY hT hW (fun|6=>some (.gen ⟨[(0,0)],[],[],iY s T p,.d (.str p.peek)⟩)|_=>none) ?_
 simp
 refine⟨qN s T p c f,?_⟩
 refine oS.seq ?_
 refine oS.sy ?_
 simp
 refine aB ?_
 simp
 refine⟨fun g=>?_,fun g1 g2=>?_⟩
 ·have hk:cV p.peek=11∨cV p.peek=12:=g.imp Oc.1 Jr.1
  have es:=Ki (ex:=ex) (bl:=bl) hk
  have hpk:p.peek≠[]:=fun e=>by rw[xW e]at hk;omega
  refine oS.seq ?_
  have hbr:=Jp s T c p p.peek (cV p.peek) hk Jr hpk n ex bl hE hB hn f
  refine oS.ro hT hW (fun|15=>some (.gen ⟨[(0,0)],[],[],iY s T (LF ex bl (cV p.peek) p).2,.d (LF ex bl (cV p.peek) p).1.d⟩)|_=>none) ?_
  simp
  refine⟨by simpa using hbr,?_⟩
  refine oS.ret ?_
  simp
  exact aA [0] [(0,0)] (by decide) (by decide) (by simp[hp]) (by simp[es]) (by simp[es])
 ·have hk:¬(cV p.peek=11∨cV p.peek=12):=fun z=>z.elim (fun y=>g1 (Oc.2 y)) (fun y=>g2 (Jr.2 y))
  have es:=HD (ex:=ex) (bl:=bl) hk
  refine oS.skip ?_
  simp
  refine oS.seq ?_
  have hsm:=Jq s T c p p.peek rfl (n+1) ex hE hn f
  have fm:=Oa c.hg hE.fs p hn f
  refine oS.ro hT hW (fun|18=>some (.gen ⟨[(0,0)],[],[],iY s T (tQ ex p).2,.d (tQ ex p).1.d⟩)|_=>none) ?_
  simp
  refine⟨by simpa using hsm,?_⟩
  refine oS.seq ?_
  have hw5:=vC s T (tQ ex p).2 c fm.1 [59] (by simp)
  refine oS.ro hT hW (fun|20=>some (.gen ⟨[(0,0)],[],[],iY s T ((tQ ex p).2.need [59]),.tup []⟩)|_=>none) ?_
  simp
  refine⟨hw5,?_⟩
  refine oS.sy ?_
  simp
  refine oS.ret ?_
  simp
  exact aA [0] [(0,0)] (by decide) (by decide) (by simp[hp]) (by simp[es]) (by simp[es])
theorem LI(n:Nat)(q:PS):(kY false n q).2=(kY true n q).2:=(GX n q).1
theorem Js:∀n:Nat,Cx n (kY false n)
 |0=>fun q h _ _=>absurd h (Nat.not_lt_zero _)
 |n+1=>DO (sJ false) (sX (mG false n)) (AA (n+1)) (uV (mG false n) (uW n))
theorem Cx.stmtT(n:Nat):Cx n (kY true n):=fun q h g e=>by
 rw[←LI];exact Js n q h g e
theorem Kj{s:aR}{T:List Tk}(c:BZ s T):∀n:Nat,RR s T n 235 (kY true n)
 |0=>⟨fun q h _=>absurd h (Nat.not_lt_zero _),fun q h _=>absurd h (Nat.not_lt_zero _)⟩
 |n+1=>by
  have hB:=RR.block c (Kj c n) (Cx.stmtT n)
  have hE:=NY c (n+1)
  exact⟨fun q hq f=>HE s T c q n _ _ hE hB hq f,Ob c.hg hE.fs hB.fs⟩
theorem RR.blockT{s:aR}{T:List Tk}(c:BZ s T)(n:Nat):RR s T n 196 (blockP true n):=RR.block c (Kj c n) (Cx.stmtT n)
end
open Go.Proofs
section
attribute[local simp] oZ.cond Nd.d_eq nd_t nd_dr nd_td ndsD bJ eP qS eR eC
attribute[local simp] pY Cf Cg Ch HA
theorem HF(n:Nat):qT n 208 (fun q=>fS false (q.l.length+1) q):=
 ⟨fun q _ hg=>(DM (q.l.length+1)).ok q (Nat.lt_succ_self _) hg,fun q hq hg=>(AA n).le q hq hg⟩
theorem rC:∀n,Cx n (kY false n)
 |0=>fun q h=>absurd h (Nat.not_lt_zero _)
 |n+1=>DO (sJ false) (sX (mG false n)) (AA (n+1)) (uV (mG false n) (uW n))
theorem DP:∀n:Nat,n≤1100000→qT n 162 (kY false n)
 |0,_=>⟨fun q h _=>absurd h (Nat.not_lt_zero _),fun q h _=>absurd h (Nat.not_lt_zero _)⟩
 |n+1,h=>by
  have hB:qT n 116 (fZ (kY false n)):=
   ⟨fun q hq hg=>Hx q n (kY false n) (DP n (by omega)) (rC n) hq hg (by omega),fun q hq hg=>(uV (mG false n) (uW n)).le q hq hg⟩
  refine⟨fun q hq hg=>?_,fun q hq hg=>(uW (n+1)).le q hq hg⟩
  exact Jn q n (fun q=>fS false (q.l.length+1) q) (fZ (kY false n)) (HF (n+1)) hB hq hg
theorem qT.block(n:Nat)(h:n≤1100000):qT n 116 (blockP false n):=
 ⟨fun q hq hg=>Hx q n (kY false n) (DP n h) (rC n) hq hg (by omega),fun q hq hg=>(uV (mG false n) (uW n)).le q hq hg⟩
theorem PM(s:aR):dL s=vY (fun x=>decide (s=x)) (jA.take 7):=by
 unfold dL
 have e2:(fun i=>decide (jA.getD i []=s))=fun i=>decide (s=jA.getD i []):=by funext i;rw[decide_eq_decide];exact eq_comm
 have e:=zX (fun x=>decide (s=x)) [] (jA.take 7)
 split
 ·rename_i h;subst h;rfl
 ·unfold vY
  rw[←e]
  rw[e2]
  rfl
theorem LJ{s:aR}: -1≤dL s∧dL s≤6:=by
 unfold dL
 split
 ·omega
 ·split
  ·rename_i i e
   have:=List.mem_of_find?_eq_some e
   simp at this
   omega
  ·omega
theorem Od{s:aR}(h:0≤dL s):cX (dL s)=s∧s≠[]:=by
 unfold dL at*
 split at h
 ·omega
 ·rename_i hs
  split at h
  ·rename_i i e
   have:=List.find?_some e
   simp only[decide_eq_true_eq]at this
   rw[if_neg hs]
   exact⟨this,hs⟩
  ·omega
theorem PN{p:PS}(h:dL p.peek<0):kL false p=(.mk 0 [] 0 [],p.fail 2):=by unfold kL;simp only[];rw[if_pos h]
theorem xX{p:PS}(h:¬dL p.peek<0):p.skip=p.took (cX (dL p.peek)):=by
 obtain⟨h1,h2⟩:=Od (s:=p.peek) (by omega)
 rw[h1,cE (fW.2 ⟨h2,rfl⟩)]
section
variable{p q:PS} {t:aR} {k:Int} (hk:dL p.peek=k) (h:¬k<0) (hn:aD (p.took (cX k))=(t,q))
include hk h hn
theorem LK(h5:k=5∨k=6):kL false p=(.mk k t 0 [(blockP false (q.l.length+1) q).1],(blockP false (q.l.length+1) q).2):=by
 subst hk
 unfold kL;simp only[];rw[if_neg h,xX h,hn,if_pos h5]
theorem PO(h1:k=1):kL false p=(.mk k t 0 (iL ((q.need [123]).l.length+1) [] (q.need [123])).1,(iL ((q.need [123]).l.length+1) [] (q.need [123])).2.need [125]):=by
 subst hk
 unfold kL;simp only[];rw[if_neg h,xX h,hn,if_neg (by omega),if_pos h1]
theorem PP(h1:k=0):kL false p=(.mk k t (aZ (q.need [61])).1 [],(aZ (q.need [61])).2.need [59]):=by
 subst hk
 unfold kL;simp only[];rw[if_neg h,xX h,hn,if_neg (by omega),if_neg (by omega),if_pos h1]
theorem Oe(h1:k=2):kL false p=(.mk k t (aG 2 q).1 [],(aG 2 q).2.need [59]):=by
 subst hk
 unfold kL;simp only[];rw[if_neg h,xX h,hn,if_neg (by omega),if_neg (by omega),if_neg (by omega),if_pos h1]
theorem Of(h1:¬(k=5∨k=6))(h2:¬k=1)(h3:¬k=0)(h4:¬k=2):kL false p=(.mk k t 0 [],q.need [59]):=by
 subst hk
 unfold kL;simp only[];rw[if_neg h,xX h,hn,if_neg h1,if_neg h2,if_neg h3,if_neg h4]
end
theorem LL{ks:List Nd}{q:PS}(h:q.e=0→q.peek=[125]):∀f,iL f ks q=(ks,q)
 |0=>rfl
 |f+1=>by
  rw[iL,if_pos]
  by_cases e:q.e=0
  ·exact .inr (h e)
  ·exact .inl e
theorem Og{ks:List Nd}{q:PS}{f:Nat}(hf:q.l.length<f)(h:q.e=0)(hp:¬q.peek=[125]):
 iL f ks q=iL (f-1) (ks++[.mk 7 (aD q).1 (aZ ((aD q).2.need [61])).1 []]) ((aZ ((aD q).2.need [61])).2.need [59]):=by
 obtain⟨k,rfl⟩:∃k,f=k+1:=⟨f-1,by omega⟩
 rw[iL,if_neg]
 ·rfl
 ·rintro(e|e)
  ·exact e h
  ·exact hp e
theorem Fj{q:PS}(h:bH q.l):((aZ ((aD q).2.need [61])).2.need [59]).l.length≤q.l.length∧bH ((aZ ((aD q).2.need [61])).2.need [59]).l∧
 (((aZ ((aD q).2.need [61])).2.need [59]).e=0→((aZ ((aD q).2.need [61])).2.need [59]).l.length<q.l.length):=by
 have g1:=eI h
 have g2:=cJ (s:=[61]) g1.2.1
 have g3:=Ay g2.2
 have g4:=cJ (s:=[59]) g3.2.1
 refine⟨by omega,g4.2,fun e=>?_⟩
 have e1:=(jB e).1
 have l1:=iM e1
 have:(aZ ((aD q).2.need [61])).2.need [59]=(aZ ((aD q).2.need [61])).2.skip:=by rw[FY e1,cE e1]
 rw[this]
 omega
theorem HG:∀x∈List.take 26 wK,(aE x).length=1:=by
 intro x hx
 rw[zS]at hx
 obtain⟨a,_,rfl⟩:=List.mem_map.1 hx
 rfl
theorem HH:List.take 7 wK=(jA.take 7).map DV.str:=rfl
structure Vx where
 n:Int
 q:PS
theorem QO(p:PS)(hg:bH p.l)(hb:p.l.length≤1000000):qR Tryz.prog 58 [.bx 0 0] (eR p) (eR (kL false p).2) (.d (kL false p).1.d):=by
 unfold eR
 refine qR.cell hT Tryz.func58 (by kernel_rfl) (c:=_) rfl Tryz.ntmps58 (by simp) Tryz.results58 fun w0 X hp=>?_
 refine oS.sy ?_
 simp
 refine oS.seq ?_
 have hi:=uH (jA.take 7) p.peek
 have q2:=pT
 rw[←PM]at hi
 have hr:=LJ (s:=p.peek)
 refine aF hT hW bI (lk [[],[],[1],[0,1,2],[0,1,2,3]]) (lk [[0],[],[],[],[]]) (lk [[],[],[0],[],[]]) (by kernel_rfl) (fun|8=>some (.gen ⟨[(0,0)],[],[],eR p,.d (.str p.peek)⟩)|9=>some<| .plain ⟨.d (aC (dL p.peek)),true⟩|_=>none) (by intro d;first|exact⟨rfl,fun _ h=>h⟩|(split<;>exact⟨rfl,fun _ h=>h⟩)) ?_
 simp[HH]
 refine⟨⟨⟨⟨by omega,HG⟩,qL p⟩,by simpa using hi⟩,?_⟩
 refine oS.seq ?_
 refine bY hT hW (fun|14=>some (.gen ⟨[(0,0)],[],[],eR p,.d (.str p.peek)⟩)|_=>none) ?_
 simp[zA]
 refine⟨fun _=>qL p,?_⟩
 refine aB ?_
 simp
 refine⟨fun h2=>?_,fun h2 h2b=>?_⟩
 ·have h2:dL p.peek<0:=by
   rcases h2 with h|h
   ·exact h
   ·rw[h];decide
  refine bY hT hW (fun|18=>some (.gen ⟨[(0,0)],[],[],eR (p.fail 2),.tup []⟩)|_=>none) ?_
  simp
  refine⟨yZ p 2,?_⟩
  refine oS.sy ?_
  simp
  refine oS.ret ?_
  simp
  have e:=PN h2
  refine aU (x:=(kL false p).1.d) (by simp[e]) ?_
  simp
  exact aA [0] [(0,0)] (by decide) (by decide) (by simp[hp]) (by simp) (by simp[e])
 ·have hlt:¬dL p.peek<0:=by omega
  refine oS.skip ?_
  simp
  refine oS.seq ?_
  have hlt:¬dL p.peek<0:=by omega
  have wat:=vZ (k:=dL p.peek) (by omega) (by omega)
  have htk:=oF p (cX (dL p.peek))
  refine oS.ro hT hW (fun|24=>some (.gen ⟨[(0,0)],[],[],eR (p.took (cX (dL p.peek))),.d (.bool (p.is (cX (dL p.peek))))⟩)|_=>none) ?_
  simp[wat]
  refine⟨⟨⟨by omega,by omega⟩,htk⟩,?_⟩
  refine oS.seq ?_
  have hna:=AG (p.took (cX (dL p.peek)))
  have gt:=gY (s:=cX (dL p.peek)) hg
  have gl:=eI gt
  have lt:(p.took (cX (dL p.peek))).l.length≤p.l.length:=by unfold PS.took;split;exact fG;exact Nat.le_refl _
  refine oS.ro hT hW (fun|27=>some (.gen ⟨[(0,0)],[],[],eR (aD (p.took (cX (dL p.peek)))).2,.d (.str (aD (p.took (cX (dL p.peek)))).1)⟩)|_=>none) ?_
  simp
  refine⟨hna,?_⟩
  obtain⟨k,hk⟩:∃k,dL p.peek=k:=⟨_,rfl⟩
  obtain⟨⟨t,q⟩,hn⟩:∃x,aD (p.took (cX (dL p.peek)))=x:=⟨_,rfl⟩
  simp only[hn]at gl
  have lq:q.l.length≤p.l.length:=by omega
  simp only[hn]
  rw[hk]at hlt hn hr⊢
  refine aO (ι:=Vx) (fun⟨n,r⟩=>aY [(0,.bx 0 0),(2,.bx 2 0),(4,.bx 4 0)]) (fun⟨n,r⟩=>aK [(0,.box false [.d (qS r.l),.d (aC r.e)]),(2,.box false [.d (aC 0),.d (.str []),.d (aC 0),.nl]),(4,.box false [.d (aC k),.d (.str t),.d (aC n),.nl])]) (fun⟨n,r⟩=>kL false p=(.mk k t n [],r.need [59])) ?_ fun⟨n,r⟩ hc27=>?_
  ·refine oS.sy ?_
   simp
   refine oS.block ?_
   refine aO (ι:=BC) (fun⟨b⟩=>aY [(0,.bx 0 0),(2,.bx 2 0),(4,.bx 4 0),(29,.d (aC k)),(30,.d (.bool b))]) (fun⟨b⟩=>aK [(0,.box false [.d (qS q.l),.d (aC q.e)]),(2,.box false [.d (aC 0),.d (.str []),.d (aC 0),.nl]),(4,.box false [.d (aC k),.d (.str t),.d (aC 0),.nl])]) (fun⟨b⟩=>b=true↔(k=5∨k=6)) ?_ fun⟨b⟩ hc10=>?_
   ·refine oS.sy ?_
    simp
    refine aB ?_
    simp
    refine⟨fun h8=>?_,fun h8=>?_⟩
    ·refine oS.skip ?_
     simp
     refine Pg.mk ⟨decide (k=5)⟩ (aA [0,2,4,29,30] [(0,0),(2,2),(4,4)] (by decide) (by decide) (by simp[hp]) (by simp) (by simp)) ?_
     simp[h8]
    ·refine aL ?_
     simp
     refine Pg.mk ⟨decide (k=6)⟩ (aA [0,2,4,29,30] [(0,0),(2,2),(4,4)] (by decide) (by decide) (by simp[hp]) (by simp) (by simp)) ?_
     simp only[decide_eq_true_eq];omega
   ·refine aB ?_
    simp
    refine⟨fun h10=>?_,fun h10=>?_⟩
    ·have q10:=hc10.1 h10
     refine oS.seq ?_
     have hbl:=(qT.block (q.l.length+1) (by omega)).ok q (Nat.lt_succ_self _) gl.2.1
     refine oS.ro hT hW (fun|34=>some (.gen ⟨[(0,0)],[],[],eR (blockP false (q.l.length+1) q).2,.d (blockP false (q.l.length+1) q).1.d⟩)|_=>none) ?_
     simp
     refine⟨by simpa using hbl,?_⟩
     refine oS.sy ?_
     simp
     refine oS.ret ?_
     simp
     have e:=LK hk hlt hn q10
     refine aU (x:=(kL false p).1.d) (by simp[e]) ?_
     simp
     exact aA [0] [(0,0)] (by decide) (by decide) (by simp[hp]) (by simp) (by simp[e])
    ·have q10:¬(k=5∨k=6):=fun z=>by simp[hc10.2 z]at h10
     refine oS.sy ?_
     simp
     refine aB ?_
     simp
     refine⟨fun h12=>?_,fun h12=>?_⟩
     ·refine oS.seq ?_
      have hne:=pF q [123]
      have gn:=cJ (s:=[123]) gl.2.1
      refine oS.ro hT hW (fun|41=>some (.gen ⟨[(0,0)],[],[],eR (q.need [123]),.tup []⟩)|_=>none) ?_
      simp
      refine⟨hne,?_⟩
      refine pO (fz:=false) (cs:=[.d (aC k),.d (.str t),.d (aC 0),.nl]) 4 3 1066 4 (by decide) ⟨by simp,by simp,by simp,?_⟩
      simp
      refine oS.seq ?_
      refine oS.block ?_
      refine cA (ι:=Sd) (fun⟨f,ks,r⟩=>aY [(0,.bx 0 0),(2,.bx 2 0),(4,.bx 4 0)]) (fun⟨f,ks,r⟩=>aK [(0,.box false [.d (qS r.l),.d (aC r.e)]),(2,.box false [.d (aC 0),.d (.str []),.d (aC 0),.nl]),(4,.box false [.d (aC k),.d (.str t),.d (aC 0),.ow 1066 0 ks.length]),(1066,.row false 4 (ks.map Nd.d))]) (fun⟨f,ks,r⟩=>(r.e=0→r.l.length<f)∧bH r.l∧r.l.length≤p.l.length∧ks.length+r.l.length≤p.l.length+(if r.e=0 then 0 else 1)∧iL ((q.need [123]).l.length+1) [] (q.need [123])=iL f ks r) (fun⟨f,ks,r⟩=>2*r.l.length+(if r.e=0 then 1 else 0)) ⟨(q.need [123]).l.length+1,[],q.need [123]⟩ (aA [0,2,4] [(0,0),(2,2),(4,4),(1066,1066)] (by decide) (by decide) (by simp[hp]) (by simp) (by simp)) (⟨fun _=>Nat.lt_succ_self _,gn.2,by have:=gn.1;omega,by have:=gn.1;simp only[List.length_nil];omega,rfl⟩) fun⟨f,ks,r⟩ hi14=>?_
      refine oS.seq ?_
      refine oS.seq ?_
      have hpk:=qL r
      refine oS.ro hT hW (fun|49=>some (.gen ⟨[(0,0)],[],[],eR r,.d (.str r.peek)⟩)|_=>none) ?_
      simp[zA]
      refine⟨fun _=>hpk,?_⟩
      refine aB ?_
      simp
      refine⟨fun g1 g2=>?_,fun g=>?_⟩
      ·refine oS.skip ?_
       simp
       refine oS.block ?_
       refine oS.seq ?_
       have ha:r.l.length≤p.l.length:=hi14.2.2.1
       have hks:ks.length+r.l.length≤p.l.length:=by have z:=hi14.2.2.2.1;simp only[g1,if_true]at z;omega
       have hle:=Fj (q:=r) hi14.2.1
       have hn15:=AG r
       have g15:=eI (p:=r) hi14.2.1
       have g16:=cJ (s:=[61]) g15.2.1
       refine oS.ro hT hW (fun|53=>some (.gen ⟨[(0,0)],[],[],eR (aD r).2,.d (.str (aD r).1)⟩)|_=>none) ?_
       simp
       refine⟨hn15,?_⟩
       refine oS.seq ?_
       have hn16:=pF (aD r).2 [61]
       refine oS.ro hT hW (fun|56=>some (.gen ⟨[(0,0)],[],[],eR ((aD r).2.need [61]),.tup []⟩)|_=>none) ?_
       simp
       refine⟨hn16,?_⟩
       refine oS.seq ?_
       have hn17:=Ff ((aD r).2.need [61]) g16.2
       refine oS.ro hT hW (fun|58=>some (.gen ⟨[(0,0)],[],[],eR (aZ ((aD r).2.need [61])).2,.d (aC (aZ ((aD r).2.need [61])).1)⟩)|_=>none) ?_
       simp
       refine⟨hn17,?_⟩
       refine oS.seq ?_
       have hn18:=pF (aZ ((aD r).2.need [61])).2 [59]
       refine oS.ro hT hW (fun|61=>some (.gen ⟨[(0,0)],[],[],eR ((aZ ((aD r).2.need [61])).2.need [59]),.tup []⟩)|_=>none) ?_
       simp
       refine⟨hn18,?_⟩
       refine aL ?_
       simp
       refine⟨⟨by omega,by omega⟩,?_⟩
       refine JK.mk ⟨f-1,ks++[.mk 7 (aD r).1 (aZ ((aD r).2.need [61])).1 []],(aZ ((aD r).2.need [61])).2.need [59]⟩ (aA [0,2,4] [(0,0),(2,2),(4,4),(66,1066)] (by decide) (by decide) (by simp[hp]) (by simp) (by simp)) ?_ ?_
       ·refine⟨fun e=>?_,hle.2.1,?_,?_,?_⟩
        ·show((aZ ((aD r).2.need [61])).2.need [59]).l.length<f-1
         have z:=hi14.1 g1
         have h:=hle.2.2 e
         omega
        ·show((aZ ((aD r).2.need [61])).2.need [59]).l.length≤p.l.length
         omega
        ·show(ks++[Nd.mk 7 (aD r).1 (aZ ((aD r).2.need [61])).1 []]).length+((aZ ((aD r).2.need [61])).2.need [59]).l.length≤p.l.length+(if((aZ ((aD r).2.need [61])).2.need [59]).e=0 then 0 else 1)
         rw[List.length_append,List.length_singleton]
         by_cases e:((aZ ((aD r).2.need [61])).2.need [59]).e=0
         ·rw[if_pos e]
          have h:=hle.2.2 e
          omega
         ·rw[if_neg e];omega
        ·rw[hi14.2.2.2.2];exact Og (hi14.1 g1) g1 g2
       ·show 2*((aZ ((aD r).2.need [61])).2.need [59]).l.length+(if((aZ ((aD r).2.need [61])).2.need [59]).e=0 then 1 else 0)<2*r.l.length+(if r.e=0 then 1 else 0)
        rw[if_pos g1]
        by_cases e:((aZ ((aD r).2.need [61])).2.need [59]).e=0
        ·rw[if_pos e]
         have h:=hle.2.2 e
         omega
        ·rw[if_neg e];omega
      ·refine oS.exit ?_
       simp
       refine oS.seq ?_
       have hn20:=pF r [125]
       refine oS.ro hT hW (fun|69=>some (.gen ⟨[(0,0)],[],[],eR (r.need [125]),.tup []⟩)|_=>none) ?_
       simp
       refine⟨hn20,?_⟩
       refine oS.sy ?_
       simp
       refine oS.ret ?_
       simp
       have e:kL false p=(.mk k t 0 ks,r.need [125]):=by rw[PO hk hlt hn h12,hi14.2.2.2.2,LL g]
       refine aU (x:=(kL false p).1.d) (by simp[e]) ?_
       simp
       exact aA [0] [(0,0)] (by decide) (by decide) (by simp[hp]) (by simp) (by simp[e])
     ·refine oS.sy ?_
      simp
      refine aB ?_
      simp
      refine⟨fun h22=>?_,fun h22=>?_⟩
      ·refine oS.seq ?_
       have hne:=pF q [61]
       have gn:=cJ (s:=[61]) gl.2.1
       refine oS.ro hT hW (fun|74=>some (.gen ⟨[(0,0)],[],[],eR (q.need [61]),.tup []⟩)|_=>none) ?_
       simp
       refine⟨hne,?_⟩
       have hnu:=Ff (q.need [61]) gn.2
       refine oS.ro hT hW (fun|76=>some (.gen ⟨[(0,0)],[],[],eR (aZ (q.need [61])).2,.d (aC (aZ (q.need [61])).1)⟩)|_=>none) ?_
       simp
       refine⟨hnu,?_⟩
       refine Pg.mk ⟨(aZ (q.need [61])).1,(aZ (q.need [61])).2⟩ (aA [0,2,4] [(0,0),(2,2),(4,4)] (by decide) (by decide) (by simp[hp]) (by simp) (by simp)) ?_
       exact PP hk hlt hn h22
      ·refine oS.sy ?_
       simp
       refine aB ?_
       simp
       refine⟨fun h25=>?_,fun h25=>?_⟩
       ·have hnu:=tI q 2 gl.2.1 (by decide)
        refine oS.ro hT hW (fun|81=>some (.gen ⟨[(0,0)],[],[],eR (aG 2 q).2,.d (aC (aG 2 q).1)⟩)|_=>none) ?_
        simp
        refine⟨hnu,?_⟩
        refine Pg.mk ⟨(aG 2 q).1,(aG 2 q).2⟩ (aA [0,2,4] [(0,0),(2,2),(4,4)] (by decide) (by decide) (by simp[hp]) (by simp) (by simp)) ?_
        exact Oe hk hlt hn h25
       ·refine oS.skip ?_
        simp
        refine Pg.mk ⟨0,q⟩ (aA [0,2,4] [(0,0),(2,2),(4,4)] (by decide) (by decide) (by simp[hp]) (by simp) (by simp)) ?_
        exact Of hk hlt hn q10 h12 h22 h25
  ·refine oS.seq ?_
   have hne:=pF r [59]
   refine oS.ro hT hW (fun|84=>some (.gen ⟨[(0,0)],[],[],eR (r.need [59]),.tup []⟩)|_=>none) ?_
   simp
   refine⟨hne,?_⟩
   refine oS.sy ?_
   simp
   refine oS.ret ?_
   simp
   refine aU (x:=(kL false p).1.d) (by simp[hc27]) ?_
   simp
   exact aA [0] [(0,0)] (by decide) (by decide) (by simp[hp]) (by simp) (by simp[hc27])
end
open Go.Proofs
section
attribute[local simp] oZ.cond Nd.d_eq nd_t nd_dr nd_td ndsD bJ eP eC iY AI AJ AK oO
theorem Oh{p:PS}(h:dL p.peek<0):kL true p=(.mk 0 [] 0 [],p.fail 2):=by unfold kL;simp only[];rw[if_pos h]
section
variable{p q:PS} {t:aR} {k:Int} (hk:dL p.peek=k) (h:¬k<0) (hn:aD p.skip=(t,q))
include hk h hn
theorem Jt(h5:k=5∨k=6):kL true p=(.mk k t 0 [(blockP true (q.l.length+1) q).1],(blockP true (q.l.length+1) q).2):=by
 subst hk
 unfold kL;simp only[];rw[if_neg h,hn,if_pos h5]
theorem Oi(h1:k=1):kL true p=(.mk k t 0 (iL ((q.need [123]).l.length+1) [] (q.need [123])).1,(iL ((q.need [123]).l.length+1) [] (q.need [123])).2.need [125]):=by
 subst hk
 unfold kL;simp only[];rw[if_neg h,hn,if_neg (by omega),if_pos h1]
theorem Oj(h1:k=0):kL true p=(.mk k t (aZ (q.need [61])).1 [],(aZ (q.need [61])).2.need [59]):=by
 subst hk
 unfold kL;simp only[];rw[if_neg h,hn,if_neg (by omega),if_neg (by omega),if_pos h1]
theorem LM(h1:k=2):kL true p=(.mk k t (aG 2 q).1 [],(aG 2 q).2.need [59]):=by
 subst hk
 unfold kL;simp only[];rw[if_neg h,hn,if_neg (by omega),if_neg (by omega),if_neg (by omega),if_pos h1]
theorem LN(h1:¬(k=5∨k=6))(h2:¬k=1)(h3:¬k=0)(h4:¬k=2):kL true p=(.mk k t 0 [],q.need [59]):=by
 subst hk
 unfold kL;simp only[];rw[if_neg h,hn,if_neg h1,if_neg h2,if_neg h3,if_neg h4]
end
theorem pX.item{T:List Tk}{q:PS}(f:pX T q):pX T ((aZ ((aD q).2.need [61])).2.need [59]):=f.name.need.number.need
theorem Fk{T:List Tk}:∀(g:Nat) (ks:List Nd) (p:PS),pX T p→pX T (iL g ks p).2
 |0,_,_,f=>f
 |g+1,ks,p,f=>by
  rw[iL]
  split
  ·exact f
  ·exact Fk g _ _ f.item
theorem RP{s:aR}{T:List Tk}(c:BZ s T){p:PS}(f:pX T p):pX T (kL true p).2:=by
 obtain⟨k,hk⟩:∃k,dL p.peek=k:=⟨_,rfl⟩
 obtain⟨⟨t,q⟩,hn⟩:∃x,aD p.skip=x:=⟨_,rfl⟩
 have fq:pX T q:=by have:=f.skip.name;rw[hn]at this;exact this
 by_cases h:k<0
 ·rw[Oh (by omega)];exact f.fail (.inl rfl)
 ·by_cases h1:k=5∨k=6
  ·rw[Jt hk h hn h1]
   exact((RR.blockT c (q.l.length+1)).fs q (Nat.lt_succ_self _) fq).1
  ·by_cases h2:k=1
   ·rw[Oi hk h hn h2]
    exact(Fk _ _ _ fq.need).need
   ·by_cases h3:k=0
    ·rw[Oj hk h hn h3]
     exact fq.need.number.need
    ·by_cases h4:k=2
     ·rw[LM hk h hn h4]
      exact fq.numeral.need
     ·rw[LN hk h hn h1 h2 h3 h4]
      exact fq.need
end
open Go.Proofs
section
attribute[local simp] oZ.cond Nd.d_eq nd_t nd_dr nd_td ndsD bJ
end
end Go.Eng
namespace Go.Eng
def Wt(x:PS→Nd×PS):Prop:=∀p:PS,bH p.l→weighN (x p).1+41*(x p).2.l.length≤41*p.l.length+40∧bH (x p).2.l
theorem DQ:Wt aV:=fun p h=>by
 have a:=eI h
 have t1:=sG h
 unfold aV
 split
 ·have b:=eI (eG a.2.1)
  have t2:=sG (p:=(aD p).2.skip) (eG a.2.1)
  have s:=fG (p:=(aD p).2)
  refine⟨?_,b.2.1⟩
  simp only[weighN,weighL,List.length_append,List.length_cons]
  omega
 ·refine⟨?_,a.2.1⟩
  simp only[weighN,weighL]
  omega
theorem PQ{ex:PS→Nd×PS}(hx:Wt ex):Wt (fM ex):=fun p h=>by
 unfold fM
 split
 ·have a:=hx p.skip (eG h)
  have s:=fG (p:=p)
  have n:=mR (p:=(ex p.skip).2) (s:=[41])
  exact⟨by simp only;omega,(cJ a.2).2⟩
 ·split
  ·have s:=fG (p:=p)
   exact⟨by simp only[weighN,weighL,List.length_nil];omega,eG h⟩
  ·split
   ·split
    ·have a:=kS (k:=32) h
     exact⟨by simp only[weighN,weighL,List.length_nil];omega,a.2.1⟩
    ·split
     ·have a:=gX h
      have t:(aM p).1.length≤17:=by
       by_cases q:p.peek.take 1=[36]
       ·rw[(oA q).2]
        have:=qM h
        simp only[List.length_drop];omega
       ·rw[rB q];simp
      exact⟨by simp only[weighN,weighL];omega,a.2.1⟩
     ·exact DQ p h
   ·exact DQ p h
theorem Fl{lv:Int}{x:PS→Nd×PS}(hx:Wt x)(B:Nat):∀(f:Nat) (n:Nd) (p:PS),bH p.l→weighN n+41*p.l.length≤B→weighN (chainF lv x f n p).1+41*(chainF lv x f n p).2.l.length≤B∧bH (chainF lv x f n p).2.l
 |0,_,_,h,hn=>⟨hn,h⟩
 |f+1,n,p,h,hn=>by
  have o:=yT (lv:=lv) h
  unfold chainF
  split
  ·exact⟨hn,h⟩
  ·split
   ·exact⟨by simp only;omega,o.2⟩
   ·rename_i q
    have ol:=CA (lv:=lv) (q:=p) (by omega)
    have a:=hx (opP lv p).2 o.2
    refine Fl hx B f _ _ a.2 ?_
    simp only[weighN,weighL,List.length_nil]
    omega
theorem Fm{lv:Int}{x:PS→Nd×PS}(hx:Wt x):Wt (fK lv x):=fun p h=>Fl hx _ _ _ _ (hx p h).2 (hx p h).1
theorem Ol{ex:PS→Nd×PS}(hx:Wt ex):Wt (dF ex):=Fm (Fm (PQ hx))
theorem Om{ex:PS→Nd×PS}(hx:Wt ex):Wt (exprB ex):=fun p h=>by
 have a:=Ol hx p h
 have o:=yT (lv:=1) a.2
 by_cases q:0≤(opP 1 (dF ex p).2).1
 ·have ol:=CA q
  have b:=Ol hx (opP 1 (dF ex p).2).2 o.2
  rw[Bu q]
  refine⟨?_,b.2⟩
  simp only[weighN,weighL,List.length_nil]
  omega
 ·rw[Bv (by omega)]
  exact⟨by simp only;omega,o.2⟩
theorem HI:∀f,Wt (fS false f)
 |0=>fun p h=>⟨by
  have:weighN (default:Nd)≤40:=by decide
  show weighN default+41*p.l.length≤_
  omega,h⟩
 |f+1=>fun p h=>by
  rw[fS,if_neg (by simp)]
  exact Om (HI f) p h
end Go.Eng
namespace Go.Eng
def Ws(n:Nat)(x:PS→Nd×PS):Prop:=∀p:PS,p.l.length<n→bH p.l→weighN (x p).1+240*(x p).2.l.length≤240*p.l.length+90∧bH (x p).2.l∧((x p).2.e=0→weighN (x p).1+240*(x p).2.l.length≤240*p.l.length)
def Wb(n:Nat)(x:PS→Nd×PS):Prop:=∀p:PS,p.l.length<n→bH p.l→weighN (x p).1+240*(x p).2.l.length≤240*p.l.length+91∧bH (x p).2.l
theorem wG(a b:List Nd):weighL (a++b)=weighL a+weighL b:=by
 induction a with
 |nil=>simp[weighL]
 |cons x a ih=>simp only[List.cons_append,weighL,ih];omega
theorem Fn{m:Nat}{st:PS→Nd×PS}(hs:Ws m st)(B:Nat):∀(f:Nat) (ks:List Nd) (p:PS),p.l.length<m→bH p.l→weighL ks+240*p.l.length≤B+90→(p.e=0→weighL ks+240*p.l.length≤B)→
 weighL (stmtsF st f ks p).1+240*(stmtsF st f ks p).2.l.length≤B+90∧bH (stmtsF st f ks p).2.l
 |0,_,_,_,h,h1,_=>⟨h1,h⟩
 |f+1,ks,p,hm,h,h1,h2=>by
  unfold stmtsF
  split
  ·exact⟨h1,h⟩
  ·rename_i q
   have e0:p.e=0:=Classical.byContradiction fun z=>q (.inl z)
   have a:=hs p hm h
   have b:=h2 e0
   refine Fn hs B f _ _ (by have:=a.1;omega) a.2.1 ?_ fun z=>?_
   ·rw[wG];simp only[weighL];have:=a.1;omega
   ·rw[wG];simp only[weighL];have:=a.2.2 z;omega
theorem Fo{m:Nat}{st:PS→Nd×PS}(hs:Ws m st):Wb m (fZ st):=fun p hm h=>by
 have n:=mR (p:=p) (s:=[123])
 have g:=(cJ (s:=[123]) h).2
 unfold fZ
 simp only[]
 have a:=Fn hs (240*(p.need [123]).l.length) ((p.need [123]).l.length+1) [] (p.need [123]) (by omega) g (by simp only[weighL];omega) (fun _=>by simp only[weighL];omega)
 have m:=mR (p:=(stmtsF st ((p.need [123]).l.length+1) [] (p.need [123])).2) (s:=[125])
 refine⟨?_,(cJ a.2).2⟩
 simp only[weighN,List.length_nil]
 have:=a.1
 omega
theorem PR{ex:PS→Nd×PS}(hx:Wt ex){k:Int}:∀p:PS,bH p.l→weighN (mX ex k p).1+240*(mX ex k p).2.l.length≤240*p.l.length+90∧bH (mX ex k p).2.l:=fun p h=>by
 have a:=vE (k:=k) h
 have t:(cmdA k p).1.length≤17:=by
  unfold cmdA
  split
  ·by_cases q:p.peek.take 1=[36]
   ·rw[(oA q).2]
    have:=qM h
    simp only[List.length_drop];omega
   ·rw[rB q];simp
  ·split
   ·simp
   ·exact sG h
 by_cases h1:k=15∨k=22∨k=24
 ·rw[DN h1]
  have b:=hx (cmdA k p).2 a.2
  refine⟨?_,b.2⟩
  simp only[weighN,weighL];omega
 ·by_cases h2:k=16∨k=23
  ·rw[CB h1 h2]
   have b:=gX a.2
   have t2:(aM (cmdA k p).2).1.length≤17:=by
    by_cases q:(cmdA k p).2.peek.take 1=[36]
    ·rw[(oA q).2]
     have:=qM a.2
     simp only[List.length_drop];omega
    ·rw[rB q];simp
   refine⟨?_,b.2.1⟩
   simp only[weighN,weighL];omega
  ·by_cases h3:k=19∨k=21∨k=25
   ·rw[zB h1 h2 h3]
    have b:=kS (k:=k) a.2
    refine⟨?_,b.2.1⟩
    simp only[weighN,weighL];omega
   ·rw[vF h1 h2 h3]
    refine⟨?_,a.2⟩
    simp only[weighN,weighL];omega
end Go.Eng
namespace Go.Eng
theorem Ju{p:PS}(h:bH p.l)(he3:(aV p).2.e=0):(aV p).2.l.length<p.l.length:=by
 unfold aV at he3⊢
 have nm:(aD p).2.e=0→(aD p).2.l.length<p.l.length:=fun z=>by
  cases q:kQ p.peek with
  |false=>rw[tH q]at z;exact absurd z (pM (by decide))
  |true=>
   have ip:p.is p.peek=true:=fW.2 ⟨fun e=>(by rw[e]at q;cases q),rfl⟩
   have lp:=iM ip
   rw[wE q,cE ip]
   simp only;omega
 have ng:=eI h
 split at he3
 ·rename_i z
  rw[if_pos z]
  have z2:(aD p).2.skip.e=0:=qZ _ he3
  have z3:(aD p).2.e=0:=z2
  have ll:=(eI (p:=(aD p).2.skip) (eG ng.2.1)).1
  have l3:=fG (p:=(aD p).2)
  have:=nm z3
  simp only;omega
 ·rename_i z
  rw[if_neg z]
  exact nm he3
theorem On{m:Nat}{ex bl:PS→Nd×PS}(hs:vM ex)(hx:Wt ex)(hb:Wb m bl):Ws (m+1) (iR ex bl):=fun p hm h=>by
 obtain⟨k,hk⟩:∃k,cV p.peek=k:=⟨_,rfl⟩
 by_cases h1:k=11∨k=12
 ·have ip:=mY (p:=p) (by omega)
  have lp:=iM ip
  rw[←cE ip]at lp
  have e0:=hx (p.took p.peek) (gY h)
  have b0:=hb (ex (p.took p.peek)).2 (by have:=e0.1;omega) e0.2
  by_cases h2:k=11∧(bl (ex (p.took p.peek)).2).2.is eD=true
  ·rw[CC hk h2.1 h2.2]
   have l2:=iM h2.2
   rw[←cE h2.2]at l2
   have c0:=hb ((bl (ex (p.took p.peek)).2).2.took eD) (by have:=e0.1;have:=b0.1;omega) (gY b0.2)
   refine⟨?_,c0.2,fun _=>?_⟩<;>(simp only[weighN,weighL,List.length_nil];omega)
  ·rw[Ke hk h1 (fun q=>by
    cases z:(bl (ex (p.took p.peek)).2).2.is eD with
    |false=>rfl
    |true=>exact absurd ⟨q,z⟩ h2)]
   refine⟨?_,b0.2,fun _=>?_⟩<;>(simp only[weighN,weighL,List.length_nil];omega)
 ·by_cases h3:12<k
  ·have ip:=mY (p:=p) (by omega)
   have lp:=iM ip
   rw[←cE ip]at lp
   have c0:=PR hx (k:=k) (p.took p.peek) (gY h)
   rw[Gd hk h3]
   have n:=mR (p:=(mX ex k (p.took p.peek)).2) (s:=[59])
   refine⟨?_,(cJ c0.2).2,fun _=>?_⟩<;>(simp only;omega)
  ·by_cases h4:p.peek.take 1=[36]
   ·obtain⟨i1,i2⟩:=oA h4
    have ip:p.is p.peek=true:=fW.2 ⟨fun e=>(by rw[e]at h4;cases h4),rfl⟩
    have lp:=iM ip
    rw[←cE ip]at lp
    have t:=qM h
    rw[AM hk h1 h3 h4,i2]
    have n1:=mR (p:=p.took p.peek) (s:=[61])
    have e0:=hx ((p.took p.peek).need [61]) (cJ (gY h)).2
    have n2:=mR (p:=(ex ((p.took p.peek).need [61])).2) (s:=[59])
    refine⟨?_,(cJ e0.2).2,fun _=>?_⟩<;>(simp only[weighN,weighL,List.length_drop];omega)
   ·rw[AN hk h1 h3 h4]
    have a:=DQ p h
    have le:=(pS (p.l.length+1) p (Nat.lt_succ_self _) h).1
    have n1:=mR (p:=(aV p).2) (s:=[61])
    have e0:=hx ((aV p).2.need [61]) (cJ a.2).2
    have n2:=mR (p:=(ex ((aV p).2.need [61])).2) (s:=[59])
    refine⟨?_,(cJ e0.2).2,fun z=>?_⟩
    ·simp only[weighN,weighL,List.length_nil];omega
    ·have z:((ex ((aV p).2.need [61])).2.need [59]).e=0:=z
     have pe:=Ju h (jB (hs _ (jB z).2)).2
     simp only[weighN,weighL,List.length_nil];omega
theorem HJ:∀f,Ws f (kY false f)
 |0=>fun p hm _=>absurd hm (Nat.not_lt_zero _)
 |f+1=>On (sJ false) (fun p h=>HI _ p h) (Fo (HJ f))
end Go.Eng
namespace Go.Eng
theorem LO{p:PS}(z:(aD p).2.e=0):(aD p).2.l.length<p.l.length:=by
 cases q:kQ p.peek with
 |false=>rw[tH q]at z;exact absurd z (pM (by decide))
 |true=>
  have ip:p.is p.peek=true:=fW.2 ⟨fun e=>(by rw[e]at q;cases q),rfl⟩
  have lp:=iM ip
  rw[wE q,cE ip]
  simp only;omega
theorem Fp(B:Nat):∀(f:Nat) (ks:List Nd) (p:PS),bH p.l→weighL ks+240*p.l.length≤B+90→(p.e=0→weighL ks+240*p.l.length≤B)→
 weighL (iL f ks p).1+240*(iL f ks p).2.l.length≤B+90∧bH (iL f ks p).2.l
 |0,_,_,h,h1,_=>⟨h1,h⟩
 |f+1,ks,p,h,h1,h2=>by
  unfold iL
  split
  ·exact⟨h1,h⟩
  ·rename_i q
   have e0:p.e=0:=Classical.byContradiction fun z=>q (.inl z)
   have b:=h2 e0
   have a:=eI h
   have t:=sG h
   have g1:=cJ (s:=[61]) a.2.1
   have v:=Ay g1.2
   have g2:=cJ (s:=[59]) v.2.1
   simp only[]
   refine Fp B f _ _ g2.2 ?_ fun z=>?_
   ·rw[wG];simp only[weighN,weighL];omega
   ·have z1:=GV _ (jB z).2
    have ne:=LO (jB z1).2
    rw[wG];simp only[weighN,weighL];omega
theorem Jv{p:PS}(h:bH p.l):weighN (kL false p).1≤240*p.l.length+300:=by
 have s:=fG (p:=p)
 have a:=eI (eG h)
 have t:=sG (eG h)
 unfold kL
 simp only[]
 split
 ·simp only[weighN,weighL,List.length_nil];omega
 ·split
  ·have b:=Fo (HJ ((aD p.skip).2.l.length+1)) (aD p.skip).2 (Nat.lt_succ_self _) a.2.1
   have b1:weighN (blockP false ((aD p.skip).2.l.length+1) (aD p.skip).2).1≤240*(aD p.skip).2.l.length+91:=by
    have:=b.1
    show weighN (fZ (kY false ((aD p.skip).2.l.length+1)) (aD p.skip).2).1≤_
    omega
   simp only[weighN,weighL];omega
  ·split
   ·have g1:=cJ (s:=[123]) a.2.1
    have i:=Fp (240*((aD p.skip).2.need [123]).l.length) (((aD p.skip).2.need [123]).l.length+1) [] ((aD p.skip).2.need [123]) g1.2 (by simp only[weighL];omega) (fun _=>by simp only[weighL];omega)
    have i1:=i.1
    simp only[weighN];omega
   ·split
    ·simp only[weighN,weighL];omega
    ·split
     ·simp only[weighN,weighL];omega
     ·simp only[weighN,weighL];omega
theorem vG:∀(f:Nat) (s:aR) (i:Int),(iQ f s i).1.length≤f
 |0,_,_=>Nat.le_refl _
 |f+1,s,i=>by
  unfold iQ
  split
  ·simp
  ·split
   ·have:=vG f (by assumption) (i+1);omega
   ·split
    ·simp
    ·simp only[List.length_cons]
     exact Nat.succ_le_succ (vG f _ _)
theorem HK{s:aR}(hl:s.length≤1024):weighN (kL false ⟨(fL s).1,0⟩).1≤1000000000:=by
 have h1:(fL s).1.length≤s.length:=vG _ _ _
 have h2:=Jv (p:=⟨(fL s).1,0⟩) (sY _ _ _)
 have h3:(PS.mk (fL s).1 0).l.length=(fL s).1.length:=rfl
 omega
end Go.Eng
namespace Go.Eng
open Go.Proofs
attribute[local simp] mW kX iB bC mT fY hZ nM cN bG oZ.plain oZ.cond oZ.fail dP lW sT mM fP kN lG lH memless mF eJ iW tP Ee hO fI strip oL dV lK bU
 qC fQ iH iC iG oT lk cD dR bP bV bX nK eT oP iF iZ bS eK bK dG iA eV eW dW eX gF gG gH eY dX eZ dY fB gJ gK gN gO fC gR oK nH mkAgg sO AT jI bD hU aX.live TK.isNone TK.agg TK.isBool TK.isStr TK.isStruct Op.operands Call.operands
 bE cO cH cW eE nI lB cU dH iE eO kP aP frozen lI
 jM jN lC gD jP jQ jR jV lD gE jX jY jZ kC rJ lR nO nP nR nS nU kD jK gC eU Nm.d Df.d Ed.d xD xE nE xF jL rU rV dA dB
 xH xI rK xJ xK rL rM rN nV xL xM rO
 bT bA dJ lJ dK bR cB bM eN uF TK.isInt jO jW nQ gM hF dI eL eM fV eS fO lX sA nD wW rI
 nC kR mC mU cL eA dS kW jE jF iV sD gS cZ gT gU cD jT jU nN iI gV kE gP gQ fE
 cK gZ TK.isPtr eF bZ kF oU pR jS kA nT gI gL fD
attribute[local simp] dZ kG gW
section
attribute[local simp] oZ.cond Nd.d_eq nd_t nd_dr nd_td ndsD bJ eP eC iY
end
open Go.Proofs
section
attribute[local simp] oZ.cond Nd.d_eq nd_t nd_dr nd_td ndsD bJ eP eC pY Cf Cg Ch HA Int.add_assoc
def nG(L:List Int)(i:Nat):List (Nat×aX):=[(0,.box false [.d (.sl (L.map aC)),.d (aC i)])]
def Ml(L:List Int):Prop:=∀n∈L, -9223372036854775808≤n∧n≤9223372036854775807
attribute[local simp] nG
theorem bW(l:List Int)(i m:Int)(h:0<m):0≤jH l i m∧jH l i m<m:=by
 unfold jH
 split
 ·omega
 ·exact sI _ _ h
theorem kO(L:List Int)(i:Nat)(m:Int)(hL:Ml L)(hi:i≤3000000)(hm:m≠0):qR Tryz.prog 54 [.bx 0 0,.d (aC m)] (nG L i) (nG L (i+1)) (.d (aC (jH L i m))):=by
 unfold nG
 refine qR.one Tryz.func54 (by kernel_rfl) (c:=_) rfl Tryz.ntmps54 (by simp) Tryz.results54 fun w0 X hp=>?_
 refine oS.sy ?_
 simp
 refine oS.sy ?_
 simp
 refine⟨by omega,?_⟩
 refine oS.seq ?_
 have ha:=Rv L i m hL hm
 have e1:(i:Int)+1-1=i:=by omega
 refine aF hT hW bI (lk [[],[0],[0,1],[0,1,2],[],[4],[4,5],[4,5,6],[4,5,6,7],[],[0,1,2,3,4,5,6,7,8,9],[0,1,2,3,4,5,6,7,8,9,10]]) (lk [[],[],[],[],[],[],[],[],[],[],[],[]]) (lk [[],[],[],[],[],[],[],[],[],[],[22],[]]) (by kernel_rfl) (fun|22=>some<| .plain ⟨.d (aC (jH L i m)),true⟩|_=>none) (by intro d;first|exact⟨rfl,fun _ h=>h⟩|(split<;>exact⟨rfl,fun _ h=>h⟩)) ?_
 simp[e1]
 refine⟨⟨by omega,ha⟩,?_⟩
 refine oS.ret ?_
 simp
 exact aA [4] [(0,0)] (by decide) (by decide) (by simp[hp]) (by simp) (by simp)
theorem PT{L:List Int}{i:Nat}:(BT.map DV.str)[(jH L i 8).toNat]?.getD default=.str (iT L i):=by
 have h:=bW L i 8 (by decide)
 have hk:(jH L i 8).toNat<BT.length:=by show _<8;omega
 unfold iT
 rw[List.getElem?_map,List.getElem?_eq_getElem hk]
 simp[List.getD_eq_getElem?_getD,hk]
theorem QP{L:List Int}{i:Nat}:(GT.map DV.str)[(jH L i 4).toNat]?.getD default=.str (oN L i):=by
 have h:=bW L i 4 (by decide)
 have hk:(jH L i 4).toNat<GT.length:=by show _<4;omega
 unfold oN
 rw[List.getElem?_map,List.getElem?_eq_getElem hk]
 simp[List.getD_eq_getElem?_getD,hk]
theorem QQ{L:List Int}{i:Nat}:(Aw.map aC)[(jH L i 6).toNat]?.getD default=aC (Aw.getD (jH L i 6).toNat 0):=by
 have h:=bW L i 6 (by decide)
 have hk:(jH L i 6).toNat<Aw.length:=by show _<6;omega
 rw[List.getElem?_map,List.getElem?_eq_getElem hk]
 simp[List.getD_eq_getElem?_getD,hk]
theorem oB(L:List Int)(i:Nat)(hL:Ml L)(hi:i≤3000000):qR Tryz.prog 55 [.bx 0 0] (nG L i) (nG L (i+1)) (.d (.str (iT L i))):=by
 unfold nG
 refine qR.one Tryz.func55 (by kernel_rfl) (c:=_) rfl Tryz.ntmps55 (by simp) Tryz.results55 fun w0 X hp=>?_
 refine oS.sy ?_
 simp
 refine oS.seq ?_
 have ha:=kO L i 8 hL hi (by decide)
 have hr:=bW L i 8 (by decide)
 have hc:=PT (L:=L) (i:=i)
 simp[BT]at hc
 refine oS.ro hT hW (fun|5=>some (.gen ⟨[(0,0)],[],[],nG L (i+1),.d (aC (jH L i 8))⟩)|_=>none) ?_
 simp[hc]
 refine⟨⟨⟨⟨by decide,by simpa using ha⟩,by omega⟩,by omega⟩,?_⟩
 refine oS.ret ?_
 simp
 exact aA [2] [(0,0)] (by decide) (by decide) (by simp[hp]) (by simp) (by simp)
theorem AP(L:List Int)(i:Nat)(hL:Ml L)(hi:i≤3000000):qR Tryz.prog 107 [.bx 0 0] (nG L i) (nG L (i+1)) (.d (.str (oN L i))):=by
 unfold nG
 refine qR.one Tryz.func107 (by kernel_rfl) (c:=_) rfl Tryz.ntmps107 (by simp) Tryz.results107 fun w0 X hp=>?_
 refine oS.sy ?_
 simp
 refine oS.seq ?_
 have ha:=kO L i 4 hL hi (by decide)
 have hr:=bW L i 4 (by decide)
 have hc:=QP (L:=L) (i:=i)
 simp[GT]at hc
 refine oS.ro hT hW (fun|5=>some (.gen ⟨[(0,0)],[],[],nG L (i+1),.d (aC (jH L i 4))⟩)|_=>none) ?_
 simp[hc]
 refine⟨⟨⟨⟨by decide,by simpa using ha⟩,by omega⟩,by omega⟩,?_⟩
 refine oS.ret ?_
 simp
 exact aA [2] [(0,0)] (by decide) (by decide) (by simp[hp]) (by simp) (by simp)
theorem rD(L:List Int)(i:Nat):(iT L i).length≤16:=by
 have h:=bW L i 8 (by decide)
 unfold iT
 have:∀k:Nat,(BT.getD k []).length≤16:=fun k=>by
  rw[List.getD_eq_getElem?_getD]
  cases e:BT[k]? with
  |none=>simp
  |some w=>
   have:=List.mem_of_getElem? e
   exact(by decide:∀w∈BT,w.length≤16) w this
 exact this _
theorem Oo(L:List Int)(i:Nat)(hL:Ml L)(hi:i≤2000000):qR Tryz.prog 108 [.bx 0 0] (nG L i) (nG L (dQ L i).2) (.d (dQ L i).1.d):=by
 unfold nG
 refine qR.cell hT Tryz.func108 (by kernel_rfl) (c:=_) rfl Tryz.ntmps108 (by simp) Tryz.results108 fun w0 X hp=>?_
 refine oS.sy ?_
 simp
 refine oS.seq ?_
 refine oS.seq ?_
 have ha:=kO L i 3 hL (by omega) (by decide)
 refine oS.ro hT hW (fun|5=>some (.gen ⟨[(0,0)],[],[],nG L (i+1),.d (aC (jH L i 3))⟩)|_=>none) ?_
 simp
 refine⟨by simpa using ha,?_⟩
 refine aB ?_
 simp
 refine⟨fun h1=>?_,fun h1=>?_⟩
 ·refine oS.seq ?_
  have hc:=oB L (i+1) hL (by omega)
  refine oS.ro hT hW (fun|8=>some (.gen ⟨[(0,0)],[],[],nG L (i+1+1),.d (.str (iT L (i+1)))⟩)|_=>none) ?_
  simp
  refine⟨by simpa using hc,?_⟩
  refine oS.ret ?_
  simp
  have e:dQ L i=(.mk 34 (iT L (i+1)) 0 [],i+2):=by unfold dQ;rw[if_pos h1]
  refine aU (x:=(dQ L i).1.d) (by simp[e]) ?_
  simp
  exact aA [0] [(0,0)] (by decide) (by decide) (by simp[hp]) (by simp) (by simp[e])
 ·refine oS.skip ?_
  simp
  refine oS.seq ?_
  have hc:=oB L (i+1) hL (by omega)
  refine oS.ro hT hW (fun|11=>some (.gen ⟨[(0,0)],[],[],nG L (i+1+1),.d (.str (iT L (i+1)))⟩)|_=>none) ?_
  simp
  refine⟨by simpa using hc,?_⟩
  refine oS.seq ?_
  have hc2:=oB L (i+2) hL (by omega)
  have l1:=rD L (i+1)
  have l2:=rD L (i+2)
  refine oS.ro hT hW (fun|15=>some (.gen ⟨[(0,0)],[],[],nG L (i+2+1),.d (.str (iT L (i+2)))⟩)|_=>none) ?_
  simp
  refine⟨⟨⟨by omega,by simpa using hc2⟩,by omega⟩,?_⟩
  refine oS.ret ?_
  simp
  have e:dQ L i=(.mk 35 (iT L (i+1)++46::iT L (i+2)) 0 [],i+3):=by unfold dQ;rw[if_neg (by omega)]
  refine aU (x:=(dQ L i).1.d) (by simp[e]) ?_
  simp
  exact aA [0] [(0,0)] (by decide) (by decide) (by simp[hp]) (by simp) (by simp[e])
end
end Go.Eng
