/-
  Texts of the proofs of this seat, part 6. No condition.
-/
import Derived.Test.YtmndmahpoljhmaaGreatDoorME
import Derived.OpenShut
import Derived.Shelf.Strconv.Atoi
import Derived.Test.YtmndmahpoljhmaaGreatDoorProg
set_option linter.unusedVariables false
set_option linter.unusedSimpArgs false
namespace Go.Eng
open Go.Proofs
attribute[local simp] nP lH gR bA oC gK gS pE cY bD pL.plain pL.cond pL.fail dU mN tQ nO gC kQ kW lR memless nD eV jD uG EJ gQ fJ strip pD eD mC bW
 qY fZ iR gT iQ pU lk cH dX bQ cA bY oL fE pY iU jF bS eW bN dM gM fL fM eI fN gX gY gZ fO eJ fP eL fQ hU hZ iC iD fR iG oY oJ mkAgg tP BO jN bB gN aW.live TK.isNone TK.agg TK.isBool TK.isStr TK.isStruct Op.operands Call.operands
 bF cV cO dF eP oK lN cN dN iO fA kY aQ frozen lS
 jT jU lU gV jW jX jY kD lV gW kF kG kH kJ sE mM oO oP oS oT oV kK jR gU fK Nm.d Df.d Ed.d yV yW mK yX jS sL sM dK dL
 yY yZ sF zA zB sG sH sI oW zC zD sJ
 bZ aZ dP mB dQ bT cI bP eZ uJ TK.isInt jV kE oQ iB gP dO eX eY gE fD gB mO sZ nU yU sD
 nS kX mX nR cS eF dY lJ jG jH iV tF iH dJ iI iJ cH kA kC oN iW iK kL iE iF fT
 cP gO TK.isPtr eR cE kM qB qO jZ kI oU hO iA fS
attribute[local simp] eM kN iL
section
attribute[local simp] pL.cond Nd.d_eq nd_t nd_dr nd_td ndsD
theorem Mp(x:Nd)(hx:Ok Tryz.prog 121 [x.d] ⟨.d (.bool (aG x)),true⟩):Ok Tryz.prog 166 [x.d] ⟨.d (.bool (!aG x)),true⟩:=by
 refine Ok.ret Tryz.func166 (by kernel_rfl) (c:=_) rfl Tryz.ntmps166 (by simp) Tryz.results166 (by intro _ h;cases h) fun w0 X hp=>?_
 refine aA ?_
 simp
 refine cB hT hW (fun|4=>some<| .plain ⟨.d (.bool (aG x)),true⟩|_=>none) ?_
 simp
 refine⟨by simpa using hx,?_⟩
 refine pS.ret ?_
 simp
theorem JO(x:Nd)(hw:weighN x≤1000000000)(ih:∀y∈x.kids,weighN y≤1000000000→Ok Tryz.prog 121 [y.d] ⟨.d (.bool (aG y)),true⟩):Ok Tryz.prog 121 [x.d] ⟨.d (.bool (aG x)),true⟩:=by
 refine Ok.ret Tryz.func121 (by kernel_rfl) (c:=_) rfl Tryz.ntmps121 (by simp) Tryz.results121 (by intro _ h;cases h) fun w0 X hp=>?_
 refine aA ?_
 simp
 refine pS.seq ?_
 have hs:=Mh x
 have hwo:=Mo x
 have hl:x.text.length≤9223372036854775807:=by have:=weighN_eq x;omega
 have ha:=HV x.kids (fun y=> !aG y) 166 [] (fun y hy=>Mp y (ih y hy (by have:=weigh_mem hy;have:=weighN_eq x;omega)))
 refine pS.ro hT hW (fun|13=>some<| .plain ⟨.d (.bool (fW x)),true⟩|17=>some<| .plain ⟨.d (.bool (jP x)),true⟩|22=>some<| .plain ⟨.d (.bool (x.kids.any fun y=> !aG y)),true⟩|_=>none) ?_
 simp
 refine⟨⟨⟨fun _ _=>by simpa using hs,fun h0 h1 _=>by simpa using hwo ⟨h0,h1⟩ hl⟩,fun _ _ _ _=>ha⟩,?_⟩
 refine pS.ret ?_
 simp
 rw[rightN_eq,List.all_eq_not_any_not]
theorem OH(x:Nd):weighN x≤1000000000→Ok Tryz.prog 121 [x.d] ⟨.d (.bool (aG x)),true⟩:=
 mS (p:=fun x=>weighN x≤1000000000→Ok Tryz.prog 121 [x.d] ⟨.d (.bool (aG x)),true⟩) (fun _ _ _ _ ih hw=>JO _ hw (fun y hy=>ih y hy)) x
theorem DW(x:Nd)(hw:weighN x≤1000000000):Ok Tryz.prog 59 [x.d] ⟨.d (.bool (validB x)),true⟩:=by
 refine Ok.ret Tryz.func59 (by kernel_rfl) (c:=_) rfl Tryz.ntmps59 (by simp) Tryz.results59 (by intro _ h;cases h) fun w0 X hp=>?_
 refine aA ?_
 simp
 refine pS.seq ?_
 have h1:=Om x hw
 have h2:=OH x hw
 have h3:=KV x
 have h4:=@uZ x
 refine pS.ro hT hW (fun|13=>some<| .plain ⟨.d (aD (depthN x)),true⟩|18=>some<| .plain ⟨.d (.bool (aG x)),true⟩|22=>some<| .plain ⟨.d (.str (textT x)),true⟩|_=>none) ?_
 simp
 refine⟨⟨⟨fun _ _=>by simpa using h1,fun _ _ _=>by simpa using h2⟩,fun a b _ d=>by simpa using h3 (h4 d a b) hw⟩,?_⟩
 refine pS.ret ?_
 simp[validB]
 rw[show decide ((depthN x:Int)≤24)=decide (depthN x≤24) from by rw[decide_eq_decide];omega,show decide (((textT x).length:Int)≤1024)=decide ((textT x).length≤1024) from by rw[decide_eq_decide];omega]
theorem Mq{x:Nd}(h:validB x=true):Oi x:=by
 simp only[validB,Bool.and_eq_true,decide_eq_true_eq]at h
 exact uZ h.1.2 h.1.1.1.1 h.1.1.1.2
theorem DX(x:Nd)(hw:weighN x≤1000000000):Ok Tryz.prog 18 [x.d] ⟨.d (.str (printS x)),true⟩:=by
 refine Ok.ret Tryz.func18 (by kernel_rfl) (c:=_) rfl Tryz.ntmps18 (by simp) Tryz.results18 (by intro _ h;cases h) fun w0 X hp=>?_
 refine aA ?_
 simp
 refine pS.seq ?_
 refine pS.seq ?_
 have v1:=DW x hw
 refine pS.ro hT hW (fun|4=>some<| .plain ⟨.d (.bool (validB x)),true⟩|_=>none) ?_
 simp
 refine⟨by simpa using v1,?_⟩
 refine aC ?_
 simp
 refine⟨fun h1=>?_,fun h1=>?_⟩
 ·refine aA ?_
  simp
  refine pS.ret ?_
  simp[printS,h1]
 ·refine pS.skip ?_
  simp
  refine pS.seq ?_
  have hv:=Mq h1
  have h4:=KV x hv hw
  refine pS.ro hT hW (fun|7=>some<| .plain ⟨.d (.str (textT x)),true⟩|_=>none) ?_
  simp
  refine⟨by simpa using h4,?_⟩
  refine pS.ret ?_
  simp[printS,h1]
theorem QA(x:Nd)(hw:weighN x≤1000000000):Ok Tryz.prog 61 [x.d] ⟨.tup [.d (aD (headK x)),.d (.str (headT x))],true⟩:=by
 refine DC Tryz.func61 (by kernel_rfl) (c:=_) rfl Tryz.ntmps61 (by simp) Tryz.results61 rfl fun w0 X hp=>?_
 refine aA ?_
 simp
 refine pS.seq ?_
 refine pS.seq ?_
 have v1:=DW x hw
 refine pS.ro hT hW (fun|5=>some<| .plain ⟨.d (.bool (validB x)),true⟩|_=>none) ?_
 simp
 refine⟨by simpa using v1,?_⟩
 refine aC ?_
 simp
 refine⟨fun h1=>?_,fun h1=>?_⟩
 ·refine aA ?_
  simp
  refine pS.ret ?_
  simp[headK,headT,h1]
 ·refine pS.skip ?_
  simp
  refine pS.seq ?_
  refine aI hT hW bU (lk [[],[0],[],[2],[0,1],[0,1,2,3,4]]) (lk [[],[],[],[],[],[]]) (lk [[],[],[],[],[],[]]) (by kernel_rfl) (fun _=>none) (fun _=>⟨rfl,fun _ h=>h⟩) ?_
  simp
  refine pS.ret ?_
  simp[headK,headT,h1]
theorem OI(l m:List Nd)(hg:∀x∈l,∀y∈m,Ok Tryz.prog 21 [x.d,y.d] ⟨.d (.bool (sameN x y)),true⟩):Ok Tryz.prog 67 [ndsD l,ndsD m,.fn 21 []] ⟨.d (.bool (sameL l m)),true⟩:=by
 refine Ok.ret Tryz.func67 (by kernel_rfl) (c:=_) rfl Tryz.ntmps67 (by simp) Tryz.results67 (by intro _ h;cases h) fun w0 X hp=>?_
 refine pS.len (t:=0) rfl fun hlen=>?_
 simp at hlen
 refine aA ?_
 simp
 refine pS.seq ?_
 refine aA ?_
 simp
 refine aC ?_
 simp
 refine⟨fun h1=>?_,fun h1=>?_⟩
 ·refine aA ?_
  simp
  refine pS.ret ?_
  simp
  rw[Bool.eq_false_iff]
  intro q
  rw[sameL_iff]at q
  exact h1 (by rw[q])
 ·refine pS.skip ?_
  simp
  refine pS.seq ?_
  refine aA ?_
  simp
  refine pS.block ?_
  refine bX (ι:=Nat) (fun i=>aY [(0,.d (ndsD l)),(1,.d (ndsD m)),(2,.d (.fn 21 [])),(15,.d (ndsD l)),(16,.d (aD l.length)),(17,.d (aD i))]) (fun i=>aK []) (fun i=>i≤l.length∧l.take i=m.take i) (fun i=>l.length-i) 0 (aB [0,1,2,15,16,17] [] (by decide) (by decide) (by simp[hp]) (by simp) (by simp)) (⟨Nat.zero_le _,rfl⟩) fun i hi4=>?_
  refine aA ?_
  simp
  refine pS.seq ?_
  refine aC ?_
  simp
  refine⟨fun h4=>?_,fun h4=>?_⟩
  ·refine pS.skip ?_
   simp
   refine pS.seq ?_
   refine pS.block ?_
   refine pS.seq ?_
   have hi:i<l.length:=by omega
   refine aL ?_
   simp[hi]
   refine pS.seq ?_
   have hm:i<m.length:=by omega
   refine aL ?_
   simp[hm]
   refine pS.seq ?_
   have hs:=hg _ (List.getElem_mem hi) _ (List.getElem_mem hm)
   refine pS.ro hT hW (fun|29=>some<| .plain ⟨.d (.bool (sameN l[i] m[i])),true⟩|_=>none) ?_
   simp
   refine⟨by simpa using hs,?_⟩
   refine aC ?_
   simp
   refine⟨fun h7=>?_,fun h7=>?_⟩
   ·refine aA ?_
    simp
    refine pS.ret ?_
    simp
    rw[Bool.eq_false_iff]
    intro q
    rw[sameL_iff]at q
    subst q
    have e:sameN l[i] l[i]=true:=(sameN_iff _ _).2 rfl
    rw[e]at h7;cases h7
   ·refine pS.skip ?_
    simp
    refine aL ?_
    simp
    refine⟨by omega,?_⟩
    refine KN.mk (i+1) (aB [0,1,2,15,16,17] [] (by decide) (by decide) (by simp[hp]) (by simp) (by simp)) ?_ ?_
    ·refine⟨by omega,?_⟩
     have e:=(sameN_iff _ _).1 h7
     have hm:i<m.length:=by omega
     rw[List.take_add_one,List.take_add_one,hi4.2,List.getElem?_eq_getElem hi,List.getElem?_eq_getElem hm,e]
    ·omega
  ·refine pS.exit ?_
   simp
   refine aA ?_
   simp
   refine pS.ret ?_
   simp
   rw[sameL_iff]
   have q:=hi4.2
   rw[List.take_of_length_le (by omega),List.take_of_length_le (by omega)]at q
   exact q
theorem OJ(x y:Nd):sameN x y=(decide (x.kind=y.kind)&&decide (x.text=y.text)&&decide (x.n=y.n)&&sameL x.kids y.kids):=by cases x;cases y;rw[sameN];rfl
theorem Mr(x y:Nd)(ih:∀a∈x.kids,∀b:Nd,Ok Tryz.prog 21 [a.d,b.d] ⟨.d (.bool (sameN a b)),true⟩):Ok Tryz.prog 21 [x.d,y.d] ⟨.d (.bool (sameN x y)),true⟩:=by
 refine Ok.ret Tryz.func21 (by kernel_rfl) (c:=_) rfl Tryz.ntmps21 (by simp) Tryz.results21 (by intro _ h;cases h) fun w0 X hp=>?_
 refine aA ?_
 simp
 refine pS.seq ?_
 have he:=OI x.kids y.kids (fun a ha b _=>ih a ha b)
 refine pS.ro hT hW (fun|29=>some<| .plain ⟨.d (.bool (sameL x.kids y.kids)),true⟩|_=>none) ?_
 simp
 refine⟨fun _ _ _=>he,?_⟩
 refine pS.ret ?_
 simp
 rw[OJ]
 simp only[Bool.beq_eq_decide_eq]
theorem CS(x:Nd):∀y:Nd,Ok Tryz.prog 21 [x.d,y.d] ⟨.d (.bool (sameN x y)),true⟩:=
 mS (p:=fun x=>∀y:Nd,Ok Tryz.prog 21 [x.d,y.d] ⟨.d (.bool (sameN x y)),true⟩) (fun _ _ _ _ ih y=>Mr _ y (fun a ha b=>ih a ha b)) x
end
open Go.Proofs
section
attribute[local simp] pL.cond Nd.d_eq nd_t nd_dr nd_td ndsD bG
theorem zK(s t:aN)(hl:s.length≤9223372036854775807)(ht:t.length≤9223372036854775807):Ok Tryz.prog 205 [.str s,.str t] ⟨.d (.bool (decide (s.take t.length=t))),true⟩:=by
 refine Ok.ret Tryz.func205 (by kernel_rfl) (c:=_) rfl Tryz.ntmps205 (by simp) Tryz.results205 (by intro _ h;cases h) fun w0 X hp=>?_
 refine aA ?_
 simp
 refine aA ?_
 simp
 refine pS.ret ?_
 simp
 rw[Bool.beq_eq_decide_eq,Bool.eq_iff_iff]
 simp only[Bool.and_eq_true,decide_eq_true_eq]
 refine⟨fun h=>h.2,fun h=>⟨?_,h⟩⟩
 have e:=congrArg List.length h
 rw[List.length_take]at e
 omega
theorem sP(s t:aN)(hl:s.length≤9223372036854775807)(ht:t.length≤9223372036854775807):Ok Tryz.prog 159 [.str s,.str t] ⟨.d (.bool (decide (s.take t.length=t))),true⟩:=by
 refine Ok.ret Tryz.func159 (by kernel_rfl) (c:=_) rfl Tryz.ntmps159 (by simp) Tryz.results159 (by intro _ h;cases h) fun w0 X hp=>?_
 refine aA ?_
 simp
 refine pS.seq ?_
 have h:=zK s t hl ht
 refine pS.ro hT hW (fun|7=>some<| .plain ⟨.d (.bool (decide (s.take t.length=t))),true⟩|_=>none) ?_
 simp
 refine⟨h,?_⟩
 refine pS.ret ?_
 simp
theorem CN(s:aN)(c:UInt8):Ok Tryz.prog 160 [.str s,.int .u8 (c.toNat:Int)] ⟨.d (aD (wJ c s)),true⟩:=by
 refine Ok.ret Tryz.func160 (by kernel_rfl) (c:=_) rfl Tryz.ntmps160 (by simp) Tryz.results160 (by intro _ h;cases h) fun w0 X hp=>?_
 refine aA ?_
 simp
 refine pS.seq ?_
 have h:=AK s c
 refine pS.ro hT hW (fun|7=>some<| .plain ⟨.d (aD (wJ c s)),true⟩|_=>none) ?_
 simp
 refine⟨h,?_⟩
 refine pS.ret ?_
 simp
theorem lY(c:UInt8)(r:aN):bV (c::r)=if aV c then dR (c::r)else if c=36 then(if 0<dR r then dR r+1 else 0)
 else if aO c then(if iX aO (c::r)≤3 then iX aO (c::r)else 0)
 else if(c::r).take 2=[60,61]∨(c::r).take 2=[61,61]then 2 else if c∈mL then 1 else 0:=rfl
theorem KX{c:UInt8}:((c.toNat:Int)=36)↔c=36:=by
 rw[←UInt8.toNat_inj]
 have:(36:UInt8).toNat=36:=rfl
 omega
theorem rW(c:UInt8)(r:aN)(a b:UInt8):(c::r).take 2=[a,b]↔c=a∧r.take 1=[b]:=by simp
theorem DY(c:UInt8):∀l:aN,0≤wJ c l↔c∈l
 |[]=>by simp[wJ,lI]
 |d::l=>by
  have ih:=DY c l
  unfold wJ at ih⊢
  unfold lI
  by_cases h:d=c
  ·simp[h]
  ·rw[if_neg h]
   have h':¬c=d:=fun e=>h e.symm
   cases q:lI c l with
   |none=>rw[q]at ih;simp only[Option.map_none,List.mem_cons,h',false_or];exact ih
   |some q2=>rw[q]at ih;simp only[Option.map_some,List.mem_cons,h',false_or,List.length_cons];exact⟨fun _=>ih.1 (by simp),fun _=>by omega⟩
theorem QB(c:UInt8)(r:aN)(hl:(c::r).length≤9223372036854775807):Ok Tryz.prog 110 [.str (c::r)] ⟨.d (aD (bV (c::r))),true⟩:=by
 refine Ok.ret Tryz.func110 (by kernel_rfl) (c:=_) rfl Tryz.ntmps110 (by simp) Tryz.results110 (by intro _ h;cases h) fun w0 X hp=>?_
 have hr:r.length+1≤9223372036854775807:=by simpa using hl
 refine aA ?_
 simp
 refine pS.seq ?_
 refine pS.block ?_
 refine pS.seq ?_
 have l1:=yM c
 refine pS.ro hT hW (fun|8=>some<| .plain ⟨.d (.bool (aV c)),true⟩|_=>none) ?_
 simp
 refine⟨l1,?_⟩
 refine aC ?_
 simp
 refine⟨fun h1=>?_,fun h1=>?_⟩
 ·refine pS.seq ?_
  have w1:=GB (c::r) hl
  refine pS.ro hT hW (fun|10=>some<| .plain ⟨.d (aD (dR (c::r))),true⟩|_=>none) ?_
  simp
  refine⟨w1,?_⟩
  refine pS.ret ?_
  simp
  rw[lY,if_pos h1]
 ·refine aA ?_
  simp
  refine aC ?_
  simp
  refine⟨fun h3=>?_,fun h3=>?_⟩
  ·refine pS.seq ?_
   refine pS.seq ?_
   have w4:=GB r (by omega)
   refine pS.ro hT hW (fun|17=>some<| .plain ⟨.d (aD (dR r)),true⟩|_=>none) ?_
   simp
   refine⟨⟨by omega,w4⟩,?_⟩
   refine aA ?_
   simp
   refine aC ?_
   simp
   refine⟨fun h5=>?_,fun h5=>?_⟩
   ·refine pS.seq ?_
    have b6:=Aw r
    refine aL ?_
    simp
    refine⟨by omega,?_⟩
    refine pS.ret ?_
    simp
    rw[lY,if_neg (by simp[h1]),if_pos (KX.1 h3),if_pos h5]
    rfl
   ·refine pS.skip ?_
    simp
    refine aA ?_
    simp
    refine pS.ret ?_
    simp
    rw[lY,if_neg (by simp[h1]),if_pos (KX.1 h3),if_neg (by omega)]
    rfl
  ·refine pS.seq ?_
   have l8:=xI c
   refine pS.ro hT hW (fun|25=>some<| .plain ⟨.d (.bool (aO c)),true⟩|_=>none) ?_
   simp
   refine⟨l8,?_⟩
   refine aC ?_
   simp
   refine⟨fun h8=>?_,fun h8=>?_⟩
   ·refine pS.seq ?_
    refine pS.seq ?_
    have w9:=OC (c::r) aO 157 (fun c=>xI c) hl
    refine pS.ro hT hW (fun|27=>some<| .plain ⟨.d (aD (iX aO (c::r))),true⟩|_=>none) ?_
    simp
    refine⟨w9,?_⟩
    refine aA ?_
    simp
    refine aC ?_
    simp
    refine⟨fun h10=>?_,fun h10=>?_⟩
    ·refine aA ?_
     simp
     refine pS.ret ?_
     simp
     rw[lY,if_neg (by simp[h1]),if_neg (fun e=>h3 (KX.2 e)),if_pos h8,if_pos (by omega)]
    ·refine pS.skip ?_
     simp
     refine aA ?_
     simp
     refine pS.ret ?_
     simp
     rw[lY,if_neg (by simp[h1]),if_neg (fun e=>h3 (KX.2 e)),if_pos h8,if_neg (by omega)]
     rfl
   ·refine pS.seq ?_
    have w13:=sP (c::r) [60,61] hl (by decide)
    have v13:=sP (c::r) [61,61] hl (by decide)
    refine pS.ro hT hW (fun|33=>some<| .plain ⟨.d (.bool (decide ((c::r).take 2=[60,61]))),true⟩|36=>some<| .plain ⟨.d (.bool (decide ((c::r).take 2=[61,61]))),true⟩|_=>none) ?_
    simp
    refine⟨⟨⟨by simpa using w13,fun _=>by simpa using v13⟩,fun h=>Classical.not_and_iff_not_or_not.1 fun q=>h q.1 q.2⟩,?_⟩
    refine aC ?_
    simp
    refine⟨fun g=>?_,fun g1 g2=>?_⟩
    ·refine aA ?_
     simp
     refine pS.ret ?_
     simp
     rw[lY,if_neg (by simp[h1]),if_neg (fun e=>h3 (KX.2 e)),if_neg (by simp[h8]),if_pos (by rw[rW,rW];exact g)]
     rfl
    ·refine pS.seq ?_
     have w15:=CN [40,41,123,125,61,43,45,42,60,59,46] c
     refine pS.ro hT hW (fun|41=>some<| .plain ⟨.d (aD (wJ c [40,41,123,125,61,43,45,42,60,59,46])),true⟩|_=>none) ?_
     simp
     refine⟨w15,?_⟩
     refine aC ?_
     simp
     refine⟨fun h15=>?_,fun h15=>?_⟩
     ·refine aA ?_
      simp
      refine pS.ret ?_
      simp
      rw[lY,if_neg (by simp[h1]),if_neg (fun e=>h3 (KX.2 e)),if_neg (by simp[h8]),if_neg (by rw[rW,rW];rintro(⟨e1,e2⟩|⟨e1,e2⟩);exact g1 e1 e2;exact g2 e1 e2),if_pos ((DY c mL).1 h15)]
      rfl
     ·refine pS.skip ?_
      simp
      refine aA ?_
      simp
      refine pS.ret ?_
      simp
      rw[lY,if_neg (by simp[h1]),if_neg (fun e=>h3 (KX.2 e)),if_neg (by simp[h8]),if_neg (by rw[rW,rW];rintro(⟨e1,e2⟩|⟨e1,e2⟩);exact g1 e1 e2;exact g2 e1 e2),if_neg (fun e=>by have:=(DY c mL).2 e;unfold mL at this;omega)]
      rfl
end
open Go.Proofs
section
attribute[local simp] pL.cond Nd.d_eq nd_t nd_dr nd_td ndsD
theorem Ms(x:Nd):Ok Tryz.prog 169 [x.d] ⟨.d (aD (lvlN x.kind)),true⟩:=by
 refine Ok.ret Tryz.func169 (by kernel_rfl) (c:=_) rfl Tryz.ntmps169 (by simp) Tryz.results169 (by intro _ h;cases h) fun w0 X hp=>?_
 refine aA ?_
 simp
 refine pS.seq ?_
 refine aA ?_
 simp
 refine pS.block ?_
 refine aT (ι:=BC) (fun⟨b⟩=>aY [(1,.bx 1 0),(4,.d (aD (x.kind))),(5,.d (.bool b))]) (fun⟨b⟩=>aK [(1,.box false [.d (aD x.kind),.d (.str x.text),.d (aD x.n),.d (ndsD x.kids)])]) (fun⟨b⟩=>b=true↔(x.kind=26∨x.kind=27∨x.kind=28)) ?_ fun⟨b⟩ hc5=>?_
 ·refine aA ?_
  simp
  refine aC ?_
  simp
  refine⟨fun h2=>?_,fun h2=>?_⟩
  ·refine pS.skip ?_
   simp
   refine Qo.mk ⟨decide (x.kind=26)⟩ (aB [1,4,5] [(1,1)] (by decide) (by decide) (by simp[hp]) (by simp) (by simp)) ?_
   simp[h2]
  ·refine aA ?_
   simp
   refine aC ?_
   simp
   refine⟨fun h3=>?_,fun h3=>?_⟩
   ·refine pS.skip ?_
    simp
    refine Qo.mk ⟨decide (x.kind=27)⟩ (aB [1,4,5] [(1,1)] (by decide) (by decide) (by simp[hp]) (by simp) (by simp)) ?_
    simp[h3]
   ·refine aL ?_
    simp
    refine Qo.mk ⟨decide (x.kind=28)⟩ (aB [1,4,5] [(1,1)] (by decide) (by decide) (by simp[hp]) (by simp) (by simp)) ?_
    simp only[decide_eq_true_eq];omega
 ·refine aC ?_
  simp
  refine⟨fun h5=>?_,fun h5=>?_⟩
  ·have q5:=hc5.1 h5
   refine aA ?_
   simp
   refine pS.ret ?_
   have e:lvlN x.kind=1:=by rcases q5 with h|h|h<;>rw[h]<;>rfl
   simp[e]
  ·have q5:¬(x.kind=26∨x.kind=27∨x.kind=28):=fun q=>by simp[hc5.2 q]at h5
   refine aT (ι:=BC) (fun⟨b⟩=>aY [(1,.bx 1 0),(4,.d (aD (x.kind))),(9,.d (.bool b))]) (fun⟨b⟩=>aK [(1,.box false [.d (aD x.kind),.d (.str x.text),.d (aD x.n),.d (ndsD x.kids)])]) (fun⟨b⟩=>b=true↔(x.kind=29∨x.kind=30)) ?_ fun⟨b⟩ hc8=>?_
   ·refine aA ?_
    simp
    refine aC ?_
    simp
    refine⟨fun h6=>?_,fun h6=>?_⟩
    ·refine pS.skip ?_
     simp
     refine Qo.mk ⟨decide (x.kind=29)⟩ (aB [1,4,9] [(1,1)] (by decide) (by decide) (by simp[hp]) (by simp) (by simp)) ?_
     simp[h6]
    ·refine aL ?_
     simp
     refine Qo.mk ⟨decide (x.kind=30)⟩ (aB [1,4,9] [(1,1)] (by decide) (by decide) (by simp[hp]) (by simp) (by simp)) ?_
     simp only[decide_eq_true_eq];omega
   ·refine aC ?_
    simp
    refine⟨fun h8=>?_,fun h8=>?_⟩
    ·have q8:=hc8.1 h8
     refine aA ?_
     simp
     refine pS.ret ?_
     have e:lvlN x.kind=2:=by rcases q8 with h|h<;>rw[h]<;>rfl
     simp[e]
    ·have q8:¬(x.kind=29∨x.kind=30):=fun q=>by simp[hc8.2 q]at h8
     refine aA ?_
     simp
     refine aC ?_
     simp
     refine⟨fun h9=>?_,fun h9=>?_⟩
     ·refine aA ?_
      simp
      refine pS.ret ?_
      have e:lvlN x.kind=3:=by rw[h9];rfl
      simp[e]
     ·refine pS.skip ?_
      simp
      refine aA ?_
      simp
      refine pS.ret ?_
      have e:lvlN x.kind=4:=by unfold lvlN;rw[if_neg (by omega)]
      simp[e]
theorem DZ(x:Nd)(least:Int)(hx:Ok Tryz.prog 68 [x.d] ⟨.d (.str (exprT x)),true⟩)(hl:(exprT x).length≤10000000000):Ok Tryz.prog 124 [x.d,aD least] ⟨.d (.str (paren (decide (lvlN x.kind<least)) (exprT x))),true⟩:=by
 refine Ok.ret Tryz.func124 (by kernel_rfl) (c:=_) rfl Tryz.ntmps124 (by simp) Tryz.results124 (by intro _ h;cases h) fun w0 X hp=>?_
 refine aA ?_
 simp
 refine pS.seq ?_
 refine pS.seq ?_
 have hv:=Ms x
 refine pS.ro hT hW (fun|6=>some<| .plain ⟨.d (aD (lvlN x.kind)),true⟩|_=>none) ?_
 simp
 refine⟨by simpa using hv,?_⟩
 refine aC ?_
 simp
 refine⟨fun h1=>?_,fun h1=>?_⟩
 ·refine cB hT hW (fun|10=>some<| .plain ⟨.d (.str (exprT x)),true⟩|_=>none) ?_
  simp
  refine⟨by simpa using hx,?_⟩
  refine pS.ret ?_
  simp[paren]
  intro h
  omega
 ·refine pS.skip ?_
  simp
  refine cB hT hW (fun|12=>some<| .plain ⟨.d (.str (exprT x)),true⟩|_=>none) ?_
  simp
  refine⟨⟨⟨by simpa using hx,by omega⟩,by omega⟩,?_⟩
  refine pS.ret ?_
  simp[paren]
  intro h
  omega
theorem KY{x:Int}(h0:0≤x)(h:x<256):IntKind.u8.wrap x=x:=by
 unfold IntKind.wrap
 simp[IntKind.bits,IntKind.signed]
 omega
theorem vA(m:Nat):fC (m:Int)=oX m:=by unfold fC;rw[if_neg (by omega)];rfl
theorem Id{m:Nat}(h:0<m):fC (-(m:Int))=45::oX m:=by unfold fC;rw[if_pos (by omega),Int.natAbs_neg];rfl
theorem Fw{n:Nat}(h:n<1000)(h1:10≤n):oX n=oX (n / 10)++oX (n%10):=by
 have h2:n%10<10:=Nat.mod_lt _ (by decide)
 unfold oX
 rw[if_neg (by omega),if_pos h2]
 by_cases q:n<100
 ·rw[if_pos q,if_pos (by omega)];rfl
 ·rw[if_neg q,if_neg (by omega),if_pos (by omega),Nat.div_div_eq_div_mul];rfl
theorem KZ{n:Nat}(h:n<10):oX n=[UInt8.ofNat (48+n)]:=by unfold oX;rw[if_pos h]
theorem zL(n:Int)(h1: -999≤n)(h2:n≤999)(ih:∀m:Int,0≤m→m≤999→(n<0∨m<n)→Ok Tryz.prog 52 [aD m] ⟨.d (.str (fC m)),true⟩):Ok Tryz.prog 52 [aD n] ⟨.d (.str (fC n)),true⟩:=by
 refine Ok.ret Tryz.func52 (by kernel_rfl) (c:=_) rfl Tryz.ntmps52 (by simp) Tryz.results52 (by intro _ h;cases h) fun w0 X hp=>?_
 refine aA ?_
 simp
 refine pS.seq ?_
 refine aA ?_
 simp
 refine aC ?_
 simp
 refine⟨fun h1=>?_,fun h1=>?_⟩
 ·refine pS.seq ?_
  obtain⟨m,hm⟩:∃m:Nat,n= -(m:Int):=⟨n.natAbs,by omega⟩
  obtain⟨a,ha⟩:∃a,a=m / 10:=⟨_,rfl⟩
  obtain⟨b,hb⟩:∃b,b=m%10:=⟨_,rfl⟩
  have e1:n.tdiv 10= -(a:Int):=by subst hm ha;rw[Int.neg_tdiv];rfl
  have e2:n.tmod 10= -(b:Int):=by subst hm hb;rw[Int.neg_tmod];rfl
  have c1:=ih (a:Int) (by omega) (by omega) (by omega)
  have c2:=ih (b:Int) (by omega) (by omega) (by omega)
  have l1:=lX (a:Int)
  have l2:=lX (b:Int)
  have z1:0- -(a:Int)=(a:Int):=by omega
  have z2:0- -(b:Int)=(b:Int):=by omega
  refine pS.ro hT hW (fun|8=>some<| .plain ⟨.d (.str (fC (a:Int))),true⟩|13=>some<| .plain ⟨.d (.str (fC (b:Int))),true⟩|_=>none) ?_
  simp[e1,e2]
  refine⟨by(repeat' with_reducible apply And.intro)<;>first|omega|exact c1|exact c2|(simp only[List.length_cons];omega),?_⟩
  refine pS.ret ?_
  simp
  subst hm ha hb
  rw[Id (by omega),vA,vA,Fw (n:=m) (by omega) (by omega)]
 ·refine pS.skip ?_
  simp
  refine pS.seq ?_
  refine aA ?_
  simp
  refine aC ?_
  simp
  refine⟨fun h3=>?_,fun h3=>?_⟩
  ·refine pS.seq ?_
   obtain⟨m,hm⟩:∃m:Nat,n= -(m:Int):=⟨n.natAbs,by omega⟩
   have c1:=ih (m:Int) (by omega) (by omega) (by omega)
   have l1:=lX (m:Int)
   have z1:0-n=(m:Int):=by omega
   refine pS.ro hT hW (fun|19=>some<| .plain ⟨.d (.str (fC (m:Int))),true⟩|_=>none) ?_
   simp[z1]
   refine⟨by(repeat' with_reducible apply And.intro)<;>first|omega|exact c1,?_⟩
   refine pS.ret ?_
   simp
   subst hm
   rw[Id (by omega),vA]
  ·refine pS.skip ?_
   simp
   refine pS.seq ?_
   refine aA ?_
   simp
   refine aC ?_
   simp
   refine⟨fun h5=>?_,fun h5=>?_⟩
   ·refine pS.seq ?_
    obtain⟨m,hm⟩:∃m:Nat,n=(m:Int):=⟨n.natAbs,by omega⟩
    have w1:IntKind.u8.wrap (48+n)=48+n:=KY (by omega) (by omega)
    refine aL ?_
    simp[w1]
    refine⟨by(repeat' with_reducible apply And.intro)<;>first|omega|decide,?_⟩
    refine pS.ret ?_
    simp
    subst hm
    rw[vA,KZ (by omega)]
    rfl
   ·refine pS.skip ?_
    simp
    refine pS.seq ?_
    obtain⟨m,hm⟩:∃m:Nat,n=(m:Int):=⟨n.natAbs,by omega⟩
    obtain⟨a,ha⟩:∃a,a=m / 10:=⟨_,rfl⟩
    obtain⟨b,hb⟩:∃b,b=m%10:=⟨_,rfl⟩
    have e1:n.tdiv 10=(a:Int):=by subst hm ha;rfl
    have e2:n.tmod 10=(b:Int):=by subst hm hb;rfl
    have c1:=ih (a:Int) (by omega) (by omega) (by omega)
    have l1:=lX (a:Int)
    have w1:IntKind.u8.wrap (48+(b:Int))=48+(b:Int):=KY (by omega) (by omega)
    refine aI hT hW bU (lk [[],[0],[0,1],[],[3],[3,4],[3,4,5],[3,4,5,6],[3,4,5,6,7],[0,1,2,3,4,5,6,7,8],[0,1,2,3,4,5,6,7,8,9]]) (lk [[35],[35],[35],[30],[30],[30],[30],[30],[30],[],[]]) (lk [[],[],[30],[],[],[],[],[35],[],[],[]]) (by kernel_rfl) (fun|30=>some<| .plain ⟨.d (.str (fC (a:Int))),true⟩|_=>none) (by intro d;first|exact⟨rfl,fun _ h=>h⟩|(split<;>exact⟨rfl,fun _ h=>h⟩)) ?_
    simp[e1,e2,w1]
    refine⟨by(repeat' with_reducible apply And.intro)<;>first|omega|exact c1|decide,?_⟩
    refine pS.ret ?_
    simp
    subst hm ha hb
    rw[vA,vA,Fw (n:=m) (by omega) (by omega),KZ (n:=m%10) (by omega)]
    rfl
theorem Ie(n:Int)(h1: -999≤n)(h2:n≤999):Ok Tryz.prog 52 [aD n] ⟨.d (.str (fC n)),true⟩:=by
 have pos:∀k:Nat,k≤999→Ok Tryz.prog 52 [aD (k:Int)] ⟨.d (.str (fC (k:Int))),true⟩:=fun k=>by
  induction k using Nat.strongRecOn with
  |ind k ih=>
   intro hk
   refine zL _ (by omega) (by omega) fun m h0 _ hm=>?_
   obtain⟨j,rfl⟩:=Int.eq_ofNat_of_zero_le h0
   exact ih j (by omega) (by omega)
 refine zL n h1 h2 fun m h0 hm _=>?_
 obtain⟨j,rfl⟩:=Int.eq_ofNat_of_zero_le h0
 exact pos j (by omega)
theorem Fx{x a b:Nd}(h:exprT x=paren (decide (lvlN a.kind<(if bM x.kind=1 then 2 else bM x.kind))) (exprT a)++32::(mD x.kind++32::paren (decide (lvlN b.kind<bM x.kind+1)) (exprT b))){l m:Int}{s:aN}
 (hl:(if bM x.kind=1 then 2 else bM x.kind)=l)(hm:bM x.kind+1=m)(hs:mD x.kind=s):exprT x=paren (decide (lvlN a.kind<l)) (exprT a)++32::(s++32::paren (decide (lvlN b.kind<m)) (exprT b)):=by
 rw[h,hl,hm,hs]
theorem JP(x:Nd)(hr:aG x=true)(he:aH x.kind=true)(hw:weighN x≤1000000000)(ih:∀y∈x.kids,aG y=true→aH y.kind=true→weighN y≤1000000000→Ok Tryz.prog 68 [y.d] ⟨.d (.str (exprT y)),true⟩):Ok Tryz.prog 68 [x.d] ⟨.d (.str (exprT x)),true⟩:=by
 refine Ok.ret Tryz.func68 (by kernel_rfl) (c:=_) rfl Tryz.ntmps68 (by simp) Tryz.results68 (by intro _ h;cases h) fun w0 X hp=>?_
 obtain⟨f0,f32,f33,f36,f34,f26⟩:=DS hr he
 have hwx:=weighN_eq x
 refine aA ?_
 simp
 refine pS.seq ?_
 refine aA ?_
 simp
 refine pS.block ?_
 refine aA ?_
 simp
 refine aC ?_
 simp
 refine⟨fun h2=>?_,fun h2=>?_⟩
 ·refine pS.seq ?_
  obtain⟨q1,q2,q3⟩:=f32 h2
  have hi:=Ie x.n (by omega) q3
  refine pS.ro hT hW (fun|11=>some<| .plain ⟨.d (.str (fC x.n)),true⟩|_=>none) ?_
  simp
  refine⟨hi,?_⟩
  refine pS.ret ?_
  simp[q1]
 ·refine aA ?_
  simp
  refine aC ?_
  simp
  refine⟨fun h4=>?_,fun h4=>?_⟩
  ·refine aA ?_
   simp
   refine⟨by omega,?_⟩
   refine pS.ret ?_
   simp[f33 h4]
  ·refine aT (ι:=BC) (fun⟨b⟩=>aY [(1,.bx 1 0),(6,.d (aD (x.kind))),(17,.d (.bool b))]) (fun⟨b⟩=>aK [(1,.box false [.d (aD x.kind),.d (.str x.text),.d (aD x.n),.d (ndsD x.kids)])]) (fun⟨b⟩=>b=true↔(x.kind=34∨x.kind=35)) ?_ fun⟨b⟩ hc8=>?_
   ·refine aA ?_
    simp
    refine aC ?_
    simp
    refine⟨fun h6=>?_,fun h6=>?_⟩
    ·refine pS.skip ?_
     simp
     refine Qo.mk ⟨decide (x.kind=34)⟩ (aB [1,6,17] [(1,1)] (by decide) (by decide) (by simp[hp]) (by simp) (by simp)) ?_
     simp[h6]
    ·refine aL ?_
     simp
     refine Qo.mk ⟨decide (x.kind=35)⟩ (aB [1,6,17] [(1,1)] (by decide) (by decide) (by simp[hp]) (by simp) (by simp)) ?_
     simp only[decide_eq_true_eq];omega
   ·refine aC ?_
    simp
    refine⟨fun h8=>?_,fun h8=>?_⟩
    ·have q8:=hc8.1 h8
     refine aA ?_
     simp
     refine pS.ret ?_
     simp[f34 q8]
    ·have q8:¬(x.kind=34∨x.kind=35):=fun q=>by simp[hc8.2 q]at h8
     refine aA ?_
     simp
     refine aC ?_
     simp
     refine⟨fun h9=>?_,fun h9=>?_⟩
     ·refine aA ?_
      simp
      refine pS.ret ?_
      simp[f36 h9,jJ]
     ·refine pS.skip ?_
      simp
      refine pS.seq ?_
      have hk31:x.kind≤31:=by omega
      obtain⟨a,b',hks,ra,ea,rb,eb,hTx⟩:=f26 hk31
      rw[hks]at hwx ih
      simp only[weighL]at hwx
      have la:=jB a ra ea
      have lb:=jB b' rb eb
      have pa:=fun c=>qH c (exprT a)
      have pb:=fun c=>qH c (exprT b')
      have ka:=fun l=>DZ a l (ih a (by simp) ra ea (by omega)) (by omega)
      have kb:=fun l=>DZ b' l (ih b' (by simp) rb eb (by omega)) (by omega)
      refine aL ?_
      simp[hks]
      refine aA ?_
      simp[hks]
      refine pS.seq ?_
      refine aA ?_
      simp
      refine pS.block ?_
      refine aA ?_
      simp
      refine aC ?_
      simp
      refine⟨fun h14=>?_,fun h14=>?_⟩
      ·refine pS.seq ?_
       have pa15:=pa (decide (lvlN a.kind<2))
       have pb15:=pb (decide (lvlN b'.kind<2))
       have ka15:=ka 2
       have kb15:=kb 2
       have e15:=Fx hTx (l:=2) (m:=2) (s:=[60]) (by rw[h14];rfl) (by rw[h14];rfl) (by rw[h14];rfl)
       refine aI hT hW bU (lk [[],[0],[0,1],[],[0,1,3],[0,1,2,3,4],[0,1,2,3,4,5]]) (lk [[],[],[40],[37],[],[],[]]) (lk [[],[37],[],[],[40],[],[]]) (by kernel_rfl) (fun|37=>some<| .plain ⟨.d (.str (paren (decide (lvlN a.kind<2)) (exprT a))),true⟩|40=>some<| .plain ⟨.d (.str (paren (decide (lvlN b'.kind<2)) (exprT b'))),true⟩|_=>none) (by intro d;first|exact⟨rfl,fun _ h=>h⟩|(split<;>exact⟨rfl,fun _ h=>h⟩)) ?_
       simp
       refine⟨by(repeat' with_reducible apply And.intro)<;>first|omega|(simpa using ka15)|(simpa using kb15),?_⟩
       refine pS.ret ?_
       simp[e15]
      ·refine aA ?_
       simp
       refine aC ?_
       simp
       refine⟨fun h16=>?_,fun h16=>?_⟩
       ·refine pS.seq ?_
        have pa17:=pa (decide (lvlN a.kind<2))
        have pb17:=pb (decide (lvlN b'.kind<2))
        have ka17:=ka 2
        have kb17:=kb 2
        have e17:=Fx hTx (l:=2) (m:=2) (s:=[60,61]) (by rw[h16];rfl) (by rw[h16];rfl) (by rw[h16];rfl)
        refine aI hT hW bU (lk [[],[0],[0,1],[],[0,1,3],[0,1,2,3,4],[0,1,2,3,4,5]]) (lk [[],[],[48],[45],[],[],[]]) (lk [[],[45],[],[],[48],[],[]]) (by kernel_rfl) (fun|45=>some<| .plain ⟨.d (.str (paren (decide (lvlN a.kind<2)) (exprT a))),true⟩|48=>some<| .plain ⟨.d (.str (paren (decide (lvlN b'.kind<2)) (exprT b'))),true⟩|_=>none) (by intro d;first|exact⟨rfl,fun _ h=>h⟩|(split<;>exact⟨rfl,fun _ h=>h⟩)) ?_
        simp
        refine⟨by(repeat' with_reducible apply And.intro)<;>first|omega|(simpa using ka17)|(simpa using kb17),?_⟩
        refine pS.ret ?_
        simp[e17]
       ·refine aA ?_
        simp
        refine aC ?_
        simp
        refine⟨fun h18=>?_,fun h18=>?_⟩
        ·refine pS.seq ?_
         have pa19:=pa (decide (lvlN a.kind<2))
         have pb19:=pb (decide (lvlN b'.kind<2))
         have ka19:=ka 2
         have kb19:=kb 2
         have e19:=Fx hTx (l:=2) (m:=2) (s:=[61,61]) (by rw[h18];rfl) (by rw[h18];rfl) (by rw[h18];rfl)
         refine aI hT hW bU (lk [[],[0],[0,1],[],[0,1,3],[0,1,2,3,4],[0,1,2,3,4,5]]) (lk [[],[],[56],[53],[],[],[]]) (lk [[],[53],[],[],[56],[],[]]) (by kernel_rfl) (fun|53=>some<| .plain ⟨.d (.str (paren (decide (lvlN a.kind<2)) (exprT a))),true⟩|56=>some<| .plain ⟨.d (.str (paren (decide (lvlN b'.kind<2)) (exprT b'))),true⟩|_=>none) (by intro d;first|exact⟨rfl,fun _ h=>h⟩|(split<;>exact⟨rfl,fun _ h=>h⟩)) ?_
         simp
         refine⟨by(repeat' with_reducible apply And.intro)<;>first|omega|(simpa using ka19)|(simpa using kb19),?_⟩
         refine pS.ret ?_
         simp[e19]
        ·refine aA ?_
         simp
         refine aC ?_
         simp
         refine⟨fun h20=>?_,fun h20=>?_⟩
         ·refine pS.seq ?_
          have pa21:=pa (decide (lvlN a.kind<2))
          have pb21:=pb (decide (lvlN b'.kind<3))
          have ka21:=ka 2
          have kb21:=kb 3
          have e21:=Fx hTx (l:=2) (m:=3) (s:=[43]) (by rw[h20];rfl) (by rw[h20];rfl) (by rw[h20];rfl)
          refine aI hT hW bU (lk [[],[0],[0,1],[],[0,1,3],[0,1,2,3,4],[0,1,2,3,4,5]]) (lk [[],[],[64],[61],[],[],[]]) (lk [[],[61],[],[],[64],[],[]]) (by kernel_rfl) (fun|61=>some<| .plain ⟨.d (.str (paren (decide (lvlN a.kind<2)) (exprT a))),true⟩|64=>some<| .plain ⟨.d (.str (paren (decide (lvlN b'.kind<3)) (exprT b'))),true⟩|_=>none) (by intro d;first|exact⟨rfl,fun _ h=>h⟩|(split<;>exact⟨rfl,fun _ h=>h⟩)) ?_
          simp
          refine⟨by(repeat' with_reducible apply And.intro)<;>first|omega|(simpa using ka21)|(simpa using kb21),?_⟩
          refine pS.ret ?_
          simp[e21]
         ·refine aA ?_
          simp
          refine aC ?_
          simp
          refine⟨fun h22=>?_,fun h22=>?_⟩
          ·refine pS.seq ?_
           have pa23:=pa (decide (lvlN a.kind<2))
           have pb23:=pb (decide (lvlN b'.kind<3))
           have ka23:=ka 2
           have kb23:=kb 3
           have e23:=Fx hTx (l:=2) (m:=3) (s:=[45]) (by rw[h22];rfl) (by rw[h22];rfl) (by rw[h22];rfl)
           refine aI hT hW bU (lk [[],[0],[0,1],[],[0,1,3],[0,1,2,3,4],[0,1,2,3,4,5]]) (lk [[],[],[72],[69],[],[],[]]) (lk [[],[69],[],[],[72],[],[]]) (by kernel_rfl) (fun|69=>some<| .plain ⟨.d (.str (paren (decide (lvlN a.kind<2)) (exprT a))),true⟩|72=>some<| .plain ⟨.d (.str (paren (decide (lvlN b'.kind<3)) (exprT b'))),true⟩|_=>none) (by intro d;first|exact⟨rfl,fun _ h=>h⟩|(split<;>exact⟨rfl,fun _ h=>h⟩)) ?_
           simp
           refine⟨by(repeat' with_reducible apply And.intro)<;>first|omega|(simpa using ka23)|(simpa using kb23),?_⟩
           refine pS.ret ?_
           simp[e23]
          ·refine pS.skip ?_
           simp
           refine pS.seq ?_
           have pa24:=pa (decide (lvlN a.kind<3))
           have pb24:=pb (decide (lvlN b'.kind<4))
           have ka24:=ka 3
           have kb24:=kb 4
           have e24:=Fx hTx (l:=3) (m:=4) (s:=[42]) (by rw[(show x.kind=31 by omega)];rfl) (by rw[(show x.kind=31 by omega)];rfl) (by rw[(show x.kind=31 by omega)];rfl)
           refine aI hT hW bU (lk [[],[0],[0,1],[],[0,1,3],[0,1,2,3,4],[0,1,2,3,4,5]]) (lk [[],[],[78],[75],[],[],[]]) (lk [[],[75],[],[],[78],[],[]]) (by kernel_rfl) (fun|75=>some<| .plain ⟨.d (.str (paren (decide (lvlN a.kind<3)) (exprT a))),true⟩|78=>some<| .plain ⟨.d (.str (paren (decide (lvlN b'.kind<4)) (exprT b'))),true⟩|_=>none) (by intro d;first|exact⟨rfl,fun _ h=>h⟩|(split<;>exact⟨rfl,fun _ h=>h⟩)) ?_
           simp
           refine⟨by(repeat' with_reducible apply And.intro)<;>first|omega|(simpa using ka24)|(simpa using kb24),?_⟩
           refine pS.ret ?_
           simp[e24]
theorem OK(x:Nd):aG x=true→aH x.kind=true→weighN x≤1000000000→Ok Tryz.prog 68 [x.d] ⟨.d (.str (exprT x)),true⟩:=
 mS (p:=fun x=>aG x=true→aH x.kind=true→weighN x≤1000000000→Ok Tryz.prog 68 [x.d] ⟨.d (.str (exprT x)),true⟩) (fun _ _ _ _ ih hr he hw=>JP _ hr he hw ih) x
end
open Go.Proofs
section
attribute[local simp] pL.cond Nd.d_eq nd_t nd_dr nd_td ndsD
theorem JQ:Ok Tryz.prog 51 [] ⟨.d (.sl zG),true⟩:=by
 refine Ok.ret Tryz.func51 (by kernel_rfl) (c:=_) rfl Tryz.ntmps51 (by simp) Tryz.results51 (by intro _ h;cases h) fun w0 X hp=>?_
 refine aA ?_
 simp
 refine aA ?_
 simp
 refine⟨by decide,?_⟩
 refine pS.ret ?_
 simp
 rfl
end
open Go.Proofs
section
attribute[local simp] pL.cond Nd.d_eq nd_t nd_dr nd_td ndsD bG
theorem Ea(p:UInt8→Bool)(s:aN)(i:Nat):firstIs p (s.drop i)=(decide (i<s.length)&&p (s[i]?.getD 0)):=by
 by_cases h:i<s.length
 ·rw[List.drop_eq_getElem_cons h,List.getElem?_eq_getElem h]
  simp[firstIs,h]
 ·rw[List.drop_eq_nil_of_le (by omega)]
  simp[firstIs,h]
theorem tJ(s:aN)(i:Nat)(hl:s.length≤9223372036854775807):Ok Tryz.prog 64 [.str s,aD i] ⟨.d (.bool (firstIs aV (s.drop i))),true⟩:=by
 refine Ok.ret Tryz.func64 (by kernel_rfl) (c:=_) rfl Tryz.ntmps64 (by simp) Tryz.results64 (by intro _ h;cases h) fun w0 X hp=>?_
 refine aA ?_
 simp
 refine aA ?_
 simp
 refine⟨fun h _=>h,?_⟩
 refine pS.ret ?_
 simp
 rw[Ea,zT]
 simp[Bool.and_assoc]
theorem sW(s:aN)(i:Nat)(hl:s.length≤9223372036854775807):Ok Tryz.prog 65 [.str s,aD i] ⟨.d (.bool (firstIs aO (s.drop i))),true⟩:=by
 refine Ok.ret Tryz.func65 (by kernel_rfl) (c:=_) rfl Tryz.ntmps65 (by simp) Tryz.results65 (by intro _ h;cases h) fun w0 X hp=>?_
 refine aA ?_
 simp
 refine aA ?_
 simp
 refine⟨fun h _=>h,?_⟩
 refine pS.ret ?_
 simp
 rw[Ea,BA]
 simp[Bool.and_assoc]
def Cm(s:aN)(i:Nat):Int:=if 0<dR (s.drop i)then(i:Int)+dR (s.drop i)else -1
def SC(c:UInt8):Bool:=aV c||aO c
theorem Eb(p q:UInt8→Bool)(s:aN):(firstIs p s||firstIs q s)=firstIs (fun c=>p c||q c) s:=by cases s<;>rfl
theorem If(s:aN):dR s=if firstIs aV s=true then(if iX SC s≤16 then iX SC s else 0)else 0:=by
 cases s with
 |nil=>rfl
 |cons c r=>rfl
theorem BF{p:UInt8→Bool}:∀{s:aN} {k:Nat},(∀m (h:m<k),firstIs p (s.drop m)=true)→firstIs p (s.drop k)=false→iX p s=k
 |[],0,_,_=>rfl
 |[],k+1,h,_=>by have:=h 0 (by omega);simp[firstIs]at this
 |c::r,0,_,h=>by
  have h:p c=false:=h
  simp[iX,h]
 |c::r,k+1,h,h2=>by
  have h0:p c=true:=h 0 (by omega)
  simp only[iX,h0,if_true]
  rw[BF (s:=r) (k:=k) (fun m hm=>h (m+1) (by omega)) h2]
theorem Rp{s:aN}{i k:Nat}(g:firstIs aV (s.drop (i+k))=true∨firstIs aO (s.drop (i+k))=true):i+k<s.length:=by
 refine Classical.byContradiction fun q=>?_
 rw[List.drop_eq_nil_of_le (by omega)]at g
 rcases g with g|g<;>cases g
theorem SD{s:aN}{i k:Nat}(g:firstIs aV (s.drop (i+k))=true∨firstIs aO (s.drop (i+k))=true):firstIs SC (s.drop (i+k))=true:=by
 show firstIs (fun c=>aV c||aO c) (s.drop (i+k))=true
 rw[←Eb]
 rcases g with g|g<;>simp[g]
def jQ:List aN:=[[97,99,113,117,105,114,101],[97,108,108,111,99],[99,97,108,108],[99,104,97,110],[99,104,101,99,107],[100,114,97,119],[101,108,115,101],[102,105,108,101],[103,111],[105,102],[107,105,110,100],[108,111,99,107],[110,111,119],[112,114,111,99],[114,101,97,100],[114,101,99],[114,101,99,118],[114,101,108,101,97,115,101],[115,101,110,100],[115,108,101,101,112],[116,101,115,116],[118,97,114],[119,104,105,108,101],[119,114,105,116,101]]
theorem Ig(s:aN)(i:Nat)(hi:i≤s.length)(hl:s.length≤9223372036854775000):Ok Tryz.prog 154 [.str s,aD i] ⟨.d (aD (Cm s i)),true⟩:=by
 refine Ok.ret Tryz.func154 (by kernel_rfl) (c:=_) rfl Tryz.ntmps154 (by simp) Tryz.results154 (by intro _ h;cases h) fun w0 X hp=>?_
 refine aA ?_
 simp
 refine pS.seq ?_
 refine pS.seq ?_
 have h1:=tJ s i (by omega)
 refine pS.ro hT hW (fun|8=>some<| .plain ⟨.d (.bool (firstIs aV (s.drop i))),true⟩|_=>none) ?_
 simp
 refine⟨h1,?_⟩
 refine aC ?_
 simp
 refine⟨fun h1=>?_,fun h1=>?_⟩
 ·refine aA ?_
  simp
  refine pS.ret ?_
  simp
  unfold Cm
  have hw:dR (s.drop i)=0:=by rw[If,if_neg (by simp[h1])]
  rw[hw,if_neg (by omega)]
 ·refine pS.skip ?_
  simp
  refine aA ?_
  simp
  refine pS.seq ?_
  refine pS.block ?_
  refine bX (ι:=Nat) (fun k=>aY [(0,.d (.str s)),(1,.d (aD i)),(5,.d (aD ((i+k:Nat):Int)))]) (fun k=>aK []) (fun k=>i+k≤s.length∧∀m,m<k→firstIs SC (s.drop (i+m))=true) (fun k=>s.length-i-k) 0 (aB [0,1,5] [] (by decide) (by decide) (by simp[hp]) (by simp) (by simp)) (⟨by omega,fun m h=>absurd h (Nat.not_lt_zero m)⟩) fun k hi4=>?_
  refine pS.seq ?_
  refine pS.seq ?_
  have h2:=tJ s (i+k) (by omega)
  have h3:=sW s (i+k) (by omega)
  refine pS.ro hT hW (fun|13=>some<| .plain ⟨.d (.bool (firstIs aV (s.drop (i+k)))),true⟩|17=>some<| .plain ⟨.d (.bool (firstIs aO (s.drop (i+k)))),true⟩|_=>none) ?_
  simp[-Int.natCast_add]
  refine⟨⟨h2,fun _=>h3⟩,?_⟩
  refine aC ?_
  simp
  refine⟨fun g4=>?_,fun g5 g6=>?_⟩
  ·refine pS.skip ?_
   simp
   refine pS.block ?_
   refine aL ?_
   simp
   refine⟨by omega,?_⟩
   refine KN.mk (k+1) (aB [0,1,5] [] (by decide) (by decide) (by simp[hp]) (by simp[Int.add_assoc]) (by simp)) ?_ ?_
   ·have hlt:i+k<s.length:=Rp g4
    refine⟨by omega,fun m hm=>?_⟩
    by_cases e:m=k
    ·rw[e];exact SD g4
    ·exact hi4.2 m (by omega)
   ·have hlt:i+k<s.length:=Rp g4
    omega
  ·refine pS.exit ?_
   simp
   refine pS.seq ?_
   refine pS.seq ?_
   have hr:iX SC (s.drop i)=k:=BF (fun m hm=>by rw[List.drop_drop];exact hi4.2 m hm) (by
    rw[List.drop_drop]
    show firstIs (fun c=>aV c||aO c) (s.drop (i+k))=false
    rw[←Eb,g5,g6];rfl)
   have hw:=If (s.drop i)
   rw[if_pos h1,hr]at hw
   have hk0:0<k:=by
    rcases Nat.eq_zero_or_pos k with z|z
    ·rw[z]at g5;rw[Nat.add_zero,h1]at g5;cases g5
    ·exact z
   refine aL ?_
   simp
   refine⟨by omega,?_⟩
   refine aC ?_
   simp
   refine⟨fun h6=>?_,fun h6=>?_⟩
   ·refine aA ?_
    simp
    refine pS.ret ?_
    simp
    unfold Cm
    have hw':dR (s.drop i)=0:=by rw[hw,if_neg (by omega)]
    rw[hw',if_neg (by omega)]
   ·refine pS.skip ?_
    simp
    refine aA ?_
    simp
    refine pS.ret ?_
    simp
    unfold Cm
    have hw':dR (s.drop i)=k:=by rw[hw,if_pos (by omega)]
    rw[hw',if_pos hk0]
theorem GD(c:UInt8)(r:aN):jO (c::r)=(aV c&& !decide ((c::r)∈jQ)):=by
 have h1:∀x∈jQ,qC x=true:=by decide
 have h2:∀x∈cF::jJ::cZ,x≠[]→x∈jQ:=by decide
 have e:qC (c::r)=decide ((c::r)∈jQ):=by
  rw[Bool.eq_iff_iff,decide_eq_true_eq]
  refine⟨fun h=>h2 _ ?_ (by simp),h1 _⟩
  simp only[qC,Bool.or_eq_true,decide_eq_true_eq]at h
  simp only[List.mem_cons]
  rcases h with(h|h)|h
  ·exact .inl h
  ·exact .inr (.inl h)
  ·exact .inr (.inr h)
 show(aV c&& !qC (c::r))=_
 rw[e]
theorem RS(l:List aN)(w:aN):Ok Tryz.prog 43 [mK l,.str w] ⟨.d (.bool (decide (w∈l))),true⟩:=by
 refine Ok.ret Tryz.func43 (by kernel_rfl) (c:=_) rfl Tryz.ntmps43 (by simp) Tryz.results43 (by intro _ h;cases h) fun w0 X hp=>?_
 refine pS.len (t:=0) rfl fun hlen=>?_
 simp at hlen
 refine aA ?_
 simp
 refine pS.seq ?_
 refine aA ?_
 simp
 refine pS.block ?_
 refine bX (ι:=Nat) (fun i=>aY [(0,.d (mK l)),(1,.d (.str w)),(5,.d (aD i))]) (fun i=>aK []) (fun i=>i≤l.length∧w∉l.take i) (fun i=>l.length-i) 0 (aB [0,1,5] [] (by decide) (by decide) (by simp[hp]) (by simp) (by simp)) (⟨Nat.zero_le _,by simp⟩) fun i hi2=>?_
 refine pS.seq ?_
 refine aA ?_
 simp
 refine aC ?_
 simp
 refine⟨fun h2=>?_,fun h2=>?_⟩
 ·refine pS.skip ?_
  simp
  refine pS.seq ?_
  refine pS.block ?_
  refine pS.seq ?_
  have hi:i<l.length:=by omega
  refine aL ?_
  simp[hi]
  refine aC ?_
  simp
  refine⟨fun h4=>?_,fun h4=>?_⟩
  ·refine aA ?_
   simp
   refine pS.ret ?_
   simp
   rw[←h4]
   exact(List.getElem_mem hi)
  ·refine pS.skip ?_
   simp
   refine aL ?_
   simp
   refine⟨by omega,?_⟩
   refine KN.mk (i+1) (aB [0,1,5] [] (by decide) (by decide) (by simp[hp]) (by simp) (by simp)) ?_ ?_
   ·refine⟨by omega,?_⟩
    have hi:i<l.length:=by omega
    rw[←List.take_append_getElem hi]
    simp only[List.mem_append,List.mem_singleton,not_or]
    exact⟨hi2.2,fun e=>h4 e.symm⟩
   ·omega
 ·refine pS.exit ?_
  simp
  refine aA ?_
  simp
  refine pS.ret ?_
  simp
  have e:=hi2.2
  rw[List.take_of_length_le (by omega)]at e
  exact e
theorem Fy:Ok Tryz.prog 26 [] ⟨.d (mK jQ),true⟩:=by
 refine Ok.ret Tryz.func26 (by kernel_rfl) (c:=_) rfl Tryz.ntmps26 (by simp) Tryz.results26 (by intro _ h;cases h) fun w0 X hp=>?_
 refine aA ?_
 simp
 refine aA ?_
 simp
 refine⟨by decide,?_⟩
 refine pS.ret ?_
 simp
 rfl
theorem JR(s:aN)(hl:s.length≤9223372036854775807):Ok Tryz.prog 232 [.str s] ⟨.d (.bool (jO s)),true⟩:=by
 refine Ok.ret Tryz.func232 (by kernel_rfl) (c:=_) rfl Tryz.ntmps232 (by simp) Tryz.results232 (by intro _ h;cases h) fun w0 X hp=>?_
 refine aA ?_
 simp
 refine pS.seq ?_
 have h1:=tJ s 0 hl
 have h2:=Fy
 have h3:=RS jQ s
 refine pS.ro hT hW (fun|4=>some<| .plain ⟨.d (.bool (firstIs aV s)),true⟩|6=>some<| .plain ⟨.d (mK jQ),true⟩|8=>some<| .plain ⟨.d (.bool (decide (s∈jQ))),true⟩|_=>none) ?_
 simp
 refine⟨⟨⟨by simpa using h1,fun _=>h2⟩,fun _=>h3⟩,?_⟩
 refine pS.ret ?_
 simp
 cases s with
 |nil=>rfl
 |cons c r=>rw[GD];rfl
end
open Go.Proofs
section
attribute[local simp] pL.cond Nd.d_eq nd_t nd_dr nd_td ndsD bG
theorem OM{k:Nat}(h:k<11):(([40,41,123,125,61,43,45,42,60,59,46]:aN)[k]?.getD 0)∈mL:=by
 have e:([40,41,123,125,61,43,45,42,60,59,46]:aN)=mL:=rfl
 rw[e,List.getElem?_eq_getElem h,Option.getD_some]
 exact List.getElem_mem h
theorem RT{a b:UInt8}:((a.toNat:Int)=(b.toNat:Int))↔a=b:=by
 rw[←UInt8.toNat_inj];omega
theorem Ih(c:UInt8):Ok Tryz.prog 66 [.int .u8 (c.toNat:Int)] ⟨.d (.bool (decide (c∈mL))),true⟩:=by
 refine Ok.ret Tryz.func66 (by kernel_rfl) (c:=_) rfl Tryz.ntmps66 (by simp) Tryz.results66 (by intro _ h;cases h) fun w0 X hp=>?_
 refine aA ?_
 simp
 refine aA ?_
 simp
 refine pS.seq ?_
 refine aA ?_
 simp
 refine pS.block ?_
 refine bX (ι:=Nat) (fun i=>aY [(0,.d (.int .u8 (c.toNat:Int))),(3,.d (.str [40,41,123,125,61,43,45,42,60,59,46])),(4,.d (aD i))]) (fun i=>aK []) (fun i=>i≤11∧c∉mL.take i) (fun i=>11-i) 0 (aB [0,3,4] [] (by decide) (by decide) (by simp[hp]) (by simp) (by simp)) (⟨Nat.zero_le _,by simp⟩) fun i hi3=>?_
 refine pS.seq ?_
 refine aA ?_
 simp
 refine aC ?_
 simp
 refine⟨fun h3=>?_,fun h3=>?_⟩
 ·refine pS.skip ?_
  simp
  refine pS.seq ?_
  refine pS.block ?_
  refine pS.seq ?_
  have hk:i<11:=by omega
  have hk2:i<mL.length:=hk
  refine aL ?_
  simp
  refine⟨by omega,?_⟩
  refine aC ?_
  simp
  refine⟨fun h5=>?_,fun h5=>?_⟩
  ·refine aA ?_
   simp
   refine pS.ret ?_
   simp
   have e:=OM hk
   rw[RT.1 h5]at e
   exact e
  ·refine pS.skip ?_
   simp
   refine aL ?_
   simp
   refine⟨by omega,?_⟩
   refine KN.mk (i+1) (aB [0,3,4] [] (by decide) (by decide) (by simp[hp]) (by simp) (by simp)) ?_ ?_
   ·refine⟨by omega,?_⟩
    have hi:i<mL.length:=hk
    rw[←List.take_append_getElem hi]
    simp only[List.mem_append,List.mem_singleton,not_or]
    refine⟨hi3.2,fun e=>h5 ?_⟩
    rw[e];rw[show([40,41,123,125,61,43,45,42,60,59,46]:aN)=mL from rfl,List.getElem?_eq_getElem hi];rfl
   ·omega
 ·refine pS.exit ?_
  simp
  refine aA ?_
  simp
  refine pS.ret ?_
  simp
  have e:=hi3.2
  rw[List.take_of_length_le (by show 11≤i;omega)]at e
  exact e
theorem JS(c:UInt8):IntKind.i64.wrap (c.toNat:Int)=c.toNat:=by
 have:=c.toNat_lt
 unfold IntKind.wrap
 simp[IntKind.bits,IntKind.signed]
 split<;>omega
theorem Fz:∀s:aN,s.length≤3→ -100000≤qJ s∧qJ s≤100000
 |[],_=>by simp[qJ]
 |[a],_=>by have:=a.toNat_lt;simp only[qJ,List.foldl_cons,List.foldl_nil];omega
 |[a,b],_=>by have:=a.toNat_lt;have:=b.toNat_lt;simp only[qJ,List.foldl_cons,List.foldl_nil];omega
 |[a,b,c],_=>by have:=a.toNat_lt;have:=b.toNat_lt;have:=c.toNat_lt;simp only[qJ,List.foldl_cons,List.foldl_nil];omega
 |_::_::_::_::_,h=>by simp at h
theorem ON{s:aN}{k:Nat}(h:k<s.length):qJ (s.take (k+1))=10*qJ (s.take k)+(((s[k]?.getD 0).toNat:Int)- 48):=by
 rw[←List.take_append_getElem h,List.getElem?_eq_getElem h]
 unfold qJ
 rw[List.foldl_append]
 rfl
theorem QC:qJ []=0:=rfl
attribute[local simp] QC
theorem Mt(s:aN)(hl:s.length≤3):Ok Tryz.prog 234 [.str s] ⟨.d (aD (qJ s)),true⟩:=by
 refine Ok.ret Tryz.func234 (by kernel_rfl) (c:=_) rfl Tryz.ntmps234 (by simp) Tryz.results234 (by intro _ h;cases h) fun w0 X hp=>?_
 refine aA ?_
 simp
 refine aA ?_
 simp
 refine pS.seq ?_
 refine aA ?_
 simp
 refine pS.block ?_
 refine bX (ι:=Nat) (fun i=>aY [(0,.d (.str s)),(3,.d (aD (qJ (s.take i)))),(4,.d (aD i))]) (fun i=>aK []) (fun i=>i≤s.length) (fun i=>s.length-i) 0 (aB [0,3,4] [] (by decide) (by decide) (by simp[hp]) (by simp) (by simp)) ((Nat.zero_le _)) fun i hi3=>?_
 refine pS.seq ?_
 refine aA ?_
 simp
 refine aC ?_
 simp
 refine⟨fun h3=>?_,fun h3=>?_⟩
 ·refine pS.skip ?_
  simp
  refine pS.seq ?_
  refine pS.block ?_
  have hk:i<s.length:=by omega
  have hv:=ON hk
  have b1:=Fz (s.take i) (by rw[List.length_take];omega)
  have b2:=Fz (s.take (i+1)) (by rw[List.length_take];omega)
  have b3:=(s[i]?.getD 0).toNat_lt
  have hw:=JS (s[i]?.getD 0)
  refine aL ?_
  simp[hw]
  refine⟨⟨⟨⟨by omega,by omega⟩,by omega⟩,by omega⟩,?_⟩
  refine aL ?_
  simp
  refine⟨by omega,?_⟩
  refine KN.mk (i+1) (aB [0,3,4] [] (by decide) (by decide) (by simp[hp]) (by simp[hv,Int.add_sub_assoc]) (by simp)) ?_ ?_
  ·omega
  ·omega
 ·refine pS.exit ?_
  simp
  refine aA ?_
  simp
  refine pS.ret ?_
  simp
  rw[List.take_of_length_le (by omega)]
def vB(s:aN)(i:Nat):Int:=if 0<bV (s.drop i)then(i:Int)+bV (s.drop i)else -1
theorem Tg{c:UInt8}:((c.toNat:Int)=61)↔c=61:=by
 rw[←UInt8.toNat_inj];have:(61:UInt8).toNat=61:=rfl;omega
theorem Wp{c:UInt8}:((c.toNat:Int)=60)↔c=60:=by
 rw[←UInt8.toNat_inj];have:(60:UInt8).toNat=60:=rfl;omega
theorem OO{p:UInt8→Bool}{s:aN}{i k:Nat}(h:∀m,m<k→firstIs p (s.drop (i+m))=true)(h2:firstIs p (s.drop (i+k))=false):iX p (s.drop i)=k:=
 BF (fun m hm=>by rw[List.drop_drop];exact h m hm) (by rw[List.drop_drop];exact h2)
theorem GE{s:aN}{i:Nat}{c:UInt8}(hi:i<s.length)(hd:s.drop i=c::s.drop (i+1))(hg:s[i]?.getD 0=c):
 ((s.drop i).take 2=[60,61]∨(s.drop i).take 2=[61,61])↔((i:Int)+1<s.length∧((s[i+1]?.getD 0).toNat:Int)=61∧(((s[i]?.getD 0).toNat:Int)=60∨((s[i]?.getD 0).toNat:Int)=61)):=by
 rw[hg,hd,rW,rW,Wp,Tg,Tg]
 by_cases h:i+1<s.length
 ·rw[List.drop_eq_getElem_cons h,List.getElem?_eq_getElem h]
  simp only[List.take_succ_cons,List.take_zero,List.cons.injEq,and_true,Option.getD_some]
  constructor
  ·rintro(⟨e1,e2⟩|⟨e1,e2⟩)
   ·exact⟨by omega,e2,.inl e1⟩
   ·exact⟨by omega,e2,.inr e1⟩
  ·rintro⟨_,e2,e1|e1⟩
   ·exact .inl ⟨e1,e2⟩
   ·exact .inr ⟨e1,e2⟩
 ·rw[List.drop_eq_nil_of_le (by omega)]
  simp
  omega
theorem OP(s:aN)(i:Nat)(hi:i<s.length)(hl:s.length≤1000000000):Ok Tryz.prog 105 [.str s,aD i] ⟨.d (aD (vB s i)),true⟩:=by
 refine Ok.ret Tryz.func105 (by kernel_rfl) (c:=_) rfl Tryz.ntmps105 (by simp) Tryz.results105 (by intro _ h;cases h) fun w0 X hp=>?_
 have hd:=List.drop_eq_getElem_cons hi
 have hg:s[i]?.getD 0=s[i]:=by rw[List.getElem?_eq_getElem hi];rfl
 generalize s[i]=c at hd hg
 have he:=lY c (s.drop (i+1))
 rw[←hd]at he
 refine aA ?_
 simp
 refine pS.seq ?_
 refine pS.seq ?_
 have h1:=tJ s i (by omega)
 rw[hd]at h1
 refine pS.ro hT hW (fun|8=>some<| .plain ⟨.d (.bool (aV c)),true⟩|_=>none) ?_
 simp
 refine⟨h1,?_⟩
 refine aC ?_
 simp
 refine⟨fun h1=>?_,fun h1=>?_⟩
 ·refine pS.seq ?_
  have w1:=Ig s i (by omega) (by omega)
  refine pS.ro hT hW (fun|11=>some<| .plain ⟨.d (aD (Cm s i)),true⟩|_=>none) ?_
  simp
  refine⟨w1,?_⟩
  refine pS.ret ?_
  simp
  have e:bV (s.drop i)=dR (s.drop i):=by rw[he,if_pos h1]
  unfold Cm vB
  rw[e]
 ·refine pS.skip ?_
  simp
  refine pS.seq ?_
  refine aA ?_
  simp[hg]
  refine⟨by omega,?_⟩
  refine aC ?_
  simp
  refine⟨fun h3=>?_,fun h3=>?_⟩
  ·refine pS.seq ?_
   have w4:=Ig s (i+1) (by omega) (by omega)
   refine pS.ro hT hW (fun|19=>some<| .plain ⟨.d (aD (Cm s (i+1))),true⟩|_=>none) ?_
   simp
   refine⟨⟨by omega,by simpa using w4⟩,?_⟩
   refine pS.ret ?_
   simp
   have e:bV (s.drop i)=if 0<dR (s.drop (i+1))then dR (s.drop (i+1))+1 else 0:=by rw[he,if_neg (by simp[h1]),if_pos (KX.1 h3)]
   unfold Cm vB
   rw[e]
   by_cases z:0<dR (s.drop (i+1))
   ·rw[if_pos z,if_pos z,if_pos (by omega)];omega
   ·rw[if_neg z,if_neg z,if_neg (by omega)]
  ·refine pS.skip ?_
   simp
   refine pS.seq ?_
   refine pS.seq ?_
   have w5:=sW s i (by omega)
   rw[hd]at w5
   refine pS.ro hT hW (fun|22=>some<| .plain ⟨.d (.bool (aO c)),true⟩|_=>none) ?_
   simp
   refine⟨w5,?_⟩
   refine aC ?_
   simp
   refine⟨fun h5=>?_,fun h5=>?_⟩
   ·refine aA ?_
    simp
    refine pS.seq ?_
    refine pS.block ?_
    refine bX (ι:=Nat) (fun k=>aY [(0,.d (.str s)),(1,.d (aD i)),(5,.d (aD ((i+k:Nat):Int)))]) (fun k=>aK []) (fun k=>i+k≤s.length∧∀m,m<k→firstIs aO (s.drop (i+m))=true) (fun k=>s.length-i-k) 0 (aB [0,1,5] [] (by decide) (by decide) (by simp[hp]) (by simp) (by simp)) (⟨by omega,fun m h=>absurd h (Nat.not_lt_zero m)⟩) fun k hi7=>?_
    refine pS.seq ?_
    refine pS.seq ?_
    have w7:=sW s (i+k) (by omega)
    refine pS.ro hT hW (fun|26=>some<| .plain ⟨.d (.bool (firstIs aO (s.drop (i+k)))),true⟩|_=>none) ?_
    simp[-Int.natCast_add]
    refine⟨w7,?_⟩
    refine aC ?_
    simp
    refine⟨fun h7=>?_,fun h7=>?_⟩
    ·refine pS.skip ?_
     simp
     refine pS.block ?_
     refine aL ?_
     simp
     refine⟨by omega,?_⟩
     refine KN.mk (k+1) (aB [0,1,5] [] (by decide) (by decide) (by simp[hp]) (by simp[Int.add_assoc]) (by simp)) ?_ ?_
     ·have hlt:i+k<s.length:=Classical.byContradiction fun q=>by rw[List.drop_eq_nil_of_le (by omega)]at h7;cases h7
      refine⟨by omega,fun m hm=>?_⟩
      by_cases e:m=k
      ·rw[e];exact h7
      ·exact hi7.2 m (by omega)
     ·have hlt:i+k<s.length:=Classical.byContradiction fun q=>by rw[List.drop_eq_nil_of_le (by omega)]at h7;cases h7
      omega
    ·refine pS.exit ?_
     simp
     refine pS.seq ?_
     refine pS.seq ?_
     have hr:=OO hi7.2 h7
     refine aL ?_
     simp
     refine⟨by omega,?_⟩
     refine aC ?_
     simp
     refine⟨fun h9=>?_,fun h9=>?_⟩
     ·refine aA ?_
      simp
      refine pS.ret ?_
      simp
      have e:bV (s.drop i)=0:=by rw[he,if_neg (by simp[h1]),if_neg (fun e=>h3 (KX.2 e)),if_pos h5,hr,if_neg (by omega)]
      unfold vB
      rw[e,if_neg (by omega)]
     ·refine pS.skip ?_
      simp
      refine aA ?_
      simp
      refine pS.ret ?_
      simp
      have h0:0<k:=by
       rcases Nat.eq_zero_or_pos k with z|z
       ·rw[z,Nat.add_zero,hd]at h7;exact absurd h5 (by rw[show aO c=false from h7];simp)
       ·exact z
      have e:bV (s.drop i)=k:=by rw[he,if_neg (by simp[h1]),if_neg (fun e=>h3 (KX.2 e)),if_pos h5,hr,if_pos (by omega)]
      unfold vB
      rw[e,if_pos h0]
   ·refine pS.skip ?_
    simp
    refine pS.seq ?_
    refine aA ?_
    simp
    refine⟨⟨⟨⟨by omega,fun _=>by omega⟩,fun _=>by omega⟩,by omega⟩,?_⟩
    refine aC ?_
    simp
    refine⟨fun g1 g2 g3=>?_,fun g=>?_⟩
    ·refine aA ?_
     simp
     refine⟨by omega,?_⟩
     refine pS.ret ?_
     simp
     have e:bV (s.drop i)=2:=by rw[he,if_neg (by simp[h1]),if_neg (fun e=>h3 (KX.2 e)),if_neg (by simp[h5]),if_pos ((GE hi hd hg).2 ⟨g1,g2,g3⟩)]
     unfold vB
     rw[e,if_pos (by decide)];rfl
    ·refine pS.skip ?_
     simp
     refine pS.seq ?_
     refine pS.seq ?_
     have w14:=Ih c
     refine pS.ro hT hW (fun|63=>some<| .plain ⟨.d (.bool (decide (c∈mL))),true⟩|_=>none) ?_
     simp[hg]
     refine⟨⟨by omega,w14⟩,?_⟩
     refine aC ?_
     simp
     refine⟨fun h14=>?_,fun h14=>?_⟩
     ·refine aA ?_
      simp
      refine⟨by omega,?_⟩
      refine pS.ret ?_
      simp
      have e:bV (s.drop i)=1:=by rw[he,if_neg (by simp[h1]),if_neg (fun e=>h3 (KX.2 e)),if_neg (by simp[h5]),if_neg (fun z=>by have z:=(GE hi hd hg).1 z;exact z.2.2.elim (g z.1 z.2.1).1 (g z.1 z.2.1).2),if_pos h14]
      unfold vB
      rw[e,if_pos (by decide)];rfl
     ·refine pS.skip ?_
      simp
      refine aA ?_
      simp
      refine pS.ret ?_
      simp
      have e:bV (s.drop i)=0:=by rw[he,if_neg (by simp[h1]),if_neg (fun e=>h3 (KX.2 e)),if_neg (by simp[h5]),if_neg (fun z=>by have z:=(GE hi hd hg).1 z;exact z.2.2.elim (g z.1 z.2.1).1 (g z.1 z.2.1).2),if_neg h14]
      unfold vB
      rw[e,if_neg (by decide)]
end
end Go.Eng
namespace Go.Eng
open Go.RowKit
def IsRow(k:IntKind)(w:World)(a:Option Addr)(len cap:Nat)(zs:List Int):Prop:=
 (a=none∧len=0∧cap=0∧zs=[])∨
 ∃x,a=some x∧len≤cap∧cap≤maxLen∧zs.length=cap∧(∀i,i<zs.length→w.cell? (x.add i)=some (.int k (zs.getD i 0)))∧∀n∈zs,(Lit.int k n).wf=true
theorem QD{n:Int}(h:(Lit.int .i64 n).wf=true): -9223372036854775808≤n∧n≤9223372036854775807:=by
 simp only[Lit.wf,Bool.and_eq_true,decide_eq_true_eq,IntKind.min,IntKind.max,IntKind.signed,IntKind.bits]at h
 exact⟨h.1,h.2⟩
theorem SP{w:World}{a:Option Addr}{len cap:Nat}{zs:List Int}(h:IsRow .i64 w a len cap zs):∀n∈zs.take len, -9223372036854775808≤n∧n≤9223372036854775807:=fun n hn=>by
 have hn:=List.mem_of_mem_take hn
 rcases h with⟨_,_,_,rfl⟩|⟨x,_,_,_,_,_,h⟩
 ·cases hn
 ·exact QD (h n hn)
theorem SZ{w:World}{k:IntKind}{a:Option Addr}{len cap:Nat}{zs:List Int}(h:IsRow k w a len cap zs):RD w (fun _=>False) (.sl ((zs.take len).map (.int k))) (.slice a len cap):=by
 rcases h with⟨rfl,rfl,rfl,rfl⟩|⟨x,rfl,h1,h2,h3,h4,h5⟩
 ·exact .sl0 _ 0 (Nat.zero_le _)
 ·by_cases h0:len=0
  ·subst h0
   rw[List.take_zero]
   exact .sl0 _ cap h2
  ·obtain⟨b,o,rfl,hc⟩:=ints_at h4 (by omega)
   have hl:((zs.take len).map (DV.int k)).length=len:=by simp;omega
   have hfl:bE ((zs.take len).map (DV.int k))=(zs.take len).map (DV.int k):=by
    unfold bE
    rw[List.flatMap_map]
    induction zs.take len with
    |nil=>rfl
    |cons a l ih=>rw[List.flatMap_cons,ih];rfl
   have:=RD.sl (w:=w) (E:=fun _=>False) ((zs.take len).map (.int k)) b o cap 1 ((zs.take len).map (.int k)) (fun e=>by rw[e]at hl;simp at hl;omega) (fun h=>h) (fun x hx=>by obtain⟨n,_,rfl⟩:=List.mem_map.1 hx;rfl)
    (by rw[hl];exact h1) h2 (by simp) (fun u hu=>by obtain⟨n,_,rfl⟩:=List.mem_map.1 hu;rfl) (PV (hc 0 (by omega))) (fun j u hj=>by
      have hj':j<len:=by
       have:=(List.getElem?_eq_some_iff.1 hj).1
       simp at this;omega
      have hz:j<zs.length:=by omega
      have:=hc j hz
      rw[this]
      simp[hj',hz]at hj
      simp[hz,hj]) (fun i d v hd hv=>by
      rw[hfl]at hd
      simp only[List.getElem?_map]at hd hv
      cases q:(zs.take len)[i]? with
      |none=>rw[q]at hd;cases hd
      |some n=>rw[q]at hd hv;cases hd;cases hv;exact .int k n)
   rw[hl]at this
   exact this
theorem Rv.nil{w:World}{E:Nat→Prop}:Rv w E [] []:=⟨rfl,fun i c v h=>by simp at h⟩
theorem Rv.cons{w:World}{E:Nat→Prop}{d:DV}{v:Value}{ds:List DV}{vs:List Value}(h:RD w E d v)(hs:Rv w E ds vs):Rv w E (d::ds) (v::vs):=
 ⟨by simp[hs.1],fun i c u hc hu=>by
   cases i with
   |zero=>simp at hc hu;subst hc;subst hu;exact h
   |succ i=>exact hs.2 i c u (by simpa using hc) (by simpa using hu)⟩
theorem Sr{P:Program}{f:FuncId}{args:List DV}{fr:Bool}(h:Ok P f args ⟨.d (.bool true),fr⟩)(w:World)(vs:List Value)(hr:Rv w (fun _=>False) args vs)(hg:CI w (fun _=>False):=by intro n cs h;simp[Go.Eng.globD]at h):
 Calls P f vs.toArray w fun e w'=>e=.returned (.bool true)∧Below w.heap.size w w':=
 (h.2 w (fun _=>False) vs ⟨fun _ h=>h.elim,hg⟩ hr).mono fun _ _ ⟨v,h1,h2,h3⟩=>by
   obtain⟨_,h4⟩:=h3
   cases h4
   exact⟨h1,h2.below⟩
theorem Bd.own_d{w w':World}{E E':Nat→Prop}{B:Option Nat}{s:Nat}{xs:List DV}{v:Value}(h:Bd w w' E B (.own s xs) v)(hE:∀k,E' k→k<w.heap.size)(hEE:∀k,E' k→E k):RD w' E' (.sl xs) v:=by
 obtain⟨hs,hxs,h⟩:=h
 rcases h with⟨_,rfl,a,rfl⟩|⟨b,c,cur,e,_,rfl,hb,hblk,hl,hc,hcs,hcell⟩
 ·exact .sl0 a 0 (Nat.zero_le _)
 ·by_cases hx:xs=[]
  ·subst hx;exact .sl0 _ c hc
  ·have hfl:=flat_len hxs
   have hle:xs.length*s≤cur.size:=by rw[←hcs];exact Nat.mul_le_mul_right _ hl
   have hlt:b<w'.heap.size:=(Array.getElem?_eq_some_iff.1 hblk).1
   refine .sl xs b 0 c s (cur.toList.take (xs.length*s)) hx (fun q=>by have:=hE b q;omega) hxs hl hc (by simp;omega) (fun u hu=>?_) hlt (fun j u hj=>?_) (fun i d v hd hv=>?_)
   ·obtain⟨j,hj,rfl⟩:=List.getElem_of_mem hu
    simp only[List.length_take,Array.length_toList]at hj
    have hjc:j<cur.size:=by omega
    have hjf:j<(bE xs).length:=by rw[hfl];omega
    simp only[List.getElem_take,Array.getElem_toList]
    exact(hcell j _ _ (List.getElem?_eq_getElem hjf) (Array.getElem?_eq_getElem hjc)).1
   ·rw[cell_of_row w' b _ cur e (0,0) hblk,Nat.zero_add]
    rw[List.getElem?_take]at hj
    split at hj
    ·simpa using hj
    ·cases hj
   ·rw[List.getElem?_take]at hv
    split at hv
    ·exact((hcell i d v hd (by simpa using hv)).2).anti hEE
    ·cases hv
theorem Ok.own_d{P:Program}{f:FuncId}{args:List DV}{s:Nat}{xs:List DV}{fr:Bool}(h:Ok P f args ⟨.own s xs,fr⟩):Ok P f args ⟨.d (.sl xs),fr⟩:=
 ⟨h.1,fun w X vs hX hr=>(h.2 w X vs hX hr).mono fun _ _ ⟨v,h1,h2,B,h3⟩=>
   ⟨v,h1,h2,none,h3.own_d (fun k q=>by
     rcases q with(q|⟨_,q⟩)|q
     ·exact hX.1 k q
     ·exact q
     ·cases q) (fun k q=>by
     rcases q with q|q
     ·exact .inl q
     ·cases q)⟩⟩
theorem FA{P:Program}{f:FuncId}{args:List DV}{s:Nat}{xs:List DV}{y:DV}{fr:Bool}(h:Ok P f args ⟨.tup [.own s xs,.d y],fr⟩):Ok P f args ⟨.tup [.d (.sl xs),.d y],fr⟩:=
 ⟨h.1,fun w X vs hX hr=>(h.2 w X vs hX hr).mono fun _ _ ⟨v,h1,h2,us,B,h3,h4,h5,h6⟩=>
   ⟨v,h1,h2,us,fun _=>none,h3,h4,fun _ _ _ q=>(by cases q),fun i r u hi hu=>by
     match i,hi with
     |0,hi=>
      cases hi
      exact(h6 0 _ u rfl hu).own_d (fun k q=>by
       rcases q with(q|⟨_,q⟩)|⟨_,q⟩
       ·exact hX.1 k q
       ·exact q
       ·cases q) (fun k q=>by
       rcases q with q|⟨_,q⟩
       ·exact .inl q
       ·cases q)
     |1,hi=>
      cases hi
      exact RD.anti (fun k q=>by
       rcases q with q|⟨_,q⟩
       ·exact .inl q
       ·cases q) (h6 1 _ u rfl hu)⟩⟩
end Go.Eng
namespace Go.Eng
open Go.Proofs
attribute[local simp] nP lH gR bA oC gK gS pE cY bD pL.plain pL.cond pL.fail dU mN tQ nO gC kQ kW lR memless nD eV jD uG EJ gQ fJ strip pD eD mC bW
 qY fZ iR gT iQ pU lk cH dX bQ cA bY oL fE pY iU jF bS eW bN dM gM fL fM eI fN gX gY gZ fO eJ fP eL fQ hU hZ iC iD fR iG oY oJ mkAgg tP BO jN bB gN aW.live TK.isNone TK.agg TK.isBool TK.isStr TK.isStruct Op.operands Call.operands
 bF cV cO dF eP oK lN cN dN iO fA kY aQ frozen lS
 jT jU lU gV jW jX jY kD lV gW kF kG kH kJ sE mM oO oP oS oT oV kK jR gU fK Nm.d Df.d Ed.d yV yW mK yX jS sL sM dK dL
 yY yZ sF zA zB sG sH sI oW zC zD sJ
 bZ aZ dP mB dQ bT cI bP eZ uJ TK.isInt jV kE oQ iB gP dO eX eY gE fD gB mO sZ nU yU sD
 nS kX mX nR cS eF dY lJ jG jH iV tF iH dJ iI iJ cH kA kC oN iW iK kL iE iF fT
 cP gO TK.isPtr eR cE kM qB qO jZ kI oU hO iA fS
attribute[local simp] eM kN iL
section
attribute[local simp] pL.cond Nd.d_eq nd_t nd_dr nd_td ndsD bG
theorem vZ:∀(f:Nat) (s:aN) (i:Int),s.length≤f→lW f s i=lW s.length s i
 |0,s,i,h=>by
  have:s=[]:=List.eq_nil_of_length_eq_zero (by omega)
  subst this;rfl
 |f+1,[],i,_=>by simp[lW]
 |f+1,c::r,i,h=>by
  have e1:=vZ f r (i+1) (by simpa using h)
  simp only[List.length_cons,lW]
  by_cases q:c=32∨c=10
  ·rw[if_pos q,if_pos q,e1]
  ·rw[if_neg q,if_neg q]
   by_cases z:bV (c::r)=0
   ·rw[if_pos z,if_pos z]
   ·rw[if_neg z,if_neg z]
    have hl:((c::r).drop (bV (c::r))).length≤r.length:=by rw[List.length_drop,List.length_cons];omega
    have h':r.length≤f:=by simpa using h
    have e2:=vZ f ((c::r).drop (bV (c::r))) (i+bV (c::r)) (by omega)
    have e3:=vZ r.length ((c::r).drop (bV (c::r))) (i+bV (c::r)) hl
    rw[e2,e3]
termination_by f _ _ _=>f
def rX(s:aN)(k:Nat):List Tk×Int:=lW (s.drop k).length (s.drop k) k
theorem FB{s:aN}{k:Nat}(h:s.length≤k):rX s k=([],(k:Int)):=by
 unfold rX
 rw[List.drop_eq_nil_of_le h];rfl
theorem Cn{s:aN}{k:Nat}(h:k<s.length)(hc:s[k]=32∨s[k]=10):rX s k=rX s (k+1):=by
 unfold rX
 rw[List.drop_eq_getElem_cons h,List.length_cons,lW,if_pos hc]
 rfl
theorem Ec{s:aN}{k:Nat}(h:k<s.length)(hc:¬(s[k]=32∨s[k]=10))(hn:bV (s.drop k)=0):rX s k=([],(k:Int)):=by
 unfold rX
 rw[List.drop_eq_getElem_cons h]at hn⊢
 rw[List.length_cons,lW,if_neg hc,if_pos hn]
theorem FC{s:aN}{k:Nat}(h:k<s.length)(hc:¬(s[k]=32∨s[k]=10))(hn:bV (s.drop k)≠0):
 rX s k=(⟨(s.drop k).take (bV (s.drop k)),k⟩::(rX s (k+bV (s.drop k))).1,(rX s (k+bV (s.drop k))).2):=by
 have hl:=xC (s.drop k)
 have e:(s.drop k).drop (bV (s.drop k))=s.drop (k+bV (s.drop k)):=by rw[List.drop_drop]
 unfold rX
 rw[←e]
 generalize hm:bV (s.drop k)=m at hn hl e⊢
 rw[List.drop_eq_getElem_cons h]at hm hl⊢
 rw[List.length_cons,lW,if_neg hc,if_neg (by rw[hm];exact hn),hm]
 rw[vZ _ _ _ (by rw[List.length_drop,List.length_cons];omega)]
 push_cast
 rfl
theorem Rq{c:UInt8}{n:Nat}(hn:n<256):((c.toNat:Int)=n)↔c=UInt8.ofNat n:=by
 rw[←UInt8.toNat_inj]
 have:(UInt8.ofNat n).toNat=n:=by simp[UInt8.toNat_ofNat'];omega
 omega
theorem yO{s:aN}{k:Nat}(hk:k<s.length):(((s[k]?.getD 0).toNat:Int)=32∨((s[k]?.getD 0).toNat:Int)=10)↔(s[k]=32∨s[k]=10):=by
 rw[List.getElem?_eq_getElem hk,Option.getD_some]
 have e1:=Rq (c:=s[k]) (n:=32) (by decide)
 have e2:=Rq (c:=s[k]) (n:=10) (by decide)
 exact⟨fun q=>q.imp e1.1 e2.1,fun q=>q.imp e1.2 e2.2⟩
theorem GF(s:aN)(k n:Nat):List.drop k (List.take ((k:Int)+(n:Int)).toNat s)=List.take n (List.drop k s):=by
 rw[show((k:Int)+(n:Int)).toNat=k+n by omega,List.drop_take,show k+n-k=n by omega]
structure Th where
 k:Nat
 L:List Tk
 deriving Inhabited
theorem OQ(s:aN)(hl:s.length≤1000000000):Ok Tryz.prog 57 [.str s] ⟨.tup [.own 2 ((eS s).1.map Tk.d),.d (aD (eS s).2)],true⟩:=by
 refine DC Tryz.func57 (by kernel_rfl) (c:=_) rfl Tryz.ntmps57 (by simp) Tryz.results57 rfl fun w0 X hp=>?_
 refine aA ?_
 simp
 refine pS.scope ?_
 refine aA ?_
 simp
 refine aA ?_
 simp
 refine pS.seq ?_
 refine pS.label ?_
 simp
 refine pS.seq ?_
 refine pS.block ?_
 refine bX (ι:=Th) (fun⟨k,L⟩=>aY [(0,.d (.str s)),(4,.ow 4 0 L.length),(5,.d (aD k))]) (fun⟨k,L⟩=>aK [(4,.row false 2 (L.map Tk.d))]) (fun⟨k,L⟩=>L.length≤k∧k≤s.length∧eS s=(L++(rX s k).1,(rX s k).2)) (fun⟨k,L⟩=>s.length-k) ⟨0,[]⟩ (aB [0,4,5] [(4,4)] (by decide) (by decide) (by simp[hp]) (by simp) (by simp)) (⟨Nat.le_refl _,Nat.zero_le _,by simp[rX,eS]⟩) fun⟨k,L⟩ hi3=>?_
 refine pS.seq ?_
 refine aA ?_
 simp
 refine aC ?_
 simp
 refine⟨fun h3=>?_,fun h3=>?_⟩
 ·refine pS.skip ?_
  simp
  refine pS.block ?_
  refine pS.seq ?_
  refine pS.seq ?_
  have hk:k<s.length:=by omega
  refine aL ?_
  simp
  refine⟨hk,?_⟩
  refine pS.block ?_
  refine aT (ι:=BC) (fun⟨b⟩=>aY [(0,.d (.str s)),(4,.ow 4 0 L.length),(5,.d (aD k)),(14,.d (.bool b))]) (fun⟨b⟩=>aK [(4,.row false 2 (L.map Tk.d))]) (fun⟨b⟩=>b=true↔(((s[k]?.getD 0).toNat:Int)=32∨((s[k]?.getD 0).toNat:Int)=10)) ?_ fun⟨b⟩ hc7=>?_
  ·refine aA ?_
   simp
   refine aC ?_
   simp
   refine⟨fun h5=>?_,fun h5=>?_⟩
   ·refine pS.skip ?_
    simp
    refine Qo.mk ⟨decide (((s[k]?.getD 0).toNat:Int)=32)⟩ (aB [0,4,5,14] [(4,4)] (by decide) (by decide) (by simp[hp]) (by simp) (by simp)) ?_
    simp[h5]
   ·refine aL ?_
    simp
    refine Qo.mk ⟨decide (((s[k]?.getD 0).toNat:Int)=10)⟩ (aB [0,4,5,14] [(4,4)] (by decide) (by decide) (by simp[hp]) (by simp) (by simp)) ?_
    simp only[decide_eq_true_eq];omega
  ·refine aC ?_
   simp
   refine⟨fun h7=>?_,fun h7=>?_⟩
   ·have q7:=(yO hk).1 (hc7.1 h7)
    refine aA ?_
    simp
    refine⟨by omega,?_⟩
    refine pS.exit ?_
    simp
    refine KN.mk ⟨k+1,L⟩ (aB [0,4,5] [(4,4)] (by decide) (by decide) (by simp[hp]) (by simp) (by simp)) ?_ ?_
    ·refine⟨Nat.le_succ_of_le hi3.1,hk,?_⟩
     rw[hi3.2.2,Cn hk q7]
    ·show s.length-(k+1)<s.length-k
     omega
   ·have q7:¬(s[k]=32∨s[k]=10):=fun q=>by simp[hc7.2 ((yO hk).2 q)]at h7
    refine pS.skip ?_
    simp
    refine pS.seq ?_
    have hn:=QB s[k] (s.drop (k+1)) (by simp;omega)
    rw[←List.drop_eq_getElem_cons hk]at hn
    refine pS.ro hT hW (fun|22=>some<| .plain ⟨.d (aD (bV (s.drop k))),true⟩|_=>none) ?_
    simp
    refine⟨⟨by omega,hn⟩,?_⟩
    refine pS.seq ?_
    refine aA ?_
    simp
    refine aC ?_
    simp
    refine⟨fun h9=>?_,fun h9=>?_⟩
    ·refine pS.exit ?_
     simp
     refine aA ?_
     simp
     refine pS.ret ?_
     simp
     have e:=hi3.2.2
     rw[Ec hk q7 h9]at e
     rw[e]
     exact⟨⟨by simp,fun a _ c hc=>by simp[Tk.d,aE]at hc;rcases hc with rfl|rfl<;>rfl⟩,rfl⟩
    ·refine pS.skip ?_
     simp
     refine pS.seq ?_
     have hnl:=xC (s.drop k)
     rw[List.length_drop]at hnl
     refine aL ?_
     simp
     refine⟨⟨⟨⟨by omega,by omega⟩,by omega,by omega⟩,by omega,by omega⟩,?_⟩
     refine aL ?_
     simp
     refine⟨by omega,?_⟩
     refine KN.mk ⟨k+bV (s.drop k),L++[⟨(s.drop k).take (bV (s.drop k)),k⟩]⟩ (aB [0,4,5] [(35,4)] (by decide) (by decide) (by simp[hp]) (by simp) (by simp[Tk.d,GF])) ?_ ?_
     ·refine⟨?_,?_,?_⟩
      ·show(L++[_]).length≤k+bV (s.drop k)
       rw[List.length_append,List.length_singleton];omega
      ·show k+bV (s.drop k)≤s.length
       omega
      ·rw[hi3.2.2,FC hk q7 h9]
       simp
     ·show s.length-(k+bV (s.drop k))<s.length-k
      omega
 ·refine pS.exit ?_
  simp
  refine aA ?_
  simp
  refine pS.ret ?_
  simp
  have e:=hi3.2.2
  rw[FB h3]at e
  rw[e]
  exact⟨⟨by simp,fun a _ c hc=>by simp[Tk.d,aE]at hc;rcases hc with rfl|rfl<;>rfl⟩,rfl⟩
theorem QE(s:aN)(hl:s.length≤1000000000):Ok Tryz.prog 57 [.str s] ⟨.tup [.d (.sl ((eS s).1.map Tk.d)),.d (aD (eS s).2)],true⟩:=FA (OQ s hl)
end
end Go.Eng
namespace Go.Eng
open Go.RowKit
section
variable{P:Program} {T:TypeId→lF} {w0:iT} {X:Nat→Prop} {env:nC} {H:lD}
def OR(w0:iT)(T:TypeId→lF)(t:Nat)(ty:TypeId)(fin:List (Nat×aW))(ret:LV)(x:LX)(env:nC)(H:lD):Prop:=
 (match x with| .exit _=>False|_=>True)∧(lS T H ty (env t)).ok∧oM w0 (aY [(0,(lS T H ty (env t)).v)]) H (aY [(0,ret)]) (aK fin)
theorem eT{t:Nat}{ty:TypeId}{fin:List (Nat×aW)}{ret:LV}:OR w0 T t ty fin ret .ret env H↔(lS T H ty (env t)).ok∧oM w0 (aY [(0,(lS T H ty (env t)).v)]) H (aY [(0,ret)]) (aK fin):=by simp[OR]
theorem qX.cell(hT:mP P T){f:FuncId}{fn:Func}{c:Code}{args:List LV}{h fin:List (Nat×aW)}{ret:LV}{n t:Nat}{ty:TypeId}(hf:P.funcs[f]? =some fn)(hname:(fn.name== "runtime.NumGoroutine")=false)(hb:fn.body=some c)(hn:fn.ntmps=n)(hargs:args.length≤n)(hres:fn.results= #[.cell t ty])
 (hw:∀w0 X,w0.pins=h.map (·.1)→pS P n w0 X c (OR w0 T t ty fin ret) (tF args) (aK h)):qX P f args h fin ret:=
 wX hf hname hb hn hargs fun w0 X hp=>(hw w0 X hp).mono fun x env H ⟨h1,h2,h3⟩=>⟨h1,fun β a w s=>by
  obtain⟨v,hv,hr⟩:=wW hT s h2
  have s1:tS 1 w0 X (aY [(0,(lS T H ty (env t)).v)]) H β ⟨#[v],[]⟩ w:=by
   refine⟨EI.nil,rfl,s.ext,s.xold,s.fresh,s.inj,fun t'=>?_,s.obj,s.pin⟩
   cases t' with
   |zero=>exact hr
   |succ t'=>exact .junk _
  obtain⟨β',s'⟩:=h3 _ _ _ _ _ s1
  have e:=s'.env 0
  rw[show aY [(0,ret)] 0=ret by simp[aY,kQ]]at e
  refine⟨v,β',?_,s'.mem,e⟩
  simp only[results,hres]
  simpa [Sem.run_bind,Result.andThen]using hv⟩
theorem aS{l:LV}{x:DV}{env':nC}{H':lD}(h:Eng.close H 8 l=some x)(k:oM w0 (aY [(0,.d x)]) (bD H (aQ H (bL H 8 l))) env' H'):oM w0 (aY [(0,l)]) H env' H':=by
 have e:cY (aY [(0,l)]) 0 (.d x)=aY [(0,.d x)]:=by
  funext j
  by_cases q:j=0
  ·subst q;rfl
  ·rw[cQ _ _ q];simp[aY,kQ,q,Ne.symm q]
 have z:aY [(0,l)] 0=l:=by simp[aY,kQ]
 have c:=oM.close (w0:=w0) (H:=H) (env:=aY [(0,l)]) 0 (x:=x) (by rw[z];exact h)
 rw[e,z]at c
 exact c.trans k
theorem RU{β:Nat→Option Nat}{w:World}(m:fY w0 X H β w){id b:Nat}(hl:(H id).live=true)(hm:(H id).mut=false)(hb:β id=some b):¬Ex X β H b:=fun he=>by
 have hf:=m.fresh id b hl hb
 rcases he with he|⟨i,h1,h2⟩
 ·rcases hf.1 with h1|h1
  ·have:=(m.xold.1 b he).1;omega
  ·exact(m.xold.1 b he).2 h1.1
 ·have:=m.inj i id b (dE h1) hl h2 hb
  subst this
  rw[hm]at h1;cases h1
theorem oM.freeze(ids:List Nat):oM w0 env H env (bD H (aQ H ids)):=fun N X β a w s=>by
 obtain⟨m,g⟩:=s.mem.freeze ids
 exact⟨β,g.marks s.defers,s.size,m.ext,m.xold,m.fresh,m.inj,fun u=>g.R (s.env u),m.obj,m.pin⟩
theorem oM.shut(b:Nat){fz:Bool}{cs:List LV}{ds:List DV}(hH:H b=.box fz cs)(h:bY (cs.map (Eng.close H 8))=some ds)(ht:∀c∈cs,∀id∈bL H 8 c,(H id).mut=false):oM w0 env H env (cY H b (.box fz (ds.map .d))):=fun N X β a w s=>by
 obtain⟨e1,e2⟩:=pQ h
 obtain⟨m2,g2⟩:=s.mem.rebox (cs':=ds.map .d) hH (by simp[e1]) (fun i c c' v hc hc' hr=>by
  obtain⟨d,hd,rfl⟩:=lQ hc'
  have hcl:=e2 i _ _ hc hd
  exact .d _ _ (tT s.mem.obj (fun _ _ h=>h) 8 c d v hcl (fun id hid b hb=>RU s.mem (tA 8 c d hcl id hid) (ht c (List.mem_of_getElem? hc) id hid) hb) hr))
 exact⟨β,g2.marks s.defers,s.size,m2.ext,m2.xold,m2.fresh,m2.inj,fun u=>g2.R (s.env u),m2.obj,m2.pin⟩
theorem bI(b:Nat)(ids:List Nat){fz:Bool}{cs:List LV}{ds:List DV}(hH:H b=.box fz cs)(hb:b∉ids)(h:bY (cs.map (Eng.close (bD H (aQ H ids)) 8))=some ds)
 (ht:∀c∈cs,∀id∈bL (bD H (aQ H ids)) 8 c,(bD H (aQ H ids) id).mut=false):oM w0 env H env (cY (bD H (aQ H ids)) b (.box fz (ds.map .d))):=
 (oM.freeze ids).trans (oM.shut b (by rw[jE,if_neg hb];exact hH) h ht)
theorem zU{ι:Type}{E:ι→nC}{O:ι→lD}{I:ι→Prop}{μ:ι→Nat}{i:ι}{env':nC}{H':lD}(h:oM w0 env H env' H')(k:KN w0 E O I μ i env' H'):KN w0 E O I μ i env H:=by
 obtain⟨j,hw,r⟩:=k
 exact⟨j,h.trans hw,r⟩
theorem mU{ι:Type}{E:ι→nC}{O:ι→lD}{I:ι→Prop}{env':nC}{H':lD}(h:oM w0 env H env' H')(k:∃i,oM w0 env' H' (E i) (O i)∧I i):∃i,oM w0 env H (E i) (O i)∧I i:=by
 obtain⟨i,hw,r⟩:=k
 exact⟨i,h.trans hw,r⟩
end
end Go.Eng
namespace Go.Eng
open Go.Proofs
attribute[local simp] nP lH gR bA oC gK gS pE cY bD pL.plain pL.cond pL.fail dU mN tQ nO gC kQ kW lR memless nD eV jD uG EJ gQ fJ strip pD eD mC bW
 qY fZ iR gT iQ pU lk cH dX bQ cA bY oL fE pY iU jF bS eW bN dM gM fL fM eI fN gX gY gZ fO eJ fP eL fQ hU hZ iC iD fR iG oY oJ mkAgg tP BO jN bB gN aW.live TK.isNone TK.agg TK.isBool TK.isStr TK.isStruct Op.operands Call.operands
 bF cV cO dF eP oK lN cN dN iO fA kY aQ frozen lS
 jT jU lU gV jW jX jY kD lV gW kF kG kH kJ sE mM oO oP oS oT oV kK jR gU fK Nm.d Df.d Ed.d yV yW mK yX jS sL sM dK dL
 yY yZ sF zA zB sG sH sI oW zC zD sJ
 bZ aZ dP mB dQ bT cI bP eZ uJ TK.isInt jV kE oQ iB gP dO eX eY gE fD gB mO sZ nU yU sD
 nS kX mX nR cS eF dY lJ jG jH iV tF iH dJ iI iJ cH kA kC oN iW iK kL iE iF fT
 cP gO TK.isPtr eR cE kM qB qO jZ kI oU hO iA fS
attribute[local simp] eM kN iL
section
attribute[local simp] pL.cond Nd.d_eq nd_t nd_dr nd_td ndsD bG eT
def qZ(l:List Tk):DV:=.sl (l.map Tk.d)
theorem Ta:∀t:Tk,(aE t.d).length=2:=fun _=>rfl
def eU(p:PS):List (Nat×aW):=[(0,.box false [.d (qZ p.l),.d (aD p.e)])]
attribute[local simp] qZ eU
theorem eB(c:Prop)[Decidable c](A B:aW)(x:Nat):bD (fun x=>if x=0 then A else B) (if c then []else [(0,A)]) x=if x=0 then A else B:=by
 by_cases h:c<;>by_cases q:x=0<;>simp[h,q,bD,cY]
attribute[local simp] eB
theorem BG{p:PS}(h:¬p.e=0∨p.l=[]):p.peek=[]:=by
 unfold PS.peek
 by_cases q:p.e=0
 ·rcases h with h|h
  ·exact absurd q h
  ·rw[if_neg (by simpa using q),h]
 ·rw[if_pos q]
theorem FD{p:PS}{t:Tk}{r:List Tk}(h:p.e=0)(hl:p.l=t::r):p.peek=t.text:=by
 unfold PS.peek
 rw[if_neg (by simpa using h),hl]
theorem jM{p:PS}{s:aN}:p.is s=true↔s≠[]∧p.peek=s:=by simp[PS.is]
theorem cR{p:PS}{s:aN}(h:p.is s=true):p.took s=p.skip:=if_pos h
theorem mV{p:PS}{s:aN}(h:¬p.is s=true):p.took s=p:=if_neg h
theorem qU(p:PS):qX Tryz.prog 112 [.bx 0 0] (eU p) (eU p) (.d (.str p.peek)):=by
 unfold eU
 refine qX.one Tryz.func112 (by kernel_rfl) (c:=_) rfl Tryz.ntmps112 (by simp) Tryz.results112 fun w0 X hp=>?_
 refine aA ?_
 simp
 refine pS.seq ?_
 refine aA ?_
 simp
 refine aC ?_
 simp
 refine⟨fun g=>?_,fun g1 g2=>?_⟩
 ·refine aA ?_
  simp
  refine pS.ret ?_
  simp
  exact aB [2] [(0,0)] (by decide) (by decide) (by simp[hp]) (by simp[BG g]) (by simp)
 ·refine pS.skip ?_
  simp
  refine pS.seq ?_
  obtain⟨t,r,htr⟩:=List.exists_cons_of_ne_nil g2
  refine aL ?_
  simp[htr,Tk.d]
  refine pS.ret ?_
  simp
  exact aB [2] [(0,0)] (by decide) (by decide) (by simp[hp]) (by simp[FD g1 htr]) (by simp[htr])
theorem yP(p:PS)(e:Int):qX Tryz.prog 113 [.bx 0 0,.d (aD e)] (eU p) (eU (p.fail e)) (.tup []):=by
 unfold eU
 refine Au Tryz.func113 (by kernel_rfl) (c:=_) rfl Tryz.ntmps113 (by simp) Tryz.results113 fun w0 X hp=>?_
 refine aA ?_
 simp
 refine aC ?_
 simp
 refine⟨fun h0=>?_,fun h0=>?_⟩
 ·refine aL ?_
  simp
  exact aB [] [(0,0)] (by decide) (by decide) (by simp[hp]) (by simp) (by simp[PS.fail,h0])
 ·refine pS.skip ?_
  simp
  exact aB [] [(0,0)] (by decide) (by decide) (by simp[hp]) (by simp) (by simp[PS.fail,h0])
theorem oG(p:PS)(s:aN):qX Tryz.prog 114 [.bx 0 0,.d (.str s)] (eU p) (eU (p.took s)) (.d (.bool (p.is s))):=by
 unfold eU
 refine qX.one Tryz.func114 (by kernel_rfl) (c:=_) rfl Tryz.ntmps114 (by simp) Tryz.results114 fun w0 X hp=>?_
 refine aA ?_
 simp
 refine pS.seq ?_
 refine cB hT hW (fun|9=>some (.gen ⟨[(0,0)],[],[],eU p,.d (.str p.peek)⟩)|_=>none) ?_
 simp
 refine⟨fun _=>qU p,?_⟩
 refine aC ?_
 simp
 refine⟨fun g=>?_,fun g1 g2=>?_⟩
 ·refine aA ?_
  simp
  refine pS.ret ?_
  simp
  have hn:¬p.is s=true:=fun q=>by
   obtain⟨q1,q2⟩:=jM.1 q
   rcases g with g|g
   ·exact q1 g
   ·exact g q2
  exact aB [4] [(0,0)] (by decide) (by decide) (by simp[hp]) (by simp[hn]) (by simp[mV hn])
 ·refine pS.skip ?_
  simp
  refine pS.seq ?_
  have hs:p.is s=true:=jM.2 ⟨g1,by simpa using g2⟩
  have hl:=mG hs
  refine aL ?_
  simp
  refine⟨⟨by omega,fun t _=>Ta t⟩,?_⟩
  refine aA ?_
  simp
  refine pS.ret ?_
  simp
  exact aB [4] [(0,0)] (by decide) (by decide) (by simp[hp]) (by simp[hs]) (by simp[cR hs,PS.skip])
theorem GG{p:PS}{s:aN}(h:p.is s=true):p.need s=p.took s:=by unfold PS.need PS.took;rw[if_pos h,if_pos h]
theorem Ii{p:PS}{s:aN}(h:p.is s=false):p.need s=(p.took s).fail 2:=by
 have h':¬p.is s=true:=by simp[h]
 rw[mV h'];unfold PS.need;rw[if_neg h']
theorem wA{p:PS}(h:jO p.peek=true):aM p=(p.peek,p.took p.peek):=by
 have:p.is p.peek=true:=jM.2 ⟨fun e=>(by rw[e]at h;cases h),rfl⟩
 rw[cR this];unfold aM;rw[if_pos h]
theorem tK{p:PS}(h:jO p.peek=false):aM p=([],p.fail 2):=by unfold aM;rw[if_neg (by simp[h])]
theorem pN(p:PS)(s:aN):qX Tryz.prog 117 [.bx 0 0,.d (.str s)] (eU p) (eU (p.need s)) (.tup []):=by
 unfold eU
 refine Au Tryz.func117 (by kernel_rfl) (c:=_) rfl Tryz.ntmps117 (by simp) Tryz.results117 fun w0 X hp=>?_
 refine cB hT hW (fun|6=>some (.gen ⟨[(0,0)],[],[],eU (p.took s),.d (.bool (p.is s))⟩)|_=>none) ?_
 simp
 refine⟨oG p s,?_⟩
 refine aC ?_
 simp
 refine⟨fun h0=>?_,fun h0=>?_⟩
 ·have en:=Ii h0
  refine pS.ro hT hW (fun|9=>some (.gen ⟨[(0,0)],[],[],eU ((p.took s).fail 2),.tup []⟩)|_=>none) ?_
  simp
  refine⟨yP (p.took s) 2,?_⟩
  exact aB [] [(0,0)] (by decide) (by decide) (by simp[hp]) (by simp) (by simp[en])
 ·have en:=GG h0
  refine pS.skip ?_
  simp
  exact aB [] [(0,0)] (by decide) (by decide) (by simp[hp]) (by simp) (by simp[en])
theorem AL(p:PS):qX Tryz.prog 115 [.bx 0 0] (eU p) (eU (aM p).2) (.d (.str (aM p).1)):=by
 unfold eU
 refine qX.one Tryz.func115 (by kernel_rfl) (c:=_) rfl Tryz.ntmps115 (by simp) Tryz.results115 fun w0 X hp=>?_
 refine aA ?_
 simp
 refine cB hT hW (fun|5=>some (.gen ⟨[(0,0)],[],[],eU p,.d (.str p.peek)⟩)|_=>none) ?_
 simp
 refine⟨qU p,?_⟩
 refine pS.seq ?_
 refine cB hT hW (fun|7=>some<| .plain ⟨.d (.bool (jO p.peek)),true⟩|_=>none) ?_
 simp
 refine⟨Fu p.peek,?_⟩
 refine aC ?_
 simp
 refine⟨fun h2=>?_,fun h2=>?_⟩
 ·refine cB hT hW (fun|10=>some (.gen ⟨[(0,0)],[],[],eU (p.fail 2),.tup []⟩)|_=>none) ?_
  simp
  refine⟨yP p 2,?_⟩
  refine aA ?_
  simp
  refine pS.ret ?_
  simp
  exact aB [2] [(0,0)] (by decide) (by decide) (by simp[hp]) (by simp[tK h2]) (by simp[tK h2])
 ·refine pS.skip ?_
  simp
  refine cB hT hW (fun|13=>some (.gen ⟨[(0,0)],[],[],eU (p.took p.peek),.d (.bool (p.is p.peek))⟩)|_=>none) ?_
  simp
  refine⟨oG p p.peek,?_⟩
  refine aA ?_
  simp
  refine pS.ret ?_
  simp
  exact aB [2] [(0,0)] (by decide) (by decide) (by simp[hp]) (by simp[wA h2]) (by simp[wA h2])
end
open Go.Proofs
section
attribute[local simp] pL.cond Nd.d_eq nd_t nd_dr nd_td ndsD bG
def Tk.r(t:Tk):DV:=.agg [aD t.at_,aD (t.at_+t.text.length)]
def SQ(s:aN)(t:Tk):Prop:=∃a:Nat,t.at_=a∧a+t.text.length≤s.length∧(s.drop a).take t.text.length=t.text
theorem Ee(s:aN):∀(f k:Nat),k≤s.length→∀t∈(lW f (s.drop k) k).1,SQ s t
 |0,_,_,t,h=>by simp[lW]at h
 |f+1,k,hk,t,h=>by
  by_cases hl:k<s.length
  ·have hd:=List.drop_eq_getElem_cons hl
   have h1:=Ee s f (k+1) hl
   have h2:=Ee s f (k+bV (s.drop k))
   generalize s[k]=c at hd
   have hn:=xC (s.drop k)
   rw[List.length_drop]at hn
   have e:lW (f+1) (s.drop k) k=if c=32∨c=10 then lW f (s.drop (k+1)) ((k:Int)+1)else if bV (s.drop k)=0 then([],(k:Int))else
    (⟨(s.drop k).take (bV (s.drop k)),k⟩::(lW f ((s.drop k).drop (bV (s.drop k))) ((k:Int)+bV (s.drop k))).1,(lW f ((s.drop k).drop (bV (s.drop k))) ((k:Int)+bV (s.drop k))).2):=by
    rw[hd];rfl
   rw[e]at h
   split at h
   ·exact h1 t (by simpa using h)
   ·split at h
    ·simp at h
    ·rw[List.drop_drop]at h
     simp only[List.mem_cons]at h
     rcases h with h|h
     ·refine⟨k,by rw[h],?_,?_⟩
      ·rw[h];simp only[List.length_take,List.length_drop];omega
      ·rw[h];simp only[List.length_take];rw[Nat.min_eq_left (by rw[List.length_drop];omega)]
     ·exact h2 (by omega) t (by simpa using h)
  ·rw[List.drop_eq_nil_of_le (by omega)]at h
   simp[lW]at h
theorem Mu{s:aN}{i:Nat}(h:0≤vB s i):0<bV (s.drop i):=by
 unfold vB at h
 split at h
 ·assumption
 ·omega
theorem OS{s:aN}{t:Tk}(h:t∈(eS s).1):SQ s t:=Ee s s.length 0 (Nat.zero_le _) t (by simpa [eS]using h)
theorem Mv(s:aN)(hl:s.length≤1000000000):Ok Tryz.prog 50 [.str s] ⟨.tup [.own 2 ((eS s).1.map Tk.r),.d (aD (eS s).2)],true⟩:=by
 refine DC Tryz.func50 (by kernel_rfl) (c:=_) rfl Tryz.ntmps50 (by simp) Tryz.results50 rfl fun w0 X hp=>?_
 refine aA ?_
 simp
 refine aA ?_
 simp
 refine aA ?_
 simp
 refine pS.seq ?_
 refine pS.block ?_
 refine bX (ι:=Th) (fun⟨k,L⟩=>aY [(0,.d (.str s)),(4,.ow 4 0 L.length),(5,.d (aD k))]) (fun⟨k,L⟩=>aK [(4,.row false 2 (L.map Tk.r))]) (fun⟨k,L⟩=>L.length≤k∧k≤s.length∧eS s=(L++(rX s k).1,(rX s k).2)) (fun⟨k,L⟩=>s.length-k) ⟨0,[]⟩ (aB [0,4,5] [(4,4)] (by decide) (by decide) (by simp[hp]) (by simp) (by simp)) (⟨Nat.le_refl _,Nat.zero_le _,by simp[rX,eS]⟩) fun⟨k,L⟩ hi3=>?_
 refine pS.seq ?_
 refine aA ?_
 simp
 refine aC ?_
 simp
 refine⟨fun h3=>?_,fun h3=>?_⟩
 ·refine pS.skip ?_
  simp
  refine pS.block ?_
  refine pS.seq ?_
  refine pS.seq ?_
  have hk:k<s.length:=by omega
  refine aL ?_
  simp
  refine⟨⟨hk,fun _=>hk⟩,?_⟩
  refine aC ?_
  simp
  refine⟨fun g=>?_,fun g1 g2=>?_⟩
  ·have q4:=(yO hk).1 g
   refine aA ?_
   simp
   refine⟨by omega,?_⟩
   refine pS.exit ?_
   simp
   refine KN.mk ⟨k+1,L⟩ (aB [0,4,5] [(4,4)] (by decide) (by decide) (by simp[hp]) (by simp) (by simp)) ?_ ?_
   ·refine⟨Nat.le_succ_of_le hi3.1,hk,?_⟩
    rw[hi3.2.2,Cn hk q4]
   ·show s.length-(k+1)<s.length-k
    omega
  ·have q4:¬(s[k]=32∨s[k]=10):=fun q=>by have:=(yO hk).2 q;omega
   refine pS.skip ?_
   simp
   refine pS.seq ?_
   have hn:=OP s k hk (by omega)
   refine pS.ro hT hW (fun|25=>some<| .plain ⟨.d (aD (vB s k)),true⟩|_=>none) ?_
   simp
   refine⟨hn,?_⟩
   refine pS.seq ?_
   refine aA ?_
   simp
   refine aC ?_
   simp
   refine⟨fun h7=>?_,fun h7=>?_⟩
   ·refine aA ?_
    simp
    refine pS.ret ?_
    simp
    have h9:bV (s.drop k)=0:=by
     rcases Nat.eq_zero_or_pos (bV (s.drop k))with z|z
     ·exact z
     ·rw[show vB s k=(k:Int)+bV (s.drop k) from if_pos z]at h7;omega
    have e:=hi3.2.2
    rw[Ec hk q4 h9]at e
    rw[e]
    exact⟨⟨by simp,fun a _ c hc=>by simp[Tk.r,aE]at hc;rcases hc with rfl|rfl<;>rfl⟩,rfl⟩
   ·have hpos:0<bV (s.drop k):=Mu (by omega)
    have hnr:vB s k=(k:Int)+bV (s.drop k):=if_pos hpos
    have hnl:=xC (s.drop k)
    rw[List.length_drop]at hnl
    have tok_len2:min (bV (s.drop k)) (s.length-k)=bV (s.drop k):=by omega
    refine pS.skip ?_
    simp
    refine aA ?_
    simp
    refine⟨⟨by omega,by omega⟩,?_⟩
    refine aL ?_
    simp
    refine KN.mk ⟨k+bV (s.drop k),L++[⟨(s.drop k).take (bV (s.drop k)),k⟩]⟩ (aB [0,4,5] [(35,4)] (by decide) (by decide) (by simp[hp]) (by simp[hnr]) (by simp[Tk.r,hnr,tok_len2])) ?_ ?_
    ·refine⟨?_,?_,?_⟩
     ·show(L++[_]).length≤k+bV (s.drop k)
      rw[List.length_append,List.length_singleton];omega
     ·show k+bV (s.drop k)≤s.length
      omega
     ·rw[hi3.2.2,FC hk q4 (by omega)]
      simp
    ·show s.length-(k+bV (s.drop k))<s.length-k
     omega
 ·refine pS.exit ?_
  simp
  refine aA ?_
  simp
  refine pS.ret ?_
  simp
  have e:=hi3.2.2
  rw[FB h3]at e
  rw[e]
  exact⟨⟨by simp,fun a _ c hc=>by simp[Tk.r,aE]at hc;rcases hc with rfl|rfl<;>rfl⟩,rfl⟩
theorem OT(s:aN)(hl:s.length≤1000000000):Ok Tryz.prog 50 [.str s] ⟨.tup [.d (.sl ((eS s).1.map Tk.r)),.d (aD (eS s).2)],true⟩:=FA (Mv s hl)
end
end Go.Eng
namespace Go.Proofs
open Go.Shelf
def Tryz.atoiLay_ren:Go.Shelf.Ren:=⟨fun|172=>163|244=>212|245=>213|247=>246|279=>247|280=>248|281=>249|282=>250|287=>271|316=>272|171=>123|205=>273|321=>286|322=>287|243=>168|246=>224|283=>253|284=>254|285=>255|286=>256|129=>180|317=>275|318=>276|319=>277|320=>278|337=>288|338=>289|n=>n,fun|9=>9|3=>3|75=>192|76=>193|4=>4|5=>5|167=>237|37=>75|0=>0|85=>238|2=>2|168=>240|53=>145|175=>258|46=>165|210=>262|127=>272|145=>275|143=>273|21=>21|171=>247|173=>249|212=>265|51=>142|20=>20|213=>266|232=>151|233=>144|80=>81|n=>n,fun|15=>6|16=>7|17=>8|18=>9|19=>10|n=>n⟩
theorem Tryz.atoiLay:Go.Proofs.Lays.n172 Tryz.prog Tryz.atoiLay_ren:={
 mixed:=by kernel_rfl,
 f129:=Tryz.func180.trans (congrArg some (by kernel_rfl)),
 f171:=Tryz.func123.trans (congrArg some (by kernel_rfl)),
 f172:=Tryz.func163.trans (congrArg some (by kernel_rfl)),
 f205:=Tryz.func273.trans (congrArg some (by kernel_rfl)),
 f243:=Tryz.func168.trans (congrArg some (by kernel_rfl)),
 f244:=Tryz.func212.trans (congrArg some (by kernel_rfl)),
 f245:=Tryz.func213.trans (congrArg some (by kernel_rfl)),
 f246:=Tryz.func224.trans (congrArg some (by kernel_rfl)),
 f247:=Tryz.func246.trans (congrArg some (by kernel_rfl)),
 f279:=Tryz.func247.trans (congrArg some (by kernel_rfl)),
 f280:=Tryz.func248.trans (congrArg some (by kernel_rfl)),
 f281:=Tryz.func249.trans (congrArg some (by kernel_rfl)),
 f282:=Tryz.func250.trans (congrArg some (by kernel_rfl)),
 f283:=Tryz.func253.trans (congrArg some (by kernel_rfl)),
 f284:=Tryz.func254.trans (congrArg some (by kernel_rfl)),
 f285:=Tryz.func255.trans (congrArg some (by kernel_rfl)),
 f286:=Tryz.func256.trans (congrArg some (by kernel_rfl)),
 f287:=Tryz.func271.trans (congrArg some (by kernel_rfl)),
 f316:=Tryz.func272.trans (congrArg some (by kernel_rfl)),
 f317:=Tryz.func275.trans (congrArg some (by kernel_rfl)),
 f318:=Tryz.func276.trans (congrArg some (by kernel_rfl)),
 f319:=Tryz.func277.trans (congrArg some (by kernel_rfl)),
 f320:=Tryz.func278.trans (congrArg some (by kernel_rfl)),
 f321:=Tryz.func286.trans (congrArg some (by kernel_rfl)),
 f322:=Tryz.func287.trans (congrArg some (by kernel_rfl)),
 f337:=Tryz.func288.trans (congrArg some (by kernel_rfl)),
 f338:=Tryz.func289.trans (congrArg some (by kernel_rfl)),
 t0:=Tryz.underlying0,
 a0:=Tryz.isAgg0,
 z0:=Tryz.sizeOf0,
 v0:=Tryz.zeroValue0,
 t2:=Tryz.underlying2,
 a2:=Tryz.isAgg2,
 z2:=Tryz.sizeOf2,
 v2:=Tryz.zeroValue2,
 t3:=Tryz.underlying3,
 a3:=Tryz.isAgg3,
 z3:=Tryz.sizeOf3,
 v3:=Tryz.zeroValue3,
 t4:=Tryz.underlying4,
 a4:=Tryz.isAgg4,
 z4:=Tryz.sizeOf4,
 v4:=Tryz.zeroValue4,
 t5:=Tryz.underlying5,
 a5:=Tryz.isAgg5,
 z5:=Tryz.sizeOf5,
 v5:=Tryz.zeroValue5,
 t9:=Tryz.underlying9,
 a9:=Tryz.isAgg9,
 z9:=Tryz.sizeOf9,
 v9:=Tryz.zeroValue9,
 t20:=Tryz.underlying20,
 a20:=Tryz.isAgg20,
 z20:=Tryz.sizeOf20,
 v20:=Tryz.zeroValue20,
 t21:=Tryz.underlying21,
 a21:=Tryz.isAgg21,
 z21:=Tryz.sizeOf21,
 v21:=Tryz.zeroValue21,
 t37:=Tryz.underlying75,
 a37:=Tryz.isAgg75,
 z37:=Tryz.sizeOf75,
 v37:=Tryz.zeroValue75,
 t46:=Tryz.underlying165,
 a46:=Tryz.isAgg165,
 z46:=Tryz.sizeOf165,
 v46:=Tryz.zeroValue165,
 t51:=Tryz.underlying142,
 a51:=Tryz.isAgg142,
 z51:=Tryz.sizeOf142,
 v51:=Tryz.zeroValue142,
 t53:=Tryz.underlying145,
 a53:=Tryz.isAgg145,
 z53:=Tryz.sizeOf145,
 v53:=Tryz.zeroValue145,
 t75:=Tryz.underlying192,
 a75:=Tryz.isAgg192,
 z75:=Tryz.sizeOf192,
 v75:=Tryz.zeroValue192,
 t76:=Tryz.underlying193,
 a76:=Tryz.isAgg193,
 z76:=Tryz.sizeOf193,
 v76:=Tryz.zeroValue193,
 t85:=Tryz.underlying238,
 a85:=Tryz.isAgg238,
 z85:=Tryz.sizeOf238,
 v85:=Tryz.zeroValue238,
 t127:=Tryz.underlying272,
 a127:=Tryz.isAgg272,
 z127:=Tryz.sizeOf272,
 v127:=Tryz.zeroValue272,
 t143:=Tryz.underlying273,
 a143:=Tryz.isAgg273,
 z143:=Tryz.sizeOf273,
 v143:=Tryz.zeroValue273,
 t145:=Tryz.underlying275,
 a145:=Tryz.isAgg275,
 z145:=Tryz.sizeOf275,
 v145:=Tryz.zeroValue275,
 t167:=Tryz.underlying237,
 a167:=Tryz.isAgg237,
 z167:=Tryz.sizeOf237,
 v167:=Tryz.zeroValue237,
 t168:=Tryz.underlying240,
 a168:=Tryz.isAgg240,
 z168:=Tryz.sizeOf240,
 v168:=Tryz.zeroValue240,
 t171:=Tryz.underlying247,
 a171:=Tryz.isAgg247,
 z171:=Tryz.sizeOf247,
 v171:=Tryz.zeroValue247,
 t173:=Tryz.underlying249,
 a173:=Tryz.isAgg249,
 z173:=Tryz.sizeOf249,
 v173:=Tryz.zeroValue249,
 t175:=Tryz.underlying258,
 a175:=Tryz.isAgg258,
 z175:=Tryz.sizeOf258,
 v175:=Tryz.zeroValue258,
 t210:=Tryz.underlying262,
 a210:=Tryz.isAgg262,
 z210:=Tryz.sizeOf262,
 v210:=Tryz.zeroValue262,
 t212:=Tryz.underlying265,
 a212:=Tryz.isAgg265,
 z212:=Tryz.sizeOf265,
 v212:=Tryz.zeroValue265,
 t213:=Tryz.underlying266,
 a213:=Tryz.isAgg266,
 z213:=Tryz.sizeOf266,
 t232:=Tryz.underlying151,
 a232:=Tryz.isAgg151,
 z232:=Tryz.sizeOf151,
 v232:=Tryz.zeroValue151,
 t233:=Tryz.underlying144,
 a233:=Tryz.isAgg144,
 z233:=Tryz.sizeOf144,
 v233:=Tryz.zeroValue144,
 g15:=by kernel_rfl,
 g16:=by kernel_rfl,
 g17:=by kernel_rfl,
 g18:=by kernel_rfl,
 g19:=by kernel_rfl}
end Go.Proofs
namespace Go.Eng
open Go.Proofs
attribute[local simp] nP lH gR bA oC gK gS pE cY bD pL.plain pL.cond pL.fail dU mN tQ nO gC kQ kW lR memless nD eV jD uG EJ gQ fJ strip pD eD mC bW
 qY fZ iR gT iQ pU lk cH dX bQ cA bY oL fE pY iU jF bS eW bN dM gM fL fM eI fN gX gY gZ fO eJ fP eL fQ hU hZ iC iD fR iG oY oJ mkAgg tP BO jN bB gN aW.live TK.isNone TK.agg TK.isBool TK.isStr TK.isStruct Op.operands Call.operands
 bF cV cO dF eP oK lN cN dN iO fA kY aQ frozen lS
 jT jU lU gV jW jX jY kD lV gW kF kG kH kJ sE mM oO oP oS oT oV kK jR gU fK Nm.d Df.d Ed.d yV yW mK yX jS sL sM dK dL
 yY yZ sF zA zB sG sH sI oW zC zD sJ
 bZ aZ dP mB dQ bT cI bP eZ uJ TK.isInt jV kE oQ iB gP dO eX eY gE fD gB mO sZ nU yU sD
 nS kX mX nR cS eF dY lJ jG jH iV tF iH dJ iI iJ cH kA kC oN iW iK kL iE iF fT
 cP gO TK.isPtr eR cE kM qB qO jZ kI oU hO iA fS
attribute[local simp] eM kN iL
section
attribute[local simp] pL.cond Nd.d_eq nd_t nd_dr nd_td ndsD bG eT qZ eU eB
theorem BH{c:UInt8}(h:aO c=true):Lib.digitVal c=some (c.toNat-48)∧48≤c.toNat∧c.toNat≤57:=by
 rw[BA]at h
 simp only[Bool.and_eq_true,decide_eq_true_eq]at h
 have h1:48≤c.toNat:=by omega
 have h2:c.toNat≤57:=by omega
 exact⟨by unfold Lib.digitVal;rw[if_pos ⟨h1,h2⟩],h1,h2⟩
theorem Ef:∀(s:aN) (acc:Nat),(∀c∈s,aO c=true)→∃m:Nat,Lib.decFrom acc s=some m∧(m:Int)=s.foldl (fun n c=>10*n+((c.toNat:Int)- 48)) (acc:Int)
 |[],acc,_=>⟨acc,rfl,rfl⟩
 |c::r,acc,h=>by
  obtain⟨h1,h2,h3⟩:=BH (h c (List.mem_cons_self ..))
  obtain⟨m,e1,e2⟩:=Ef r (acc*10+(c.toNat-48)) fun x hx=>h x (List.mem_cons_of_mem _ hx)
  refine⟨m,?_,?_⟩
  ·unfold Lib.decFrom;rw[h1];exact e1
  ·rw[e2,List.foldl_cons]
   congr 1
   omega
theorem Ij{s:aN}(h0:s≠[])(h:∀c∈s,aO c=true):Lib.atoi s=some (qJ s):=by
 cases s with
 |nil=>exact absurd rfl h0
 |cons c r=>
  obtain⟨m,e1,e2⟩:=Ef (c::r) 0 h
  obtain⟨_,d1,d2⟩:=BH (h c (List.mem_cons_self ..))
  have n1:¬(c==45)=true:=fun q=>(by have e:c=45:=(by simpa using q);subst e;exact absurd d1 (by decide))
  have n2:¬(c==43)=true:=fun q=>(by have e:c=43:=(by simpa using q);subst e;exact absurd d1 (by decide))
  show(if(c==45)=true then(Lib.decNat r).map (fun m:Nat=> -(m:Int))else if(c==43)=true then(Lib.decNat r).map (fun m:Nat=>(m:Int))else(Lib.decNat (c::r)).map (fun m:Nat=>(m:Int)))=some (qJ (c::r))
  rw[if_neg n1,if_neg n2]
  unfold Lib.decNat
  rw[if_neg (by simp),e1,Option.map_some,e2]
  rfl
theorem Eg{s:aN}(h:vV s)(hd:aO (s[0]?.getD 0)=true):s.length≤3∧∀c∈s,aO c=true:=by
 obtain⟨h0,h1⟩:=h
 cases s with
 |nil=>exact absurd rfl h0
 |cons c r=>
  have hd:aO c=true:=hd
  obtain⟨_,d1,d2⟩:=BH hd
  have nl:¬aV c=true:=fun q=>by
   rw[zT]at q
   simp only[Bool.and_eq_true,decide_eq_true_eq]at q
   omega
  have n36:¬c=36:=fun q=>by subst q;exact absurd d1 (by decide)
  rw[lY,if_neg nl,if_neg n36,if_pos hd]at h1
  by_cases q:iX aO (c::r)≤3
  ·rw[if_pos q]at h1
   refine⟨by omega,fun x hx=>?_⟩
   obtain⟨i,hi,rfl⟩:=List.getElem_of_mem hx
   exact wZ hi (by omega)
  ·rw[if_neg q]at h1;simp at h1
theorem La{s:aN}(h:vV s):s.length≤17:=by
 obtain⟨h0,h1⟩:=h
 cases s with
 |nil=>simp
 |cons c r=>
  rw[←h1,lY]
  have hw:∀t:aN,dR t≤16:=fun t=>by
   rcases Nat.eq_zero_or_pos (dR t)with q|q
   ·omega
   ·obtain⟨_,_,_,_,_,q2⟩:=oF q
    exact q2
  have a1:=hw (c::r)
  have a2:=hw r
  repeat' split
  all_goals omega
theorem qV{p:PS}(h:bH p.l):p.peek.length≤17:=by
 by_cases q:p.peek=[]
 ·rw[q];simp
 ·exact La (uV h q)
theorem QF(s:aN)(n:Int)(hl:s.length≤18)(h:Lib.atoi s=some n):Ok Tryz.prog 163 [.str s] ⟨.tup [.d (aD n),.d (.val .nilIface)],true⟩:=by
 refine⟨⟨_,Tryz.func163,by kernel_rfl,rfl⟩,fun w X vs hX hr=>?_⟩
 match vs,hr.1 with
 |[u],_=>
  have h1:=hr.2 0 _ _ rfl rfl
  cases h1
  refine(Go.Proofs.Any.strconv_Atoi Tryz.atoiLay ⟨s.toArray⟩ n (by simpa [ByteArray.size]using hl) (by simpa using h) w).mono ?_
  rintro e w' ⟨rfl,t,rfl⟩
  refine⟨_,rfl,?_,?_⟩
  ·refine⟨by unfold Lib.bytesWorld World.freeze;split<;>rfl,by unfold Lib.bytesWorld World.freeze;split<;>rfl,by unfold Lib.bytesWorld World.freeze;split<;>rfl,by rw[Lib.bytesWorld_size];omega,fun k hk=>Lib.bytesWorld_at_old _ _ _ k hk,?_⟩
   unfold Lib.bytesWorld World.freeze
   split<;>exact Nat.le_succ w.drawn
  ·refine⟨[.int .i64 n,.nilIface],fun _=>none,rfl,rfl,fun _ _ _ q=>(by cases q),fun i r v hi hv=>?_⟩
   match i,hi with
   |0,hi=>cases hi;cases hv;exact .int _ _
   |1,hi=>cases hi;cases hv;exact .val _ rfl
theorem EG(s t:aN)(hl:s.length≤9223372036854775807)(ht:t.length≤9223372036854775807):Ok Tryz.prog 270 [.str s,.str t] ⟨.tup [.d (.str (if s.take t.length=t then s.drop t.length else s)),.d (.bool (decide (s.take t.length=t)))],true⟩:=by
 refine DC Tryz.func270 (by kernel_rfl) (c:=_) rfl Tryz.ntmps270 (by simp) Tryz.results270 rfl fun w0 X hp=>?_
 refine aA ?_
 simp
 refine pS.seq ?_
 refine pS.seq ?_
 have h:=zK s t hl ht
 refine pS.ro hT hW (fun|8=>some<| .plain ⟨.d (.bool (decide (s.take t.length=t))),true⟩|_=>none) ?_
 simp
 refine⟨h,?_⟩
 refine aC ?_
 simp
 refine⟨fun h1=>?_,fun h1=>?_⟩
 ·refine aA ?_
  simp
  refine pS.ret ?_
  simp
  exact⟨fun q=>absurd q h1,h1⟩
 ·refine pS.skip ?_
  simp
  refine pS.seq ?_
  have hle:t.length≤s.length:=by have e:=congrArg List.length h1;rw[List.length_take]at e;omega
  refine aL ?_
  simp
  refine⟨by omega,?_⟩
  refine pS.ret ?_
  simp
  exact⟨fun q=>absurd h1 q,h1⟩
theorem GH(s t:aN)(hl:s.length≤9223372036854775807)(ht:t.length≤9223372036854775807):Ok Tryz.prog 245 [.str s,.str t] ⟨.tup [.d (.str (if s.take t.length=t then s.drop t.length else s)),.d (.bool (decide (s.take t.length=t)))],true⟩:=by
 refine DC Tryz.func245 (by kernel_rfl) (c:=_) rfl Tryz.ntmps245 (by simp) Tryz.results245 rfl fun w0 X hp=>?_
 refine aA ?_
 simp
 refine pS.seq ?_
 have h:=EG s t hl ht
 refine pS.ro hT hW (fun|8=>some<| .plain ⟨.tup [.d (.str (if s.take t.length=t then s.drop t.length else s)),.d (.bool (decide (s.take t.length=t)))],true⟩|_=>none) ?_
 simp[cX]
 refine⟨h,?_⟩
 refine pS.ret ?_
 simp
theorem pJ{p:PS}(h:p.peek.take 1=[36]):p.peek=36::p.peek.drop 1∧aU p=(p.peek.drop 1,p.took p.peek):=by
 cases e:p.peek with
 |nil=>rw[e]at h;cases h
 |cons c r=>
  rw[e]at h
  have hc:c=36:=by simpa using h
  subst hc
  have hi:p.is (36::r)=true:=jM.2 ⟨by simp,e⟩
  refine⟨rfl,?_⟩
  rw[cR hi]
  unfold aU
  rw[e]
  rfl
theorem rP{p:PS}(h:¬p.peek.take 1=[36]):aU p=([],p.fail 2):=by
 unfold aU
 split
 ·rename_i r e
  rw[e]at h;exact absurd rfl h
 ·rfl
theorem GI{k:Int}{p:PS}(h:p.peek=[]∨aO (p.peek[0]?.getD 0)=false):aP k p=(0,p.fail 2):=by
 unfold aP
 split
 ·rfl
 ·rename_i c r e
  rw[e]at h
  rcases h with h|h
  ·cases h
  ·have h:aO c=false:=h
   rw[if_neg (by simp[h])]
theorem GJ{k:Int}{p:PS}(h0:¬p.peek=[])(h1:aO (p.peek[0]?.getD 0)=true)(h2:qJ p.peek<dZ k∨eC k<qJ p.peek):aP k p=(0,p.fail 5):=by
 unfold aP
 split
 ·rename_i e;exact absurd e h0
 ·rename_i c r e
  rw[e]at h1 h2
  have h1:aO c=true:=h1
  rw[if_pos h1,if_pos h2]
theorem JT{k:Int}{p:PS}(h0:¬p.peek=[])(h1:aO (p.peek[0]?.getD 0)=true)(h2:¬(qJ p.peek<dZ k∨eC k<qJ p.peek)):aP k p=(qJ p.peek,p.took p.peek):=by
 have hi:p.is p.peek=true:=jM.2 ⟨h0,rfl⟩
 rw[cR hi]
 unfold aP
 split
 ·rename_i e;exact absurd e h0
 ·rename_i c r e
  rw[e]at h1 h2
  have h1:aO c=true:=h1
  rw[if_pos h1,if_neg h2,e]
theorem AM(p:PS)(hg:bH p.l):qX Tryz.prog 210 [.bx 0 0] (eU p) (eU (aU p).2) (.d (.str (aU p).1)):=by
 unfold eU
 refine qX.one Tryz.func210 (by kernel_rfl) (c:=_) rfl Tryz.ntmps210 (by simp) Tryz.results210 fun w0 X hp=>?_
 refine aA ?_
 simp
 refine pS.seq ?_
 have hk:=qV hg
 have hc:=GH p.peek [36] (by omega) (by decide)
 refine pS.ro hT hW (fun|7=>some (.gen ⟨[(0,0)],[],[],eU p,.d (.str p.peek)⟩)|8=>some<| .plain ⟨.tup [.d (.str (if p.peek.take 1=[36]then p.peek.drop 1 else p.peek)),.d (.bool (decide (p.peek.take 1=[36])))],true⟩|_=>none) ?_
 simp[cX]
 refine⟨⟨qU p,by simpa using hc⟩,?_⟩
 refine pS.seq ?_
 refine aA ?_
 simp
 refine aC ?_
 simp
 refine⟨fun h2=>?_,fun h2=>?_⟩
 ·refine cB hT hW (fun|14=>some (.gen ⟨[(0,0)],[],[],eU (p.fail 2),.tup []⟩)|_=>none) ?_
  simp
  refine⟨yP p 2,?_⟩
  refine aA ?_
  simp
  refine pS.ret ?_
  simp
  exact aB [2] [(0,0)] (by decide) (by decide) (by simp[hp]) (by simp[rP h2]) (by simp[rP h2])
 ·refine pS.skip ?_
  simp
  refine pS.seq ?_
  obtain⟨e1,e2⟩:=pJ h2
  have e3:36::p.peek.tail=p.peek:=by rw[←List.drop_one];exact e1.symm
  have ht:=oG p p.peek
  have hl3:=congrArg List.length e3
  refine pS.ro hT hW (fun|18=>some (.gen ⟨[(0,0)],[],[],eU (p.took p.peek),.d (.bool (p.is p.peek))⟩)|_=>none) ?_
  simp[h2]
  refine⟨⟨by simp at hl3;omega,by rw[e3];exact ht⟩,?_⟩
  refine aA ?_
  simp
  refine pS.ret ?_
  simp
  exact aB [2] [(0,0)] (by decide) (by decide) (by simp[hp]) (by simp[h2,e2]) (by simp[e2])
theorem tL(p:PS)(k:Int)(hg:bH p.l)(hk:0≤k∧k<37):qX Tryz.prog 119 [.bx 0 0,.d (aD k)] (eU p) (eU (aP k p).2) (.d (aD (aP k p).1)):=by
 unfold eU
 refine qX.one Tryz.func119 (by kernel_rfl) (c:=_) rfl Tryz.ntmps119 (by simp) Tryz.results119 fun w0 X hp=>?_
 refine aA ?_
 simp
 refine cB hT hW (fun|9=>some (.gen ⟨[(0,0)],[],[],eU p,.d (.str p.peek)⟩)|_=>none) ?_
 simp
 refine⟨qU p,?_⟩
 refine pS.seq ?_
 refine pS.seq ?_
 have hd:=xI (p.peek[0]?.getD 0)
 refine pS.ro hT hW (fun|15=>some<| .plain ⟨.d (.bool (aO (p.peek[0]?.getD 0))),true⟩|_=>none) ?_
 simp
 refine⟨⟨fun h=>List.length_pos_iff.2 h,fun _=>hd⟩,?_⟩
 refine aC ?_
 simp
 refine⟨fun g=>?_,fun g1 g2=>?_⟩
 ·refine cB hT hW (fun|19=>some (.gen ⟨[(0,0)],[],[],eU (p.fail 2),.tup []⟩)|_=>none) ?_
  simp
  refine⟨yP p 2,?_⟩
  refine aA ?_
  simp
  refine pS.ret ?_
  simp
  have e:=GI (k:=k) g
  exact aB [4] [(0,0)] (by decide) (by decide) (by simp[hp]) (by simp[e]) (by simp[e])
 ·refine pS.skip ?_
  simp
  refine pS.seq ?_
  obtain⟨hl,hds⟩:=Eg (uV hg g1) g2
  have ha:=QF p.peek (qJ p.peek) (by omega) (Ij g1 hds)
  refine pS.ro hT hW (fun|22=>some<| .plain ⟨.tup [.d (aD (qJ p.peek)),.d (.val .nilIface)],true⟩|_=>none) ?_
  simp[cX]
  refine⟨ha,?_⟩
  refine pS.seq ?_
  refine pS.seq ?_
  have hg1:=Ib hk
  have hg2:=Ic hk
  have hg3:=Fv
  refine aL ?_
  simp[hg1,hg2]
  refine⟨⟨⟨⟨hk,by omega⟩,fun _=>hk⟩,fun _=>by omega⟩,?_⟩
  refine aC ?_
  simp
  refine⟨fun b=>?_,fun b1 b2=>?_⟩
  ·refine cB hT hW (fun|40=>some (.gen ⟨[(0,0)],[],[],eU (p.fail 5),.tup []⟩)|_=>none) ?_
   simp
   refine⟨yP p 5,?_⟩
   refine aA ?_
   simp
   refine pS.ret ?_
   simp
   have e:=GJ (k:=k) g1 g2 b
   exact aB [4] [(0,0)] (by decide) (by decide) (by simp[hp]) (by simp[e]) (by simp[e])
  ·refine pS.skip ?_
   simp
   refine cB hT hW (fun|43=>some (.gen ⟨[(0,0)],[],[],eU (p.took p.peek),.d (.bool (p.is p.peek))⟩)|_=>none) ?_
   simp
   refine⟨oG p p.peek,?_⟩
   refine aA ?_
   simp
   refine pS.ret ?_
   simp
   have e:=JT (k:=k) g1 g2 (by omega)
   exact aB [4] [(0,0)] (by decide) (by decide) (by simp[hp]) (by simp[e]) (by simp[e])
theorem Mw{k:Int}{p:PS}(h:bH p.l)(hk:dZ k≤0∧0≤eC k∧ -999≤dZ k∧eC k≤999): -999≤(aP k p).1∧(aP k p).1≤999:=by
 by_cases q1:p.peek=[]∨aO (p.peek[0]?.getD 0)=false
 ·rw[GI q1];simp
 ·have q2:¬p.peek=[]:=fun e=>q1 (.inl e)
  have q3:aO (p.peek[0]?.getD 0)=true:=by
   cases e:aO (p.peek[0]?.getD 0)with
   |true=>rfl
   |false=>exact absurd (.inr e) q1
  by_cases q4:qJ p.peek<dZ k∨eC k<qJ p.peek
  ·rw[GJ q2 q3 q4];simp
  ·rw[JT q2 q3 q4];simp only;omega
theorem JU{p:PS}(h:p.is [45]=true):bK p=(-(aP 0 (p.took [45])).1,(aP 0 (p.took [45])).2):=by
 rw[cR h];unfold bK;rw[if_pos h]
theorem JV{p:PS}(h:p.is [45]=false):bK p=aP 0 (p.took [45]):=by
 have h':¬p.is [45]=true:=by simp[h]
 rw[mV h'];unfold bK;rw[if_neg h']
theorem gJ{p:PS}{s:aN}(h:bH p.l):bH (p.took s).l:=by
 unfold PS.took;split
 ·exact eG h
 ·exact h
theorem FE(p:PS)(hg:bH p.l):qX Tryz.prog 118 [.bx 0 0] (eU p) (eU (bK p).2) (.d (aD (bK p).1)):=by
 unfold eU
 refine qX.one Tryz.func118 (by kernel_rfl) (c:=_) rfl Tryz.ntmps118 (by simp) Tryz.results118 fun w0 X hp=>?_
 refine aA ?_
 simp
 refine pS.seq ?_
 refine cB hT hW (fun|4=>some (.gen ⟨[(0,0)],[],[],eU (p.took [45]),.d (.bool (p.is [45]))⟩)|_=>none) ?_
 simp
 refine⟨oG p [45],?_⟩
 refine aC ?_
 simp
 refine⟨fun h1=>?_,fun h1=>?_⟩
 ·refine pS.seq ?_
  have hn:=tL (p.took [45]) 0 (gJ hg) (by decide)
  have hr:=Mw (k:=0) (gJ (s:=[45]) hg) (by decide)
  refine pS.ro hT hW (fun|6=>some (.gen ⟨[(0,0)],[],[],eU (aP 0 (p.took [45])).2,.d (aD (aP 0 (p.took [45])).1)⟩)|_=>none) ?_
  simp
  refine⟨⟨hn,by omega⟩,?_⟩
  refine pS.ret ?_
  simp
  have e:=JU h1
  exact aB [2] [(0,0)] (by decide) (by decide) (by simp[hp]) (by simp[e]) (by simp[e])
 ·refine pS.skip ?_
  simp
  refine pS.seq ?_
  have hn:=tL (p.took [45]) 0 (gJ hg) (by decide)
  refine pS.ro hT hW (fun|9=>some (.gen ⟨[(0,0)],[],[],eU (aP 0 (p.took [45])).2,.d (aD (aP 0 (p.took [45])).1)⟩)|_=>none) ?_
  simp
  refine⟨hn,?_⟩
  refine pS.ret ?_
  simp
  have e:=JV h1
  exact aB [2] [(0,0)] (by decide) (by decide) (by simp[hp]) (by simp[e]) (by simp[e])
end
open Go.Proofs
section
attribute[local simp] pL.cond Nd.d_eq nd_t nd_dr nd_td ndsD bG eT eB
def iY(s:aN)(T:List Tk)(p:PS):List (Nat×aW):=[(0,.box false [.d (.str s),.d (.sl (T.map Tk.r)),.d (aD ((T.length:Int)- p.l.length)),.d (.bool (!decide (p.e=0))),.d (.bool (decide (p.e=5)))])]
attribute[local simp] iY
structure Co(s:aN)(T:List Tk):Prop where
 hs:s.length≤1024
 ht:T.length≤1024
 hi:∀t∈T,SQ s t
 hg:bH T
structure qK(T:List Tk)(p:PS):Prop where
 suf:p.l<:+T
 err:p.e=0∨p.e=2∨p.e=5
theorem qK.le{T:List Tk}{p:PS}(h:qK T p):p.l.length≤T.length:=h.suf.length_le
theorem qK.good{s:aN}{T:List Tk}{p:PS}(h:qK T p)(c:Co s T):bH p.l:=fun t ht=>c.hg t (h.suf.mem ht)
theorem qK.fail{T:List Tk}{p:PS}{e:Int}(h:qK T p)(he:e=2∨e=5):qK T (p.fail e):=by
 refine⟨by rw[sA];exact h.suf,?_⟩
 unfold PS.fail
 split
 ·exact .inr he
 ·exact h.err
theorem qK.skip{T:List Tk}{p:PS}(h:qK T p):qK T p.skip:=⟨(List.tail_suffix _).trans h.suf,h.err⟩
theorem qK.took{T:List Tk}{p:PS}{w:aN}(h:qK T p):qK T (p.took w):=by
 unfold PS.took;split
 ·exact h.skip
 ·exact h
theorem qK.need{T:List Tk}{p:PS}{w:aN}(h:qK T p):qK T (p.need w):=by
 unfold PS.need;split
 ·exact h.skip
 ·exact h.fail (.inl rfl)
theorem qK.name{T:List Tk}{p:PS}(h:qK T p):qK T (aM p).2:=by
 unfold aM;split
 ·exact h.skip
 ·exact h.fail (.inl rfl)
theorem qK.local{T:List Tk}{p:PS}(h:qK T p):qK T (aU p).2:=by
 unfold aU;split
 ·exact h.skip
 ·exact h.fail (.inl rfl)
theorem qK.numeral{T:List Tk}{p:PS}{k:Int}(h:qK T p):qK T (aP k p).2:=by
 unfold aP;split
 ·exact h.fail (.inl rfl)
 ·split
  ·split
   ·exact h.fail (.inr rfl)
   ·exact h.skip
  ·exact h.fail (.inl rfl)
theorem qK.number{T:List Tk}{p:PS}(h:qK T p):qK T (bK p).2:=by
 unfold bK;split
 ·exact h.skip.numeral
 ·exact h.numeral
theorem qK.place{T:List Tk}{p:PS}(h:qK T p):qK T (aX p).2:=by
 unfold aX;split
 ·exact h.name.skip.name
 ·exact h.name
theorem qK.at{T:List Tk}{p:PS}{t:Tk}{r:List Tk}(h:qK T p)(hl:p.l=t::r):∃n:Nat,(T.length:Int)- p.l.length=n∧n<T.length∧T[n]? =some t∧t∈T:=by
 obtain⟨T0,rfl⟩:=h.suf
 refine⟨T0.length,by simp,?_,?_,?_⟩
 ·rw[hl];simp
 ·rw[hl];simp
 ·rw[hl];simp
set_option maxRecDepth 10000 in
theorem qW(s:aN)(T:List Tk)(p:PS)(c:Co s T)(f:qK T p):qX Tryz.prog 191 [.bx 0 0] (iY s T p) (iY s T p) (.d (.str p.peek)):=by
 unfold iY
 have hle:=f.le
 refine qX.one Tryz.func191 (by kernel_rfl) (c:=_) rfl Tryz.ntmps191 (by simp) Tryz.results191 fun w0 X hp=>?_
 refine aA ?_
 simp
 refine pS.seq ?_
 refine pS.seq ?_
 refine aI hT hW bU (lk [[],[0],[0,1],[0,1,2],[0,1,2,3],[0,1,2,3,4],[0,1,2,3,4,5],[0,1,2,3,4,5,6],[0,1,2,3,4,5,6,7],[0,1,2,3,4],[0,1,2,3,4,9],[0,1,2,3,4,9,10],[0,1,2,3,4,9,10,11],[0,1,2,3,4,9,10,11,12],[0,1,2,3,4,5,6,7,8,9,10,11,12,13],[0,1,2,3,4,5,6,7,8,9,10,11,12,13,14]]) (lk [[],[],[],[],[],[],[],[],[],[],[],[],[],[],[],[]]) (lk [[],[],[],[],[],[],[],[],[],[],[],[],[],[],[],[]]) (by kernel_rfl) (fun _=>none) (fun _=>⟨rfl,fun _ h=>h⟩) ?_
 simp
 refine aC ?_
 simp
 refine⟨fun g=>?_,fun g1 g2=>?_⟩
 ·refine aA ?_
  simp
  refine pS.ret ?_
  simp
  have e:p.peek=[]:=BG (g.imp id fun z=>List.eq_nil_of_length_eq_zero (by omega))
  exact aB [2] [(0,0)] (by decide) (by decide) (by simp[hp]) (by simp[e]) (by simp)
 ·refine pS.skip ?_
  simp
  refine pS.seq ?_
  obtain⟨t,r,htr⟩:=List.exists_cons_of_ne_nil (l:=p.l) (fun e=>by rw[e]at g2;simp at g2)
  obtain⟨n,hn,hnl,hn2,hm⟩:=f.at htr
  obtain⟨a,ha,hal,hat⟩:=c.hi t hm
  refine wR (Cb [0] [(0,0)] (by decide) (by decide) (by simp[hp])) ?_
  simp
  refine aI hT hW bU (lk [[],[0],[0,1],[0,1,2],[],[4],[4,5],[4,5,6],[],[8],[8,9],[8,9,10],[4,5,6,7,8,9,10,11],[4,5,6,7,8,9,10,11,12],[4,5,6,7,8,9,10,11,12,13],[],[15],[15,16],[15,16,17],[],[19],[19,20],[19,20,21],[15,16,17,18,19,20,21,22],[15,16,17,18,19,20,21,22,23],[15,16,17,18,19,20,21,22,23,24],[0,1,2,3,4,5,6,7,8,9,10,11,12,13,14,15,16,17,18,19,20,21,22,23,24,25],[0,1,2,3,4,5,6,7,8,9,10,11,12,13,14,15,16,17,18,19,20,21,22,23,24,25,26]]) (lk [[],[],[],[],[],[],[],[],[],[],[],[],[],[],[],[],[],[],[],[],[],[],[],[],[],[],[],[]]) (lk [[],[],[],[],[],[],[],[],[],[],[],[],[],[],[],[],[],[],[],[],[],[],[],[],[],[],[],[]]) (by kernel_rfl) (fun _=>none) (fun _=>⟨rfl,fun _ h=>h⟩) ?_
  simp[hn,hn2,Tk.r,ha]
  refine⟨⟨hnl,by omega,by omega⟩,?_⟩
  refine pS.ret ?_
  simp
  exact aB [2] [(0,0)] (by decide) (by decide) (by simp[hp]) (by simp[FD g1 htr,GF,hat]) (by simp)
theorem AN{p:PS}:((p.fail 2).e=0)=False:=eq_false (qS (by decide))
theorem AO{p:PS}:((p.fail 5).e=0)=False:=eq_false (qS (by decide))
theorem AP{p:PS}:((p.fail 2).e=5)=(p.e=5):=by
 unfold PS.fail;split
 ·rename_i h;simp[h]
 ·rfl
theorem QG{p:PS}(h:p.e=0):((p.fail 5).e=5)=True:=by unfold PS.fail;rw[if_pos h];simp
theorem GK{p:PS}:p.skip.e=p.e:=rfl
attribute[local simp] AN AO AP sA GK
theorem wD{T:List Tk}{p:PS}(h:p.peek≠[]):(T.length:Int)- p.skip.l.length=(T.length:Int)- p.l.length+1:=by
 have:=uU h
 omega
theorem OU{p:PS}(h:p.peek≠[]):p.e=0:=Classical.byContradiction fun q=>h (BG (.inl q))
theorem qK.pos{T:List Tk}{p:PS}(f:qK T p)(h:p.peek≠[]):0≤(T.length:Int)- p.l.length∧(T.length:Int)- p.l.length<T.length:=by
 have:=uU h
 have:=f.le
 omega
theorem zV(s:aN)(T:List Tk)(p:PS)(c:Co s T)(f:qK T p)(w:aN)(hw:w≠[]):qX Tryz.prog 233 [.bx 0 0,.d (.str w)] (iY s T p) (iY s T (p.took w)) (.d (.bool (p.is w))):=by
 unfold iY
 have hle:=f.le
 have htt:=c.ht
 refine qX.one Tryz.func233 (by kernel_rfl) (c:=_) rfl Tryz.ntmps233 (by simp) Tryz.results233 fun w0 X hp=>?_
 refine aA ?_
 simp
 refine pS.seq ?_
 refine cB hT hW (fun|6=>some (.gen ⟨[(0,0)],[],[],iY s T p,.d (.str p.peek)⟩)|_=>none) ?_
 simp
 refine⟨qW s T p c f,?_⟩
 refine aC ?_
 simp
 refine⟨fun h1=>?_,fun h1=>?_⟩
 ·refine aA ?_
  simp
  refine pS.ret ?_
  simp
  have hn:¬p.is w=true:=fun q=>h1 (jM.1 q).2
  exact aB [4] [(0,0)] (by decide) (by decide) (by simp[hp]) (by simp[hn]) (by simp[mV hn])
 ·refine pS.skip ?_
  simp
  refine pS.seq ?_
  have h1':p.peek≠[]:=fun e=>hw (by rw[←h1,e])
  have hsk:=wD (T:=T) h1'
  have hps:=f.pos h1'
  refine aL ?_
  simp
  refine⟨by omega,?_⟩
  refine aA ?_
  simp
  refine pS.ret ?_
  simp
  have hn:p.is w=true:=jM.2 ⟨hw,h1⟩
  exact aB [4] [(0,0)] (by decide) (by decide) (by simp[hp]) (by simp[hn]) (by simp[cR hn,hsk])
theorem vC(s:aN)(T:List Tk)(p:PS)(c:Co s T)(f:qK T p)(w:aN)(hw:w≠[]):qX Tryz.prog 193 [.bx 0 0,.d (.str w)] (iY s T p) (iY s T (p.need w)) (.tup []):=by
 unfold iY
 refine Au Tryz.func193 (by kernel_rfl) (c:=_) rfl Tryz.ntmps193 (by simp) Tryz.results193 fun w0 X hp=>?_
 refine cB hT hW (fun|6=>some (.gen ⟨[(0,0)],[],[],iY s T (p.took w),.d (.bool (p.is w))⟩)|_=>none) ?_
 simp
 refine⟨zV s T p c f w hw,?_⟩
 refine aC ?_
 simp
 refine⟨fun h0=>?_,fun h0=>?_⟩
 ·have en:=Ii h0
  refine aL ?_
  simp
  exact aB [] [(0,0)] (by decide) (by decide) (by simp[hp]) (by simp) (by simp[en])
 ·have en:=GG h0
  refine pS.skip ?_
  simp
  exact aB [] [(0,0)] (by decide) (by decide) (by simp[hp]) (by simp) (by simp[en])
theorem xJ(s:aN)(T:List Tk)(p:PS)(c:Co s T)(f:qK T p):qX Tryz.prog 192 [.bx 0 0] (iY s T p) (iY s T (aM p).2) (.d (.str (aM p).1)):=by
 unfold iY
 have hle:=f.le
 have htt:=c.ht
 have htl:=qV (f.good c)
 refine qX.one Tryz.func192 (by kernel_rfl) (c:=_) rfl Tryz.ntmps192 (by simp) Tryz.results192 fun w0 X hp=>?_
 refine aA ?_
 simp
 refine cB hT hW (fun|5=>some (.gen ⟨[(0,0)],[],[],iY s T p,.d (.str p.peek)⟩)|_=>none) ?_
 simp
 refine⟨qW s T p c f,?_⟩
 refine pS.seq ?_
 refine cB hT hW (fun|7=>some<| .plain ⟨.d (.bool (jO p.peek)),true⟩|_=>none) ?_
 simp
 refine⟨JR p.peek (by omega),?_⟩
 refine aC ?_
 simp
 refine⟨fun h2=>?_,fun h2=>?_⟩
 ·refine aA ?_
  simp
  refine aA ?_
  simp
  refine pS.ret ?_
  simp
  exact aB [2] [(0,0)] (by decide) (by decide) (by simp[hp]) (by simp[tK h2]) (by simp[tK h2])
 ·refine pS.skip ?_
  simp
  refine pS.seq ?_
  have h1':p.peek≠[]:=fun e=>by rw[e]at h2;cases h2
  have hsk:=wD (T:=T) h1'
  have hps:=f.pos h1'
  have hn:p.is p.peek=true:=jM.2 ⟨h1',rfl⟩
  refine aL ?_
  simp
  refine⟨by omega,?_⟩
  refine aA ?_
  simp
  refine pS.ret ?_
  simp
  exact aB [2] [(0,0)] (by decide) (by decide) (by simp[hp]) (by simp[wA h2]) (by simp[wA h2,cR hn,hsk])
theorem QH{s:aN}(h:∀c∈s,aO c=true):0≤qJ s:=by
 obtain⟨m,_,e⟩:=Ef s 0 h
 unfold qJ
 have e':(m:Int)=s.foldl (fun n c=>10*n+((c.toNat:Int)- 48)) 0:=e
 omega
theorem Mx{p:PS}(hg:bH p.l)(h:p.peek.take 1=[36]):2≤p.peek.length:=by
 have hn:p.peek≠[]:=fun e=>(by rw[e]at h;cases h)
 obtain⟨_,ht⟩:=uV hg hn
 obtain⟨e1,_⟩:=pJ h
 rw[e1,lY,if_neg (by decide),if_pos rfl]at ht
 rw[e1]
 split at ht
 ·rename_i z
  have:=Aw (p.peek.drop 1)
  rw[List.length_cons]at ht⊢
  omega
 ·simp at ht
theorem Ss{w:aN}:w.take 1=[36]↔(1≤w.length∧(((w[0]?.getD 0).toNat:Int))=36):=by
 cases w with
 |nil=>simp
 |cons c r=>
  have:=KX (c:=c)
  simp[this]
theorem vD(s:aN)(T:List Tk)(p:PS)(c:Co s T)(f:qK T p):qX Tryz.prog 282 [.bx 0 0] (iY s T p) (iY s T (aU p).2) (.d (.str (aU p).1)):=by
 unfold iY
 have hle:=f.le
 have htt:=c.ht
 have hll:=Mx (f.good c)
 refine qX.one Tryz.func282 (by kernel_rfl) (c:=_) rfl Tryz.ntmps282 (by simp) Tryz.results282 fun w0 X hp=>?_
 refine aA ?_
 simp
 refine cB hT hW (fun|5=>some (.gen ⟨[(0,0)],[],[],iY s T p,.d (.str p.peek)⟩)|_=>none) ?_
 simp
 refine⟨qW s T p c f,?_⟩
 refine pS.seq ?_
 refine aA ?_
 simp
 refine⟨fun h=>by omega,?_⟩
 refine aC ?_
 simp
 refine⟨fun g=>?_,fun g1 g2=>?_⟩
 ·have g':¬p.peek.take 1=[36]:=fun q=>by have:=hll q;have:=(Ss.1 q).2;omega
  refine aA ?_
  simp
  refine aA ?_
  simp
  refine pS.ret ?_
  simp
  exact aB [2] [(0,0)] (by decide) (by decide) (by simp[hp]) (by simp[rP g']) (by simp[rP g'])
 ·have g':p.peek.take 1=[36]:=Ss.2 ⟨by omega,g2⟩
  refine pS.skip ?_
  simp
  refine pS.seq ?_
  have h1':p.peek≠[]:=fun e=>by rw[e]at g';cases g'
  have hsk:=wD (T:=T) h1'
  have hps:=f.pos h1'
  have hn:p.is p.peek=true:=jM.2 ⟨h1',rfl⟩
  refine aL ?_
  simp
  refine⟨by omega,?_⟩
  refine aA ?_
  simp
  refine⟨by omega,?_⟩
  refine pS.ret ?_
  simp
  exact aB [2] [(0,0)] (by decide) (by decide) (by simp[hp]) (by simp[(pJ g').2]) (by simp[(pJ g').2,cR hn,hsk])
theorem uC(s:aN)(T:List Tk)(p:PS)(c:Co s T)(f:qK T p)(k lo hi:Int)(hlo:dZ k=lo∨(dZ k≤0∧lo=0))(hhi:eC k=hi):qX Tryz.prog 195 [.bx 0 0,.d (aD lo),.d (aD hi)] (iY s T p) (iY s T (aP k p).2) (.d (aD (aP k p).1)):=by
 unfold iY
 have hle:=f.le
 have htt:=c.ht
 have htl:=qV (f.good c)
 refine qX.one Tryz.func195 (by kernel_rfl) (c:=_) rfl Tryz.ntmps195 (by simp) Tryz.results195 fun w0 X hp=>?_
 refine aA ?_
 simp
 refine cB hT hW (fun|10=>some (.gen ⟨[(0,0)],[],[],iY s T p,.d (.str p.peek)⟩)|_=>none) ?_
 simp
 refine⟨qW s T p c f,?_⟩
 refine pS.seq ?_
 refine pS.seq ?_
 have hd:=sW p.peek 0 (by omega)
 refine pS.ro hT hW (fun|12=>some<| .plain ⟨.d (.bool (firstIs aO p.peek)),true⟩|_=>none) ?_
 simp
 refine⟨by simpa using hd,?_⟩
 refine aC ?_
 simp
 refine⟨fun h2=>?_,fun h2=>?_⟩
 ·have g:p.peek=[]∨aO (p.peek[0]?.getD 0)=false:=by cases e:p.peek with|nil=>exact .inl rfl|cons a r=>rw[e]at h2;exact .inr h2
  refine aA ?_
  simp
  refine aA ?_
  simp
  refine pS.ret ?_
  simp
  have e:=GI (k:=k) g
  exact aB [6] [(0,0)] (by decide) (by decide) (by simp[hp]) (by simp[e]) (by simp[e])
 ·have g1:¬p.peek=[]:=fun e=>by rw[e]at h2;cases h2
  have g2:aO (p.peek[0]?.getD 0)=true:=by cases e:p.peek with|nil=>exact absurd e g1|cons a r=>rw[e]at h2;exact h2
  refine pS.skip ?_
  simp
  refine pS.seq ?_
  obtain⟨hl,hds⟩:=Eg (uV (f.good c) g1) g2
  have hc:=Mt p.peek hl
  have hv0:=QH hds
  refine pS.ro hT hW (fun|18=>some<| .plain ⟨.d (aD (qJ p.peek)),true⟩|_=>none) ?_
  simp
  refine⟨hc,?_⟩
  refine pS.seq ?_
  refine aA ?_
  simp
  refine aC ?_
  simp
  refine⟨fun b=>?_,fun b1 b2=>?_⟩
  ·refine aA ?_
   simp
   refine aA ?_
   simp
   refine aA ?_
   simp
   refine pS.ret ?_
   simp
   have e:=GJ (k:=k) g1 g2 (by omega)
   exact aB [6] [(0,0)] (by decide) (by decide) (by simp[hp]) (by simp[e]) (by simp[e,QG (OU g1)])
  ·refine pS.skip ?_
   simp
   refine pS.seq ?_
   have hsk:=wD (T:=T) g1
   have hps:=f.pos g1
   have hn:p.is p.peek=true:=jM.2 ⟨g1,rfl⟩
   refine aL ?_
   simp
   refine⟨by omega,?_⟩
   refine aA ?_
   simp
   refine pS.ret ?_
   simp
   have e:=JT (k:=k) g1 g2 (by omega)
   exact aB [6] [(0,0)] (by decide) (by decide) (by simp[hp]) (by simp[e]) (by simp[e,cR hn,hsk])
end
open Go.Proofs
section
attribute[local simp] pL.cond Nd.d_eq nd_t nd_dr nd_td ndsD bG eT qZ eU eB
theorem FF{p:PS}(h:(aM p).2.is [46]=true):aX p=(.mk 35 ((aM p).1++46::(aM ((aM p).2.took [46])).1) 0 [],(aM ((aM p).2.took [46])).2):=by
 rw[cR h];unfold aX;rw[if_pos h]
theorem Cp{p:PS}(h:(aM p).2.is [46]=false):aX p=(.mk 34 (aM p).1 0 [],(aM p).2.took [46]):=by
 have h':¬(aM p).2.is [46]=true:=by simp[h]
 rw[mV h'];unfold aX;rw[if_neg h']
theorem sQ{p:PS}(h:bH p.l):(aM p).1.length≤17:=by
 unfold aM;split
 ·exact qV h
 ·simp
theorem Ik(p:PS)(hg:bH p.l):qX Tryz.prog 211 [.bx 0 0] (eU p) (eU (aX p).2) (.d (aX p).1.d):=by
 unfold eU
 refine qX.cell hT Tryz.func211 (by kernel_rfl) (c:=_) rfl Tryz.ntmps211 (by simp) Tryz.results211 fun w0 X hp=>?_
 refine aA ?_
 simp
 refine cB hT hW (fun|5=>some (.gen ⟨[(0,0)],[],[],eU (aM p).2,.d (.str (aM p).1)⟩)|_=>none) ?_
 simp
 refine⟨AL p,?_⟩
 refine pS.seq ?_
 refine cB hT hW (fun|8=>some (.gen ⟨[(0,0)],[],[],eU ((aM p).2.took [46]),.d (.bool ((aM p).2.is [46]))⟩)|_=>none) ?_
 simp
 refine⟨oG (aM p).2 [46],?_⟩
 refine aC ?_
 simp
 refine⟨fun h2=>?_,fun h2=>?_⟩
 ·have l1:=sQ hg
  have l2:=sQ (p:=(aM p).2.took [46]) (gJ (eO hg).2.1)
  refine aI hT hW bU (lk [[],[0],[0,1],[],[3],[0,1,2,3,4],[0,1,2,3,4,5],[0,1,2,3,4,5,6]]) (lk [[0],[0],[0],[],[],[],[],[]]) (lk [[],[],[],[],[0],[],[],[3]]) (by kernel_rfl) (fun|13=>some (.gen ⟨[(0,0)],[],[],eU (aM ((aM p).2.took [46])).2,.d (.str (aM ((aM p).2.took [46])).1)⟩)|_=>none) (by intro d;first|exact⟨rfl,fun _ h=>h⟩|(split<;>exact⟨rfl,fun _ h=>h⟩)) ?_
  simp
  refine⟨⟨⟨by omega,AL _⟩,by omega⟩,?_⟩
  refine aA ?_
  simp
  refine pS.ret ?_
  simp
  have e:=FF h2
  refine aS (x:=(aX p).1.d) (by simp[e]) ?_
  simp
  exact aB [0] [(0,0)] (by decide) (by decide) (by simp[hp]) (by simp) (by simp[e])
 ·refine pS.skip ?_
  simp
  refine aA ?_
  simp
  refine pS.ret ?_
  simp
  have e:=Cp h2
  refine aS (x:=(aX p).1.d) (by simp[e]) ?_
  simp
  exact aB [0] [(0,0)] (by decide) (by decide) (by simp[hp]) (by simp) (by simp[e])
def SE(o:aN×Int):DV:=.agg [.str o.1,aD o.2]
theorem JW:pM 6 2 BN=zE.map SE:=by kernel_rfl
def QI(p:PS)(lv:Int):List (Nat×aW):=[(0,.box false [.d (qZ p.l),.d (aD p.e)]),(1,.box false [.d (aD lv)]),(2,.box false [.bx 0 0])]
def QJ(p:PS)(lv:Int)(o:aN×Int):Bool:=decide (o.2=lv)&&decide (o.1=p.peek)
attribute[local simp] QI SE
theorem RW(p:PS)(lv:Int)(o:aN×Int):qX Tryz.prog 269 [.d (SE o),.bx 1 0,.bx 2 0] (QI p lv) (QI p lv) (.d (.bool (QJ p lv o))):=by
 unfold QI
 refine qX.one Tryz.func269 (by kernel_rfl) (c:=_) rfl Tryz.ntmps269 (by simp) Tryz.results269 fun w0 X hp=>?_
 refine aA ?_
 simp
 refine pS.seq ?_
 refine aI hT hW bU (lk [[],[0],[],[0,1,2],[0,1,2,3],[0,1,2,3,4],[0,1,2,3,4,5],[0,1,2,3,4],[0,1,2,3,4,7],[0,1,2,3,4,5,6,7,8],[0,1,2,3,4,5,6,7,8,9],[0,1,2,3,4,5,6,7,8,9,10]]) (lk [[],[],[],[],[],[0],[0],[],[],[],[],[]]) (lk [[],[],[],[],[],[],[],[],[0],[],[],[]]) (by kernel_rfl) (fun|13=>some (.gen ⟨[(0,0)],[],[],eU p,.d (.str p.peek)⟩)|_=>none) (by intro d;first|exact⟨rfl,fun _ h=>h⟩|(split<;>exact⟨rfl,fun _ h=>h⟩)) ?_
 simp
 refine⟨fun _=>qU p,?_⟩
 refine pS.ret ?_
 simp
 by_cases hq:o.2=lv
 ·exact aB [4] [(0,0),(1,1),(2,2)] (by decide) (by decide) (by simp[hp]) (by simp[hq,QJ,Bool.beq_eq_decide_eq]) (by simp[hq])
 ·exact aB [4] [(0,0),(1,1),(2,2)] (by decide) (by decide) (by simp[hp]) (by simp[hq,QJ]) (by simp[hq])
theorem JX(p:PS)(lv:Int)(l:List (aN×Int)):qX Tryz.prog 268 [.d (.sl (l.map SE)),.fn 269 [.bx 1 0,.bx 2 0]] (QI p lv) (QI p lv) (.d (aD (vX (QJ p lv) l))):=by
 unfold QI
 refine qX.one Tryz.func268 (by kernel_rfl) (c:=_) rfl Tryz.ntmps268 (by simp) Tryz.results268 fun w0 X hp=>?_
 refine pS.len (t:=0) rfl fun hlen=>?_
 simp at hlen
 refine aA ?_
 simp
 refine pS.seq ?_
 refine aA ?_
 simp
 refine pS.block ?_
 refine bX (ι:=Nat) (fun i=>aY [(0,.d (.sl (l.map SE))),(1,.fn 269 [.bx 1 0,.bx 2 0]),(7,.d (aD l.length)),(8,.d (aD i))]) (fun i=>aK [(0,.box false [.d (qZ p.l),.d (aD p.e)]),(1,.box false [.d (aD lv)]),(2,.box false [.bx 0 0])]) (fun i=>i≤l.length∧Qp (QJ p lv) l i) (fun i=>l.length-i) 0 (aB [0,1,7,8] [(0,0),(1,1),(2,2)] (by decide) (by decide) (by simp[hp]) (by simp) (by simp)) (⟨Nat.zero_le _,Qp.zero⟩) fun i hi2=>?_
 refine aA ?_
 simp
 refine pS.seq ?_
 refine aC ?_
 simp
 refine⟨fun h2=>?_,fun h2=>?_⟩
 ·refine pS.skip ?_
  simp
  refine pS.seq ?_
  refine pS.block ?_
  refine aA ?_
  simp
  refine pS.seq ?_
  have h2':i<l.length:=by omega
  have ho:=RW p lv l[i]
  refine pS.ro hT hW (fun|16=>some (.gen ⟨[(0,0),(1,1),(2,2)],[],[],QI p lv,.d (.bool (QJ p lv l[i]))⟩)|_=>none) ?_
  simp[h2',cA]
  refine⟨ho,?_⟩
  refine aC ?_
  simp
  refine⟨fun h4=>?_,fun h4=>?_⟩
  ·refine aA ?_
   simp
   refine pS.ret ?_
   simp
   exact aB [4] [(0,0),(1,1),(2,2)] (by decide) (by decide) (by simp[hp]) (by simp[Bu (hi2.2.found h2 h4)]) (by simp)
  ·refine pS.skip ?_
   simp
   refine aL ?_
   simp
   refine⟨by omega,?_⟩
   refine KN.mk (i+1) (aB [0,1,7,8] [(0,0),(1,1),(2,2)] (by decide) (by decide) (by simp[hp]) (by simp) (by simp)) ?_ ?_
   ·exact⟨h2,hi2.2.succ h2 h4⟩
   ·omega
 ·refine pS.exit ?_
  simp
  refine aA ?_
  simp
  refine pS.ret ?_
  simp
  exact aB [4] [(0,0),(1,1),(2,2)] (by decide) (by decide) (by simp[hp]) (by simp[Bv (hi2.2.none (by omega))]) (by simp)
theorem OV(q:aN×Int→Bool):(List.range 6).find? (fun i=>q (zE.getD i ([],0)))=zE.findIdx? q:=by
 rw[show List.range 6=[0,1,2,3,4,5] from rfl]
 unfold zE
 simp only[List.find?_cons,List.findIdx?_cons,List.getD_cons_zero,List.getD_cons_succ,List.find?_nil,List.findIdx?_nil]
 cases q ([60],1)<;>cases q ([60,61],1)<;>cases q ([61,61],1)<;>cases q ([43],2)<;>cases q ([45],2)<;>cases q ([42],3)<;>rfl
theorem Lb(p:PS)(lv:Int):qD lv p.peek=vX (QJ p lv) zE:=by
 unfold qD vX
 rw[←OV (QJ p lv)]
 rfl
def QK(l:List (aN×Int)):List DV:=l.flatMap fun o=>[.str o.1,aD o.2]
theorem OW:BN=QK zE:=by kernel_rfl
theorem Lc:∀(l:List (aN×Int)) (k:Nat) (h:k<l.length),(QK l)[k*2]?.getD default=.str l[k].1
 |o::l,0,_=>rfl
 |o::l,k+1,h=>by
  have ih:=Lc l k (by simpa using h)
  have e:QK (o::l)=.str o.1::aD o.2::QK l:=rfl
  rw[e,show(k+1)*2=k*2+1+1 by omega]
  exact ih
theorem wF{p:PS}{lv:Int}(h:0≤qD lv p.peek):BN[(qD lv p.peek).toNat*2]?.getD default=.str p.peek∧p.is p.peek=true∧qD lv p.peek<6:=by
 rw[Lb]at h⊢
 unfold vX at h⊢
 split at h
 ·rename_i i hi
  obtain⟨h1,h2,_⟩:=List.findIdx?_eq_some_iff_getElem.1 hi
  simp only[QJ,Bool.and_eq_true,decide_eq_true_eq]at h2
  have hne:∀o∈zE,o.1≠[]:=by decide
  have hn:=hne _ (List.getElem_mem h1)
  rw[OW,Int.toNat_natCast,Lc zE i h1,h2.2]
  rw[h2.2]at hn
  have:i<6:=h1
  exact⟨rfl,jM.2 ⟨hn,rfl⟩,by omega⟩
 ·omega
theorem zW{p:PS}{lv:Int}(h:0≤qD lv p.peek):opP lv p=(qD lv p.peek,p.took p.peek):=by
 rw[cR (wF h).2.1];unfold opP;rw[if_pos h]
theorem FG{p:PS}{lv:Int}(h:qD lv p.peek<0):opP lv p=(qD lv p.peek,p):=by
 unfold opP;rw[if_neg (by omega)]
theorem AQ(p:PS)(lv:Int):qX Tryz.prog 244 [.bx 0 0,.d (aD lv)] (eU p) (eU (opP lv p).2) (.d (aD (opP lv p).1)):=by
 unfold eU
 refine qX.one Tryz.func244 (by kernel_rfl) (c:=_) rfl Tryz.ntmps244 (by simp) Tryz.results244 fun w0 X hp=>?_
 refine aA ?_
 simp
 refine pS.seq ?_
 have ho:=JX p lv zE
 have hgl:=Bw
 rw[←Lb]at ho
 refine pS.ro hT hW (fun|8=>some (.gen ⟨[(0,0),(3,1),(2,2)],[],[],QI p lv,.d (aD (qD lv p.peek))⟩)|_=>none) ?_
 simp[JW]
 refine⟨⟨by omega,ho⟩,?_⟩
 refine pS.seq ?_
 refine aA ?_
 simp
 refine aC ?_
 simp
 refine⟨fun h2=>?_,fun h2=>?_⟩
 ·have eo:=zW h2
  obtain⟨s1,s2,s3⟩:=wF h2
  refine aI hT hW bU (lk [[],[],[1],[1,2],[1,2,3],[0,1,2,3,4]]) (lk [[],[],[],[],[],[]]) (lk [[],[],[],[],[],[0]]) (by kernel_rfl) (fun|16=>some (.gen ⟨[(0,0)],[],[],eU (p.took p.peek),.d (.bool (p.is p.peek))⟩)|_=>none) (by intro d;first|exact⟨rfl,fun _ h=>h⟩|(split<;>exact⟨rfl,fun _ h=>h⟩)) ?_
  simp[s1]
  refine⟨⟨⟨⟨h2,s3⟩,by omega⟩,oG p p.peek⟩,?_⟩
  refine aA ?_
  simp
  refine pS.ret ?_
  simp
  exact aB [4] [(0,0)] (by decide) (by decide) (by simp[hp]) (by simp[eo]) (by simp[eo])
 ·have eo:=FG h2
  refine pS.skip ?_
  simp
  refine aA ?_
  simp
  refine pS.ret ?_
  simp
  exact aB [4] [(0,0)] (by decide) (by decide) (by simp[hp]) (by simp[eo]) (by simp[eo])
end
open Go.Proofs
section
attribute[local simp] pL.cond Nd.d_eq nd_t nd_dr nd_td ndsD bG eT qZ eU eB
structure rC(n:Nat)(g:FuncId)(x:PS→Nd×PS):Prop where
 ok:∀q:PS,q.l.length<n→bH q.l→qX Tryz.prog g [.bx 0 0] (eU q) (eU (x q).2) (.d (x q).1.d)
 le:∀q:PS,q.l.length<n→bH q.l→(x q).2.l.length≤q.l.length∧bH (x q).2.l
structure Tb where
 f:Nat
 n:Nd
 q:PS
theorem FH{lv:Int}{x:PS→Nd×PS}{f:Nat}{n:Nd}{q:PS}(hf:q.l.length<f)(h:¬q.e=0):chainF lv x f n q=(n,q):=by
 obtain⟨k,rfl⟩:∃k,f=k+1:=⟨f-1,by omega⟩
 rw[chainF,if_pos h]
theorem Eh{lv:Int}{x:PS→Nd×PS}{f:Nat}{n:Nd}{q:PS}(hf:q.l.length<f)(h:q.e=0)(ho:(opP lv q).1<0):chainF lv x f n q=(n,(opP lv q).2):=by
 obtain⟨k,rfl⟩:∃k,f=k+1:=⟨f-1,by omega⟩
 rw[chainF,if_neg (by simp[h]),if_pos ho]
theorem Il{lv:Int}{x:PS→Nd×PS}{f:Nat}{n:Nd}{q:PS}(hf:q.l.length<f)(h:q.e=0)(ho:0≤(opP lv q).1):
 chainF lv x f n q=chainF lv x (f-1) (.mk (26+(opP lv q).1) [] 0 [n,(x (opP lv q).2).1]) (x (opP lv q).2).2:=by
 obtain⟨k,rfl⟩:∃k,f=k+1:=⟨f-1,by omega⟩
 rw[chainF,if_neg (by simp[h]),if_neg (by omega)]
 rfl
theorem CT{lv:Int}{q:PS}(ho:0≤(opP lv q).1):(opP lv q).2.l.length+1=q.l.length∧(opP lv q).1≤5:=by
 have h:0≤qD lv q.peek:=ho
 obtain⟨_,h2,h3⟩:=wF h
 rw[zW h,cR h2]
 exact⟨mG h2,by simp only;omega⟩
theorem Im(p:PS)(lv:Int)(x:PS→Nd×PS)(g:FuncId)(m:Nat)(hx:rC m g x)(hm:p.l.length<m)(hg:bH p.l):qX Tryz.prog 266 [.bx 0 0,.d (aD lv),.bm g [.bx 0 0]] (eU p) (eU (gD lv x p).2) (.d (gD lv x p).1.d):=by
 unfold eU
 refine qX.cell hT Tryz.func266 (by kernel_rfl) (c:=_) rfl Tryz.ntmps266 (by simp) Tryz.results266 fun w0 X hp=>?_
 refine aA ?_
 simp
 refine pS.seq ?_
 have h1:=hx.ok p hm hg
 refine pS.ro hT hW (fun|10=>some (.gen ⟨[(0,0)],[],[],eU (x p).2,.d (x p).1.d⟩)|_=>none) ?_
 simp[cA]
 refine⟨by simpa using h1,?_⟩
 refine pS.seq ?_
 refine pS.block ?_
 refine bX (ι:=Tb) (fun⟨f,n,q⟩=>aY [(0,.bx 0 0),(1,.d (aD lv)),(2,.bm g [.bx 0 0]),(6,.bx 6 0),(7,.bx 7 0)]) (fun⟨f,n,q⟩=>aK [(0,.box false [.d (qZ q.l),.d (aD q.e)]),(6,.box false [.d (aD 0),.d (.str []),.d (aD 0),.nl]),(7,.box false [.d (aD n.kind),.d (.str n.text),.d (aD n.n),.d (ndsD n.kids)])]) (fun⟨f,n,q⟩=>q.l.length<f∧bH q.l∧q.l.length≤p.l.length∧gD lv x p=chainF lv x f n q) (fun⟨f,n,q⟩=>q.l.length) ⟨(x p).2.l.length+1,(x p).1,(x p).2⟩ (aB [0,1,2,6,7] [(0,0),(6,6),(7,7)] (by decide) (by decide) (by simp[hp]) (by simp) (by simp)) (⟨Nat.lt_succ_self _,(hx.le p hm hg).2,(hx.le p hm hg).1,rfl⟩) fun⟨f,n,q⟩ hi2=>?_
 refine pS.seq ?_
 refine aA ?_
 simp
 refine aC ?_
 simp
 refine⟨fun h2=>?_,fun h2=>?_⟩
 ·refine pS.skip ?_
  simp
  refine pS.block ?_
  refine pS.seq ?_
  have ho:=AQ q lv
  refine pS.ro hT hW (fun|18=>some (.gen ⟨[(0,0)],[],[],eU (opP lv q).2,.d (aD (opP lv q).1)⟩)|_=>none) ?_
  simp
  refine⟨ho,?_⟩
  refine pS.seq ?_
  refine aA ?_
  simp
  refine aC ?_
  simp
  refine⟨fun h4=>?_,fun h4=>?_⟩
  ·refine pS.exit ?_
   simp
   refine aA ?_
   simp
   refine pS.ret ?_
   simp
   have e:gD lv x p=(n,(opP lv q).2):=by rw[hi2.2.2.2];exact Eh hi2.1 h2 h4
   exact aB [0] [(0,0)] (by decide) (by decide) (by simp[hp]) (by simp[e]) (by simp[e])
  ·refine pS.skip ?_
   simp
   obtain⟨ol,or⟩:=CT h4
   have gg:=yE (lv:=lv) hi2.2.1
   have hc:=hx.ok (opP lv q).2 (by omega) gg.2
   refine aI hT hW bU (lk [[],[0],[],[],[3],[2,3,4],[0,1,2,3,4,5],[0,1,2,3,4,5,6]]) (lk [[0,26],[0,26],[0],[],[],[],[],[]]) (lk [[],[],[],[],[0],[26],[],[7]]) (by kernel_rfl) (fun|25=>some (.gen ⟨[(0,0)],[],[],eU (x (opP lv q).2).2,.d (x (opP lv q).2).1.d⟩)|_=>none) (by intro d;first|exact⟨rfl,fun _ h=>h⟩|(split<;>exact⟨rfl,fun _ h=>h⟩)) ?_
   simp[cA]
   refine⟨⟨⟨⟨by omega,by omega⟩,by simpa using hc⟩,by decide⟩,?_⟩
   refine zU (bI 7 [26] (fz:=false) (cs:=[.d (aD (26+(opP lv q).1)),.d (.str []),.d (aD 0),.ow 26 0 2]) (ds:=[aD (26+(opP lv q).1),.str [],aD 0,.sl [n.d,(x (opP lv q).2).1.d]]) (by simp) (by simp) (by simp) (by simp[aW.mut])) ?_
   simp
   refine KN.mk ⟨f-1,.mk (26+(opP lv q).1) [] 0 [n,(x (opP lv q).2).1],(x (opP lv q).2).2⟩ (aB [0,1,2,6,7] [(0,0),(6,6),(7,7)] (by decide) (by decide) (by simp[hp]) (by simp) (by simp)) ?_ ?_
   ·have le:=hx.le (opP lv q).2 (by omega) gg.2
    have i1:=hi2.1
    have i3:=hi2.2.2.1
    refine⟨?_,le.2,?_,?_⟩
    ·show(x (opP lv q).2).2.l.length<f-1
     omega
    ·show(x (opP lv q).2).2.l.length≤p.l.length
     omega
    ·rw[hi2.2.2.2];exact Il hi2.1 h2 h4
   ·have le:=hx.le (opP lv q).2 (by omega) gg.2
    show(x (opP lv q).2).2.l.length<q.l.length
    omega
 ·refine pS.exit ?_
  simp
  refine aA ?_
  simp
  refine pS.ret ?_
  simp
  have e:gD lv x p=(n,q):=by rw[hi2.2.2.2];exact FH hi2.1 h2
  exact aB [0] [(0,0)] (by decide) (by decide) (by simp[hp]) (by simp[e]) (by simp[e])
end
open Go.Proofs
section
attribute[local simp] pL.cond Nd.d_eq nd_t nd_dr nd_td ndsD bG eT qZ eU eB
theorem Cq{ex:PS→Nd×PS}{p:PS}(h:p.is [40]=true):dS ex p=((ex (p.took [40])).1,(ex (p.took [40])).2.need [41]):=by
 rw[cR h];unfold dS;rw[if_pos h]
theorem Ei{ex:PS→Nd×PS}{p:PS}(h1:p.is [40]=false)(h2:p.is jJ=true):dS ex p=(.mk 36 [] 0 [],p.took jJ):=by
 rw[cR h2];unfold dS;rw[if_neg (by simp[h1]),if_pos h2]
theorem Cr{ex:PS→Nd×PS}{p:PS}(h1:p.is [40]=false)(h2:p.is jJ=false)(h3:¬p.peek=[])(h4:aO (p.peek[0]?.getD 0)=true):dS ex p=(.mk 32 [] (aP 32 p).1 [],(aP 32 p).2):=by
 unfold dS;rw[if_neg (by simp[h1]),if_neg (by simp[h2])]
 cases e:p.peek with
 |nil=>exact absurd e h3
 |cons c r=>
  rw[e]at h4
  have h4:aO c=true:=h4
  simp only[h4,if_true]
theorem Cs{ex:PS→Nd×PS}{p:PS}(h1:p.is [40]=false)(h2:p.is jJ=false)(h3:¬p.peek=[]→aO (p.peek[0]?.getD 0)=false)(h4:p.peek.take 1=[36]):dS ex p=(.mk 33 (aU p).1 0 [],(aU p).2):=by
 unfold dS;rw[if_neg (by simp[h1]),if_neg (by simp[h2])]
 cases e:p.peek with
 |nil=>rw[e]at h4;cases h4
 |cons c r=>
  rw[e]at h3 h4
  have h3:aO c=false:=h3 (by simp)
  have h4:c=36:=by simpa using h4
  simp[h4]
  decide
theorem Ct{ex:PS→Nd×PS}{p:PS}(h1:p.is [40]=false)(h2:p.is jJ=false)(h3:¬p.peek=[]→aO (p.peek[0]?.getD 0)=false)(h4:¬p.peek.take 1=[36]):dS ex p=aX p:=by
 unfold dS;rw[if_neg (by simp[h1]),if_neg (by simp[h2])]
 cases e:p.peek with
 |nil=>rfl
 |cons c r=>
  rw[e]at h3 h4
  have h3:aO c=false:=h3 (by simp)
  have h4:¬c=36:=by simpa using h4
  simp[h3,h4]
theorem QL(p:PS)(n:Nat)(ex:PS→Nd×PS)(hE:rC n 208 ex)(hn:p.l.length<n+1)(hg:bH p.l):qX Tryz.prog 285 [.bx 0 0] (eU p) (eU (dS ex p).2) (.d (dS ex p).1.d):=by
 unfold eU
 refine qX.cell hT Tryz.func285 (by kernel_rfl) (c:=_) rfl Tryz.ntmps285 (by simp) Tryz.results285 fun w0 X hp=>?_
 refine aA ?_
 simp
 refine cB hT hW (fun|6=>some (.gen ⟨[(0,0)],[],[],eU p,.d (.str p.peek)⟩)|_=>none) ?_
 simp
 refine⟨qU p,?_⟩
 refine pS.seq ?_
 refine pS.block ?_
 refine cB hT hW (fun|9=>some (.gen ⟨[(0,0)],[],[],eU (p.took [40]),.d (.bool (p.is [40]))⟩)|_=>none) ?_
 simp
 refine⟨oG p [40],?_⟩
 refine aC ?_
 simp
 refine⟨fun h2=>?_,fun h2=>?_⟩
 ·refine pS.seq ?_
  have hl:=mG h2
  rw[←cR h2]at hl
  have hx:=hE.ok (p.took [40]) (by omega) (gJ hg)
  refine pS.ro hT hW (fun|11=>some (.gen ⟨[(0,0)],[],[],eU (ex (p.took [40])).2,.d (ex (p.took [40])).1.d⟩)|_=>none) ?_
  simp
  refine⟨by simpa using hx,?_⟩
  refine pS.seq ?_
  have hn4:=pN (ex (p.took [40])).2 [41]
  refine pS.ro hT hW (fun|13=>some (.gen ⟨[(0,0)],[],[],eU ((ex (p.took [40])).2.need [41]),.tup []⟩)|_=>none) ?_
  simp
  refine⟨hn4,?_⟩
  refine aA ?_
  simp
  refine pS.ret ?_
  simp
  have e:=Cq (ex:=ex) h2
  exact aB [0] [(0,0)] (by decide) (by decide) (by simp[hp]) (by simp[e]) (by simp[e])
 ·have e2:p.took [40]=p:=mV (by simp[h2])
  simp only[e2]
  refine cB hT hW (fun|17=>some (.gen ⟨[(0,0)],[],[],eU (p.took [107,105,110,100]),.d (.bool (p.is [107,105,110,100]))⟩)|_=>none) ?_
  simp
  refine⟨oG p [107,105,110,100],?_⟩
  refine aC ?_
  simp
  refine⟨fun h6=>?_,fun h6=>?_⟩
  ·refine aA ?_
   simp
   refine pS.ret ?_
   simp
   have e:=Ei (ex:=ex) h2 h6
   refine aS (x:=(dS ex p).1.d) (by simp[e]) ?_
   simp
   exact aB [0] [(0,0)] (by decide) (by decide) (by simp[hp]) (by simp) (by simp[e,jJ])
  ·have e6:p.took [107,105,110,100]=p:=mV (by simp[h6])
   simp only[e6]
   refine pS.seq ?_
   have hd:=xI (p.peek[0]?.getD 0)
   refine pS.ro hT hW (fun|25=>some<| .plain ⟨.d (.bool (aO (p.peek[0]?.getD 0))),true⟩|_=>none) ?_
   simp
   refine⟨⟨fun h=>List.length_pos_iff.2 h,fun _=>hd⟩,?_⟩
   refine aC ?_
   simp
   refine⟨fun g1 g2=>?_,fun g=>?_⟩
   ·refine pS.seq ?_
    have hnu:=tL p 32 hg (by decide)
    refine pS.ro hT hW (fun|28=>some (.gen ⟨[(0,0)],[],[],eU (aP 32 p).2,.d (aD (aP 32 p).1)⟩)|_=>none) ?_
    simp
    refine⟨hnu,?_⟩
    refine pS.ret ?_
    simp
    have e:=Cr (ex:=ex) h2 h6 g1 g2
    refine aS (x:=(dS ex p).1.d) (by simp[e]) ?_
    simp
    exact aB [0] [(0,0)] (by decide) (by decide) (by simp[hp]) (by simp) (by simp[e])
   ·refine pS.seq ?_
    have hpf:=sP p.peek [36] (by have:=qV hg;omega) (by decide)
    refine pS.ro hT hW (fun|32=>some<| .plain ⟨.d (.bool (decide (p.peek.take 1=[36]))),true⟩|_=>none) ?_
    simp
    refine⟨hpf,?_⟩
    refine aC ?_
    simp
    refine⟨fun h10=>?_,fun h10=>?_⟩
    ·refine pS.seq ?_
     have hlo:=AM p hg
     refine pS.ro hT hW (fun|34=>some (.gen ⟨[(0,0)],[],[],eU (aU p).2,.d (.str (aU p).1)⟩)|_=>none) ?_
     simp
     refine⟨hlo,?_⟩
     refine pS.ret ?_
     simp
     have e:=Cs (ex:=ex) h2 h6 g h10
     refine aS (x:=(dS ex p).1.d) (by simp[e]) ?_
     simp
     exact aB [0] [(0,0)] (by decide) (by decide) (by simp[hp]) (by simp) (by simp[e])
    ·refine pS.skip ?_
     simp
     refine pS.seq ?_
     have hpl:=Ik p hg
     refine pS.ro hT hW (fun|37=>some (.gen ⟨[(0,0)],[],[],eU (aX p).2,.d (aX p).1.d⟩)|_=>none) ?_
     simp
     refine⟨by simpa using hpl,?_⟩
     refine pS.ret ?_
     simp
     have e:=Ct (ex:=ex) h2 h6 g h10
     exact aB [0] [(0,0)] (by decide) (by decide) (by simp[hp]) (by simp[e]) (by simp[e])
theorem Rt.le{n:Nat}{cls:Int→Bool}{x:PS→Nd×PS}(h:Rt n cls x)(q:PS)(hq:q.l.length<n)(hg:bH q.l):(x q).2.l.length≤q.l.length∧bH (x q).2.l:=⟨(h q hq hg).1,(h q hq hg).2.1⟩
theorem rC.fact{n:Nat}{ex:PS→Nd×PS}(hE:rC n 208 ex)(hR:Rt n aH ex):rC (n+1) 285 (dS ex):=
 ⟨fun q hq hg=>QL q n ex hE hq hg,fun q hq hg=>(DJ hR).le q hq hg⟩
theorem QM(p:PS)(n:Nat)(ex:PS→Nd×PS)(hE:rC n 208 ex)(hR:Rt n aH ex)(hn:p.l.length<n+1)(hg:bH p.l):qX Tryz.prog 267 [.bx 0 0] (eU p) (eU (uT ex p).2) (.d (uT ex p).1.d):=by
 unfold eU
 refine qX.cell hT Tryz.func267 (by kernel_rfl) (c:=_) rfl Tryz.ntmps267 (by simp) Tryz.results267 fun w0 X hp=>?_
 refine aA ?_
 simp
 refine pS.seq ?_
 have hc:=Im p 3 (dS ex) 285 (n+1) (hE.fact hR) hn hg
 refine pS.ro hT hW (fun|6=>some (.gen ⟨[(0,0)],[],[],eU (uT ex p).2,.d (uT ex p).1.d⟩)|_=>none) ?_
 simp
 refine⟨by simpa [uT]using hc,?_⟩
 refine pS.ret ?_
 simp
 exact aB [0] [(0,0)] (by decide) (by decide) (by simp[hp]) (by simp) (by simp)
theorem rC.prod{n:Nat}{ex:PS→Nd×PS}(hE:rC n 208 ex)(hR:Rt n aH ex):rC (n+1) 267 (uT ex):=
 ⟨fun q hq hg=>QM q n ex hE hR hq hg,fun q hq hg=>(Bo (DJ hR)).le q hq hg⟩
theorem OX(p:PS)(n:Nat)(ex:PS→Nd×PS)(hE:rC n 208 ex)(hR:Rt n aH ex)(hn:p.l.length<n+1)(hg:bH p.l):qX Tryz.prog 243 [.bx 0 0] (eU p) (eU (eA ex p).2) (.d (eA ex p).1.d):=by
 unfold eU
 refine qX.cell hT Tryz.func243 (by kernel_rfl) (c:=_) rfl Tryz.ntmps243 (by simp) Tryz.results243 fun w0 X hp=>?_
 refine aA ?_
 simp
 refine pS.seq ?_
 have hc:=Im p 2 (uT ex) 267 (n+1) (hE.prod hR) hn hg
 refine pS.ro hT hW (fun|6=>some (.gen ⟨[(0,0)],[],[],eU (eA ex p).2,.d (eA ex p).1.d⟩)|_=>none) ?_
 simp
 refine⟨by simpa [eA]using hc,?_⟩
 refine pS.ret ?_
 simp
 exact aB [0] [(0,0)] (by decide) (by decide) (by simp[hp]) (by simp) (by simp)
theorem BI{ex:PS→Nd×PS}{p:PS}(h:0≤(opP 1 (eA ex p).2).1):exprB ex p=(.mk (26+(opP 1 (eA ex p).2).1) [] 0 [(eA ex p).1,(eA ex (opP 1 (eA ex p).2).2).1],(eA ex (opP 1 (eA ex p).2).2).2):=by
 unfold exprB;simp only[];rw[if_pos h]
theorem BJ{ex:PS→Nd×PS}{p:PS}(h:(opP 1 (eA ex p).2).1<0):exprB ex p=((eA ex p).1,(opP 1 (eA ex p).2).2):=by
 unfold exprB;simp only[];rw[if_neg (by omega)]
theorem JY(p:PS)(n:Nat)(ex:PS→Nd×PS)(hE:rC n 208 ex)(hR:Rt n aH ex)(hn:p.l.length<n+1)(hg:bH p.l):qX Tryz.prog 208 [.bx 0 0] (eU p) (eU (exprB ex p).2) (.d (exprB ex p).1.d):=by
 unfold eU
 refine qX.cell hT Tryz.func208 (by kernel_rfl) (c:=_) rfl Tryz.ntmps208 (by simp) Tryz.results208 fun w0 X hp=>?_
 refine aA ?_
 simp
 refine pS.seq ?_
 have hc:=OX p n ex hE hR hn hg
 have hl1:=(Gu hR).le p hn hg
 refine pS.ro hT hW (fun|6=>some (.gen ⟨[(0,0)],[],[],eU (eA ex p).2,.d (eA ex p).1.d⟩)|_=>none) ?_
 simp
 refine⟨by simpa using hc,?_⟩
 refine pS.seq ?_
 refine pS.seq ?_
 have ho:=AQ (eA ex p).2 1
 refine pS.ro hT hW (fun|8=>some (.gen ⟨[(0,0)],[],[],eU (opP 1 (eA ex p).2).2,.d (aD (opP 1 (eA ex p).2).1)⟩)|_=>none) ?_
 simp
 refine⟨ho,?_⟩
 refine aA ?_
 simp
 refine aC ?_
 simp
 refine⟨fun h3=>?_,fun h3=>?_⟩
 ·refine pS.seq ?_
  have hol:=CT h3
  have hog:=yE (lv:=1) hl1.2
  have hc4:=OX (opP 1 (eA ex p).2).2 n ex hE hR (by omega) hog.2
  refine aI hT hW bU (lk [[],[0],[],[],[3],[2,3,4],[0,1,2,3,4,5],[0,1,2,3,4,5,6]]) (lk [[0,16],[0,16],[0],[],[],[],[],[]]) (lk [[],[],[],[],[0],[16],[],[2]]) (by kernel_rfl) (fun|15=>some (.gen ⟨[(0,0)],[],[],eU (eA ex (opP 1 (eA ex p).2).2).2,.d (eA ex (opP 1 (eA ex p).2).2).1.d⟩)|_=>none) (by intro d;first|exact⟨rfl,fun _ h=>h⟩|(split<;>exact⟨rfl,fun _ h=>h⟩)) ?_
  simp
  refine⟨⟨⟨⟨by omega,by omega⟩,by simpa using hc4⟩,by decide⟩,?_⟩
  refine pS.ret ?_
  simp
  have e:=BI h3
  refine aS (x:=(exprB ex p).1.d) (by simp[e]) ?_
  simp
  exact aB [0] [(0,0)] (by decide) (by decide) (by simp[hp]) (by simp) (by simp[e])
 ·refine pS.skip ?_
  simp
  refine aA ?_
  simp
  refine pS.ret ?_
  simp
  have e:=BJ h3
  exact aB [0] [(0,0)] (by decide) (by decide) (by simp[hp]) (by simp[e]) (by simp[e])
theorem Ej:∀n:Nat,rC n 208 (dD false n)
 |0=>⟨fun q h _=>absurd h (Nat.not_lt_zero _),fun q h _=>absurd h (Nat.not_lt_zero _)⟩
 |n+1=>by
  have e:∀q,dD false (n+1) q=exprB (dD false n) q:=fun q=>by rw[dD,if_neg (by simp)]
  refine⟨fun q hq hg=>?_,fun q hq hg=>(Ay (n+1)).le q hq hg⟩
  rw[e]
  exact JY q n (dD false n) (Ej n) (Ay n) hq hg
end
end Go.Eng
namespace Go.Eng
open Go.RowKit
section
variable{P:Program} {N:Nat} {w0:iT} {X:Nat→Prop} {Q:LX→nC→lD→Prop} {env:nC} {H:lD}
theorem pX{c:Code}(b j id s:Nat){fz:Bool}{cs:List LV}(hs:0<s)(h:H b=.box fz cs∧cs[j]? =some .nl∧H id=.absent∧pS P N w0 X c Q env (cY (cY H id (.row false s [])) b (.box fz (cs.set j (.ow id 0 0))))):pS P N w0 X c Q env H:=by
 obtain⟨hb,hj,hid,h⟩:=h
 have hne:b≠id:=fun e=>by rw[e,hid]at hb;cases hb
 intro r hr β a w sm
 obtain⟨m1,g1⟩:=Ai sm.mem hid hs
 obtain⟨m2,g2⟩:=m1.rebox (b:=b) (fz:=fz) (cs:=cs) (cs':=cs.set j (.ow id 0 0)) (by rw[cQ _ _ hne];exact hb) (by simp) fun i c c' v hc hc' hr=>by
  rw[List.getElem?_set]at hc'
  by_cases e:j=i
  ·subst e
   rw[hj]at hc;injection hc with hc;subst hc
   have hl:=(List.getElem?_eq_some_iff.1 hj).1
   simp[hl]at hc'
   subst hc'
   cases hr with|nl p=>exact .ow0 id 0 p false s [] (by rw[aJ]) (.inl ⟨by rw[aJ],rfl⟩)
  ·simp only[e,if_false]at hc'
   rw[hc]at hc';injection hc' with hc';subst hc'
   exact hr
 exact h r hr _ a w ⟨g2.marks (g1.marks sm.defers),sm.size,m2.ext,m2.xold,m2.fresh,m2.inj,fun t=>g2.R (g1.R (sm.env t)),m2.obj,m2.pin⟩
end
end Go.Eng
