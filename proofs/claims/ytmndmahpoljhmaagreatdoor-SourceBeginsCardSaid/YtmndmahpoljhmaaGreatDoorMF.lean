/-
  Texts of the proofs of this seat, part 6. No condition.
-/
import Derived.Test.YtmndmahpoljhmaaGreatDoorME
import Derived.OpenShut
import Derived.Shelf.Strconv.Atoi
import Derived.Test.YtmndmahpoljhmaaGreatDoorProg
set_option linter.unusedVariables false
set_option linter.unusedSimpArgs false
namespace Go.Eng
open Go.Proofs
attribute[local simp] mW kX iB bC mT fY hZ nM cN bG oZ.plain oZ.cond oZ.fail dP lW sT mM fP kN lG lH memless mF eJ iW tP Ee hO fI strip oL dV lK bU
 qC fQ iH iC iG oT lk cD dR bP bV bX nK eT oP iF iZ bS eK bK dG iA eV eW dW eX gF gG gH eY dX eZ dY fB gJ gK gN gO fC gR oK nH mkAgg sO AT jI bD hU aX.live TK.isNone TK.agg TK.isBool TK.isStr TK.isStruct Op.operands Call.operands
 bE cO cH cW eE nI lB cU dH iE eO kP aP frozen lI
 jM jN lC gD jP jQ jR jV lD gE jX jY jZ kC rJ lR nO nP nR nS nU kD jK gC eU Nm.d Df.d Ed.d xD xE nE xF jL rU rV dA dB
 xH xI rK xJ xK rL rM rN nV xL xM rO
 bT bA dJ lJ dK bR cB bM eN uF TK.isInt jO jW nQ gM hF dI eL eM fV eS fO lX sA nD wW rI
 nC kR mC mU cL eA dS kW jE jF iV sD gS cZ gT gU cD jT jU nN iI gV kE gP gQ fE
 cK gZ TK.isPtr eF bZ kF oU pR jS kA nT gI gL fD
attribute[local simp] dZ kG gW
section
attribute[local simp] oZ.cond Nd.d_eq nd_t nd_dr nd_td ndsD bJ
theorem zK(s t:aR)(hl:s.length≤9223372036854775807)(ht:t.length≤9223372036854775807):Ok Tryz.prog 205 [.str s,.str t] ⟨.d (.bool (decide (s.take t.length=t))),true⟩:=by
 refine Ok.ret Tryz.func205 (by kernel_rfl) (c:=_) rfl Tryz.ntmps205 (by simp) Tryz.results205 (by intro _ h;cases h) fun w0 X hp=>?_
 refine oS.sy ?_
 simp
 refine oS.sy ?_
 simp
 refine oS.ret ?_
 simp
 rw[Bool.beq_eq_decide_eq,Bool.eq_iff_iff]
 simp only[Bool.and_eq_true,decide_eq_true_eq]
 refine⟨fun h=>h.2,fun h=>⟨?_,h⟩⟩
 have e:=congrArg List.length h
 rw[List.length_take]at e
 omega
theorem sF(s t:aR)(hl:s.length≤9223372036854775807)(ht:t.length≤9223372036854775807):Ok Tryz.prog 159 [.str s,.str t] ⟨.d (.bool (decide (s.take t.length=t))),true⟩:=by
 refine Ok.ret Tryz.func159 (by kernel_rfl) (c:=_) rfl Tryz.ntmps159 (by simp) Tryz.results159 (by intro _ h;cases h) fun w0 X hp=>?_
 refine oS.sy ?_
 simp
 refine oS.seq ?_
 have h:=zK s t hl ht
 refine oS.ro hT hW (fun|7=>some<| .plain ⟨.d (.bool (decide (s.take t.length=t))),true⟩|_=>none) ?_
 simp
 refine⟨h,?_⟩
 refine oS.ret ?_
 simp
theorem Cw(s:aR)(c:UInt8):Ok Tryz.prog 160 [.str s,.int .u8 (c.toNat:Int)] ⟨.d (aC (wO c s)),true⟩:=by
 refine Ok.ret Tryz.func160 (by kernel_rfl) (c:=_) rfl Tryz.ntmps160 (by simp) Tryz.results160 (by intro _ h;cases h) fun w0 X hp=>?_
 refine oS.sy ?_
 simp
 refine oS.seq ?_
 have h:=AF s c
 refine oS.ro hT hW (fun|7=>some<| .plain ⟨.d (aC (wO c s)),true⟩|_=>none) ?_
 simp
 refine⟨h,?_⟩
 refine oS.ret ?_
 simp
theorem nF(c:UInt8)(r:aR):bB (c::r)=if bF c then dN (c::r)else if c=36 then(if 0<dN r then dN r+1 else 0)
 else if aW c then(if iX aW (c::r)≤3 then iX aW (c::r)else 0)
 else if(c::r).take 2=[60,61]∨(c::r).take 2=[61,61]then 2 else if c∈rP then 1 else 0:=rfl
theorem JX{c:UInt8}:((c.toNat:Int)=36)↔c=36:=by
 rw[←UInt8.toNat_inj]
 have:(36:UInt8).toNat=36:=rfl
 omega
theorem oX(c:UInt8)(r:aR)(a b:UInt8):(c::r).take 2=[a,b]↔c=a∧r.take 1=[b]:=by simp
theorem DD(c:UInt8):∀l:aR,0≤wO c l↔c∈l
 |[]=>by simp[wO,lS]
 |d::l=>by
  have ih:=DD c l
  unfold wO at ih⊢
  unfold lS
  by_cases h:d=c
  ·simp[h]
  ·rw[if_neg h]
   have h':¬c=d:=fun e=>h e.symm
   cases q:lS c l with
   |none=>rw[q]at ih;simp only[Option.map_none,List.mem_cons,h',false_or];exact ih
   |some q2=>rw[q]at ih;simp only[Option.map_some,List.mem_cons,h',false_or,List.length_cons];exact⟨fun _=>ih.1 (by simp),fun _=>by omega⟩
theorem Pu(c:UInt8)(r:aR)(hl:(c::r).length≤9223372036854775807):Ok Tryz.prog 110 [.str (c::r)] ⟨.d (aC (bB (c::r))),true⟩:=by
 refine Ok.ret Tryz.func110 (by kernel_rfl) (c:=_) rfl Tryz.ntmps110 (by simp) Tryz.results110 (by intro _ h;cases h) fun w0 X hp=>?_
 have hr:r.length+1≤9223372036854775807:=by simpa using hl
 refine oS.sy ?_
 simp
 refine oS.seq ?_
 refine oS.block ?_
 refine oS.seq ?_
 have l1:=yW c
 refine oS.ro hT hW (fun|8=>some<| .plain ⟨.d (.bool (bF c)),true⟩|_=>none) ?_
 simp
 refine⟨l1,?_⟩
 refine aB ?_
 simp
 refine⟨fun h1=>?_,fun h1=>?_⟩
 ·refine oS.seq ?_
  have w1:=FU (c::r) hl
  refine oS.ro hT hW (fun|10=>some<| .plain ⟨.d (aC (dN (c::r))),true⟩|_=>none) ?_
  simp
  refine⟨w1,?_⟩
  refine oS.ret ?_
  simp
  rw[nF,if_pos h1]
 ·refine oS.sy ?_
  simp
  refine aB ?_
  simp
  refine⟨fun h3=>?_,fun h3=>?_⟩
  ·refine oS.seq ?_
   refine oS.seq ?_
   have w4:=FU r (by omega)
   refine oS.ro hT hW (fun|17=>some<| .plain ⟨.d (aC (dN r)),true⟩|_=>none) ?_
   simp
   refine⟨⟨by omega,w4⟩,?_⟩
   refine oS.sy ?_
   simp
   refine aB ?_
   simp
   refine⟨fun h5=>?_,fun h5=>?_⟩
   ·refine oS.seq ?_
    have b6:=Ax r
    refine aL ?_
    simp
    refine⟨by omega,?_⟩
    refine oS.ret ?_
    simp
    rw[nF,if_neg (by simp[h1]),if_pos (JX.1 h3),if_pos h5]
    rfl
   ·refine oS.skip ?_
    simp
    refine oS.sy ?_
    simp
    refine oS.ret ?_
    simp
    rw[nF,if_neg (by simp[h1]),if_pos (JX.1 h3),if_neg (by omega)]
    rfl
  ·refine oS.seq ?_
   have l8:=xT c
   refine oS.ro hT hW (fun|25=>some<| .plain ⟨.d (.bool (aW c)),true⟩|_=>none) ?_
   simp
   refine⟨l8,?_⟩
   refine aB ?_
   simp
   refine⟨fun h8=>?_,fun h8=>?_⟩
   ·refine oS.seq ?_
    refine oS.seq ?_
    have w9:=Nx (c::r) aW 157 (fun c=>xT c) hl
    refine oS.ro hT hW (fun|27=>some<| .plain ⟨.d (aC (iX aW (c::r))),true⟩|_=>none) ?_
    simp
    refine⟨w9,?_⟩
    refine oS.sy ?_
    simp
    refine aB ?_
    simp
    refine⟨fun h10=>?_,fun h10=>?_⟩
    ·refine oS.sy ?_
     simp
     refine oS.ret ?_
     simp
     rw[nF,if_neg (by simp[h1]),if_neg (fun e=>h3 (JX.2 e)),if_pos h8,if_pos (by omega)]
    ·refine oS.skip ?_
     simp
     refine oS.sy ?_
     simp
     refine oS.ret ?_
     simp
     rw[nF,if_neg (by simp[h1]),if_neg (fun e=>h3 (JX.2 e)),if_pos h8,if_neg (by omega)]
     rfl
   ·refine oS.seq ?_
    have w13:=sF (c::r) [60,61] hl (by decide)
    have v13:=sF (c::r) [61,61] hl (by decide)
    refine oS.ro hT hW (fun|33=>some<| .plain ⟨.d (.bool (decide ((c::r).take 2=[60,61]))),true⟩|36=>some<| .plain ⟨.d (.bool (decide ((c::r).take 2=[61,61]))),true⟩|_=>none) ?_
    simp
    refine⟨⟨⟨by simpa using w13,fun _=>by simpa using v13⟩,fun h=>Classical.not_and_iff_not_or_not.1 fun q=>h q.1 q.2⟩,?_⟩
    refine aB ?_
    simp
    refine⟨fun g=>?_,fun g1 g2=>?_⟩
    ·refine oS.sy ?_
     simp
     refine oS.ret ?_
     simp
     rw[nF,if_neg (by simp[h1]),if_neg (fun e=>h3 (JX.2 e)),if_neg (by simp[h8]),if_pos (by rw[oX,oX];exact g)]
     rfl
    ·refine oS.seq ?_
     have w15:=Cw [40,41,123,125,61,43,45,42,60,59,46] c
     refine oS.ro hT hW (fun|41=>some<| .plain ⟨.d (aC (wO c [40,41,123,125,61,43,45,42,60,59,46])),true⟩|_=>none) ?_
     simp
     refine⟨w15,?_⟩
     refine aB ?_
     simp
     refine⟨fun h15=>?_,fun h15=>?_⟩
     ·refine oS.sy ?_
      simp
      refine oS.ret ?_
      simp
      rw[nF,if_neg (by simp[h1]),if_neg (fun e=>h3 (JX.2 e)),if_neg (by simp[h8]),if_neg (by rw[oX,oX];rintro(⟨e1,e2⟩|⟨e1,e2⟩);exact g1 e1 e2;exact g2 e1 e2),if_pos ((DD c rP).1 h15)]
      rfl
     ·refine oS.skip ?_
      simp
      refine oS.sy ?_
      simp
      refine oS.ret ?_
      simp
      rw[nF,if_neg (by simp[h1]),if_neg (fun e=>h3 (JX.2 e)),if_neg (by simp[h8]),if_neg (by rw[oX,oX];rintro(⟨e1,e2⟩|⟨e1,e2⟩);exact g1 e1 e2;exact g2 e1 e2),if_neg (fun e=>by have:=(DD c rP).2 e;unfold rP at this;omega)]
      rfl
end
open Go.Proofs
section
attribute[local simp] oZ.cond Nd.d_eq nd_t nd_dr nd_td ndsD
theorem Lw(x:Nd):Ok Tryz.prog 169 [x.d] ⟨.d (aC (lvlN x.kind)),true⟩:=by
 refine Ok.ret Tryz.func169 (by kernel_rfl) (c:=_) rfl Tryz.ntmps169 (by simp) Tryz.results169 (by intro _ h;cases h) fun w0 X hp=>?_
 refine oS.sy ?_
 simp
 refine oS.seq ?_
 refine oS.sy ?_
 simp
 refine oS.block ?_
 refine aO (ι:=BC) (fun⟨b⟩=>aY [(1,.bx 1 0),(4,.d (aC (x.kind))),(5,.d (.bool b))]) (fun⟨b⟩=>aK [(1,.box false [.d (aC x.kind),.d (.str x.text),.d (aC x.n),.d (ndsD x.kids)])]) (fun⟨b⟩=>b=true↔(x.kind=26∨x.kind=27∨x.kind=28)) ?_ fun⟨b⟩ hc5=>?_
 ·refine oS.sy ?_
  simp
  refine aB ?_
  simp
  refine⟨fun h2=>?_,fun h2=>?_⟩
  ·refine oS.skip ?_
   simp
   refine Pg.mk ⟨decide (x.kind=26)⟩ (aA [1,4,5] [(1,1)] (by decide) (by decide) (by simp[hp]) (by simp) (by simp)) ?_
   simp[h2]
  ·refine oS.sy ?_
   simp
   refine aB ?_
   simp
   refine⟨fun h3=>?_,fun h3=>?_⟩
   ·refine oS.skip ?_
    simp
    refine Pg.mk ⟨decide (x.kind=27)⟩ (aA [1,4,5] [(1,1)] (by decide) (by decide) (by simp[hp]) (by simp) (by simp)) ?_
    simp[h3]
   ·refine aL ?_
    simp
    refine Pg.mk ⟨decide (x.kind=28)⟩ (aA [1,4,5] [(1,1)] (by decide) (by decide) (by simp[hp]) (by simp) (by simp)) ?_
    simp only[decide_eq_true_eq];omega
 ·refine aB ?_
  simp
  refine⟨fun h5=>?_,fun h5=>?_⟩
  ·have q5:=hc5.1 h5
   refine oS.sy ?_
   simp
   refine oS.ret ?_
   have e:lvlN x.kind=1:=by rcases q5 with h|h|h<;>rw[h]<;>rfl
   simp[e]
  ·have q5:¬(x.kind=26∨x.kind=27∨x.kind=28):=fun q=>by simp[hc5.2 q]at h5
   refine aO (ι:=BC) (fun⟨b⟩=>aY [(1,.bx 1 0),(4,.d (aC (x.kind))),(9,.d (.bool b))]) (fun⟨b⟩=>aK [(1,.box false [.d (aC x.kind),.d (.str x.text),.d (aC x.n),.d (ndsD x.kids)])]) (fun⟨b⟩=>b=true↔(x.kind=29∨x.kind=30)) ?_ fun⟨b⟩ hc8=>?_
   ·refine oS.sy ?_
    simp
    refine aB ?_
    simp
    refine⟨fun h6=>?_,fun h6=>?_⟩
    ·refine oS.skip ?_
     simp
     refine Pg.mk ⟨decide (x.kind=29)⟩ (aA [1,4,9] [(1,1)] (by decide) (by decide) (by simp[hp]) (by simp) (by simp)) ?_
     simp[h6]
    ·refine aL ?_
     simp
     refine Pg.mk ⟨decide (x.kind=30)⟩ (aA [1,4,9] [(1,1)] (by decide) (by decide) (by simp[hp]) (by simp) (by simp)) ?_
     simp only[decide_eq_true_eq];omega
   ·refine aB ?_
    simp
    refine⟨fun h8=>?_,fun h8=>?_⟩
    ·have q8:=hc8.1 h8
     refine oS.sy ?_
     simp
     refine oS.ret ?_
     have e:lvlN x.kind=2:=by rcases q8 with h|h<;>rw[h]<;>rfl
     simp[e]
    ·have q8:¬(x.kind=29∨x.kind=30):=fun q=>by simp[hc8.2 q]at h8
     refine oS.sy ?_
     simp
     refine aB ?_
     simp
     refine⟨fun h9=>?_,fun h9=>?_⟩
     ·refine oS.sy ?_
      simp
      refine oS.ret ?_
      have e:lvlN x.kind=3:=by rw[h9];rfl
      simp[e]
     ·refine oS.skip ?_
      simp
      refine oS.sy ?_
      simp
      refine oS.ret ?_
      have e:lvlN x.kind=4:=by unfold lvlN;rw[if_neg (by omega)]
      simp[e]
theorem DE(x:Nd)(least:Int)(hx:Ok Tryz.prog 68 [x.d] ⟨.d (.str (exprT x)),true⟩)(hl:(exprT x).length≤10000000000):Ok Tryz.prog 124 [x.d,aC least] ⟨.d (.str (paren (decide (lvlN x.kind<least)) (exprT x))),true⟩:=by
 refine Ok.ret Tryz.func124 (by kernel_rfl) (c:=_) rfl Tryz.ntmps124 (by simp) Tryz.results124 (by intro _ h;cases h) fun w0 X hp=>?_
 refine oS.sy ?_
 simp
 refine oS.seq ?_
 refine oS.seq ?_
 have hv:=Lw x
 refine oS.ro hT hW (fun|6=>some<| .plain ⟨.d (aC (lvlN x.kind)),true⟩|_=>none) ?_
 simp
 refine⟨by simpa using hv,?_⟩
 refine aB ?_
 simp
 refine⟨fun h1=>?_,fun h1=>?_⟩
 ·refine bY hT hW (fun|10=>some<| .plain ⟨.d (.str (exprT x)),true⟩|_=>none) ?_
  simp
  refine⟨by simpa using hx,?_⟩
  refine oS.ret ?_
  simp[paren]
  intro h
  omega
 ·refine oS.skip ?_
  simp
  refine bY hT hW (fun|12=>some<| .plain ⟨.d (.str (exprT x)),true⟩|_=>none) ?_
  simp
  refine⟨⟨⟨by simpa using hx,by omega⟩,by omega⟩,?_⟩
  refine oS.ret ?_
  simp[paren]
  intro h
  omega
theorem JY{x:Int}(h0:0≤x)(h:x<256):IntKind.u8.wrap x=x:=by
 unfold IntKind.wrap
 simp[IntKind.bits,IntKind.signed]
 omega
theorem uZ(m:Nat):iJ (m:Int)=xO m:=by unfold iJ;rw[if_neg (by omega)];rfl
theorem Hl{m:Nat}(h:0<m):iJ (-(m:Int))=45::xO m:=by unfold iJ;rw[if_pos (by omega),Int.natAbs_neg];rfl
theorem EY{n:Nat}(h:n<1000)(h1:10≤n):xO n=xO (n / 10)++xO (n%10):=by
 have h2:n%10<10:=Nat.mod_lt _ (by decide)
 unfold xO
 rw[if_neg (by omega),if_pos h2]
 by_cases q:n<100
 ·rw[if_pos q,if_pos (by omega)];rfl
 ·rw[if_neg q,if_neg (by omega),if_pos (by omega),Nat.div_div_eq_div_mul];rfl
theorem JZ{n:Nat}(h:n<10):xO n=[UInt8.ofNat (48+n)]:=by unfold xO;rw[if_pos h]
theorem zL(n:Int)(h1: -999≤n)(h2:n≤999)(ih:∀m:Int,0≤m→m≤999→(n<0∨m<n)→Ok Tryz.prog 52 [aC m] ⟨.d (.str (iJ m)),true⟩):Ok Tryz.prog 52 [aC n] ⟨.d (.str (iJ n)),true⟩:=by
 refine Ok.ret Tryz.func52 (by kernel_rfl) (c:=_) rfl Tryz.ntmps52 (by simp) Tryz.results52 (by intro _ h;cases h) fun w0 X hp=>?_
 refine oS.sy ?_
 simp
 refine oS.seq ?_
 refine oS.sy ?_
 simp
 refine aB ?_
 simp
 refine⟨fun h1=>?_,fun h1=>?_⟩
 ·refine oS.seq ?_
  obtain⟨m,hm⟩:∃m:Nat,n= -(m:Int):=⟨n.natAbs,by omega⟩
  obtain⟨a,ha⟩:∃a,a=m / 10:=⟨_,rfl⟩
  obtain⟨b,hb⟩:∃b,b=m%10:=⟨_,rfl⟩
  have e1:n.tdiv 10= -(a:Int):=by subst hm ha;rw[Int.neg_tdiv];rfl
  have e2:n.tmod 10= -(b:Int):=by subst hm hb;rw[Int.neg_tmod];rfl
  have c1:=ih (a:Int) (by omega) (by omega) (by omega)
  have c2:=ih (b:Int) (by omega) (by omega) (by omega)
  have l1:=lU (a:Int)
  have l2:=lU (b:Int)
  have z1:0- -(a:Int)=(a:Int):=by omega
  have z2:0- -(b:Int)=(b:Int):=by omega
  refine oS.ro hT hW (fun|8=>some<| .plain ⟨.d (.str (iJ (a:Int))),true⟩|13=>some<| .plain ⟨.d (.str (iJ (b:Int))),true⟩|_=>none) ?_
  simp[e1,e2]
  refine⟨by(repeat' with_reducible apply And.intro)<;>first|omega|exact c1|exact c2|(simp only[List.length_cons];omega),?_⟩
  refine oS.ret ?_
  simp
  subst hm ha hb
  rw[Hl (by omega),uZ,uZ,EY (n:=m) (by omega) (by omega)]
 ·refine oS.skip ?_
  simp
  refine oS.seq ?_
  refine oS.sy ?_
  simp
  refine aB ?_
  simp
  refine⟨fun h3=>?_,fun h3=>?_⟩
  ·refine oS.seq ?_
   obtain⟨m,hm⟩:∃m:Nat,n= -(m:Int):=⟨n.natAbs,by omega⟩
   have c1:=ih (m:Int) (by omega) (by omega) (by omega)
   have l1:=lU (m:Int)
   have z1:0-n=(m:Int):=by omega
   refine oS.ro hT hW (fun|19=>some<| .plain ⟨.d (.str (iJ (m:Int))),true⟩|_=>none) ?_
   simp[z1]
   refine⟨by(repeat' with_reducible apply And.intro)<;>first|omega|exact c1,?_⟩
   refine oS.ret ?_
   simp
   subst hm
   rw[Hl (by omega),uZ]
  ·refine oS.skip ?_
   simp
   refine oS.seq ?_
   refine oS.sy ?_
   simp
   refine aB ?_
   simp
   refine⟨fun h5=>?_,fun h5=>?_⟩
   ·refine oS.seq ?_
    obtain⟨m,hm⟩:∃m:Nat,n=(m:Int):=⟨n.natAbs,by omega⟩
    have w1:IntKind.u8.wrap (48+n)=48+n:=JY (by omega) (by omega)
    refine aL ?_
    simp[w1]
    refine⟨by(repeat' with_reducible apply And.intro)<;>first|omega|decide,?_⟩
    refine oS.ret ?_
    simp
    subst hm
    rw[uZ,JZ (by omega)]
    rfl
   ·refine oS.skip ?_
    simp
    refine oS.seq ?_
    obtain⟨m,hm⟩:∃m:Nat,n=(m:Int):=⟨n.natAbs,by omega⟩
    obtain⟨a,ha⟩:∃a,a=m / 10:=⟨_,rfl⟩
    obtain⟨b,hb⟩:∃b,b=m%10:=⟨_,rfl⟩
    have e1:n.tdiv 10=(a:Int):=by subst hm ha;rfl
    have e2:n.tmod 10=(b:Int):=by subst hm hb;rfl
    have c1:=ih (a:Int) (by omega) (by omega) (by omega)
    have l1:=lU (a:Int)
    have w1:IntKind.u8.wrap (48+(b:Int))=48+(b:Int):=JY (by omega) (by omega)
    refine aF hT hW bI (lk [[],[0],[0,1],[],[3],[3,4],[3,4,5],[3,4,5,6],[3,4,5,6,7],[0,1,2,3,4,5,6,7,8],[0,1,2,3,4,5,6,7,8,9]]) (lk [[35],[35],[35],[30],[30],[30],[30],[30],[30],[],[]]) (lk [[],[],[30],[],[],[],[],[35],[],[],[]]) (by kernel_rfl) (fun|30=>some<| .plain ⟨.d (.str (iJ (a:Int))),true⟩|_=>none) (by intro d;first|exact⟨rfl,fun _ h=>h⟩|(split<;>exact⟨rfl,fun _ h=>h⟩)) ?_
    simp[e1,e2,w1]
    refine⟨by(repeat' with_reducible apply And.intro)<;>first|omega|exact c1|decide,?_⟩
    refine oS.ret ?_
    simp
    subst hm ha hb
    rw[uZ,uZ,EY (n:=m) (by omega) (by omega),JZ (n:=m%10) (by omega)]
    rfl
theorem pU(n:Int)(h1: -999≤n)(h2:n≤999):Ok Tryz.prog 52 [aC n] ⟨.d (.str (iJ n)),true⟩:=by
 have pos:∀k:Nat,k≤999→Ok Tryz.prog 52 [aC (k:Int)] ⟨.d (.str (iJ (k:Int))),true⟩:=fun k=>by
  induction k using Nat.strongRecOn with
  |ind k ih=>
   intro hk
   refine zL _ (by omega) (by omega) fun m h0 _ hm=>?_
   obtain⟨j,rfl⟩:=Int.eq_ofNat_of_zero_le h0
   exact ih j (by omega) (by omega)
 refine zL n h1 h2 fun m h0 hm _=>?_
 obtain⟨j,rfl⟩:=Int.eq_ofNat_of_zero_le h0
 exact pos j (by omega)
theorem EZ{x a b:Nd}(h:exprT x=paren (decide (lvlN a.kind<(if cG x.kind=1 then 2 else cG x.kind))) (exprT a)++32::(qE x.kind++32::paren (decide (lvlN b.kind<cG x.kind+1)) (exprT b))){l m:Int}{s:aR}
 (hl:(if cG x.kind=1 then 2 else cG x.kind)=l)(hm:cG x.kind+1=m)(hs:qE x.kind=s):exprT x=paren (decide (lvlN a.kind<l)) (exprT a)++32::(s++32::paren (decide (lvlN b.kind<m)) (exprT b)):=by
 rw[h,hl,hm,hs]
theorem Jb(x:Nd)(hr:aI x=true)(he:aH x.kind=true)(hw:weighN x≤1000000000)(ih:∀y∈x.kids,aI y=true→aH y.kind=true→weighN y≤1000000000→Ok Tryz.prog 68 [y.d] ⟨.d (.str (exprT y)),true⟩):Ok Tryz.prog 68 [x.d] ⟨.d (.str (exprT x)),true⟩:=by
 refine Ok.ret Tryz.func68 (by kernel_rfl) (c:=_) rfl Tryz.ntmps68 (by simp) Tryz.results68 (by intro _ h;cases h) fun w0 X hp=>?_
 obtain⟨f0,f32,f33,f36,f34,f26⟩:=Dy hr he
 have hwx:=weighN_eq x
 refine oS.sy ?_
 simp
 refine oS.seq ?_
 refine oS.sy ?_
 simp
 refine oS.block ?_
 refine oS.sy ?_
 simp
 refine aB ?_
 simp
 refine⟨fun h2=>?_,fun h2=>?_⟩
 ·refine oS.seq ?_
  obtain⟨q1,q2,q3⟩:=f32 h2
  have hi:=pU x.n (by omega) q3
  refine oS.ro hT hW (fun|11=>some<| .plain ⟨.d (.str (iJ x.n)),true⟩|_=>none) ?_
  simp
  refine⟨hi,?_⟩
  refine oS.ret ?_
  simp[q1]
 ·refine oS.sy ?_
  simp
  refine aB ?_
  simp
  refine⟨fun h4=>?_,fun h4=>?_⟩
  ·refine oS.sy ?_
   simp
   refine⟨by omega,?_⟩
   refine oS.ret ?_
   simp[f33 h4]
  ·refine aO (ι:=BC) (fun⟨b⟩=>aY [(1,.bx 1 0),(6,.d (aC (x.kind))),(17,.d (.bool b))]) (fun⟨b⟩=>aK [(1,.box false [.d (aC x.kind),.d (.str x.text),.d (aC x.n),.d (ndsD x.kids)])]) (fun⟨b⟩=>b=true↔(x.kind=34∨x.kind=35)) ?_ fun⟨b⟩ hc8=>?_
   ·refine oS.sy ?_
    simp
    refine aB ?_
    simp
    refine⟨fun h6=>?_,fun h6=>?_⟩
    ·refine oS.skip ?_
     simp
     refine Pg.mk ⟨decide (x.kind=34)⟩ (aA [1,6,17] [(1,1)] (by decide) (by decide) (by simp[hp]) (by simp) (by simp)) ?_
     simp[h6]
    ·refine aL ?_
     simp
     refine Pg.mk ⟨decide (x.kind=35)⟩ (aA [1,6,17] [(1,1)] (by decide) (by decide) (by simp[hp]) (by simp) (by simp)) ?_
     simp only[decide_eq_true_eq];omega
   ·refine aB ?_
    simp
    refine⟨fun h8=>?_,fun h8=>?_⟩
    ·have q8:=hc8.1 h8
     refine oS.sy ?_
     simp
     refine oS.ret ?_
     simp[f34 q8]
    ·have q8:¬(x.kind=34∨x.kind=35):=fun q=>by simp[hc8.2 q]at h8
     refine oS.sy ?_
     simp
     refine aB ?_
     simp
     refine⟨fun h9=>?_,fun h9=>?_⟩
     ·refine oS.sy ?_
      simp
      refine oS.ret ?_
      simp[f36 h9,qD]
     ·refine oS.skip ?_
      simp
      refine oS.seq ?_
      have hk31:x.kind≤31:=by omega
      obtain⟨a,b',hks,ra,ea,rb,eb,hTx⟩:=f26 hk31
      rw[hks]at hwx ih
      simp only[weighL]at hwx
      have la:=eB a ra ea
      have lb:=eB b' rb eb
      have pa:=fun c=>sM c (exprT a)
      have pb:=fun c=>sM c (exprT b')
      have ka:=fun l=>DE a l (ih a (by simp) ra ea (by omega)) (by omega)
      have kb:=fun l=>DE b' l (ih b' (by simp) rb eb (by omega)) (by omega)
      refine aL ?_
      simp[hks]
      refine oS.sy ?_
      simp[hks]
      refine oS.seq ?_
      refine oS.sy ?_
      simp
      refine oS.block ?_
      refine oS.sy ?_
      simp
      refine aB ?_
      simp
      refine⟨fun h14=>?_,fun h14=>?_⟩
      ·refine oS.seq ?_
       have pa15:=pa (decide (lvlN a.kind<2))
       have pb15:=pb (decide (lvlN b'.kind<2))
       have ka15:=ka 2
       have kb15:=kb 2
       have e15:=EZ hTx (l:=2) (m:=2) (s:=[60]) (by rw[h14];rfl) (by rw[h14];rfl) (by rw[h14];rfl)
       refine aF hT hW bI (lk [[],[0],[0,1],[],[0,1,3],[0,1,2,3,4],[0,1,2,3,4,5]]) (lk [[],[],[40],[37],[],[],[]]) (lk [[],[37],[],[],[40],[],[]]) (by kernel_rfl) (fun|37=>some<| .plain ⟨.d (.str (paren (decide (lvlN a.kind<2)) (exprT a))),true⟩|40=>some<| .plain ⟨.d (.str (paren (decide (lvlN b'.kind<2)) (exprT b'))),true⟩|_=>none) (by intro d;first|exact⟨rfl,fun _ h=>h⟩|(split<;>exact⟨rfl,fun _ h=>h⟩)) ?_
       simp
       refine⟨by(repeat' with_reducible apply And.intro)<;>first|omega|(simpa using ka15)|(simpa using kb15),?_⟩
       refine oS.ret ?_
       simp[e15]
      ·refine oS.sy ?_
       simp
       refine aB ?_
       simp
       refine⟨fun h16=>?_,fun h16=>?_⟩
       ·refine oS.seq ?_
        have pa17:=pa (decide (lvlN a.kind<2))
        have pb17:=pb (decide (lvlN b'.kind<2))
        have ka17:=ka 2
        have kb17:=kb 2
        have e17:=EZ hTx (l:=2) (m:=2) (s:=[60,61]) (by rw[h16];rfl) (by rw[h16];rfl) (by rw[h16];rfl)
        refine aF hT hW bI (lk [[],[0],[0,1],[],[0,1,3],[0,1,2,3,4],[0,1,2,3,4,5]]) (lk [[],[],[48],[45],[],[],[]]) (lk [[],[45],[],[],[48],[],[]]) (by kernel_rfl) (fun|45=>some<| .plain ⟨.d (.str (paren (decide (lvlN a.kind<2)) (exprT a))),true⟩|48=>some<| .plain ⟨.d (.str (paren (decide (lvlN b'.kind<2)) (exprT b'))),true⟩|_=>none) (by intro d;first|exact⟨rfl,fun _ h=>h⟩|(split<;>exact⟨rfl,fun _ h=>h⟩)) ?_
        simp
        refine⟨by(repeat' with_reducible apply And.intro)<;>first|omega|(simpa using ka17)|(simpa using kb17),?_⟩
        refine oS.ret ?_
        simp[e17]
       ·refine oS.sy ?_
        simp
        refine aB ?_
        simp
        refine⟨fun h18=>?_,fun h18=>?_⟩
        ·refine oS.seq ?_
         have pa19:=pa (decide (lvlN a.kind<2))
         have pb19:=pb (decide (lvlN b'.kind<2))
         have ka19:=ka 2
         have kb19:=kb 2
         have e19:=EZ hTx (l:=2) (m:=2) (s:=[61,61]) (by rw[h18];rfl) (by rw[h18];rfl) (by rw[h18];rfl)
         refine aF hT hW bI (lk [[],[0],[0,1],[],[0,1,3],[0,1,2,3,4],[0,1,2,3,4,5]]) (lk [[],[],[56],[53],[],[],[]]) (lk [[],[53],[],[],[56],[],[]]) (by kernel_rfl) (fun|53=>some<| .plain ⟨.d (.str (paren (decide (lvlN a.kind<2)) (exprT a))),true⟩|56=>some<| .plain ⟨.d (.str (paren (decide (lvlN b'.kind<2)) (exprT b'))),true⟩|_=>none) (by intro d;first|exact⟨rfl,fun _ h=>h⟩|(split<;>exact⟨rfl,fun _ h=>h⟩)) ?_
         simp
         refine⟨by(repeat' with_reducible apply And.intro)<;>first|omega|(simpa using ka19)|(simpa using kb19),?_⟩
         refine oS.ret ?_
         simp[e19]
        ·refine oS.sy ?_
         simp
         refine aB ?_
         simp
         refine⟨fun h20=>?_,fun h20=>?_⟩
         ·refine oS.seq ?_
          have pa21:=pa (decide (lvlN a.kind<2))
          have pb21:=pb (decide (lvlN b'.kind<3))
          have ka21:=ka 2
          have kb21:=kb 3
          have e21:=EZ hTx (l:=2) (m:=3) (s:=[43]) (by rw[h20];rfl) (by rw[h20];rfl) (by rw[h20];rfl)
          refine aF hT hW bI (lk [[],[0],[0,1],[],[0,1,3],[0,1,2,3,4],[0,1,2,3,4,5]]) (lk [[],[],[64],[61],[],[],[]]) (lk [[],[61],[],[],[64],[],[]]) (by kernel_rfl) (fun|61=>some<| .plain ⟨.d (.str (paren (decide (lvlN a.kind<2)) (exprT a))),true⟩|64=>some<| .plain ⟨.d (.str (paren (decide (lvlN b'.kind<3)) (exprT b'))),true⟩|_=>none) (by intro d;first|exact⟨rfl,fun _ h=>h⟩|(split<;>exact⟨rfl,fun _ h=>h⟩)) ?_
          simp
          refine⟨by(repeat' with_reducible apply And.intro)<;>first|omega|(simpa using ka21)|(simpa using kb21),?_⟩
          refine oS.ret ?_
          simp[e21]
         ·refine oS.sy ?_
          simp
          refine aB ?_
          simp
          refine⟨fun h22=>?_,fun h22=>?_⟩
          ·refine oS.seq ?_
           have pa23:=pa (decide (lvlN a.kind<2))
           have pb23:=pb (decide (lvlN b'.kind<3))
           have ka23:=ka 2
           have kb23:=kb 3
           have e23:=EZ hTx (l:=2) (m:=3) (s:=[45]) (by rw[h22];rfl) (by rw[h22];rfl) (by rw[h22];rfl)
           refine aF hT hW bI (lk [[],[0],[0,1],[],[0,1,3],[0,1,2,3,4],[0,1,2,3,4,5]]) (lk [[],[],[72],[69],[],[],[]]) (lk [[],[69],[],[],[72],[],[]]) (by kernel_rfl) (fun|69=>some<| .plain ⟨.d (.str (paren (decide (lvlN a.kind<2)) (exprT a))),true⟩|72=>some<| .plain ⟨.d (.str (paren (decide (lvlN b'.kind<3)) (exprT b'))),true⟩|_=>none) (by intro d;first|exact⟨rfl,fun _ h=>h⟩|(split<;>exact⟨rfl,fun _ h=>h⟩)) ?_
           simp
           refine⟨by(repeat' with_reducible apply And.intro)<;>first|omega|(simpa using ka23)|(simpa using kb23),?_⟩
           refine oS.ret ?_
           simp[e23]
          ·refine oS.skip ?_
           simp
           refine oS.seq ?_
           have pa24:=pa (decide (lvlN a.kind<3))
           have pb24:=pb (decide (lvlN b'.kind<4))
           have ka24:=ka 3
           have kb24:=kb 4
           have e24:=EZ hTx (l:=3) (m:=4) (s:=[42]) (by rw[(show x.kind=31 by omega)];rfl) (by rw[(show x.kind=31 by omega)];rfl) (by rw[(show x.kind=31 by omega)];rfl)
           refine aF hT hW bI (lk [[],[0],[0,1],[],[0,1,3],[0,1,2,3,4],[0,1,2,3,4,5]]) (lk [[],[],[78],[75],[],[],[]]) (lk [[],[75],[],[],[78],[],[]]) (by kernel_rfl) (fun|75=>some<| .plain ⟨.d (.str (paren (decide (lvlN a.kind<3)) (exprT a))),true⟩|78=>some<| .plain ⟨.d (.str (paren (decide (lvlN b'.kind<4)) (exprT b'))),true⟩|_=>none) (by intro d;first|exact⟨rfl,fun _ h=>h⟩|(split<;>exact⟨rfl,fun _ h=>h⟩)) ?_
           simp
           refine⟨by(repeat' with_reducible apply And.intro)<;>first|omega|(simpa using ka24)|(simpa using kb24),?_⟩
           refine oS.ret ?_
           simp[e24]
theorem tG(x:Nd):aI x=true→aH x.kind=true→weighN x≤1000000000→Ok Tryz.prog 68 [x.d] ⟨.d (.str (exprT x)),true⟩:=
 qX (p:=fun x=>aI x=true→aH x.kind=true→weighN x≤1000000000→Ok Tryz.prog 68 [x.d] ⟨.d (.str (exprT x)),true⟩) (fun _ _ _ _ ih hr he hw=>Jb _ hr he hw ih) x
end
open Go.Proofs
section
attribute[local simp] oZ.cond Nd.d_eq nd_t nd_dr nd_td ndsD
theorem Ka{x:Nd}(h:IR x.kind x.text x.n x.kids)(hk:x.kind=15∨x.kind=22∨x.kind=16∨x.kind=23∨x.kind=24):∃e,x.kids=[e]∧aI e=true∧aH e.kind=true∧x.n=0:=by
 obtain⟨_,_,_,h4⟩:=yU h
 have key:∀e,x.kids=[e]→x.n=0→∃e,x.kids=[e]∧aI e=true∧aH e.kind=true∧x.n=0:=fun e he hn=>⟨e,he,(h4 e (by rw[he];simp)).1,(h4 e (by rw[he];simp)).2,hn⟩
 rcases h with⟨h1,h2,h3,h4⟩|⟨h1,h2,h3,e,h4,h5,h6⟩|⟨h1,h2,h3,u,h4,h5⟩|⟨h1,h2,h3,h4,h5⟩|⟨h1,h2,h3,h4⟩|⟨h1,h2,h3,h4⟩|⟨h1,h2,h3,e,h4,h5,h6⟩
 ·omega
 ·exact key _ h4 h3
 ·exact key _ h4 h3
 ·omega
 ·omega
 ·omega
 ·exact key _ h4 h3
theorem ND{x:Nd}(h:IR x.kind x.text x.n x.kids)(hk:x.kind=13∨x.kind=14∨x.kind=17∨x.kind=18):x.kids=[]∧x.n=0:=by
 rcases h with⟨h1,h2,h3,h4⟩|⟨h1,h2,h3,e,h4,h5,h6⟩|⟨h1,h2,h3,u,h4,h5⟩|⟨h1,h2,h3,h4,h5⟩|⟨h1,h2,h3,h4⟩|⟨h1,h2,h3,h4⟩|⟨h1,h2,h3,e,h4,h5,h6⟩<;>first|exact⟨h4,h3⟩|omega
theorem Hm{x:Nd}(h:IR x.kind x.text x.n x.kids)(hk:x.kind=19∨x.kind=21∨x.kind=25):x.kids=[]∧0<x.n:=by
 rcases h with⟨h1,h2,h3,h4⟩|⟨h1,h2,h3,e,h4,h5,h6⟩|⟨h1,h2,h3,u,h4,h5⟩|⟨h1,h2,h3,h4,h5⟩|⟨h1,h2,h3,h4⟩|⟨h1,h2,h3,h4⟩|⟨h1,h2,h3,e,h4,h5,h6⟩<;>first|exact⟨h5,by omega⟩|exact⟨h4,by omega⟩|omega
theorem Pv{x:Nd}(h:IR x.kind x.text x.n x.kids)(hk:x.kind=20):x.kids=[]∧x.n=0:=by
 rcases h with⟨h1,h2,h3,h4⟩|⟨h1,h2,h3,e,h4,h5,h6⟩|⟨h1,h2,h3,u,h4,h5⟩|⟨h1,h2,h3,h4,h5⟩|⟨h1,h2,h3,h4⟩|⟨h1,h2,h3,h4⟩|⟨h1,h2,h3,e,h4,h5,h6⟩<;>first|exact⟨h4,h3⟩|omega
theorem Ho{x:Nd}(hr:aI x=true)(h:x.kind=12):x.kids.length=2:=by
 obtain⟨k,t,n,ks⟩:=x
 have h:k=12:=h
 subst h
 obtain⟨_,_,hs,_⟩:=right_mk.1 hr
 obtain⟨a,b,e,_⟩:=AB (ks:=ks) (f:=aH) (g:=cF) hs
 show ks.length=2
 rw[e];rfl
theorem zT:Ok Tryz.prog 51 [] ⟨.d (.sl wK),true⟩:=by
 refine Ok.ret Tryz.func51 (by kernel_rfl) (c:=_) rfl Tryz.ntmps51 (by simp) Tryz.results51 (by intro _ h;cases h) fun w0 X hp=>?_
 refine oS.sy ?_
 simp
 refine oS.sy ?_
 simp
 refine⟨by decide,?_⟩
 refine oS.ret ?_
 simp
 rfl
theorem Jc(x:Nd)(hb:nZ x)(hw:weighN x≤1000000000)(ih:∀y∈x.kids,Ok Tryz.prog 106 [y.d] ⟨.d (.str (stmtT y)),true⟩):Ok Tryz.prog 53 [x.d] ⟨.d (.str (blockT x)),true⟩:=by
 refine Ok.ret Tryz.func53 (by kernel_rfl) (c:=_) rfl Tryz.ntmps53 (by simp) Tryz.results53 (by intro _ h;cases h) fun w0 X hp=>?_
 have hlen:=(iO x).2 hb
 have hwx:=pN x
 have hstm:∀y∈x.kids,aI y=true∧cM y.kind=true:=by obtain⟨ks,rfl,h⟩:=hb;exact h
 refine oS.sy ?_
 simp
 refine oS.sy ?_
 simp
 refine oS.seq ?_
 refine oS.sy ?_
 simp
 refine oS.block ?_
 refine cA (ι:=Nat) (fun i=>aY [(1,.bx 1 0),(3,.d (.str (123::32::stmtsT (x.kids.take i)))),(4,.d (aC i))]) (fun i=>aK [(1,.box false [.d (aC x.kind),.d (.str x.text),.d (aC x.n),.d (ndsD x.kids)])]) (fun i=>i≤x.kids.length) (fun i=>x.kids.length-i) 0 (aA [1,3,4] [(1,1)] (by decide) (by decide) (by simp[hp]) (by simp[stmtsT]) (by simp)) (Nat.zero_le _) fun i hi3=>?_
 refine oS.seq ?_
 refine oS.sy ?_
 simp
 refine aB ?_
 simp
 refine⟨fun h3=>?_,fun h3=>?_⟩
 ·refine oS.skip ?_
  simp
  refine oS.seq ?_
  refine oS.block ?_
  have hi:i<x.kids.length:=by omega
  have hk:=ih _ (List.getElem_mem hi)
  have hs:=hstm _ (List.getElem_mem hi)
  have l1:=(iO x.kids[i]).1 hs.1 hs.2
  have l2:=oE hi
  have l3:=wN (l:=x.kids) (fun y hy=>(iO y).1 (hstm y hy).1 (hstm y hy).2) i
  have l4:=weighN_eq x
  refine oS.ro hT hW (fun|18=>some<| .plain ⟨.d (.str (stmtT x.kids[i])),true⟩|_=>none) ?_
  simp[hi]
  refine⟨⟨⟨by simpa using hk,by omega⟩,by omega⟩,?_⟩
  refine aL ?_
  simp
  refine⟨by omega,?_⟩
  refine JK.mk (i+1) (aA [1,3,4] [(1,1)] (by decide) (by decide) (by simp[hp]) (by simp[BV hi]) (by simp)) ?_ ?_
  ·omega
  ·omega
 ·refine oS.exit ?_
  simp
  refine oS.seq ?_
  have hi:i=x.kids.length:=by omega
  subst hi
  rw[List.take_length]
  rw[uY]at hlen
  simp only[List.length_append,List.length_cons]at hlen
  refine aL ?_
  simp
  refine⟨by omega,?_⟩
  refine oS.ret ?_
  simp[uY]
theorem Jd(x:Nd)(hr:aI x=true)(hk:cM x.kind=true)(hw:weighN x≤1000000000)(ihb:∀y∈x.kids,nZ y→Ok Tryz.prog 53 [y.d] ⟨.d (.str (blockT y)),true⟩):Ok Tryz.prog 106 [x.d] ⟨.d (.str (stmtT x)),true⟩:=by
 refine Ok.ret Tryz.func106 (by kernel_rfl) (c:=_) rfl Tryz.ntmps106 (by simp) Tryz.results106 (by intro _ h;cases h) fun w0 X hp=>?_
 obtain⟨f0,f9,f10,f11,f13⟩:=DA hr hk
 have hwx:=weighN_eq x
 have hlen:=(iO x).1 hr hk
 have wl:=uX x.kind
 have hmem:∀(i:Nat) (hi:i<x.kids.length),weighN x.kids[i]<weighN x:=fun i hi=>oE hi
 refine oS.sy ?_
 simp
 refine oS.sy ?_
 simp
 refine oS.seq ?_
 refine oS.sy ?_
 simp
 refine oS.block ?_
 refine oS.sy ?_
 simp
 refine aB ?_
 simp
 refine⟨fun h3=>?_,fun h3=>?_⟩
 ·refine oS.seq ?_
  obtain⟨h0,k0,e0⟩:=f9 h3
  have w0:=hmem 0 h0
  have l0:=eB _ k0.1 k0.2
  have c0:=tG _ k0.1 k0.2 (by omega)
  refine aF hT hW bI (lk [[],[0],[0,1],[0,1,2],[],[4],[4,5],[4,5,6],[0,1,2,3,4,5,6,7],[0,1,2,3,4,5,6,7,8],[0,1,2,3,4,5,6,7,8,9]]) (lk [[19],[19],[19],[19],[],[],[],[],[],[],[]]) (lk [[],[],[],[],[],[],[],[19],[],[],[]]) (by kernel_rfl) (fun|19=>some<| .plain ⟨.d (.str (exprT x.kids[0])),true⟩|_=>none) (by intro d;first|exact⟨rfl,fun _ h=>h⟩|(split<;>exact⟨rfl,fun _ h=>h⟩)) ?_
  simp[h0]
  refine⟨by(repeat' with_reducible apply And.intro)<;>first|omega|(simpa using c0),?_⟩
  refine oS.ret ?_
  simp[e0,Lo]
 ·refine oS.sy ?_
  simp
  refine aB ?_
  simp
  refine⟨fun h5=>?_,fun h5=>?_⟩
  ·refine oS.seq ?_
   obtain⟨h0,h1,k0,k1,e0⟩:=f10 h5
   have w0:=hmem 0 h0
   have w1:=hmem 1 h1
   have l0:=eB _ k0.1 k0.2
   have l1:=eB _ k1.1 k1.2
   have c0:=tG _ k0.1 k0.2 (by omega)
   have c1:=tG _ k1.1 k1.2 (by omega)
   simp at c0 c1
   refine aF hT hW bI (lk [[],[0],[0,1],[0,1,2],[0,1,2,3],[],[5],[5,6],[0,1,2,3,5,6,7],[0,1,2,3,4,5,6,7,8],[0,1,2,3,4,5,6,7,8,9],[0,1,2,3,4,5,6,7,8,9,10]]) (lk [[],[],[],[],[32],[27],[27],[27],[],[],[],[]]) (lk [[],[],[],[27],[],[],[],[],[32],[],[],[]]) (by kernel_rfl) (fun|27=>some<| .plain ⟨.d (.str (exprT x.kids[0])),true⟩|32=>some<| .plain ⟨.d (.str (exprT x.kids[1])),true⟩|_=>none) (by intro d;first|exact⟨rfl,fun _ h=>h⟩|(split<;>exact⟨rfl,fun _ h=>h⟩)) ?_
   simp[h0,h1]
   refine⟨by(repeat' with_reducible apply And.intro)<;>first|omega|with_reducible assumption,?_⟩
   refine oS.ret ?_
   simp[e0,Lp]
  ·refine oS.sy ?_
   simp
   refine aB ?_
   simp
   refine⟨fun h7=>?_,fun h7=>?_⟩
   ·refine oS.seq ?_
    obtain⟨h0,h1,k0,b1,e0⟩:=f11 (.inr h7)
    have w7:cX x.kind=[119,104,105,108,101]:=by rw[h7];rfl
    have e0:stmtT x=JS (cX x.kind) (exprT x.kids[0]) (blockT x.kids[1]):=by
     rcases e0 with⟨_,e0⟩|⟨h2,_,e0⟩
     ·exact e0
     ·exfalso
      have:=(Ho hr h7)
      omega
    have w0:=hmem 0 h0
    have w1:=hmem 1 h1
    have l0:=eB _ k0.1 k0.2
    have l1:=(iO x.kids[1]).2 b1
    have c0:=tG _ k0.1 k0.2 (by omega)
    have c1:=ihb _ (List.getElem_mem h1) b1
    simp at c0 c1
    refine aF hT hW bI (lk [[],[0],[0,1],[0,1,2],[0,1,2,3],[0,1,2,3,4],[],[6],[6,7],[0,1,2,3,6,7,8],[0,1,2,3,4,5,6,7,8,9],[0,1,2,3,4,5,6,7,8,9,10]]) (lk [[],[],[],[],[46],[46],[40],[40],[40],[],[],[]]) (lk [[],[],[],[40],[],[],[],[],[],[46],[],[]]) (by kernel_rfl) (fun|40=>some<| .plain ⟨.d (.str (exprT x.kids[0])),true⟩|46=>some<| .plain ⟨.d (.str (blockT x.kids[1])),true⟩|_=>none) (by intro d;first|exact⟨rfl,fun _ h=>h⟩|(split<;>exact⟨rfl,fun _ h=>h⟩)) ?_
    simp[h0,h1]
    refine⟨by(repeat' with_reducible apply And.intro)<;>first|omega|with_reducible assumption,?_⟩
    refine oS.ret ?_
    simp[e0,JS,w7]
   ·refine oS.sy ?_
    simp
    refine aB ?_
    simp
    refine⟨fun h9=>?_,fun h9=>?_⟩
    ·refine oS.seq ?_
     obtain⟨h0,h1,k0,b1,e0⟩:=f11 (.inl h9)
     have w9:cX x.kind=[105,102]:=by rw[h9];rfl
     have w0:=hmem 0 h0
     have w1:=hmem 1 h1
     have l0:=eB _ k0.1 k0.2
     have l1:=(iO x.kids[1]).2 b1
     have c0:=tG _ k0.1 k0.2 (by omega)
     have c1:=ihb _ (List.getElem_mem h1) b1
     simp at c0 c1
     refine aF hT hW bI (lk [[],[0],[0,1],[0,1,2],[0,1,2,3],[0,1,2,3,4],[],[6],[6,7],[0,1,2,3,6,7,8],[0,1,2,3,4,5,6,7,8,9],[0,1,2,3,4,5,6,7,8,9,10]]) (lk [[],[],[],[],[59],[59],[53],[53],[53],[],[],[]]) (lk [[],[],[],[53],[],[],[],[],[],[59],[],[]]) (by kernel_rfl) (fun|53=>some<| .plain ⟨.d (.str (exprT x.kids[0])),true⟩|59=>some<| .plain ⟨.d (.str (blockT x.kids[1])),true⟩|_=>none) (by intro d;first|exact⟨rfl,fun _ h=>h⟩|(split<;>exact⟨rfl,fun _ h=>h⟩)) ?_
     simp[h0,h1]
     refine⟨by(repeat' with_reducible apply And.intro)<;>first|omega|with_reducible assumption,?_⟩
     refine aO (ι:=Unit) (fun i=>aY [(1,.bx 1 0),(4,.d (.str (stmtT x)))]) (fun i=>aK [(1,.box false [.d (aC x.kind),.d (.str x.text),.d (aC x.n),.d (ndsD x.kids)])]) (fun i=>True) ?_ fun i hc13=>?_
     ·refine oS.sy ?_
      simp
      refine aB ?_
      simp
      refine⟨fun h11=>?_,fun h11=>?_⟩
      ·have h2':2<x.kids.length:=by omega
       rcases e0 with⟨e0,_⟩|⟨_,b2,e0⟩
       ·omega
       have w2:=hmem 2 h2'
       have l2:=(iO x.kids[2]).2 b2
       have c2:=ihb _ (List.getElem_mem h2') b2
       refine oS.ro hT hW (fun|69=>some<| .plain ⟨.d (.str (blockT x.kids[2])),true⟩|_=>none) ?_
       simp[h2']
       refine⟨by(repeat' with_reducible apply And.intro)<;>first|omega|(simpa using c2),?_⟩
       exact(aA [1,4] [(1,1)] (by decide) (by decide) (by simp[hp]) (by simp[e0,JS,ET,eD,w9]) (by simp))
      ·refine oS.skip ?_
       simp
       exact(aA [1,4] [(1,1)] (by decide) (by decide) (by simp[hp]) (by simp[(e0.resolve_right (fun⟨h2,_⟩=>by omega)).2,JS,w9]) (by simp))
     ·refine oS.sy ?_
      simp
      refine oS.ret ?_
      simp
    ·refine oS.skip ?_
     simp
     refine oS.seq ?_
     have hcm:=f13 (by omega)
     obtain⟨g1,g2,g3,g4⟩:=yU hcm
     have e0:=JU (x:=x) (by omega)
     have ml:=FT x.kind x.text
     have nl:=Bn x.n
     have kl:=yV g4
     have il:=lU x.n
     have q1:=vZ (k:=x.kind) (by omega) (by omega)
     have hst:=zT
     have q2:=pT
     refine aF hT hW bI (lk [[],[],[1],[0,1,2],[0,1,2,3],[0,1,2,3,4]]) (lk [[],[72],[72],[],[],[]]) (lk [[72],[],[],[],[],[]]) (by kernel_rfl) (fun|72=>some<| .plain ⟨.d (.sl wK),true⟩|_=>none) (by intro d;first|exact⟨rfl,fun _ h=>h⟩|(split<;>exact⟨rfl,fun _ h=>h⟩)) ?_
     simp[q1]
     refine⟨by(repeat' with_reducible apply And.intro)<;>first|omega|exact hst,?_⟩
     refine oS.seq ?_
     refine oS.sy ?_
     simp
     refine oS.block ?_
     refine aO (ι:=BC) (fun⟨b⟩=>aY [(1,.bx 1 0),(3,.d (ndsD x.kids)),(5,.d (.str (cX x.kind))),(78,.d (aC (x.kind))),(79,.d (.bool b))]) (fun⟨b⟩=>aK [(1,.box false [.d (aC x.kind),.d (.str x.text),.d (aC x.n),.d (ndsD x.kids)])]) (fun⟨b⟩=>b=true↔(x.kind=13∨x.kind=14∨x.kind=17∨x.kind=18)) ?_ fun⟨b⟩ hc20=>?_
     ·refine oS.sy ?_
      simp
      refine aB ?_
      simp
      refine⟨fun h16=>?_,fun h16=>?_⟩
      ·refine oS.skip ?_
       simp
       refine Pg.mk ⟨decide (x.kind=13)⟩ (aA [1,3,5,78,79] [(1,1)] (by decide) (by decide) (by simp[hp]) (by simp) (by simp)) ?_
       simp[h16]
      ·refine oS.sy ?_
       simp
       refine aB ?_
       simp
       refine⟨fun h17=>?_,fun h17=>?_⟩
       ·refine oS.skip ?_
        simp
        refine Pg.mk ⟨decide (x.kind=14)⟩ (aA [1,3,5,78,79] [(1,1)] (by decide) (by decide) (by simp[hp]) (by simp) (by simp)) ?_
        simp[h17]
       ·refine oS.sy ?_
        simp
        refine aB ?_
        simp
        refine⟨fun h18=>?_,fun h18=>?_⟩
        ·refine oS.skip ?_
         simp
         refine Pg.mk ⟨decide (x.kind=17)⟩ (aA [1,3,5,78,79] [(1,1)] (by decide) (by decide) (by simp[hp]) (by simp) (by simp)) ?_
         simp[h18]
        ·refine aL ?_
         simp
         refine Pg.mk ⟨decide (x.kind=18)⟩ (aA [1,3,5,78,79] [(1,1)] (by decide) (by decide) (by simp[hp]) (by simp) (by simp)) ?_
         simp only[decide_eq_true_eq];omega
     ·refine aB ?_
      simp
      refine⟨fun h20=>?_,fun h20=>?_⟩
      ·have q20:=hc20.1 h20
       refine oS.sy ?_
       simp
       refine⟨by(repeat' with_reducible apply And.intro)<;>omega,?_⟩
       refine oS.ret ?_
       have hk0:x.kids=[]∧x.n=0:=ND hcm q20
       simp[e0,hk0.1,hk0.2,withN,withE,midT,show¬(x.kind=19∨x.kind=20)by omega,show¬(x.kind=21∨x.kind=25∨x.kind=24)by omega]
      ·have q20:¬(x.kind=13∨x.kind=14∨x.kind=17∨x.kind=18):=fun q=>by simp[hc20.2 q]at h20
       refine aO (ι:=BC) (fun⟨b⟩=>aY [(1,.bx 1 0),(3,.d (ndsD x.kids)),(5,.d (.str (cX x.kind))),(78,.d (aC (x.kind))),(90,.d (.bool b))]) (fun⟨b⟩=>aK [(1,.box false [.d (aC x.kind),.d (.str x.text),.d (aC x.n),.d (ndsD x.kids)])]) (fun⟨b⟩=>b=true↔(x.kind=15∨x.kind=22∨x.kind=16∨x.kind=23)) ?_ fun⟨b⟩ hc25=>?_
       ·refine oS.sy ?_
        simp
        refine aB ?_
        simp
        refine⟨fun h21=>?_,fun h21=>?_⟩
        ·refine oS.skip ?_
         simp
         refine Pg.mk ⟨decide (x.kind=15)⟩ (aA [1,3,5,78,90] [(1,1)] (by decide) (by decide) (by simp[hp]) (by simp) (by simp)) ?_
         simp[h21]
        ·refine oS.sy ?_
         simp
         refine aB ?_
         simp
         refine⟨fun h22=>?_,fun h22=>?_⟩
         ·refine oS.skip ?_
          simp
          refine Pg.mk ⟨decide (x.kind=22)⟩ (aA [1,3,5,78,90] [(1,1)] (by decide) (by decide) (by simp[hp]) (by simp) (by simp)) ?_
          simp[h22]
         ·refine oS.sy ?_
          simp
          refine aB ?_
          simp
          refine⟨fun h23=>?_,fun h23=>?_⟩
          ·refine oS.skip ?_
           simp
           refine Pg.mk ⟨decide (x.kind=16)⟩ (aA [1,3,5,78,90] [(1,1)] (by decide) (by decide) (by simp[hp]) (by simp) (by simp)) ?_
           simp[h23]
          ·refine aL ?_
           simp
           refine Pg.mk ⟨decide (x.kind=23)⟩ (aA [1,3,5,78,90] [(1,1)] (by decide) (by decide) (by simp[hp]) (by simp) (by simp)) ?_
           simp only[decide_eq_true_eq];omega
       ·refine aB ?_
        simp
        refine⟨fun h25=>?_,fun h25=>?_⟩
        ·have q25:=hc25.1 h25
         refine oS.seq ?_
         have hks:∃e,x.kids=[e]∧aI e=true∧aH e.kind=true∧x.n=0:=Ka hcm (by omega)
         obtain⟨e,hks,r0,i0,n0⟩:=hks
         have w0:=hmem 0 (by simp[hks])
         have l0:=eB e r0 i0
         have c0:=tG e r0 i0 (by simp only[hks,List.getElem_cons_zero]at w0;omega)
         simp only[hks,List.getElem_cons_zero]at w0
         refine aF hT hW bI (lk [[],[0],[],[2],[0,1,2,3],[0,1,2,3,4],[],[6],[6,7],[6,7,8],[0,1,2,3,4,5,6,7,8,9],[0,1,2,3,4,5,6,7,8,9,10],[0,1,2,3,4,5,6,7,8,9,10,11]]) (lk [[104],[104],[104],[104],[104],[104],[],[],[],[],[],[],[]]) (lk [[],[],[],[],[],[],[],[],[],[104],[],[],[]]) (by kernel_rfl) (fun|104=>some<| .plain ⟨.d (.str (exprT e)),true⟩|_=>none) (by intro d;first|exact⟨rfl,fun _ h=>h⟩|(split<;>exact⟨rfl,fun _ h=>h⟩)) ?_
         simp[hks]
         refine⟨by(repeat' with_reducible apply And.intro)<;>first|omega|(simpa using c0),?_⟩
         refine oS.ret ?_
         simp[e0,hks,n0,withN,withE,midT,show¬(x.kind=19∨x.kind=20)by omega,show¬(x.kind=21∨x.kind=25∨x.kind=24)by omega]
        ·have q25:¬(x.kind=15∨x.kind=22∨x.kind=16∨x.kind=23):=fun q=>by simp[hc25.2 q]at h25
         refine oS.sy ?_
         simp
         refine aB ?_
         simp
         refine⟨fun h26=>?_,fun h26=>?_⟩
         ·refine oS.seq ?_
          have d1:=pU x.n (by omega) (by omega)
          refine aF hT hW bI (lk [[],[0],[],[2],[0,1,2,3],[0,1,2,3,4],[],[6],[6,7],[0,1,2,3,4,5,6,7,8],[0,1,2,3,4,5,6,7,8,9],[0,1,2,3,4,5,6,7,8,9,10]]) (lk [[117],[117],[117],[117],[117],[117],[],[],[],[],[],[]]) (lk [[],[],[],[],[],[],[],[],[117],[],[],[]]) (by kernel_rfl) (fun|117=>some<| .plain ⟨.d (.str (iJ x.n)),true⟩|_=>none) (by intro d;first|exact⟨rfl,fun _ h=>h⟩|(split<;>exact⟨rfl,fun _ h=>h⟩)) ?_
          simp
          refine⟨by(repeat' with_reducible apply And.intro)<;>first|omega|exact d1,?_⟩
          refine oS.ret ?_
          have hk0:x.kids=[]∧0<x.n:=Hm hcm (by omega)
          simp[e0,hk0.1,hk0.2,withN,withE,midT,h26]
         ·refine oS.sy ?_
          simp
          refine aB ?_
          simp
          refine⟨fun h28=>?_,fun h28=>?_⟩
          ·refine oS.sy ?_
           simp
           refine⟨by(repeat' with_reducible apply And.intro)<;>omega,?_⟩
           refine oS.ret ?_
           have hk0:x.kids=[]∧x.n=0:=Pv hcm (by omega)
           simp[e0,hk0.1,hk0.2,withN,withE,midT,h28]
          ·refine oS.sy ?_
           simp
           refine aB ?_
           simp
           refine⟨fun h30=>?_,fun h30=>?_⟩
           ·refine oS.seq ?_
            have hks:∃e,x.kids=[e]∧aI e=true∧aH e.kind=true∧x.n=0:=Ka hcm (by omega)
            obtain⟨e,hks,r0,i0,n0⟩:=hks
            have w0:=hmem 0 (by simp[hks])
            have l0:=eB e r0 i0
            have c0:=tG e r0 i0 (by simp only[hks,List.getElem_cons_zero]at w0;omega)
            simp only[hks,List.getElem_cons_zero]at w0
            refine oS.ro hT hW (fun|135=>some<| .plain ⟨.d (.str (exprT e)),true⟩|_=>none) ?_
            simp[hks]
            refine⟨by(repeat' with_reducible apply And.intro)<;>first|omega|(simpa using c0),?_⟩
            refine oS.ret ?_
            simp[e0,hks,n0,withN,withE,midT,h30]
           ·refine oS.skip ?_
            simp
            refine oS.seq ?_
            have d1:=pU x.n (by omega) (by omega)
            refine oS.ro hT hW (fun|142=>some<| .plain ⟨.d (.str (iJ x.n)),true⟩|_=>none) ?_
            simp
            refine⟨by(repeat' with_reducible apply And.intro)<;>first|omega|exact d1,?_⟩
            refine oS.ret ?_
            have hk0:x.kids=[]∧0<x.n:=Hm hcm (by omega)
            simp[e0,hk0.1,hk0.2,withN,withE,midT,show¬(x.kind=19∨x.kind=20)by omega,show(x.kind=21∨x.kind=25∨x.kind=24)by omega]
theorem QG(x:Nd):(aI x=true→cM x.kind=true→weighN x≤1000000000→Ok Tryz.prog 106 [x.d] ⟨.d (.str (stmtT x)),true⟩)∧(nZ x→weighN x≤1000000000→Ok Tryz.prog 53 [x.d] ⟨.d (.str (blockT x)),true⟩):=by
 refine qX (p:=fun x=>(aI x=true→cM x.kind=true→weighN x≤1000000000→Ok Tryz.prog 106 [x.d] ⟨.d (.str (stmtT x)),true⟩)∧(nZ x→weighN x≤1000000000→Ok Tryz.prog 53 [x.d] ⟨.d (.str (blockT x)),true⟩)) (fun k t n ks ih=>⟨?_,?_⟩) x
 ·intro hr hk hw
  have hwk:∀y∈ks,weighN y≤1000000000:=fun y hy=>by have:=weigh_mem hy;rw[weighN]at hw;omega
  exact Jd _ hr hk hw fun y hy hb=>(ih y hy).2 hb (hwk y hy)
 ·intro hb hw
  have hwk:∀y∈ks,weighN y≤1000000000:=fun y hy=>by have:=weigh_mem hy;rw[weighN]at hw;omega
  obtain⟨ks',hx,hy⟩:=id hb
  injection hx with i1 i2 i3 i4
  exact Jc _ hb hw fun y hyk=>(ih y hyk).1 (hy y (i4▸hyk)).1 (hy y (i4▸hyk)).2 (hwk y hyk)
theorem NE(x:Nd)(hd:Le x)(hw:weighN x≤1000000000):Ok Tryz.prog 13 [x.d] ⟨.d (.str (textT x)),true⟩:=by
 refine Ok.ret Tryz.func13 (by kernel_rfl) (c:=_) rfl Tryz.ntmps13 (by simp) Tryz.results13 (by intro _ h;cases h) fun w0 X hp=>?_
 obtain⟨ht,hd⟩:=hd
 have hwx:=weighN_eq x
 have wl:=uX x.kind
 have f0:0≤x.kind∧x.kind≤6:=by rcases hd with⟨h|h,_⟩|⟨h,_⟩|⟨h,_⟩|⟨h,_⟩|⟨h|h,_⟩<;>omega
 have q1:=vZ (k:=x.kind) (by omega) (by omega)
 have il:=lU x.n
 have hst:=zT
 have q2:=pT
 refine oS.sy ?_
 simp
 refine oS.seq ?_
 refine aF hT hW bI (lk [[],[],[1],[0,1,2],[0,1,2,3],[0,1,2,3,4],[],[6],[0,1,2,3,4,5,6,7],[0,1,2,3,4,5,6,7,8]]) (lk [[],[5],[5],[],[],[],[5],[5],[],[]]) (lk [[5],[],[],[],[],[],[],[],[],[]]) (by kernel_rfl) (fun|5=>some<| .plain ⟨.d (.sl wK),true⟩|_=>none) (by intro d;first|exact⟨rfl,fun _ h=>h⟩|(split<;>exact⟨rfl,fun _ h=>h⟩)) ?_
 simp[q1]
 refine⟨by(repeat' with_reducible apply And.intro)<;>first|omega|exact hst,?_⟩
 refine oS.seq ?_
 refine oS.sy ?_
 simp
 refine oS.block ?_
 refine oS.sy ?_
 simp
 refine aB ?_
 simp
 refine⟨fun h3=>?_,fun h3=>?_⟩
 ·refine oS.seq ?_
  have hd15: -999≤x.n∧x.n≤999:=by
   rcases hd with⟨h|h,_⟩|⟨h,_⟩|⟨_,_,h⟩|⟨h,_⟩|⟨h|h,_⟩<;>omega
  have ci:=pU x.n hd15.1 hd15.2
  refine oS.ro hT hW (fun|22=>some<| .plain ⟨.d (.str (iJ x.n)),true⟩|_=>none) ?_
  simp
  refine⟨by(repeat' with_reducible apply And.intro)<;>first|omega|exact ci,?_⟩
  refine oS.ret ?_
  simp[textT,h3]
 ·refine oS.sy ?_
  simp
  refine aB ?_
  simp
  refine⟨fun h5=>?_,fun h5=>?_⟩
  ·refine oS.seq ?_
   have hd17:0≤x.n∧x.n≤3:=by
    rcases hd with⟨h|h,_⟩|⟨h,_⟩|⟨h,_⟩|⟨_,_,h⟩|⟨h|h,_⟩<;>omega
   have ci:=pU x.n (by omega) (by omega)
   refine oS.ro hT hW (fun|31=>some<| .plain ⟨.d (.str (iJ x.n)),true⟩|_=>none) ?_
   simp
   refine⟨by(repeat' with_reducible apply And.intro)<;>first|omega|exact ci,?_⟩
   refine oS.ret ?_
   simp[textT,h5]
  ·refine aO (ι:=BC) (fun⟨b⟩=>aY [(1,.bx 1 0),(3,.d (.str (cX x.kind++32::x.text))),(15,.d (aC (x.kind))),(34,.d (.bool b))]) (fun⟨b⟩=>aK [(1,.box false [.d (aC x.kind),.d (.str x.text),.d (aC x.n),.d (ndsD x.kids)])]) (fun⟨b⟩=>b=true↔(x.kind=3∨x.kind=4)) ?_ fun⟨b⟩ hc9=>?_
   ·refine oS.sy ?_
    simp
    refine aB ?_
    simp
    refine⟨fun h7=>?_,fun h7=>?_⟩
    ·refine oS.skip ?_
     simp
     refine Pg.mk ⟨decide (x.kind=3)⟩ (aA [1,3,15,34] [(1,1)] (by decide) (by decide) (by simp[hp]) (by simp) (by simp)) ?_
     simp[h7]
    ·refine aL ?_
     simp
     refine Pg.mk ⟨decide (x.kind=4)⟩ (aA [1,3,15,34] [(1,1)] (by decide) (by decide) (by simp[hp]) (by simp) (by simp)) ?_
     simp only[decide_eq_true_eq];omega
   ·refine aB ?_
    simp
    refine⟨fun h9=>?_,fun h9=>?_⟩
    ·have q9:=hc9.1 h9
     refine oS.sy ?_
     simp
     refine⟨by omega,?_⟩
     refine oS.ret ?_
     simp[textT,show¬(x.kind=5∨x.kind=6)by omega,show¬x.kind=1 by omega,show¬x.kind=0 by omega,show¬x.kind=2 by omega]
    ·have q9:¬(x.kind=3∨x.kind=4):=fun q=>by simp[hc9.2 q]at h9
     refine oS.sy ?_
     simp
     refine aB ?_
     simp
     refine⟨fun h10=>?_,fun h10=>?_⟩
     ·refine oS.seq ?_
      have hd7:∀y∈x.kids,JP y:=by
       rcases hd with⟨h|h,_⟩|⟨_,_,h⟩|⟨h,_⟩|⟨h,_⟩|⟨h|h,_⟩<;>first|exact h|omega
      refine aL ?_
      simp
      refine⟨by omega,?_⟩
      refine oS.seq ?_
      refine oS.sy ?_
      simp
      refine oS.block ?_
      refine cA (ι:=Nat) (fun i=>aY [(1,.bx 1 0),(3,.d (.str (cX x.kind++32::(x.text++32::123::32::pE (x.kids.take i))))),(4,.d (aC i))]) (fun i=>aK [(1,.box false [.d (aC x.kind),.d (.str x.text),.d (aC x.n),.d (ndsD x.kids)])]) (fun i=>i≤x.kids.length) (fun i=>x.kids.length-i) 0 (aA [1,3,4] [(1,1)] (by decide) (by decide) (by simp[hp]) (by simp[pE]) (by simp)) (Nat.zero_le _) fun i hi13=>?_
      refine oS.seq ?_
      refine oS.sy ?_
      simp
      refine aB ?_
      simp
      refine⟨fun h13=>?_,fun h13=>?_⟩
      ·refine oS.skip ?_
       simp
       refine oS.seq ?_
       refine oS.block ?_
       have hi:i<x.kids.length:=by omega
       obtain⟨t',n',hy,g1,g2,g3⟩:=hd7 _ (List.getElem_mem hi)
       have en:x.kids[i].n=n':=by rw[hy];rfl
       have ci:=pU x.kids[i].n (by omega) (by omega)
       have lt:=xS (l:=x.kids) i
       have li:=lU x.kids[i].n
       have wi:=oE hi
       rw[weighN_eq x.kids[i]]at wi
       have lo:(pE (x.kids.take i)).length≤9*weighL x.kids:=lt
       refine aF hT hW bI (lk [[],[],[1],[],[1,2,3],[1,2,3,4],[1,2,3,4,5],[0,1,2,3,4,5,6],[0,1,2,3,4,5,6,7],[],[9],[],[9,10,11],[9,10,11,12],[9,10,11,12,13],[9,10,11,12,13,14],[0,1,2,3,4,5,6,7,8,9,10,11,12,13,14,15],[0,1,2,3,4,5,6,7,8,9,10,11,12,13,14,15,16],[0,1,2,3,4,5,6,7,8,9,10,11,12,13,14,15,16,17]]) (lk [[65],[65],[65],[65],[65],[65],[65],[65],[65],[],[],[],[],[],[],[],[],[],[]]) (lk [[],[],[],[],[],[],[],[],[],[],[],[],[],[],[],[65],[],[],[]]) (by kernel_rfl) (fun|65=>some<| .plain ⟨.d (.str (iJ x.kids[i].n)),true⟩|_=>none) (by intro d;first|exact⟨rfl,fun _ h=>h⟩|(split<;>exact⟨rfl,fun _ h=>h⟩)) ?_
       simp[hi]
       refine⟨by(repeat' with_reducible apply And.intro)<;>first|omega|exact ci|(simp only[List.length_append,List.length_cons];omega),?_⟩
       have:=pN x
       refine aL ?_
       simp
       refine⟨by omega,?_⟩
       refine JK.mk (i+1) (aA [1,3,4] [(1,1)] (by decide) (by decide) (by simp[hp]) (by simp[pE,DB hi,itemT]) (by simp)) ?_ ?_
       ·omega
       ·omega
      ·refine oS.exit ?_
       simp
       refine oS.seq ?_
       have hi:i=x.kids.length:=by omega
       subst hi
       rw[List.take_length]
       have lt:=tF x.kids
       have lo:(pE x.kids).length≤9*weighL x.kids:=lt
       refine aL ?_
       simp
       refine⟨by omega,?_⟩
       refine oS.ret ?_
       simp[textT,h10,pE]
     ·refine oS.skip ?_
      simp
      refine oS.seq ?_
      have hd5:∃b,x=.mk x.kind x.text 0 [b]∧nZ b:=by
       rcases hd with⟨_,h⟩|⟨h,_⟩|⟨h,_⟩|⟨h,_⟩|⟨h|h,_⟩<;>first|exact h|omega
      obtain⟨c,hx,hb⟩:=hd5
      have hks:x.kids=[c]:=by rw[hx];rfl
      rw[hks]at hwx
      simp only[weighL]at hwx
      have bl:=(iO c).2 hb
      have kb:=(QG c).2 hb (by omega)
      refine oS.ro hT hW (fun|76=>some<| .plain ⟨.d (.str (blockT c)),true⟩|_=>none) ?_
      simp[hks]
      refine⟨by(repeat' with_reducible apply And.intro)<;>first|omega|(simpa using kb),?_⟩
      refine oS.ret ?_
      simp[textT,show x.kind=5∨x.kind=6 by omega,hks]
end
open Go.Proofs
section
attribute[local simp] oZ.cond Nd.d_eq nd_t nd_dr nd_td ndsD bJ
theorem DF(p:UInt8→Bool)(s:aR)(i:Nat):dE p (s.drop i)=(decide (i<s.length)&&p (s[i]?.getD 0)):=by
 by_cases h:i<s.length
 ·rw[List.drop_eq_getElem_cons h,List.getElem?_eq_getElem h]
  simp[dE,h]
 ·rw[List.drop_eq_nil_of_le (by omega)]
  simp[dE,h]
theorem wA(s:aR)(i:Nat)(hl:s.length≤9223372036854775807):Ok Tryz.prog 64 [.str s,aC i] ⟨.d (.bool (dE bF (s.drop i))),true⟩:=by
 refine Ok.ret Tryz.func64 (by kernel_rfl) (c:=_) rfl Tryz.ntmps64 (by simp) Tryz.results64 (by intro _ h;cases h) fun w0 X hp=>?_
 refine oS.sy ?_
 simp
 refine oS.sy ?_
 simp
 refine⟨fun h _=>h,?_⟩
 refine oS.ret ?_
 simp
 rw[DF,zR]
 simp[Bool.and_assoc]
theorem vA(s:aR)(i:Nat)(hl:s.length≤9223372036854775807):Ok Tryz.prog 65 [.str s,aC i] ⟨.d (.bool (dE aW (s.drop i))),true⟩:=by
 refine Ok.ret Tryz.func65 (by kernel_rfl) (c:=_) rfl Tryz.ntmps65 (by simp) Tryz.results65 (by intro _ h;cases h) fun w0 X hp=>?_
 refine oS.sy ?_
 simp
 refine oS.sy ?_
 simp
 refine⟨fun h _=>h,?_⟩
 refine oS.ret ?_
 simp
 rw[DF,Bo]
 simp[Bool.and_assoc]
def BX(s:aR)(i:Nat):Int:=if 0<dN (s.drop i)then(i:Int)+dN (s.drop i)else -1
def Rx(c:UInt8):Bool:=bF c||aW c
theorem DG(p q:UInt8→Bool)(s:aR):(dE p s||dE q s)=dE (fun c=>p c||q c) s:=by cases s<;>rfl
theorem Hp(s:aR):dN s=if dE bF s=true then(if iX Rx s≤16 then iX Rx s else 0)else 0:=by
 cases s with
 |nil=>rfl
 |cons c r=>rfl
theorem Br{p:UInt8→Bool}:∀{s:aR} {k:Nat},(∀m (h:m<k),dE p (s.drop m)=true)→dE p (s.drop k)=false→iX p s=k
 |[],0,_,_=>rfl
 |[],k+1,h,_=>by have:=h 0 (by omega);simp[dE]at this
 |c::r,0,_,h=>by
  have h:p c=false:=h
  simp[iX,h]
 |c::r,k+1,h,h2=>by
  have h0:p c=true:=h 0 (by omega)
  simp only[iX,h0,if_true]
  rw[Br (s:=r) (k:=k) (fun m hm=>h (m+1) (by omega)) h2]
theorem Qj{s:aR}{i k:Nat}(g:dE bF (s.drop (i+k))=true∨dE aW (s.drop (i+k))=true):i+k<s.length:=by
 refine Classical.byContradiction fun q=>?_
 rw[List.drop_eq_nil_of_le (by omega)]at g
 rcases g with g|g<;>cases g
theorem Ry{s:aR}{i k:Nat}(g:dE bF (s.drop (i+k))=true∨dE aW (s.drop (i+k))=true):dE Rx (s.drop (i+k))=true:=by
 show dE (fun c=>bF c||aW c) (s.drop (i+k))=true
 rw[←DG]
 rcases g with g|g<;>simp[g]
def xU:List aR:=[[97,99,113,117,105,114,101],[97,108,108,111,99],[99,97,108,108],[99,104,97,110],[99,104,101,99,107],[100,114,97,119],[101,108,115,101],[102,105,108,101],[103,111],[105,102],[107,105,110,100],[108,111,99,107],[110,111,119],[112,114,111,99],[114,101,97,100],[114,101,99],[114,101,99,118],[114,101,108,101,97,115,101],[115,101,110,100],[115,108,101,101,112],[116,101,115,116],[118,97,114],[119,104,105,108,101],[119,114,105,116,101]]
theorem Hq(s:aR)(i:Nat)(hi:i≤s.length)(hl:s.length≤9223372036854775000):Ok Tryz.prog 154 [.str s,aC i] ⟨.d (aC (BX s i)),true⟩:=by
 refine Ok.ret Tryz.func154 (by kernel_rfl) (c:=_) rfl Tryz.ntmps154 (by simp) Tryz.results154 (by intro _ h;cases h) fun w0 X hp=>?_
 refine oS.sy ?_
 simp
 refine oS.seq ?_
 refine oS.seq ?_
 have h1:=wA s i (by omega)
 refine oS.ro hT hW (fun|8=>some<| .plain ⟨.d (.bool (dE bF (s.drop i))),true⟩|_=>none) ?_
 simp
 refine⟨h1,?_⟩
 refine aB ?_
 simp
 refine⟨fun h1=>?_,fun h1=>?_⟩
 ·refine oS.sy ?_
  simp
  refine oS.ret ?_
  simp
  unfold BX
  have hw:dN (s.drop i)=0:=by rw[Hp,if_neg (by simp[h1])]
  rw[hw,if_neg (by omega)]
 ·refine oS.skip ?_
  simp
  refine oS.sy ?_
  simp
  refine oS.seq ?_
  refine oS.block ?_
  refine cA (ι:=Nat) (fun k=>aY [(0,.d (.str s)),(1,.d (aC i)),(5,.d (aC ((i+k:Nat):Int)))]) (fun k=>aK []) (fun k=>i+k≤s.length∧∀m,m<k→dE Rx (s.drop (i+m))=true) (fun k=>s.length-i-k) 0 (aA [0,1,5] [] (by decide) (by decide) (by simp[hp]) (by simp) (by simp)) (⟨by omega,fun m h=>absurd h (Nat.not_lt_zero m)⟩) fun k hi4=>?_
  refine oS.seq ?_
  refine oS.seq ?_
  have h2:=wA s (i+k) (by omega)
  have h3:=vA s (i+k) (by omega)
  refine oS.ro hT hW (fun|13=>some<| .plain ⟨.d (.bool (dE bF (s.drop (i+k)))),true⟩|17=>some<| .plain ⟨.d (.bool (dE aW (s.drop (i+k)))),true⟩|_=>none) ?_
  simp[-Int.natCast_add]
  refine⟨⟨h2,fun _=>h3⟩,?_⟩
  refine aB ?_
  simp
  refine⟨fun g4=>?_,fun g5 g6=>?_⟩
  ·refine oS.skip ?_
   simp
   refine oS.block ?_
   refine aL ?_
   simp
   refine⟨by omega,?_⟩
   refine JK.mk (k+1) (aA [0,1,5] [] (by decide) (by decide) (by simp[hp]) (by simp[Int.add_assoc]) (by simp)) ?_ ?_
   ·have hlt:i+k<s.length:=Qj g4
    refine⟨by omega,fun m hm=>?_⟩
    by_cases e:m=k
    ·rw[e];exact Ry g4
    ·exact hi4.2 m (by omega)
   ·have hlt:i+k<s.length:=Qj g4
    omega
  ·refine oS.exit ?_
   simp
   refine oS.seq ?_
   refine oS.seq ?_
   have hr:iX Rx (s.drop i)=k:=Br (fun m hm=>by rw[List.drop_drop];exact hi4.2 m hm) (by
    rw[List.drop_drop]
    show dE (fun c=>bF c||aW c) (s.drop (i+k))=false
    rw[←DG,g5,g6];rfl)
   have hw:=Hp (s.drop i)
   rw[if_pos h1,hr]at hw
   have hk0:0<k:=by
    rcases Nat.eq_zero_or_pos k with z|z
    ·rw[z]at g5;rw[Nat.add_zero,h1]at g5;cases g5
    ·exact z
   refine aL ?_
   simp
   refine⟨by omega,?_⟩
   refine aB ?_
   simp
   refine⟨fun h6=>?_,fun h6=>?_⟩
   ·refine oS.sy ?_
    simp
    refine oS.ret ?_
    simp
    unfold BX
    have hw':dN (s.drop i)=0:=by rw[hw,if_neg (by omega)]
    rw[hw',if_neg (by omega)]
   ·refine oS.skip ?_
    simp
    refine oS.sy ?_
    simp
    refine oS.ret ?_
    simp
    unfold BX
    have hw':dN (s.drop i)=k:=by rw[hw,if_pos (by omega)]
    rw[hw',if_pos hk0]
theorem FW(c:UInt8)(r:aR):kQ (c::r)=(bF c&& !decide ((c::r)∈xU)):=by
 have h1:∀x∈xU,qY x=true:=by decide
 have h2:∀x∈eD::qD::jA,x≠[]→x∈xU:=by decide
 have e:qY (c::r)=decide ((c::r)∈xU):=by
  rw[Bool.eq_iff_iff,decide_eq_true_eq]
  refine⟨fun h=>h2 _ ?_ (by simp),h1 _⟩
  simp only[qY,Bool.or_eq_true,decide_eq_true_eq]at h
  simp only[List.mem_cons]
  rcases h with(h|h)|h
  ·exact .inl h
  ·exact .inr (.inl h)
  ·exact .inr (.inr h)
 show(bF c&& !qY (c::r))=_
 rw[e]
theorem QH(l:List aR)(w:aR):Ok Tryz.prog 43 [nE l,.str w] ⟨.d (.bool (decide (w∈l))),true⟩:=by
 refine Ok.ret Tryz.func43 (by kernel_rfl) (c:=_) rfl Tryz.ntmps43 (by simp) Tryz.results43 (by intro _ h;cases h) fun w0 X hp=>?_
 refine oS.len (t:=0) rfl fun hlen=>?_
 simp at hlen
 refine oS.sy ?_
 simp
 refine oS.seq ?_
 refine oS.sy ?_
 simp
 refine oS.block ?_
 refine cA (ι:=Nat) (fun i=>aY [(0,.d (nE l)),(1,.d (.str w)),(5,.d (aC i))]) (fun i=>aK []) (fun i=>i≤l.length∧w∉l.take i) (fun i=>l.length-i) 0 (aA [0,1,5] [] (by decide) (by decide) (by simp[hp]) (by simp) (by simp)) (⟨Nat.zero_le _,by simp⟩) fun i hi2=>?_
 refine oS.seq ?_
 refine oS.sy ?_
 simp
 refine aB ?_
 simp
 refine⟨fun h2=>?_,fun h2=>?_⟩
 ·refine oS.skip ?_
  simp
  refine oS.seq ?_
  refine oS.block ?_
  refine oS.seq ?_
  have hi:i<l.length:=by omega
  refine aL ?_
  simp[hi]
  refine aB ?_
  simp
  refine⟨fun h4=>?_,fun h4=>?_⟩
  ·refine oS.sy ?_
   simp
   refine oS.ret ?_
   simp
   rw[←h4]
   exact(List.getElem_mem hi)
  ·refine oS.skip ?_
   simp
   refine aL ?_
   simp
   refine⟨by omega,?_⟩
   refine JK.mk (i+1) (aA [0,1,5] [] (by decide) (by decide) (by simp[hp]) (by simp) (by simp)) ?_ ?_
   ·refine⟨by omega,?_⟩
    have hi:i<l.length:=by omega
    rw[←List.take_append_getElem hi]
    simp only[List.mem_append,List.mem_singleton,not_or]
    exact⟨hi2.2,fun e=>h4 e.symm⟩
   ·omega
 ·refine oS.exit ?_
  simp
  refine oS.sy ?_
  simp
  refine oS.ret ?_
  simp
  have e:=hi2.2
  rw[List.take_of_length_le (by omega)]at e
  exact e
theorem Lx:Ok Tryz.prog 26 [] ⟨.d (nE xU),true⟩:=by
 refine Ok.ret Tryz.func26 (by kernel_rfl) (c:=_) rfl Tryz.ntmps26 (by simp) Tryz.results26 (by intro _ h;cases h) fun w0 X hp=>?_
 refine oS.sy ?_
 simp
 refine oS.sy ?_
 simp
 refine⟨by decide,?_⟩
 refine oS.ret ?_
 simp
 rfl
theorem Je(s:aR)(hl:s.length≤9223372036854775807):Ok Tryz.prog 232 [.str s] ⟨.d (.bool (kQ s)),true⟩:=by
 refine Ok.ret Tryz.func232 (by kernel_rfl) (c:=_) rfl Tryz.ntmps232 (by simp) Tryz.results232 (by intro _ h;cases h) fun w0 X hp=>?_
 refine oS.sy ?_
 simp
 refine oS.seq ?_
 have h1:=wA s 0 hl
 have h2:=Lx
 have h3:=QH xU s
 refine oS.ro hT hW (fun|4=>some<| .plain ⟨.d (.bool (dE bF s)),true⟩|6=>some<| .plain ⟨.d (nE xU),true⟩|8=>some<| .plain ⟨.d (.bool (decide (s∈xU))),true⟩|_=>none) ?_
 simp
 refine⟨⟨⟨by simpa using h1,fun _=>h2⟩,fun _=>h3⟩,?_⟩
 refine oS.ret ?_
 simp
 cases s with
 |nil=>rfl
 |cons c r=>rw[FW];rfl
end
open Go.Proofs
section
attribute[local simp] oZ.cond Nd.d_eq nd_t nd_dr nd_td ndsD bJ
theorem NF{k:Nat}(h:k<11):(([40,41,123,125,61,43,45,42,60,59,46]:aR)[k]?.getD 0)∈rP:=by
 have e:([40,41,123,125,61,43,45,42,60,59,46]:aR)=rP:=rfl
 rw[e,List.getElem?_eq_getElem h,Option.getD_some]
 exact List.getElem_mem h
theorem QI{a b:UInt8}:((a.toNat:Int)=(b.toNat:Int))↔a=b:=by
 rw[←UInt8.toNat_inj];omega
theorem NG(c:UInt8):Ok Tryz.prog 66 [.int .u8 (c.toNat:Int)] ⟨.d (.bool (decide (c∈rP))),true⟩:=by
 refine Ok.ret Tryz.func66 (by kernel_rfl) (c:=_) rfl Tryz.ntmps66 (by simp) Tryz.results66 (by intro _ h;cases h) fun w0 X hp=>?_
 refine oS.sy ?_
 simp
 refine oS.sy ?_
 simp
 refine oS.seq ?_
 refine oS.sy ?_
 simp
 refine oS.block ?_
 refine cA (ι:=Nat) (fun i=>aY [(0,.d (.int .u8 (c.toNat:Int))),(3,.d (.str [40,41,123,125,61,43,45,42,60,59,46])),(4,.d (aC i))]) (fun i=>aK []) (fun i=>i≤11∧c∉rP.take i) (fun i=>11-i) 0 (aA [0,3,4] [] (by decide) (by decide) (by simp[hp]) (by simp) (by simp)) (⟨Nat.zero_le _,by simp⟩) fun i hi3=>?_
 refine oS.seq ?_
 refine oS.sy ?_
 simp
 refine aB ?_
 simp
 refine⟨fun h3=>?_,fun h3=>?_⟩
 ·refine oS.skip ?_
  simp
  refine oS.seq ?_
  refine oS.block ?_
  refine oS.seq ?_
  have hk:i<11:=by omega
  have hk2:i<rP.length:=hk
  refine aL ?_
  simp
  refine⟨by omega,?_⟩
  refine aB ?_
  simp
  refine⟨fun h5=>?_,fun h5=>?_⟩
  ·refine oS.sy ?_
   simp
   refine oS.ret ?_
   simp
   have e:=NF hk
   rw[QI.1 h5]at e
   exact e
  ·refine oS.skip ?_
   simp
   refine aL ?_
   simp
   refine⟨by omega,?_⟩
   refine JK.mk (i+1) (aA [0,3,4] [] (by decide) (by decide) (by simp[hp]) (by simp) (by simp)) ?_ ?_
   ·refine⟨by omega,?_⟩
    have hi:i<rP.length:=hk
    rw[←List.take_append_getElem hi]
    simp only[List.mem_append,List.mem_singleton,not_or]
    refine⟨hi3.2,fun e=>h5 ?_⟩
    rw[e];rw[show([40,41,123,125,61,43,45,42,60,59,46]:aR)=rP from rfl,List.getElem?_eq_getElem hi];rfl
   ·omega
 ·refine oS.exit ?_
  simp
  refine oS.sy ?_
  simp
  refine oS.ret ?_
  simp
  have e:=hi3.2
  rw[List.take_of_length_le (by show 11≤i;omega)]at e
  exact e
theorem Jf(c:UInt8):IntKind.i64.wrap (c.toNat:Int)=c.toNat:=by
 have:=c.toNat_lt
 unfold IntKind.wrap
 simp[IntKind.bits,IntKind.signed]
 split<;>omega
theorem Fa:∀s:aR,s.length≤3→ -100000≤qG s∧qG s≤100000
 |[],_=>by simp[qG]
 |[a],_=>by have:=a.toNat_lt;simp only[qG,List.foldl_cons,List.foldl_nil];omega
 |[a,b],_=>by have:=a.toNat_lt;have:=b.toNat_lt;simp only[qG,List.foldl_cons,List.foldl_nil];omega
 |[a,b,c],_=>by have:=a.toNat_lt;have:=b.toNat_lt;have:=c.toNat_lt;simp only[qG,List.foldl_cons,List.foldl_nil];omega
 |_::_::_::_::_,h=>by simp at h
theorem NH{s:aR}{k:Nat}(h:k<s.length):qG (s.take (k+1))=10*qG (s.take k)+(((s[k]?.getD 0).toNat:Int)- 48):=by
 rw[←List.take_append_getElem h,List.getElem?_eq_getElem h]
 unfold qG
 rw[List.foldl_append]
 rfl
theorem Pw:qG []=0:=rfl
attribute[local simp] Pw
theorem Ly(s:aR)(hl:s.length≤3):Ok Tryz.prog 234 [.str s] ⟨.d (aC (qG s)),true⟩:=by
 refine Ok.ret Tryz.func234 (by kernel_rfl) (c:=_) rfl Tryz.ntmps234 (by simp) Tryz.results234 (by intro _ h;cases h) fun w0 X hp=>?_
 refine oS.sy ?_
 simp
 refine oS.sy ?_
 simp
 refine oS.seq ?_
 refine oS.sy ?_
 simp
 refine oS.block ?_
 refine cA (ι:=Nat) (fun i=>aY [(0,.d (.str s)),(3,.d (aC (qG (s.take i)))),(4,.d (aC i))]) (fun i=>aK []) (fun i=>i≤s.length) (fun i=>s.length-i) 0 (aA [0,3,4] [] (by decide) (by decide) (by simp[hp]) (by simp) (by simp)) ((Nat.zero_le _)) fun i hi3=>?_
 refine oS.seq ?_
 refine oS.sy ?_
 simp
 refine aB ?_
 simp
 refine⟨fun h3=>?_,fun h3=>?_⟩
 ·refine oS.skip ?_
  simp
  refine oS.seq ?_
  refine oS.block ?_
  have hk:i<s.length:=by omega
  have hv:=NH hk
  have b1:=Fa (s.take i) (by rw[List.length_take];omega)
  have b2:=Fa (s.take (i+1)) (by rw[List.length_take];omega)
  have b3:=(s[i]?.getD 0).toNat_lt
  have hw:=Jf (s[i]?.getD 0)
  refine aL ?_
  simp[hw]
  refine⟨⟨⟨⟨by omega,by omega⟩,by omega⟩,by omega⟩,?_⟩
  refine aL ?_
  simp
  refine⟨by omega,?_⟩
  refine JK.mk (i+1) (aA [0,3,4] [] (by decide) (by decide) (by simp[hp]) (by simp[hv,Int.add_sub_assoc]) (by simp)) ?_ ?_
  ·omega
  ·omega
 ·refine oS.exit ?_
  simp
  refine oS.sy ?_
  simp
  refine oS.ret ?_
  simp
  rw[List.take_of_length_le (by omega)]
def vB(s:aR)(i:Nat):Int:=if 0<bB (s.drop i)then(i:Int)+bB (s.drop i)else -1
theorem Sm{c:UInt8}:((c.toNat:Int)=61)↔c=61:=by
 rw[←UInt8.toNat_inj];have:(61:UInt8).toNat=61:=rfl;omega
theorem Vu{c:UInt8}:((c.toNat:Int)=60)↔c=60:=by
 rw[←UInt8.toNat_inj];have:(60:UInt8).toNat=60:=rfl;omega
theorem NI{p:UInt8→Bool}{s:aR}{i k:Nat}(h:∀m,m<k→dE p (s.drop (i+m))=true)(h2:dE p (s.drop (i+k))=false):iX p (s.drop i)=k:=
 Br (fun m hm=>by rw[List.drop_drop];exact h m hm) (by rw[List.drop_drop];exact h2)
theorem FX{s:aR}{i:Nat}{c:UInt8}(hi:i<s.length)(hd:s.drop i=c::s.drop (i+1))(hg:s[i]?.getD 0=c):
 ((s.drop i).take 2=[60,61]∨(s.drop i).take 2=[61,61])↔((i:Int)+1<s.length∧((s[i+1]?.getD 0).toNat:Int)=61∧(((s[i]?.getD 0).toNat:Int)=60∨((s[i]?.getD 0).toNat:Int)=61)):=by
 rw[hg,hd,oX,oX,Vu,Sm,Sm]
 by_cases h:i+1<s.length
 ·rw[List.drop_eq_getElem_cons h,List.getElem?_eq_getElem h]
  simp only[List.take_succ_cons,List.take_zero,List.cons.injEq,and_true,Option.getD_some]
  constructor
  ·rintro(⟨e1,e2⟩|⟨e1,e2⟩)
   ·exact⟨by omega,e2,.inl e1⟩
   ·exact⟨by omega,e2,.inr e1⟩
  ·rintro⟨_,e2,e1|e1⟩
   ·exact .inl ⟨e1,e2⟩
   ·exact .inr ⟨e1,e2⟩
 ·rw[List.drop_eq_nil_of_le (by omega)]
  simp
  omega
theorem NJ(s:aR)(i:Nat)(hi:i<s.length)(hl:s.length≤1000000000):Ok Tryz.prog 105 [.str s,aC i] ⟨.d (aC (vB s i)),true⟩:=by
 refine Ok.ret Tryz.func105 (by kernel_rfl) (c:=_) rfl Tryz.ntmps105 (by simp) Tryz.results105 (by intro _ h;cases h) fun w0 X hp=>?_
 have hd:=List.drop_eq_getElem_cons hi
 have hg:s[i]?.getD 0=s[i]:=by rw[List.getElem?_eq_getElem hi];rfl
 generalize s[i]=c at hd hg
 have he:=nF c (s.drop (i+1))
 rw[←hd]at he
 refine oS.sy ?_
 simp
 refine oS.seq ?_
 refine oS.seq ?_
 have h1:=wA s i (by omega)
 rw[hd]at h1
 refine oS.ro hT hW (fun|8=>some<| .plain ⟨.d (.bool (bF c)),true⟩|_=>none) ?_
 simp
 refine⟨h1,?_⟩
 refine aB ?_
 simp
 refine⟨fun h1=>?_,fun h1=>?_⟩
 ·refine oS.seq ?_
  have w1:=Hq s i (by omega) (by omega)
  refine oS.ro hT hW (fun|11=>some<| .plain ⟨.d (aC (BX s i)),true⟩|_=>none) ?_
  simp
  refine⟨w1,?_⟩
  refine oS.ret ?_
  simp
  have e:bB (s.drop i)=dN (s.drop i):=by rw[he,if_pos h1]
  unfold BX vB
  rw[e]
 ·refine oS.skip ?_
  simp
  refine oS.seq ?_
  refine oS.sy ?_
  simp[hg]
  refine⟨by omega,?_⟩
  refine aB ?_
  simp
  refine⟨fun h3=>?_,fun h3=>?_⟩
  ·refine oS.seq ?_
   have w4:=Hq s (i+1) (by omega) (by omega)
   refine oS.ro hT hW (fun|19=>some<| .plain ⟨.d (aC (BX s (i+1))),true⟩|_=>none) ?_
   simp
   refine⟨⟨by omega,by simpa using w4⟩,?_⟩
   refine oS.ret ?_
   simp
   have e:bB (s.drop i)=if 0<dN (s.drop (i+1))then dN (s.drop (i+1))+1 else 0:=by rw[he,if_neg (by simp[h1]),if_pos (JX.1 h3)]
   unfold BX vB
   rw[e]
   by_cases z:0<dN (s.drop (i+1))
   ·rw[if_pos z,if_pos z,if_pos (by omega)];omega
   ·rw[if_neg z,if_neg z,if_neg (by omega)]
  ·refine oS.skip ?_
   simp
   refine oS.seq ?_
   refine oS.seq ?_
   have w5:=vA s i (by omega)
   rw[hd]at w5
   refine oS.ro hT hW (fun|22=>some<| .plain ⟨.d (.bool (aW c)),true⟩|_=>none) ?_
   simp
   refine⟨w5,?_⟩
   refine aB ?_
   simp
   refine⟨fun h5=>?_,fun h5=>?_⟩
   ·refine oS.sy ?_
    simp
    refine oS.seq ?_
    refine oS.block ?_
    refine cA (ι:=Nat) (fun k=>aY [(0,.d (.str s)),(1,.d (aC i)),(5,.d (aC ((i+k:Nat):Int)))]) (fun k=>aK []) (fun k=>i+k≤s.length∧∀m,m<k→dE aW (s.drop (i+m))=true) (fun k=>s.length-i-k) 0 (aA [0,1,5] [] (by decide) (by decide) (by simp[hp]) (by simp) (by simp)) (⟨by omega,fun m h=>absurd h (Nat.not_lt_zero m)⟩) fun k hi7=>?_
    refine oS.seq ?_
    refine oS.seq ?_
    have w7:=vA s (i+k) (by omega)
    refine oS.ro hT hW (fun|26=>some<| .plain ⟨.d (.bool (dE aW (s.drop (i+k)))),true⟩|_=>none) ?_
    simp[-Int.natCast_add]
    refine⟨w7,?_⟩
    refine aB ?_
    simp
    refine⟨fun h7=>?_,fun h7=>?_⟩
    ·refine oS.skip ?_
     simp
     refine oS.block ?_
     refine aL ?_
     simp
     refine⟨by omega,?_⟩
     refine JK.mk (k+1) (aA [0,1,5] [] (by decide) (by decide) (by simp[hp]) (by simp[Int.add_assoc]) (by simp)) ?_ ?_
     ·have hlt:i+k<s.length:=Classical.byContradiction fun q=>by rw[List.drop_eq_nil_of_le (by omega)]at h7;cases h7
      refine⟨by omega,fun m hm=>?_⟩
      by_cases e:m=k
      ·rw[e];exact h7
      ·exact hi7.2 m (by omega)
     ·have hlt:i+k<s.length:=Classical.byContradiction fun q=>by rw[List.drop_eq_nil_of_le (by omega)]at h7;cases h7
      omega
    ·refine oS.exit ?_
     simp
     refine oS.seq ?_
     refine oS.seq ?_
     have hr:=NI hi7.2 h7
     refine aL ?_
     simp
     refine⟨by omega,?_⟩
     refine aB ?_
     simp
     refine⟨fun h9=>?_,fun h9=>?_⟩
     ·refine oS.sy ?_
      simp
      refine oS.ret ?_
      simp
      have e:bB (s.drop i)=0:=by rw[he,if_neg (by simp[h1]),if_neg (fun e=>h3 (JX.2 e)),if_pos h5,hr,if_neg (by omega)]
      unfold vB
      rw[e,if_neg (by omega)]
     ·refine oS.skip ?_
      simp
      refine oS.sy ?_
      simp
      refine oS.ret ?_
      simp
      have h0:0<k:=by
       rcases Nat.eq_zero_or_pos k with z|z
       ·rw[z,Nat.add_zero,hd]at h7;exact absurd h5 (by rw[show aW c=false from h7];simp)
       ·exact z
      have e:bB (s.drop i)=k:=by rw[he,if_neg (by simp[h1]),if_neg (fun e=>h3 (JX.2 e)),if_pos h5,hr,if_pos (by omega)]
      unfold vB
      rw[e,if_pos h0]
   ·refine oS.skip ?_
    simp
    refine oS.seq ?_
    refine oS.sy ?_
    simp
    refine⟨⟨⟨⟨by omega,fun _=>by omega⟩,fun _=>by omega⟩,by omega⟩,?_⟩
    refine aB ?_
    simp
    refine⟨fun g1 g2 g3=>?_,fun g=>?_⟩
    ·refine oS.sy ?_
     simp
     refine⟨by omega,?_⟩
     refine oS.ret ?_
     simp
     have e:bB (s.drop i)=2:=by rw[he,if_neg (by simp[h1]),if_neg (fun e=>h3 (JX.2 e)),if_neg (by simp[h5]),if_pos ((FX hi hd hg).2 ⟨g1,g2,g3⟩)]
     unfold vB
     rw[e,if_pos (by decide)];rfl
    ·refine oS.skip ?_
     simp
     refine oS.seq ?_
     refine oS.seq ?_
     have w14:=NG c
     refine oS.ro hT hW (fun|63=>some<| .plain ⟨.d (.bool (decide (c∈rP))),true⟩|_=>none) ?_
     simp[hg]
     refine⟨⟨by omega,w14⟩,?_⟩
     refine aB ?_
     simp
     refine⟨fun h14=>?_,fun h14=>?_⟩
     ·refine oS.sy ?_
      simp
      refine⟨by omega,?_⟩
      refine oS.ret ?_
      simp
      have e:bB (s.drop i)=1:=by rw[he,if_neg (by simp[h1]),if_neg (fun e=>h3 (JX.2 e)),if_neg (by simp[h5]),if_neg (fun z=>by have z:=(FX hi hd hg).1 z;exact z.2.2.elim (g z.1 z.2.1).1 (g z.1 z.2.1).2),if_pos h14]
      unfold vB
      rw[e,if_pos (by decide)];rfl
     ·refine oS.skip ?_
      simp
      refine oS.sy ?_
      simp
      refine oS.ret ?_
      simp
      have e:bB (s.drop i)=0:=by rw[he,if_neg (by simp[h1]),if_neg (fun e=>h3 (JX.2 e)),if_neg (by simp[h5]),if_neg (fun z=>by have z:=(FX hi hd hg).1 z;exact z.2.2.elim (g z.1 z.2.1).1 (g z.1 z.2.1).2),if_neg h14]
      unfold vB
      rw[e,if_neg (by decide)]
end
end Go.Eng
namespace Go.Eng
open Go.RowKit
def IsRow(k:IntKind)(w:World)(a:Option Addr)(len cap:Nat)(zs:List Int):Prop:=
 (a=none∧len=0∧cap=0∧zs=[])∨
 ∃x,a=some x∧len≤cap∧cap≤maxLen∧zs.length=cap∧(∀i,i<zs.length→w.cell? (x.add i)=some (.int k (zs.getD i 0)))∧∀n∈zs,(Lit.int k n).wf=true
theorem Px{n:Int}(h:(Lit.int .i64 n).wf=true): -9223372036854775808≤n∧n≤9223372036854775807:=by
 simp only[Lit.wf,Bool.and_eq_true,decide_eq_true_eq,IntKind.min,IntKind.max,IntKind.signed,IntKind.bits]at h
 exact⟨h.1,h.2⟩
theorem RN{w:World}{a:Option Addr}{len cap:Nat}{zs:List Int}(h:IsRow .i64 w a len cap zs):∀n∈zs.take len, -9223372036854775808≤n∧n≤9223372036854775807:=fun n hn=>by
 have hn:=List.mem_of_mem_take hn
 rcases h with⟨_,_,_,rfl⟩|⟨x,_,_,_,_,_,h⟩
 ·cases hn
 ·exact Px (h n hn)
theorem Sa{w:World}{k:IntKind}{a:Option Addr}{len cap:Nat}{zs:List Int}(h:IsRow k w a len cap zs):RD w (fun _=>False) (.sl ((zs.take len).map (.int k))) (.slice a len cap):=by
 rcases h with⟨rfl,rfl,rfl,rfl⟩|⟨x,rfl,h1,h2,h3,h4,h5⟩
 ·exact .sl0 _ 0 (Nat.zero_le _)
 ·by_cases h0:len=0
  ·subst h0
   rw[List.take_zero]
   exact .sl0 _ cap h2
  ·obtain⟨b,o,rfl,hc⟩:=ints_at h4 (by omega)
   have hl:((zs.take len).map (DV.int k)).length=len:=by simp;omega
   have hfl:bO ((zs.take len).map (DV.int k))=(zs.take len).map (DV.int k):=by
    unfold bO
    rw[List.flatMap_map]
    induction zs.take len with
    |nil=>rfl
    |cons a l ih=>rw[List.flatMap_cons,ih];rfl
   have:=RD.sl (w:=w) (E:=fun _=>False) ((zs.take len).map (.int k)) b o cap 1 ((zs.take len).map (.int k)) (fun e=>by rw[e]at hl;simp at hl;omega) (fun h=>h) (fun x hx=>by obtain⟨n,_,rfl⟩:=List.mem_map.1 hx;rfl)
    (by rw[hl];exact h1) h2 (by simp) (fun u hu=>by obtain⟨n,_,rfl⟩:=List.mem_map.1 hu;rfl) (OM (hc 0 (by omega))) (fun j u hj=>by
      have hj':j<len:=by
       have:=(List.getElem?_eq_some_iff.1 hj).1
       simp at this;omega
      have hz:j<zs.length:=by omega
      have:=hc j hz
      rw[this]
      simp[hj',hz]at hj
      simp[hz,hj]) (fun i d v hd hv=>by
      rw[hfl]at hd
      simp only[List.getElem?_map]at hd hv
      cases q:(zs.take len)[i]? with
      |none=>rw[q]at hd;cases hd
      |some n=>rw[q]at hd hv;cases hd;cases hv;exact .int k n)
   rw[hl]at this
   exact this
theorem Qm.nil{w:World}{E:Nat→Prop}:Qm w E [] []:=⟨rfl,fun i c v h=>by simp at h⟩
theorem Qm.cons{w:World}{E:Nat→Prop}{d:DV}{v:Value}{ds:List DV}{vs:List Value}(h:RD w E d v)(hs:Qm w E ds vs):Qm w E (d::ds) (v::vs):=
 ⟨by simp[hs.1],fun i c u hc hu=>by
   cases i with
   |zero=>simp at hc hu;subst hc;subst hu;exact h
   |succ i=>exact hs.2 i c u (by simpa using hc) (by simpa using hu)⟩
theorem Rg{P:Program}{f:FuncId}{args:List DV}{fr:Bool}(h:Ok P f args ⟨.d (.bool true),fr⟩)(w:World)(vs:List Value)(hr:Qm w (fun _=>False) args vs)(hg:Cr w (fun _=>False):=by intro n cs h;simp[Go.Eng.globD]at h):
 Calls P f vs.toArray w fun e w'=>e=.returned (.bool true)∧Below w.heap.size w w':=
 (h.2 w (fun _=>False) vs ⟨fun _ h=>h.elim,hg⟩ hr).mono fun _ _ ⟨v,h1,h2,h3⟩=>by
   obtain⟨_,h4⟩:=h3
   cases h4
   exact⟨h1,h2.below⟩
theorem AU.own_d{w w':World}{E E':Nat→Prop}{B:Option Nat}{s:Nat}{xs:List DV}{v:Value}(h:AU w w' E B (.own s xs) v)(hE:∀k,E' k→k<w.heap.size)(hEE:∀k,E' k→E k):RD w' E' (.sl xs) v:=by
 obtain⟨hs,hxs,h⟩:=h
 rcases h with⟨_,rfl,a,rfl⟩|⟨b,c,cur,e,_,rfl,hb,hblk,hl,hc,hcs,hcell⟩
 ·exact .sl0 a 0 (Nat.zero_le _)
 ·by_cases hx:xs=[]
  ·subst hx;exact .sl0 _ c hc
  ·have hfl:=gA hxs
   have hle:xs.length*s≤cur.size:=by rw[←hcs];exact Nat.mul_le_mul_right _ hl
   have hlt:b<w'.heap.size:=(Array.getElem?_eq_some_iff.1 hblk).1
   refine .sl xs b 0 c s (cur.toList.take (xs.length*s)) hx (fun q=>by have:=hE b q;omega) hxs hl hc (by simp;omega) (fun u hu=>?_) hlt (fun j u hj=>?_) (fun i d v hd hv=>?_)
   ·obtain⟨j,hj,rfl⟩:=List.getElem_of_mem hu
    simp only[List.length_take,Array.length_toList]at hj
    have hjc:j<cur.size:=by omega
    have hjf:j<(bO xs).length:=by rw[hfl];omega
    simp only[List.getElem_take,Array.getElem_toList]
    exact(hcell j _ _ (List.getElem?_eq_getElem hjf) (Array.getElem?_eq_getElem hjc)).1
   ·rw[cell_of_row w' b _ cur e (0,0) hblk,Nat.zero_add]
    rw[List.getElem?_take]at hj
    split at hj
    ·simpa using hj
    ·cases hj
   ·rw[List.getElem?_take]at hv
    split at hv
    ·exact((hcell i d v hd (by simpa using hv)).2).anti hEE
    ·cases hv
theorem Ok.own_d{P:Program}{f:FuncId}{args:List DV}{s:Nat}{xs:List DV}{fr:Bool}(h:Ok P f args ⟨.own s xs,fr⟩):Ok P f args ⟨.d (.sl xs),fr⟩:=
 ⟨h.1,fun w X vs hX hr=>(h.2 w X vs hX hr).mono fun _ _ ⟨v,h1,h2,B,h3⟩=>
   ⟨v,h1,h2,none,h3.own_d (fun k q=>by
     rcases q with(q|⟨_,q⟩)|q
     ·exact hX.1 k q
     ·exact q
     ·cases q) (fun k q=>by
     rcases q with q|q
     ·exact .inl q
     ·cases q)⟩⟩
theorem Fb{P:Program}{f:FuncId}{args:List DV}{s:Nat}{xs:List DV}{y:DV}{fr:Bool}(h:Ok P f args ⟨.tup [.own s xs,.d y],fr⟩):Ok P f args ⟨.tup [.d (.sl xs),.d y],fr⟩:=
 ⟨h.1,fun w X vs hX hr=>(h.2 w X vs hX hr).mono fun _ _ ⟨v,h1,h2,us,B,h3,h4,h5,h6⟩=>
   ⟨v,h1,h2,us,fun _=>none,h3,h4,fun _ _ _ q=>(by cases q),fun i r u hi hu=>by
     match i,hi with
     |0,hi=>
      cases hi
      exact(h6 0 _ u rfl hu).own_d (fun k q=>by
       rcases q with(q|⟨_,q⟩)|⟨_,q⟩
       ·exact hX.1 k q
       ·exact q
       ·cases q) (fun k q=>by
       rcases q with q|⟨_,q⟩
       ·exact .inl q
       ·cases q)
     |1,hi=>
      cases hi
      exact RD.anti (fun k q=>by
       rcases q with q|⟨_,q⟩
       ·exact .inl q
       ·cases q) (h6 1 _ u rfl hu)⟩⟩
end Go.Eng
namespace Go.Eng
open Go.Proofs
attribute[local simp] mW kX iB bC mT fY hZ nM cN bG oZ.plain oZ.cond oZ.fail dP lW sT mM fP kN lG lH memless mF eJ iW tP Ee hO fI strip oL dV lK bU
 qC fQ iH iC iG oT lk cD dR bP bV bX nK eT oP iF iZ bS eK bK dG iA eV eW dW eX gF gG gH eY dX eZ dY fB gJ gK gN gO fC gR oK nH mkAgg sO AT jI bD hU aX.live TK.isNone TK.agg TK.isBool TK.isStr TK.isStruct Op.operands Call.operands
 bE cO cH cW eE nI lB cU dH iE eO kP aP frozen lI
 jM jN lC gD jP jQ jR jV lD gE jX jY jZ kC rJ lR nO nP nR nS nU kD jK gC eU Nm.d Df.d Ed.d xD xE nE xF jL rU rV dA dB
 xH xI rK xJ xK rL rM rN nV xL xM rO
 bT bA dJ lJ dK bR cB bM eN uF TK.isInt jO jW nQ gM hF dI eL eM fV eS fO lX sA nD wW rI
 nC kR mC mU cL eA dS kW jE jF iV sD gS cZ gT gU cD jT jU nN iI gV kE gP gQ fE
 cK gZ TK.isPtr eF bZ kF oU pR jS kA nT gI gL fD
attribute[local simp] dZ kG gW
section
attribute[local simp] oZ.cond Nd.d_eq nd_t nd_dr nd_td ndsD bJ
theorem wD:∀(f:Nat) (s:aR) (i:Int),s.length≤f→iQ f s i=iQ s.length s i
 |0,s,i,h=>by
  have:s=[]:=List.eq_nil_of_length_eq_zero (by omega)
  subst this;rfl
 |f+1,[],i,_=>by simp[iQ]
 |f+1,c::r,i,h=>by
  have e1:=wD f r (i+1) (by simpa using h)
  simp only[List.length_cons,iQ]
  by_cases q:c=32∨c=10
  ·rw[if_pos q,if_pos q,e1]
  ·rw[if_neg q,if_neg q]
   by_cases z:bB (c::r)=0
   ·rw[if_pos z,if_pos z]
   ·rw[if_neg z,if_neg z]
    have hl:((c::r).drop (bB (c::r))).length≤r.length:=by rw[List.length_drop,List.length_cons];omega
    have h':r.length≤f:=by simpa using h
    have e2:=wD f ((c::r).drop (bB (c::r))) (i+bB (c::r)) (by omega)
    have e3:=wD r.length ((c::r).drop (bB (c::r))) (i+bB (c::r)) hl
    rw[e2,e3]
termination_by f _ _ _=>f
def rW(s:aR)(k:Nat):List Tk×Int:=iQ (s.drop k).length (s.drop k) k
theorem Fc{s:aR}{k:Nat}(h:s.length≤k):rW s k=([],(k:Int)):=by
 unfold rW
 rw[List.drop_eq_nil_of_le h];rfl
theorem BY{s:aR}{k:Nat}(h:k<s.length)(hc:s[k]=32∨s[k]=10):rW s k=rW s (k+1):=by
 unfold rW
 rw[List.drop_eq_getElem_cons h,List.length_cons,iQ,if_pos hc]
 rfl
theorem DH{s:aR}{k:Nat}(h:k<s.length)(hc:¬(s[k]=32∨s[k]=10))(hn:bB (s.drop k)=0):rW s k=([],(k:Int)):=by
 unfold rW
 rw[List.drop_eq_getElem_cons h]at hn⊢
 rw[List.length_cons,iQ,if_neg hc,if_pos hn]
theorem Fd{s:aR}{k:Nat}(h:k<s.length)(hc:¬(s[k]=32∨s[k]=10))(hn:bB (s.drop k)≠0):
 rW s k=(⟨(s.drop k).take (bB (s.drop k)),k⟩::(rW s (k+bB (s.drop k))).1,(rW s (k+bB (s.drop k))).2):=by
 have hl:=uT (s.drop k)
 have e:(s.drop k).drop (bB (s.drop k))=s.drop (k+bB (s.drop k)):=by rw[List.drop_drop]
 unfold rW
 rw[←e]
 generalize hm:bB (s.drop k)=m at hn hl e⊢
 rw[List.drop_eq_getElem_cons h]at hm hl⊢
 rw[List.length_cons,iQ,if_neg hc,if_neg (by rw[hm];exact hn),hm]
 rw[wD _ _ _ (by rw[List.length_drop,List.length_cons];omega)]
 push_cast
 rfl
theorem Qk{c:UInt8}{n:Nat}(hn:n<256):((c.toNat:Int)=n)↔c=UInt8.ofNat n:=by
 rw[←UInt8.toNat_inj]
 have:(UInt8.ofNat n).toNat=n:=by simp[UInt8.toNat_ofNat'];omega
 omega
theorem yY{s:aR}{k:Nat}(hk:k<s.length):(((s[k]?.getD 0).toNat:Int)=32∨((s[k]?.getD 0).toNat:Int)=10)↔(s[k]=32∨s[k]=10):=by
 rw[List.getElem?_eq_getElem hk,Option.getD_some]
 have e1:=Qk (c:=s[k]) (n:=32) (by decide)
 have e2:=Qk (c:=s[k]) (n:=10) (by decide)
 exact⟨fun q=>q.imp e1.1 e2.1,fun q=>q.imp e1.2 e2.2⟩
theorem Kb(s:aR)(k n:Nat):List.drop k (List.take ((k:Int)+(n:Int)).toNat s)=List.take n (List.drop k s):=by
 rw[show((k:Int)+(n:Int)).toNat=k+n by omega,List.drop_take,show k+n-k=n by omega]
structure Sn where
 k:Nat
 L:List Tk
 deriving Inhabited
theorem NK(s:aR)(hl:s.length≤1000000000):Ok Tryz.prog 57 [.str s] ⟨.tup [.own 2 ((fL s).1.map Tk.d),.d (aC (fL s).2)],true⟩:=by
 refine Dl Tryz.func57 (by kernel_rfl) (c:=_) rfl Tryz.ntmps57 (by simp) Tryz.results57 rfl fun w0 X hp=>?_
 refine oS.sy ?_
 simp
 refine oS.scope ?_
 refine oS.sy ?_
 simp
 refine oS.sy ?_
 simp
 refine oS.seq ?_
 refine oS.label ?_
 simp
 refine oS.seq ?_
 refine oS.block ?_
 refine cA (ι:=Sn) (fun⟨k,L⟩=>aY [(0,.d (.str s)),(4,.ow 4 0 L.length),(5,.d (aC k))]) (fun⟨k,L⟩=>aK [(4,.row false 2 (L.map Tk.d))]) (fun⟨k,L⟩=>L.length≤k∧k≤s.length∧fL s=(L++(rW s k).1,(rW s k).2)) (fun⟨k,L⟩=>s.length-k) ⟨0,[]⟩ (aA [0,4,5] [(4,4)] (by decide) (by decide) (by simp[hp]) (by simp) (by simp)) (⟨Nat.le_refl _,Nat.zero_le _,by simp[rW,fL]⟩) fun⟨k,L⟩ hi3=>?_
 refine oS.seq ?_
 refine oS.sy ?_
 simp
 refine aB ?_
 simp
 refine⟨fun h3=>?_,fun h3=>?_⟩
 ·refine oS.skip ?_
  simp
  refine oS.block ?_
  refine oS.seq ?_
  refine oS.seq ?_
  have hk:k<s.length:=by omega
  refine aL ?_
  simp
  refine⟨hk,?_⟩
  refine oS.block ?_
  refine aO (ι:=BC) (fun⟨b⟩=>aY [(0,.d (.str s)),(4,.ow 4 0 L.length),(5,.d (aC k)),(14,.d (.bool b))]) (fun⟨b⟩=>aK [(4,.row false 2 (L.map Tk.d))]) (fun⟨b⟩=>b=true↔(((s[k]?.getD 0).toNat:Int)=32∨((s[k]?.getD 0).toNat:Int)=10)) ?_ fun⟨b⟩ hc7=>?_
  ·refine oS.sy ?_
   simp
   refine aB ?_
   simp
   refine⟨fun h5=>?_,fun h5=>?_⟩
   ·refine oS.skip ?_
    simp
    refine Pg.mk ⟨decide (((s[k]?.getD 0).toNat:Int)=32)⟩ (aA [0,4,5,14] [(4,4)] (by decide) (by decide) (by simp[hp]) (by simp) (by simp)) ?_
    simp[h5]
   ·refine aL ?_
    simp
    refine Pg.mk ⟨decide (((s[k]?.getD 0).toNat:Int)=10)⟩ (aA [0,4,5,14] [(4,4)] (by decide) (by decide) (by simp[hp]) (by simp) (by simp)) ?_
    simp only[decide_eq_true_eq];omega
  ·refine aB ?_
   simp
   refine⟨fun h7=>?_,fun h7=>?_⟩
   ·have q7:=(yY hk).1 (hc7.1 h7)
    refine oS.sy ?_
    simp
    refine⟨by omega,?_⟩
    refine oS.exit ?_
    simp
    refine JK.mk ⟨k+1,L⟩ (aA [0,4,5] [(4,4)] (by decide) (by decide) (by simp[hp]) (by simp) (by simp)) ?_ ?_
    ·refine⟨Nat.le_succ_of_le hi3.1,hk,?_⟩
     rw[hi3.2.2,BY hk q7]
    ·show s.length-(k+1)<s.length-k
     omega
   ·have q7:¬(s[k]=32∨s[k]=10):=fun q=>by simp[hc7.2 ((yY hk).2 q)]at h7
    refine oS.skip ?_
    simp
    refine oS.seq ?_
    have hn:=Pu s[k] (s.drop (k+1)) (by simp;omega)
    rw[←List.drop_eq_getElem_cons hk]at hn
    refine oS.ro hT hW (fun|22=>some<| .plain ⟨.d (aC (bB (s.drop k))),true⟩|_=>none) ?_
    simp
    refine⟨⟨by omega,hn⟩,?_⟩
    refine oS.seq ?_
    refine oS.sy ?_
    simp
    refine aB ?_
    simp
    refine⟨fun h9=>?_,fun h9=>?_⟩
    ·refine oS.exit ?_
     simp
     refine oS.sy ?_
     simp
     refine oS.ret ?_
     simp
     have e:=hi3.2.2
     rw[DH hk q7 h9]at e
     rw[e]
     exact⟨⟨by simp,fun a _ c hc=>by simp[Tk.d,aE]at hc;rcases hc with rfl|rfl<;>rfl⟩,rfl⟩
    ·refine oS.skip ?_
     simp
     refine oS.seq ?_
     have hnl:=uT (s.drop k)
     rw[List.length_drop]at hnl
     refine aL ?_
     simp
     refine⟨⟨⟨⟨by omega,by omega⟩,by omega,by omega⟩,by omega,by omega⟩,?_⟩
     refine aL ?_
     simp
     refine⟨by omega,?_⟩
     refine JK.mk ⟨k+bB (s.drop k),L++[⟨(s.drop k).take (bB (s.drop k)),k⟩]⟩ (aA [0,4,5] [(35,4)] (by decide) (by decide) (by simp[hp]) (by simp) (by simp[Tk.d,Kb])) ?_ ?_
     ·refine⟨?_,?_,?_⟩
      ·show(L++[_]).length≤k+bB (s.drop k)
       rw[List.length_append,List.length_singleton];omega
      ·show k+bB (s.drop k)≤s.length
       omega
      ·rw[hi3.2.2,Fd hk q7 h9]
       simp
     ·show s.length-(k+bB (s.drop k))<s.length-k
      omega
 ·refine oS.exit ?_
  simp
  refine oS.sy ?_
  simp
  refine oS.ret ?_
  simp
  have e:=hi3.2.2
  rw[Fc h3]at e
  rw[e]
  exact⟨⟨by simp,fun a _ c hc=>by simp[Tk.d,aE]at hc;rcases hc with rfl|rfl<;>rfl⟩,rfl⟩
theorem Py(s:aR)(hl:s.length≤1000000000):Ok Tryz.prog 57 [.str s] ⟨.tup [.d (.sl ((fL s).1.map Tk.d)),.d (aC (fL s).2)],true⟩:=Fb (NK s hl)
end
end Go.Eng
namespace Go.Eng
open Go.RowKit
section
variable{P:Program} {T:TypeId→lA} {w0:iU} {X:Nat→Prop} {env:mI} {H:kV}
def NL(w0:iU)(T:TypeId→lA)(t:Nat)(ty:TypeId)(fin:List (Nat×aX))(ret:LV)(x:LX)(env:mI)(H:kV):Prop:=
 (match x with| .exit _=>False|_=>True)∧(lI T H ty (env t)).ok∧oM w0 (aY [(0,(lI T H ty (env t)).v)]) H (aY [(0,ret)]) (aK fin)
theorem eP{t:Nat}{ty:TypeId}{fin:List (Nat×aX)}{ret:LV}:NL w0 T t ty fin ret .ret env H↔(lI T H ty (env t)).ok∧oM w0 (aY [(0,(lI T H ty (env t)).v)]) H (aY [(0,ret)]) (aK fin):=by simp[NL]
theorem qR.cell(hT:mA P T){f:FuncId}{fn:Func}{c:Code}{args:List LV}{h fin:List (Nat×aX)}{ret:LV}{n t:Nat}{ty:TypeId}(hf:P.funcs[f]? =some fn)(hname:(fn.name== "runtime.NumGoroutine")=false)(hb:fn.body=some c)(hn:fn.ntmps=n)(hargs:args.length≤n)(hres:fn.results= #[.cell t ty])
 (hw:∀w0 X,w0.pins=h.map (·.1)→oS P n w0 X c (NL w0 T t ty fin ret) (sD args) (aK h)):qR P f args h fin ret:=
 xC hf hname hb hn hargs fun w0 X hp=>(hw w0 X hp).mono fun x env H ⟨h1,h2,h3⟩=>⟨h1,fun β a w s=>by
  obtain⟨v,hv,hr⟩:=xB hT s h2
  have s1:tR 1 w0 X (aY [(0,(lI T H ty (env t)).v)]) H β ⟨#[v],[]⟩ w:=by
   refine⟨Eo.nil,rfl,s.ext,s.xold,s.fresh,s.inj,fun t'=>?_,s.obj,s.pin⟩
   cases t' with
   |zero=>exact hr
   |succ t'=>exact .junk _
  obtain⟨β',s'⟩:=h3 _ _ _ _ _ s1
  have e:=s'.env 0
  rw[show aY [(0,ret)] 0=ret by simp[aY,kN]]at e
  refine⟨v,β',?_,s'.mem,e⟩
  simp only[results,hres]
  simpa [Sem.run_bind,Result.andThen]using hv⟩
theorem aU{l:LV}{x:DV}{env':mI}{H':kV}(h:Eng.close H 8 l=some x)(k:oM w0 (aY [(0,.d x)]) (bG H (aP H (bL H 8 l))) env' H'):oM w0 (aY [(0,l)]) H env' H':=by
 have e:cN (aY [(0,l)]) 0 (.d x)=aY [(0,.d x)]:=by
  funext j
  by_cases q:j=0
  ·subst q;rfl
  ·rw[cP _ _ q];simp[aY,kN,q,Ne.symm q]
 have z:aY [(0,l)] 0=l:=by simp[aY,kN]
 have c:=oM.close (w0:=w0) (H:=H) (env:=aY [(0,l)]) 0 (x:=x) (by rw[z];exact h)
 rw[e,z]at c
 exact c.trans k
theorem QJ{β:Nat→Option Nat}{w:World}(m:fX w0 X H β w){id b:Nat}(hl:(H id).live=true)(hm:(H id).mut=false)(hb:β id=some b):¬Ex X β H b:=fun he=>by
 have hf:=m.fresh id b hl hb
 rcases he with he|⟨i,h1,h2⟩
 ·rcases hf.1 with h1|h1
  ·have:=(m.xold.1 b he).1;omega
  ·exact(m.xold.1 b he).2 h1.1
 ·have:=m.inj i id b (cY h1) hl h2 hb
  subst this
  rw[hm]at h1;cases h1
theorem oM.freeze(ids:List Nat):oM w0 env H env (bG H (aP H ids)):=fun N X β a w s=>by
 obtain⟨m,g⟩:=s.mem.freeze ids
 exact⟨β,g.marks s.defers,s.size,m.ext,m.xold,m.fresh,m.inj,fun u=>g.R (s.env u),m.obj,m.pin⟩
theorem oM.shut(b:Nat){fz:Bool}{cs:List LV}{ds:List DV}(hH:H b=.box fz cs)(h:bX (cs.map (Eng.close H 8))=some ds)(ht:∀c∈cs,∀id∈bL H 8 c,(H id).mut=false):oM w0 env H env (cN H b (.box fz (ds.map .d))):=fun N X β a w s=>by
 obtain⟨e1,e2⟩:=pJ h
 obtain⟨m2,g2⟩:=s.mem.rebox (cs':=ds.map .d) hH (by simp[e1]) (fun i c c' v hc hc' hr=>by
  obtain⟨d,hd,rfl⟩:=lP hc'
  have hcl:=e2 i _ _ hc hd
  exact .d _ _ (tS s.mem.obj (fun _ _ h=>h) 8 c d v hcl (fun id hid b hb=>QJ s.mem (sP 8 c d hcl id hid) (ht c (List.mem_of_getElem? hc) id hid) hb) hr))
 exact⟨β,g2.marks s.defers,s.size,m2.ext,m2.xold,m2.fresh,m2.inj,fun u=>g2.R (s.env u),m2.obj,m2.pin⟩
theorem bN(b:Nat)(ids:List Nat){fz:Bool}{cs:List LV}{ds:List DV}(hH:H b=.box fz cs)(hb:b∉ids)(h:bX (cs.map (Eng.close (bG H (aP H ids)) 8))=some ds)
 (ht:∀c∈cs,∀id∈bL (bG H (aP H ids)) 8 c,(bG H (aP H ids) id).mut=false):oM w0 env H env (cN (bG H (aP H ids)) b (.box fz (ds.map .d))):=
 (oM.freeze ids).trans (oM.shut b (by rw[jG,if_neg hb];exact hH) h ht)
theorem zU{ι:Type}{E:ι→mI}{O:ι→kV}{I:ι→Prop}{μ:ι→Nat}{i:ι}{env':mI}{H':kV}(h:oM w0 env H env' H')(k:JK w0 E O I μ i env' H'):JK w0 E O I μ i env H:=by
 obtain⟨j,hw,r⟩:=k
 exact⟨j,h.trans hw,r⟩
theorem mQ{ι:Type}{E:ι→mI}{O:ι→kV}{I:ι→Prop}{env':mI}{H':kV}(h:oM w0 env H env' H')(k:∃i,oM w0 env' H' (E i) (O i)∧I i):∃i,oM w0 env H (E i) (O i)∧I i:=by
 obtain⟨i,hw,r⟩:=k
 exact⟨i,h.trans hw,r⟩
end
end Go.Eng
namespace Go.Eng
open Go.Proofs
attribute[local simp] mW kX iB bC mT fY hZ nM cN bG oZ.plain oZ.cond oZ.fail dP lW sT mM fP kN lG lH memless mF eJ iW tP Ee hO fI strip oL dV lK bU
 qC fQ iH iC iG oT lk cD dR bP bV bX nK eT oP iF iZ bS eK bK dG iA eV eW dW eX gF gG gH eY dX eZ dY fB gJ gK gN gO fC gR oK nH mkAgg sO AT jI bD hU aX.live TK.isNone TK.agg TK.isBool TK.isStr TK.isStruct Op.operands Call.operands
 bE cO cH cW eE nI lB cU dH iE eO kP aP frozen lI
 jM jN lC gD jP jQ jR jV lD gE jX jY jZ kC rJ lR nO nP nR nS nU kD jK gC eU Nm.d Df.d Ed.d xD xE nE xF jL rU rV dA dB
 xH xI rK xJ xK rL rM rN nV xL xM rO
 bT bA dJ lJ dK bR cB bM eN uF TK.isInt jO jW nQ gM hF dI eL eM fV eS fO lX sA nD wW rI
 nC kR mC mU cL eA dS kW jE jF iV sD gS cZ gT gU cD jT jU nN iI gV kE gP gQ fE
 cK gZ TK.isPtr eF bZ kF oU pR jS kA nT gI gL fD
attribute[local simp] dZ kG gW
section
attribute[local simp] oZ.cond Nd.d_eq nd_t nd_dr nd_td ndsD bJ eP
def qS(l:List Tk):DV:=.sl (l.map Tk.d)
theorem Sb:∀t:Tk,(aE t.d).length=2:=fun _=>rfl
def eR(p:PS):List (Nat×aX):=[(0,.box false [.d (qS p.l),.d (aC p.e)])]
attribute[local simp] qS eR
theorem eC(c:Prop)[Decidable c](A B:aX)(x:Nat):bG (fun x=>if x=0 then A else B) (if c then []else [(0,A)]) x=if x=0 then A else B:=by
 by_cases h:c<;>by_cases q:x=0<;>simp[h,q,bG,cN]
attribute[local simp] eC
theorem jC{p:PS}(h:¬p.e=0∨p.l=[]):p.peek=[]:=by
 unfold PS.peek
 by_cases q:p.e=0
 ·rcases h with h|h
  ·exact absurd q h
  ·rw[if_neg (by simpa using q),h]
 ·rw[if_pos q]
theorem Fe{p:PS}{t:Tk}{r:List Tk}(h:p.e=0)(hl:p.l=t::r):p.peek=t.text:=by
 unfold PS.peek
 rw[if_neg (by simpa using h),hl]
theorem fW{p:PS}{s:aR}:p.is s=true↔s≠[]∧p.peek=s:=by simp[PS.is]
theorem cE{p:PS}{s:aR}(h:p.is s=true):p.took s=p.skip:=if_pos h
theorem mH{p:PS}{s:aR}(h:¬p.is s=true):p.took s=p:=if_neg h
theorem qL(p:PS):qR Tryz.prog 112 [.bx 0 0] (eR p) (eR p) (.d (.str p.peek)):=by
 unfold eR
 refine qR.one Tryz.func112 (by kernel_rfl) (c:=_) rfl Tryz.ntmps112 (by simp) Tryz.results112 fun w0 X hp=>?_
 refine oS.sy ?_
 simp
 refine oS.seq ?_
 refine oS.sy ?_
 simp
 refine aB ?_
 simp
 refine⟨fun g=>?_,fun g1 g2=>?_⟩
 ·refine oS.sy ?_
  simp
  refine oS.ret ?_
  simp
  exact aA [2] [(0,0)] (by decide) (by decide) (by simp[hp]) (by simp[jC g]) (by simp)
 ·refine oS.skip ?_
  simp
  refine oS.seq ?_
  obtain⟨t,r,htr⟩:=List.exists_cons_of_ne_nil g2
  refine aL ?_
  simp[htr,Tk.d]
  refine oS.ret ?_
  simp
  exact aA [2] [(0,0)] (by decide) (by decide) (by simp[hp]) (by simp[Fe g1 htr]) (by simp[htr])
theorem yZ(p:PS)(e:Int):qR Tryz.prog 113 [.bx 0 0,.d (aC e)] (eR p) (eR (p.fail e)) (.tup []):=by
 unfold eR
 refine Au Tryz.func113 (by kernel_rfl) (c:=_) rfl Tryz.ntmps113 (by simp) Tryz.results113 fun w0 X hp=>?_
 refine oS.sy ?_
 simp
 refine aB ?_
 simp
 refine⟨fun h0=>?_,fun h0=>?_⟩
 ·refine aL ?_
  simp
  exact aA [] [(0,0)] (by decide) (by decide) (by simp[hp]) (by simp) (by simp[PS.fail,h0])
 ·refine oS.skip ?_
  simp
  exact aA [] [(0,0)] (by decide) (by decide) (by simp[hp]) (by simp) (by simp[PS.fail,h0])
theorem oF(p:PS)(s:aR):qR Tryz.prog 114 [.bx 0 0,.d (.str s)] (eR p) (eR (p.took s)) (.d (.bool (p.is s))):=by
 unfold eR
 refine qR.one Tryz.func114 (by kernel_rfl) (c:=_) rfl Tryz.ntmps114 (by simp) Tryz.results114 fun w0 X hp=>?_
 refine oS.sy ?_
 simp
 refine oS.seq ?_
 refine bY hT hW (fun|9=>some (.gen ⟨[(0,0)],[],[],eR p,.d (.str p.peek)⟩)|_=>none) ?_
 simp
 refine⟨fun _=>qL p,?_⟩
 refine aB ?_
 simp
 refine⟨fun g=>?_,fun g1 g2=>?_⟩
 ·refine oS.sy ?_
  simp
  refine oS.ret ?_
  simp
  have hn:¬p.is s=true:=fun q=>by
   obtain⟨q1,q2⟩:=fW.1 q
   rcases g with g|g
   ·exact q1 g
   ·exact g q2
  exact aA [4] [(0,0)] (by decide) (by decide) (by simp[hp]) (by simp[hn]) (by simp[mH hn])
 ·refine oS.skip ?_
  simp
  refine oS.seq ?_
  have hs:p.is s=true:=fW.2 ⟨g1,by simpa using g2⟩
  have hl:=iM hs
  refine aL ?_
  simp
  refine⟨⟨by omega,fun t _=>Sb t⟩,?_⟩
  refine oS.sy ?_
  simp
  refine oS.ret ?_
  simp
  exact aA [4] [(0,0)] (by decide) (by decide) (by simp[hp]) (by simp[hs]) (by simp[cE hs,PS.skip])
theorem FY{p:PS}{s:aR}(h:p.is s=true):p.need s=p.took s:=by unfold PS.need PS.took;rw[if_pos h,if_pos h]
theorem Hr{p:PS}{s:aR}(h:p.is s=false):p.need s=(p.took s).fail 2:=by
 have h':¬p.is s=true:=by simp[h]
 rw[mH h'];unfold PS.need;rw[if_neg h']
theorem wE{p:PS}(h:kQ p.peek=true):aD p=(p.peek,p.took p.peek):=by
 have:p.is p.peek=true:=fW.2 ⟨fun e=>(by rw[e]at h;cases h),rfl⟩
 rw[cE this];unfold aD;rw[if_pos h]
theorem tH{p:PS}(h:kQ p.peek=false):aD p=([],p.fail 2):=by unfold aD;rw[if_neg (by simp[h])]
theorem pF(p:PS)(s:aR):qR Tryz.prog 117 [.bx 0 0,.d (.str s)] (eR p) (eR (p.need s)) (.tup []):=by
 unfold eR
 refine Au Tryz.func117 (by kernel_rfl) (c:=_) rfl Tryz.ntmps117 (by simp) Tryz.results117 fun w0 X hp=>?_
 refine bY hT hW (fun|6=>some (.gen ⟨[(0,0)],[],[],eR (p.took s),.d (.bool (p.is s))⟩)|_=>none) ?_
 simp
 refine⟨oF p s,?_⟩
 refine aB ?_
 simp
 refine⟨fun h0=>?_,fun h0=>?_⟩
 ·have en:=Hr h0
  refine oS.ro hT hW (fun|9=>some (.gen ⟨[(0,0)],[],[],eR ((p.took s).fail 2),.tup []⟩)|_=>none) ?_
  simp
  refine⟨yZ (p.took s) 2,?_⟩
  exact aA [] [(0,0)] (by decide) (by decide) (by simp[hp]) (by simp) (by simp[en])
 ·have en:=FY h0
  refine oS.skip ?_
  simp
  exact aA [] [(0,0)] (by decide) (by decide) (by simp[hp]) (by simp) (by simp[en])
theorem AG(p:PS):qR Tryz.prog 115 [.bx 0 0] (eR p) (eR (aD p).2) (.d (.str (aD p).1)):=by
 unfold eR
 refine qR.one Tryz.func115 (by kernel_rfl) (c:=_) rfl Tryz.ntmps115 (by simp) Tryz.results115 fun w0 X hp=>?_
 refine oS.sy ?_
 simp
 refine bY hT hW (fun|5=>some (.gen ⟨[(0,0)],[],[],eR p,.d (.str p.peek)⟩)|_=>none) ?_
 simp
 refine⟨qL p,?_⟩
 refine oS.seq ?_
 refine bY hT hW (fun|7=>some<| .plain ⟨.d (.bool (kQ p.peek)),true⟩|_=>none) ?_
 simp
 refine⟨EW p.peek,?_⟩
 refine aB ?_
 simp
 refine⟨fun h2=>?_,fun h2=>?_⟩
 ·refine bY hT hW (fun|10=>some (.gen ⟨[(0,0)],[],[],eR (p.fail 2),.tup []⟩)|_=>none) ?_
  simp
  refine⟨yZ p 2,?_⟩
  refine oS.sy ?_
  simp
  refine oS.ret ?_
  simp
  exact aA [2] [(0,0)] (by decide) (by decide) (by simp[hp]) (by simp[tH h2]) (by simp[tH h2])
 ·refine oS.skip ?_
  simp
  refine bY hT hW (fun|13=>some (.gen ⟨[(0,0)],[],[],eR (p.took p.peek),.d (.bool (p.is p.peek))⟩)|_=>none) ?_
  simp
  refine⟨oF p p.peek,?_⟩
  refine oS.sy ?_
  simp
  refine oS.ret ?_
  simp
  exact aA [2] [(0,0)] (by decide) (by decide) (by simp[hp]) (by simp[wE h2]) (by simp[wE h2])
end
open Go.Proofs
section
attribute[local simp] oZ.cond Nd.d_eq nd_t nd_dr nd_td ndsD bJ
def Tk.r(t:Tk):DV:=.agg [aC t.at_,aC (t.at_+t.text.length)]
def RO(s:aR)(t:Tk):Prop:=∃a:Nat,t.at_=a∧a+t.text.length≤s.length∧(s.drop a).take t.text.length=t.text
theorem DI(s:aR):∀(f k:Nat),k≤s.length→∀t∈(iQ f (s.drop k) k).1,RO s t
 |0,_,_,t,h=>by simp[iQ]at h
 |f+1,k,hk,t,h=>by
  by_cases hl:k<s.length
  ·have hd:=List.drop_eq_getElem_cons hl
   have h1:=DI s f (k+1) hl
   have h2:=DI s f (k+bB (s.drop k))
   generalize s[k]=c at hd
   have hn:=uT (s.drop k)
   rw[List.length_drop]at hn
   have e:iQ (f+1) (s.drop k) k=if c=32∨c=10 then iQ f (s.drop (k+1)) ((k:Int)+1)else if bB (s.drop k)=0 then([],(k:Int))else
    (⟨(s.drop k).take (bB (s.drop k)),k⟩::(iQ f ((s.drop k).drop (bB (s.drop k))) ((k:Int)+bB (s.drop k))).1,(iQ f ((s.drop k).drop (bB (s.drop k))) ((k:Int)+bB (s.drop k))).2):=by
    rw[hd];rfl
   rw[e]at h
   split at h
   ·exact h1 t (by simpa using h)
   ·split at h
    ·simp at h
    ·rw[List.drop_drop]at h
     simp only[List.mem_cons]at h
     rcases h with h|h
     ·refine⟨k,by rw[h],?_,?_⟩
      ·rw[h];simp only[List.length_take,List.length_drop];omega
      ·rw[h];simp only[List.length_take];rw[Nat.min_eq_left (by rw[List.length_drop];omega)]
     ·exact h2 (by omega) t (by simpa using h)
  ·rw[List.drop_eq_nil_of_le (by omega)]at h
   simp[iQ]at h
theorem Lz{s:aR}{i:Nat}(h:0≤vB s i):0<bB (s.drop i):=by
 unfold vB at h
 split at h
 ·assumption
 ·omega
theorem NM{s:aR}{t:Tk}(h:t∈(fL s).1):RO s t:=DI s s.length 0 (Nat.zero_le _) t (by simpa [fL]using h)
theorem LA(s:aR)(hl:s.length≤1000000000):Ok Tryz.prog 50 [.str s] ⟨.tup [.own 2 ((fL s).1.map Tk.r),.d (aC (fL s).2)],true⟩:=by
 refine Dl Tryz.func50 (by kernel_rfl) (c:=_) rfl Tryz.ntmps50 (by simp) Tryz.results50 rfl fun w0 X hp=>?_
 refine oS.sy ?_
 simp
 refine oS.sy ?_
 simp
 refine oS.sy ?_
 simp
 refine oS.seq ?_
 refine oS.block ?_
 refine cA (ι:=Sn) (fun⟨k,L⟩=>aY [(0,.d (.str s)),(4,.ow 4 0 L.length),(5,.d (aC k))]) (fun⟨k,L⟩=>aK [(4,.row false 2 (L.map Tk.r))]) (fun⟨k,L⟩=>L.length≤k∧k≤s.length∧fL s=(L++(rW s k).1,(rW s k).2)) (fun⟨k,L⟩=>s.length-k) ⟨0,[]⟩ (aA [0,4,5] [(4,4)] (by decide) (by decide) (by simp[hp]) (by simp) (by simp)) (⟨Nat.le_refl _,Nat.zero_le _,by simp[rW,fL]⟩) fun⟨k,L⟩ hi3=>?_
 refine oS.seq ?_
 refine oS.sy ?_
 simp
 refine aB ?_
 simp
 refine⟨fun h3=>?_,fun h3=>?_⟩
 ·refine oS.skip ?_
  simp
  refine oS.block ?_
  refine oS.seq ?_
  refine oS.seq ?_
  have hk:k<s.length:=by omega
  refine aL ?_
  simp
  refine⟨⟨hk,fun _=>hk⟩,?_⟩
  refine aB ?_
  simp
  refine⟨fun g=>?_,fun g1 g2=>?_⟩
  ·have q4:=(yY hk).1 g
   refine oS.sy ?_
   simp
   refine⟨by omega,?_⟩
   refine oS.exit ?_
   simp
   refine JK.mk ⟨k+1,L⟩ (aA [0,4,5] [(4,4)] (by decide) (by decide) (by simp[hp]) (by simp) (by simp)) ?_ ?_
   ·refine⟨Nat.le_succ_of_le hi3.1,hk,?_⟩
    rw[hi3.2.2,BY hk q4]
   ·show s.length-(k+1)<s.length-k
    omega
  ·have q4:¬(s[k]=32∨s[k]=10):=fun q=>by have:=(yY hk).2 q;omega
   refine oS.skip ?_
   simp
   refine oS.seq ?_
   have hn:=NJ s k hk (by omega)
   refine oS.ro hT hW (fun|25=>some<| .plain ⟨.d (aC (vB s k)),true⟩|_=>none) ?_
   simp
   refine⟨hn,?_⟩
   refine oS.seq ?_
   refine oS.sy ?_
   simp
   refine aB ?_
   simp
   refine⟨fun h7=>?_,fun h7=>?_⟩
   ·refine oS.sy ?_
    simp
    refine oS.ret ?_
    simp
    have h9:bB (s.drop k)=0:=by
     rcases Nat.eq_zero_or_pos (bB (s.drop k))with z|z
     ·exact z
     ·rw[show vB s k=(k:Int)+bB (s.drop k) from if_pos z]at h7;omega
    have e:=hi3.2.2
    rw[DH hk q4 h9]at e
    rw[e]
    exact⟨⟨by simp,fun a _ c hc=>by simp[Tk.r,aE]at hc;rcases hc with rfl|rfl<;>rfl⟩,rfl⟩
   ·have hpos:0<bB (s.drop k):=Lz (by omega)
    have hnr:vB s k=(k:Int)+bB (s.drop k):=if_pos hpos
    have hnl:=uT (s.drop k)
    rw[List.length_drop]at hnl
    have tok_len2:min (bB (s.drop k)) (s.length-k)=bB (s.drop k):=by omega
    refine oS.skip ?_
    simp
    refine oS.sy ?_
    simp
    refine⟨⟨by omega,by omega⟩,?_⟩
    refine aL ?_
    simp
    refine JK.mk ⟨k+bB (s.drop k),L++[⟨(s.drop k).take (bB (s.drop k)),k⟩]⟩ (aA [0,4,5] [(35,4)] (by decide) (by decide) (by simp[hp]) (by simp[hnr]) (by simp[Tk.r,hnr,tok_len2])) ?_ ?_
    ·refine⟨?_,?_,?_⟩
     ·show(L++[_]).length≤k+bB (s.drop k)
      rw[List.length_append,List.length_singleton];omega
     ·show k+bB (s.drop k)≤s.length
      omega
     ·rw[hi3.2.2,Fd hk q4 (by omega)]
      simp
    ·show s.length-(k+bB (s.drop k))<s.length-k
     omega
 ·refine oS.exit ?_
  simp
  refine oS.sy ?_
  simp
  refine oS.ret ?_
  simp
  have e:=hi3.2.2
  rw[Fc h3]at e
  rw[e]
  exact⟨⟨by simp,fun a _ c hc=>by simp[Tk.r,aE]at hc;rcases hc with rfl|rfl<;>rfl⟩,rfl⟩
theorem NN(s:aR)(hl:s.length≤1000000000):Ok Tryz.prog 50 [.str s] ⟨.tup [.d (.sl ((fL s).1.map Tk.r)),.d (aC (fL s).2)],true⟩:=Fb (LA s hl)
end
end Go.Eng
namespace Go.Proofs
open Go.Shelf
def Tryz.atoiLay_ren:Go.Shelf.Ren:=⟨fun|172=>163|244=>212|245=>213|247=>246|279=>247|280=>248|281=>249|282=>250|287=>271|316=>272|171=>123|205=>273|321=>286|322=>287|243=>168|246=>224|283=>253|284=>254|285=>255|286=>256|129=>180|317=>275|318=>276|319=>277|320=>278|337=>288|338=>289|n=>n,fun|9=>9|3=>3|75=>192|76=>193|4=>4|5=>5|167=>237|37=>75|0=>0|85=>238|2=>2|168=>240|53=>145|175=>258|46=>165|210=>262|127=>272|145=>275|143=>273|21=>21|171=>247|173=>249|212=>265|51=>142|20=>20|213=>266|232=>151|233=>144|80=>81|n=>n,fun|15=>6|16=>7|17=>8|18=>9|19=>10|n=>n⟩
theorem Tryz.atoiLay:Go.Proofs.Lays.n172 Tryz.prog Tryz.atoiLay_ren:={
 mixed:=by kernel_rfl,
 f129:=Tryz.func180.trans (congrArg some (by kernel_rfl)),
 f171:=Tryz.func123.trans (congrArg some (by kernel_rfl)),
 f172:=Tryz.func163.trans (congrArg some (by kernel_rfl)),
 f205:=Tryz.func273.trans (congrArg some (by kernel_rfl)),
 f243:=Tryz.func168.trans (congrArg some (by kernel_rfl)),
 f244:=Tryz.func212.trans (congrArg some (by kernel_rfl)),
 f245:=Tryz.func213.trans (congrArg some (by kernel_rfl)),
 f246:=Tryz.func224.trans (congrArg some (by kernel_rfl)),
 f247:=Tryz.func246.trans (congrArg some (by kernel_rfl)),
 f279:=Tryz.func247.trans (congrArg some (by kernel_rfl)),
 f280:=Tryz.func248.trans (congrArg some (by kernel_rfl)),
 f281:=Tryz.func249.trans (congrArg some (by kernel_rfl)),
 f282:=Tryz.func250.trans (congrArg some (by kernel_rfl)),
 f283:=Tryz.func253.trans (congrArg some (by kernel_rfl)),
 f284:=Tryz.func254.trans (congrArg some (by kernel_rfl)),
 f285:=Tryz.func255.trans (congrArg some (by kernel_rfl)),
 f286:=Tryz.func256.trans (congrArg some (by kernel_rfl)),
 f287:=Tryz.func271.trans (congrArg some (by kernel_rfl)),
 f316:=Tryz.func272.trans (congrArg some (by kernel_rfl)),
 f317:=Tryz.func275.trans (congrArg some (by kernel_rfl)),
 f318:=Tryz.func276.trans (congrArg some (by kernel_rfl)),
 f319:=Tryz.func277.trans (congrArg some (by kernel_rfl)),
 f320:=Tryz.func278.trans (congrArg some (by kernel_rfl)),
 f321:=Tryz.func286.trans (congrArg some (by kernel_rfl)),
 f322:=Tryz.func287.trans (congrArg some (by kernel_rfl)),
 f337:=Tryz.func288.trans (congrArg some (by kernel_rfl)),
 f338:=Tryz.func289.trans (congrArg some (by kernel_rfl)),
 t0:=Tryz.underlying0,
 a0:=Tryz.isAgg0,
 z0:=Tryz.sizeOf0,
 v0:=Tryz.zeroValue0,
 t2:=Tryz.underlying2,
 a2:=Tryz.isAgg2,
 z2:=Tryz.sizeOf2,
 v2:=Tryz.zeroValue2,
 t3:=Tryz.underlying3,
 a3:=Tryz.isAgg3,
 z3:=Tryz.sizeOf3,
 v3:=Tryz.zeroValue3,
 t4:=Tryz.underlying4,
 a4:=Tryz.isAgg4,
 z4:=Tryz.sizeOf4,
 v4:=Tryz.zeroValue4,
 t5:=Tryz.underlying5,
 a5:=Tryz.isAgg5,
 z5:=Tryz.sizeOf5,
 v5:=Tryz.zeroValue5,
 t9:=Tryz.underlying9,
 a9:=Tryz.isAgg9,
 z9:=Tryz.sizeOf9,
 v9:=Tryz.zeroValue9,
 t20:=Tryz.underlying20,
 a20:=Tryz.isAgg20,
 z20:=Tryz.sizeOf20,
 v20:=Tryz.zeroValue20,
 t21:=Tryz.underlying21,
 a21:=Tryz.isAgg21,
 z21:=Tryz.sizeOf21,
 v21:=Tryz.zeroValue21,
 t37:=Tryz.underlying75,
 a37:=Tryz.isAgg75,
 z37:=Tryz.sizeOf75,
 v37:=Tryz.zeroValue75,
 t46:=Tryz.underlying165,
 a46:=Tryz.isAgg165,
 z46:=Tryz.sizeOf165,
 v46:=Tryz.zeroValue165,
 t51:=Tryz.underlying142,
 a51:=Tryz.isAgg142,
 z51:=Tryz.sizeOf142,
 v51:=Tryz.zeroValue142,
 t53:=Tryz.underlying145,
 a53:=Tryz.isAgg145,
 z53:=Tryz.sizeOf145,
 v53:=Tryz.zeroValue145,
 t75:=Tryz.underlying192,
 a75:=Tryz.isAgg192,
 z75:=Tryz.sizeOf192,
 v75:=Tryz.zeroValue192,
 t76:=Tryz.underlying193,
 a76:=Tryz.isAgg193,
 z76:=Tryz.sizeOf193,
 v76:=Tryz.zeroValue193,
 t85:=Tryz.underlying238,
 a85:=Tryz.isAgg238,
 z85:=Tryz.sizeOf238,
 v85:=Tryz.zeroValue238,
 t127:=Tryz.underlying272,
 a127:=Tryz.isAgg272,
 z127:=Tryz.sizeOf272,
 v127:=Tryz.zeroValue272,
 t143:=Tryz.underlying273,
 a143:=Tryz.isAgg273,
 z143:=Tryz.sizeOf273,
 v143:=Tryz.zeroValue273,
 t145:=Tryz.underlying275,
 a145:=Tryz.isAgg275,
 z145:=Tryz.sizeOf275,
 v145:=Tryz.zeroValue275,
 t167:=Tryz.underlying237,
 a167:=Tryz.isAgg237,
 z167:=Tryz.sizeOf237,
 v167:=Tryz.zeroValue237,
 t168:=Tryz.underlying240,
 a168:=Tryz.isAgg240,
 z168:=Tryz.sizeOf240,
 v168:=Tryz.zeroValue240,
 t171:=Tryz.underlying247,
 a171:=Tryz.isAgg247,
 z171:=Tryz.sizeOf247,
 v171:=Tryz.zeroValue247,
 t173:=Tryz.underlying249,
 a173:=Tryz.isAgg249,
 z173:=Tryz.sizeOf249,
 v173:=Tryz.zeroValue249,
 t175:=Tryz.underlying258,
 a175:=Tryz.isAgg258,
 z175:=Tryz.sizeOf258,
 v175:=Tryz.zeroValue258,
 t210:=Tryz.underlying262,
 a210:=Tryz.isAgg262,
 z210:=Tryz.sizeOf262,
 v210:=Tryz.zeroValue262,
 t212:=Tryz.underlying265,
 a212:=Tryz.isAgg265,
 z212:=Tryz.sizeOf265,
 v212:=Tryz.zeroValue265,
 t213:=Tryz.underlying266,
 a213:=Tryz.isAgg266,
 z213:=Tryz.sizeOf266,
 t232:=Tryz.underlying151,
 a232:=Tryz.isAgg151,
 z232:=Tryz.sizeOf151,
 v232:=Tryz.zeroValue151,
 t233:=Tryz.underlying144,
 a233:=Tryz.isAgg144,
 z233:=Tryz.sizeOf144,
 v233:=Tryz.zeroValue144,
 g15:=by kernel_rfl,
 g16:=by kernel_rfl,
 g17:=by kernel_rfl,
 g18:=by kernel_rfl,
 g19:=by kernel_rfl}
end Go.Proofs
namespace Go.Eng
open Go.Proofs
attribute[local simp] mW kX iB bC mT fY hZ nM cN bG oZ.plain oZ.cond oZ.fail dP lW sT mM fP kN lG lH memless mF eJ iW tP Ee hO fI strip oL dV lK bU
 qC fQ iH iC iG oT lk cD dR bP bV bX nK eT oP iF iZ bS eK bK dG iA eV eW dW eX gF gG gH eY dX eZ dY fB gJ gK gN gO fC gR oK nH mkAgg sO AT jI bD hU aX.live TK.isNone TK.agg TK.isBool TK.isStr TK.isStruct Op.operands Call.operands
 bE cO cH cW eE nI lB cU dH iE eO kP aP frozen lI
 jM jN lC gD jP jQ jR jV lD gE jX jY jZ kC rJ lR nO nP nR nS nU kD jK gC eU Nm.d Df.d Ed.d xD xE nE xF jL rU rV dA dB
 xH xI rK xJ xK rL rM rN nV xL xM rO
 bT bA dJ lJ dK bR cB bM eN uF TK.isInt jO jW nQ gM hF dI eL eM fV eS fO lX sA nD wW rI
 nC kR mC mU cL eA dS kW jE jF iV sD gS cZ gT gU cD jT jU nN iI gV kE gP gQ fE
 cK gZ TK.isPtr eF bZ kF oU pR jS kA nT gI gL fD
attribute[local simp] dZ kG gW
section
attribute[local simp] oZ.cond Nd.d_eq nd_t nd_dr nd_td ndsD bJ eP qS eR eC
theorem Bs{c:UInt8}(h:aW c=true):Lib.digitVal c=some (c.toNat-48)∧48≤c.toNat∧c.toNat≤57:=by
 rw[Bo]at h
 simp only[Bool.and_eq_true,decide_eq_true_eq]at h
 have h1:48≤c.toNat:=by omega
 have h2:c.toNat≤57:=by omega
 exact⟨by unfold Lib.digitVal;rw[if_pos ⟨h1,h2⟩],h1,h2⟩
theorem DJ:∀(s:aR) (acc:Nat),(∀c∈s,aW c=true)→∃m:Nat,Lib.decFrom acc s=some m∧(m:Int)=s.foldl (fun n c=>10*n+((c.toNat:Int)- 48)) (acc:Int)
 |[],acc,_=>⟨acc,rfl,rfl⟩
 |c::r,acc,h=>by
  obtain⟨h1,h2,h3⟩:=Bs (h c (List.mem_cons_self ..))
  obtain⟨m,e1,e2⟩:=DJ r (acc*10+(c.toNat-48)) fun x hx=>h x (List.mem_cons_of_mem _ hx)
  refine⟨m,?_,?_⟩
  ·unfold Lib.decFrom;rw[h1];exact e1
  ·rw[e2,List.foldl_cons]
   congr 1
   omega
theorem Hs{s:aR}(h0:s≠[])(h:∀c∈s,aW c=true):Lib.atoi s=some (qG s):=by
 cases s with
 |nil=>exact absurd rfl h0
 |cons c r=>
  obtain⟨m,e1,e2⟩:=DJ (c::r) 0 h
  obtain⟨_,d1,d2⟩:=Bs (h c (List.mem_cons_self ..))
  have n1:¬(c==45)=true:=fun q=>(by have e:c=45:=(by simpa using q);subst e;exact absurd d1 (by decide))
  have n2:¬(c==43)=true:=fun q=>(by have e:c=43:=(by simpa using q);subst e;exact absurd d1 (by decide))
  show(if(c==45)=true then(Lib.decNat r).map (fun m:Nat=> -(m:Int))else if(c==43)=true then(Lib.decNat r).map (fun m:Nat=>(m:Int))else(Lib.decNat (c::r)).map (fun m:Nat=>(m:Int)))=some (qG (c::r))
  rw[if_neg n1,if_neg n2]
  unfold Lib.decNat
  rw[if_neg (by simp),e1,Option.map_some,e2]
  rfl
theorem DK{s:aR}(h:Bf s)(hd:aW (s[0]?.getD 0)=true):s.length≤3∧∀c∈s,aW c=true:=by
 obtain⟨h0,h1⟩:=h
 cases s with
 |nil=>exact absurd rfl h0
 |cons c r=>
  have hd:aW c=true:=hd
  obtain⟨_,d1,d2⟩:=Bs hd
  have nl:¬bF c=true:=fun q=>by
   rw[zR]at q
   simp only[Bool.and_eq_true,decide_eq_true_eq]at q
   omega
  have n36:¬c=36:=fun q=>by subst q;exact absurd d1 (by decide)
  rw[nF,if_neg nl,if_neg n36,if_pos hd]at h1
  by_cases q:iX aW (c::r)≤3
  ·rw[if_pos q]at h1
   refine⟨by omega,fun x hx=>?_⟩
   obtain⟨i,hi,rfl⟩:=List.getElem_of_mem hx
   exact xN hi (by omega)
  ·rw[if_neg q]at h1;simp at h1
theorem Pz{s:aR}(h:Bf s):s.length≤17:=by
 obtain⟨h0,h1⟩:=h
 cases s with
 |nil=>simp
 |cons c r=>
  rw[←h1,nF]
  have hw:∀t:aR,dN t≤16:=fun t=>by
   rcases Nat.eq_zero_or_pos (dN t)with q|q
   ·omega
   ·obtain⟨_,_,_,_,_,q2⟩:=sK q
    exact q2
  have a1:=hw (c::r)
  have a2:=hw r
  repeat' split
  all_goals omega
theorem qM{p:PS}(h:bH p.l):p.peek.length≤17:=by
 by_cases q:p.peek=[]
 ·rw[q];simp
 ·exact Pz (uU h q)
theorem PA(s:aR)(n:Int)(hl:s.length≤18)(h:Lib.atoi s=some n):Ok Tryz.prog 163 [.str s] ⟨.tup [.d (aC n),.d (.val .nilIface)],true⟩:=by
 refine⟨⟨_,Tryz.func163,by kernel_rfl,rfl⟩,fun w X vs hX hr=>?_⟩
 match vs,hr.1 with
 |[u],_=>
  have h1:=hr.2 0 _ _ rfl rfl
  cases h1
  refine(Go.Proofs.Any.strconv_Atoi Tryz.atoiLay ⟨s.toArray⟩ n (by simpa [ByteArray.size]using hl) (by simpa using h) w).mono ?_
  rintro e w' ⟨rfl,t,rfl⟩
  refine⟨_,rfl,?_,?_⟩
  ·refine⟨by unfold Lib.bytesWorld World.freeze;split<;>rfl,by unfold Lib.bytesWorld World.freeze;split<;>rfl,by unfold Lib.bytesWorld World.freeze;split<;>rfl,by rw[Lib.bytesWorld_size];omega,fun k hk=>Lib.bytesWorld_at_old _ _ _ k hk,?_⟩
   unfold Lib.bytesWorld World.freeze
   split<;>exact Nat.le_succ w.drawn
  ·refine⟨[.int .i64 n,.nilIface],fun _=>none,rfl,rfl,fun _ _ _ q=>(by cases q),fun i r v hi hv=>?_⟩
   match i,hi with
   |0,hi=>cases hi;cases hv;exact .int _ _
   |1,hi=>cases hi;cases hv;exact .val _ rfl
theorem Ej(s t:aR)(hl:s.length≤9223372036854775807)(ht:t.length≤9223372036854775807):Ok Tryz.prog 270 [.str s,.str t] ⟨.tup [.d (.str (if s.take t.length=t then s.drop t.length else s)),.d (.bool (decide (s.take t.length=t)))],true⟩:=by
 refine Dl Tryz.func270 (by kernel_rfl) (c:=_) rfl Tryz.ntmps270 (by simp) Tryz.results270 rfl fun w0 X hp=>?_
 refine oS.sy ?_
 simp
 refine oS.seq ?_
 refine oS.seq ?_
 have h:=zK s t hl ht
 refine oS.ro hT hW (fun|8=>some<| .plain ⟨.d (.bool (decide (s.take t.length=t))),true⟩|_=>none) ?_
 simp
 refine⟨h,?_⟩
 refine aB ?_
 simp
 refine⟨fun h1=>?_,fun h1=>?_⟩
 ·refine oS.sy ?_
  simp
  refine oS.ret ?_
  simp
  exact⟨fun q=>absurd q h1,h1⟩
 ·refine oS.skip ?_
  simp
  refine oS.seq ?_
  have hle:t.length≤s.length:=by have e:=congrArg List.length h1;rw[List.length_take]at e;omega
  refine aL ?_
  simp
  refine⟨by omega,?_⟩
  refine oS.ret ?_
  simp
  exact⟨fun q=>absurd h1 q,h1⟩
theorem FZ(s t:aR)(hl:s.length≤9223372036854775807)(ht:t.length≤9223372036854775807):Ok Tryz.prog 245 [.str s,.str t] ⟨.tup [.d (.str (if s.take t.length=t then s.drop t.length else s)),.d (.bool (decide (s.take t.length=t)))],true⟩:=by
 refine Dl Tryz.func245 (by kernel_rfl) (c:=_) rfl Tryz.ntmps245 (by simp) Tryz.results245 rfl fun w0 X hp=>?_
 refine oS.sy ?_
 simp
 refine oS.seq ?_
 have h:=Ej s t hl ht
 refine oS.ro hT hW (fun|8=>some<| .plain ⟨.tup [.d (.str (if s.take t.length=t then s.drop t.length else s)),.d (.bool (decide (s.take t.length=t)))],true⟩|_=>none) ?_
 simp[dO]
 refine⟨h,?_⟩
 refine oS.ret ?_
 simp
theorem oA{p:PS}(h:p.peek.take 1=[36]):p.peek=36::p.peek.drop 1∧aM p=(p.peek.drop 1,p.took p.peek):=by
 cases e:p.peek with
 |nil=>rw[e]at h;cases h
 |cons c r=>
  rw[e]at h
  have hc:c=36:=by simpa using h
  subst hc
  have hi:p.is (36::r)=true:=fW.2 ⟨by simp,e⟩
  refine⟨rfl,?_⟩
  rw[cE hi]
  unfold aM
  rw[e]
  rfl
theorem rB{p:PS}(h:¬p.peek.take 1=[36]):aM p=([],p.fail 2):=by
 unfold aM
 split
 ·rename_i r e
  rw[e]at h;exact absurd rfl h
 ·rfl
theorem Ga{k:Int}{p:PS}(h:p.peek=[]∨aW (p.peek[0]?.getD 0)=false):aG k p=(0,p.fail 2):=by
 unfold aG
 split
 ·rfl
 ·rename_i c r e
  rw[e]at h
  rcases h with h|h
  ·cases h
  ·have h:aW c=false:=h
   rw[if_neg (by simp[h])]
theorem Gb{k:Int}{p:PS}(h0:¬p.peek=[])(h1:aW (p.peek[0]?.getD 0)=true)(h2:qG p.peek<fF k∨fH k<qG p.peek):aG k p=(0,p.fail 5):=by
 unfold aG
 split
 ·rename_i e;exact absurd e h0
 ·rename_i c r e
  rw[e]at h1 h2
  have h1:aW c=true:=h1
  rw[if_pos h1,if_pos h2]
theorem Jg{k:Int}{p:PS}(h0:¬p.peek=[])(h1:aW (p.peek[0]?.getD 0)=true)(h2:¬(qG p.peek<fF k∨fH k<qG p.peek)):aG k p=(qG p.peek,p.took p.peek):=by
 have hi:p.is p.peek=true:=fW.2 ⟨h0,rfl⟩
 rw[cE hi]
 unfold aG
 split
 ·rename_i e;exact absurd e h0
 ·rename_i c r e
  rw[e]at h1 h2
  have h1:aW c=true:=h1
  rw[if_pos h1,if_neg h2,e]
theorem AH(p:PS)(hg:bH p.l):qR Tryz.prog 210 [.bx 0 0] (eR p) (eR (aM p).2) (.d (.str (aM p).1)):=by
 unfold eR
 refine qR.one Tryz.func210 (by kernel_rfl) (c:=_) rfl Tryz.ntmps210 (by simp) Tryz.results210 fun w0 X hp=>?_
 refine oS.sy ?_
 simp
 refine oS.seq ?_
 have hk:=qM hg
 have hc:=FZ p.peek [36] (by omega) (by decide)
 refine oS.ro hT hW (fun|7=>some (.gen ⟨[(0,0)],[],[],eR p,.d (.str p.peek)⟩)|8=>some<| .plain ⟨.tup [.d (.str (if p.peek.take 1=[36]then p.peek.drop 1 else p.peek)),.d (.bool (decide (p.peek.take 1=[36])))],true⟩|_=>none) ?_
 simp[dO]
 refine⟨⟨qL p,by simpa using hc⟩,?_⟩
 refine oS.seq ?_
 refine oS.sy ?_
 simp
 refine aB ?_
 simp
 refine⟨fun h2=>?_,fun h2=>?_⟩
 ·refine bY hT hW (fun|14=>some (.gen ⟨[(0,0)],[],[],eR (p.fail 2),.tup []⟩)|_=>none) ?_
  simp
  refine⟨yZ p 2,?_⟩
  refine oS.sy ?_
  simp
  refine oS.ret ?_
  simp
  exact aA [2] [(0,0)] (by decide) (by decide) (by simp[hp]) (by simp[rB h2]) (by simp[rB h2])
 ·refine oS.skip ?_
  simp
  refine oS.seq ?_
  obtain⟨e1,e2⟩:=oA h2
  have e3:36::p.peek.tail=p.peek:=by rw[←List.drop_one];exact e1.symm
  have ht:=oF p p.peek
  have hl3:=congrArg List.length e3
  refine oS.ro hT hW (fun|18=>some (.gen ⟨[(0,0)],[],[],eR (p.took p.peek),.d (.bool (p.is p.peek))⟩)|_=>none) ?_
  simp[h2]
  refine⟨⟨by simp at hl3;omega,by rw[e3];exact ht⟩,?_⟩
  refine oS.sy ?_
  simp
  refine oS.ret ?_
  simp
  exact aA [2] [(0,0)] (by decide) (by decide) (by simp[hp]) (by simp[h2,e2]) (by simp[e2])
theorem tI(p:PS)(k:Int)(hg:bH p.l)(hk:0≤k∧k<37):qR Tryz.prog 119 [.bx 0 0,.d (aC k)] (eR p) (eR (aG k p).2) (.d (aC (aG k p).1)):=by
 unfold eR
 refine qR.one Tryz.func119 (by kernel_rfl) (c:=_) rfl Tryz.ntmps119 (by simp) Tryz.results119 fun w0 X hp=>?_
 refine oS.sy ?_
 simp
 refine bY hT hW (fun|9=>some (.gen ⟨[(0,0)],[],[],eR p,.d (.str p.peek)⟩)|_=>none) ?_
 simp
 refine⟨qL p,?_⟩
 refine oS.seq ?_
 refine oS.seq ?_
 have hd:=xT (p.peek[0]?.getD 0)
 refine oS.ro hT hW (fun|15=>some<| .plain ⟨.d (.bool (aW (p.peek[0]?.getD 0))),true⟩|_=>none) ?_
 simp
 refine⟨⟨fun h=>List.length_pos_iff.2 h,fun _=>hd⟩,?_⟩
 refine aB ?_
 simp
 refine⟨fun g=>?_,fun g1 g2=>?_⟩
 ·refine bY hT hW (fun|19=>some (.gen ⟨[(0,0)],[],[],eR (p.fail 2),.tup []⟩)|_=>none) ?_
  simp
  refine⟨yZ p 2,?_⟩
  refine oS.sy ?_
  simp
  refine oS.ret ?_
  simp
  have e:=Ga (k:=k) g
  exact aA [4] [(0,0)] (by decide) (by decide) (by simp[hp]) (by simp[e]) (by simp[e])
 ·refine oS.skip ?_
  simp
  refine oS.seq ?_
  obtain⟨hl,hds⟩:=DK (uU hg g1) g2
  have ha:=PA p.peek (qG p.peek) (by omega) (Hs g1 hds)
  refine oS.ro hT hW (fun|22=>some<| .plain ⟨.tup [.d (aC (qG p.peek)),.d (.val .nilIface)],true⟩|_=>none) ?_
  simp[dO]
  refine⟨ha,?_⟩
  refine oS.seq ?_
  refine oS.seq ?_
  have hg1:=Hi hk
  have hg2:=Hj hk
  have hg3:=EX
  refine aL ?_
  simp[hg1,hg2]
  refine⟨⟨⟨⟨hk,by omega⟩,fun _=>hk⟩,fun _=>by omega⟩,?_⟩
  refine aB ?_
  simp
  refine⟨fun b=>?_,fun b1 b2=>?_⟩
  ·refine bY hT hW (fun|40=>some (.gen ⟨[(0,0)],[],[],eR (p.fail 5),.tup []⟩)|_=>none) ?_
   simp
   refine⟨yZ p 5,?_⟩
   refine oS.sy ?_
   simp
   refine oS.ret ?_
   simp
   have e:=Gb (k:=k) g1 g2 b
   exact aA [4] [(0,0)] (by decide) (by decide) (by simp[hp]) (by simp[e]) (by simp[e])
  ·refine oS.skip ?_
   simp
   refine bY hT hW (fun|43=>some (.gen ⟨[(0,0)],[],[],eR (p.took p.peek),.d (.bool (p.is p.peek))⟩)|_=>none) ?_
   simp
   refine⟨oF p p.peek,?_⟩
   refine oS.sy ?_
   simp
   refine oS.ret ?_
   simp
   have e:=Jg (k:=k) g1 g2 (by omega)
   exact aA [4] [(0,0)] (by decide) (by decide) (by simp[hp]) (by simp[e]) (by simp[e])
theorem LB{k:Int}{p:PS}(h:bH p.l)(hk:fF k≤0∧0≤fH k∧ -999≤fF k∧fH k≤999): -999≤(aG k p).1∧(aG k p).1≤999:=by
 by_cases q1:p.peek=[]∨aW (p.peek[0]?.getD 0)=false
 ·rw[Ga q1];simp
 ·have q2:¬p.peek=[]:=fun e=>q1 (.inl e)
  have q3:aW (p.peek[0]?.getD 0)=true:=by
   cases e:aW (p.peek[0]?.getD 0)with
   |true=>rfl
   |false=>exact absurd (.inr e) q1
  by_cases q4:qG p.peek<fF k∨fH k<qG p.peek
  ·rw[Gb q2 q3 q4];simp
  ·rw[Jg q2 q3 q4];simp only;omega
theorem Jh{p:PS}(h:p.is [45]=true):aZ p=(-(aG 0 (p.took [45])).1,(aG 0 (p.took [45])).2):=by
 rw[cE h];unfold aZ;rw[if_pos h]
theorem Ji{p:PS}(h:p.is [45]=false):aZ p=aG 0 (p.took [45]):=by
 have h':¬p.is [45]=true:=by simp[h]
 rw[mH h'];unfold aZ;rw[if_neg h']
theorem gY{p:PS}{s:aR}(h:bH p.l):bH (p.took s).l:=by
 unfold PS.took;split
 ·exact eG h
 ·exact h
theorem Ff(p:PS)(hg:bH p.l):qR Tryz.prog 118 [.bx 0 0] (eR p) (eR (aZ p).2) (.d (aC (aZ p).1)):=by
 unfold eR
 refine qR.one Tryz.func118 (by kernel_rfl) (c:=_) rfl Tryz.ntmps118 (by simp) Tryz.results118 fun w0 X hp=>?_
 refine oS.sy ?_
 simp
 refine oS.seq ?_
 refine bY hT hW (fun|4=>some (.gen ⟨[(0,0)],[],[],eR (p.took [45]),.d (.bool (p.is [45]))⟩)|_=>none) ?_
 simp
 refine⟨oF p [45],?_⟩
 refine aB ?_
 simp
 refine⟨fun h1=>?_,fun h1=>?_⟩
 ·refine oS.seq ?_
  have hn:=tI (p.took [45]) 0 (gY hg) (by decide)
  have hr:=LB (k:=0) (gY (s:=[45]) hg) (by decide)
  refine oS.ro hT hW (fun|6=>some (.gen ⟨[(0,0)],[],[],eR (aG 0 (p.took [45])).2,.d (aC (aG 0 (p.took [45])).1)⟩)|_=>none) ?_
  simp
  refine⟨⟨hn,by omega⟩,?_⟩
  refine oS.ret ?_
  simp
  have e:=Jh h1
  exact aA [2] [(0,0)] (by decide) (by decide) (by simp[hp]) (by simp[e]) (by simp[e])
 ·refine oS.skip ?_
  simp
  refine oS.seq ?_
  have hn:=tI (p.took [45]) 0 (gY hg) (by decide)
  refine oS.ro hT hW (fun|9=>some (.gen ⟨[(0,0)],[],[],eR (aG 0 (p.took [45])).2,.d (aC (aG 0 (p.took [45])).1)⟩)|_=>none) ?_
  simp
  refine⟨hn,?_⟩
  refine oS.ret ?_
  simp
  have e:=Ji h1
  exact aA [2] [(0,0)] (by decide) (by decide) (by simp[hp]) (by simp[e]) (by simp[e])
end
open Go.Proofs
section
attribute[local simp] oZ.cond Nd.d_eq nd_t nd_dr nd_td ndsD bJ eP eC
def iY(s:aR)(T:List Tk)(p:PS):List (Nat×aX):=[(0,.box false [.d (.str s),.d (.sl (T.map Tk.r)),.d (aC ((T.length:Int)- p.l.length)),.d (.bool (!decide (p.e=0))),.d (.bool (decide (p.e=5)))])]
attribute[local simp] iY
structure BZ(s:aR)(T:List Tk):Prop where
 hs:s.length≤1024
 ht:T.length≤1024
 hi:∀t∈T,RO s t
 hg:bH T
structure pX(T:List Tk)(p:PS):Prop where
 suf:p.l<:+T
 err:p.e=0∨p.e=2∨p.e=5
theorem pX.le{T:List Tk}{p:PS}(h:pX T p):p.l.length≤T.length:=h.suf.length_le
theorem pX.good{s:aR}{T:List Tk}{p:PS}(h:pX T p)(c:BZ s T):bH p.l:=fun t ht=>c.hg t (h.suf.mem ht)
theorem pX.fail{T:List Tk}{p:PS}{e:Int}(h:pX T p)(he:e=2∨e=5):pX T (p.fail e):=by
 refine⟨by rw[oO];exact h.suf,?_⟩
 unfold PS.fail
 split
 ·exact .inr he
 ·exact h.err
theorem pX.skip{T:List Tk}{p:PS}(h:pX T p):pX T p.skip:=⟨(List.tail_suffix _).trans h.suf,h.err⟩
theorem pX.took{T:List Tk}{p:PS}{w:aR}(h:pX T p):pX T (p.took w):=by
 unfold PS.took;split
 ·exact h.skip
 ·exact h
theorem pX.need{T:List Tk}{p:PS}{w:aR}(h:pX T p):pX T (p.need w):=by
 unfold PS.need;split
 ·exact h.skip
 ·exact h.fail (.inl rfl)
theorem pX.name{T:List Tk}{p:PS}(h:pX T p):pX T (aD p).2:=by
 unfold aD;split
 ·exact h.skip
 ·exact h.fail (.inl rfl)
theorem pX.local{T:List Tk}{p:PS}(h:pX T p):pX T (aM p).2:=by
 unfold aM;split
 ·exact h.skip
 ·exact h.fail (.inl rfl)
theorem pX.numeral{T:List Tk}{p:PS}{k:Int}(h:pX T p):pX T (aG k p).2:=by
 unfold aG;split
 ·exact h.fail (.inl rfl)
 ·split
  ·split
   ·exact h.fail (.inr rfl)
   ·exact h.skip
  ·exact h.fail (.inl rfl)
theorem pX.number{T:List Tk}{p:PS}(h:pX T p):pX T (aZ p).2:=by
 unfold aZ;split
 ·exact h.skip.numeral
 ·exact h.numeral
theorem pX.place{T:List Tk}{p:PS}(h:pX T p):pX T (aV p).2:=by
 unfold aV;split
 ·exact h.name.skip.name
 ·exact h.name
theorem pX.at{T:List Tk}{p:PS}{t:Tk}{r:List Tk}(h:pX T p)(hl:p.l=t::r):∃n:Nat,(T.length:Int)- p.l.length=n∧n<T.length∧T[n]? =some t∧t∈T:=by
 obtain⟨T0,rfl⟩:=h.suf
 refine⟨T0.length,by simp,?_,?_,?_⟩
 ·rw[hl];simp
 ·rw[hl];simp
 ·rw[hl];simp
set_option maxRecDepth 10000 in
theorem qN(s:aR)(T:List Tk)(p:PS)(c:BZ s T)(f:pX T p):qR Tryz.prog 191 [.bx 0 0] (iY s T p) (iY s T p) (.d (.str p.peek)):=by
 unfold iY
 have hle:=f.le
 refine qR.one Tryz.func191 (by kernel_rfl) (c:=_) rfl Tryz.ntmps191 (by simp) Tryz.results191 fun w0 X hp=>?_
 refine oS.sy ?_
 simp
 refine oS.seq ?_
 refine oS.seq ?_
 refine aF hT hW bI (lk [[],[0],[0,1],[0,1,2],[0,1,2,3],[0,1,2,3,4],[0,1,2,3,4,5],[0,1,2,3,4,5,6],[0,1,2,3,4,5,6,7],[0,1,2,3,4],[0,1,2,3,4,9],[0,1,2,3,4,9,10],[0,1,2,3,4,9,10,11],[0,1,2,3,4,9,10,11,12],[0,1,2,3,4,5,6,7,8,9,10,11,12,13],[0,1,2,3,4,5,6,7,8,9,10,11,12,13,14]]) (lk [[],[],[],[],[],[],[],[],[],[],[],[],[],[],[],[]]) (lk [[],[],[],[],[],[],[],[],[],[],[],[],[],[],[],[]]) (by kernel_rfl) (fun _=>none) (fun _=>⟨rfl,fun _ h=>h⟩) ?_
 simp
 refine aB ?_
 simp
 refine⟨fun g=>?_,fun g1 g2=>?_⟩
 ·refine oS.sy ?_
  simp
  refine oS.ret ?_
  simp
  have e:p.peek=[]:=jC (g.imp id fun z=>List.eq_nil_of_length_eq_zero (by omega))
  exact aA [2] [(0,0)] (by decide) (by decide) (by simp[hp]) (by simp[e]) (by simp)
 ·refine oS.skip ?_
  simp
  refine oS.seq ?_
  obtain⟨t,r,htr⟩:=List.exists_cons_of_ne_nil (l:=p.l) (fun e=>by rw[e]at g2;simp at g2)
  obtain⟨n,hn,hnl,hn2,hm⟩:=f.at htr
  obtain⟨a,ha,hal,hat⟩:=c.hi t hm
  refine mE (lQ [0] [(0,0)] (by decide) (by decide) (by simp[hp])) ?_
  simp
  refine aF hT hW bI (lk [[],[0],[0,1],[0,1,2],[],[4],[4,5],[4,5,6],[],[8],[8,9],[8,9,10],[4,5,6,7,8,9,10,11],[4,5,6,7,8,9,10,11,12],[4,5,6,7,8,9,10,11,12,13],[],[15],[15,16],[15,16,17],[],[19],[19,20],[19,20,21],[15,16,17,18,19,20,21,22],[15,16,17,18,19,20,21,22,23],[15,16,17,18,19,20,21,22,23,24],[0,1,2,3,4,5,6,7,8,9,10,11,12,13,14,15,16,17,18,19,20,21,22,23,24,25],[0,1,2,3,4,5,6,7,8,9,10,11,12,13,14,15,16,17,18,19,20,21,22,23,24,25,26]]) (lk [[],[],[],[],[],[],[],[],[],[],[],[],[],[],[],[],[],[],[],[],[],[],[],[],[],[],[],[]]) (lk [[],[],[],[],[],[],[],[],[],[],[],[],[],[],[],[],[],[],[],[],[],[],[],[],[],[],[],[]]) (by kernel_rfl) (fun _=>none) (fun _=>⟨rfl,fun _ h=>h⟩) ?_
  simp[hn,hn2,Tk.r,ha]
  refine⟨⟨hnl,by omega,by omega⟩,?_⟩
  refine oS.ret ?_
  simp
  exact aA [2] [(0,0)] (by decide) (by decide) (by simp[hp]) (by simp[Fe g1 htr,Kb,hat]) (by simp)
theorem AI{p:PS}:((p.fail 2).e=0)=False:=eq_false (pM (by decide))
theorem AJ{p:PS}:((p.fail 5).e=0)=False:=eq_false (pM (by decide))
theorem AK{p:PS}:((p.fail 2).e=5)=(p.e=5):=by
 unfold PS.fail;split
 ·rename_i h;simp[h]
 ·rfl
theorem PB{p:PS}(h:p.e=0):((p.fail 5).e=5)=True:=by unfold PS.fail;rw[if_pos h];simp
theorem Gc{p:PS}:p.skip.e=p.e:=rfl
attribute[local simp] AI AJ AK oO Gc
theorem wF{T:List Tk}{p:PS}(h:p.peek≠[]):(T.length:Int)- p.skip.l.length=(T.length:Int)- p.l.length+1:=by
 have:=sZ h
 omega
theorem NO{p:PS}(h:p.peek≠[]):p.e=0:=Classical.byContradiction fun q=>h (jC (.inl q))
theorem pX.pos{T:List Tk}{p:PS}(f:pX T p)(h:p.peek≠[]):0≤(T.length:Int)- p.l.length∧(T.length:Int)- p.l.length<T.length:=by
 have:=sZ h
 have:=f.le
 omega
theorem zV(s:aR)(T:List Tk)(p:PS)(c:BZ s T)(f:pX T p)(w:aR)(hw:w≠[]):qR Tryz.prog 233 [.bx 0 0,.d (.str w)] (iY s T p) (iY s T (p.took w)) (.d (.bool (p.is w))):=by
 unfold iY
 have hle:=f.le
 have htt:=c.ht
 refine qR.one Tryz.func233 (by kernel_rfl) (c:=_) rfl Tryz.ntmps233 (by simp) Tryz.results233 fun w0 X hp=>?_
 refine oS.sy ?_
 simp
 refine oS.seq ?_
 refine bY hT hW (fun|6=>some (.gen ⟨[(0,0)],[],[],iY s T p,.d (.str p.peek)⟩)|_=>none) ?_
 simp
 refine⟨qN s T p c f,?_⟩
 refine aB ?_
 simp
 refine⟨fun h1=>?_,fun h1=>?_⟩
 ·refine oS.sy ?_
  simp
  refine oS.ret ?_
  simp
  have hn:¬p.is w=true:=fun q=>h1 (fW.1 q).2
  exact aA [4] [(0,0)] (by decide) (by decide) (by simp[hp]) (by simp[hn]) (by simp[mH hn])
 ·refine oS.skip ?_
  simp
  refine oS.seq ?_
  have h1':p.peek≠[]:=fun e=>hw (by rw[←h1,e])
  have hsk:=wF (T:=T) h1'
  have hps:=f.pos h1'
  refine aL ?_
  simp
  refine⟨by omega,?_⟩
  refine oS.sy ?_
  simp
  refine oS.ret ?_
  simp
  have hn:p.is w=true:=fW.2 ⟨hw,h1⟩
  exact aA [4] [(0,0)] (by decide) (by decide) (by simp[hp]) (by simp[hn]) (by simp[cE hn,hsk])
theorem vC(s:aR)(T:List Tk)(p:PS)(c:BZ s T)(f:pX T p)(w:aR)(hw:w≠[]):qR Tryz.prog 193 [.bx 0 0,.d (.str w)] (iY s T p) (iY s T (p.need w)) (.tup []):=by
 unfold iY
 refine Au Tryz.func193 (by kernel_rfl) (c:=_) rfl Tryz.ntmps193 (by simp) Tryz.results193 fun w0 X hp=>?_
 refine bY hT hW (fun|6=>some (.gen ⟨[(0,0)],[],[],iY s T (p.took w),.d (.bool (p.is w))⟩)|_=>none) ?_
 simp
 refine⟨zV s T p c f w hw,?_⟩
 refine aB ?_
 simp
 refine⟨fun h0=>?_,fun h0=>?_⟩
 ·have en:=Hr h0
  refine aL ?_
  simp
  exact aA [] [(0,0)] (by decide) (by decide) (by simp[hp]) (by simp) (by simp[en])
 ·have en:=FY h0
  refine oS.skip ?_
  simp
  exact aA [] [(0,0)] (by decide) (by decide) (by simp[hp]) (by simp) (by simp[en])
theorem xV(s:aR)(T:List Tk)(p:PS)(c:BZ s T)(f:pX T p):qR Tryz.prog 192 [.bx 0 0] (iY s T p) (iY s T (aD p).2) (.d (.str (aD p).1)):=by
 unfold iY
 have hle:=f.le
 have htt:=c.ht
 have htl:=qM (f.good c)
 refine qR.one Tryz.func192 (by kernel_rfl) (c:=_) rfl Tryz.ntmps192 (by simp) Tryz.results192 fun w0 X hp=>?_
 refine oS.sy ?_
 simp
 refine bY hT hW (fun|5=>some (.gen ⟨[(0,0)],[],[],iY s T p,.d (.str p.peek)⟩)|_=>none) ?_
 simp
 refine⟨qN s T p c f,?_⟩
 refine oS.seq ?_
 refine bY hT hW (fun|7=>some<| .plain ⟨.d (.bool (kQ p.peek)),true⟩|_=>none) ?_
 simp
 refine⟨Je p.peek (by omega),?_⟩
 refine aB ?_
 simp
 refine⟨fun h2=>?_,fun h2=>?_⟩
 ·refine oS.sy ?_
  simp
  refine oS.sy ?_
  simp
  refine oS.ret ?_
  simp
  exact aA [2] [(0,0)] (by decide) (by decide) (by simp[hp]) (by simp[tH h2]) (by simp[tH h2])
 ·refine oS.skip ?_
  simp
  refine oS.seq ?_
  have h1':p.peek≠[]:=fun e=>by rw[e]at h2;cases h2
  have hsk:=wF (T:=T) h1'
  have hps:=f.pos h1'
  have hn:p.is p.peek=true:=fW.2 ⟨h1',rfl⟩
  refine aL ?_
  simp
  refine⟨by omega,?_⟩
  refine oS.sy ?_
  simp
  refine oS.ret ?_
  simp
  exact aA [2] [(0,0)] (by decide) (by decide) (by simp[hp]) (by simp[wE h2]) (by simp[wE h2,cE hn,hsk])
theorem PC{s:aR}(h:∀c∈s,aW c=true):0≤qG s:=by
 obtain⟨m,_,e⟩:=DJ s 0 h
 unfold qG
 have e':(m:Int)=s.foldl (fun n c=>10*n+((c.toNat:Int)- 48)) 0:=e
 omega
theorem LC{p:PS}(hg:bH p.l)(h:p.peek.take 1=[36]):2≤p.peek.length:=by
 have hn:p.peek≠[]:=fun e=>(by rw[e]at h;cases h)
 obtain⟨_,ht⟩:=uU hg hn
 obtain⟨e1,_⟩:=oA h
 rw[e1,nF,if_neg (by decide),if_pos rfl]at ht
 rw[e1]
 split at ht
 ·rename_i z
  have:=Ax (p.peek.drop 1)
  rw[List.length_cons]at ht⊢
  omega
 ·simp at ht
theorem Rh{w:aR}:w.take 1=[36]↔(1≤w.length∧(((w[0]?.getD 0).toNat:Int))=36):=by
 cases w with
 |nil=>simp
 |cons c r=>
  have:=JX (c:=c)
  simp[this]
theorem vD(s:aR)(T:List Tk)(p:PS)(c:BZ s T)(f:pX T p):qR Tryz.prog 282 [.bx 0 0] (iY s T p) (iY s T (aM p).2) (.d (.str (aM p).1)):=by
 unfold iY
 have hle:=f.le
 have htt:=c.ht
 have hll:=LC (f.good c)
 refine qR.one Tryz.func282 (by kernel_rfl) (c:=_) rfl Tryz.ntmps282 (by simp) Tryz.results282 fun w0 X hp=>?_
 refine oS.sy ?_
 simp
 refine bY hT hW (fun|5=>some (.gen ⟨[(0,0)],[],[],iY s T p,.d (.str p.peek)⟩)|_=>none) ?_
 simp
 refine⟨qN s T p c f,?_⟩
 refine oS.seq ?_
 refine oS.sy ?_
 simp
 refine⟨fun h=>by omega,?_⟩
 refine aB ?_
 simp
 refine⟨fun g=>?_,fun g1 g2=>?_⟩
 ·have g':¬p.peek.take 1=[36]:=fun q=>by have:=hll q;have:=(Rh.1 q).2;omega
  refine oS.sy ?_
  simp
  refine oS.sy ?_
  simp
  refine oS.ret ?_
  simp
  exact aA [2] [(0,0)] (by decide) (by decide) (by simp[hp]) (by simp[rB g']) (by simp[rB g'])
 ·have g':p.peek.take 1=[36]:=Rh.2 ⟨by omega,g2⟩
  refine oS.skip ?_
  simp
  refine oS.seq ?_
  have h1':p.peek≠[]:=fun e=>by rw[e]at g';cases g'
  have hsk:=wF (T:=T) h1'
  have hps:=f.pos h1'
  have hn:p.is p.peek=true:=fW.2 ⟨h1',rfl⟩
  refine aL ?_
  simp
  refine⟨by omega,?_⟩
  refine oS.sy ?_
  simp
  refine⟨by omega,?_⟩
  refine oS.ret ?_
  simp
  exact aA [2] [(0,0)] (by decide) (by decide) (by simp[hp]) (by simp[(oA g').2]) (by simp[(oA g').2,cE hn,hsk])
theorem uC(s:aR)(T:List Tk)(p:PS)(c:BZ s T)(f:pX T p)(k lo hi:Int)(hlo:fF k=lo∨(fF k≤0∧lo=0))(hhi:fH k=hi):qR Tryz.prog 195 [.bx 0 0,.d (aC lo),.d (aC hi)] (iY s T p) (iY s T (aG k p).2) (.d (aC (aG k p).1)):=by
 unfold iY
 have hle:=f.le
 have htt:=c.ht
 have htl:=qM (f.good c)
 refine qR.one Tryz.func195 (by kernel_rfl) (c:=_) rfl Tryz.ntmps195 (by simp) Tryz.results195 fun w0 X hp=>?_
 refine oS.sy ?_
 simp
 refine bY hT hW (fun|10=>some (.gen ⟨[(0,0)],[],[],iY s T p,.d (.str p.peek)⟩)|_=>none) ?_
 simp
 refine⟨qN s T p c f,?_⟩
 refine oS.seq ?_
 refine oS.seq ?_
 have hd:=vA p.peek 0 (by omega)
 refine oS.ro hT hW (fun|12=>some<| .plain ⟨.d (.bool (dE aW p.peek)),true⟩|_=>none) ?_
 simp
 refine⟨by simpa using hd,?_⟩
 refine aB ?_
 simp
 refine⟨fun h2=>?_,fun h2=>?_⟩
 ·have g:p.peek=[]∨aW (p.peek[0]?.getD 0)=false:=by cases e:p.peek with|nil=>exact .inl rfl|cons a r=>rw[e]at h2;exact .inr h2
  refine oS.sy ?_
  simp
  refine oS.sy ?_
  simp
  refine oS.ret ?_
  simp
  have e:=Ga (k:=k) g
  exact aA [6] [(0,0)] (by decide) (by decide) (by simp[hp]) (by simp[e]) (by simp[e])
 ·have g1:¬p.peek=[]:=fun e=>by rw[e]at h2;cases h2
  have g2:aW (p.peek[0]?.getD 0)=true:=by cases e:p.peek with|nil=>exact absurd e g1|cons a r=>rw[e]at h2;exact h2
  refine oS.skip ?_
  simp
  refine oS.seq ?_
  obtain⟨hl,hds⟩:=DK (uU (f.good c) g1) g2
  have hc:=Ly p.peek hl
  have hv0:=PC hds
  refine oS.ro hT hW (fun|18=>some<| .plain ⟨.d (aC (qG p.peek)),true⟩|_=>none) ?_
  simp
  refine⟨hc,?_⟩
  refine oS.seq ?_
  refine oS.sy ?_
  simp
  refine aB ?_
  simp
  refine⟨fun b=>?_,fun b1 b2=>?_⟩
  ·refine oS.sy ?_
   simp
   refine oS.sy ?_
   simp
   refine oS.sy ?_
   simp
   refine oS.ret ?_
   simp
   have e:=Gb (k:=k) g1 g2 (by omega)
   exact aA [6] [(0,0)] (by decide) (by decide) (by simp[hp]) (by simp[e]) (by simp[e,PB (NO g1)])
  ·refine oS.skip ?_
   simp
   refine oS.seq ?_
   have hsk:=wF (T:=T) g1
   have hps:=f.pos g1
   have hn:p.is p.peek=true:=fW.2 ⟨g1,rfl⟩
   refine aL ?_
   simp
   refine⟨by omega,?_⟩
   refine oS.sy ?_
   simp
   refine oS.ret ?_
   simp
   have e:=Jg (k:=k) g1 g2 (by omega)
   exact aA [6] [(0,0)] (by decide) (by decide) (by simp[hp]) (by simp[e]) (by simp[e,cE hn,hsk])
end
open Go.Proofs
section
attribute[local simp] oZ.cond Nd.d_eq nd_t nd_dr nd_td ndsD bJ eP qS eR eC
theorem Fg{p:PS}(h:(aD p).2.is [46]=true):aV p=(.mk 35 ((aD p).1++46::(aD ((aD p).2.took [46])).1) 0 [],(aD ((aD p).2.took [46])).2):=by
 rw[cE h];unfold aV;rw[if_pos h]
theorem Ca{p:PS}(h:(aD p).2.is [46]=false):aV p=(.mk 34 (aD p).1 0 [],(aD p).2.took [46]):=by
 have h':¬(aD p).2.is [46]=true:=by simp[h]
 rw[mH h'];unfold aV;rw[if_neg h']
theorem sG{p:PS}(h:bH p.l):(aD p).1.length≤17:=by
 unfold aD;split
 ·exact qM h
 ·simp
theorem Ht(p:PS)(hg:bH p.l):qR Tryz.prog 211 [.bx 0 0] (eR p) (eR (aV p).2) (.d (aV p).1.d):=by
 unfold eR
 refine qR.cell hT Tryz.func211 (by kernel_rfl) (c:=_) rfl Tryz.ntmps211 (by simp) Tryz.results211 fun w0 X hp=>?_
 refine oS.sy ?_
 simp
 refine bY hT hW (fun|5=>some (.gen ⟨[(0,0)],[],[],eR (aD p).2,.d (.str (aD p).1)⟩)|_=>none) ?_
 simp
 refine⟨AG p,?_⟩
 refine oS.seq ?_
 refine bY hT hW (fun|8=>some (.gen ⟨[(0,0)],[],[],eR ((aD p).2.took [46]),.d (.bool ((aD p).2.is [46]))⟩)|_=>none) ?_
 simp
 refine⟨oF (aD p).2 [46],?_⟩
 refine aB ?_
 simp
 refine⟨fun h2=>?_,fun h2=>?_⟩
 ·have l1:=sG hg
  have l2:=sG (p:=(aD p).2.took [46]) (gY (eI hg).2.1)
  refine aF hT hW bI (lk [[],[0],[0,1],[],[3],[0,1,2,3,4],[0,1,2,3,4,5],[0,1,2,3,4,5,6]]) (lk [[0],[0],[0],[],[],[],[],[]]) (lk [[],[],[],[],[0],[],[],[3]]) (by kernel_rfl) (fun|13=>some (.gen ⟨[(0,0)],[],[],eR (aD ((aD p).2.took [46])).2,.d (.str (aD ((aD p).2.took [46])).1)⟩)|_=>none) (by intro d;first|exact⟨rfl,fun _ h=>h⟩|(split<;>exact⟨rfl,fun _ h=>h⟩)) ?_
  simp
  refine⟨⟨⟨by omega,AG _⟩,by omega⟩,?_⟩
  refine oS.sy ?_
  simp
  refine oS.ret ?_
  simp
  have e:=Fg h2
  refine aU (x:=(aV p).1.d) (by simp[e]) ?_
  simp
  exact aA [0] [(0,0)] (by decide) (by decide) (by simp[hp]) (by simp) (by simp[e])
 ·refine oS.skip ?_
  simp
  refine oS.sy ?_
  simp
  refine oS.ret ?_
  simp
  have e:=Ca h2
  refine aU (x:=(aV p).1.d) (by simp[e]) ?_
  simp
  exact aA [0] [(0,0)] (by decide) (by decide) (by simp[hp]) (by simp) (by simp[e])
def Rz(o:aR×Int):DV:=.agg [.str o.1,aC o.2]
theorem Jj:pD 6 2 BA=zH.map Rz:=by kernel_rfl
def PD(p:PS)(lv:Int):List (Nat×aX):=[(0,.box false [.d (qS p.l),.d (aC p.e)]),(1,.box false [.d (aC lv)]),(2,.box false [.bx 0 0])]
def PE(p:PS)(lv:Int)(o:aR×Int):Bool:=decide (o.2=lv)&&decide (o.1=p.peek)
attribute[local simp] PD Rz
theorem QK(p:PS)(lv:Int)(o:aR×Int):qR Tryz.prog 269 [.d (Rz o),.bx 1 0,.bx 2 0] (PD p lv) (PD p lv) (.d (.bool (PE p lv o))):=by
 unfold PD
 refine qR.one Tryz.func269 (by kernel_rfl) (c:=_) rfl Tryz.ntmps269 (by simp) Tryz.results269 fun w0 X hp=>?_
 refine oS.sy ?_
 simp
 refine oS.seq ?_
 refine aF hT hW bI (lk [[],[0],[],[0,1,2],[0,1,2,3],[0,1,2,3,4],[0,1,2,3,4,5],[0,1,2,3,4],[0,1,2,3,4,7],[0,1,2,3,4,5,6,7,8],[0,1,2,3,4,5,6,7,8,9],[0,1,2,3,4,5,6,7,8,9,10]]) (lk [[],[],[],[],[],[0],[0],[],[],[],[],[]]) (lk [[],[],[],[],[],[],[],[],[0],[],[],[]]) (by kernel_rfl) (fun|13=>some (.gen ⟨[(0,0)],[],[],eR p,.d (.str p.peek)⟩)|_=>none) (by intro d;first|exact⟨rfl,fun _ h=>h⟩|(split<;>exact⟨rfl,fun _ h=>h⟩)) ?_
 simp
 refine⟨fun _=>qL p,?_⟩
 refine oS.ret ?_
 simp
 by_cases hq:o.2=lv
 ·exact aA [4] [(0,0),(1,1),(2,2)] (by decide) (by decide) (by simp[hp]) (by simp[hq,PE,Bool.beq_eq_decide_eq]) (by simp[hq])
 ·exact aA [4] [(0,0),(1,1),(2,2)] (by decide) (by decide) (by simp[hp]) (by simp[hq,PE]) (by simp[hq])
theorem Jk(p:PS)(lv:Int)(l:List (aR×Int)):qR Tryz.prog 268 [.d (.sl (l.map Rz)),.fn 269 [.bx 1 0,.bx 2 0]] (PD p lv) (PD p lv) (.d (aC (vY (PE p lv) l))):=by
 unfold PD
 refine qR.one Tryz.func268 (by kernel_rfl) (c:=_) rfl Tryz.ntmps268 (by simp) Tryz.results268 fun w0 X hp=>?_
 refine oS.len (t:=0) rfl fun hlen=>?_
 simp at hlen
 refine oS.sy ?_
 simp
 refine oS.seq ?_
 refine oS.sy ?_
 simp
 refine oS.block ?_
 refine cA (ι:=Nat) (fun i=>aY [(0,.d (.sl (l.map Rz))),(1,.fn 269 [.bx 1 0,.bx 2 0]),(7,.d (aC l.length)),(8,.d (aC i))]) (fun i=>aK [(0,.box false [.d (qS p.l),.d (aC p.e)]),(1,.box false [.d (aC lv)]),(2,.box false [.bx 0 0])]) (fun i=>i≤l.length∧Ph (PE p lv) l i) (fun i=>l.length-i) 0 (aA [0,1,7,8] [(0,0),(1,1),(2,2)] (by decide) (by decide) (by simp[hp]) (by simp) (by simp)) (⟨Nat.zero_le _,Ph.zero⟩) fun i hi2=>?_
 refine oS.sy ?_
 simp
 refine oS.seq ?_
 refine aB ?_
 simp
 refine⟨fun h2=>?_,fun h2=>?_⟩
 ·refine oS.skip ?_
  simp
  refine oS.seq ?_
  refine oS.block ?_
  refine oS.sy ?_
  simp
  refine oS.seq ?_
  have h2':i<l.length:=by omega
  have ho:=QK p lv l[i]
  refine oS.ro hT hW (fun|16=>some (.gen ⟨[(0,0),(1,1),(2,2)],[],[],PD p lv,.d (.bool (PE p lv l[i]))⟩)|_=>none) ?_
  simp[h2',bV]
  refine⟨ho,?_⟩
  refine aB ?_
  simp
  refine⟨fun h4=>?_,fun h4=>?_⟩
  ·refine oS.sy ?_
   simp
   refine oS.ret ?_
   simp
   exact aA [4] [(0,0),(1,1),(2,2)] (by decide) (by decide) (by simp[hp]) (by simp[Bk (hi2.2.found h2 h4)]) (by simp)
  ·refine oS.skip ?_
   simp
   refine aL ?_
   simp
   refine⟨by omega,?_⟩
   refine JK.mk (i+1) (aA [0,1,7,8] [(0,0),(1,1),(2,2)] (by decide) (by decide) (by simp[hp]) (by simp) (by simp)) ?_ ?_
   ·exact⟨h2,hi2.2.succ h2 h4⟩
   ·omega
 ·refine oS.exit ?_
  simp
  refine oS.sy ?_
  simp
  refine oS.ret ?_
  simp
  exact aA [4] [(0,0),(1,1),(2,2)] (by decide) (by decide) (by simp[hp]) (by simp[Bl (hi2.2.none (by omega))]) (by simp)
theorem NP(q:aR×Int→Bool):(List.range 6).find? (fun i=>q (zH.getD i ([],0)))=zH.findIdx? q:=by
 rw[show List.range 6=[0,1,2,3,4,5] from rfl]
 unfold zH
 simp only[List.find?_cons,List.findIdx?_cons,List.getD_cons_zero,List.getD_cons_succ,List.find?_nil,List.findIdx?_nil]
 cases q ([60],1)<;>cases q ([60,61],1)<;>cases q ([61,61],1)<;>cases q ([43],2)<;>cases q ([45],2)<;>cases q ([42],3)<;>rfl
theorem Kc(p:PS)(lv:Int):qH lv p.peek=vY (PE p lv) zH:=by
 unfold qH vY
 rw[←NP (PE p lv)]
 rfl
def PF(l:List (aR×Int)):List DV:=l.flatMap fun o=>[.str o.1,aC o.2]
theorem NQ:BA=PF zH:=by kernel_rfl
theorem Kd:∀(l:List (aR×Int)) (k:Nat) (h:k<l.length),(PF l)[k*2]?.getD default=.str l[k].1
 |o::l,0,_=>rfl
 |o::l,k+1,h=>by
  have ih:=Kd l k (by simpa using h)
  have e:PF (o::l)=.str o.1::aC o.2::PF l:=rfl
  rw[e,show(k+1)*2=k*2+1+1 by omega]
  exact ih
theorem qO{p:PS}{lv:Int}(h:0≤qH lv p.peek):BA[(qH lv p.peek).toNat*2]?.getD default=.str p.peek∧p.is p.peek=true∧qH lv p.peek<6:=by
 rw[Kc]at h⊢
 unfold vY at h⊢
 split at h
 ·rename_i i hi
  obtain⟨h1,h2,_⟩:=List.findIdx?_eq_some_iff_getElem.1 hi
  simp only[PE,Bool.and_eq_true,decide_eq_true_eq]at h2
  have hne:∀o∈zH,o.1≠[]:=by decide
  have hn:=hne _ (List.getElem_mem h1)
  rw[NQ,Int.toNat_natCast,Kd zH i h1,h2.2]
  rw[h2.2]at hn
  have:i<6:=h1
  exact⟨rfl,fW.2 ⟨hn,rfl⟩,by omega⟩
 ·omega
theorem tJ{p:PS}{lv:Int}(h:0≤qH lv p.peek):opP lv p=(qH lv p.peek,p.took p.peek):=by
 rw[cE (qO h).2.1];unfold opP;rw[if_pos h]
theorem zM{p:PS}{lv:Int}(h:qH lv p.peek<0):opP lv p=(qH lv p.peek,p):=by
 unfold opP;rw[if_neg (by omega)]
theorem AL(p:PS)(lv:Int):qR Tryz.prog 244 [.bx 0 0,.d (aC lv)] (eR p) (eR (opP lv p).2) (.d (aC (opP lv p).1)):=by
 unfold eR
 refine qR.one Tryz.func244 (by kernel_rfl) (c:=_) rfl Tryz.ntmps244 (by simp) Tryz.results244 fun w0 X hp=>?_
 refine oS.sy ?_
 simp
 refine oS.seq ?_
 have ho:=Jk p lv zH
 have hgl:=Bm
 rw[←Kc]at ho
 refine oS.ro hT hW (fun|8=>some (.gen ⟨[(0,0),(3,1),(2,2)],[],[],PD p lv,.d (aC (qH lv p.peek))⟩)|_=>none) ?_
 simp[Jj]
 refine⟨⟨by omega,ho⟩,?_⟩
 refine oS.seq ?_
 refine oS.sy ?_
 simp
 refine aB ?_
 simp
 refine⟨fun h2=>?_,fun h2=>?_⟩
 ·have eo:=tJ h2
  obtain⟨s1,s2,s3⟩:=qO h2
  refine aF hT hW bI (lk [[],[],[1],[1,2],[1,2,3],[0,1,2,3,4]]) (lk [[],[],[],[],[],[]]) (lk [[],[],[],[],[],[0]]) (by kernel_rfl) (fun|16=>some (.gen ⟨[(0,0)],[],[],eR (p.took p.peek),.d (.bool (p.is p.peek))⟩)|_=>none) (by intro d;first|exact⟨rfl,fun _ h=>h⟩|(split<;>exact⟨rfl,fun _ h=>h⟩)) ?_
  simp[s1]
  refine⟨⟨⟨⟨h2,s3⟩,by omega⟩,oF p p.peek⟩,?_⟩
  refine oS.sy ?_
  simp
  refine oS.ret ?_
  simp
  exact aA [4] [(0,0)] (by decide) (by decide) (by simp[hp]) (by simp[eo]) (by simp[eo])
 ·have eo:=zM h2
  refine oS.skip ?_
  simp
  refine oS.sy ?_
  simp
  refine oS.ret ?_
  simp
  exact aA [4] [(0,0)] (by decide) (by decide) (by simp[hp]) (by simp[eo]) (by simp[eo])
end
open Go.Proofs
section
attribute[local simp] oZ.cond Nd.d_eq nd_t nd_dr nd_td ndsD bJ eP qS eR eC
structure qT(n:Nat)(g:FuncId)(x:PS→Nd×PS):Prop where
 ok:∀q:PS,q.l.length<n→bH q.l→qR Tryz.prog g [.bx 0 0] (eR q) (eR (x q).2) (.d (x q).1.d)
 le:∀q:PS,q.l.length<n→bH q.l→(x q).2.l.length≤q.l.length∧bH (x q).2.l
structure Sc where
 f:Nat
 n:Nd
 q:PS
theorem Bt{lv:Int}{x:PS→Nd×PS}{f:Nat}{n:Nd}{q:PS}(hf:q.l.length<f)(h:¬q.e=0):chainF lv x f n q=(n,q):=by
 obtain⟨k,rfl⟩:∃k,f=k+1:=⟨f-1,by omega⟩
 rw[chainF,if_pos h]
theorem zW{lv:Int}{x:PS→Nd×PS}{f:Nat}{n:Nd}{q:PS}(hf:q.l.length<f)(h:q.e=0)(ho:(opP lv q).1<0):chainF lv x f n q=(n,(opP lv q).2):=by
 obtain⟨k,rfl⟩:∃k,f=k+1:=⟨f-1,by omega⟩
 rw[chainF,if_neg (by simp[h]),if_pos ho]
theorem Hu{lv:Int}{x:PS→Nd×PS}{f:Nat}{n:Nd}{q:PS}(hf:q.l.length<f)(h:q.e=0)(ho:0≤(opP lv q).1):
 chainF lv x f n q=chainF lv x (f-1) (.mk (26+(opP lv q).1) [] 0 [n,(x (opP lv q).2).1]) (x (opP lv q).2).2:=by
 obtain⟨k,rfl⟩:∃k,f=k+1:=⟨f-1,by omega⟩
 rw[chainF,if_neg (by simp[h]),if_neg (by omega)]
 rfl
theorem CA{lv:Int}{q:PS}(ho:0≤(opP lv q).1):(opP lv q).2.l.length+1=q.l.length∧(opP lv q).1≤5:=by
 have h:0≤qH lv q.peek:=ho
 obtain⟨_,h2,h3⟩:=qO h
 rw[tJ h,cE h2]
 exact⟨iM h2,by simp only;omega⟩
theorem Hv(p:PS)(lv:Int)(x:PS→Nd×PS)(g:FuncId)(m:Nat)(hx:qT m g x)(hm:p.l.length<m)(hg:bH p.l):qR Tryz.prog 266 [.bx 0 0,.d (aC lv),.bm g [.bx 0 0]] (eR p) (eR (fK lv x p).2) (.d (fK lv x p).1.d):=by
 unfold eR
 refine qR.cell hT Tryz.func266 (by kernel_rfl) (c:=_) rfl Tryz.ntmps266 (by simp) Tryz.results266 fun w0 X hp=>?_
 refine oS.sy ?_
 simp
 refine oS.seq ?_
 have h1:=hx.ok p hm hg
 refine oS.ro hT hW (fun|10=>some (.gen ⟨[(0,0)],[],[],eR (x p).2,.d (x p).1.d⟩)|_=>none) ?_
 simp[bV]
 refine⟨by simpa using h1,?_⟩
 refine oS.seq ?_
 refine oS.block ?_
 refine cA (ι:=Sc) (fun⟨f,n,q⟩=>aY [(0,.bx 0 0),(1,.d (aC lv)),(2,.bm g [.bx 0 0]),(6,.bx 6 0),(7,.bx 7 0)]) (fun⟨f,n,q⟩=>aK [(0,.box false [.d (qS q.l),.d (aC q.e)]),(6,.box false [.d (aC 0),.d (.str []),.d (aC 0),.nl]),(7,.box false [.d (aC n.kind),.d (.str n.text),.d (aC n.n),.d (ndsD n.kids)])]) (fun⟨f,n,q⟩=>q.l.length<f∧bH q.l∧q.l.length≤p.l.length∧fK lv x p=chainF lv x f n q) (fun⟨f,n,q⟩=>q.l.length) ⟨(x p).2.l.length+1,(x p).1,(x p).2⟩ (aA [0,1,2,6,7] [(0,0),(6,6),(7,7)] (by decide) (by decide) (by simp[hp]) (by simp) (by simp)) (⟨Nat.lt_succ_self _,(hx.le p hm hg).2,(hx.le p hm hg).1,rfl⟩) fun⟨f,n,q⟩ hi2=>?_
 refine oS.seq ?_
 refine oS.sy ?_
 simp
 refine aB ?_
 simp
 refine⟨fun h2=>?_,fun h2=>?_⟩
 ·refine oS.skip ?_
  simp
  refine oS.block ?_
  refine oS.seq ?_
  have ho:=AL q lv
  refine oS.ro hT hW (fun|18=>some (.gen ⟨[(0,0)],[],[],eR (opP lv q).2,.d (aC (opP lv q).1)⟩)|_=>none) ?_
  simp
  refine⟨ho,?_⟩
  refine oS.seq ?_
  refine oS.sy ?_
  simp
  refine aB ?_
  simp
  refine⟨fun h4=>?_,fun h4=>?_⟩
  ·refine oS.exit ?_
   simp
   refine oS.sy ?_
   simp
   refine oS.ret ?_
   simp
   have e:fK lv x p=(n,(opP lv q).2):=by rw[hi2.2.2.2];exact zW hi2.1 h2 h4
   exact aA [0] [(0,0)] (by decide) (by decide) (by simp[hp]) (by simp[e]) (by simp[e])
  ·refine oS.skip ?_
   simp
   obtain⟨ol,or⟩:=CA h4
   have gg:=yT (lv:=lv) hi2.2.1
   have hc:=hx.ok (opP lv q).2 (by omega) gg.2
   refine aF hT hW bI (lk [[],[0],[],[],[3],[2,3,4],[0,1,2,3,4,5],[0,1,2,3,4,5,6]]) (lk [[0,26],[0,26],[0],[],[],[],[],[]]) (lk [[],[],[],[],[0],[26],[],[7]]) (by kernel_rfl) (fun|25=>some (.gen ⟨[(0,0)],[],[],eR (x (opP lv q).2).2,.d (x (opP lv q).2).1.d⟩)|_=>none) (by intro d;first|exact⟨rfl,fun _ h=>h⟩|(split<;>exact⟨rfl,fun _ h=>h⟩)) ?_
   simp[bV]
   refine⟨⟨⟨⟨by omega,by omega⟩,by simpa using hc⟩,by decide⟩,?_⟩
   refine zU (bN 7 [26] (fz:=false) (cs:=[.d (aC (26+(opP lv q).1)),.d (.str []),.d (aC 0),.ow 26 0 2]) (ds:=[aC (26+(opP lv q).1),.str [],aC 0,.sl [n.d,(x (opP lv q).2).1.d]]) (by simp) (by simp) (by simp) (by simp[aX.mut])) ?_
   simp
   refine JK.mk ⟨f-1,.mk (26+(opP lv q).1) [] 0 [n,(x (opP lv q).2).1],(x (opP lv q).2).2⟩ (aA [0,1,2,6,7] [(0,0),(6,6),(7,7)] (by decide) (by decide) (by simp[hp]) (by simp) (by simp)) ?_ ?_
   ·have le:=hx.le (opP lv q).2 (by omega) gg.2
    have i1:=hi2.1
    have i3:=hi2.2.2.1
    refine⟨?_,le.2,?_,?_⟩
    ·show(x (opP lv q).2).2.l.length<f-1
     omega
    ·show(x (opP lv q).2).2.l.length≤p.l.length
     omega
    ·rw[hi2.2.2.2];exact Hu hi2.1 h2 h4
   ·have le:=hx.le (opP lv q).2 (by omega) gg.2
    show(x (opP lv q).2).2.l.length<q.l.length
    omega
 ·refine oS.exit ?_
  simp
  refine oS.sy ?_
  simp
  refine oS.ret ?_
  simp
  have e:fK lv x p=(n,q):=by rw[hi2.2.2.2];exact Bt hi2.1 h2
  exact aA [0] [(0,0)] (by decide) (by decide) (by simp[hp]) (by simp[e]) (by simp[e])
end
end Go.Eng
