/- Part 10 of the proof. No condition. -/
import Derived.Test.YtjdlbidjlfllcaaGreatDoorMI
open Go.Proofs
open Go.Proofs.Tryz
set_option linter.unusedVariables false
set_option linter.unusedSimpArgs false
set_option maxRecDepth 20000
set_option maxHeartbeats 4000000
namespace Go.Eng
section
attribute[local simp] kP.cond Nd.d_eq nd_t nd_dr nd_td ndsD aZ bF
def AB(k:Int):Int:=if k=34 then 0 else if k=35 then 1 else if k=13\/k=14 then 5 else if k=17\/k=18 then 3 else if k=15\/k=16 then 2 else if k=22\/k=23 then 4 else -1
theorem Ye(k:Int):AB k=match JY k with|some f=>f|none=> -1:=by
 unfold AB;by_cases h0:k=34
 ·subst h0;rfl
 by_cases h1:k=35
 ·subst h1;rfl
 by_cases h2:k=13
 ·subst h2;rfl
 by_cases h3:k=14
 ·subst h3;rfl
 by_cases h4:k=17
 ·subst h4;rfl
 by_cases h5:k=18
 ·subst h5;rfl
 by_cases h6:k=15
 ·subst h6;rfl
 by_cases h7:k=16
 ·subst h7;rfl
 by_cases h8:k=22
 ·subst h8;rfl
 by_cases h9:k=23
 ·subst h9;rfl
 have e:JY k=none:=by unfold JY DU;simp[List.findIdx?_cons,h0,h1,h2,h3,h4,h5,h6,h7,h8,h9]
 rw[e];simp[h0,h1,h2,h3,h4,h5,h6,h7,h8,h9]
theorem PT(k:Int):Ok prog 86 [aI k] ⟨.d (aI (AB k)),true⟩:=by
 refine Ok.ret func86 bX (c:=_) rfl ntmps86 aM results86 (by intro _ h;cases h) λw0 X hp=>?_;apply aD;simp;apply dP;simp;apply aO;apply aV;simp;refine⟨λh2=>?_,λh2=>?_⟩
 ·apply aD;simp;apply aH;simp;unfold AB;simp_all
 ·apply aV;simp;refine⟨λh4=>?_,λh4=>?_⟩
  ·apply aD;simp;apply aH;simp;unfold AB;simp_all
  ·refine aX (ι:=Unit) (λi=>aR [(3,.d (aI k)),(8,.d (.bool (decide (k=13\/k=14))))]) (λi=>aL []) (λi=>True) ?_ λi hc8=>?_
   ·apply aV;simp;refine⟨λh6=>?_,λh6=>?_⟩
    ·apply aF;simp;exact(aA hp [3,8] [] (by simp[h6]))
    ·apply aK;simp;exact(aA hp [3,8] [] (by simp[h6]))
   ·apply aJ;simp;refine⟨λh8=>?_,λh8 h8'=>?_⟩
    ·apply aD;simp;apply aH;simp;unfold AB;simp_all
    ·refine aX (ι:=Unit) (λi=>aR [(3,.d (aI k)),(11,.d (.bool (decide (k=17\/k=18))))]) (λi=>aL []) (λi=>True) ?_ λi hc11=>?_
     ·apply aV;simp;refine⟨λh9=>?_,λh9=>?_⟩
      ·apply aF;simp;exact(aA hp [3,11] [] (by simp[h9]))
      ·apply aK;simp;exact(aA hp [3,11] [] (by simp[h9]))
     ·apply aJ;simp;refine⟨λh11=>?_,λh11 h11'=>?_⟩
      ·apply aD;simp;apply aH;simp;unfold AB;simp_all
      ·refine aX (ι:=Unit) (λi=>aR [(3,.d (aI k)),(14,.d (.bool (decide (k=15\/k=16))))]) (λi=>aL []) (λi=>True) ?_ λi hc14=>?_
       ·apply aV;simp;refine⟨λh12=>?_,λh12=>?_⟩
        ·apply aF;simp;exact(aA hp [3,14] [] (by simp[h12]))
        ·apply aK;simp;exact(aA hp [3,14] [] (by simp[h12]))
       ·apply aJ;simp;refine⟨λh14=>?_,λh14 h14'=>?_⟩
        ·apply aD;simp;apply aH;simp;unfold AB;simp_all
        ·refine aX (ι:=Unit) (λi=>aR [(3,.d (aI k)),(17,.d (.bool (decide (k=22\/k=23))))]) (λi=>aL []) (λi=>True) ?_ λi hc17=>?_
         ·apply aV;simp;refine⟨λh15=>?_,λh15=>?_⟩
          ·apply aF;simp;exact(aA hp [3,17] [] (by simp[h15]))
          ·apply aK;simp;exact(aA hp [3,17] [] (by simp[h15]))
         ·apply aJ;simp;refine⟨λh17=>?_,λh17 h17'=>?_⟩
          ·apply aD;simp;apply aH;simp;unfold AB;simp_all
          ·apply aF;simp;apply aD;simp;apply aH;simp;unfold AB;simp_all
theorem EV{c:UInt8}:∀{s:aY},c∉s->cutAt c s=none
 |[],_=>rfl
 |d::r,h=>by
  have h1:d≠c:=λe=>h (by rw[e];exact List.mem_cons_self ..);have h2:=EV (s:=r) (λhm=>h (List.mem_cons_of_mem _ hm));rw[cutAt,if_neg h1,h2];rfl
theorem Sy{s:aY}{i:Nat}(hi:i<s.length)(h:s[i]=46)(hn:(46:UInt8)∉s.take i):qM 46 s=s.take i/\qN 46 s=s.drop (i+1):=by
 have e:s=s.take i++46::s.drop (i+1):=by
  have:=List.take_append_drop i s;rw[List.drop_eq_getElem_cons hi,h]at this;exact this.symm
 have hc:cutAt 46 s=some (s.take i,s.drop (i+1)):=by
  conv=>lhs;rw[e]
  exact AR _ hn
 unfold qM qN;rw[hc];exact⟨rfl,rfl⟩
theorem VN{s:aY}(hn:(46:UInt8)∉s):qM 46 s=s/\qN 46 s=[]:=by
 unfold qM qN;rw[EV hn];exact⟨rfl,rfl⟩
theorem Yf(s:aY)(hl:s.length<=1000000000):Ok prog 87 [.str s] ⟨.tup [.d (.str (qM 46 s)),.d (.str (qN 46 s))],true⟩:=by
 refine Ok.two func87 bX (c:=_) rfl ntmps87 aM results87 rfl λw0 X hp=>?_;apply aD;simp;apply dP;simp;apply aO;refine aP (ι:=Nat) (λi=>aR [(0,.d (.str s)),(4,.d (aI (i:Nat)))]) (λi=>aL []) (λi=>i<=s.length/\(46:UInt8)∉s.take i) (λi=>s.length-i) 0 (aA hp [0,4] []) (⟨Nat.zero_le _,aM⟩) λi hi2=>?_;apply aG;apply aV;simp;refine⟨λh2=>?_,λh2=>?_⟩
 ·apply aF;simp;apply dG;apply aG;have hi:i<s.length:=aE;apply aK;simp[hi];apply aJ;simp;refine⟨λh4=>?_,λh4=>?_⟩
  ·have hb:s[i]=46:=UInt8.toNat_inj.1 (show s[i].toNat=46 by omega);have hcut:=Sy hi hb hi2.2;apply aG;refine eX.rd [] [] (λ_=>none) ?_;simp;refine⟨aE,?_⟩;apply aH;simp[hcut]
  ·have hne:s[i]≠46:=λe=>by rw[e]at h4;exact h4 rfl
   apply aF;simp;apply aK;simp;refine⟨aE,?_⟩;refine Pa.mk (i+1) (aA hp [0,4] []) ?_ ?_
   ·refine⟨aE,?_⟩;rw[List.take_succ_eq_append_getElem hi];intro hm;rcases List.mem_append.1 hm with hm|hm
    ·exact hi2.2 hm
    ·rw[List.mem_singleton]at hm;exact hne hm.symm
   ·omega
 ·apply bE;simp;apply aD;simp;apply aH;have e:i=s.length:=aE;have hn:=hi2.2;rw[e,List.take_length]at hn;simp[VN hn]
def cZ.r(u:cZ):DV:=.agg [aI u.bk,aI u.kind,.str u.name,.str u.field]
theorem PU{l:List cZ}{y:DV}(h:y∈l.map cZ.r):(aU y).length=4:=by obtain⟨u,_,rfl⟩:=List.mem_map.1 h;rfl
theorem Yg{l:List cZ}{k:Nat}:(∀y∈List.take k (List.map cZ.r l),(aU y).length=4)↔True:=iff_true_intro λ_ h=>PU (List.mem_of_mem_take h)
theorem Yh{l:List cZ}:(∀y∈List.map cZ.r l,(aU y).length=4)↔True:=iff_true_intro λ_ h=>PU h
theorem Yi{u:cZ}:(aU u.r).length=4:=rfl
attribute[local simp] Yg Yh Yi cZ.r
theorem Lf(k:Int)(t:aY):fH k t=if 0<=AB k then [⟨k,AB k,qM 46 t,qN 46 t⟩]else []:=by
 rw[Ye];unfold fH;cases h:JY k with
 |none=>rfl
 |some f=>
  have:0<=f:=by
   unfold JY at h;obtain⟨j,_,hj⟩:=Option.map_eq_some_iff.1 h;rw[<-hj];by_cases hl:j<sM.length
   ·rw[List.getD_eq_getElem?_getD,List.getElem?_eq_getElem hl,Option.getD_some];have:∀x∈sM,0<=x:=bC;exact this _ (List.getElem_mem hl)
   ·rw[List.getD_eq_getElem?_getD,List.getElem?_eq_none aE];exact Int.le_refl _
  simp[this]
theorem Og(x:Nd)(hw:weighN x<=1000000000)(ih:∀y∈x.kids,Ok prog 50 [y.d] ⟨.own 4 ((bK y).map cZ.r),true⟩):Ok prog 50 [x.d] ⟨.own 4 ((bK x).map cZ.r),true⟩:=by
 refine Ok.ret func50 bX (c:=_) rfl ntmps50 aM results50 (by intro _ h;cases h) λw0 X hp=>?_;have hwx:=weighN_eq x;have hkl:=weigh_len (l:=x.kids);have hun:=nL x;have hue:=usesN_eq x;have hfi:=Lf x.kind x.text;apply aD;simp;apply aD;simp;refine aX (ι:=Unit) (λi=>aR [(1,.bx 1 0),(3,.ow 3 0 (fH x.kind x.text).length)]) (λi=>aL [(1,.box false [.d (aI x.kind),.d (.str x.text),.d (aI x.n),.d (ndsD x.kids)]),(3,.row false 4 ((fH x.kind x.text).map cZ.r))]) (λi=>True) ?_ λi hc5=>?_
 ·refine cJ (λ|9=>some<| .plain ⟨.d (aI (AB x.kind)),true⟩|_=>none) ?_;simp;refine⟨PT x.kind,?_⟩;apply aJ;simp;refine⟨λh2=>?_,λh2=>?_⟩
  ·have hf1:=hfi;rw[if_pos h2]at hf1;apply aG;have kc:=Yf x.text aE;refine aQ (λ|14=>some<| .plain ⟨.tup [.d (.str (qM 46 x.text)),.d (.str (qN 46 x.text))],true⟩|_=>none) ?_;simp[bD];refine⟨kc,?_⟩;refine eX.rd [[22,26],[22],[22],[],[],[],[22],[22]] [[],[],[],[],[],[22],[],[],[],[26],[3,27]] (λ|22=>some<| .plain ⟨.d (aI (AB x.kind)),true⟩|_=>none) ?_;simp;refine⟨PT x.kind,?_⟩;exact(aA hp [1,3] [(1,1),(27,3)] (by simp[hf1]) (by simp[hf1]))
  ·have hf1:=hfi;rw[if_neg aE]at hf1;apply aF;simp;exact(aA hp [1,3] [(1,1),(3,3)] (by simp[hf1]) (by simp[hf1]))
 ·apply dP;simp;apply aO;refine aP (ι:=Nat) (λi=>aR [(1,.bx 1 0),(3,.ow 3 0 (fH x.kind x.text++eJ (x.kids.take i)).length),(6,.d (aI (i:Nat)))]) (λi=>aL [(1,.box false [.d (aI x.kind),.d (.str x.text),.d (aI x.n),.d (ndsD x.kids)]),(3,.row false 4 ((fH x.kind x.text++eJ (x.kids.take i)).map cZ.r))]) (λi=>i<=x.kids.length) (λi=>x.kids.length-i) 0 (aA hp [1,3,6] [(1,1),(3,3)] (by simp[eJ]) (by simp[eJ])) (Nat.zero_le _) λi hi6=>?_;apply aG;apply aV;simp;refine⟨λh6=>?_,λh6=>?_⟩
  ·apply aF;simp;apply dG;have hi:i<x.kids.length:=aE;obtain⟨y,hy⟩:∃y,x.kids[i]=y:=⟨_,rfl⟩;have hym:y∈x.kids:=by rw[<-hy];exact List.getElem_mem hi
   have ki:=ih y hym;have hsu:=usesL_succ hi;rw[hy]at hsu;have hle:(eJ (x.kids.take (i+1))).length<=1000000000:=by
    have h1:=Bs (x.kids.take (i+1));have h2:weighL (x.kids.take (i+1))+weighL (x.kids.drop (i+1))=weighL x.kids:=by rw[<-weighL_append,List.take_append_drop]
    omega
   rw[hsu,List.length_append]at hle;have htk:List.take ((fH x.kind x.text).length+(eJ (List.take i x.kids)).length) (List.map cZ.r (fH x.kind x.text)++List.map cZ.r (eJ (List.take i x.kids)))=List.map cZ.r (fH x.kind x.text)++List.map cZ.r (eJ (List.take i x.kids)):=List.take_of_length_le aM;have hh1:(fH x.kind x.text).length<=1:=by rw[hfi];split<;>simp
   refine aQ (λ|41=>some<| .plain ⟨.own 4 ((bK y).map cZ.r),true⟩|_=>none) ?_;simp[hi,hy];refine⟨⟨by simpa using ki,aE,aE⟩,?_⟩;apply aK;simp;refine⟨aE,?_⟩;refine Pa.mk (i+1) (aA hp [1,3,6] [(1,1),(42,3)] (by simp[hsu,Nat.add_assoc]) (by simp[hsu,htk])) ?_ ?_
   ·omega
   ·omega
  ·apply bE;simp;apply aD;simp;apply aH;have e:i=x.kids.length:=aE;have htk:List.take ((fH x.kind x.text).length+(eJ x.kids).length) (List.map cZ.r (fH x.kind x.text)++List.map cZ.r (eJ x.kids))=List.map cZ.r (fH x.kind x.text)++List.map cZ.r (eJ x.kids):=List.take_of_length_le aM;simp[hue,e,htk];rintro d (⟨a,_,rfl⟩|⟨a,_,rfl⟩) c hc<;>(simp at hc;rcases hc with rfl|rfl|rfl|rfl<;>rfl)
theorem Lg:∀(f:Nat) (x:Nd),weighN x<f->weighN x<=1000000000->Ok prog 50 [x.d] ⟨.own 4 ((bK x).map cZ.r),true⟩
 |0,_,h,_=>absurd h (Nat.not_lt_zero _)
 |f+1,x,h,hw=>Og x hw λy hy=>Lg f y (by have:=weighN_eq x;have:=weigh_mem hy;omega) (by have:=weighN_eq x;have:=weigh_mem hy;omega)
theorem EW(x:Nd)(hw:weighN x<=1000000000):Ok prog 50 [x.d] ⟨.own 4 ((bK x).map cZ.r),true⟩:=Lg _ x (Nat.lt_succ_self _) hw
theorem pK(l:List Df)(name:aY)(hl:l.length<=1000000):Ok prog 48 [eI l,.str name] ⟨.d (aI (lF l name)),true⟩:=by
 refine Ok.ret func48 bX (c:=_) rfl ntmps48 aM results48 (by intro _ h;cases h) λw0 X hp=>?_;apply aD;simp;apply dP;simp;apply aO;refine aP (ι:=Nat) (λi=>aR [(0,.d (eI l)),(1,.d (.str name)),(5,.d (aI (i:Nat)))]) (λi=>aL []) (λi=>i<=l.length/\Pj (λd=>decide (d.name=name)) l i) (λi=>l.length-i) 0 (aA hp [0,1,5] []) (⟨Nat.zero_le _,Pj.zero⟩) λi hi2=>?_;apply aG;apply aV;simp;refine⟨λh2=>?_,λh2=>?_⟩
 ·apply aF;simp;apply dG;apply aG;have hi:i<l.length:=aE;apply aK;simp[hi];apply aJ;simp;refine⟨λh4=>?_,λh4=>?_⟩
  ·apply aD;simp;apply aH;simp[lF,sI (hi2.2.found hi (by simpa using h4))]
  ·apply aF;simp;apply aK;simp;refine⟨aE,?_⟩;refine Pa.mk (i+1) (aA hp [0,1,5] []) ?_ ?_
   ·exact⟨aE,hi2.2.succ hi (by simpa using h4)⟩
   ·omega
 ·apply bE;simp;apply aD;simp;apply aH;simp[lF,sJ (hi2.2.none aE)]
theorem EX(x:Nd)(hw:weighN x<=1000000000):Ok prog 64 [x.d] ⟨.own 1 ((bM x).map .str),true⟩:=by
 refine Ok.ret func64 bX (c:=_) rfl ntmps64 aM results64 (by intro _ h;cases h) λw0 X hp=>?_;have hwx:=weighN_eq x;have hkl:=weigh_len (l:=x.kids);apply aD;simp;apply aD;simp;apply dP;simp;apply aO;refine aP (ι:=Nat) (λi=>aR [(1,.bx 1 0),(3,.ow 3 0 (gH (x.kids.take i)).length),(4,.d (aI (i:Nat)))]) (λi=>aL [(1,.box false [.d (aI x.kind),.d (.str x.text),.d (aI x.n),.d (ndsD x.kids)]),(3,.row false 1 ((gH (x.kids.take i)).map .str))]) (λi=>i<=x.kids.length) (λi=>x.kids.length-i) 0 (aA hp [1,3,4] [(1,1),(3,3)] (by simp[gH]) (by simp[gH])) (Nat.zero_le _) λi hi3=>?_;apply aG;apply aV;simp;refine⟨λh3=>?_,λh3=>?_⟩
 ·apply aF;simp;apply dG;apply aG;have hi:i<x.kids.length:=aE;obtain⟨k,hk⟩:∃k,x.kids[i]=k:=⟨_,rfl⟩;have hn:=Af hi;have hfl:=vS (x.kids.take i);rw[List.length_take]at hfl;rw[hk]at hn;apply aK;simp[hi,hk];apply aJ;simp;refine⟨λh5=>?_,λh5=>?_⟩
  ·simp only[if_pos h5]at hn;apply aK;simp[hi,hk];refine⟨aE,?_⟩;apply aK;simp;refine⟨aE,?_⟩;refine Pa.mk (i+1) (aA hp [1,3,4] [(1,1),(27,3)] (by simp[hn]) (by simp[hn])) ?_ ?_
   ·omega
   ·omega
  ·simp only[if_neg h5]at hn;apply aF;simp;apply aK;simp;refine⟨aE,?_⟩;refine Pa.mk (i+1) (aA hp [1,3,4] [(1,1),(3,3)] (by simp[hn]) (by simp[hn])) ?_ ?_
   ·omega
   ·omega
 ·apply bE;simp;apply aD;simp;apply aH;have he:i=x.kids.length:=aE;subst he;rw[List.take_length];simp[bM]
end
section
attribute[local simp] kP.cond Nd.d_eq nd_t nd_dr nd_td ndsD aZ bF bN
def oL(l:List Df)(d:Df)(i:Nat):Int:=
 if(parseS d.text).2.2≠0 then(parseS d.text).2.2
 else if(parseS d.text).1.text≠d.name then 11
 else if lF l d.name<(i:Int)then 7
 else if(bM (parseS d.text).1).Nodup then 0 else 7
theorem uJ{f:List aY}{k:Nat}(hk:k<f.length):(f.take (k+1)).Nodup↔(f.take k).Nodup/\f[k]∉f.take k:=by
 rw[List.take_succ_eq_append_getElem hk,List.nodup_append];constructor
 ·rintro⟨h1,_,h3⟩;exact⟨h1,λhm=>h3 _ hm _ aM rfl⟩
 ·rintro⟨h1,h2⟩;exact⟨h1,aM,λa ha b hb e=>h2 (by simp at hb;rw[<-hb,<-e];exact ha)⟩
theorem Oh{f:List aY}(h:f.Nodup)(k:Nat):(f.take k).Nodup:=h.sublist (List.take_sublist _ _)
theorem wD(s:aY):Ok prog 36 [.str s] ⟨.d (parseS s).1.d,false⟩:=by
 refine Ok.cell hT func36 bX (c:=_) rfl ntmps36 aM results36 (by intro _ h;cases h) λw0 X hp=>?_;obtain⟨P,hP⟩:∃P,parseS s=P:=⟨_,rfl⟩;have kp:=Bp s;rw[hP]at kp;obtain⟨x,hx⟩:∃x,P.1=x:=⟨_,rfl⟩;rw[hx]at kp;apply aD;simp;refine cJ (λ|8=>some<| .plain ⟨.tup [.d x.d,.d (aI P.2.1),.d (aI P.2.2)],false⟩|_=>none) ?_;simp[bD];refine⟨by simpa using kp,?_⟩;apply aD;simp;apply aH;simp[hP,hx]
theorem Sz(l:List Df)(i:Nat)(d:Df)(hi:l[i]? =some d)(hl:l.length<=1000000):Ok prog 29 [eI l,aI (i:Int)] ⟨.d (aI (oL l d i)),true⟩:=by
 refine Ok.ret func29 bX (c:=_) rfl ntmps29 aM results29 (by intro _ h;cases h) λw0 X hp=>?_;obtain⟨hil,hd⟩:=List.getElem?_eq_some_iff.1 hi;obtain⟨P,hP⟩:∃P,parseS d.text=P:=⟨_,rfl⟩;have kp:=Bp d.text;have hwt:=gR d.text;have hfl:=Az d.text;have hF:oL l d i=if P.2.2≠0 then P.2.2 else if P.1.text≠d.name then 11 else if lF l d.name<(i:Int)then 7 else if(bM P.1).Nodup then 0 else 7:=by unfold oL;rw[hP]
 rw[hP]at kp hwt hfl;obtain⟨x,hx⟩:∃x,P.1=x:=⟨_,rfl⟩;rw[hx]at kp hwt hF hfl;apply aD;simp;refine cJ (λ|16=>some<| .plain ⟨.tup [.d x.d,.d (aI P.2.1),.d (aI P.2.2)],false⟩|_=>none) ?_;simp[bD,hil,hd];refine⟨by simpa using kp,?_⟩;apply aG;apply aV;simp;refine⟨λh2=>?_,λh2=>?_⟩
 ·rw[if_pos h2]at hF;apply aD;simp;apply aH;simp[hF]
 ·rw[if_neg (by simpa using h2)]at hF;apply aF;simp;apply dZ;refine eX.rd [] [] (λ_=>none) ?_;simp[hil,hd];apply aJ;simp;refine⟨λh4=>?_,λh4=>?_⟩
  ·rw[if_pos (by simpa using h4)]at hF;apply aD;simp;apply aH;simp[hF]
  ·rw[if_neg (by simpa using h4)]at hF;apply aF;simp;apply dZ;have kx:=pK l d.name hl;refine aQ (λ|37=>some<| .plain ⟨.d (aI (lF l d.name)),true⟩|_=>none) ?_;simp[hil,hd];refine⟨by simpa using kx,?_⟩;apply aJ;simp;refine⟨λh6=>?_,λh6=>?_⟩
   ·rw[if_pos h6]at hF;apply aD;simp;apply aH;simp[hF]
   ·rw[if_neg aE]at hF;apply aF;simp;apply aG;have kf:=EX x hwt;refine aQ (λ|41=>some<| .plain ⟨.own 1 ((bM x).map .str),true⟩|_=>none) ?_;simp;refine⟨by simpa using kf,?_⟩;apply dP;simp;apply aO;refine aP (ι:=Nat) (λk=>aR [(8,.ow 41 0 (bM x).length),(9,.d (aI (k:Nat)))]) (λk=>aL [(41,.row false 1 ((bM x).map .str))]) (λk=>k<=(bM x).length/\((bM x).take k).Nodup) (λk=>(bM x).length-k) 0 (aA hp [8,9] [(41,41)]) (⟨Nat.zero_le _,aM⟩) λk hi10=>?_;apply aG;apply aV;simp;refine⟨λh10=>?_,λh10=>?_⟩
    ·apply aF;simp;apply dG;apply aG;have hk:k<(bM x).length:=aE;have kin:=Bg ((bM x).take k) (bM x)[k];refine eX.rd [] [[],[],[],[],[],[],[],[55]] (λ|55=>some<| .plain ⟨.d (.bool (decide ((bM x)[k]∈(bM x).take k))),true⟩|_=>none) ?_;simp[hk];refine⟨⟨aE,by simpa using kin⟩,?_⟩;apply aJ;simp;refine⟨λh12=>?_,λh12=>?_⟩
     ·apply aD;simp;apply aH;rw[if_neg (λhn=>((uJ hk).1 (Oh hn (k+1))).2 h12)]at hF;simp[hF]
     ·apply aF;simp;apply aK;simp;refine⟨aE,?_⟩;refine Pa.mk (k+1) (aA hp [8,9] [(41,41)]) ?_ ?_
      ·exact⟨aE,(uJ hk).2 ⟨hi10.2,h12⟩⟩
      ·omega
    ·apply bE;simp;apply aD;simp;apply aH;have e:k=(bM x).length:=aE;have hn:=hi10.2;rw[e,List.take_length]at hn;rw[if_pos hn]at hF;simp[hF]
def gU(l:List aY)(s:aY):List aY:=if s∈l then l else fL (iZ (λy=>Op.bytesLess s y) l l.length) s l
theorem IF(l:List aY)(s:aY)(hl:l.length<=8000000000000):Ok prog 37 [fD l,.str s] ⟨.d (fD (gU l s)),false⟩:=by
 refine Ok.ret func37 bX (c:=_) rfl ntmps37 aM results37 (by intro _ h;cases h) λw0 X hp=>?_;apply aD;simp;apply dZ;have kin:=Bg l s;refine aQ (λ|8=>some<| .plain ⟨.d (.bool (decide (s∈l))),true⟩|_=>none) ?_;simp;refine⟨by simpa using kin,?_⟩;apply aJ;simp;refine⟨λh1=>?_,λh1=>?_⟩
 ·apply aD;simp;apply aH;have e:gU l s=l:=if_pos h1;simp[e]
 ·apply aF;simp;apply aD;simp;refine aX (ι:=Nat) (λk=>aR [(0,.d (fD l)),(1,.d (.str s)),(5,.d (aI (k:Nat)))]) (λk=>aL []) (λk=>k<=l.length/\Is (iZ (λy=>Op.bytesLess s y) l l.length) k) ?_ λk hc6=>?_
  ·apply aO;refine aP (ι:=Nat) (λk=>aR [(0,.d (fD l)),(1,.d (.str s)),(5,.d (aI (k:Nat)))]) (λk=>aL []) (λk=>k<=l.length/\iZ (λy=>Op.bytesLess s y) l l.length=iZ (λy=>Op.bytesLess s y) l k) (λk=>k) l.length (aA hp [0,1,5] []) (⟨Nat.le_refl _,rfl⟩) λk hi4=>?_;apply dZ;rcases k with _|k
   ·apply aK;simp[Nat.zero_le];apply aJ;simp[Nat.zero_le];apply bE;simp;refine Xj.mk 0 (aA hp [0,1,5] []) ?_;exact⟨Nat.zero_le _,hi4.2⟩
   ·have hk:k<l.length:=by have:=hi4.1;omega
    apply aK;simp[hk];refine⟨aE,?_⟩;apply aJ;simp;refine⟨λh4=>?_,λh4=>?_⟩
    ·apply aF;simp;apply aO;apply aK;simp;refine⟨aE,?_⟩;refine Pa.mk k (aA hp [0,1,5] []) ?_ ?_
     ·exact⟨aE,hi4.2.trans (tM hk (by simpa using h4))⟩
     ·omega
    ·apply bE;simp;refine Xj.mk (k+1) (aA hp [0,1,5] []) ?_;exact⟨hi4.1,hi4.2.trans (nG λi' hi' hlt=>(by have e:i'=k:=aE;subst e;simpa using h4))⟩
  ·apply aG;refine eX.rd [[31],[25,31],[25,31],[25,31],[31],[25,29],[25,29],[],[25,29,31,32],[25,29,31,32],[25,29,31,32]] [[25],[],[],[],[25,29],[],[31],[29,32],[],[],[],[32,36]] (λ_=>none) ?_;simp;refine⟨aE,?_⟩;apply aH;obtain⟨hk,hr⟩:=hc6;have e:gU l s=fL k s l:=by unfold gU;rw[if_neg h1,show iZ (λy=>Op.bytesLess s y) l l.length=k from hr]
   have hrow:List.take (k+1+(l.length-k)) (List.take (k+1) (List.take k (List.take k (List.map DV.str l))++[DV.str s])++List.drop k (List.map DV.str l))=List.map DV.str (fL k s l):=by
    have h2:List.take (k+1) (List.take k (List.take k (List.map DV.str l))++[DV.str s])=List.take k (List.map DV.str l)++[DV.str s]:=by
     rw[List.take_take,Nat.min_self];exact List.take_of_length_le kF
    rw[h2,List.take_of_length_le kF];simp[fL]
   simp[e,Nat.min_eq_left hk,hrow]
end
section
attribute[local simp] kP.cond Nd.d_eq nd_t nd_dr nd_td ndsD aZ bF bN Yg Yh Yi cZ.r
def VO(l:List Df)(name:aY):Nd:=(parseS (l.getD (lF l name).toNat default).text).1
def p1(l:List Df)(u:cZ):Bool:=decide (lF l u.name<0)
def p2(l:List Df)(u:cZ):Bool:=decide ((VO l u.name).kind≠u.kind)
def p3(l:List Df)(u:cZ):Bool:=decide (u.kind=1/\u.field∉bM (VO l u.name))
def gJ(l:List Df)(us:List cZ):Int:=if us.any (p1 l)=true then 6 else if us.any (p2 l)=true then 12 else if us.any (p3 l)=true then 6 else 0
theorem CT{l:List Df}{name:aY}(h:0<=lF l name):∃i d,lF l name=((i:Nat):Int)/\l[i]? =some d/\VO l name=(parseS d.text).1:=by
 unfold lF at h;rw[sW]at h;cases q:l.findIdx? (λd=>decide (d.name=name))with
 |none=>rw[q]at h;simp[qP]at h
 |some i=>
  have hi:=(List.findIdx?_eq_some_iff_getElem.1 q).1;have e:lF l name=(i:Nat):=by unfold lF;rw[sW,q];rfl
  refine⟨i,l[i],e,List.getElem?_eq_getElem hi,?_⟩;unfold VO;rw[e,Int.toNat_natCast,List.getD_eq_getElem?_getD,List.getElem?_eq_getElem hi];rfl
theorem IG{us:List cZ}{p:cZ->Bool}{k:Nat}(hk:k<us.length)(h:p us[k]=true):us.any p=true:=List.any_eq_true.2 ⟨us[k],List.getElem_mem hk,h⟩
theorem Oi(l:List Df)(i:Nat)(d:Df)(hi:l[i]? =some d)(hl:l.length<=1000000):Ok prog 30 [eI l,aI (i:Int)] ⟨.d (aI (gJ l (bK (parseS d.text).1))),true⟩:=by
 refine Ok.ret func30 bX (c:=_) rfl ntmps30 aM results30 (by intro _ h;cases h) λw0 X hp=>?_;obtain⟨hil,hd⟩:=List.getElem?_eq_some_iff.1 hi;obtain⟨x,hx⟩:∃x,(parseS d.text).1=x:=⟨_,rfl⟩;have hwt:=gR d.text;have kt:=wD d.text;rw[hx]at hwt kt;rw[hx];obtain⟨us,hus⟩:∃us,bK x=us:=⟨_,rfl⟩;have kf:=EW x hwt;have hul:=nL x;rw[hus]at kf hul;rw[hus];apply aD;simp;refine cJ (λ|15=>some<| .plain ⟨.d x.d,false⟩|16=>some<| .plain ⟨.own 4 (us.map cZ.r),true⟩|_=>none) ?_;simp[hil,hd];refine⟨⟨by simpa using kt,by simpa using kf⟩,?_⟩;apply dP;simp;apply aO;refine aP (ι:=Nat) (λk=>aR [(0,.d (eI l)),(5,.ow 16 0 us.length),(6,.d (aI (k:Nat)))]) (λk=>aL [(16,.row false 4 (us.map cZ.r))]) (λk=>k<=us.length/\Pj (p1 l) us k) (λk=>us.length-k) 0 (aA hp [0,5,6] [(16,16)]) (⟨Nat.zero_le _,Pj.zero⟩) λk hi3=>?_;apply aG;apply aV;simp;refine⟨λh3=>?_,λh3=>?_⟩
 ·apply aF;simp;apply dG;apply aG;have hk:k<us.length:=aE;have kx:=pK l us[k].name hl;refine aQ (λ|29=>some<| .plain ⟨.d (aI (lF l us[k].name)),true⟩|_=>none) ?_;simp[hk];refine⟨by simpa using kx,?_⟩;apply aJ;simp;refine⟨λh5=>?_,λh5=>?_⟩
  ·apply aD;simp;apply aH;have e:gJ l us=6:=if_pos (IG hk (by simpa [p1]using h5));simp[e]
  ·apply aF;simp;apply aK;simp;refine⟨aE,?_⟩;refine Pa.mk (k+1) (aA hp [0,5,6] [(16,16)]) ?_ ?_
   ·exact⟨aE,hi3.2.succ hk (by simpa [p1]using h5)⟩
   ·omega
 ·apply bE;simp;apply dZ;have hP1:us.any (p1 l)=false:=hi3.2.any aE;have h0:∀(j:Nat) (h:j<us.length),0<=lF l us[j].name:=λj h=>by have:=hi3.2 j h aE;simp[p1]at this;exact this
  apply aK;simp;apply aO;refine aP (ι:=Nat) (λk=>aR [(0,.d (eI l)),(5,.ow 16 0 us.length),(7,.d (aI (k:Nat)))]) (λk=>aL [(16,.row false 4 (us.map cZ.r))]) (λk=>k<=us.length/\Pj (p2 l) us k) (λk=>us.length-k) 0 (aA hp [0,5,7] [(16,16)]) (⟨Nat.zero_le _,Pj.zero⟩) λk hi8=>?_;apply aG;apply aV;simp;refine⟨λh8=>?_,λh8=>?_⟩
  ·apply aF;simp;apply dG;apply aG;have hk:k<us.length:=aE;have kx:=pK l us[k].name hl;obtain⟨n,dn,hn,hdn,htA⟩:=CT (h0 k hk);have kt2:=wD dn.text;obtain⟨hnl,hdn'⟩:=List.getElem?_eq_some_iff.1 hdn;rw[hn]at kx;obtain⟨y,hy⟩:∃y,(parseS dn.text).1=y:=⟨_,rfl⟩;have hwy:=gR dn.text;rw[hy]at kt2 htA hwy;have hmx:(if(n:Int)<0 then(0:Int)else(n:Int))=(n:Int):=if_neg aE;refine eX.rd [[44],[],[],[],[],[],[],[],[],[],[],[],[],[],[44,49],[44,49],[44,49],[44,49],[44,49]] [[],[],[],[],[],[],[],[44],[],[],[],[],[49]] (λ|44=>some<| .plain ⟨.d (aI (n:Int)),true⟩|49=>some<| .plain ⟨.d y.d,false⟩|_=>none) ?_;simp[hk,hmx,hnl,hdn',rV];refine⟨⟨by simpa using kx,by simpa using kt2⟩,?_⟩;apply aJ;simp;refine⟨λh10=>?_,λh10=>?_⟩
   ·apply aD;simp;apply aH;have e:gJ l us=12:=by unfold gJ;rw[if_neg (by simp[hP1]),if_pos (IG hk (by simpa [p2,htA]using h10))]
    simp[e]
   ·apply aF;simp;apply aK;simp;refine⟨aE,?_⟩;refine Pa.mk (k+1) (aA hp [0,5,7] [(16,16)]) ?_ ?_
    ·exact⟨aE,hi8.2.succ hk (by simpa [p2,htA]using h10)⟩
    ·omega
  ·apply bE;simp;apply dZ;have hP2:us.any (p2 l)=false:=hi8.2.any aE;apply aK;simp;apply aO;refine aP (ι:=Nat) (λk=>aR [(0,.d (eI l)),(5,.ow 16 0 us.length),(8,.d (aI (k:Nat)))]) (λk=>aL [(16,.row false 4 (us.map cZ.r))]) (λk=>k<=us.length/\Pj (p3 l) us k) (λk=>us.length-k) 0 (aA hp [0,5,8] [(16,16)]) (⟨Nat.zero_le _,Pj.zero⟩) λk hi13=>?_;apply aG;apply aV;simp;refine⟨λh13=>?_,λh13=>?_⟩
   ·apply aF;simp;apply dG;apply aG;have hk:k<us.length:=aE;have kx:=pK l us[k].name hl;obtain⟨n,dn,hn,hdn,htA⟩:=CT (h0 k hk);have kt2:=wD dn.text;obtain⟨hnl,hdn'⟩:=List.getElem?_eq_some_iff.1 hdn;rw[hn]at kx;obtain⟨y,hy⟩:∃y,(parseS dn.text).1=y:=⟨_,rfl⟩;have hwy:=gR dn.text;rw[hy]at kt2 htA hwy;have hmx:(if(n:Int)<0 then(0:Int)else(n:Int))=(n:Int):=if_neg aE;refine aQ (λ|70=>some<| .plain ⟨.d (aI (n:Int)),true⟩|75=>some<| .plain ⟨.d y.d,false⟩|_=>none) ?_;simp[hk,hmx,hnl,hdn'];refine⟨⟨by simpa using kx,by simpa using kt2⟩,?_⟩;apply aG;by_cases hk1:us[k].kind=1
    rotate_left
    ·refine eX.rd [[],[],[],[],[],[],[],[],[],[84],[84],[84],[84],[84]] [[],[],[],[],[],[],[],[],[84],[],[],[],[],[],[90]] (λ_=>none) ?_;simp[hk,hk1];apply aJ;simp[hk,hk1];apply aF;simp;apply aK;simp;refine⟨aE,?_⟩;refine Pa.mk (k+1) (aA hp [0,5,8] [(16,16)]) ?_ ?_
     ·exact⟨aE,hi13.2.succ hk (by simp[p3,hk1])⟩
     ·omega
    ·have kfy:=EX y hwy;have kin:=Bg (bM y) us[k].field;refine eX.rd [[],[],[],[],[],[],[],[],[],[84],[84],[84],[84],[84]] [[],[],[],[],[],[],[],[],[84],[],[],[],[],[],[90]] (λ|84=>some<| .plain ⟨.own 1 ((bM y).map .str),true⟩|90=>some<| .plain ⟨.d (.bool (decide (us[k].field∈bM y))),true⟩|_=>none) ?_;simp[hk,hk1];refine⟨⟨by simpa using kfy,by simpa using kin⟩,?_⟩;apply aJ;simp;refine⟨λh16=>?_,λh16=>?_⟩
     ·apply aD;simp;apply aH;have e:gJ l us=6:=by unfold gJ;rw[if_neg (by simp[hP1]),if_neg (by simp[hP2]),if_pos (IG hk (by simp[p3,hk1,htA];simpa using h16))]
      simp[e]
     ·apply aF;simp;apply aK;simp;refine⟨aE,?_⟩;refine Pa.mk (k+1) (aA hp [0,5,8] [(16,16)]) ?_ ?_
      ·exact⟨aE,hi13.2.succ hk (by simp[p3,hk1,htA];simpa using h16)⟩
      ·omega
   ·apply bE;simp;apply aD;simp;apply aH;have hP3:us.any (p3 l)=false:=hi13.2.any aE;have e:gJ l us=0:=by unfold gJ;rw[if_neg (by simp[hP1]),if_neg (by simp[hP2]),if_neg (by simp[hP3])]
    simp[e]
end
section
attribute[local simp] kP.cond Nd.d_eq nd_t nd_dr nd_td ndsD aZ bF bN Yg Yh Yi cZ.r
def Lh(c:Bool)(k:Int):Bool:= !c||decide (k=14)
def lG(c:Bool)(st:List aY×List aY)(u:cZ):List aY×List aY:=if Lh c u.bk=true/\u.name∉st.1 then(gU st.1 u.name,st.2++[u.name])else st
def Oj(l:List Df)(c:Bool)(st:List aY×List aY)(nm:aY):List aY×List aY:=if lF l nm<0 then st else(bK (VO l nm)).foldl (lG c) st
def CC(l:List Df)(c:Bool):Nat->Nat->List aY×List aY->List aY
 |0,_,st=>st.1
 |f+1,n,st=>match st.2[n]? with
  |none=>st.1
  |some nm=>CC l c f (n+1) (Oj l c st nm)
def IH(l:List Df):List aY:=l.flatMap λd=>(bK (parseS d.text).1).map cZ.name
def mM(l:List Df)(name:aY)(c:Bool):List aY:=CC l c ((IH l).length+2) 0 ([],[name])
def FG(U out:List aY):Nat:=(U.filter λu=>decide (u∉out)).length
structure Ol(U:List aY)(st:List aY×List aY):Prop where
 room:st.1.length+FG U st.1<=U.length
 two:st.2.length=st.1.length+1
theorem VP{l:List aY}{s:aY}(h:s∉l):(gU l s).length=l.length+1:=by unfold gU;rw[if_neg h,oT]
theorem kO{l:List aY}{s x:aY}:x∈gU l s↔x=s\/x∈l:=by
 unfold gU;split
 ·rename_i h;exact⟨.inr,λhx=>hx.elim (λe=>e▸h) id⟩
 ·exact RH
theorem Yj{U out:List aY}{s:aY}(hs:s∈U)(h:s∉out):FG U (gU out s)<FG U out:=by
 unfold FG;exact yX (x:=s) (λy hy=>by simp[kO]at hy|-;exact hy.2) hs (by simpa using h) (by simp[kO])
theorem VQ{U:List aY}{c:Bool}{st:List aY×List aY}{u:cZ}(hu:u.name∈U)(h:Ol U st):Ol U (lG c st u)/\FG U (lG c st u).1+(lG c st u).2.length<=FG U st.1+st.2.length:=by
 unfold lG;split
 ·rename_i hc;have h1:=Yj hu hc.2;have h2:=VP hc.2;have h3:=h.room;have h4:=h.two;refine⟨⟨?_,?_⟩,?_⟩
  ·show(gU st.1 u.name).length+FG U (gU st.1 u.name)<=U.length;omega
  ·show(st.2++[u.name]).length=(gU st.1 u.name).length+1;rw[List.length_append,List.length_singleton];omega
  ·show FG U (gU st.1 u.name)+(st.2++[u.name]).length<=_;rw[List.length_append,List.length_singleton];omega
 ·exact⟨h,Nat.le_refl _⟩
theorem EY{α β:Type}{f:β->α->β}{l:List α}{k:Nat}{b:β}(hk:k<l.length):(l.take (k+1)).foldl f b=f ((l.take k).foldl f b) l[k]:=by
 rw[List.take_succ_eq_append_getElem hk,List.foldl_append];rfl
theorem Hd{l:List Df}{nm:aY}(h:0<=lF l nm):∀u∈bK (VO l nm),u.name∈IH l:=λu hu=>by
 obtain⟨i,d,_,hd,ht⟩:=CT h;rw[ht]at hu;exact List.mem_flatMap.2 ⟨d,List.mem_of_getElem? hd,List.mem_map.2 ⟨u,hu,rfl⟩⟩
theorem VR(l:List Df):(IH l).length<=l.length*1000000000:=by
 induction l with
 |nil=>exact Nat.le_refl _
 |cons d r ih=>
  unfold IH at*;rw[List.flatMap_cons,List.length_append,List.length_map,List.length_cons];have h1:=nL (parseS d.text).1;have h2:=gR d.text;omega
theorem CU(U:List aY):FG U []=U.length:=by unfold FG;rw[List.filter_eq_self.2 aM]
theorem Li(l:List Df)(name:aY)(c:Bool)(hl:l.length<=1000):Ok prog 31 [eI l,.str name,.bool c] ⟨.d (fD (mM l name c)),false⟩:=by
 refine Ok.ret func31 bX (c:=_) rfl ntmps31 aM results31 (by intro _ h;cases h) λw0 X hp=>?_;obtain⟨U,hU⟩:∃U,IH l=U:=⟨_,rfl⟩;have hUl:=VR l;rw[hU]at hUl;have hR:mM l name c=CC l c (U.length+2) 0 ([],[name]):=by rw[<-hU];rfl
 apply aD;simp;apply aD;simp;apply aD;simp;apply dP;simp;refine eD (iJ.close 7 (x:=.sl []) aM) ?_;simp;apply aO;refine aP (ι:=Nat×List aY×List aY) (λ⟨n,out,todo⟩=>aR [(0,.d (eI l)),(2,.d (.bool c)),(7,.d (fD out)),(8,.ow 14 0 todo.length),(9,.d (aI (n:Nat)))]) (λ⟨n,out,todo⟩=>aL [(14,.row false 1 (todo.map .str))]) (λ⟨n,out,todo⟩=>n<=todo.length/\Ol U (out,todo)/\∃f,FG U out+todo.length<f+n/\mM l name c=CC l c f n (out,todo)) (λ⟨n,out,todo⟩=>FG U out+todo.length-n) (0,[],[name]) (aA hp [0,2,7,8,9] [(14,14)]) (⟨Nat.zero_le _,⟨by simp[CU],rfl⟩,U.length+2,by rw[CU];simp,hR⟩) λ⟨n,out,todo⟩ hi4=>?_;obtain⟨hn1,hJ,f,hf,hE⟩:=hi4;have hr1:=hJ.room;have hr2:=hJ.two;dsimp only at hr1 hr2;apply aG;apply aV;simp;refine⟨λh4=>?_,λh4=>?_⟩
 ·apply aF;simp;apply dG;apply aG;have hn:n<todo.length:=aE;have kx:=pK l todo[n] aE;obtain⟨f',rfl⟩:∃f',f=f'+1:=⟨f-1,aE⟩;have hE':mM l name c=CC l c f' (n+1) (Oj l c (out,todo) todo[n]):=by rw[hE,CC];simp only[List.getElem?_eq_getElem hn]
  refine aQ (λ|26=>some<| .plain ⟨.d (aI (lF l todo[n])),true⟩|_=>none) ?_;simp[hn];refine⟨by simpa using kx,?_⟩;apply aG;apply aV;simp;refine⟨λh7=>?_,λh7=>?_⟩
  ·apply bE;simp;apply aK;simp;refine⟨aE,?_⟩;refine Pa.mk (n+1,out,todo) (aA hp [0,2,7,8,9] [(14,14)]) ?_ ?_
   ·refine⟨uD,hJ,f',uD,?_⟩;rw[hE'];unfold Oj;rw[if_pos h7]
   ·show FG U out+todo.length-(n+1)<FG U out+todo.length-n;omega
  ·obtain⟨m,d,hm,hdm,htA⟩:=CT (l:=l) (name:=todo[n]) aE;obtain⟨hml,hdm'⟩:=List.getElem?_eq_some_iff.1 hdm;obtain⟨y,hy⟩:∃y,(parseS d.text).1=y:=⟨_,rfl⟩;have kt:=wD d.text;have hwy:=gR d.text;rw[hy]at kt hwy htA;obtain⟨us,hus⟩:∃us,bK y=us:=⟨_,rfl⟩;have kf:=EW y hwy;have hul:=nL y;have haU:∀u∈us,u.name∈U:=λu hu=>by rw[<-hU];exact Hd (nm:=todo[n]) aE u (by rw[htA,hus];exact hu)
   rw[hus]at kf hul;have hN:Oj l c (out,todo) todo[n]=us.foldl (lG c) (out,todo):=by unfold Oj;rw[if_neg aE,htA,hus]
   apply aF;simp;refine cJ (λ|34=>some<| .plain ⟨.d y.d,false⟩|35=>some<| .plain ⟨.own 4 (us.map cZ.r),true⟩|_=>none) ?_;simp[hm,hml,hdm'];refine⟨⟨by simpa using kt,by simpa using kf⟩,?_⟩;apply aD;simp;apply aO;refine aP (ι:=Nat×List aY×List aY) (λ⟨k,out',todo'⟩=>aR [(0,.d (eI l)),(2,.d (.bool c)),(7,.d (fD out')),(8,.ow 14 0 todo'.length),(9,.d (aI (n:Nat))),(11,.ow 35 0 us.length),(12,.d (aI (k:Nat)))]) (λ⟨k,out',todo'⟩=>aL [(14,.row false 1 (todo'.map .str)),(35,.row false 4 (us.map cZ.r))]) (λ⟨k,out',todo'⟩=>k<=us.length/\todo.length<=todo'.length/\Ol U (out',todo')/\FG U out'+todo'.length<=FG U out+todo.length/\(out',todo')=(us.take k).foldl (lG c) (out,todo)) (λ⟨k,out',todo'⟩=>us.length-k) (0,out,todo) (aA hp [0,2,7,8,9,11,12] [(14,14),(35,35)]) (⟨Nat.zero_le _,Nat.le_refl _,hJ,Nat.le_refl _,rfl⟩) λ⟨k,out',todo'⟩ hi10=>?_;obtain⟨hk1,htl,hJ',hle',hfo⟩:=hi10;have hr1':=hJ'.room;have hr2':=hJ'.two;dsimp only at hr1' hr2';apply aG;apply aV;simp;refine⟨λh10=>?_,λh10=>?_⟩
   ·apply aF;simp;apply dG;apply aG;have hk:k<us.length:=aE;have kin:=Bg out' us[k].name;have hum:us[k].name∈U:=haU us[k] (List.getElem_mem hk);refine aQ (λ|59=>some<| .plain ⟨.d (.bool (decide (us[k].name∈out'))),true⟩|_=>none) ?_;simp[hk];refine⟨λ_=>by simpa using kin,?_⟩;apply aJ;simp;refine⟨λh12 h12'=>?_,λh12=>?_⟩
    ·have hcb:Lh c us[k].bk=true:=by unfold Lh;rcases h12 with h|h<;>simp[h]
     have hS:lG c (out',todo') us[k]=(gU out' us[k].name,todo'++[us[k].name]):=if_pos ⟨hcb,h12'⟩;have hJS:=VQ (c:=c) hum hJ';rw[hS]at hJS;apply aG;have kp:=IF out' us[k].name aE;refine aQ (λ|68=>some<| .plain ⟨.d (fD (gU out' us[k].name)),false⟩|_=>none) ?_;simp[hk];refine⟨by simpa using kp,?_⟩;apply aK;simp[hk];refine⟨aE,?_⟩;apply aK;simp;refine⟨aE,?_⟩;refine Pa.mk (k+1,gU out' us[k].name,todo'++[us[k].name]) (aA hp [0,2,7,8,9,11,12] [(76,14),(35,35)]) ?_ ?_
     ·refine⟨uD,by dsimp only;rw[List.length_append];omega,hJS.1,Nat.le_trans hJS.2 hle',?_⟩;rw[EY hk,<-hfo];exact hS.symm
     ·omega
    ·have hS:lG c (out',todo') us[k]=(out',todo'):=if_neg (by rintro⟨h1,h2⟩;unfold Lh at h1;simp at h1;exact h2 (h12 h1));apply aF;simp;apply aK;simp;refine⟨aE,?_⟩;refine Pa.mk (k+1,out',todo') (aA hp [0,2,7,8,9,11,12] [(14,14),(35,35)]) ?_ ?_
     ·refine⟨uD,htl,hJ',hle',?_⟩;rw[EY hk,<-hfo];exact hS.symm
     ·omega
   ·apply bE;simp;apply aK;simp;refine⟨aE,?_⟩;refine Pa.mk (n+1,out',todo') (aA hp [0,2,7,8,9] [(14,14)]) ?_ ?_
    ·have hks:k=us.length:=aE;rw[hks,List.take_length]at hfo;refine⟨uD,hJ',f',uD,?_⟩;show mM l name c=CC l c f' (n+1) (out',todo');rw[hE',hN,hfo]
    ·show FG U out'+todo'.length-(n+1)<FG U out+todo.length-n;omega
 ·apply bE;simp;apply aD;simp;apply aH;have e:n=todo.length:=aE;obtain⟨f',rfl⟩:∃f',f=f'+1:=⟨f-1,aE⟩;have hE':mM l name c=out:=by rw[hE,CC];simp only[List.getElem?_eq_none (show todo.length<=n by omega)]
  simp[hE']
end
section
attribute[local simp] kP.cond Nd.d_eq nd_t nd_dr nd_td ndsD aZ bF
def q1(l:List Df)(i:Nat):Bool:=decide (oL l (l.getD i default) i≠0)
def q2(l:List Df)(i:Nat):Bool:=decide (gJ l (bK (parseS (l.getD i default).text).1)≠0)
def q3(l:List Df)(i:Nat):Bool:=decide ((l.getD i default).name∈mM l (l.getD i default).name true)
def EZ(l:List Df):Int×Int:=match eK (q3 l) l.length with
 |some i=>((i:Int),13)
 |none=>((l.length:Int),0)
def Cm(l:List Df):Int×Int:=match eK (q2 l) l.length with
 |some i=>((i:Int),gJ l (bK (parseS (l.getD i default).text).1))
 |none=>EZ l
def Cn(l:List Df):Int×Int:=match eK (q1 l) l.length with
 |some i=>((i:Int),oL l (l.getD i default) i)
 |none=>Cm l
def qQ(l:List Df):Int×Int:=if 24<l.length then(0,4)else Cn l
theorem SA(l:List Df):Ok prog 9 [eI l] ⟨.tup [.d (aI (qQ l).1),.d (aI (qQ l).2)],true⟩:=by
 refine Ok.two func9 bX (c:=_) rfl ntmps9 aM results9 rfl λw0 X hp=>?_;refine eX.len (t:=0) rfl λhlen=>?_;simp at hlen;apply aD;simp;apply aG;apply aV;simp;refine⟨λh1=>?_,λh1=>?_⟩
 ·have hC:qQ l=(0,4):=if_pos aE;apply aD;simp;apply aH;simp[hC]
 ·have hC:qQ l=Cn l:=if_neg aE;apply aF;simp;apply dP;simp;apply aO;refine aP (ι:=Nat) (λi=>aR [(0,.d (eI l)),(4,.d (aI (i:Nat)))]) (λi=>aL []) (λi=>i<=l.length/\∀j<i,q1 l j=false) (λi=>l.length-i) 0 (aA hp [0,4] []) (⟨Nat.zero_le _,λj h=>absurd h (Nat.not_lt_zero _)⟩) λi hi4=>?_;apply aG;apply aV;simp;refine⟨λh4=>?_,λh4=>?_⟩
  ·apply aF;simp;apply dG;apply aG;have hi:i<l.length:=aE;obtain⟨d,hd⟩:∃d,l[i]=d:=⟨_,rfl⟩;have hgd:l.getD i default=d:=by rw[List.getD_eq_getElem?_getD,List.getElem?_eq_getElem hi,hd];rfl
   have kf:=Sz l i d (by rw[List.getElem?_eq_getElem hi,hd]) aE;refine aQ (λ|20=>some<| .plain ⟨.d (aI (oL l d i)),true⟩|_=>none) ?_;simp;refine⟨by simpa using kf,?_⟩;apply aV;simp;refine⟨λh7=>?_,λh7=>?_⟩
   ·have hf:=lY hi hi4.2 (by unfold q1;rw[hgd];simpa using h7);have hC1:Cn l=((i:Int),oL l d i):=by unfold Cn;rw[hf];simp only[hgd]
    apply aD;simp;apply aH;simp[hC,hC1]
   ·have hbad:q1 l i=false:=by unfold q1;rw[hgd];simpa using h7
    apply aF;simp;apply aK;simp;refine⟨aE,?_⟩;refine Pa.mk (i+1) (aA hp [0,4] []) ?_ ?_
    ·refine⟨aE,λj hj=>?_⟩;rcases Nat.lt_succ_iff_lt_or_eq.1 hj with hj|rfl
     ·exact hi4.2 j hj
     ·exact hbad
    ·omega
  ·apply bE;simp;apply dZ;have hn1:=lZ (p:=q1 l) (n:=l.length) λj hj=>hi4.2 j aE;have hC1:Cn l=Cm l:=by unfold Cn;rw[hn1]
   apply aK;simp;apply aO;refine aP (ι:=Nat) (λi=>aR [(0,.d (eI l)),(6,.d (aI (i:Nat)))]) (λi=>aL []) (λi=>i<=l.length/\∀j<i,q2 l j=false) (λi=>l.length-i) 0 (aA hp [0,6] []) (⟨Nat.zero_le _,λj h=>absurd h (Nat.not_lt_zero _)⟩) λi hi10=>?_;apply aG;apply aV;simp;refine⟨λh10=>?_,λh10=>?_⟩
   ·apply aF;simp;apply dG;apply aG;have hi:i<l.length:=aE;obtain⟨d,hd⟩:∃d,l[i]=d:=⟨_,rfl⟩;have hgd:l.getD i default=d:=by rw[List.getD_eq_getElem?_getD,List.getElem?_eq_getElem hi,hd];rfl
    have kf:=Oi l i d (by rw[List.getElem?_eq_getElem hi,hd]) aE;refine aQ (λ|33=>some<| .plain ⟨.d (aI (gJ l (bK (parseS d.text).1))),true⟩|_=>none) ?_;simp;refine⟨by simpa using kf,?_⟩;apply aV;simp;refine⟨λh13=>?_,λh13=>?_⟩
    ·have hf:=lY hi hi10.2 (by unfold q2;rw[hgd];simpa using h13);have hC2:Cm l=((i:Int),gJ l (bK (parseS d.text).1)):=by unfold Cm;rw[hf];simp only[hgd]
     apply aD;simp;apply aH;simp[hC,hC1,hC2]
    ·have hbad:q2 l i=false:=by unfold q2;rw[hgd];simpa using h13
     apply aF;simp;apply aK;simp;refine⟨aE,?_⟩;refine Pa.mk (i+1) (aA hp [0,6] []) ?_ ?_
     ·refine⟨aE,λj hj=>?_⟩;rcases Nat.lt_succ_iff_lt_or_eq.1 hj with hj|rfl
      ·exact hi10.2 j hj
      ·exact hbad
     ·omega
   ·apply bE;simp;apply dZ;have hn2:=lZ (p:=q2 l) (n:=l.length) λj hj=>hi10.2 j aE;have hC2:Cm l=EZ l:=by unfold Cm;rw[hn2]
    apply aK;simp;apply aO;refine aP (ι:=Nat) (λi=>aR [(0,.d (eI l)),(8,.d (aI (i:Nat)))]) (λi=>aL []) (λi=>i<=l.length/\∀j<i,q3 l j=false) (λi=>l.length-i) 0 (aA hp [0,8] []) (⟨Nat.zero_le _,λj h=>absurd h (Nat.not_lt_zero _)⟩) λi hi16=>?_;apply aG;apply aV;simp;refine⟨λh16=>?_,λh16=>?_⟩
    ·apply aF;simp;apply dG;apply aG;have hi:i<l.length:=aE;obtain⟨d,hd⟩:∃d,l[i]=d:=⟨_,rfl⟩;have hgd:l.getD i default=d:=by rw[List.getD_eq_getElem?_getD,List.getElem?_eq_getElem hi,hd];rfl
     have kr:=Li l d.name true aE;have kin:=Bg (mM l d.name true) d.name;refine eX.rd [[],[],[],[],[],[],[],[50],[50],[50],[50],[50]] [[],[],[],[],[],[],[50],[],[],[],[],[],[56]] (λ|50=>some<| .plain ⟨.d (fD (mM l d.name true)),false⟩|56=>some<| .plain ⟨.d (.bool (decide (d.name∈mM l d.name true))),true⟩|_=>none) ?_;simp[hi,hd];refine⟨⟨by simpa using kr,by simpa using kin⟩,?_⟩;apply aJ;simp;refine⟨λh18=>?_,λh18=>?_⟩
     ·have hf:=lY hi hi16.2 (by unfold q3;rw[hgd];simpa using h18);have hC3:EZ l=((i:Int),13):=by unfold EZ;rw[hf]
      apply aD;simp;apply aH;simp[hC,hC1,hC2,hC3]
     ·have hbad:q3 l i=false:=by unfold q3;rw[hgd];simpa using h18
      apply aF;simp;apply aK;simp;refine⟨aE,?_⟩;refine Pa.mk (i+1) (aA hp [0,8] []) ?_ ?_
      ·refine⟨aE,λj hj=>?_⟩;rcases Nat.lt_succ_iff_lt_or_eq.1 hj with hj|rfl
       ·exact hi16.2 j hj
       ·exact hbad
      ·omega
    ·apply bE;simp;apply aD;simp;apply aH;have hn3:=lZ (p:=q3 l) (n:=l.length) λj hj=>hi16.2 j aE;have hC3:EZ l=((l.length:Int),0):=by unfold EZ;rw[hn3]
     simp[hC,hC1,hC2,hC3]
end
section
attribute[local simp] kP.cond Nd.d_eq nd_t nd_dr nd_td ndsD aZ bF
theorem AC(a b:List Df)(ha:a.length<=1000000000000):Ok prog 14 [eI a,eI b] ⟨.d (.bool (decide (a=b))),true⟩:=by
 refine Ok.ret func14 bX (c:=_) rfl ntmps14 aM results14 (by intro _ h;cases h) λw0 X hp=>?_;apply aD;simp;apply aG;apply aV;simp;refine⟨λh1=>?_,λh1=>?_⟩
 ·apply aD;simp;apply aH;simp;exact λe=>h1 (by rw[e])
 ·apply aF;simp;apply dP;simp;apply aO;refine aP (ι:=Nat) (λi=>aR [(0,.d (eI a)),(1,.d (eI b)),(5,.d (aI (i:Nat)))]) (λi=>aL []) (λi=>i<=a.length/\a.take i=b.take i) (λi=>a.length-i) 0 (aA hp [0,1,5] []) (⟨Nat.zero_le _,rfl⟩) λi hi4=>?_;apply aG;apply aV;simp;refine⟨λh4=>?_,λh4=>?_⟩
  ·apply aF;simp;apply dG;apply aG;have hi:i<a.length:=aE;have hib:i<b.length:=aE;refine eX.rd [] [] (λ_=>none) ?_;simp[hi,hib];apply aJ;simp;refine⟨λh6=>?_,λh6=>?_⟩
   ·apply aD;simp;apply aH;simp;intro e;subst e;simp at h6
   ·apply aF;simp;apply aK;simp;refine⟨aE,?_⟩;refine Pa.mk (i+1) (aA hp [0,1,5] []) ?_ ?_
    ·refine⟨aE,?_⟩;rw[List.take_succ_eq_append_getElem hi,List.take_succ_eq_append_getElem hib,hi4.2,h6]
    ·omega
  ·apply bE;simp;apply aD;simp;apply aH;simp;have e:i=a.length:=aE;have:=hi4.2;rw[e,List.take_length]at this;have h1':a.length=b.length:=aE;rw[this,h1',List.take_length]
end
section
attribute[local simp] kP.cond Nd.d_eq nd_t nd_dr nd_td ndsD aZ bF bN
theorem sX(n:Int)(h1: -999<=n)(h2:n<=999):Ok prog 57 [aI n] ⟨.d (.str (itoaS n)),true⟩:=by
 refine Ok.ret func57 bX (c:=_) rfl ntmps57 aM results57 (by intro _ h;cases h) λw0 X hp=>?_;apply aD;simp;refine cJ (λ|4=>some<| .plain ⟨.d (.str (itoaS n)),true⟩|_=>none) ?_;simp;refine⟨jJ n h1 h2,?_⟩;apply aH;simp
def SB(word letter:aY)(i:Int)(text:aY):Df:=⟨letter++itoaS i,word++[32]++(letter++itoaS i)++text⟩
theorem VS(word letter:aY)(i:Int)(text:aY)(h1: -999<=i)(h2:i<=999)(hi:(itoaS i).length<=1000)(hw:word.length<=1000)(hle:letter.length<=1000)(ht:text.length<=1000000):Ok prog 142 [.str word,.str letter,aI i,.str text] ⟨.d (SB word letter i text).d,false⟩:=by
 refine Ok.cell hT func142 bX (c:=_) rfl ntmps142 aM results142 (by intro _ h;cases h) λw0 X hp=>?_;apply aD;simp;refine cJ (λ|12=>some<| .plain ⟨.d (.str (itoaS i)),true⟩|_=>none) ?_;simp;refine⟨⟨sX i h1 h2,aE⟩,?_⟩;apply aD;simp;refine⟨⟨⟨aE,aE⟩,aE⟩,?_⟩;apply aH;simp[SB,Df.d]
def qK(n:Nat)(b:Int)(i:Nat):Nat:=let k:=(i+(bH b (n:Int)).toNat)%n;if b.tmod 2≠0 then n-1-k else k
def oE(l:List Df)(b:Int):List Df:=(List.range l.length).map λi=>l.getD (qK l.length b i) default
theorem Om(l:List Df)(b:Int)(hl:l.length<=1000000)(h1: -9223372036854775808<=b)(h2:b<=9223372036854775807):Ok prog 55 [eI l,aI b] ⟨.own 2 ((oE l b).map Df.d),true⟩:=by
 refine Ok.ret func55 bX (c:=_) rfl ntmps55 aM results55 (by intro _ h;cases h) λw0 X hp=>?_;have htl:(oE l b).length=l.length:=by simp[oE]
 apply aD;simp;apply aD;simp;apply dP;simp;apply aO;refine aP (ι:=Nat) (λi=>aR [(0,.d (eI l)),(1,.d (aI b)),(5,.ow 5 0 i),(6,.d (aI (i:Nat)))]) (λi=>aL [(5,.row false 2 (((oE l b).take i).map Df.d))]) (λi=>i<=l.length) (λi=>l.length-i) 0 (aA hp [0,1,5,6] [(5,5)]) (Nat.zero_le _) λi hi3=>?_;apply aG;apply aV;simp;refine⟨λh3=>?_,λh3=>?_⟩
 ·apply aF;simp;apply dG;apply aG;have hi:i<l.length:=aE;have ka:=eL b (l.length:Int) h1 h2 aE;have kl:=dH b (l.length:Int) aE;obtain⟨m,hm⟩:∃m:Nat,bH b (l.length:Int)=(m:Int):=⟨(bH b (l.length:Int)).toNat,aE⟩;rw[hm]at ka kl;have hmod:((i:Int)+(m:Int)).tmod (l.length:Int)=(((i+m)%l.length:Nat):Int):=by rw[<-Int.natCast_add];rfl
  have hne:l≠[]:=λe=>by rw[e]at hi;simp at hi
  have hkl:(i+m)%l.length<l.length:=Nat.mod_lt _ aE;obtain⟨k,hk⟩:∃k,(i+m)%l.length=k:=⟨_,rfl⟩;rw[hk]at hmod hkl;have hti:qK l.length b i=if b.tmod 2≠0 then l.length-1-k else k:=by unfold qK;rw[hm];simp only[Int.toNat_natCast,hk]
  refine aQ (λ|18=>some<| .plain ⟨.d (aI (m:Int)),true⟩|_=>none) ?_;simp[hmod];refine⟨⟨⟨by simpa using ka,aE,aE⟩,hne⟩,?_⟩;refine aX (ι:=Unit) (λw=>aR [(0,.d (eI l)),(1,.d (aI b)),(5,.ow 5 0 i),(6,.d (aI (i:Nat))),(7,.d (aI ((qK l.length b i:Nat):Int)))]) (λw=>aL [(5,.row false 2 (((oE l b).take i).map Df.d))]) (λw=>True) ?_ λw hc8=>?_
  ·apply aV;simp;refine⟨λh6=>?_,λh6=>?_⟩
   ·have ht:qK l.length b i=l.length-1-k:=(by rw[hti,if_pos h6]);apply aK;simp;refine⟨⟨aE,aE⟩,?_⟩;exact(aA hp [0,1,5,6,7] [(5,5)] (by simp[ht,show(l.length:Int)- 1-(k:Int)=((l.length-1-k:Nat):Int)by omega]))
   ·have ht:qK l.length b i=k:=by rw[hti,if_neg (by simpa using h6)]
    apply aF;simp;exact(aA hp [0,1,5,6,7] [(5,5)] (by simp[ht]))
  ·have htn:qK l.length b i<l.length:=by rw[hti];split<;>omega
   obtain⟨x,hx⟩:∃x,l[qK l.length b i]=x:=⟨_,rfl⟩;have hns:(oE l b).take (i+1)=(oE l b).take i++[x]:=by
    rw[List.take_succ_eq_append_getElem aE];simp[oE,List.getElem?_eq_getElem htn,hx]
   have hnd:List.take (i+1) (List.map Df.d (oE l b))=List.take i (List.map Df.d (oE l b))++[x.d]:=(by rw[<-List.map_take,hns,List.map_append,List.map_take];rfl);apply aK;simp[htn,hx];refine⟨⟨aE,aE⟩,?_⟩;apply aK;simp;refine⟨aE,?_⟩;refine Pa.mk (i+1) (aA hp [0,1,5,6] [(37,5)] (hH:=by simp[hnd,List.take_take,Df.d])) ?_ ?_
   ·omega
   ·omega
 ·apply bE;simp;apply aD;simp;apply aH;have e:i=l.length:=aE;have htk:List.take l.length (List.map Df.d (oE l b))=List.map Df.d (oE l b):=List.take_of_length_le (by rw[List.length_map,htl];exact Nat.le_refl _);simp[e,htl,htk]
end
structure R3 where
 w:aY
 l:aY
 t:aY
def R3.d(r:R3):DV:=.agg [.str r.w,.str r.l,.str r.t]
def SC(i:Nat)(rows:List R3):List Df:=rows.map λr=>SB r.w r.l (i:Int) (lU r.t i)
def VT:List aY:=[[120,35,32,61,61,32,50],[49,32,60,61,32,120,35],[120,35,32,60,32,50],[120,35,32,61,61,32,51]]
def Fa:List aY:=[[97,99,113,117,105,114,101,32,97,35,59,32,97,99,113,117,105,114,101,32,98,35,59,32,114,101,108,101,97,115,101,32,98,35,59,32,114,101,108,101,97,115,101,32,97,35,59],[97,99,113,117,105,114,101,32,98,35,59,32,97,99,113,117,105,114,101,32,97,35,59,32,114,101,108,101,97,115,101,32,97,35,59,32,114,101,108,101,97,115,101,32,98,35,59]]
def VU:List aY:=[[36,97,32,60,32,36,98],[36,98,32,60,32,36,97]]
def Lj:List aY:=[[36,97,32,61,61,32,36,98],[36,97,32,43,32,36,98,32,60,32,51]]
def Fb:List aY:=[[],[32,119,114,105,116,101,32,102,35,32,55,59]]
def Lk:List aY:=[[32,123,32,99,104,101,99,107,32,115,104,97,114,101,100,32,61,61,32,48,59,32,115,104,97,114,101,100,32,61,32,49,59,32,125],[32,123,32,115,104,97,114,101,100,32,61,32,115,104,97,114,101,100,32,43,32,49,59,32,99,104,101,99,107,32,115,104,97,114,101,100,32,60,32,50,59,32,125]]
def Ll:List aY:=[[49],[36,97,32,61,61,32,48]]
def uA(v:Nat):aY:=VT.getD (v / 2%4) []
def iQ(v:Nat):aY:=Fa.getD (v%2) []
def uM(v:Nat):aY:=VU.getD (v / 2%2) []
def mT(v:Nat):aY:=Lj.getD (v / 2%2) []
def iR(v:Nat):aY:=Fb.getD (v%2) []
def mU(v:Nat):aY:=Lk.getD (v%2) []
def mV(v:Nat):aY:=Ll.getD (v / 9%2) []
def cI(v:Nat):Nat->List R3
 |0=>[⟨[118,97,114],[120],[32,61,32]++itoaS ((v%2:Nat):Int)++[59]⟩,⟨[99,104,97,110],[99],[32,49,59]⟩,⟨[112,114,111,99],[112],[32,123,32,120,35,32,61,32,120,35,32,43,32,49,59,32,115,101,110,100,32,99,35,32,49,59,32,125]⟩,⟨[116,101,115,116],[116],[32,123,32,103,111,32,112,35,59,32,120,35,32,61,32,120,35,32,43,32,49,59,32,114,101,99,118,32,99,35,32,36,97,59,32,99,104,101,99,107,32]++uA v++[59,32,125]⟩]
 |1=>[⟨[118,97,114],[120],[32,61,32]++itoaS ((v%2:Nat):Int)++[59]⟩,⟨[108,111,99,107],[109],[59]⟩,⟨[99,104,97,110],[99],[32,49,59]⟩,⟨[112,114,111,99],[112],[32,123,32,97,99,113,117,105,114,101,32,109,35,59,32,120,35,32,61,32,120,35,32,43,32,49,59,32,114,101,108,101,97,115,101,32,109,35,59,32,115,101,110,100,32,99,35,32,49,59,32,125]⟩,⟨[116,101,115,116],[116],[32,123,32,103,111,32,112,35,59,32,97,99,113,117,105,114,101,32,109,35,59,32,120,35,32,61,32,120,35,32,43,32,49,59,32,114,101,108,101,97,115,101,32,109,35,59,32,114,101,99,118,32,99,35,32,36,97,59,32,99,104,101,99,107,32]++uA v++[59,32,125]⟩]
 |2=>[⟨[99,104,97,110],[113],[32]++itoaS ((1+v%2:Nat):Int)++[59]⟩,⟨[112,114,111,99],[112],[32,123,32,115,101,110,100,32,113,35,32,49,59,32,115,101,110,100,32,113,35,32,50,59,32,125]⟩,⟨[116,101,115,116],[116],[32,123,32,103,111,32,112,35,59,32,114,101,99,118,32,113,35,32,36,97,59,32,114,101,99,118,32,113,35,32,36,98,59,32,99,104,101,99,107,32]++uM v++[59,32,125]⟩]
 |3=>[⟨[99,104,97,110],[114],[32,48,59]⟩,⟨[99,104,97,110],[99],[32,49,59]⟩,⟨[118,97,114],[120],[32,61,32,48,59]⟩,⟨[112,114,111,99],[112],[32,123,32,114,101,99,118,32,114,35,32,36,118,59,32,120,35,32,61,32,49,59,32,115,101,110,100,32,99,35,32,49,59,32,125]⟩,⟨[112,114,111,99],[111],[32,123,32,114,101,99,118,32,114,35,32,36,118,59,32,120,35,32,61,32,50,59,32,115,101,110,100,32,99,35,32,49,59,32,125]⟩,⟨[116,101,115,116],[116],[32,123,32,103,111,32,112,35,59,32,103,111,32,111,35,59,32,115,101,110,100,32,114,35,32,53,59,32,114,101,99,118,32,99,35,32,36,97,59,32,99,104,101,99,107,32,120,35,32,61,61,32]++itoaS ((1+v%2:Nat):Int)++[59,32,125]⟩]
 |4=>[⟨[108,111,99,107],[97],[59]⟩,⟨[108,111,99,107],[98],[59]⟩,⟨[99,104,97,110],[99],[32,49,59]⟩,⟨[112,114,111,99],[112],[32,123,32,97,99,113,117,105,114,101,32,98,35,59,32,97,99,113,117,105,114,101,32,97,35,59,32,114,101,108,101,97,115,101,32,97,35,59,32,114,101,108,101,97,115,101,32,98,35,59,32,115,101,110,100,32,99,35,32,49,59,32,125]⟩,⟨[116,101,115,116],[116],[32,123,32,103,111,32,112,35,59,32]++iQ v++[32,114,101,99,118,32,99,35,32,36,120,59,32,125]⟩]
 |5=>[⟨[99,104,97,110],[99],[32,49,59]⟩,⟨[112,114,111,99],[112],[32,123,32,100,114,97,119,32,36,97,32]++itoaS ((2+v%2:Nat):Int)++[59,32,115,101,110,100,32,99,35,32,36,97,59,32,125]⟩,⟨[116,101,115,116],[116],[32,123,32,103,111,32,112,35,59,32,100,114,97,119,32,36,98,32,50,59,32,114,101,99,118,32,99,35,32,36,97,59,32,99,104,101,99,107,32]++mT v++[59,32,125]⟩]
 |6=>[⟨[116,101,115,116],[116],[32,123,32,100,114,97,119,32,36,97,32,51,59,32,100,114,97,119,32,36,98,32,50,59,32,99,104,101,99,107,32,36,97,32,42,32,36,98,32,60,32]++itoaS ((1+v%3:Nat):Int)++[59,32,125]⟩]
 |7=>[⟨[116,101,115,116],[116],[32,123,32,110,111,119,32,36,97,59,32,115,108,101,101,112,32,50,59,32,110,111,119,32,36,98,59,32,99,104,101,99,107,32,36,98,32,45,32,36,97,32,60,32]++itoaS ((3+v%3:Nat):Int)++[59,32,125]⟩]
 |8=>[⟨[102,105,108,101],[102],[59]⟩,⟨[116,101,115,116],[116],[32,123,32,119,114,105,116,101,32,102,35,32,55,59]++iR v++[32,114,101,97,100,32,102,35,32,36,97,59,32,99,104,101,99,107,32,36,97,32,61,61,32,55,59,32,125]⟩]
 |9=>[⟨[116,101,115,116],[116],mU v⟩]
 |10=>[⟨[118,97,114],[120],[32,61,32,48,59]⟩,⟨[116,101,115,116],[116],[32,123,32,119,104,105,108,101,32,36,105,32,60,32]++itoaS ((1+v%3:Nat):Int)++[32,123,32,120,35,32,61,32,120,35,32,43,32,49,59,32,36,105,32,61,32,36,105,32,43,32,49,59,32,125,32,99,104,101,99,107,32,120,35,32,61,61,32,50,59,32,125]⟩]
 |11=>[⟨[116,101,115,116],[116],[32,123,32,105,102,32,107,105,110,100,32,61,61,32]++itoaS ((v%3:Nat):Int)++[32,123,32,100,114,97,119,32,36,97,32,50,59,32,99,104,101,99,107,32,36,97,32,61,61,32,48,59,32,125,32,125]⟩]
 |12=>[⟨[114,101,99],[103],[32,123,32,97,32,61,32,49,59,32,98,32,61,32,50,59,32,125]⟩,⟨[112,114,111,99],[104],[32,123,32,103,35,46,97,32,61,32,103,35,46,98,32,43,32,49,59,32,125]⟩,⟨[116,101,115,116],[116],[32,123,32,99,97,108,108,32,104,35,59,32,99,97,108,108,32,104,35,59,32,99,104,101,99,107,32,103,35,46,97,32,61,61,32]++itoaS ((2+v%3:Nat):Int)++[59,32,125]⟩]
 |_=>[⟨[116,101,115,116],[116],[32,123,32,100,114,97,119,32,36,97,32,50,59,32,105,102,32,36,97,32,123,32,97,108,108,111,99,32,53,59,32,115,108,101,101,112,32,50,59,32,110,111,119,32,36,98,59,32,125,32,101,108,115,101,32,123,32,97,108,108,111,99,32]++itoaS ((1+v%9:Nat):Int)++[59,32,125,32,99,104,101,99,107,32]++mV v++[59,32,125]⟩]
def gB(k i v:Nat):List Df:=SC i (cI v k)
def fO:Df:=⟨[115,104,97,114,101,100],[118,97,114,32,115,104,97,114,101,100,32,61,32,48,59]⟩
def SD(l:List Int)(st:List Df×Bool)(i:Nat):List Df×Bool:=
 let n:=(dQ l (1+i) 4096).toNat
 let out:=st.1++gB (n%14) i (n / 14)
 if n%14=9/\st.2=false then(out++[fO],true)else(out,st.2)
def xW(l:List Int):Nat:=1+(dQ l 0 3).toNat
def mN(l:List Int)(k:Nat):List Df×Bool:=(List.range k).foldl (SD l) ([],false)
def CD(l:List Int):List Df:=oE (mN l (xW l)).1 (dQ l 4 64)
section
attribute[local simp] kP.cond Nd.d_eq nd_t nd_dr nd_td ndsD aZ bF bN
theorem He(s:aY)(i:Nat):(lU s i).length=s.length:=by simp[lU]
theorem On(s:aY)(i:Nat)(hi:i<=9)(hs:s.length<=1000000000):Ok prog 143 [.str s,aI i] ⟨.d (.str (lU s i)),true⟩:=by
 refine Ok.ret func143 bX (c:=_) rfl ntmps143 aM results143 (by intro _ h;cases h) λw0 X hp=>?_;apply aD;simp;have iop:∀{op:Op} {d:Option Nat} {t:TypeId} {p:String} {af:Array Edge},nE ⟨d,op,t,p,af,none⟩ op d:=⟨rfl,rfl,rfl⟩;refine Rb hT bX bX bX bX (λw=>cP (w:=w) hT (t:=5) rfl) rfl rfl rfl iop iop iop iop iop iop iop iop iop iop iop iop iop iop iop iop iop iop iop iop iop iop iop iop iop iop (s:=s) (i:=i) aM aM hi hs ?_;simp
theorem ZO{l:List R3}{y:DV}(h:y∈l.map R3.d):(aU y).length=3:=by obtain⟨u,_,rfl⟩:=List.mem_map.1 h;rfl
theorem ZP{l:List R3}:(∀y∈List.map R3.d l,(aU y).length=3)↔True:=iff_true_intro λ_ h=>ZO h
theorem ZQ{u:R3}:(aU u.d).length=3:=rfl
attribute[local simp] ZP ZQ R3.d
theorem II(i:Nat)(r:List R3):(SC i r).length=r.length:=by simp[SC]
theorem ZR(i:Nat)(r:List R3)(hi:i<=9)(hl:r.length<=1000)(hr:∀x∈r,x.w.length<=1000/\x.l.length<=1000/\x.t.length<=1000000):Ok prog 90 [aI i,.sl (r.map R3.d)] ⟨.own 2 ((SC i r).map Df.d),true⟩:=by
 refine Ok.ret func90 bX (c:=_) rfl ntmps90 aM results90 (by intro _ h;cases h) λw0 X hp=>?_;apply aD;simp;apply aD;simp;apply dP;simp;apply aO;refine aP (ι:=Nat) (λk=>aR [(0,.d (aI (i:Nat))),(1,.d (.sl (r.map R3.d))),(5,.ow 5 0 k),(6,.d (aI (k:Nat)))]) (λk=>aL [(5,.row false 2 (((SC i r).take k).map Df.d))]) (λk=>k<=r.length) (λk=>r.length-k) 0 (aA hp [0,1,5,6] [(5,5)]) (Nat.zero_le _) λk hi3=>?_;apply aG;apply aV;simp;refine⟨λh3=>?_,λh3=>?_⟩
 ·apply aF;simp;apply dG;have hk:k<r.length:=aE;obtain⟨x,hx⟩:∃x,r[k]=x:=⟨_,rfl⟩;obtain⟨hw,hle,ht⟩:=hr x (hx▸List.getElem_mem hk);have kf:=On x.t i hi aE;have kd:=VS x.w x.l (i:Int) (lU x.t i) aE aE (by have:=cC (i:Int);omega) hw hle (by rw[He];omega);have hns:(SC i r).take (k+1)=(SC i r).take k++[SB x.w x.l (i:Int) (lU x.t i)]:=by
   rw[List.take_succ_eq_append_getElem (by rw[II];exact hk)];simp[SC,hx]
  have hnd:List.take (k+1) (List.map Df.d (SC i r))=List.take k (List.map Df.d (SC i r))++[(SB x.w x.l (i:Int) (lU x.t i)).d]:=by rw[<-List.map_take,hns,List.map_append,List.map_take];rfl
  refine eX.rd [[31,32,33],[31],[31],[31],[31],[31],[31],[31],[31],[31],[31],[31]] [[],[],[],[],[],[],[],[],[],[],[],[],[],[],[],[],[],[],[31],[32],[33],[5,34]] (λ|31=>some<| .plain ⟨.d (.str (lU x.t i)),true⟩|32=>some<| .plain ⟨.d (SB x.w x.l (i:Int) (lU x.t i)).d,false⟩|_=>none) ?_;simp[hk,hx];refine⟨⟨⟨by simpa using kf,by simpa using kd⟩,aE⟩,?_⟩;apply aK;simp;refine⟨aE,?_⟩;refine Pa.mk (k+1) (aA hp [0,1,5,6] [(34,5)] (hH:=by simp[hnd,List.take_take,Df.d])) ?_ ?_
  ·omega
  ·omega
 ·apply bE;simp;apply aD;simp;apply aH;have e:k=r.length:=aE;have htk:List.take r.length (List.map Df.d (SC i r))=List.map Df.d (SC i r):=List.take_of_length_le (by rw[List.length_map,II];exact Nat.le_refl _);simp[e,htk,II]
end
section
attribute[local simp] kP.cond Nd.d_eq nd_t nd_dr nd_td ndsD aZ bF bN ZP ZQ R3.d
theorem dA{L:List aY}{k b:Nat}(h:∀w∈L,w.length<=b):(L.getD k []).length<=b:=by
 rw[List.getD_eq_getElem?_getD];cases e:L[k]? with
 |none=>exact Nat.zero_le _
 |some w=>exact h w (List.mem_of_getElem? e)
theorem wE{L:List aY}{k:Nat}(h:k<L.length):(L.map DV.str)[k]?.getD default=.str (L.getD k []):=by
 rw[List.getElem?_map,List.getElem?_eq_getElem h];simp[List.getD_eq_getElem?_getD,h]
theorem PV:∀w∈VT,w.length<=60:=bC
theorem Hf:∀w∈Fa,w.length<=60:=bC
theorem PW:∀w∈VU,w.length<=60:=bC
theorem Lm:∀w∈Lj,w.length<=60:=bC
theorem Hg:∀w∈Fb,w.length<=60:=bC
theorem Ln:∀w∈Lk,w.length<=60:=bC
theorem Lo:∀w∈Ll,w.length<=60:=bC
theorem wF(v k:Nat):(cI v k).length<=6/\∀x∈cI v k,x.w.length<=1000/\x.l.length<=1000/\x.t.length<=1000:=by
 have i1:=cC ((v%2:Nat):Int);have i2:=cC ((1+v%2:Nat):Int);have i3:=cC ((2+v%2:Nat):Int);have i4:=cC ((v%3:Nat):Int);have i5:=cC ((1+v%3:Nat):Int);have i6:=cC ((2+v%3:Nat):Int);have i7:=cC ((3+v%3:Nat):Int);have i8:=cC ((1+v%9:Nat):Int);have l0:(uA v).length<=60:=dA PV;have l1:(iQ v).length<=60:=dA Hf;have l2:(uM v).length<=60:=dA PW;have l3:(mT v).length<=60:=dA Lm;have l4:(iR v).length<=60:=dA Hg;have l5:(mU v).length<=60:=dA Ln;have l6:(mV v).length<=60:=dA Lo;unfold cI;split<;>(simp only[List.forall_mem_cons,List.length_append,List.length_cons,List.length_nil,List.not_mem_nil,false_imp_iff,implies_true,and_true];(repeat' with_reducible apply And.intro)<;>omega)
theorem mO(k i v:Nat)(hi:i<=9):Ok prog 90 [aI i,.sl ((cI v k).map R3.d)] ⟨.own 2 ((gB k i v).map Df.d),true⟩:=
 ZR i (cI v k) hi (by have:=(wF v k).1;omega) λx hx=>by have:=(wF v k).2 x hx;omega
theorem Lp(k i v:Nat)(hk:k<6)(hi:i<=9)(hv:v<=1000000):Ok prog 89 [aI k,aI i,aI v] ⟨.own 2 ((gB k i v).map Df.d),true⟩:=by
 refine Ok.ret func89 bX (c:=_) rfl ntmps89 aM results89 (by intro _ h;cases h) λw0 X hp=>?_;obtain⟨m2,q2⟩:∃m:Nat,v%2=m:=⟨_,rfl⟩;obtain⟨m3,q3⟩:∃m:Nat,v%3=m:=⟨_,rfl⟩;obtain⟨m9,q9⟩:∃m:Nat,v%9=m:=⟨_,rfl⟩;obtain⟨m4,q4⟩:∃m:Nat,v / 2%4=m:=⟨_,rfl⟩;obtain⟨n2,g2⟩:∃m:Nat,v / 2%2=m:=⟨_,rfl⟩;obtain⟨n9,g9⟩:∃m:Nat,v / 9%2=m:=⟨_,rfl⟩;have e2:(v:Int).tmod 2=(m2:Int):=by rw[<-q2];rfl
 have e3:(v:Int).tmod 3=(m3:Int):=by rw[<-q3];rfl
 have e9:(v:Int).tmod 9=(m9:Int):=by rw[<-q9];rfl
 have e4:((v:Int) / 2).tmod 4=(m4:Int):=by rw[<-q4];rfl
 have d2:((v:Int) / 2).tmod 2=(n2:Int):=by rw[<-g2];rfl
 have d9:((v:Int) / 9).tmod 2=(n9:Int):=by rw[<-g9];rfl
 have b2:(v:Int) / 2<=v:=aE;have b9:(v:Int) / 9<=v:=aE;apply aD;simp;apply aG;obtain⟨two,htwo⟩:∃x,uA v=x:=⟨_,rfl⟩;have ltwo:two.length<=60:=by rw[<-htwo];exact dA PV
 have ctwo:=wE (L:=VT) (k:=m4) (by show _<4;omega);rw[show VT.getD m4 []=two by rw[<-htwo];simp only[uA,q2,q4,g2,g9]]at ctwo;simp[VT]at ctwo;apply aK;simp[e2,e3,e9,e4,d2,d9,ctwo];refine⟨by(repeat' with_reducible apply And.intro)<;>first|omega|rfl,?_⟩;apply aG;obtain⟨order,horder⟩:∃x,iQ v=x:=⟨_,rfl⟩;have lorder:order.length<=60:=by rw[<-horder];exact dA Hf
 have corder:=wE (L:=Fa) (k:=m2) (by show _<2;omega);rw[show Fa.getD m2 []=order by rw[<-horder];simp only[iQ,q2,q4,g2,g9]]at corder;simp[Fa]at corder;apply aK;simp[e2,e3,e9,e4,d2,d9,corder];refine⟨by(repeat' with_reducible apply And.intro)<;>first|omega|rfl,?_⟩;apply aG;obtain⟨row,hrow⟩:∃x,uM v=x:=⟨_,rfl⟩;have lrow:row.length<=60:=by rw[<-hrow];exact dA PW
 have crow:=wE (L:=VU) (k:=n2) (by show _<2;omega);rw[show VU.getD n2 []=row by rw[<-hrow];simp only[uM,q2,q4,g2,g9]]at crow;simp[VU]at crow;apply aK;simp[e2,e3,e9,e4,d2,d9,crow];refine⟨by(repeat' with_reducible apply And.intro)<;>first|omega|rfl,?_⟩;apply dP;simp;apply aO;apply aV;simp;refine⟨λh5=>?_,λh5=>?_⟩
 ·have ek:k=0:=aE;subst ek;apply aG;obtain⟨P,hP⟩:∃P,gB 0 i v=P:=⟨_,rfl⟩;have kf:=mO 0 i v hi;rw[hP]at kf;have kd:=sX ((m2:Nat):Int) aE aE;have il:=cC ((m2:Nat):Int);obtain⟨dg,hdg⟩:∃x,itoaS ((m2:Nat):Int)=x:=⟨_,rfl⟩;rw[hdg]at kd il;simp only[cI,q2,q3,q9,htwo,hdg]at kf;simp at kf kd;refine aQ (λ|33=>some<| .plain ⟨.d (.str dg),true⟩|44=>some<| .plain ⟨.own 2 (P.map Df.d),true⟩|_=>none) ?_;simp[e2,e3,e9,e4,d2,d9];refine⟨by(repeat' with_reducible apply And.intro)<;>first|omega|with_reducible assumption|rfl|simpa using kf,?_⟩;apply aH;simp[hP]
 ·apply aV;simp;refine⟨λh7=>?_,λh7=>?_⟩
  ·have ek:k=1:=aE;subst ek;apply aG;obtain⟨P,hP⟩:∃P,gB 1 i v=P:=⟨_,rfl⟩;have kf:=mO 1 i v hi;rw[hP]at kf;have kd:=sX ((m2:Nat):Int) aE aE;have il:=cC ((m2:Nat):Int);obtain⟨dg,hdg⟩:∃x,itoaS ((m2:Nat):Int)=x:=⟨_,rfl⟩;rw[hdg]at kd il;simp only[cI,q2,q3,q9,htwo,hdg]at kf;simp at kf kd;refine aQ (λ|50=>some<| .plain ⟨.d (.str dg),true⟩|62=>some<| .plain ⟨.own 2 (P.map Df.d),true⟩|_=>none) ?_;simp[e2,e3,e9,e4,d2,d9];refine⟨by(repeat' with_reducible apply And.intro)<;>first|omega|with_reducible assumption|rfl|simpa using kf,?_⟩;apply aH;simp[hP]
  ·apply aV;simp;refine⟨λh9=>?_,λh9=>?_⟩
   ·have ek:k=2:=aE;subst ek;apply aG;obtain⟨P,hP⟩:∃P,gB 2 i v=P:=⟨_,rfl⟩;have kf:=mO 2 i v hi;rw[hP]at kf;have kd:=sX ((1+m2:Nat):Int) aE aE;have il:=cC ((1+m2:Nat):Int);obtain⟨dg,hdg⟩:∃x,itoaS ((1+m2:Nat):Int)=x:=⟨_,rfl⟩;rw[hdg]at kd il;simp only[cI,q2,q3,q9,hrow,hdg]at kf;simp at kf kd;refine aQ (λ|69=>some<| .plain ⟨.d (.str dg),true⟩|79=>some<| .plain ⟨.own 2 (P.map Df.d),true⟩|_=>none) ?_;simp[e2,e3,e9,e4,d2,d9];refine⟨by(repeat' with_reducible apply And.intro)<;>first|omega|with_reducible assumption|rfl|simpa using kf,?_⟩;apply aH;simp[hP]
   ·apply aV;simp;refine⟨λh11=>?_,λh11=>?_⟩
    ·have ek:k=3:=aE;subst ek;apply aG;obtain⟨P,hP⟩:∃P,gB 3 i v=P:=⟨_,rfl⟩;have kf:=mO 3 i v hi;rw[hP]at kf;have kd:=sX ((1+m2:Nat):Int) aE aE;have il:=cC ((1+m2:Nat):Int);obtain⟨dg,hdg⟩:∃x,itoaS ((1+m2:Nat):Int)=x:=⟨_,rfl⟩;rw[hdg]at kd il;simp only[cI,q2,q3,q9,hdg]at kf;simp at kf kd;refine aQ (λ|91=>some<| .plain ⟨.d (.str dg),true⟩|96=>some<| .plain ⟨.own 2 (P.map Df.d),true⟩|_=>none) ?_;simp[e2,e3,e9,e4,d2,d9];refine⟨by(repeat' with_reducible apply And.intro)<;>first|omega|with_reducible assumption|rfl|simpa using kf,?_⟩;apply aH;simp[hP]
    ·apply aV;simp;refine⟨λh13=>?_,λh13=>?_⟩
     ·have ek:k=4:=aE;subst ek;apply aG;obtain⟨P,hP⟩:∃P,gB 4 i v=P:=⟨_,rfl⟩;have kf:=mO 4 i v hi;rw[hP]at kf;simp only[cI,q2,q3,q9,horder]at kf;simp at kf;refine aQ (λ|109=>some<| .plain ⟨.own 2 (P.map Df.d),true⟩|_=>none) ?_;simp[e2,e3,e9,e4,d2,d9];refine⟨by(repeat' with_reducible apply And.intro)<;>first|omega|with_reducible assumption|rfl|simpa using kf,?_⟩;apply aH;simp[hP]
     ·apply aF;simp;apply aG;have ek:k=5:=aE;subst ek;obtain⟨P,hP⟩:∃P,gB 5 i v=P:=⟨_,rfl⟩;have kf:=mO 5 i v hi;rw[hP]at kf;obtain⟨five,hfive⟩:∃x,mT v=x:=⟨_,rfl⟩;have lfive:five.length<=60:=by rw[<-hfive];exact dA Lm
      have cfive:=wE (L:=Lj) (k:=n2) (by show _<2;omega);rw[show Lj.getD n2 []=five by rw[<-hfive];simp only[mT,q2,q4,g2,g9]]at cfive;simp[Lj]at cfive;have kd:=sX ((2+m2:Nat):Int) aE aE;have il:=cC ((2+m2:Nat):Int);obtain⟨dg,hdg⟩:∃x,itoaS ((2+m2:Nat):Int)=x:=⟨_,rfl⟩;rw[hdg]at kd il;simp only[cI,q2,q3,q9,hfive,hdg]at kf;simp at kf kd;refine eX.rd [[115,119,128],[115,119],[119],[119],[119],[119],[119],[119],[119],[115],[115,119],[115,119],[115,119],[115],[115],[115],[115],[115]] [[],[],[],[],[],[115],[],[],[],[119],[],[],[],[],[],[],[],[],[128],[129]] (λ|115=>some<| .plain ⟨.d (.str dg),true⟩|129=>some<| .plain ⟨.own 2 (P.map Df.d),true⟩|_=>none) ?_;simp[e2,e3,e9,e4,d2,d9,cfive];refine⟨by(repeat' with_reducible apply And.intro)<;>first|omega|with_reducible assumption|rfl|simpa using kf,?_⟩;apply aH;simp[hP]
end
section
attribute[local simp] kP.cond Nd.d_eq nd_t nd_dr nd_td ndsD aZ bF bN ZP ZQ R3.d
theorem Lq(k i v:Nat)(hk:k<14)(hi:i<=9)(hv:v<=1000000):Ok prog 54 [aI k,aI i,aI v] ⟨.own 2 ((gB k i v).map Df.d),true⟩:=by
 refine Ok.ret func54 bX (c:=_) rfl ntmps54 aM results54 (by intro _ h;cases h) λw0 X hp=>?_;obtain⟨m2,q2⟩:∃m:Nat,v%2=m:=⟨_,rfl⟩;obtain⟨m3,q3⟩:∃m:Nat,v%3=m:=⟨_,rfl⟩;obtain⟨m9,q9⟩:∃m:Nat,v%9=m:=⟨_,rfl⟩;obtain⟨m4,q4⟩:∃m:Nat,v / 2%4=m:=⟨_,rfl⟩;obtain⟨n2,g2⟩:∃m:Nat,v / 2%2=m:=⟨_,rfl⟩;obtain⟨n9,g9⟩:∃m:Nat,v / 9%2=m:=⟨_,rfl⟩;have e2:(v:Int).tmod 2=(m2:Int):=by rw[<-q2];rfl
 have e3:(v:Int).tmod 3=(m3:Int):=by rw[<-q3];rfl
 have e9:(v:Int).tmod 9=(m9:Int):=by rw[<-q9];rfl
 have e4:((v:Int) / 2).tmod 4=(m4:Int):=by rw[<-q4];rfl
 have d2:((v:Int) / 2).tmod 2=(n2:Int):=by rw[<-g2];rfl
 have d9:((v:Int) / 9).tmod 2=(n9:Int):=by rw[<-g9];rfl
 have b2:(v:Int) / 2<=v:=aE;have b9:(v:Int) / 9<=v:=aE;apply aD;simp;apply dP;simp;apply aO;refine aX (ι:=Unit) (λc=>aR [(0,.d (aI (k:Nat))),(1,.d (aI (i:Nat))),(2,.d (aI (v:Nat))),(7,.d (aI (k:Nat))),(8,.d (.bool (decide (k<6))))]) (λc=>aL []) (λc=>True) ?_ λc hc8=>?_
 ·apply aV;simp;refine⟨λh2=>?_,λh2=>?_⟩
  ·apply aF;simp;exact(aA hp [0,1,2,7,8] [] (by simp[h2]))
  ·apply aV;simp;refine⟨λh3=>?_,λh3=>?_⟩
   ·apply aF;simp;exact(aA hp [0,1,2,7,8] [] (by simp[show k<6 by omega,h3]))
   ·apply aV;simp;refine⟨λh4=>?_,λh4=>?_⟩
    ·apply aF;simp;exact(aA hp [0,1,2,7,8] [] (by simp[show k<6 by omega,h4]))
    ·apply aV;simp;refine⟨λh5=>?_,λh5=>?_⟩
     ·apply aF;simp;exact(aA hp [0,1,2,7,8] [] (by simp[show k<6 by omega,h5]))
     ·apply aV;simp;refine⟨λh6=>?_,λh6=>?_⟩
      ·apply aF;simp;exact(aA hp [0,1,2,7,8] [] (by simp[show k<6 by omega,h6]))
      ·apply aK;simp;exact(aA hp [0,1,2,7,8] [] (by have e6:(k<6)=((k:Int)=5):=propext aE;simp[e6]))
 ·apply aJ;simp;refine⟨λh8=>?_,λh8=>?_⟩
  ·apply aG;have k6:k<6:=h8;obtain⟨P,hP⟩:∃P,gB k i v=P:=⟨_,rfl⟩;have kt:=Lp k i v k6 hi hv;rw[hP]at kt;refine aQ (λ|18=>some<| .plain ⟨.own 2 (P.map Df.d),true⟩|_=>none) ?_;simp;refine⟨kt,?_⟩;apply aH;simp[hP]
  ·apply aV;simp;refine⟨λh9=>?_,λh9=>?_⟩
   ·have ek:k=6:=aE;subst ek;apply aG;obtain⟨P,hP⟩:∃P,gB 6 i v=P:=⟨_,rfl⟩;have kf:=mO 6 i v hi;rw[hP]at kf;have kd:=sX ((1+m3:Nat):Int) aE aE;have il:=cC ((1+m3:Nat):Int);obtain⟨dg,hdg⟩:∃x,itoaS ((1+m3:Nat):Int)=x:=⟨_,rfl⟩;rw[hdg]at kd il;simp only[cI,q2,q3,q9,hdg]at kf;simp at kf kd;refine aQ (λ|25=>some<| .plain ⟨.d (.str dg),true⟩|30=>some<| .plain ⟨.own 2 (P.map Df.d),true⟩|_=>none) ?_;simp[e2,e3,e9,e4,d2,d9];refine⟨by(repeat' with_reducible apply And.intro)<;>first|omega|with_reducible assumption|rfl|simpa using kf,?_⟩;apply aH;simp[hP]
   ·apply aV;simp;refine⟨λh11=>?_,λh11=>?_⟩
    ·have ek:k=7:=aE;subst ek;apply aG;obtain⟨P,hP⟩:∃P,gB 7 i v=P:=⟨_,rfl⟩;have kf:=mO 7 i v hi;rw[hP]at kf;have kd:=sX ((3+m3:Nat):Int) aE aE;have il:=cC ((3+m3:Nat):Int);obtain⟨dg,hdg⟩:∃x,itoaS ((3+m3:Nat):Int)=x:=⟨_,rfl⟩;rw[hdg]at kd il;simp only[cI,q2,q3,q9,hdg]at kf;simp at kf kd;refine aQ (λ|37=>some<| .plain ⟨.d (.str dg),true⟩|42=>some<| .plain ⟨.own 2 (P.map Df.d),true⟩|_=>none) ?_;simp[e2,e3,e9,e4,d2,d9];refine⟨by(repeat' with_reducible apply And.intro)<;>first|omega|with_reducible assumption|rfl|simpa using kf,?_⟩;apply aH;simp[hP]
    ·apply aV;simp;refine⟨λh13=>?_,λh13=>?_⟩
     ·have ek:k=8:=aE;subst ek;apply aG;obtain⟨P,hP⟩:∃P,gB 8 i v=P:=⟨_,rfl⟩;have kf:=mO 8 i v hi;rw[hP]at kf;obtain⟨eight,height⟩:∃x,iR v=x:=⟨_,rfl⟩;have leight:eight.length<=60:=by rw[<-height];exact dA Hg
      have ceight:=wE (L:=Fb) (k:=m2) (by show _<2;omega);rw[show Fb.getD m2 []=eight by rw[<-height];simp only[iR,q2,q4,g2,g9]]at ceight;simp[Fb]at ceight;simp only[cI,q2,q3,q9,height]at kf;simp at kf;refine aQ (λ|56=>some<| .plain ⟨.own 2 (P.map Df.d),true⟩|_=>none) ?_;simp[e2,e3,e9,e4,d2,d9,ceight];refine⟨by(repeat' with_reducible apply And.intro)<;>first|omega|with_reducible assumption|rfl|simpa using kf,?_⟩;apply aH;simp[hP]
     ·apply aV;simp;refine⟨λh15=>?_,λh15=>?_⟩
      ·have ek:k=9:=aE;subst ek;apply aG;obtain⟨P,hP⟩:∃P,gB 9 i v=P:=⟨_,rfl⟩;have kf:=mO 9 i v hi;rw[hP]at kf;obtain⟨nine,hnine⟩:∃x,mU v=x:=⟨_,rfl⟩;have lnine:nine.length<=60:=by rw[<-hnine];exact dA Ln
       have cnine:=wE (L:=Lk) (k:=m2) (by show _<2;omega);rw[show Lk.getD m2 []=nine by rw[<-hnine];simp only[mU,q2,q4,g2,g9]]at cnine;simp[Lk]at cnine;simp only[cI,q2,q3,q9,hnine]at kf;simp at kf;refine aQ (λ|67=>some<| .plain ⟨.own 2 (P.map Df.d),true⟩|_=>none) ?_;simp[e2,e3,e9,e4,d2,d9,cnine];refine⟨by(repeat' with_reducible apply And.intro)<;>first|omega|with_reducible assumption|rfl|simpa using kf,?_⟩;apply aH;simp[hP]
      ·apply aV;simp;refine⟨λh17=>?_,λh17=>?_⟩
       ·have ek:k=10:=aE;subst ek;apply aG;obtain⟨P,hP⟩:∃P,gB 10 i v=P:=⟨_,rfl⟩;have kf:=mO 10 i v hi;rw[hP]at kf;have kd:=sX ((1+m3:Nat):Int) aE aE;have il:=cC ((1+m3:Nat):Int);obtain⟨dg,hdg⟩:∃x,itoaS ((1+m3:Nat):Int)=x:=⟨_,rfl⟩;rw[hdg]at kd il;simp only[cI,q2,q3,q9,hdg]at kf;simp at kf kd;refine aQ (λ|75=>some<| .plain ⟨.d (.str dg),true⟩|80=>some<| .plain ⟨.own 2 (P.map Df.d),true⟩|_=>none) ?_;simp[e2,e3,e9,e4,d2,d9];refine⟨by(repeat' with_reducible apply And.intro)<;>first|omega|with_reducible assumption|rfl|simpa using kf,?_⟩;apply aH;simp[hP]
       ·apply aV;simp;refine⟨λh19=>?_,λh19=>?_⟩
        ·have ek:k=11:=aE;subst ek;apply aG;obtain⟨P,hP⟩:∃P,gB 11 i v=P:=⟨_,rfl⟩;have kf:=mO 11 i v hi;rw[hP]at kf;have kd:=sX ((m3:Nat):Int) aE aE;have il:=cC ((m3:Nat):Int);obtain⟨dg,hdg⟩:∃x,itoaS ((m3:Nat):Int)=x:=⟨_,rfl⟩;rw[hdg]at kd il;simp only[cI,q2,q3,q9,hdg]at kf;simp at kf kd;refine aQ (λ|86=>some<| .plain ⟨.d (.str dg),true⟩|91=>some<| .plain ⟨.own 2 (P.map Df.d),true⟩|_=>none) ?_;simp[e2,e3,e9,e4,d2,d9];refine⟨by(repeat' with_reducible apply And.intro)<;>first|omega|with_reducible assumption|rfl|simpa using kf,?_⟩;apply aH;simp[hP]
        ·apply aV;simp;refine⟨λh21=>?_,λh21=>?_⟩
         ·have ek:k=12:=aE;subst ek;apply aG;obtain⟨P,hP⟩:∃P,gB 12 i v=P:=⟨_,rfl⟩;have kf:=mO 12 i v hi;rw[hP]at kf;have kd:=sX ((2+m3:Nat):Int) aE aE;have il:=cC ((2+m3:Nat):Int);obtain⟨dg,hdg⟩:∃x,itoaS ((2+m3:Nat):Int)=x:=⟨_,rfl⟩;rw[hdg]at kd il;simp only[cI,q2,q3,q9,hdg]at kf;simp at kf kd;refine aQ (λ|100=>some<| .plain ⟨.d (.str dg),true⟩|105=>some<| .plain ⟨.own 2 (P.map Df.d),true⟩|_=>none) ?_;simp[e2,e3,e9,e4,d2,d9];refine⟨by(repeat' with_reducible apply And.intro)<;>first|omega|with_reducible assumption|rfl|simpa using kf,?_⟩;apply aH;simp[hP]
         ·apply aF;simp;apply aG;have ek:k=13:=aE;subst ek;obtain⟨P,hP⟩:∃P,gB 13 i v=P:=⟨_,rfl⟩;have kf:=mO 13 i v hi;rw[hP]at kf;obtain⟨last,hlast⟩:∃x,mV v=x:=⟨_,rfl⟩;have llast:last.length<=60:=by rw[<-hlast];exact dA Lo
          have clast:=wE (L:=Ll) (k:=n9) (by show _<2;omega);rw[show Ll.getD n9 []=last by rw[<-hlast];simp only[mV,q2,q4,g2,g9]]at clast;simp[Ll]at clast;have kd:=sX ((1+m9:Nat):Int) aE aE;have il:=cC ((1+m9:Nat):Int);obtain⟨dg,hdg⟩:∃x,itoaS ((1+m9:Nat):Int)=x:=⟨_,rfl⟩;rw[hdg]at kd il;simp only[cI,q2,q3,q9,hlast,hdg]at kf;simp at kf kd;refine eX.rd [[110,113,122],[113],[113],[113],[113],[113],[113],[110],[110,113],[110,113],[110,113],[110],[110]] [[],[],[],[],[110],[],[],[113],[],[],[],[],[],[],[],[],[122],[123]] (λ|110=>some<| .plain ⟨.d (.str dg),true⟩|123=>some<| .plain ⟨.own 2 (P.map Df.d),true⟩|_=>none) ?_;simp[e2,e3,e9,e4,d2,d9,clast];refine⟨by(repeat' with_reducible apply And.intro)<;>first|omega|with_reducible assumption|rfl|simpa using kf,?_⟩;apply aH;simp[hP]
end
section
attribute[local simp] kP.cond Nd.d_eq nd_t nd_dr nd_td ndsD aZ bF
theorem PX(ts:List Nd)(b:Int->Bool):∀(f i:Nat) (M:List Nat),M.Nodup->(∀k∈M,k<ts.length)->(gP ts b f i M).Nodup/\∀k∈gP ts b f i M,k<ts.length
 |0,_,_,hn,hk=>⟨hn,hk⟩
 |f+1,i,M,hn,hk=>by
  rw[Bc];have key:∀(us:List cZ) (M:List Nat),M.Nodup->(∀k∈M,k<ts.length)->(us.foldl (kD ts b (gP ts b f)) M).Nodup/\∀k∈us.foldl (kD ts b (gP ts b f)) M,k<ts.length:=λus=>by
   induction us with
   |nil=>exact λM h1 h2=>⟨h1,h2⟩
   |cons u r ihu=>
    intro M h1 h2;rw[List.foldl_cons];have h3:(kD ts b (gP ts b f) M u).Nodup/\∀k∈kD ts b (gP ts b f) M u,k<ts.length:=by
     unfold kD;split
     ·rename_i k hk;split
      ·rename_i hb;refine PX ts b f k (M++[k]) ?_ λk' hk'=>?_
       ·rw[List.nodup_append];exact⟨h1,aM,λx hx y hy e=>by simp at hy;subst hy;subst e;exact hb.2 hx⟩
       ·rcases List.mem_append.1 hk' with h|h
        ·exact h2 k' h
        ·simp at h;subst h;exact vT hk
      ·exact⟨h1,h2⟩
     ·exact⟨h1,h2⟩
    exact ihu _ h3.1 h3.2
  exact key _ M hn hk
theorem Bt(ts:List Nd)(b:Int->Bool)(i:Nat):(jI ts b i).Nodup/\∀k∈jI ts b i,k<ts.length:=PX ts b _ i [] List.nodup_nil aM
def CE(_:Int):Bool:=true
def wG(i:Nat)(S:List Nat):List Nat:=S.filter λk=>decide (k≠i)
def sliceAt(l:List Df)(ts:List Nd)(i:Nat):List Df:=l.getD i default::(wG i (jI ts CE i)).map λk=>l.getD k default
def Fc(l:List Df)(name:aY):List Df×Int:=
 if(mD l).2.2≠0 then([],(mD l).2.2)
 else match oG (mD l).1 name with
  |none=>([],6)
  |some i=>(bP (sliceAt l (mD l).1 i),0)
theorem SE{n i:Nat}{S:List Nat}(h1:S.Nodup)(h2:∀k∈S,k<n)(hi:i<n):(wG i S).length<n:=by
 have h3:(i::wG i S).Nodup:=List.nodup_cons.2 ⟨λh=>by simp[wG]at h,h1.filter _⟩;have:=DY h3 (m:=List.range n) λk hk=>by
  rcases List.mem_cons.1 hk with rfl|hk
  ·exact List.mem_range.2 hi
  ·exact List.mem_range.2 (h2 k (List.mem_filter.1 hk).1)
 rw[List.length_cons,List.length_range]at this;omega
theorem Fd{α β:Type}{f:α->β}:∀{l:List α},(l.map f).Nodup->∀a∈l,∀b∈l,f a=f b->a=b
 |x::l,h,a,ha,b,hb,e=>by
  obtain⟨h1,h2⟩:=List.nodup_cons.1 h;rcases List.mem_cons.1 ha with ea|ha'
  ·rcases List.mem_cons.1 hb with eb|hb'
   ·rw[ea,eb]
   ·exact absurd (List.mem_map.2 ⟨b,hb',by rw[<-e,ea]⟩) h1
  ·rcases List.mem_cons.1 hb with eb|hb'
   ·exact absurd (List.mem_map.2 ⟨a,ha',by rw[e,eb]⟩) h1
   ·exact Fd h2 a ha' b hb' e
theorem Oo{l m:List Df}(hp:l.Perm m)(hn:(l.map Df.name).Nodup):bP l=bP m:=by
 refine List.Perm.eq_of_pairwise (le:=λa b:Df=>a.name<=b.name) (λa b ha hb h1 h2=>?_) (pB l) (pB m) (((qJ l).trans hp).trans (qJ m).symm);exact Fd hn a ((qJ l).mem_iff.1 ha) b (hp.mem_iff.2 ((qJ m).mem_iff.1 hb)) (List.le_antisymm h1 h2)
theorem Hh:∀(l:List Df) (ts:List Nd),(CP ts l).2.2=0->(ts.map Nd.text).Nodup->(CP ts l).1.map Nd.text=ts.map Nd.text++l.map Df.name/\((CP ts l).1.map Nd.text).Nodup
 |[],ts,_,h=>⟨by simp[CP],by simpa [CP]using h⟩
 |d::r,ts,he,h=>by
  by_cases e:Iv ts d=0
  ·rw[Iw e]at he|-;have ht:(parseS d.text).1.text=d.name/\oG ts d.name=none:=by
    unfold Iv at e;split at e
    ·exact absurd e (by assumption)
    ·split at e
     ·cases e
     ·rename_i h1;split at e
      ·cases e
      ·rename_i h2;exact⟨Classical.byContradiction h1,by cases q:oG ts d.name with
        |none=>rfl
        |some j=>exact absurd (.inl (by rw[q];rfl)) h2⟩
   obtain⟨h1,h2⟩:=Hh r (ts++[(parseS d.text).1]) he (by
    rw[List.map_append,List.nodup_append];refine⟨h,aM,λx hx y hy e=>?_⟩;simp at hy;subst hy;subst e;rw[ht.1]at hx;obtain⟨t,ht',hte⟩:=List.mem_map.1 hx;have:=ht.2;unfold oG at this;rw[List.findIdx?_eq_none_iff]at this;have:=this t ht';simp[hte]at this)
   refine⟨?_,h2⟩;rw[h1,List.map_append];simp[ht.1]
  ·rw[tZ e]at he;exact absurd he e
theorem rG{l:List Df}(h:(dJ l).2.2=0):(dJ l).1.map Nd.text=l.map Df.name/\(l.map Df.name).Nodup:=by
 unfold dJ at h|-;split at h
 ·cases h
 ·rename_i h24;rw[if_neg h24];obtain⟨h1,h2⟩:=Hh l [] h aM;exact⟨by simpa using h1,by rw[h1]at h2;simpa using h2⟩
theorem IJ{l:List Df}(h:(mD l).2.2=0):(dJ l).2.2=0:=by
 unfold mD at h;split at h
 ·exact h
 ·rename_i h0;exact Classical.byContradiction h0
theorem Oq{α:Type}{l:List α}{j:Nat}(h:j<l.length):l.Perm (l[j]::l.eraseIdx j):=by
 have e:l=l.take j++l[j]::l.drop (j+1):=by
  have:=List.take_append_drop j l;rw[List.drop_eq_getElem_cons h]at this;exact this.symm
 have e2:l.eraseIdx j=l.take j++l.drop (j+1):=List.eraseIdx_eq_take_drop_succ ..;rw[e2]
 conv=>lhs;rw[e]
 exact List.perm_middle
theorem Yk{S:List Nat}{j:Nat}(h:j<(Ai S).length):(Ai S)[j]=aI ((S[j]'(by simpa [Ai]using h):Nat):Int):=by simp[Ai]
theorem SF(S:List Nat)(j:Nat):(Ai S).eraseIdx j=Ai (S.eraseIdx j):=by
 unfold Ai;rw[List.eraseIdx_eq_take_drop_succ,List.eraseIdx_eq_take_drop_succ,List.map_append,List.map_take,List.map_drop]
theorem SG(S:List Nat)(j:Nat):(FC S).eraseIdx j=FC (S.eraseIdx j):=by
 unfold FC;rw[List.eraseIdx_eq_take_drop_succ,List.eraseIdx_eq_take_drop_succ,List.map_append,List.map_take,List.map_drop]
theorem ZS{σ:List (Nat×Nat)}{n id:Nat}:ren σ (n+1) (.it id)=match dO σ id with|some j=>.it j|none=>.junk:=rfl
attribute[local simp] SF SG ZS
theorem Lr{S:List Nat}{i j:Nat}(h:j<S.length):(wG i S).Perm (if S[j]=i then wG i (S.eraseIdx j)else S[j]::wG i (S.eraseIdx j)):=by
 have:=(Oq h).filter λk=>decide (k≠i);refine List.Perm.trans this ?_;by_cases e:S[j]=i
 ·rw[if_pos e,List.filter_cons_of_neg (by simpa using e)];exact List.Perm.refl _
 ·rw[if_neg e,List.filter_cons_of_pos (by simpa using e)];exact List.Perm.refl _
theorem Co{l:List Df}(h:(l.map Df.name).Nodup):∀{S:List Nat},S.Nodup->(∀k∈S,k<l.length)->((S.map λk=>l.getD k default).map Df.name).Nodup
 |[],_,_=>aM
 |a::S,hn,hk=>by
  obtain⟨h1,h2⟩:=List.nodup_cons.1 hn;rw[List.map_cons,List.map_cons,List.nodup_cons];refine⟨λhm=>?_,Co h h2 λk hk'=>hk k (List.mem_cons_of_mem _ hk')⟩;rw[List.map_map]at hm;obtain⟨b,hb,e⟩:=List.mem_map.1 hm;have ha:=hk a (List.mem_cons_self ..);have hb':=hk b (List.mem_cons_of_mem _ hb);simp only[Function.comp,List.getD_eq_getElem?_getD,List.getElem?_eq_getElem ha,List.getElem?_eq_getElem hb',Option.getD_some]at e;have this:=List.pairwise_iff_getElem.1 h;have hab:a≠b:=λq=>h1 (q▸hb);rcases Nat.lt_or_gt_of_ne hab with q|q
  ·exact this a b (by simpa using ha) (by simpa using hb') q (by simpa using e.symm)
  ·exact this b a (by simpa using hb') (by simpa using ha) q (by simpa using e)
theorem qL(l:List Df)(ts:List Nd)(i:Nat):sliceAt l ts i=(i::wG i (jI ts CE i)).map λk=>l.getD k default:=rfl
theorem yE{l:List Df}{ts:List Nd}{i:Nat}(h:(l.map Df.name).Nodup)(hl:ts.length=l.length)(hi:i<ts.length):((sliceAt l ts i).map Df.name).Nodup:=by
 obtain⟨h1,h2⟩:=Bt ts CE i;rw[qL];refine Co h (List.nodup_cons.2 ⟨λh=>by simp[wG]at h,h1.filter _⟩) λk hk=>?_;rcases List.mem_cons.1 hk with rfl|hk
 ·omega
 ·have:=h2 k (List.mem_filter.1 hk).1;omega
theorem VV(l:List Df)(name:aY)(hl:l.length<40):Ok prog 20 [eI l,.str name] ⟨.tup [.own 2 ((Fc l name).1.map Df.d),.d (aI (Fc l name).2)],true⟩:=by
 refine Ok.two func20 bX (c:=_) rfl ntmps20 aM results20 rfl λw0 X hp=>?_;obtain⟨C,hC⟩:∃C,mD l=C:=⟨_,rfl⟩;obtain⟨ts,hts⟩:∃ts,C.1=ts:=⟨_,rfl⟩;have kc:=EK l;have hS:Fc l name=if C.2.2≠0 then([],C.2.2)else match oG ts name with|none=>([],6)|some i=>(bP (sliceAt l ts i),0):=by rw[<-hts,<-hC];rfl
 have h1C:=ER l;have hok:=IJ (l:=l);have sp:=qI l;rw[hC]at kc hok h1C;rw[hts]at kc h1C;rw[<-h1C]at sp;have hw:∀t∈ts,weighN t<=1000000000:=λt ht=>by obtain⟨s,rfl⟩:=sp.1 t ht;exact gR s
 apply aD;simp;refine cJ (λ|15=>some<| .plain ⟨.tup [.d (yU ts),.d (aI C.2.1),.d (aI C.2.2)],false⟩|_=>none) ?_;simp[bD];refine⟨⟨by simpa using kc,by simp[yU]⟩,?_⟩;simp[yU];apply aG;apply aV;simp;refine⟨λh2=>?_,λh2=>?_⟩
 ·rw[if_pos h2]at hS;apply aD;simp;apply aH;simp[hS]
 ·have h2':C.2.2=0:=by simpa using h2
  rw[if_neg (by simpa using h2')]at hS;have hlen:=(sp.2.2 (hok h2')).2.1;apply aF;simp;apply aD;simp[Ib,bD];apply aG;apply aV;simp;refine⟨λh5=>?_,λh5=>?_⟩
  ·have hn:oG ts name=none:=by simpa using h5
   rw[hn]at hS;dsimp only at hS;apply aD;simp;apply aH;simp[hS]
  ·obtain⟨i,hi⟩:∃i,oG ts name=some i:=by cases h:oG ts name<;>simp_all
   rw[hi]at hS;dsimp only at hS;have hil:i<ts.length:=vT hi;have hat:WL ts name=(i:Nat):=by unfold WL;rw[hi];rfl
   have hrn:=Bt ts CE i;apply aF;simp;apply aD;simp[hat,(show i<l.length by omega)];apply dZ;have kre:=Ea ts CE 52 i hw (λk=>RE k) hil;refine aQ (λ|38=>some<| .plain ⟨.d (.mp (Ai (jI ts CE i)) (FC (jI ts CE i))),false⟩|_=>none) ?_;simp[hat];refine⟨by simpa [yU]using kre,?_⟩;apply aO;refine aP (ι:=List Nat×List Df) (λ⟨S,out⟩=>aR [(0,.d (eI l)),(9,.d (aI (i:Nat))),(11,.ow 35 0 out.length),(39,.it 39)]) (λ⟨S,out⟩=>aL [(35,.row false 2 (out.map Df.d)),(39,.iter false (Ai S) (FC S))]) (λ⟨S,out⟩=>(out++(wG i S).map λk=>l.getD k default).Perm (sliceAt l ts i)/\(∀k∈S,k<l.length)) (λ⟨S,out⟩=>S.length) (jI ts CE i,[l.getD i default]) (aA hp [0,9,11,39] [(35,35),(39,39)] (hH:=by simp[List.getElem?_eq_getElem (show i<l.length by omega)])) (⟨by simp[sliceAt],λk hk=>by have:=hrn.2 k hk;omega⟩) λ⟨S,out⟩ hi9=>?_;obtain⟨hi9,hi9k⟩:=hi9;have hol:out.length<40:=by
    have e1:=hi9.length_eq;have e2:=SE hrn.1 hrn.2 hil;simp only[qL,List.length_append,List.length_map,List.length_cons]at e1;omega
   refine HN (it:=39) (id:=39) (ks:=Ai S) (vs:=FC S) rfl rfl rfl rfl rfl rfl rfl rfl rfl rfl rfl rfl rfl rfl rfl bC bC aM aM (λhk=>?_) (λj hj=>?_)
   ·have hS0:S=[]:=by simpa [Ai]using hk
    subst hS0;simp;apply aG;have hpo:out.Perm (sliceAt l ts i):=by simpa [wG]using hi9
    have ks:=CS out hol;have he:bP out=bP (sliceAt l ts i):=by
     have hns:=yE (ts:=ts) (i:=i) (rG (hok h2')).2 hlen hil;exact(Oo hpo.symm hns).symm
    refine aQ (λ|55=>some<| .plain ⟨.own 2 ((bP out).map Df.d),true⟩|_=>none) ?_;simp;refine⟨by simpa using ks,?_⟩;apply aH;have hsl:=eN out;have htk:List.take out.length (List.map Df.d (bP out))=List.map Df.d (bP out):=List.take_of_length_le (by rw[List.length_map,hsl];exact Nat.le_refl _);rw[he]at hsl htk;simp[hS,he,hsl,htk]
   ·have hjS:j<S.length:=by simpa [Ai]using hj
    obtain⟨k,hkj⟩:∃k,S[j]=k:=⟨_,rfl⟩;have hkl:k<l.length:=hi9k k (by rw[<-hkj];exact List.getElem_mem hjS);have hpe:=Lr (i:=i) hjS;simp[Yk,hkj];apply aV;simp;refine⟨λh11=>?_,λh11=>?_⟩
    ·apply aK;simp[hkl];refine⟨aE,?_⟩;refine Pa.mk (S.eraseIdx j,out++[l[k]]) (aA hp [0,9,11,39] [(53,35),(39,39)]) ?_ ?_
     ·refine⟨?_,λk' hk'=>hi9k k' ((List.eraseIdx_sublist S j).subset hk')⟩;rw[hkj,if_neg aE]at hpe;have hpm:=(hpe.map λk=>l.getD k default).append_left out;refine List.Perm.trans ?_ (hpm.symm.trans hi9);simp[List.getElem?_eq_getElem hkl]
     ·have:=List.length_eraseIdx_of_lt hjS;show(S.eraseIdx j).length<S.length;omega
    ·apply aF;simp;refine Pa.mk (S.eraseIdx j,out) (aA hp [0,9,11,39] [(35,35),(39,39)]) ?_ ?_
     ·refine⟨?_,λk' hk'=>hi9k k' ((List.eraseIdx_sublist S j).subset hk')⟩;rw[hkj,if_pos aE]at hpe;have hpm:=(hpe.map λk=>l.getD k default).append_left out;exact hpm.symm.trans hi9
     ·have:=List.length_eraseIdx_of_lt hjS;show(S.eraseIdx j).length<S.length;omega
end
theorem nQ:STO (λa b:aY=>Op.bytesLess a b):=by
 refine⟨λa=>?_,λa b c h1 h2=>?_,λa b h1 h2=>?_⟩
 ·rw[bytesLess_eq,decide_eq_false_iff_not];exact List.lt_irrefl a
 ·rw[bytesLess_eq,decide_eq_true_eq]at*;exact List.lt_trans h1 h2
 ·rw[bytesLess_eq,decide_eq_false_iff_not,List.not_lt]at h1 h2;exact List.le_antisymm h2 h1
theorem Hi{α:Type}[DecidableEq α]:∀l:List α,(eO l).Sublist l
 |a::b::r=>by
  have ih:=Hi (b::r);simp only[eO];split
  ·exact ih.cons _
  ·exact ih.cons_cons _
 |[]=>List.Sublist.refl _
 |[_]=>List.Sublist.refl _
theorem rH{α:Type}[DecidableEq α]:∀{l:List α},l.Nodup->eO l=l
 |a::b::r,h=>by
  have h1:=List.nodup_cons.1 h;simp only[eO];rw[if_neg (λe=>h1.1 (by rw[e];exact List.mem_cons_self ..)),rH h1.2]
 |[],_=>rfl
 |[_],_=>rfl
theorem IK{α:Type}{lt:α->α->Bool}(O:STO lt){l:List α}(h:fM lt l):l.Nodup:=h.imp λ{a b} h e=>by subst e;rw[O.irrefl]at h;cases h
theorem Yl{f:List aY}:(eO (dS f)).length<f.length↔¬f.Nodup:=by
 have hp:(dS f).Perm f:=List.mergeSort_perm f _;have hl:=jV f;constructor
 ·intro h hn;rw[rH (hp.nodup_iff.2 hn),hl]at h;exact Nat.lt_irrefl _ h
 ·intro h;refine Classical.byContradiction λhc=>h ?_;have hle:=tS (dS f);have e:eO (dS f)=dS f:=(Hi (dS f)).eq_of_length aE;have hr:fM (λa b:aY=>Op.bytesLess a b) (eO (dS f)):=oY nQ ((oX f).imp λ{a b} h=>by
   rw[bytesLess_eq,decide_eq_false_iff_not,List.not_lt];exact h)
  rw[e]at hr;exact hp.nodup_iff.1 (IK nQ hr)
def bV(d:Df):Nd:=(parseS d.text).1
theorem Ot{l:List Df}{ts:List Nd}{i:Nat}{d:Df}(hd:l[i]? =some d)(ht:ts.map Nd.text=(l.take i).map Df.name):lF l d.name<(i:Int)↔(oG ts d.name).isSome=true:=by
 obtain⟨hi,hde⟩:=List.getElem?_eq_some_iff.1 hd;have hlt:ts.length=i:=by have:=congrArg List.length ht;simpa [Nat.min_eq_left (Nat.le_of_lt hi)]using this
 have hat:∀j (hj:j<ts.length),ts[j].text=(l[j]'aE).name:=λj hj=>by
  have:=congrArg (·[j]?) ht;simpa [List.getElem?_eq_getElem hj,List.getElem?_take,show j<i by omega,List.getElem?_eq_getElem (show j<l.length by omega)]using this
 cases q:l.findIdx? (λe=>decide (e.name=d.name))with
 |none=>
  rw[List.findIdx?_eq_none_iff]at q;have:=q d (List.mem_of_getElem? hd);simp at this
 |some j=>
  have e:lF l d.name=(j:Nat):=by unfold lF;rw[sW,q];rfl
  obtain⟨hj,hj1,hj2⟩:=List.findIdx?_eq_some_iff_getElem.1 q;rw[e];constructor
  ·intro h;have hji:j<i:=aE;cases r:oG ts d.name with
   |some _=>rfl
   |none=>
    unfold oG at r;rw[List.findIdx?_eq_none_iff]at r;have:=r ts[j] (List.getElem_mem aE);rw[hat j aE]at this;simp at hj1 this;exact absurd hj1.symm this
  ·intro h;obtain⟨k,hk⟩:=Option.isSome_iff_exists.1 h;unfold oG at hk;obtain⟨hk1,hk2,_⟩:=List.findIdx?_eq_some_iff_getElem.1 hk;simp at hk2;rw[hat k hk1]at hk2;have:¬k<j:=λhkj=>by
    have:=hj2 k hkj;simp[hk2]at this
   omega
theorem SH{l:List Df}{ts:List Nd}{i:Nat}{d:Df}(hd:l[i]? =some d)(ht:ts.map Nd.text=(l.take i).map Df.name):Iv ts d=oL l d i:=by
 unfold Iv oL;have h1:=Ot hd ht;have h2:=Yl (f:=bM (parseS d.text).1);by_cases a:(parseS d.text).2.2≠0
 ·rw[if_pos a,if_pos a]
 ·rw[if_neg a,if_neg a];by_cases b:(parseS d.text).1.text≠d.name
  ·rw[if_pos b,if_pos b]
  ·rw[if_neg b,if_neg b];by_cases c:lF l d.name<(i:Int)
   ·rw[if_pos c,if_pos (.inl (h1.1 c))]
   ·rw[if_neg c];by_cases e:(bM (parseS d.text).1).Nodup
    ·rw[if_pos e,if_neg];rintro(h|h)
     ·exact c (h1.2 h)
     ·exact h2.1 h e
    ·rw[if_neg e,if_pos (.inr (h2.2 e))]
theorem VW{ts:List Nd}{d:Df}(e:Iv ts d=0):(bV d).text=d.name:=by
 unfold Iv at e;split at e
 ·exact absurd e (by assumption)
 ·split at e
  ·cases e
  ·rename_i h1;exact Classical.byContradiction h1
theorem Hj{l:List Df}:∀(m i:Nat) (ts:List Nd),i+m=l.length->ts=(l.take i).map bV->ts.map Nd.text=(l.take i).map Df.name->(∀j<i,q1 l j=false)->
 (match eK (q1 l) l.length with|some k=>(CP ts (l.drop i)).2=((k:Int),oL l (l.getD k default) k)/\(CP ts (l.drop i)).2.2≠0|none=>CP ts (l.drop i)=(l.map bV,(l.length:Int),0))
 |0,i,ts,hm,ht,_,hq=>by
  have hi:i=l.length:=aE;subst hi;rw[lZ hq,List.drop_length,CP,ht,List.take_length];simp
 |m+1,i,ts,hm,ht,hn,hq=>by
  have hi:i<l.length:=aE;have hd:l[i]? =some l[i]:=List.getElem?_eq_getElem hi;have hg:l.getD i default=l[i]:=by rw[List.getD_eq_getElem?_getD,hd];rfl
  have he:=SH hd hn;rw[List.drop_eq_getElem_cons hi];by_cases c:oL l l[i] i=0
  ·have hq':q1 l i=false:=by unfold q1;rw[hg];simpa using c
   have htx:=VW (he.trans c);have ht2:l.take (i+1)=l.take i++[l[i]]:=List.take_succ_eq_append_getElem hi;have ih:=Hj (l:=l) m (i+1) (ts++[bV l[i]]) aE (by rw[ht2,List.map_append,ht];rfl) (by rw[ht2,List.map_append,List.map_append,hn];simp[htx]) λj hj=>by
    rcases Nat.lt_succ_iff_lt_or_eq.1 hj with hj|rfl
    ·exact hq j hj
    ·exact hq'
   rw[Iw (he.trans c)];exact ih
  ·have hf:eK (q1 l) l.length=some i:=lY hi hq (by unfold q1;rw[hg];simpa using c);rw[hf,tZ (by rw[he];exact c),he];have hl:ts.length=i:=by rw[ht];simp;omega
   simp only[hg,hl];exact⟨trivial,c⟩
theorem Cp{l:List Df}(h:l.length<=24):(match eK (q1 l) l.length with|some k=>(dJ l).2=((k:Int),oL l (l.getD k default) k)/\(dJ l).2.2≠0|none=>dJ l=(l.map bV,(l.length:Int),0)):=by
 have:=Hj (l:=l) l.length 0 [] aE aM aM (λj h=>absurd h (Nat.not_lt_zero _));unfold dJ;rw[if_neg aE];simpa using this
def yF(a b:Int):Int:=if b=0 then a else jH a b
def VX(a b c:Bool):Int:=if a=true then 6 else if b=true then 12 else if c=true then -1 else 0
def Ls(e:cZ->Int)(us:List cZ):Int:=VX (us.any λu=>decide (e u=6)) (us.any λu=>decide (e u=12)) (us.any λu=>decide (e u= -1))
theorem Ou{a b:Int}(ha:oK a)(hb:oK b):oK (yF a b):=by
 rcases ha with rfl|rfl|rfl|rfl<;>rcases hb with rfl|rfl|rfl|rfl<;>simp[yF,jH,Kb,oK]
theorem Lt{a b c:Int}(ha:oK a)(hb:oK b)(hc:oK c):yF (yF a b) c=yF a (yF b c):=by
 rcases ha with rfl|rfl|rfl|rfl<;>rcases hb with rfl|rfl|rfl|rfl<;>rcases hc with rfl|rfl|rfl|rfl<;>decide
theorem SI(a b c:Bool):oK (VX a b c):=by cases a<;>cases b<;>cases c<;>simp[VX,oK]
theorem Hk(e:cZ->Int)(us:List cZ):oK (Ls e us):=SI _ _ _
theorem SJ{e:cZ->Int}{u:cZ}{us:List cZ}(h:oK (e u)):Ls e (u::us)=yF (e u) (Ls e us):=by
 unfold Ls;simp only[List.any_cons];generalize us.any (λu=>decide (e u=6))=a;generalize us.any (λu=>decide (e u=12))=b;generalize us.any (λu=>decide (e u= -1))=c;generalize e u=x at*;rcases h with rfl|rfl|rfl|rfl<;>cases a<;>cases b<;>cases c<;>decide
theorem VY(ts:List Nd)(us:List cZ):Ba ts us=Ls (iP ts) us:=by
 have key:∀(us:List cZ) (o:Int),oK o->us.foldl (λout u=>if iP ts u=0 then out else jH out (iP ts u)) o=yF o (Ls (iP ts) us):=λus=>by
  induction us with
  |nil=>intro o _;simp[Ls,VX,yF]
  |cons u r ih=>
   intro o ho;have he:=Bb ts u;have hc:(if iP ts u=0 then o else jH o (iP ts u))=yF o (iP ts u):=rfl;rw[List.foldl_cons,hc,ih _ (Ou ho he),Lt ho he (Hk _ r),SJ he]
 have:=key us 0 (.inl rfl);rw[Ba,this];rcases Hk (iP ts) us with h|h|h|h<;>rw[h]<;>decide
theorem Fe{l:List Df}{ts:List Nd}(h:ts.map Nd.text=l.map Df.name)(nm:aY):oG ts nm=l.findIdx? λd=>decide (d.name=nm):=by
 have h1:(ts.map Nd.text).findIdx? (λs=>decide (nm=s))=ts.findIdx? (λt=>decide (nm=t.text)):=by rw[List.findIdx?_map];rfl
 have h2:(l.map Df.name).findIdx? (λs=>decide (nm=s))=l.findIdx? (λd=>decide (nm=d.name)):=by rw[List.findIdx?_map];rfl
 unfold oG;rw[<-h1,h,h2];congr 1;funext d;simp[eq_comm]
theorem rI{l:List Df}{ts:List Nd}(h:ts.map Nd.text=l.map Df.name)(nm:aY):lF l nm=qP (oG ts nm):=by
 rw[Fe h];unfold lF;rw[sW]
theorem IL{l:List Df}(h:(l.map bV).map Nd.text=l.map Df.name){nm:aY}{j:Nat}(hj:oG (l.map bV) nm=some j):VO l nm=(l.map bV).getD j default:=by
 have hlt:=vT hj;have hlt':j<l.length:=by simpa using hlt
 unfold VO;rw[rI h,hj];simp only[qP,Int.toNat_natCast];rw[List.getD_eq_getElem?_getD,List.getD_eq_getElem?_getD,List.getElem?_eq_getElem hlt',List.getElem?_eq_getElem hlt,Option.getD_some,Option.getD_some,List.getElem_map];rfl
theorem zF{us:List cZ}{p q:cZ->Bool}(h:∀u∈us,p u=q u):us.any p=us.any q:=by
 induction us with
 |nil=>rfl
 |cons u r ih=>rw[List.any_cons,List.any_cons,h u (List.mem_cons_self ..),ih λv hv=>h v (List.mem_cons_of_mem _ hv)]
theorem Ff{l:List Df}(h:(l.map bV).map Nd.text=l.map Df.name)(x:Nd):Fz (l.map bV) x=gJ l (bK x):=by
 have e1:∀u,p1 l u=decide (iP (l.map bV) u=6):=λu=>by
  unfold p1 iP;rw[rI h];cases hj:oG (l.map bV) u.name with
  |none=>simp[qP]
  |some j=>
   simp only[qP];have:¬((j:Int)<0):=aE;split
   ·simp[this]
   ·split<;>simp[this]
 have hE:∀u j,oG (l.map bV) u.name=some j->iP (l.map bV) u=if((l.map bV).getD j default).kind≠u.kind then 12 else if u.kind=1/\u.field∉bM ((l.map bV).getD j default)then -1 else 0:=λu j hj=>by unfold iP;rw[hj]
 have e2:∀u,p1 l u=false->p2 l u=decide (iP (l.map bV) u=12):=λu hu=>by
  unfold p1 at hu;rw[rI h]at hu;unfold p2;cases hj:oG (l.map bV) u.name with
  |none=>rw[hj]at hu;simp[qP]at hu
  |some j=>
   rw[IL h hj,hE u j hj];generalize(l.map bV).getD j default=y;by_cases hk:y.kind≠u.kind
   ·rw[if_pos hk];simp[hk]
   ·rw[if_neg hk];by_cases hf:u.kind=1/\u.field∉bM y
    ·rw[if_pos hf];simpa using hk
    ·rw[if_neg hf];simpa using hk
 have e3:∀u,p1 l u=false->p2 l u=false->p3 l u=decide (iP (l.map bV) u= -1):=λu hu hu2=>by
  unfold p1 at hu;rw[rI h]at hu;unfold p2 at hu2;unfold p3;cases hj:oG (l.map bV) u.name with
  |none=>rw[hj]at hu;simp[qP]at hu
  |some j=>
   rw[IL h hj]at hu2|-;rw[hE u j hj];generalize(l.map bV).getD j default=y at*;rw[if_neg (by simpa using hu2)];by_cases hf:u.kind=1/\u.field∉bM y
   ·rw[if_pos hf];simp only[hf,not_false_eq_true,and_self]
   ·rw[if_neg hf,decide_eq_false hf];rfl
 unfold Fz;rw[VY];unfold Ls VX gJ;rw[zF (p:=p1 l) λu _=>e1 u];by_cases h6:(bK x).any (λu=>decide (iP (l.map bV) u=6))=true
 ·simp only[h6,if_true];decide
 ·have h1:∀u∈bK x,p1 l u=false:=λu hu=>by
   rw[e1];have:=λq=>h6 (List.any_eq_true.2 ⟨u,hu,q⟩);simpa using this
  rw[zF (p:=p2 l) λu hu=>e2 u (h1 u hu)];simp only[if_neg h6];by_cases h12:(bK x).any (λu=>decide (iP (l.map bV) u=12))=true
  ·simp only[h12,if_true];decide
  ·have h2:∀u∈bK x,p2 l u=false:=λu hu=>by
    rw[e2 u (h1 u hu)];have:=λq=>h12 (List.any_eq_true.2 ⟨u,hu,q⟩);simpa using this
   rw[zF (p:=p3 l) λu hu=>e3 u (h1 u hu) (h2 u hu)];simp only[if_neg h12];by_cases hm:(bK x).any (λu=>decide (iP (l.map bV) u= -1))=true
   ·simp only[hm,if_true]
   ·simp only[if_neg hm];decide
inductive xX{α:Type}(S:α->α->Prop):α->α->Prop
 |one {i k:α}:S i k->xX S i k
 |more {i j k:α}:xX S i j->S j k->xX S i k
theorem xX.head{α:Type}{S:α->α->Prop}{i j k:α}(h:S i j)(r:xX S j k):xX S i k:=by
 induction r with
 |one h2=>exact .more (.one h) h2
 |more _ h2 ih=>exact .more ih h2
def sY(ts:List Nd)(b:Int->Bool)(i k:Nat):Prop:=∃u∈bK (ts.getD i default),b u.bk=true/\oG ts u.name=some k
theorem Fg(ts:List Nd)(b:Int->Bool):∀(f i:Nat) (M:List Nat),RB ts.length M<f->
 (∀k∈gP ts b f i M,k∈M\/xX (sY ts b) i k)/\(∀k,sY ts b i k->k∈gP ts b f i M)/\∀j∈gP ts b f i M,j∉M->∀k,sY ts b j k->k∈gP ts b f i M
 |0,_,_,h=>absurd h (Nat.not_lt_zero _)
 |f+1,i,M,h=>by
  rw[Bc];have key:∀(us:List cZ) (M0:List Nat),(∀u∈us,u∈bK (ts.getD i default))->RB ts.length M0<f+1->
   (∀k∈us.foldl (kD ts b (gP ts b f)) M0,k∈M0\/xX (sY ts b) i k)/\(∀u∈us,∀k,b u.bk=true->oG ts u.name=some k->k∈us.foldl (kD ts b (gP ts b f)) M0)/\
   ∀j∈us.foldl (kD ts b (gP ts b f)) M0,j∉M0->∀k,sY ts b j k->k∈us.foldl (kD ts b (gP ts b f)) M0:=λus=>by
   induction us with
   |nil=>exact λM0 _ _=>⟨λk hk=>.inl hk,aM,λj hj hn=>absurd hj hn⟩
   |cons u r ihr=>
    intro M0 hu hm;rw[List.foldl_cons];obtain⟨M1,hM1⟩:∃M1,kD ts b (gP ts b f) M0 u=M1:=⟨_,rfl⟩;have hsub:∀k∈M0,k∈M1:=λk hk=>by rw[<-hM1];exact yZ ts b f M0 u k hk
    have hm1:RB ts.length M1<f+1:=Nat.lt_of_le_of_lt (UQ hsub) hm;obtain⟨r1,r2,r3⟩:=ihr M1 (λv hv=>hu v (List.mem_cons_of_mem _ hv)) hm1;have hkeep:∀k∈M1,k∈r.foldl (kD ts b (gP ts b f)) M1:=λk hk=>rB (yZ ts b f) r M1 k hk;have hone:(∀k∈M1,k∈M0\/xX (sY ts b) i k)/\(∀k,b u.bk=true->oG ts u.name=some k->k∈M1)/\∀j∈M1,j∉M0->∀k,sY ts b j k->k∈M1:=by
     unfold kD at hM1;split at hM1
     ·rename_i k hk;split at hM1
      ·rename_i hc;have hst:sY ts b i k:=⟨u,hu u (List.mem_cons_self ..),hc.1,hk⟩;obtain⟨g1,g2,g3⟩:=Fg ts b f k (M0++[k]) (by have:=UR (vT hk) hc.2;omega);have hkM:k∈M1:=by rw[<-hM1];exact yY ts b f k _ k aM
       rw[hM1]at g1 g2 g3;refine⟨λj hj=>?_,λk' _ hk'=>?_,λj hj hn k' hs=>?_⟩
       ·rcases g1 j hj with hj|hj
        ·rcases List.mem_append.1 hj with hj|hj
         ·exact .inl hj
         ·simp at hj;subst hj;exact .inr (.one hst)
        ·exact .inr (.head hst hj)
       ·rw[hk]at hk';injection hk' with e;subst e;exact hkM
       ·by_cases e:j=k
        ·subst e;exact g2 k' hs
        ·exact g3 j hj (by simp[hn,e]) k' hs
      ·rename_i hc;subst hM1;refine⟨λj hj=>.inl hj,λk' hb hk'=>?_,λj hj hn=>absurd hj hn⟩;rw[hk]at hk';injection hk' with e;subst e
       exact Classical.byContradiction λhn=>hc ⟨hb,hn⟩
     ·rename_i hk;subst hM1;exact⟨λj hj=>.inl hj,λk' _ hk'=>(by rw[hk]at hk';cases hk'),λj hj hn=>absurd hj hn⟩
    rw[hM1];refine⟨λk hk=>?_,λv hv k hb hk=>?_,λj hj hn k hs=>?_⟩
    ·rcases r1 k hk with h|h
     ·exact hone.1 k h
     ·exact .inr h
    ·rcases List.mem_cons.1 hv with rfl|hv
     ·exact hkeep k (hone.2.1 k hb hk)
     ·exact r2 v hv k hb hk
    ·by_cases hj1:j∈M1
     ·exact hkeep k (hone.2.2 j hj1 hn k hs)
     ·exact r3 j hj hj1 k hs
  obtain⟨h1,h2,h3⟩:=key (bK (ts.getD i default)) M (λu hu=>hu) h;exact⟨h1,λk ⟨u,hu,hb,hk⟩=>h2 u hu k hb hk,h3⟩
theorem zG(ts:List Nd)(b:Int->Bool)(i k:Nat):k∈jI ts b i↔xX (sY ts b) i k:=by
 obtain⟨h1,h2,h3⟩:=Fg ts b (ts.length+1) i [] (Nat.lt_succ_of_le (Nat.le_trans (List.length_filter_le _ _) aM));constructor
 ·intro h;rcases h1 k h with h|h
  ·cases h
  ·exact h
 ·intro h;induction h with
  |one hs=>exact h2 _ hs
  |more _ hs ih=>exact h3 _ ih aM _ hs
def yG(l:List Df)(c:Bool)(nm s:aY):Prop:=0<=lF l nm/\∃u∈bK (VO l nm),Lh c u.bk=true/\u.name=s
structure aA9(l:List Df)(c:Bool)(name:aY)(n:Nat)(st:List aY×List aY):Prop where
 reach:∀s∈st.1,xX (yG l c) name s
 todo:∀s,s∈st.2↔s=name\/s∈st.1
 done:∀j,j<n->∀nm,st.2[j]? =some nm->∀s,yG l c nm s->s∈st.1
theorem SK{c:Bool}{st:List aY×List aY}{u:cZ}:(∀s∈st.1,s∈(lG c st u).1)/\st.2<+:(lG c st u).2/\(∀s∈(lG c st u).1,s∈st.1\/(Lh c u.bk=true/\s=u.name))/\(Lh c u.bk=true->u.name∈(lG c st u).1)/\∀s,s∈(lG c st u).2↔s∈st.2\/(s∈(lG c st u).1/\s∉st.1):=by
 unfold lG;split
 ·rename_i h;refine⟨λs hs=>kO.2 (.inr hs),List.prefix_append _ _,λs hs=>?_,λ_=>kO.2 (.inl rfl),λs=>?_⟩
  ·rcases kO.1 hs with e|hs
   ·exact .inr ⟨h.1,e⟩
   ·exact .inl hs
  ·constructor
   ·intro hs;rcases List.mem_append.1 hs with hs|hs
    ·exact .inl hs
    ·simp at hs;subst hs;exact .inr ⟨kO.2 (.inl rfl),h.2⟩
   ·rintro(hs|⟨hs,hn⟩)
    ·exact List.mem_append_left _ hs
    ·rcases kO.1 hs with e|hs
     ·subst e;simp
     ·exact absurd hs hn
 ·rename_i h;refine⟨λs hs=>hs,List.prefix_refl _,λs hs=>.inl hs,λhc=>?_,λs=>?_⟩
  ·exact Classical.byContradiction λhn=>h ⟨hc,hn⟩
  ·constructor
   ·exact λhs=>.inl hs
   ·rintro(hs|⟨hs,hn⟩)
    ·exact hs
    ·exact absurd hs hn
theorem Lu{U:List aY}{c:Bool}:∀(us:List cZ) (st:List aY×List aY),(∀u∈us,u.name∈U)->Ol U st->
 (∀s∈st.1,s∈(us.foldl (lG c) st).1)/\st.2<+:(us.foldl (lG c) st).2/\(∀s∈(us.foldl (lG c) st).1,s∈st.1\/∃u∈us,Lh c u.bk=true/\u.name=s)/\(∀u∈us,Lh c u.bk=true->u.name∈(us.foldl (lG c) st).1)/\
   (∀s,s∈(us.foldl (lG c) st).2↔s∈st.2\/(s∈(us.foldl (lG c) st).1/\s∉st.1))/\Ol U (us.foldl (lG c) st)/\FG U (us.foldl (lG c) st).1+(us.foldl (lG c) st).2.length<=FG U st.1+st.2.length
 |[],st,_,hJ=>⟨λs hs=>hs,List.prefix_refl _,λs hs=>.inl hs,aM,λs=>⟨.inl,λh=>h.elim id λh=>absurd h.1 h.2⟩,hJ,Nat.le_refl _⟩
 |u::r,st,hU,hJ=>by
  obtain⟨a1,a2,a3,a4,a5⟩:=SK (c:=c) (st:=st) (u:=u);obtain⟨a6,a7⟩:=VQ (c:=c) (hU u (List.mem_cons_self ..)) hJ;obtain⟨b1,b2,b3,b4,b5,b6,b7⟩:=Lu (c:=c) r (lG c st u) (λv hv=>hU v (List.mem_cons_of_mem _ hv)) a6;rw[List.foldl_cons];refine⟨λs hs=>b1 s (a1 s hs),a2.trans b2,λs hs=>?_,λv hv hc=>?_,λs=>?_,b6,Nat.le_trans b7 a7⟩
  ·rcases b3 s hs with h|⟨v,hv,hc,e⟩
   ·rcases a3 s h with h|⟨hc,e⟩
    ·exact .inl h
    ·exact .inr ⟨u,List.mem_cons_self ..,hc,e.symm⟩
   ·exact .inr ⟨v,List.mem_cons_of_mem _ hv,hc,e⟩
  ·rcases List.mem_cons.1 hv with rfl|hv
   ·exact b1 _ (a4 hc)
   ·exact b4 v hv hc
  ·rw[b5,a5];constructor
   ·rintro((h|⟨h1,h2⟩)|⟨h1,h2⟩)
    ·exact .inl h
    ·exact .inr ⟨b1 s h1,h2⟩
    ·exact .inr ⟨h1,λh=>h2 (a1 s h)⟩
   ·rintro(h|⟨h1,h2⟩)
    ·exact .inl (.inl h)
    ·by_cases h3:s∈(lG c st u).1
     ·exact .inl (.inr ⟨h3,h2⟩)
     ·exact .inr ⟨h1,h3⟩
theorem Fh{l:List Df}{c:Bool}{name:aY}:∀(f n:Nat) (st:List aY×List aY),FG (IH l) st.1+st.2.length<f+n->n<=st.2.length->Ol (IH l) st->aA9 l c name n st->∀s,s∈CC l c f n st↔xX (yG l c) name s
 |0,n,st,h,hn,_,_=>aE
 |f+1,n,st,h,hn,hJ,hI=>by
  intro s;rw[CC];cases q:st.2[n]? with
  |none=>
   have hlen:st.2.length<=n:=List.getElem?_eq_none_iff.1 q;simp only;constructor
   ·exact hI.reach s
   ·have all:∀nm,(nm=name\/nm∈st.1)->∀s,yG l c nm s->s∈st.1:=λnm hm s hs=>by
     obtain⟨j,hj,e⟩:=List.getElem_of_mem ((hI.todo nm).2 hm);exact hI.done j aE nm (by rw[List.getElem?_eq_getElem hj,e]) s hs
    intro hr;induction hr with
    |one hs=>exact all name (.inl rfl) _ hs
    |more _ hs ih=>exact all _ (.inr ih) _ hs
  |some nm=>
   simp only;have hlt:n<st.2.length:=(List.getElem?_eq_some_iff.1 q).1;have hnm:=(hI.todo nm).1 (List.mem_of_getElem? q);unfold Oj;by_cases hx:lF l nm<0
   ·rw[if_pos hx];refine Fh f (n+1) st aE aE hJ ⟨hI.reach,hI.todo,λj hj nm' hj' s hs=>?_⟩ s;by_cases e:j=n
    ·subst e;rw[q]at hj';injection hj' with e;subst e;exact absurd hs.1 aE
    ·exact hI.done j aE nm' hj' s hs
   ·rw[if_neg hx];obtain⟨b1,b2,b3,b4,b5,b6,b7⟩:=Lu (U:=IH l) (c:=c) (bK (VO l nm)) st (Hd aE) hJ;have hpl:=b2.length_le;refine Fh f (n+1) _ aE aE b6 ⟨λs hs=>?_,λs=>?_,λj hj nm' hj' s hs=>?_⟩ s
    ·rcases b3 s hs with h|⟨u,hu,hc,e⟩
     ·exact hI.reach s h
     ·have hs':yG l c nm s:=⟨aE,u,hu,hc,e⟩;rcases hnm with rfl|hnm
      ·exact .one hs'
      ·exact .more (hI.reach nm hnm) hs'
    ·rw[b5,hI.todo];constructor
     ·rintro((h|h)|h)
      ·exact .inl h
      ·exact .inr (b1 s h)
      ·exact .inr h.1
     ·rintro(h|h)
      ·exact .inl (.inl h)
      ·by_cases h2:s∈st.1
       ·exact .inl (.inr h2)
       ·exact .inr ⟨h,h2⟩
    ·by_cases e:j=n
     ·subst e;have hj2:(List.foldl (lG c) st (bK (VO l nm))).2[j]? =some nm:=by
       obtain⟨t,ht⟩:=b2;rw[<-ht,List.getElem?_append_left hlt];exact q
      rw[hj2]at hj';injection hj' with e;subst e
      obtain⟨_,u,hu,hc,e⟩:=hs;rw[<-e];exact b4 u hu hc
     ·have hj3:st.2[j]? =some nm':=by
       obtain⟨t,ht⟩:=b2;rw[<-ht,List.getElem?_append_left aE]at hj';exact hj'
      exact b1 s (hI.done j aE nm' hj3 s hs)
theorem Fi(l:List Df)(c:Bool)(name s:aY):s∈mM l name c↔xX (yG l c) name s:=by
 refine Fh ((IH l).length+2) 0 ([],[name]) (by rw[CU];simp) (Nat.zero_le _) ⟨by simp[CU],rfl⟩ ⟨aM,aM,λj h=>absurd h (Nat.not_lt_zero _)⟩ s
section
theorem AD{p q:Nat->Bool}{n:Nat}(h:∀i<n,p i=q i):eK p n=eK q n:=by
 unfold eK;have:∀l:List Nat,(∀i∈l,p i=q i)->l.find? p=l.find? q:=λl=>by
  induction l with
  |nil=>intro _;rfl
  |cons a r ih=>
   intro hl;rw[List.find?_cons,List.find?_cons,hl a (List.mem_cons_self ..),ih λi hi=>hl i (List.mem_cons_of_mem _ hi)]
 exact this _ λi hi=>h i (List.mem_range.1 hi)
theorem AE{l:List Df}(h:(l.map bV).map Nd.text=l.map Df.name){nm:aY}{k:Nat}(hk:oG (l.map bV) nm=some k):∃hl:k<l.length,l[k].name=nm:=by
 rw[Fe h]at hk;obtain⟨hl,h1,_⟩:=List.findIdx?_eq_some_iff_getElem.1 hk;exact⟨hl,by simpa using h1⟩
theorem Lv{l:List Df}(hn:(l.map Df.name).Nodup){i j:Nat}(hi:i<l.length)(hj:j<l.length)(e:l[i].name=l[j].name):i=j:=by
 have:=List.pairwise_iff_getElem.1 hn;rcases Nat.lt_trichotomy i j with h|h|h
 ·exact absurd (by rw[List.getElem_map,List.getElem_map];exact e) (this i j (by simpa using hi) (by simpa using hj) h)
 ·exact h
 ·exact absurd (by rw[List.getElem_map,List.getElem_map];exact e.symm) (this j i (by simpa using hj) (by simpa using hi) h)
theorem IM{l:List Df}(h:(l.map bV).map Nd.text=l.map Df.name)(hn:(l.map Df.name).Nodup){i:Nat}(hi:i<l.length):oG (l.map bV) l[i].name=some i:=by
 cases q:oG (l.map bV) l[i].name with
 |none=>
  rw[Fe h,List.findIdx?_eq_none_iff]at q;have:=q l[i] (List.getElem_mem hi);simp at this
 |some j=>
  obtain⟨hj,e⟩:=AE h q;rw[Lv hn hj hi e]
theorem Lw(k:Int):Lh true k=EJ k:=by simp[Lh,EJ]
section
variable{l:List Df} (h:(l.map bV).map Nd.text=l.map Df.name) (hn:(l.map Df.name).Nodup) (hq:∀i<l.length,q2 l i=false)
include h hn hq
omit hq in
theorem PY{b:Int->Bool}{c:Bool}(hb:∀k,Lh c k=b k){i k:Nat}(hi:i<l.length)(hs:sY (l.map bV) b i k):∃hk:k<l.length,yG l c l[i].name l[k].name:=by
 obtain⟨u,hu,hc,hk⟩:=hs;obtain⟨hkl,e⟩:=AE h hk;have ho:=IM h hn hi;refine⟨hkl,?_,u,?_,by rw[hb];exact hc,e.symm⟩
 ·rw[rI h,ho];simp[qP]
 ·rw[IL h ho];exact hu
theorem Hl{b:Int->Bool}{c:Bool}(hb:∀k,Lh c k=b k){i:Nat}{s:aY}(hi:i<l.length)(hs:yG l c l[i].name s):∃k,∃hk:k<l.length,s=l[k].name/\sY (l.map bV) b i k:=by
 obtain⟨_,u,hu,hc,e⟩:=hs;have ho:=IM h hn hi;rw[IL h ho]at hu;have h2:=hq i hi;have hg:(l.map bV).getD i default=bV (l.getD i default):=by
  rw[List.getD_eq_getElem?_getD,List.getD_eq_getElem?_getD,List.getElem?_map,List.getElem?_eq_getElem hi];rfl
 have h3:gJ l (bK (bV (l.getD i default)))=0:=Classical.byContradiction λhc=>by unfold q2 at h2;exact absurd (decide_eq_true hc) (by unfold bV;rw[h2];simp)
 rw[<-hg]at h3;have h4:(bK ((l.map bV).getD i default)).any (p1 l)=false:=by
  rw[Bool.eq_false_iff];intro q;unfold gJ at h3;rw[if_pos q]at h3;cases h3
 have h5:p1 l u=false:=by
  rw[List.any_eq_false]at h4;simpa using h4 u hu
 unfold p1 at h5;rw[rI h]at h5;cases q:oG (l.map bV) u.name with
 |none=>rw[q]at h5;simp[qP]at h5
 |some k=>
  obtain⟨hk,e2⟩:=AE h q;exact⟨k,hk,by rw[<-e,e2],u,hu,by rw[<-hb];exact hc,q⟩
omit hq in
theorem Lx{b:Int->Bool}{c:Bool}(hb:∀k,Lh c k=b k){i k:Nat}(hi:i<l.length)(hr:xX (sY (l.map bV) b) i k):∃hk:k<l.length,xX (yG l c) l[i].name l[k].name:=by
 induction hr with
 |one hs=>obtain⟨hk,hs'⟩:=PY h hn hb hi hs;exact⟨hk,.one hs'⟩
 |more _ hs ih=>
  obtain⟨hj,hr'⟩:=ih;obtain⟨hk,hs'⟩:=PY h hn hb hj hs;exact⟨hk,.more hr' hs'⟩
theorem Fj{b:Int->Bool}{c:Bool}(hb:∀k,Lh c k=b k){i:Nat}{s:aY}(hi:i<l.length)(hr:xX (yG l c) l[i].name s):∃k,∃hk:k<l.length,s=l[k].name/\xX (sY (l.map bV) b) i k:=by
 induction hr with
 |one hs=>obtain⟨k,hk,e,hs'⟩:=Hl h hn hq hb hi hs;exact⟨k,hk,e,.one hs'⟩
 |more _ hs ih=>
  obtain⟨j,hj,rfl,hr'⟩:=ih;obtain⟨k,hk,e,hs'⟩:=Hl h hn hq hb hj hs;exact⟨k,hk,e,.more hr' hs'⟩
theorem ZT{i:Nat}(hi:i<l.length):Iy (l.map bV) i=q3 l i:=by
 have hg:l.getD i default=l[i]:=by rw[List.getD_eq_getElem?_getD,List.getElem?_eq_getElem hi];rfl
 unfold Iy q3;rw[hg,decide_eq_decide,zG,Fi];constructor
 ·intro hr;obtain⟨_,hr'⟩:=Lx h hn Lw hi hr;exact hr'
 ·intro hr;obtain⟨k,hk,e,hr'⟩:=Fj h hn hq Lw hi hr;rw[<-Lv hn hi hk e]at hr';exact hr'
end
theorem Ov(l:List Df):(mD l).2=qQ l:=by
 unfold mD qQ;by_cases h24:24<l.length
 ·have:dJ l=([],0,4):=by unfold dJ;rw[if_pos h24]
  rw[if_pos h24,this];rfl
 ·rw[if_neg h24];have hf:=Cp (l:=l) aE;unfold Cn;cases q:eK (q1 l) l.length with
  |some k=>
   rw[q]at hf;obtain⟨h1,h2⟩:=hf;simp only;rw[if_pos h2,h1]
  |none=>
   rw[q]at hf;simp only at hf|-;have h0:(dJ l).2.2=0:=by rw[hf]
   obtain⟨hnm,hnd⟩:=rG h0;rw[hf]at hnm;simp only at hnm;rw[if_neg (by rw[h0];simp),hf];simp only[List.length_map];have hb:∀i<l.length,Ix (l.map bV) i=q2 l i:=λi hi=>by
    have hg:(l.map bV).getD i default=bV (l.getD i default):=by
     rw[List.getD_eq_getElem?_getD,List.getD_eq_getElem?_getD,List.getElem?_map,List.getElem?_eq_getElem hi];rfl
    unfold Ix q2;rw[Ff hnm,hg];rfl
   rw[AD hb];unfold Cm;cases q':eK (q2 l) l.length with
   |some i=>
    simp only;have hi:i<l.length:=by
     unfold eK at q';exact List.mem_range.1 (List.mem_of_find?_eq_some q')
    have hg:(l.map bV).getD i default=bV (l.getD i default):=by
     rw[List.getD_eq_getElem?_getD,List.getD_eq_getElem?_getD,List.getElem?_map,List.getElem?_eq_getElem hi];rfl
    rw[Ff hnm,hg];rfl
   |none=>
    simp only;have hq:∀i<l.length,q2 l i=false:=λi hi=>by
     unfold eK at q';rw[List.find?_eq_none]at q';simpa using q' i (List.mem_range.2 hi)
    rw[AD λi hi=>ZT hnm hnd hq hi];unfold EZ;cases eK (q3 l) l.length<;>rfl
end
def Ly(d:Df):Prop:=(parseS d.text).2.2=0/\(bV d).text=d.name/\(bM (bV d)).Nodup
def PZ(ts:List (aY×Nd×Int×Int))(sh:Bool)(u:cZ):Bool:=
 (sh&&decide (u.name=fO.name)&&decide (u.kind=0)&&decide (u.bk≠14))||
   ts.any λp=>decide (p.1=u.name)&&decide (p.2.1.kind=u.kind)&&(decide (u.kind≠1)||decide (u.field∈bM p.2.1))&&(decide (u.bk≠14)||(bK p.2.1).all λv=>decide (v.bk≠14))
def VZ(c:UInt8)(sh:Bool)(ts:List (aY×Nd×Int×Int)):Bool:=
 decide (ts.length<=6)&&decide ((ts.map Prod.fst).Nodup)&&ts.all (λp=>decide (p.1.getLast?=some c)&&decide (p.2.2.2=0)&&decide (p.2.1.text=p.1)&&decide ((bM p.2.1).Nodup)&&(bK p.2.1).all (PZ ts sh))
def iT(c:UInt8)(sh:Bool)(l:List Df):Bool:=VZ c sh (l.map λd=>(d.name,parseS d.text))
structure Ow(c:UInt8)(sh:Bool)(l:List Df):Prop where
 len:l.length<=6
 names:(l.map Df.name).Nodup
 last:∀d∈l,d.name.getLast?=some c
 fine:∀d∈l,Ly d
 uses:∀d∈l,∀u∈bK (bV d),(sh=true/\u.name=fO.name/\u.kind=0/\u.bk≠14)\/
  ∃e∈l,e.name=u.name/\(bV e).kind=u.kind/\(u.kind=1->u.field∈bM (bV e))/\(u.bk=14->∀v∈bK (bV e),v.bk≠14)
theorem We{c:UInt8}{sh:Bool}{l:List Df}(h:iT c sh l=true):Ow c sh l:=by
 unfold iT VZ at h;simp only[Bool.and_eq_true,decide_eq_true_eq,List.length_map,List.map_map,List.all_eq_true,List.mem_map,forall_exists_index,and_imp,forall_apply_eq_imp_iff₂]at h;obtain⟨⟨h1,h2⟩,h3⟩:=h;refine⟨h1,h2,λd hd=>(h3 d hd).1.1.1.1,λd hd=>⟨(h3 d hd).1.1.1.2,(h3 d hd).1.1.2,(h3 d hd).1.2⟩,λd hd u hu=>?_⟩;have hf:=(h3 d hd).2 u hu;unfold PZ at hf;simp only[Bool.or_eq_true,Bool.and_eq_true,decide_eq_true_eq,List.any_eq_true,List.mem_map,List.all_eq_true]at hf;rcases hf with hf|⟨p,⟨e,he,rfl⟩,⟨⟨⟨a,b⟩,c⟩,f⟩⟩
 ·exact .inl ⟨hf.1.1.1,hf.1.1.2,hf.1.2,hf.2⟩
 ·refine .inr ⟨e,he,a,b,λhk=>c.resolve_left λhc=>hc hk,λhk v hv=>?_⟩;exact(f.resolve_left λhc=>hc hk) v hv
set_option maxRecDepth 100000 in
theorem Ym:((List.range 3).all λi=>(List.range 8).all λv=>iT (UInt8.ofNat (48+i)) false (gB 0 i v))=true:=bX
set_option maxRecDepth 100000 in
theorem Yn:((List.range 3).all λi=>(List.range 8).all λv=>iT (UInt8.ofNat (48+i)) false (gB 1 i v))=true:=bX
set_option maxRecDepth 100000 in
theorem Yo:((List.range 3).all λi=>(List.range 4).all λv=>iT (UInt8.ofNat (48+i)) false (gB 2 i v))=true:=bX
set_option maxRecDepth 100000 in
theorem Yp:((List.range 3).all λi=>(List.range 2).all λv=>iT (UInt8.ofNat (48+i)) false (gB 3 i v))=true:=bX
set_option maxRecDepth 100000 in
theorem Yq:((List.range 3).all λi=>(List.range 2).all λv=>iT (UInt8.ofNat (48+i)) false (gB 4 i v))=true:=bX
set_option maxRecDepth 100000 in
theorem Yr:((List.range 3).all λi=>(List.range 4).all λv=>iT (UInt8.ofNat (48+i)) false (gB 5 i v))=true:=bX
set_option maxRecDepth 100000 in
theorem Ys:((List.range 3).all λi=>(List.range 3).all λv=>iT (UInt8.ofNat (48+i)) false (gB 6 i v))=true:=bX
set_option maxRecDepth 100000 in
theorem Yt:((List.range 3).all λi=>(List.range 3).all λv=>iT (UInt8.ofNat (48+i)) false (gB 7 i v))=true:=bX
set_option maxRecDepth 100000 in
theorem Yu:((List.range 3).all λi=>(List.range 2).all λv=>iT (UInt8.ofNat (48+i)) false (gB 8 i v))=true:=bX
set_option maxRecDepth 100000 in
theorem Yv:((List.range 3).all λi=>(List.range 2).all λv=>iT (UInt8.ofNat (48+i)) true (gB 9 i v))=true:=bX
set_option maxRecDepth 100000 in
theorem Wf:((List.range 3).all λi=>(List.range 3).all λv=>iT (UInt8.ofNat (48+i)) false (gB 10 i v))=true:=bX
set_option maxRecDepth 100000 in
theorem Wg:((List.range 3).all λi=>(List.range 3).all λv=>iT (UInt8.ofNat (48+i)) false (gB 11 i v))=true:=bX
set_option maxRecDepth 100000 in
theorem Wh:((List.range 3).all λi=>(List.range 3).all λv=>iT (UInt8.ofNat (48+i)) false (gB 12 i v))=true:=bX
set_option maxRecDepth 100000 in
theorem Wi:((List.range 3).all λi=>(List.range 18).all λv=>iT (UInt8.ofNat (48+i)) false (gB 13 i v))=true:=bX
theorem Ox(v:Nat):cI (v%8) 0=cI v 0:=by
 simp only[cI,uA,iQ,uM,mT,iR,mU,mV,show v%8%2=v%2 by omega,show v%8 / 2%4=v / 2%4 by omega]
theorem Oy(v:Nat):cI (v%8) 1=cI v 1:=by
 simp only[cI,uA,iQ,uM,mT,iR,mU,mV,show v%8%2=v%2 by omega,show v%8 / 2%4=v / 2%4 by omega]
theorem Oz(v:Nat):cI (v%4) 2=cI v 2:=by
 simp only[cI,uA,iQ,uM,mT,iR,mU,mV,show v%4%2=v%2 by omega,show v%4 / 2%2=v / 2%2 by omega]
theorem OA(v:Nat):cI (v%2) 3=cI v 3:=by
 simp only[cI,uA,iQ,uM,mT,iR,mU,mV,show v%2%2=v%2 by omega]
theorem OB(v:Nat):cI (v%2) 4=cI v 4:=by
 simp only[cI,uA,iQ,uM,mT,iR,mU,mV,show v%2%2=v%2 by omega]
theorem OC(v:Nat):cI (v%4) 5=cI v 5:=by
 simp only[cI,uA,iQ,uM,mT,iR,mU,mV,show v%4%2=v%2 by omega,show v%4 / 2%2=v / 2%2 by omega]
theorem OD(v:Nat):cI (v%3) 6=cI v 6:=by
 simp only[cI,uA,iQ,uM,mT,iR,mU,mV,show v%3%3=v%3 by omega]
theorem OE(v:Nat):cI (v%3) 7=cI v 7:=by
 simp only[cI,uA,iQ,uM,mT,iR,mU,mV,show v%3%3=v%3 by omega]
theorem OF(v:Nat):cI (v%2) 8=cI v 8:=by
 simp only[cI,uA,iQ,uM,mT,iR,mU,mV,show v%2%2=v%2 by omega]
theorem OG(v:Nat):cI (v%2) 9=cI v 9:=by
 simp only[cI,uA,iQ,uM,mT,iR,mU,mV,show v%2%2=v%2 by omega]
theorem Lz(v:Nat):cI (v%3) 10=cI v 10:=by
 simp only[cI,uA,iQ,uM,mT,iR,mU,mV,show v%3%3=v%3 by omega]
theorem LA(v:Nat):cI (v%3) 11=cI v 11:=by
 simp only[cI,uA,iQ,uM,mT,iR,mU,mV,show v%3%3=v%3 by omega]
theorem LB(v:Nat):cI (v%3) 12=cI v 12:=by
 simp only[cI,uA,iQ,uM,mT,iR,mU,mV,show v%3%3=v%3 by omega]
theorem LC(v:Nat):cI (v%18) 13=cI v 13:=by
 simp only[cI,uA,iQ,uM,mT,iR,mU,mV,show v%18%9=v%9 by omega,show v%18 / 9%2=v / 9%2 by omega]
theorem LD{k i v:Nat}(hk:k<14)(hi:i<3):Ow (UInt8.ofNat (48+i)) (decide (k=9)) (gB k i v):=by
 refine We ?_;have key:∀(m:Nat) (b:Bool),0<m->cI (v%m) k=cI v k->((List.range 3).all λi=>(List.range m).all λv=>iT (UInt8.ofNat (48+i)) b (gB k i v))=true->iT (UInt8.ofNat (48+i)) b (gB k i v)=true:=by
  intro m b hm he h;have:=List.all_eq_true.1 (List.all_eq_true.1 h i (List.mem_range.2 hi)) (v%m) (List.mem_range.2 (Nat.mod_lt _ hm));unfold gB at this|-;rw[he]at this;exact this
 match k,hk with
 |0,_=>exact key 8 false bC (Ox v) Ym
 |1,_=>exact key 8 false bC (Oy v) Yn
 |2,_=>exact key 4 false bC (Oz v) Yo
 |3,_=>exact key 2 false bC (OA v) Yp
 |4,_=>exact key 2 false bC (OB v) Yq
 |5,_=>exact key 4 false bC (OC v) Yr
 |6,_=>exact key 3 false bC (OD v) Ys
 |7,_=>exact key 3 false bC (OE v) Yt
 |8,_=>exact key 2 false bC (OF v) Yu
 |9,_=>exact key 2 true bC (OG v) Yv
 |10,_=>exact key 3 false bC (Lz v) Wf
 |11,_=>exact key 3 false bC (LA v) Wg
 |12,_=>exact key 3 false bC (LB v) Wh
 |13,_=>exact key 18 false bC (LC v) Wi
structure ZU(k:Nat)(st:List Df×Bool):Prop where
 len:st.1.length<=6*k+st.2.toNat
 names:(st.1.map Df.name).Nodup
 last:∀d∈st.1,(d=fO/\st.2=true)\/∃j<k,d.name.getLast?=some (UInt8.ofNat (48+j))
 shared:st.2=true->fO∈st.1
 fine:∀d∈st.1,Ly d
 uses:∀d∈st.1,∀u∈bK (bV d),∃e∈st.1,e.name=u.name/\(bV e).kind=u.kind/\(u.kind=1->u.field∈bM (bV e))/\(u.bk=14->∀v∈bK (bV e),v.bk≠14)
theorem LE:Ly fO:=by unfold Ly;decide
theorem LF:bK (bV fO)=[]:=bC
theorem Cq:(bV fO).kind=0:=bC
theorem Cr:fO.name.getLast?=some 100:=bC
theorem SL{a b:Nat}(ha:a<3)(hb:b<3)(h:UInt8.ofNat (48+a)=UInt8.ofNat (48+b)):a=b:=by
 have:=congrArg UInt8.toNat h;rw[UInt8.toNat_ofNat',UInt8.toNat_ofNat']at this;omega
theorem Qa{a:Nat}(ha:a<3):(100:UInt8)≠UInt8.ofNat (48+a):=by
 intro h;have:=congrArg UInt8.toNat h;rw[UInt8.toNat_ofNat']at this;have h2:(100:UInt8).toNat=100:=rfl;omega
theorem ZU.add{k:Nat}{st:List Df×Bool}{p:List Df}{sh:Bool}(hk:k<3)(h:ZU k st)(hp:Ow (UInt8.ofNat (48+k)) sh p):
 ZU (k+1) (if sh=true/\st.2=false then(st.1++p++[fO],true)else(st.1++p,st.2)):=by
 have hn:((st.1++p).map Df.name).Nodup:=by
  rw[List.map_append,List.nodup_append];refine⟨h.names,hp.names,?_⟩;intro a ha b hb e;subst e;obtain⟨d,hd,rfl⟩:=List.mem_map.1 ha;obtain⟨d2,hd2,e2⟩:=List.mem_map.1 hb;have l2:=hp.last d2 hd2;rw[e2]at l2;rcases h.last d hd with⟨rfl,_⟩|⟨j,hj,l1⟩
  ·rw[Cr]at l2;injection l2 with l2
   exact Qa hk l2
  ·rw[l1]at l2;injection l2 with l2
   have:=SL aE hk l2;omega
 have hf:∀d∈st.1++p,Ly d:=λd hd=>(List.mem_append.1 hd).elim (h.fine d) (hp.fine d);have hl:∀d∈st.1++p,(d=fO/\st.2=true)\/∃j<k+1,d.name.getLast?=some (UInt8.ofNat (48+j)):=λd hd=>by
  rcases List.mem_append.1 hd with hd|hd
  ·rcases h.last d hd with h1|⟨j,hj,h1⟩
   ·exact .inl h1
   ·exact .inr ⟨j,aE,h1⟩
  ·exact .inr ⟨k,aE,hp.last d hd⟩
 have hlen:(st.1++p).length<=6*(k+1)+st.2.toNat:=by
  have:=h.len;have:=hp.len;rw[List.length_append];omega
 split
 ·rename_i hc;refine⟨?_,?_,λd hd=>?_,λ_=>aM,λd hd=>?_,λd hd u hu=>?_⟩
  ·simp only[List.length_append,List.length_cons,List.length_nil,Bool.toNat_true]at hlen|-;rw[hc.2]at hlen;simp at hlen;omega
  ·rw[List.map_append,List.nodup_append];refine⟨hn,aM,?_⟩;intro a ha b hb e;simp at hb;subst hb;obtain⟨d,hd,e2⟩:=List.mem_map.1 ha;rcases hl d hd with⟨_,h2⟩|⟨j,hj,l1⟩
   ·rw[hc.2]at h2;cases h2
   ·rw[e2,e,Cr]at l1;injection l1 with l1
    exact Qa aE l1
  ·rcases List.mem_append.1 hd with hd|hd
   ·rcases hl d hd with⟨h1,_⟩|h1
    ·exact .inl ⟨h1,rfl⟩
    ·exact .inr h1
   ·simp at hd;exact .inl ⟨hd,rfl⟩
  ·rcases List.mem_append.1 hd with hd|hd
   ·exact hf d hd
   ·simp at hd;subst hd;exact LE
  ·have hs:fO∈st.1++p++[fO]:=aM;rcases List.mem_append.1 hd with hd|hd
   ·rcases List.mem_append.1 hd with hd|hd
    ·obtain⟨e,he,r⟩:=h.uses d hd u hu;exact⟨e,List.mem_append_left _ (List.mem_append_left _ he),r⟩
    ·rcases hp.uses d hd u hu with⟨_,h1,h2,h3⟩|⟨e,he,r⟩
     ·exact⟨fO,hs,h1.symm,by rw[Cq,h2],(λhk=>by rw[h2]at hk;cases hk),λhk=>absurd hk h3⟩
     ·exact⟨e,List.mem_append_left _ (List.mem_append_right _ he),r⟩
   ·simp at hd;subst hd;rw[LF]at hu;cases hu
 ·rename_i hc;refine⟨hlen,hn,hl,λhb=>List.mem_append_left _ (h.shared hb),hf,λd hd u hu=>?_⟩;rcases List.mem_append.1 hd with hd|hd
  ·obtain⟨e,he,r⟩:=h.uses d hd u hu;exact⟨e,List.mem_append_left _ he,r⟩
  ·rcases hp.uses d hd u hu with⟨h0,h1,h2,h3⟩|⟨e,he,r⟩
   ·have hb:st.2=true:=by
     cases q:st.2 with
     |true=>rfl
     |false=>exact absurd ⟨h0,q⟩ hc
    exact⟨fO,List.mem_append_left _ (h.shared hb),h1.symm,by rw[Cq,h2],(λhk=>by rw[h2]at hk;cases hk),λhk=>absurd hk h3⟩
   ·exact⟨e,List.mem_append_right _ he,r⟩
theorem Yw(l:List Int)(st:List Df×Bool)(i:Nat):SD l st i=(if decide ((dQ l (1+i) 4096).toNat%14=9)=true/\st.2=false then(st.1++gB ((dQ l (1+i) 4096).toNat%14) i ((dQ l (1+i) 4096).toNat / 14)++[fO],true)else(st.1++gB ((dQ l (1+i) 4096).toNat%14) i ((dQ l (1+i) 4096).toNat / 14),st.2)):=by
 unfold SD;simp only[decide_eq_true_eq]
theorem Bu(l:List Int)(k:Nat):mN l (k+1)=SD l (mN l k) k:=by
 unfold mN;rw[List.range_succ,List.foldl_append];rfl
theorem Fk(l:List Int):∀k,k<=3->ZU k (mN l k)
 |0,_=>⟨Nat.zero_le _,.nil,by simp[mN],by simp[mN],by simp[mN],by simp[mN]⟩
 |k+1,h=>by
  rw[Bu,Yw];exact(Fk l k aE).add aE (LD (Nat.mod_lt _ bC) aE)
theorem IN(l:List Int)(i m:Int)(hm:0<m):0<=dQ l i m/\dQ l i m<m:=by
 unfold dQ;split
 ·exact⟨Int.le_refl _,hm⟩
 ·exact dH _ _ hm
theorem IP(l:List Int):xW l<=3:=by
 have:=IN l 0 3 bC;unfold xW;omega
theorem LG(l:List Int):(mN l (xW l)).1.length<=19:=by
 have h:=Fk l _ (IP l);have h3:=IP l;have hb:(mN l (xW l)).2.toNat<=1:=Bool.toNat_le _;have:=h.len;omega
theorem Wj{n:Nat}{b:Int}{i:Nat}(hi:i<n):qK n b i<n:=by
 unfold qK;have hm:(i+(bH b (n:Int)).toNat)%n<n:=Nat.mod_lt _ aE;simp only;split<;>omega
theorem Qb{x n:Nat}(h:x<2*n):x%n=if x<n then x else x-n:=by
 split
 ·exact Nat.mod_eq_of_lt ‹_›
 ·rw[Nat.mod_eq_sub_mod aE,Nat.mod_eq_of_lt aE]
theorem SM{n:Nat}{b:Int}{i j:Nat}(hi:i<n)(hj:j<n)(h:qK n b i=qK n b j):i=j:=by
 unfold qK at h;have kl:=dH b (n:Int) aE;obtain⟨k,hk⟩:∃k:Nat,(bH b (n:Int)).toNat=k:=⟨_,rfl⟩;have hkn:k<n:=aE;rw[hk]at h;have e1:=Qb (x:=i+k) (n:=n) aE;have e2:=Qb (x:=j+k) (n:=n) aE;simp only at h;rw[e1,e2]at h;split at h<;>split at h<;>split at h<;>omega
theorem Cs{α:Type}[DecidableEq α]:∀{a b:List α},a.Nodup->a⊆b->b.length<=a.length->a.Perm b
 |[],b,_,_,hl=>by
  have:b=[]:=List.eq_nil_of_length_eq_zero (by simpa using hl);rw[this]
 |x::r,b,hn,hs,hl=>by
  have hx:x∈b:=hs (List.mem_cons_self ..);have hp:=List.perm_cons_erase hx;refine(List.Perm.cons x (Cs (List.nodup_cons.1 hn).2 (λy hy=>?_) ?_)).trans hp.symm
  ·have hy2:=hs (List.mem_cons_of_mem _ hy);have hne:y≠x:=λe=>(List.nodup_cons.1 hn).1 (e▸hy);exact(List.mem_erase_of_ne hne).2 hy2
  ·have:=hp.length_eq;simp only[List.length_cons]at this hl;omega
theorem Wk:∀{n:Nat} {f:Nat->Nat},(∀i<n,f i<n)->(∀i<n,∀j<n,f i=f j->i=j)->((List.range n).map f).Perm (List.range n):=by
 intro n f h1 h2;have hnd:((List.range n).map f).Nodup:=by
  refine List.pairwise_iff_getElem.2 λi j hi hj hij=>?_;simp at hi hj|-;intro e;have:=h2 i hi j hj e;omega
 have hsub:(List.range n).map f⊆List.range n:=λx hx=>by
  obtain⟨i,hi,rfl⟩:=List.mem_map.1 hx;exact List.mem_range.2 (h1 i (List.mem_range.1 hi))
 exact Cs hnd hsub aM
theorem Hm(l:List Df)(b:Int):(oE l b).Perm l:=by
 have h:=Wk (n:=l.length) (f:=qK l.length b) (λi hi=>Wj hi) λi hi j hj e=>SM hi hj e;have h2:=h.map λi=>l.getD i default;have e1:oE l b=((List.range l.length).map (qK l.length b)).map λi=>l.getD i default:=by unfold oE;rw[List.map_map];rfl
 have e2:(List.range l.length).map (λi=>l.getD i default)=l:=by
  refine List.ext_getElem aM λi h1 h2=>?_;simp[List.getD_eq_getElem?_getD,h2]
 rw[e1];rw[e2]at h2;exact h2
theorem Qc(l:List Int):(CD l).length<=19:=by
 have:=(Hm (mN l (xW l)).1 (dQ l 4 64)).length_eq;have:=LG l;unfold CD;omega
end Go.Eng
