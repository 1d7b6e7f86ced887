/- Part 10 of the proof. No condition. -/
import Derived.Test.YtjdlbidjlfllcaaGreatDoorMI
open Go.Proofs
open Go.Proofs.Tryz
set_option linter.unusedVariables false
set_option linter.unusedSimpArgs false
set_option maxRecDepth 20000
set_option maxHeartbeats 4000000
namespace Go.Eng
section
attribute[local simp] kQ.cond Nd.d_eq nd_t nd_dr nd_td ndsD aZ bF
def AG(k:Int):Int:=if k=34 then 0 else if k=35 then 1 else if k=13\/k=14 then 5 else if k=17\/k=18 then 3 else if k=15\/k=16 then 2 else if k=22\/k=23 then 4 else -1
theorem YA(k:Int):AG k=match Ko k with|some f=>f|none=> -1:=by
 unfold AG;by_cases h0:k=34
 ·subst h0;rfl
 by_cases h1:k=35
 ·subst h1;rfl
 by_cases h2:k=13
 ·subst h2;rfl
 by_cases h3:k=14
 ·subst h3;rfl
 by_cases h4:k=17
 ·subst h4;rfl
 by_cases h5:k=18
 ·subst h5;rfl
 by_cases h6:k=15
 ·subst h6;rfl
 by_cases h7:k=16
 ·subst h7;rfl
 by_cases h8:k=22
 ·subst h8;rfl
 by_cases h9:k=23
 ·subst h9;rfl
 have e:Ko k=none:=by unfold Ko Eg;simp[List.findIdx?_cons,h0,h1,h2,h3,h4,h5,h6,h7,h8,h9]
 rw[e];simp[h0,h1,h2,h3,h4,h5,h6,h7,h8,h9]
theorem Qk(k:Int):Ok prog 86 [aI k] ⟨.d (aI (AG k)),true⟩:=by
 refine Ok.ret func86 bY (c:=_) rfl ntmps86 aM results86 (by intro _ h;cases h) λw0 X hp=>?_;apply aD;simp;apply dT;simp;apply aO;apply aV;simp;refine⟨λh2=>?_,λh2=>?_⟩
 ·apply aD;simp;apply aH;simp;unfold AG;simp_all
 ·apply aV;simp;refine⟨λh4=>?_,λh4=>?_⟩
  ·apply aD;simp;apply aH;simp;unfold AG;simp_all
  ·refine aY (ι:=Unit) (λi=>aR [(3,.d (aI k)),(8,.d (.bool (decide (k=13\/k=14))))]) (λi=>aL []) (λi=>True) ?_ λi hc8=>?_
   ·apply aV;simp;refine⟨λh6=>?_,λh6=>?_⟩
    ·apply aF;simp;exact(aA hp [3,8] [] (by simp[h6]))
    ·apply aK;simp;exact(aA hp [3,8] [] (by simp[h6]))
   ·apply aJ;simp;refine⟨λh8=>?_,λh8 h8'=>?_⟩
    ·apply aD;simp;apply aH;simp;unfold AG;simp_all
    ·refine aY (ι:=Unit) (λi=>aR [(3,.d (aI k)),(11,.d (.bool (decide (k=17\/k=18))))]) (λi=>aL []) (λi=>True) ?_ λi hc11=>?_
     ·apply aV;simp;refine⟨λh9=>?_,λh9=>?_⟩
      ·apply aF;simp;exact(aA hp [3,11] [] (by simp[h9]))
      ·apply aK;simp;exact(aA hp [3,11] [] (by simp[h9]))
     ·apply aJ;simp;refine⟨λh11=>?_,λh11 h11'=>?_⟩
      ·apply aD;simp;apply aH;simp;unfold AG;simp_all
      ·refine aY (ι:=Unit) (λi=>aR [(3,.d (aI k)),(14,.d (.bool (decide (k=15\/k=16))))]) (λi=>aL []) (λi=>True) ?_ λi hc14=>?_
       ·apply aV;simp;refine⟨λh12=>?_,λh12=>?_⟩
        ·apply aF;simp;exact(aA hp [3,14] [] (by simp[h12]))
        ·apply aK;simp;exact(aA hp [3,14] [] (by simp[h12]))
       ·apply aJ;simp;refine⟨λh14=>?_,λh14 h14'=>?_⟩
        ·apply aD;simp;apply aH;simp;unfold AG;simp_all
        ·refine aY (ι:=Unit) (λi=>aR [(3,.d (aI k)),(17,.d (.bool (decide (k=22\/k=23))))]) (λi=>aL []) (λi=>True) ?_ λi hc17=>?_
         ·apply aV;simp;refine⟨λh15=>?_,λh15=>?_⟩
          ·apply aF;simp;exact(aA hp [3,17] [] (by simp[h15]))
          ·apply aK;simp;exact(aA hp [3,17] [] (by simp[h15]))
         ·apply aJ;simp;refine⟨λh17=>?_,λh17 h17'=>?_⟩
          ·apply aD;simp;apply aH;simp;unfold AG;simp_all
          ·apply aF;simp;apply aD;simp;apply aH;simp;unfold AG;simp_all
theorem Ff{c:UInt8}:∀{s:aW},c∉s->cutAt c s=none
 |[],_=>rfl
 |d::r,h=>by
  have h1:d≠c:=λe=>h (by rw[e];exact List.mem_cons_self ..);have h2:=Ff (s:=r) (λhm=>h (List.mem_cons_of_mem _ hm));rw[cutAt,if_neg h1,h2];rfl
theorem SV{s:aW}{i:Nat}(hi:i<s.length)(h:s[i]=46)(hn:(46:UInt8)∉s.take i):qL 46 s=s.take i/\qM 46 s=s.drop (i+1):=by
 have e:s=s.take i++46::s.drop (i+1):=by
  have:=List.take_append_drop i s;rw[List.drop_eq_getElem_cons hi,h]at this;exact this.symm
 have hc:cutAt 46 s=some (s.take i,s.drop (i+1)):=by
  conv=>lhs;rw[e]
  exact AZ _ hn
 unfold qL qM;rw[hc];exact⟨rfl,rfl⟩
theorem Wq{s:aW}(hn:(46:UInt8)∉s):qL 46 s=s/\qM 46 s=[]:=by
 unfold qL qM;rw[Ff hn];exact⟨rfl,rfl⟩
theorem YB(s:aW)(hl:s.length<=1000000000):Ok prog 87 [.str s] ⟨.tup [.d (.str (qL 46 s)),.d (.str (qM 46 s))],true⟩:=by
 refine Ok.two func87 bY (c:=_) rfl ntmps87 aM results87 rfl λw0 X hp=>?_;apply aD;simp;apply dT;simp;apply aO;refine aU (ι:=Nat) (λi=>aR [(0,.d (.str s)),(4,.d (aI (i:Nat)))]) (λi=>aL []) (λi=>i<=s.length/\(46:UInt8)∉s.take i) (λi=>s.length-i) 0 (aA hp [0,4] []) (⟨Nat.zero_le _,aM⟩) λi hi2=>?_;apply aG;apply aV;simp;refine⟨λh2=>?_,λh2=>?_⟩
 ·apply aF;simp;apply dH;apply aG;have hi:i<s.length:=aE;apply aK;simp[hi];apply aJ;simp;refine⟨λh4=>?_,λh4=>?_⟩
  ·have hb:s[i]=46:=UInt8.toNat_inj.1 (show s[i].toNat=46 by omega);have hcut:=SV hi hb hi2.2;apply aG;refine eW.rd [] [] (λ_=>none) ?_;simp;refine⟨aE,?_⟩;apply aH;simp[hcut]
  ·have hne:s[i]≠46:=λe=>by rw[e]at h4;exact h4 rfl
   apply aF;simp;apply aK;simp;refine⟨aE,?_⟩;refine Pq.mk (i+1) (aA hp [0,4] []) ?_ ?_
   ·refine⟨aE,?_⟩;rw[List.take_succ_eq_append_getElem hi];intro hm;rcases List.mem_append.1 hm with hm|hm
    ·exact hi2.2 hm
    ·rw[List.mem_singleton]at hm;exact hne hm.symm
   ·omega
 ·apply bE;simp;apply aD;simp;apply aH;have e:i=s.length:=aE;have hn:=hi2.2;rw[e,List.take_length]at hn;simp[Wq hn]
def cZ.r(u:cZ):DV:=.agg [aI u.bk,aI u.kind,.str u.name,.str u.field]
theorem Ql{l:List cZ}{y:DV}(h:y∈l.map cZ.r):(aQ y).length=4:=by obtain⟨u,_,rfl⟩:=List.mem_map.1 h;rfl
theorem YC{l:List cZ}{k:Nat}:(∀y∈List.take k (List.map cZ.r l),(aQ y).length=4)↔True:=iff_true_intro λ_ h=>Ql (List.mem_of_mem_take h)
theorem YD{l:List cZ}:(∀y∈List.map cZ.r l,(aQ y).length=4)↔True:=iff_true_intro λ_ h=>Ql h
theorem YE{u:cZ}:(aQ u.r).length=4:=rfl
attribute[local simp] YC YD YE cZ.r
theorem Lt(k:Int)(t:aW):fG k t=if 0<=AG k then [⟨k,AG k,qL 46 t,qM 46 t⟩]else []:=by
 rw[YA];unfold fG;cases h:Ko k with
 |none=>rfl
 |some f=>
  have:0<=f:=by
   unfold Ko at h;obtain⟨j,_,hj⟩:=Option.map_eq_some_iff.1 h;rw[<-hj];by_cases hl:j<sJ.length
   ·rw[List.getD_eq_getElem?_getD,List.getElem?_eq_getElem hl,Option.getD_some];have:∀x∈sJ,0<=x:=bC;exact this _ (List.getElem_mem hl)
   ·rw[List.getD_eq_getElem?_getD,List.getElem?_eq_none aE];exact Int.le_refl _
  simp[this]
theorem OA(x:Nd)(hw:weighN x<=1000000000)(ih:∀y∈x.kids,Ok prog 50 [y.d] ⟨.own 4 ((bJ y).map cZ.r),true⟩):Ok prog 50 [x.d] ⟨.own 4 ((bJ x).map cZ.r),true⟩:=by
 refine Ok.ret func50 bY (c:=_) rfl ntmps50 aM results50 (by intro _ h;cases h) λw0 X hp=>?_;have hwx:=weighN_eq x;have hkl:=weigh_len (l:=x.kids);have hun:=pK x;have hue:=usesN_eq x;have hfi:=Lt x.kind x.text;apply aD;simp;apply aD;simp;refine aY (ι:=Unit) (λi=>aR [(1,.bx 1 0),(3,.ow 3 0 (fG x.kind x.text).length)]) (λi=>aL [(1,.box false [.d (aI x.kind),.d (.str x.text),.d (aI x.n),.d (ndsD x.kids)]),(3,.row false 4 ((fG x.kind x.text).map cZ.r))]) (λi=>True) ?_ λi hc5=>?_
 ·refine cJ (λ|9=>some<| .plain ⟨.d (aI (AG x.kind)),true⟩|_=>none) ?_;simp;refine⟨Qk x.kind,?_⟩;apply aJ;simp;refine⟨λh2=>?_,λh2=>?_⟩
  ·have hf1:=hfi;rw[if_pos h2]at hf1;apply aG;have kc:=YB x.text aE;refine aP (λ|14=>some<| .plain ⟨.tup [.d (.str (qL 46 x.text)),.d (.str (qM 46 x.text))],true⟩|_=>none) ?_;simp[bD];refine⟨kc,?_⟩;refine eW.rd [[22,26],[22],[22],[],[],[],[22],[22]] [[],[],[],[],[],[22],[],[],[],[26],[3,27]] (λ|22=>some<| .plain ⟨.d (aI (AG x.kind)),true⟩|_=>none) ?_;simp;refine⟨Qk x.kind,?_⟩;exact(aA hp [1,3] [(1,1),(27,3)] (by simp[hf1]) (by simp[hf1]))
  ·have hf1:=hfi;rw[if_neg aE]at hf1;apply aF;simp;exact(aA hp [1,3] [(1,1),(3,3)] (by simp[hf1]) (by simp[hf1]))
 ·apply dT;simp;apply aO;refine aU (ι:=Nat) (λi=>aR [(1,.bx 1 0),(3,.ow 3 0 (fG x.kind x.text++eJ (x.kids.take i)).length),(6,.d (aI (i:Nat)))]) (λi=>aL [(1,.box false [.d (aI x.kind),.d (.str x.text),.d (aI x.n),.d (ndsD x.kids)]),(3,.row false 4 ((fG x.kind x.text++eJ (x.kids.take i)).map cZ.r))]) (λi=>i<=x.kids.length) (λi=>x.kids.length-i) 0 (aA hp [1,3,6] [(1,1),(3,3)] (by simp[eJ]) (by simp[eJ])) (Nat.zero_le _) λi hi6=>?_;apply aG;apply aV;simp;refine⟨λh6=>?_,λh6=>?_⟩
  ·apply aF;simp;apply dH;have hi:i<x.kids.length:=aE;obtain⟨y,hy⟩:∃y,x.kids[i]=y:=⟨_,rfl⟩;have hym:y∈x.kids:=by rw[<-hy];exact List.getElem_mem hi
   have ki:=ih y hym;have hsu:=usesL_succ hi;rw[hy]at hsu;have hle:(eJ (x.kids.take (i+1))).length<=1000000000:=by
    have h1:=Bz (x.kids.take (i+1));have h2:weighL (x.kids.take (i+1))+weighL (x.kids.drop (i+1))=weighL x.kids:=by rw[<-weighL_append,List.take_append_drop]
    omega
   rw[hsu,List.length_append]at hle;have htk:List.take ((fG x.kind x.text).length+(eJ (List.take i x.kids)).length) (List.map cZ.r (fG x.kind x.text)++List.map cZ.r (eJ (List.take i x.kids)))=List.map cZ.r (fG x.kind x.text)++List.map cZ.r (eJ (List.take i x.kids)):=List.take_of_length_le aM;have hh1:(fG x.kind x.text).length<=1:=by rw[hfi];split<;>simp
   refine aP (λ|41=>some<| .plain ⟨.own 4 ((bJ y).map cZ.r),true⟩|_=>none) ?_;simp[hi,hy];refine⟨⟨by simpa using ki,aE,aE⟩,?_⟩;apply aK;simp;refine⟨aE,?_⟩;refine Pq.mk (i+1) (aA hp [1,3,6] [(1,1),(42,3)] (by simp[hsu,Nat.add_assoc]) (by simp[hsu,htk])) ?_ ?_
   ·omega
   ·omega
  ·apply bE;simp;apply aD;simp;apply aH;have e:i=x.kids.length:=aE;have htk:List.take ((fG x.kind x.text).length+(eJ x.kids).length) (List.map cZ.r (fG x.kind x.text)++List.map cZ.r (eJ x.kids))=List.map cZ.r (fG x.kind x.text)++List.map cZ.r (eJ x.kids):=List.take_of_length_le aM;simp[hue,e,htk];rintro d (⟨a,_,rfl⟩|⟨a,_,rfl⟩) c hc<;>(simp at hc;rcases hc with rfl|rfl|rfl|rfl<;>rfl)
theorem Lu:∀(f:Nat) (x:Nd),weighN x<f->weighN x<=1000000000->Ok prog 50 [x.d] ⟨.own 4 ((bJ x).map cZ.r),true⟩
 |0,_,h,_=>absurd h (Nat.not_lt_zero _)
 |f+1,x,h,hw=>OA x hw λy hy=>Lu f y (by have:=weighN_eq x;have:=weigh_mem hy;omega) (by have:=weighN_eq x;have:=weigh_mem hy;omega)
theorem Lv(x:Nd)(hw:weighN x<=1000000000):Ok prog 50 [x.d] ⟨.own 4 ((bJ x).map cZ.r),true⟩:=Lu _ x (Nat.lt_succ_self _) hw
theorem nJ(l:List Df)(name:aW)(hl:l.length<=1000000):Ok prog 48 [eO l,.str name] ⟨.d (aI (fH l name)),true⟩:=by
 refine Ok.ret func48 bY (c:=_) rfl ntmps48 aM results48 (by intro _ h;cases h) λw0 X hp=>?_;apply aD;simp;apply dT;simp;apply aO;refine aU (ι:=Nat) (λi=>aR [(0,.d (eO l)),(1,.d (.str name)),(5,.d (aI (i:Nat)))]) (λi=>aL []) (λi=>i<=l.length/\Pz (λd=>decide (d.name=name)) l i) (λi=>l.length-i) 0 (aA hp [0,1,5] []) (⟨Nat.zero_le _,Pz.zero⟩) λi hi2=>?_;apply aG;apply aV;simp;refine⟨λh2=>?_,λh2=>?_⟩
 ·apply aF;simp;apply dH;apply aG;have hi:i<l.length:=aE;apply aK;simp[hi];apply aJ;simp;refine⟨λh4=>?_,λh4=>?_⟩
  ·apply aD;simp;apply aH;simp[fH,sF (hi2.2.found hi (by simpa using h4))]
  ·apply aF;simp;apply aK;simp;refine⟨aE,?_⟩;refine Pq.mk (i+1) (aA hp [0,1,5] []) ?_ ?_
   ·exact⟨aE,hi2.2.succ hi (by simpa using h4)⟩
   ·omega
 ·apply bE;simp;apply aD;simp;apply aH;simp[fH,sG (hi2.2.none aE)]
theorem Fg(x:Nd)(hw:weighN x<=1000000000):Ok prog 64 [x.d] ⟨.own 1 ((bL x).map .str),true⟩:=by
 refine Ok.ret func64 bY (c:=_) rfl ntmps64 aM results64 (by intro _ h;cases h) λw0 X hp=>?_;have hwx:=weighN_eq x;have hkl:=weigh_len (l:=x.kids);apply aD;simp;apply aD;simp;apply dT;simp;apply aO;refine aU (ι:=Nat) (λi=>aR [(1,.bx 1 0),(3,.ow 3 0 (gH (x.kids.take i)).length),(4,.d (aI (i:Nat)))]) (λi=>aL [(1,.box false [.d (aI x.kind),.d (.str x.text),.d (aI x.n),.d (ndsD x.kids)]),(3,.row false 1 ((gH (x.kids.take i)).map .str))]) (λi=>i<=x.kids.length) (λi=>x.kids.length-i) 0 (aA hp [1,3,4] [(1,1),(3,3)] (by simp[gH]) (by simp[gH])) (Nat.zero_le _) λi hi3=>?_;apply aG;apply aV;simp;refine⟨λh3=>?_,λh3=>?_⟩
 ·apply aF;simp;apply dH;apply aG;have hi:i<x.kids.length:=aE;obtain⟨k,hk⟩:∃k,x.kids[i]=k:=⟨_,rfl⟩;have hn:=Ak hi;have hfl:=vR (x.kids.take i);rw[List.length_take]at hfl;rw[hk]at hn;apply aK;simp[hi,hk];apply aJ;simp;refine⟨λh5=>?_,λh5=>?_⟩
  ·simp only[if_pos h5]at hn;apply aK;simp[hi,hk];refine⟨aE,?_⟩;apply aK;simp;refine⟨aE,?_⟩;refine Pq.mk (i+1) (aA hp [1,3,4] [(1,1),(27,3)] (by simp[hn]) (by simp[hn])) ?_ ?_
   ·omega
   ·omega
  ·simp only[if_neg h5]at hn;apply aF;simp;apply aK;simp;refine⟨aE,?_⟩;refine Pq.mk (i+1) (aA hp [1,3,4] [(1,1),(3,3)] (by simp[hn]) (by simp[hn])) ?_ ?_
   ·omega
   ·omega
 ·apply bE;simp;apply aD;simp;apply aH;have he:i=x.kids.length:=aE;subst he;rw[List.take_length];simp[bL]
end
section
attribute[local simp] kQ.cond Nd.d_eq nd_t nd_dr nd_td ndsD aZ bF bP
def mM(l:List Df)(d:Df)(i:Nat):Int:=
 if(parseS d.text).2.2≠0 then(parseS d.text).2.2
 else if(parseS d.text).1.text≠d.name then 11
 else if fH l d.name<(i:Int)then 7
 else if(bL (parseS d.text).1).Nodup then 0 else 7
theorem uH{f:List aW}{k:Nat}(hk:k<f.length):(f.take (k+1)).Nodup↔(f.take k).Nodup/\f[k]∉f.take k:=by
 rw[List.take_succ_eq_append_getElem hk,List.nodup_append];constructor
 ·rintro⟨h1,_,h3⟩;exact⟨h1,λhm=>h3 _ hm _ aM rfl⟩
 ·rintro⟨h1,h2⟩;exact⟨h1,aM,λa ha b hb e=>h2 (by simp at hb;rw[<-hb,<-e];exact ha)⟩
theorem OB{f:List aW}(h:f.Nodup)(k:Nat):(f.take k).Nodup:=h.sublist (List.take_sublist _ _)
theorem AH(s:aW):Ok prog 36 [.str s] ⟨.d (parseS s).1.d,false⟩:=by
 refine Ok.cell hT func36 bY (c:=_) rfl ntmps36 aM results36 (by intro _ h;cases h) λw0 X hp=>?_;obtain⟨P,hP⟩:∃P,parseS s=P:=⟨_,rfl⟩;have kp:=Hd s;rw[hP]at kp;obtain⟨x,hx⟩:∃x,P.1=x:=⟨_,rfl⟩;rw[hx]at kp;apply aD;simp;refine cJ (λ|8=>some<| .plain ⟨.tup [.d x.d,.d (aI P.2.1),.d (aI P.2.2)],false⟩|_=>none) ?_;simp[bD];refine⟨by simpa using kp,?_⟩;apply aD;simp;apply aH;simp[hP,hx]
theorem SW(l:List Df)(i:Nat)(d:Df)(hi:l[i]? =some d)(hl:l.length<=1000000):Ok prog 29 [eO l,aI (i:Int)] ⟨.d (aI (mM l d i)),true⟩:=by
 refine Ok.ret func29 bY (c:=_) rfl ntmps29 aM results29 (by intro _ h;cases h) λw0 X hp=>?_;obtain⟨hil,hd⟩:=List.getElem?_eq_some_iff.1 hi;obtain⟨P,hP⟩:∃P,parseS d.text=P:=⟨_,rfl⟩;have kp:=Hd d.text;have hwt:=iJ d.text;have hfl:=AE d.text;have hF:mM l d i=if P.2.2≠0 then P.2.2 else if P.1.text≠d.name then 11 else if fH l d.name<(i:Int)then 7 else if(bL P.1).Nodup then 0 else 7:=by unfold mM;rw[hP]
 rw[hP]at kp hwt hfl;obtain⟨x,hx⟩:∃x,P.1=x:=⟨_,rfl⟩;rw[hx]at kp hwt hF hfl;apply aD;simp;refine cJ (λ|16=>some<| .plain ⟨.tup [.d x.d,.d (aI P.2.1),.d (aI P.2.2)],false⟩|_=>none) ?_;simp[bD,hil,hd];refine⟨by simpa using kp,?_⟩;apply aG;apply aV;simp;refine⟨λh2=>?_,λh2=>?_⟩
 ·rw[if_pos h2]at hF;apply aD;simp;apply aH;simp[hF]
 ·rw[if_neg (by simpa using h2)]at hF;apply aF;simp;apply eA;refine eW.rd [] [] (λ_=>none) ?_;simp[hil,hd];apply aJ;simp;refine⟨λh4=>?_,λh4=>?_⟩
  ·rw[if_pos (by simpa using h4)]at hF;apply aD;simp;apply aH;simp[hF]
  ·rw[if_neg (by simpa using h4)]at hF;apply aF;simp;apply eA;have kx:=nJ l d.name hl;refine aP (λ|37=>some<| .plain ⟨.d (aI (fH l d.name)),true⟩|_=>none) ?_;simp[hil,hd];refine⟨by simpa using kx,?_⟩;apply aJ;simp;refine⟨λh6=>?_,λh6=>?_⟩
   ·rw[if_pos h6]at hF;apply aD;simp;apply aH;simp[hF]
   ·rw[if_neg aE]at hF;apply aF;simp;apply aG;have kf:=Fg x hwt;refine aP (λ|41=>some<| .plain ⟨.own 1 ((bL x).map .str),true⟩|_=>none) ?_;simp;refine⟨by simpa using kf,?_⟩;apply dT;simp;apply aO;refine aU (ι:=Nat) (λk=>aR [(8,.ow 41 0 (bL x).length),(9,.d (aI (k:Nat)))]) (λk=>aL [(41,.row false 1 ((bL x).map .str))]) (λk=>k<=(bL x).length/\((bL x).take k).Nodup) (λk=>(bL x).length-k) 0 (aA hp [8,9] [(41,41)]) (⟨Nat.zero_le _,aM⟩) λk hi10=>?_;apply aG;apply aV;simp;refine⟨λh10=>?_,λh10=>?_⟩
    ·apply aF;simp;apply dH;apply aG;have hk:k<(bL x).length:=aE;have kin:=Bp ((bL x).take k) (bL x)[k];refine eW.rd [] [[],[],[],[],[],[],[],[55]] (λ|55=>some<| .plain ⟨.d (.bool (decide ((bL x)[k]∈(bL x).take k))),true⟩|_=>none) ?_;simp[hk];refine⟨⟨aE,by simpa using kin⟩,?_⟩;apply aJ;simp;refine⟨λh12=>?_,λh12=>?_⟩
     ·apply aD;simp;apply aH;rw[if_neg (λhn=>((uH hk).1 (OB hn (k+1))).2 h12)]at hF;simp[hF]
     ·apply aF;simp;apply aK;simp;refine⟨aE,?_⟩;refine Pq.mk (k+1) (aA hp [8,9] [(41,41)]) ?_ ?_
      ·exact⟨aE,(uH hk).2 ⟨hi10.2,h12⟩⟩
      ·omega
    ·apply bE;simp;apply aD;simp;apply aH;have e:k=(bL x).length:=aE;have hn:=hi10.2;rw[e,List.take_length]at hn;rw[if_pos hn]at hF;simp[hF]
def iZ(l:List aW)(s:aW):List aW:=if s∈l then l else gP (kM (λy=>Op.bytesLess s y) l l.length) s l
theorem Qm(l:List aW)(s:aW)(hl:l.length<=8000000000000):Ok prog 37 [gO l,.str s] ⟨.d (gO (iZ l s)),false⟩:=by
 refine Ok.ret func37 bY (c:=_) rfl ntmps37 aM results37 (by intro _ h;cases h) λw0 X hp=>?_;apply aD;simp;apply eA;have kin:=Bp l s;refine aP (λ|8=>some<| .plain ⟨.d (.bool (decide (s∈l))),true⟩|_=>none) ?_;simp;refine⟨by simpa using kin,?_⟩;apply aJ;simp;refine⟨λh1=>?_,λh1=>?_⟩
 ·apply aD;simp;apply aH;have e:iZ l s=l:=if_pos h1;simp[e]
 ·apply aF;simp;apply aD;simp;refine aY (ι:=Nat) (λk=>aR [(0,.d (gO l)),(1,.d (.str s)),(5,.d (aI (k:Nat)))]) (λk=>aL []) (λk=>k<=l.length/\Is (kM (λy=>Op.bytesLess s y) l l.length) k) ?_ λk hc6=>?_
  ·apply aO;refine aU (ι:=Nat) (λk=>aR [(0,.d (gO l)),(1,.d (.str s)),(5,.d (aI (k:Nat)))]) (λk=>aL []) (λk=>k<=l.length/\kM (λy=>Op.bytesLess s y) l l.length=kM (λy=>Op.bytesLess s y) l k) (λk=>k) l.length (aA hp [0,1,5] []) (⟨Nat.le_refl _,rfl⟩) λk hi4=>?_;apply eA;rcases k with _|k
   ·apply aK;simp[Nat.zero_le];apply aJ;simp[Nat.zero_le];apply bE;simp;refine XG.mk 0 (aA hp [0,1,5] []) ?_;exact⟨Nat.zero_le _,hi4.2⟩
   ·have hk:k<l.length:=by have:=hi4.1;omega
    apply aK;simp[hk];refine⟨aE,?_⟩;apply aJ;simp;refine⟨λh4=>?_,λh4=>?_⟩
    ·apply aF;simp;apply aO;apply aK;simp;refine⟨aE,?_⟩;refine Pq.mk k (aA hp [0,1,5] []) ?_ ?_
     ·exact⟨aE,hi4.2.trans (wZ hk (by simpa using h4))⟩
     ·omega
    ·apply bE;simp;refine XG.mk (k+1) (aA hp [0,1,5] []) ?_;exact⟨hi4.1,hi4.2.trans (pG λi' hi' hlt=>(by have e:i'=k:=aE;subst e;simpa using h4))⟩
  ·apply aG;refine eW.rd [[31],[25,31],[25,31],[25,31],[31],[25,29],[25,29],[],[25,29,31,32],[25,29,31,32],[25,29,31,32]] [[25],[],[],[],[25,29],[],[31],[29,32],[],[],[],[32,36]] (λ_=>none) ?_;simp;refine⟨aE,?_⟩;apply aH;obtain⟨hk,hr⟩:=hc6;have e:iZ l s=gP k s l:=by unfold iZ;rw[if_neg h1,show kM (λy=>Op.bytesLess s y) l l.length=k from hr]
   have hrow:List.take (k+1+(l.length-k)) (List.take (k+1) (List.take k (List.take k (List.map DV.str l))++[DV.str s])++List.drop k (List.map DV.str l))=List.map DV.str (gP k s l):=by
    have h2:List.take (k+1) (List.take k (List.take k (List.map DV.str l))++[DV.str s])=List.take k (List.map DV.str l)++[DV.str s]:=by
     rw[List.take_take,Nat.min_self];exact List.take_of_length_le kG
    rw[h2,List.take_of_length_le kG];simp[gP]
   simp[e,Nat.min_eq_left hk,hrow]
end
section
attribute[local simp] kQ.cond Nd.d_eq nd_t nd_dr nd_td ndsD aZ bF bP YC YD YE cZ.r
def Qn(l:List Df)(name:aW):Nd:=(parseS (l.getD (fH l name).toNat default).text).1
def p1(l:List Df)(u:cZ):Bool:=decide (fH l u.name<0)
def p2(l:List Df)(u:cZ):Bool:=decide ((Qn l u.name).kind≠u.kind)
def p3(l:List Df)(u:cZ):Bool:=decide (u.kind=1/\u.field∉bL (Qn l u.name))
def fM(l:List Df)(us:List cZ):Int:=if us.any (p1 l)=true then 6 else if us.any (p2 l)=true then 12 else if us.any (p3 l)=true then 6 else 0
theorem xS{l:List Df}{name:aW}(h:0<=fH l name):∃i d,fH l name=((i:Nat):Int)/\l[i]? =some d/\Qn l name=(parseS d.text).1:=by
 unfold fH at h;rw[oD]at h;cases q:l.findIdx? (λd=>decide (d.name=name))with
 |none=>rw[q]at h;simp[qO]at h
 |some i=>
  have hi:=(List.findIdx?_eq_some_iff_getElem.1 q).1;have e:fH l name=(i:Nat):=by unfold fH;rw[oD,q];rfl
  refine⟨i,l[i],e,List.getElem?_eq_getElem hi,?_⟩;unfold Qn;rw[e,Int.toNat_natCast,List.getD_eq_getElem?_getD,List.getElem?_eq_getElem hi];rfl
theorem IU{us:List cZ}{p:cZ->Bool}{k:Nat}(hk:k<us.length)(h:p us[k]=true):us.any p=true:=List.any_eq_true.2 ⟨us[k],List.getElem_mem hk,h⟩
theorem OC(l:List Df)(i:Nat)(d:Df)(hi:l[i]? =some d)(hl:l.length<=1000000):Ok prog 30 [eO l,aI (i:Int)] ⟨.d (aI (fM l (bJ (parseS d.text).1))),true⟩:=by
 refine Ok.ret func30 bY (c:=_) rfl ntmps30 aM results30 (by intro _ h;cases h) λw0 X hp=>?_;obtain⟨hil,hd⟩:=List.getElem?_eq_some_iff.1 hi;obtain⟨x,hx⟩:∃x,(parseS d.text).1=x:=⟨_,rfl⟩;have hwt:=iJ d.text;have kt:=AH d.text;rw[hx]at hwt kt;rw[hx];obtain⟨us,hus⟩:∃us,bJ x=us:=⟨_,rfl⟩;have kf:=Lv x hwt;have hul:=pK x;rw[hus]at kf hul;rw[hus];apply aD;simp;refine cJ (λ|15=>some<| .plain ⟨.d x.d,false⟩|16=>some<| .plain ⟨.own 4 (us.map cZ.r),true⟩|_=>none) ?_;simp[hil,hd];refine⟨⟨by simpa using kt,by simpa using kf⟩,?_⟩;apply dT;simp;apply aO;refine aU (ι:=Nat) (λk=>aR [(0,.d (eO l)),(5,.ow 16 0 us.length),(6,.d (aI (k:Nat)))]) (λk=>aL [(16,.row false 4 (us.map cZ.r))]) (λk=>k<=us.length/\Pz (p1 l) us k) (λk=>us.length-k) 0 (aA hp [0,5,6] [(16,16)]) (⟨Nat.zero_le _,Pz.zero⟩) λk hi3=>?_;apply aG;apply aV;simp;refine⟨λh3=>?_,λh3=>?_⟩
 ·apply aF;simp;apply dH;apply aG;have hk:k<us.length:=aE;have kx:=nJ l us[k].name hl;refine aP (λ|29=>some<| .plain ⟨.d (aI (fH l us[k].name)),true⟩|_=>none) ?_;simp[hk];refine⟨by simpa using kx,?_⟩;apply aJ;simp;refine⟨λh5=>?_,λh5=>?_⟩
  ·apply aD;simp;apply aH;have e:fM l us=6:=if_pos (IU hk (by simpa [p1]using h5));simp[e]
  ·apply aF;simp;apply aK;simp;refine⟨aE,?_⟩;refine Pq.mk (k+1) (aA hp [0,5,6] [(16,16)]) ?_ ?_
   ·exact⟨aE,hi3.2.succ hk (by simpa [p1]using h5)⟩
   ·omega
 ·apply bE;simp;apply eA;have hP1:us.any (p1 l)=false:=hi3.2.any aE;have h0:∀(j:Nat) (h:j<us.length),0<=fH l us[j].name:=λj h=>by have:=hi3.2 j h aE;simp[p1]at this;exact this
  apply aK;simp;apply aO;refine aU (ι:=Nat) (λk=>aR [(0,.d (eO l)),(5,.ow 16 0 us.length),(7,.d (aI (k:Nat)))]) (λk=>aL [(16,.row false 4 (us.map cZ.r))]) (λk=>k<=us.length/\Pz (p2 l) us k) (λk=>us.length-k) 0 (aA hp [0,5,7] [(16,16)]) (⟨Nat.zero_le _,Pz.zero⟩) λk hi8=>?_;apply aG;apply aV;simp;refine⟨λh8=>?_,λh8=>?_⟩
  ·apply aF;simp;apply dH;apply aG;have hk:k<us.length:=aE;have kx:=nJ l us[k].name hl;obtain⟨n,dn,hn,hdn,htA⟩:=xS (h0 k hk);have kt2:=AH dn.text;obtain⟨hnl,hdn'⟩:=List.getElem?_eq_some_iff.1 hdn;rw[hn]at kx;obtain⟨y,hy⟩:∃y,(parseS dn.text).1=y:=⟨_,rfl⟩;have hwy:=iJ dn.text;rw[hy]at kt2 htA hwy;have hmx:(if(n:Int)<0 then(0:Int)else(n:Int))=(n:Int):=if_neg aE;refine eW.rd [[44],[],[],[],[],[],[],[],[],[],[],[],[],[],[44,49],[44,49],[44,49],[44,49],[44,49]] [[],[],[],[],[],[],[],[44],[],[],[],[],[49]] (λ|44=>some<| .plain ⟨.d (aI (n:Int)),true⟩|49=>some<| .plain ⟨.d y.d,false⟩|_=>none) ?_;simp[hk,hmx,hnl,hdn',uN];refine⟨⟨by simpa using kx,by simpa using kt2⟩,?_⟩;apply aJ;simp;refine⟨λh10=>?_,λh10=>?_⟩
   ·apply aD;simp;apply aH;have e:fM l us=12:=by unfold fM;rw[if_neg (by simp[hP1]),if_pos (IU hk (by simpa [p2,htA]using h10))]
    simp[e]
   ·apply aF;simp;apply aK;simp;refine⟨aE,?_⟩;refine Pq.mk (k+1) (aA hp [0,5,7] [(16,16)]) ?_ ?_
    ·exact⟨aE,hi8.2.succ hk (by simpa [p2,htA]using h10)⟩
    ·omega
  ·apply bE;simp;apply eA;have hP2:us.any (p2 l)=false:=hi8.2.any aE;apply aK;simp;apply aO;refine aU (ι:=Nat) (λk=>aR [(0,.d (eO l)),(5,.ow 16 0 us.length),(8,.d (aI (k:Nat)))]) (λk=>aL [(16,.row false 4 (us.map cZ.r))]) (λk=>k<=us.length/\Pz (p3 l) us k) (λk=>us.length-k) 0 (aA hp [0,5,8] [(16,16)]) (⟨Nat.zero_le _,Pz.zero⟩) λk hi13=>?_;apply aG;apply aV;simp;refine⟨λh13=>?_,λh13=>?_⟩
   ·apply aF;simp;apply dH;apply aG;have hk:k<us.length:=aE;have kx:=nJ l us[k].name hl;obtain⟨n,dn,hn,hdn,htA⟩:=xS (h0 k hk);have kt2:=AH dn.text;obtain⟨hnl,hdn'⟩:=List.getElem?_eq_some_iff.1 hdn;rw[hn]at kx;obtain⟨y,hy⟩:∃y,(parseS dn.text).1=y:=⟨_,rfl⟩;have hwy:=iJ dn.text;rw[hy]at kt2 htA hwy;have hmx:(if(n:Int)<0 then(0:Int)else(n:Int))=(n:Int):=if_neg aE;refine aP (λ|70=>some<| .plain ⟨.d (aI (n:Int)),true⟩|75=>some<| .plain ⟨.d y.d,false⟩|_=>none) ?_;simp[hk,hmx,hnl,hdn'];refine⟨⟨by simpa using kx,by simpa using kt2⟩,?_⟩;apply aG;by_cases hk1:us[k].kind=1
    rotate_left
    ·refine eW.rd [[],[],[],[],[],[],[],[],[],[84],[84],[84],[84],[84]] [[],[],[],[],[],[],[],[],[84],[],[],[],[],[],[90]] (λ_=>none) ?_;simp[hk,hk1];apply aJ;simp[hk,hk1];apply aF;simp;apply aK;simp;refine⟨aE,?_⟩;refine Pq.mk (k+1) (aA hp [0,5,8] [(16,16)]) ?_ ?_
     ·exact⟨aE,hi13.2.succ hk (by simp[p3,hk1])⟩
     ·omega
    ·have kfy:=Fg y hwy;have kin:=Bp (bL y) us[k].field;refine eW.rd [[],[],[],[],[],[],[],[],[],[84],[84],[84],[84],[84]] [[],[],[],[],[],[],[],[],[84],[],[],[],[],[],[90]] (λ|84=>some<| .plain ⟨.own 1 ((bL y).map .str),true⟩|90=>some<| .plain ⟨.d (.bool (decide (us[k].field∈bL y))),true⟩|_=>none) ?_;simp[hk,hk1];refine⟨⟨by simpa using kfy,by simpa using kin⟩,?_⟩;apply aJ;simp;refine⟨λh16=>?_,λh16=>?_⟩
     ·apply aD;simp;apply aH;have e:fM l us=6:=by unfold fM;rw[if_neg (by simp[hP1]),if_neg (by simp[hP2]),if_pos (IU hk (by simp[p3,hk1,htA];simpa using h16))]
      simp[e]
     ·apply aF;simp;apply aK;simp;refine⟨aE,?_⟩;refine Pq.mk (k+1) (aA hp [0,5,8] [(16,16)]) ?_ ?_
      ·exact⟨aE,hi13.2.succ hk (by simp[p3,hk1,htA];simpa using h16)⟩
      ·omega
   ·apply bE;simp;apply aD;simp;apply aH;have hP3:us.any (p3 l)=false:=hi13.2.any aE;have e:fM l us=0:=by unfold fM;rw[if_neg (by simp[hP1]),if_neg (by simp[hP2]),if_neg (by simp[hP3])]
    simp[e]
end
section
attribute[local simp] kQ.cond Nd.d_eq nd_t nd_dr nd_td ndsD aZ bF bP YC YD YE cZ.r
def Jj(c:Bool)(k:Int):Bool:= !c||decide (k=14)
def lG(c:Bool)(st:List aW×List aW)(u:cZ):List aW×List aW:=if Jj c u.bk=true/\u.name∉st.1 then(iZ st.1 u.name,st.2++[u.name])else st
def Lw(l:List Df)(c:Bool)(st:List aW×List aW)(nm:aW):List aW×List aW:=if fH l nm<0 then st else(bJ (Qn l nm)).foldl (lG c) st
def zE(l:List Df)(c:Bool):Nat->Nat->List aW×List aW->List aW
 |0,_,st=>st.1
 |f+1,n,st=>match st.2[n]? with
  |none=>st.1
  |some nm=>zE l c f (n+1) (Lw l c st nm)
def CN(l:List Df):List aW:=l.flatMap λd=>(bJ (parseS d.text).1).map cZ.name
def gS(l:List Df)(name:aW)(c:Bool):List aW:=zE l c ((CN l).length+2) 0 ([],[name])
def FN(U out:List aW):Nat:=(U.filter λu=>decide (u∉out)).length
structure Lx(U:List aW)(st:List aW×List aW):Prop where
 room:st.1.length+FN U st.1<=U.length
 two:st.2.length=st.1.length+1
theorem Wr{l:List aW}{s:aW}(h:s∉l):(iZ l s).length=l.length+1:=by unfold iZ;rw[if_neg h,oS]
theorem jP{l:List aW}{s x:aW}:x∈iZ l s↔x=s\/x∈l:=by
 unfold iZ;split
 ·rename_i h;exact⟨.inr,λhx=>hx.elim (λe=>e▸h) id⟩
 ·exact Sg
theorem YF{U out:List aW}{s:aW}(hs:s∈U)(h:s∉out):FN U (iZ out s)<FN U out:=by
 unfold FN;exact yY (x:=s) (λy hy=>by simp[jP]at hy|-;exact hy.2) hs (by simpa using h) (by simp[jP])
theorem Wu{U:List aW}{c:Bool}{st:List aW×List aW}{u:cZ}(hu:u.name∈U)(h:Lx U st):Lx U (lG c st u)/\FN U (lG c st u).1+(lG c st u).2.length<=FN U st.1+st.2.length:=by
 unfold lG;split
 ·rename_i hc;have h1:=YF hu hc.2;have h2:=Wr hc.2;have h3:=h.room;have h4:=h.two;refine⟨⟨?_,?_⟩,?_⟩
  ·show(iZ st.1 u.name).length+FN U (iZ st.1 u.name)<=U.length;omega
  ·show(st.2++[u.name]).length=(iZ st.1 u.name).length+1;rw[List.length_append,List.length_singleton];omega
  ·show FN U (iZ st.1 u.name)+(st.2++[u.name]).length<=_;rw[List.length_append,List.length_singleton];omega
 ·exact⟨h,Nat.le_refl _⟩
theorem Fh{α β:Type}{f:β->α->β}{l:List α}{k:Nat}{b:β}(hk:k<l.length):(l.take (k+1)).foldl f b=f ((l.take k).foldl f b) l[k]:=by
 rw[List.take_succ_eq_append_getElem hk,List.foldl_append];rfl
theorem BA{l:List Df}{nm:aW}(h:0<=fH l nm):∀u∈bJ (Qn l nm),u.name∈CN l:=λu hu=>by
 obtain⟨i,d,_,hd,ht⟩:=xS h;rw[ht]at hu;exact List.mem_flatMap.2 ⟨d,List.mem_of_getElem? hd,List.mem_map.2 ⟨u,hu,rfl⟩⟩
theorem Ly(l:List Df):(CN l).length<=l.length*1000000000:=by
 induction l with
 |nil=>exact Nat.le_refl _
 |cons d r ih=>
  unfold CN at*;rw[List.flatMap_cons,List.length_append,List.length_map,List.length_cons];have h1:=pK (parseS d.text).1;have h2:=iJ d.text;omega
theorem AI(U:List aW):FN U []=U.length:=by unfold FN;rw[List.filter_eq_self.2 aM]
theorem Cw(l:List Df)(name:aW)(c:Bool)(hl:l.length<=1000):Ok prog 31 [eO l,.str name,.bool c] ⟨.d (gO (gS l name c)),false⟩:=by
 refine Ok.ret func31 bY (c:=_) rfl ntmps31 aM results31 (by intro _ h;cases h) λw0 X hp=>?_;obtain⟨U,hU⟩:∃U,CN l=U:=⟨_,rfl⟩;have hUl:=Ly l;rw[hU]at hUl;have hR:gS l name c=zE l c (U.length+2) 0 ([],[name]):=by rw[<-hU];rfl
 apply aD;simp;apply aD;simp;apply aD;simp;apply dT;simp;refine eI (iH.close 7 (x:=.sl []) aM) ?_;simp;apply aO;refine aU (ι:=Nat×List aW×List aW) (λ⟨n,out,todo⟩=>aR [(0,.d (eO l)),(2,.d (.bool c)),(7,.d (gO out)),(8,.ow 14 0 todo.length),(9,.d (aI (n:Nat)))]) (λ⟨n,out,todo⟩=>aL [(14,.row false 1 (todo.map .str))]) (λ⟨n,out,todo⟩=>n<=todo.length/\Lx U (out,todo)/\∃f,FN U out+todo.length<f+n/\gS l name c=zE l c f n (out,todo)) (λ⟨n,out,todo⟩=>FN U out+todo.length-n) (0,[],[name]) (aA hp [0,2,7,8,9] [(14,14)]) (⟨Nat.zero_le _,⟨by simp[AI],rfl⟩,U.length+2,by rw[AI];simp,hR⟩) λ⟨n,out,todo⟩ hi4=>?_;obtain⟨hn1,hJ,f,hf,hE⟩:=hi4;have hr1:=hJ.room;have hr2:=hJ.two;dsimp only at hr1 hr2;apply aG;apply aV;simp;refine⟨λh4=>?_,λh4=>?_⟩
 ·apply aF;simp;apply dH;apply aG;have hn:n<todo.length:=aE;have kx:=nJ l todo[n] aE;obtain⟨f',rfl⟩:∃f',f=f'+1:=⟨f-1,aE⟩;have hE':gS l name c=zE l c f' (n+1) (Lw l c (out,todo) todo[n]):=by rw[hE,zE];simp only[List.getElem?_eq_getElem hn]
  refine aP (λ|26=>some<| .plain ⟨.d (aI (fH l todo[n])),true⟩|_=>none) ?_;simp[hn];refine⟨by simpa using kx,?_⟩;apply aG;apply aV;simp;refine⟨λh7=>?_,λh7=>?_⟩
  ·apply bE;simp;apply aK;simp;refine⟨aE,?_⟩;refine Pq.mk (n+1,out,todo) (aA hp [0,2,7,8,9] [(14,14)]) ?_ ?_
   ·refine⟨uB,hJ,f',uB,?_⟩;rw[hE'];unfold Lw;rw[if_pos h7]
   ·show FN U out+todo.length-(n+1)<FN U out+todo.length-n;omega
  ·obtain⟨m,d,hm,hdm,htA⟩:=xS (l:=l) (name:=todo[n]) aE;obtain⟨hml,hdm'⟩:=List.getElem?_eq_some_iff.1 hdm;obtain⟨y,hy⟩:∃y,(parseS d.text).1=y:=⟨_,rfl⟩;have kt:=AH d.text;have hwy:=iJ d.text;rw[hy]at kt hwy htA;obtain⟨us,hus⟩:∃us,bJ y=us:=⟨_,rfl⟩;have kf:=Lv y hwy;have hul:=pK y;have haU:∀u∈us,u.name∈U:=λu hu=>by rw[<-hU];exact BA (nm:=todo[n]) aE u (by rw[htA,hus];exact hu)
   rw[hus]at kf hul;have hN:Lw l c (out,todo) todo[n]=us.foldl (lG c) (out,todo):=by unfold Lw;rw[if_neg aE,htA,hus]
   apply aF;simp;refine cJ (λ|34=>some<| .plain ⟨.d y.d,false⟩|35=>some<| .plain ⟨.own 4 (us.map cZ.r),true⟩|_=>none) ?_;simp[hm,hml,hdm'];refine⟨⟨by simpa using kt,by simpa using kf⟩,?_⟩;apply aD;simp;apply aO;refine aU (ι:=Nat×List aW×List aW) (λ⟨k,out',todo'⟩=>aR [(0,.d (eO l)),(2,.d (.bool c)),(7,.d (gO out')),(8,.ow 14 0 todo'.length),(9,.d (aI (n:Nat))),(11,.ow 35 0 us.length),(12,.d (aI (k:Nat)))]) (λ⟨k,out',todo'⟩=>aL [(14,.row false 1 (todo'.map .str)),(35,.row false 4 (us.map cZ.r))]) (λ⟨k,out',todo'⟩=>k<=us.length/\todo.length<=todo'.length/\Lx U (out',todo')/\FN U out'+todo'.length<=FN U out+todo.length/\(out',todo')=(us.take k).foldl (lG c) (out,todo)) (λ⟨k,out',todo'⟩=>us.length-k) (0,out,todo) (aA hp [0,2,7,8,9,11,12] [(14,14),(35,35)]) (⟨Nat.zero_le _,Nat.le_refl _,hJ,Nat.le_refl _,rfl⟩) λ⟨k,out',todo'⟩ hi10=>?_;obtain⟨hk1,htl,hJ',hle',hfo⟩:=hi10;have hr1':=hJ'.room;have hr2':=hJ'.two;dsimp only at hr1' hr2';apply aG;apply aV;simp;refine⟨λh10=>?_,λh10=>?_⟩
   ·apply aF;simp;apply dH;apply aG;have hk:k<us.length:=aE;have kin:=Bp out' us[k].name;have hum:us[k].name∈U:=haU us[k] (List.getElem_mem hk);refine aP (λ|59=>some<| .plain ⟨.d (.bool (decide (us[k].name∈out'))),true⟩|_=>none) ?_;simp[hk];refine⟨λ_=>by simpa using kin,?_⟩;apply aJ;simp;refine⟨λh12 h12'=>?_,λh12=>?_⟩
    ·have hcb:Jj c us[k].bk=true:=by unfold Jj;rcases h12 with h|h<;>simp[h]
     have hS:lG c (out',todo') us[k]=(iZ out' us[k].name,todo'++[us[k].name]):=if_pos ⟨hcb,h12'⟩;have hJS:=Wu (c:=c) hum hJ';rw[hS]at hJS;apply aG;have kp:=Qm out' us[k].name aE;refine aP (λ|68=>some<| .plain ⟨.d (gO (iZ out' us[k].name)),false⟩|_=>none) ?_;simp[hk];refine⟨by simpa using kp,?_⟩;apply aK;simp[hk];refine⟨aE,?_⟩;apply aK;simp;refine⟨aE,?_⟩;refine Pq.mk (k+1,iZ out' us[k].name,todo'++[us[k].name]) (aA hp [0,2,7,8,9,11,12] [(76,14),(35,35)]) ?_ ?_
     ·refine⟨uB,by dsimp only;rw[List.length_append];omega,hJS.1,Nat.le_trans hJS.2 hle',?_⟩;rw[Fh hk,<-hfo];exact hS.symm
     ·omega
    ·have hS:lG c (out',todo') us[k]=(out',todo'):=if_neg (by rintro⟨h1,h2⟩;unfold Jj at h1;simp at h1;exact h2 (h12 h1));apply aF;simp;apply aK;simp;refine⟨aE,?_⟩;refine Pq.mk (k+1,out',todo') (aA hp [0,2,7,8,9,11,12] [(14,14),(35,35)]) ?_ ?_
     ·refine⟨uB,htl,hJ',hle',?_⟩;rw[Fh hk,<-hfo];exact hS.symm
     ·omega
   ·apply bE;simp;apply aK;simp;refine⟨aE,?_⟩;refine Pq.mk (n+1,out',todo') (aA hp [0,2,7,8,9] [(14,14)]) ?_ ?_
    ·have hks:k=us.length:=aE;rw[hks,List.take_length]at hfo;refine⟨uB,hJ',f',uB,?_⟩;show gS l name c=zE l c f' (n+1) (out',todo');rw[hE',hN,hfo]
    ·show FN U out'+todo'.length-(n+1)<FN U out+todo.length-n;omega
 ·apply bE;simp;apply aD;simp;apply aH;have e:n=todo.length:=aE;obtain⟨f',rfl⟩:∃f',f=f'+1:=⟨f-1,aE⟩;have hE':gS l name c=out:=by rw[hE,zE];simp only[List.getElem?_eq_none (show todo.length<=n by omega)]
  simp[hE']
end
section
attribute[local simp] kQ.cond Nd.d_eq nd_t nd_dr nd_td ndsD aZ bF
def q1(l:List Df)(i:Nat):Bool:=decide (mM l (l.getD i default) i≠0)
def q2(l:List Df)(i:Nat):Bool:=decide (fM l (bJ (parseS (l.getD i default).text).1)≠0)
def q3(l:List Df)(i:Nat):Bool:=decide ((l.getD i default).name∈gS l (l.getD i default).name true)
def Cx(l:List Df):Int×Int:=match dJ (q3 l) l.length with
 |some i=>((i:Int),13)
 |none=>((l.length:Int),0)
def AJ(l:List Df):Int×Int:=match dJ (q2 l) l.length with
 |some i=>((i:Int),fM l (bJ (parseS (l.getD i default).text).1))
 |none=>Cx l
def AK(l:List Df):Int×Int:=match dJ (q1 l) l.length with
 |some i=>((i:Int),mM l (l.getD i default) i)
 |none=>AJ l
def nK(l:List Df):Int×Int:=if 24<l.length then(0,4)else AK l
theorem SX(l:List Df):Ok prog 9 [eO l] ⟨.tup [.d (aI (nK l).1),.d (aI (nK l).2)],true⟩:=by
 refine Ok.two func9 bY (c:=_) rfl ntmps9 aM results9 rfl λw0 X hp=>?_;refine eW.len (t:=0) rfl λhlen=>?_;simp at hlen;apply aD;simp;apply aG;apply aV;simp;refine⟨λh1=>?_,λh1=>?_⟩
 ·have hC:nK l=(0,4):=if_pos aE;apply aD;simp;apply aH;simp[hC]
 ·have hC:nK l=AK l:=if_neg aE;apply aF;simp;apply dT;simp;apply aO;refine aU (ι:=Nat) (λi=>aR [(0,.d (eO l)),(4,.d (aI (i:Nat)))]) (λi=>aL []) (λi=>i<=l.length/\∀j<i,q1 l j=false) (λi=>l.length-i) 0 (aA hp [0,4] []) (⟨Nat.zero_le _,λj h=>absurd h (Nat.not_lt_zero _)⟩) λi hi4=>?_;apply aG;apply aV;simp;refine⟨λh4=>?_,λh4=>?_⟩
  ·apply aF;simp;apply dH;apply aG;have hi:i<l.length:=aE;obtain⟨d,hd⟩:∃d,l[i]=d:=⟨_,rfl⟩;have hgd:l.getD i default=d:=by rw[List.getD_eq_getElem?_getD,List.getElem?_eq_getElem hi,hd];rfl
   have kf:=SW l i d (by rw[List.getElem?_eq_getElem hi,hd]) aE;refine aP (λ|20=>some<| .plain ⟨.d (aI (mM l d i)),true⟩|_=>none) ?_;simp;refine⟨by simpa using kf,?_⟩;apply aV;simp;refine⟨λh7=>?_,λh7=>?_⟩
   ·have hf:=lY hi hi4.2 (by unfold q1;rw[hgd];simpa using h7);have hC1:AK l=((i:Int),mM l d i):=by unfold AK;rw[hf];simp only[hgd]
    apply aD;simp;apply aH;simp[hC,hC1]
   ·have hbad:q1 l i=false:=by unfold q1;rw[hgd];simpa using h7
    apply aF;simp;apply aK;simp;refine⟨aE,?_⟩;refine Pq.mk (i+1) (aA hp [0,4] []) ?_ ?_
    ·refine⟨aE,λj hj=>?_⟩;rcases Nat.lt_succ_iff_lt_or_eq.1 hj with hj|rfl
     ·exact hi4.2 j hj
     ·exact hbad
    ·omega
  ·apply bE;simp;apply eA;have hn1:=lZ (p:=q1 l) (n:=l.length) λj hj=>hi4.2 j aE;have hC1:AK l=AJ l:=by unfold AK;rw[hn1]
   apply aK;simp;apply aO;refine aU (ι:=Nat) (λi=>aR [(0,.d (eO l)),(6,.d (aI (i:Nat)))]) (λi=>aL []) (λi=>i<=l.length/\∀j<i,q2 l j=false) (λi=>l.length-i) 0 (aA hp [0,6] []) (⟨Nat.zero_le _,λj h=>absurd h (Nat.not_lt_zero _)⟩) λi hi10=>?_;apply aG;apply aV;simp;refine⟨λh10=>?_,λh10=>?_⟩
   ·apply aF;simp;apply dH;apply aG;have hi:i<l.length:=aE;obtain⟨d,hd⟩:∃d,l[i]=d:=⟨_,rfl⟩;have hgd:l.getD i default=d:=by rw[List.getD_eq_getElem?_getD,List.getElem?_eq_getElem hi,hd];rfl
    have kf:=OC l i d (by rw[List.getElem?_eq_getElem hi,hd]) aE;refine aP (λ|33=>some<| .plain ⟨.d (aI (fM l (bJ (parseS d.text).1))),true⟩|_=>none) ?_;simp;refine⟨by simpa using kf,?_⟩;apply aV;simp;refine⟨λh13=>?_,λh13=>?_⟩
    ·have hf:=lY hi hi10.2 (by unfold q2;rw[hgd];simpa using h13);have hC2:AJ l=((i:Int),fM l (bJ (parseS d.text).1)):=by unfold AJ;rw[hf];simp only[hgd]
     apply aD;simp;apply aH;simp[hC,hC1,hC2]
    ·have hbad:q2 l i=false:=by unfold q2;rw[hgd];simpa using h13
     apply aF;simp;apply aK;simp;refine⟨aE,?_⟩;refine Pq.mk (i+1) (aA hp [0,6] []) ?_ ?_
     ·refine⟨aE,λj hj=>?_⟩;rcases Nat.lt_succ_iff_lt_or_eq.1 hj with hj|rfl
      ·exact hi10.2 j hj
      ·exact hbad
     ·omega
   ·apply bE;simp;apply eA;have hn2:=lZ (p:=q2 l) (n:=l.length) λj hj=>hi10.2 j aE;have hC2:AJ l=Cx l:=by unfold AJ;rw[hn2]
    apply aK;simp;apply aO;refine aU (ι:=Nat) (λi=>aR [(0,.d (eO l)),(8,.d (aI (i:Nat)))]) (λi=>aL []) (λi=>i<=l.length/\∀j<i,q3 l j=false) (λi=>l.length-i) 0 (aA hp [0,8] []) (⟨Nat.zero_le _,λj h=>absurd h (Nat.not_lt_zero _)⟩) λi hi16=>?_;apply aG;apply aV;simp;refine⟨λh16=>?_,λh16=>?_⟩
    ·apply aF;simp;apply dH;apply aG;have hi:i<l.length:=aE;obtain⟨d,hd⟩:∃d,l[i]=d:=⟨_,rfl⟩;have hgd:l.getD i default=d:=by rw[List.getD_eq_getElem?_getD,List.getElem?_eq_getElem hi,hd];rfl
     have kr:=Cw l d.name true aE;have kin:=Bp (gS l d.name true) d.name;refine eW.rd [[],[],[],[],[],[],[],[50],[50],[50],[50],[50]] [[],[],[],[],[],[],[50],[],[],[],[],[],[56]] (λ|50=>some<| .plain ⟨.d (gO (gS l d.name true)),false⟩|56=>some<| .plain ⟨.d (.bool (decide (d.name∈gS l d.name true))),true⟩|_=>none) ?_;simp[hi,hd];refine⟨⟨by simpa using kr,by simpa using kin⟩,?_⟩;apply aJ;simp;refine⟨λh18=>?_,λh18=>?_⟩
     ·have hf:=lY hi hi16.2 (by unfold q3;rw[hgd];simpa using h18);have hC3:Cx l=((i:Int),13):=by unfold Cx;rw[hf]
      apply aD;simp;apply aH;simp[hC,hC1,hC2,hC3]
     ·have hbad:q3 l i=false:=by unfold q3;rw[hgd];simpa using h18
      apply aF;simp;apply aK;simp;refine⟨aE,?_⟩;refine Pq.mk (i+1) (aA hp [0,8] []) ?_ ?_
      ·refine⟨aE,λj hj=>?_⟩;rcases Nat.lt_succ_iff_lt_or_eq.1 hj with hj|rfl
       ·exact hi16.2 j hj
       ·exact hbad
      ·omega
    ·apply bE;simp;apply aD;simp;apply aH;have hn3:=lZ (p:=q3 l) (n:=l.length) λj hj=>hi16.2 j aE;have hC3:Cx l=((l.length:Int),0):=by unfold Cx;rw[hn3]
     simp[hC,hC1,hC2,hC3]
end
section
attribute[local simp] kQ.cond Nd.d_eq nd_t nd_dr nd_td ndsD aZ bF
theorem AL(a b:List Df)(ha:a.length<=1000000000000):Ok prog 14 [eO a,eO b] ⟨.d (.bool (decide (a=b))),true⟩:=by
 refine Ok.ret func14 bY (c:=_) rfl ntmps14 aM results14 (by intro _ h;cases h) λw0 X hp=>?_;apply aD;simp;apply aG;apply aV;simp;refine⟨λh1=>?_,λh1=>?_⟩
 ·apply aD;simp;apply aH;simp;exact λe=>h1 (by rw[e])
 ·apply aF;simp;apply dT;simp;apply aO;refine aU (ι:=Nat) (λi=>aR [(0,.d (eO a)),(1,.d (eO b)),(5,.d (aI (i:Nat)))]) (λi=>aL []) (λi=>i<=a.length/\a.take i=b.take i) (λi=>a.length-i) 0 (aA hp [0,1,5] []) (⟨Nat.zero_le _,rfl⟩) λi hi4=>?_;apply aG;apply aV;simp;refine⟨λh4=>?_,λh4=>?_⟩
  ·apply aF;simp;apply dH;apply aG;have hi:i<a.length:=aE;have hib:i<b.length:=aE;refine eW.rd [] [] (λ_=>none) ?_;simp[hi,hib];apply aJ;simp;refine⟨λh6=>?_,λh6=>?_⟩
   ·apply aD;simp;apply aH;simp;intro e;subst e;simp at h6
   ·apply aF;simp;apply aK;simp;refine⟨aE,?_⟩;refine Pq.mk (i+1) (aA hp [0,1,5] []) ?_ ?_
    ·refine⟨aE,?_⟩;rw[List.take_succ_eq_append_getElem hi,List.take_succ_eq_append_getElem hib,hi4.2,h6]
    ·omega
  ·apply bE;simp;apply aD;simp;apply aH;simp;have e:i=a.length:=aE;have:=hi4.2;rw[e,List.take_length]at this;have h1':a.length=b.length:=aE;rw[this,h1',List.take_length]
end
section
attribute[local simp] kQ.cond Nd.d_eq nd_t nd_dr nd_td ndsD aZ bF bP
theorem sT(n:Int)(h1: -999<=n)(h2:n<=999):Ok prog 57 [aI n] ⟨.d (.str (itoaS n)),true⟩:=by
 refine Ok.ret func57 bY (c:=_) rfl ntmps57 aM results57 (by intro _ h;cases h) λw0 X hp=>?_;apply aD;simp;refine cJ (λ|4=>some<| .plain ⟨.d (.str (itoaS n)),true⟩|_=>none) ?_;simp;refine⟨jJ n h1 h2,?_⟩;apply aH;simp
def SY(word letter:aW)(i:Int)(text:aW):Df:=⟨letter++itoaS i,word++[32]++(letter++itoaS i)++text⟩
theorem Wv(word letter:aW)(i:Int)(text:aW)(h1: -999<=i)(h2:i<=999)(hi:(itoaS i).length<=1000)(hw:word.length<=1000)(hle:letter.length<=1000)(ht:text.length<=1000000):Ok prog 142 [.str word,.str letter,aI i,.str text] ⟨.d (SY word letter i text).d,false⟩:=by
 refine Ok.cell hT func142 bY (c:=_) rfl ntmps142 aM results142 (by intro _ h;cases h) λw0 X hp=>?_;apply aD;simp;refine cJ (λ|12=>some<| .plain ⟨.d (.str (itoaS i)),true⟩|_=>none) ?_;simp;refine⟨⟨sT i h1 h2,aE⟩,?_⟩;apply aD;simp;refine⟨⟨⟨aE,aE⟩,aE⟩,?_⟩;apply aH;simp[SY,Df.d]
def qJ(n:Nat)(b:Int)(i:Nat):Nat:=let k:=(i+(bH b (n:Int)).toNat)%n;if b.tmod 2≠0 then n-1-k else k
def oE(l:List Df)(b:Int):List Df:=(List.range l.length).map λi=>l.getD (qJ l.length b i) default
theorem OD(l:List Df)(b:Int)(hl:l.length<=1000000)(h1: -9223372036854775808<=b)(h2:b<=9223372036854775807):Ok prog 55 [eO l,aI b] ⟨.own 2 ((oE l b).map Df.d),true⟩:=by
 refine Ok.ret func55 bY (c:=_) rfl ntmps55 aM results55 (by intro _ h;cases h) λw0 X hp=>?_;have htl:(oE l b).length=l.length:=by simp[oE]
 apply aD;simp;apply aD;simp;apply dT;simp;apply aO;refine aU (ι:=Nat) (λi=>aR [(0,.d (eO l)),(1,.d (aI b)),(5,.ow 5 0 i),(6,.d (aI (i:Nat)))]) (λi=>aL [(5,.row false 2 (((oE l b).take i).map Df.d))]) (λi=>i<=l.length) (λi=>l.length-i) 0 (aA hp [0,1,5,6] [(5,5)]) (Nat.zero_le _) λi hi3=>?_;apply aG;apply aV;simp;refine⟨λh3=>?_,λh3=>?_⟩
 ·apply aF;simp;apply dH;apply aG;have hi:i<l.length:=aE;have ka:=eK b (l.length:Int) h1 h2 aE;have kl:=dG b (l.length:Int) aE;obtain⟨m,hm⟩:∃m:Nat,bH b (l.length:Int)=(m:Int):=⟨(bH b (l.length:Int)).toNat,aE⟩;rw[hm]at ka kl;have hmod:((i:Int)+(m:Int)).tmod (l.length:Int)=(((i+m)%l.length:Nat):Int):=by rw[<-Int.natCast_add];rfl
  have hne:l≠[]:=λe=>by rw[e]at hi;simp at hi
  have hkl:(i+m)%l.length<l.length:=Nat.mod_lt _ aE;obtain⟨k,hk⟩:∃k,(i+m)%l.length=k:=⟨_,rfl⟩;rw[hk]at hmod hkl;have hti:qJ l.length b i=if b.tmod 2≠0 then l.length-1-k else k:=by unfold qJ;rw[hm];simp only[Int.toNat_natCast,hk]
  refine aP (λ|18=>some<| .plain ⟨.d (aI (m:Int)),true⟩|_=>none) ?_;simp[hmod];refine⟨⟨⟨by simpa using ka,aE,aE⟩,hne⟩,?_⟩;refine aY (ι:=Unit) (λw=>aR [(0,.d (eO l)),(1,.d (aI b)),(5,.ow 5 0 i),(6,.d (aI (i:Nat))),(7,.d (aI ((qJ l.length b i:Nat):Int)))]) (λw=>aL [(5,.row false 2 (((oE l b).take i).map Df.d))]) (λw=>True) ?_ λw hc8=>?_
  ·apply aV;simp;refine⟨λh6=>?_,λh6=>?_⟩
   ·have ht:qJ l.length b i=l.length-1-k:=(by rw[hti,if_pos h6]);apply aK;simp;refine⟨⟨aE,aE⟩,?_⟩;exact(aA hp [0,1,5,6,7] [(5,5)] (by simp[ht,show(l.length:Int)- 1-(k:Int)=((l.length-1-k:Nat):Int)by omega]))
   ·have ht:qJ l.length b i=k:=by rw[hti,if_neg (by simpa using h6)]
    apply aF;simp;exact(aA hp [0,1,5,6,7] [(5,5)] (by simp[ht]))
  ·have htn:qJ l.length b i<l.length:=by rw[hti];split<;>omega
   obtain⟨x,hx⟩:∃x,l[qJ l.length b i]=x:=⟨_,rfl⟩;have hns:(oE l b).take (i+1)=(oE l b).take i++[x]:=by
    rw[List.take_succ_eq_append_getElem aE];simp[oE,List.getElem?_eq_getElem htn,hx]
   have hnd:List.take (i+1) (List.map Df.d (oE l b))=List.take i (List.map Df.d (oE l b))++[x.d]:=(by rw[<-List.map_take,hns,List.map_append,List.map_take];rfl);apply aK;simp[htn,hx];refine⟨⟨aE,aE⟩,?_⟩;apply aK;simp;refine⟨aE,?_⟩;refine Pq.mk (i+1) (aA hp [0,1,5,6] [(37,5)] (hH:=by simp[hnd,List.take_take,Df.d])) ?_ ?_
   ·omega
   ·omega
 ·apply bE;simp;apply aD;simp;apply aH;have e:i=l.length:=aE;have htk:List.take l.length (List.map Df.d (oE l b))=List.map Df.d (oE l b):=List.take_of_length_le (by rw[List.length_map,htl];exact Nat.le_refl _);simp[e,htl,htk]
end
structure R3 where
 w:aW
 l:aW
 t:aW
def R3.d(r:R3):DV:=.agg [.str r.w,.str r.l,.str r.t]
def SZ(i:Nat)(rows:List R3):List Df:=rows.map λr=>SY r.w r.l (i:Int) (lU r.t i)
def Ww:List aW:=[[120,35,32,61,61,32,50],[49,32,60,61,32,120,35],[120,35,32,60,32,50],[120,35,32,61,61,32,51]]
def Fi:List aW:=[[97,99,113,117,105,114,101,32,97,35,59,32,97,99,113,117,105,114,101,32,98,35,59,32,114,101,108,101,97,115,101,32,98,35,59,32,114,101,108,101,97,115,101,32,97,35,59],[97,99,113,117,105,114,101,32,98,35,59,32,97,99,113,117,105,114,101,32,97,35,59,32,114,101,108,101,97,115,101,32,97,35,59,32,114,101,108,101,97,115,101,32,98,35,59]]
def Wx:List aW:=[[36,97,32,60,32,36,98],[36,98,32,60,32,36,97]]
def Lz:List aW:=[[36,97,32,61,61,32,36,98],[36,97,32,43,32,36,98,32,60,32,51]]
def Fj:List aW:=[[],[32,119,114,105,116,101,32,102,35,32,55,59]]
def LA:List aW:=[[32,123,32,99,104,101,99,107,32,115,104,97,114,101,100,32,61,61,32,48,59,32,115,104,97,114,101,100,32,61,32,49,59,32,125],[32,123,32,115,104,97,114,101,100,32,61,32,115,104,97,114,101,100,32,43,32,49,59,32,99,104,101,99,107,32,115,104,97,114,101,100,32,60,32,50,59,32,125]]
def LB:List aW:=[[49],[36,97,32,61,61,32,48]]
def tX(v:Nat):aW:=Ww.getD (v / 2%4) []
def iQ(v:Nat):aW:=Fi.getD (v%2) []
def uK(v:Nat):aW:=Wx.getD (v / 2%2) []
def mS(v:Nat):aW:=Lz.getD (v / 2%2) []
def iR(v:Nat):aW:=Fj.getD (v%2) []
def mT(v:Nat):aW:=LA.getD (v%2) []
def mU(v:Nat):aW:=LB.getD (v / 9%2) []
def cI(v:Nat):Nat->List R3
 |0=>[⟨[118,97,114],[120],[32,61,32]++itoaS ((v%2:Nat):Int)++[59]⟩,⟨[99,104,97,110],[99],[32,49,59]⟩,⟨[112,114,111,99],[112],[32,123,32,120,35,32,61,32,120,35,32,43,32,49,59,32,115,101,110,100,32,99,35,32,49,59,32,125]⟩,⟨[116,101,115,116],[116],[32,123,32,103,111,32,112,35,59,32,120,35,32,61,32,120,35,32,43,32,49,59,32,114,101,99,118,32,99,35,32,36,97,59,32,99,104,101,99,107,32]++tX v++[59,32,125]⟩]
 |1=>[⟨[118,97,114],[120],[32,61,32]++itoaS ((v%2:Nat):Int)++[59]⟩,⟨[108,111,99,107],[109],[59]⟩,⟨[99,104,97,110],[99],[32,49,59]⟩,⟨[112,114,111,99],[112],[32,123,32,97,99,113,117,105,114,101,32,109,35,59,32,120,35,32,61,32,120,35,32,43,32,49,59,32,114,101,108,101,97,115,101,32,109,35,59,32,115,101,110,100,32,99,35,32,49,59,32,125]⟩,⟨[116,101,115,116],[116],[32,123,32,103,111,32,112,35,59,32,97,99,113,117,105,114,101,32,109,35,59,32,120,35,32,61,32,120,35,32,43,32,49,59,32,114,101,108,101,97,115,101,32,109,35,59,32,114,101,99,118,32,99,35,32,36,97,59,32,99,104,101,99,107,32]++tX v++[59,32,125]⟩]
 |2=>[⟨[99,104,97,110],[113],[32]++itoaS ((1+v%2:Nat):Int)++[59]⟩,⟨[112,114,111,99],[112],[32,123,32,115,101,110,100,32,113,35,32,49,59,32,115,101,110,100,32,113,35,32,50,59,32,125]⟩,⟨[116,101,115,116],[116],[32,123,32,103,111,32,112,35,59,32,114,101,99,118,32,113,35,32,36,97,59,32,114,101,99,118,32,113,35,32,36,98,59,32,99,104,101,99,107,32]++uK v++[59,32,125]⟩]
 |3=>[⟨[99,104,97,110],[114],[32,48,59]⟩,⟨[99,104,97,110],[99],[32,49,59]⟩,⟨[118,97,114],[120],[32,61,32,48,59]⟩,⟨[112,114,111,99],[112],[32,123,32,114,101,99,118,32,114,35,32,36,118,59,32,120,35,32,61,32,49,59,32,115,101,110,100,32,99,35,32,49,59,32,125]⟩,⟨[112,114,111,99],[111],[32,123,32,114,101,99,118,32,114,35,32,36,118,59,32,120,35,32,61,32,50,59,32,115,101,110,100,32,99,35,32,49,59,32,125]⟩,⟨[116,101,115,116],[116],[32,123,32,103,111,32,112,35,59,32,103,111,32,111,35,59,32,115,101,110,100,32,114,35,32,53,59,32,114,101,99,118,32,99,35,32,36,97,59,32,99,104,101,99,107,32,120,35,32,61,61,32]++itoaS ((1+v%2:Nat):Int)++[59,32,125]⟩]
 |4=>[⟨[108,111,99,107],[97],[59]⟩,⟨[108,111,99,107],[98],[59]⟩,⟨[99,104,97,110],[99],[32,49,59]⟩,⟨[112,114,111,99],[112],[32,123,32,97,99,113,117,105,114,101,32,98,35,59,32,97,99,113,117,105,114,101,32,97,35,59,32,114,101,108,101,97,115,101,32,97,35,59,32,114,101,108,101,97,115,101,32,98,35,59,32,115,101,110,100,32,99,35,32,49,59,32,125]⟩,⟨[116,101,115,116],[116],[32,123,32,103,111,32,112,35,59,32]++iQ v++[32,114,101,99,118,32,99,35,32,36,120,59,32,125]⟩]
 |5=>[⟨[99,104,97,110],[99],[32,49,59]⟩,⟨[112,114,111,99],[112],[32,123,32,100,114,97,119,32,36,97,32]++itoaS ((2+v%2:Nat):Int)++[59,32,115,101,110,100,32,99,35,32,36,97,59,32,125]⟩,⟨[116,101,115,116],[116],[32,123,32,103,111,32,112,35,59,32,100,114,97,119,32,36,98,32,50,59,32,114,101,99,118,32,99,35,32,36,97,59,32,99,104,101,99,107,32]++mS v++[59,32,125]⟩]
 |6=>[⟨[116,101,115,116],[116],[32,123,32,100,114,97,119,32,36,97,32,51,59,32,100,114,97,119,32,36,98,32,50,59,32,99,104,101,99,107,32,36,97,32,42,32,36,98,32,60,32]++itoaS ((1+v%3:Nat):Int)++[59,32,125]⟩]
 |7=>[⟨[116,101,115,116],[116],[32,123,32,110,111,119,32,36,97,59,32,115,108,101,101,112,32,50,59,32,110,111,119,32,36,98,59,32,99,104,101,99,107,32,36,98,32,45,32,36,97,32,60,32]++itoaS ((3+v%3:Nat):Int)++[59,32,125]⟩]
 |8=>[⟨[102,105,108,101],[102],[59]⟩,⟨[116,101,115,116],[116],[32,123,32,119,114,105,116,101,32,102,35,32,55,59]++iR v++[32,114,101,97,100,32,102,35,32,36,97,59,32,99,104,101,99,107,32,36,97,32,61,61,32,55,59,32,125]⟩]
 |9=>[⟨[116,101,115,116],[116],mT v⟩]
 |10=>[⟨[118,97,114],[120],[32,61,32,48,59]⟩,⟨[116,101,115,116],[116],[32,123,32,119,104,105,108,101,32,36,105,32,60,32]++itoaS ((1+v%3:Nat):Int)++[32,123,32,120,35,32,61,32,120,35,32,43,32,49,59,32,36,105,32,61,32,36,105,32,43,32,49,59,32,125,32,99,104,101,99,107,32,120,35,32,61,61,32,50,59,32,125]⟩]
 |11=>[⟨[116,101,115,116],[116],[32,123,32,105,102,32,107,105,110,100,32,61,61,32]++itoaS ((v%3:Nat):Int)++[32,123,32,100,114,97,119,32,36,97,32,50,59,32,99,104,101,99,107,32,36,97,32,61,61,32,48,59,32,125,32,125]⟩]
 |12=>[⟨[114,101,99],[103],[32,123,32,97,32,61,32,49,59,32,98,32,61,32,50,59,32,125]⟩,⟨[112,114,111,99],[104],[32,123,32,103,35,46,97,32,61,32,103,35,46,98,32,43,32,49,59,32,125]⟩,⟨[116,101,115,116],[116],[32,123,32,99,97,108,108,32,104,35,59,32,99,97,108,108,32,104,35,59,32,99,104,101,99,107,32,103,35,46,97,32,61,61,32]++itoaS ((2+v%3:Nat):Int)++[59,32,125]⟩]
 |_=>[⟨[116,101,115,116],[116],[32,123,32,100,114,97,119,32,36,97,32,50,59,32,105,102,32,36,97,32,123,32,97,108,108,111,99,32,53,59,32,115,108,101,101,112,32,50,59,32,110,111,119,32,36,98,59,32,125,32,101,108,115,101,32,123,32,97,108,108,111,99,32]++itoaS ((1+v%9:Nat):Int)++[59,32,125,32,99,104,101,99,107,32]++mU v++[59,32,125]⟩]
def gB(k i v:Nat):List Df:=SZ i (cI v k)
def fN:Df:=⟨[115,104,97,114,101,100],[118,97,114,32,115,104,97,114,101,100,32,61,32,48,59]⟩
def Ta(l:List Int)(st:List Df×Bool)(i:Nat):List Df×Bool:=
 let n:=(dQ l (1+i) 4096).toNat
 let out:=st.1++gB (n%14) i (n / 14)
 if n%14=9/\st.2=false then(out++[fN],true)else(out,st.2)
def xZ(l:List Int):Nat:=1+(dQ l 0 3).toNat
def mN(l:List Int)(k:Nat):List Df×Bool:=(List.range k).foldl (Ta l) ([],false)
def CO(l:List Int):List Df:=oE (mN l (xZ l)).1 (dQ l 4 64)
section
attribute[local simp] kQ.cond Nd.d_eq nd_t nd_dr nd_td ndsD aZ bF bP
theorem Ho(s:aW)(i:Nat):(lU s i).length=s.length:=by simp[lU]
theorem OE(s:aW)(i:Nat)(hi:i<=9)(hs:s.length<=1000000000):Ok prog 143 [.str s,aI i] ⟨.d (.str (lU s i)),true⟩:=by
 refine Ok.ret func143 bY (c:=_) rfl ntmps143 aM results143 (by intro _ h;cases h) λw0 X hp=>?_;apply aD;simp;have iop:∀{op:Op} {d:Option Nat} {t:TypeId} {p:String} {af:Array Edge},nD ⟨d,op,t,p,af,none⟩ op d:=⟨rfl,rfl,rfl⟩;refine RB hT bY bY bY bY (λw=>cP (w:=w) hT (t:=5) rfl) rfl rfl rfl iop iop iop iop iop iop iop iop iop iop iop iop iop iop iop iop iop iop iop iop iop iop iop iop iop iop (s:=s) (i:=i) aM aM hi hs ?_;simp
theorem aAl{l:List R3}{y:DV}(h:y∈l.map R3.d):(aQ y).length=3:=by obtain⟨u,_,rfl⟩:=List.mem_map.1 h;rfl
theorem aAm{l:List R3}:(∀y∈List.map R3.d l,(aQ y).length=3)↔True:=iff_true_intro λ_ h=>aAl h
theorem aAn{u:R3}:(aQ u.d).length=3:=rfl
attribute[local simp] aAm aAn R3.d
theorem IV(i:Nat)(r:List R3):(SZ i r).length=r.length:=by simp[SZ]
theorem aAo(i:Nat)(r:List R3)(hi:i<=9)(hl:r.length<=1000)(hr:∀x∈r,x.w.length<=1000/\x.l.length<=1000/\x.t.length<=1000000):Ok prog 90 [aI i,.sl (r.map R3.d)] ⟨.own 2 ((SZ i r).map Df.d),true⟩:=by
 refine Ok.ret func90 bY (c:=_) rfl ntmps90 aM results90 (by intro _ h;cases h) λw0 X hp=>?_;apply aD;simp;apply aD;simp;apply dT;simp;apply aO;refine aU (ι:=Nat) (λk=>aR [(0,.d (aI (i:Nat))),(1,.d (.sl (r.map R3.d))),(5,.ow 5 0 k),(6,.d (aI (k:Nat)))]) (λk=>aL [(5,.row false 2 (((SZ i r).take k).map Df.d))]) (λk=>k<=r.length) (λk=>r.length-k) 0 (aA hp [0,1,5,6] [(5,5)]) (Nat.zero_le _) λk hi3=>?_;apply aG;apply aV;simp;refine⟨λh3=>?_,λh3=>?_⟩
 ·apply aF;simp;apply dH;have hk:k<r.length:=aE;obtain⟨x,hx⟩:∃x,r[k]=x:=⟨_,rfl⟩;obtain⟨hw,hle,ht⟩:=hr x (hx▸List.getElem_mem hk);have kf:=OE x.t i hi aE;have kd:=Wv x.w x.l (i:Int) (lU x.t i) aE aE (by have:=cC (i:Int);omega) hw hle (by rw[Ho];omega);have hns:(SZ i r).take (k+1)=(SZ i r).take k++[SY x.w x.l (i:Int) (lU x.t i)]:=by
   rw[List.take_succ_eq_append_getElem (by rw[IV];exact hk)];simp[SZ,hx]
  have hnd:List.take (k+1) (List.map Df.d (SZ i r))=List.take k (List.map Df.d (SZ i r))++[(SY x.w x.l (i:Int) (lU x.t i)).d]:=by rw[<-List.map_take,hns,List.map_append,List.map_take];rfl
  refine eW.rd [[31,32,33],[31],[31],[31],[31],[31],[31],[31],[31],[31],[31],[31]] [[],[],[],[],[],[],[],[],[],[],[],[],[],[],[],[],[],[],[31],[32],[33],[5,34]] (λ|31=>some<| .plain ⟨.d (.str (lU x.t i)),true⟩|32=>some<| .plain ⟨.d (SY x.w x.l (i:Int) (lU x.t i)).d,false⟩|_=>none) ?_;simp[hk,hx];refine⟨⟨⟨by simpa using kf,by simpa using kd⟩,aE⟩,?_⟩;apply aK;simp;refine⟨aE,?_⟩;refine Pq.mk (k+1) (aA hp [0,1,5,6] [(34,5)] (hH:=by simp[hnd,List.take_take,Df.d])) ?_ ?_
  ·omega
  ·omega
 ·apply bE;simp;apply aD;simp;apply aH;have e:k=r.length:=aE;have htk:List.take r.length (List.map Df.d (SZ i r))=List.map Df.d (SZ i r):=List.take_of_length_le (by rw[List.length_map,IV];exact Nat.le_refl _);simp[e,htk,IV]
end
section
attribute[local simp] kQ.cond Nd.d_eq nd_t nd_dr nd_td ndsD aZ bF bP aAm aAn R3.d
theorem dA{L:List aW}{k b:Nat}(h:∀w∈L,w.length<=b):(L.getD k []).length<=b:=by
 rw[List.getD_eq_getElem?_getD];cases e:L[k]? with
 |none=>exact Nat.zero_le _
 |some w=>exact h w (List.mem_of_getElem? e)
theorem wC{L:List aW}{k:Nat}(h:k<L.length):(L.map DV.str)[k]?.getD default=.str (L.getD k []):=by
 rw[List.getElem?_map,List.getElem?_eq_getElem h];simp[List.getD_eq_getElem?_getD,h]
theorem Qo:∀w∈Ww,w.length<=60:=bC
theorem Hp:∀w∈Fi,w.length<=60:=bC
theorem Qp:∀w∈Wx,w.length<=60:=bC
theorem LC:∀w∈Lz,w.length<=60:=bC
theorem Hq:∀w∈Fj,w.length<=60:=bC
theorem LD:∀w∈LA,w.length<=60:=bC
theorem LE:∀w∈LB,w.length<=60:=bC
theorem wD(v k:Nat):(cI v k).length<=6/\∀x∈cI v k,x.w.length<=1000/\x.l.length<=1000/\x.t.length<=1000:=by
 have i1:=cC ((v%2:Nat):Int);have i2:=cC ((1+v%2:Nat):Int);have i3:=cC ((2+v%2:Nat):Int);have i4:=cC ((v%3:Nat):Int);have i5:=cC ((1+v%3:Nat):Int);have i6:=cC ((2+v%3:Nat):Int);have i7:=cC ((3+v%3:Nat):Int);have i8:=cC ((1+v%9:Nat):Int);have l0:(tX v).length<=60:=dA Qo;have l1:(iQ v).length<=60:=dA Hp;have l2:(uK v).length<=60:=dA Qp;have l3:(mS v).length<=60:=dA LC;have l4:(iR v).length<=60:=dA Hq;have l5:(mT v).length<=60:=dA LD;have l6:(mU v).length<=60:=dA LE;unfold cI;split<;>(simp only[List.forall_mem_cons,List.length_append,List.length_cons,List.length_nil,List.not_mem_nil,false_imp_iff,implies_true,and_true];(repeat' with_reducible apply And.intro)<;>omega)
theorem mO(k i v:Nat)(hi:i<=9):Ok prog 90 [aI i,.sl ((cI v k).map R3.d)] ⟨.own 2 ((gB k i v).map Df.d),true⟩:=
 aAo i (cI v k) hi (by have:=(wD v k).1;omega) λx hx=>by have:=(wD v k).2 x hx;omega
theorem LF(k i v:Nat)(hk:k<6)(hi:i<=9)(hv:v<=1000000):Ok prog 89 [aI k,aI i,aI v] ⟨.own 2 ((gB k i v).map Df.d),true⟩:=by
 refine Ok.ret func89 bY (c:=_) rfl ntmps89 aM results89 (by intro _ h;cases h) λw0 X hp=>?_;obtain⟨m2,q2⟩:∃m:Nat,v%2=m:=⟨_,rfl⟩;obtain⟨m3,q3⟩:∃m:Nat,v%3=m:=⟨_,rfl⟩;obtain⟨m9,q9⟩:∃m:Nat,v%9=m:=⟨_,rfl⟩;obtain⟨m4,q4⟩:∃m:Nat,v / 2%4=m:=⟨_,rfl⟩;obtain⟨n2,g2⟩:∃m:Nat,v / 2%2=m:=⟨_,rfl⟩;obtain⟨n9,g9⟩:∃m:Nat,v / 9%2=m:=⟨_,rfl⟩;have e2:(v:Int).tmod 2=(m2:Int):=by rw[<-q2];rfl
 have e3:(v:Int).tmod 3=(m3:Int):=by rw[<-q3];rfl
 have e9:(v:Int).tmod 9=(m9:Int):=by rw[<-q9];rfl
 have e4:((v:Int) / 2).tmod 4=(m4:Int):=by rw[<-q4];rfl
 have d2:((v:Int) / 2).tmod 2=(n2:Int):=by rw[<-g2];rfl
 have d9:((v:Int) / 9).tmod 2=(n9:Int):=by rw[<-g9];rfl
 have b2:(v:Int) / 2<=v:=aE;have b9:(v:Int) / 9<=v:=aE;apply aD;simp;apply aG;obtain⟨two,htwo⟩:∃x,tX v=x:=⟨_,rfl⟩;have ltwo:two.length<=60:=by rw[<-htwo];exact dA Qo
 have ctwo:=wC (L:=Ww) (k:=m4) (by show _<4;omega);rw[show Ww.getD m4 []=two by rw[<-htwo];simp only[tX,q2,q4,g2,g9]]at ctwo;simp[Ww]at ctwo;apply aK;simp[e2,e3,e9,e4,d2,d9,ctwo];refine⟨by(repeat' with_reducible apply And.intro)<;>first|omega|rfl,?_⟩;apply aG;obtain⟨order,horder⟩:∃x,iQ v=x:=⟨_,rfl⟩;have lorder:order.length<=60:=by rw[<-horder];exact dA Hp
 have corder:=wC (L:=Fi) (k:=m2) (by show _<2;omega);rw[show Fi.getD m2 []=order by rw[<-horder];simp only[iQ,q2,q4,g2,g9]]at corder;simp[Fi]at corder;apply aK;simp[e2,e3,e9,e4,d2,d9,corder];refine⟨by(repeat' with_reducible apply And.intro)<;>first|omega|rfl,?_⟩;apply aG;obtain⟨row,hrow⟩:∃x,uK v=x:=⟨_,rfl⟩;have lrow:row.length<=60:=by rw[<-hrow];exact dA Qp
 have crow:=wC (L:=Wx) (k:=n2) (by show _<2;omega);rw[show Wx.getD n2 []=row by rw[<-hrow];simp only[uK,q2,q4,g2,g9]]at crow;simp[Wx]at crow;apply aK;simp[e2,e3,e9,e4,d2,d9,crow];refine⟨by(repeat' with_reducible apply And.intro)<;>first|omega|rfl,?_⟩;apply dT;simp;apply aO;apply aV;simp;refine⟨λh5=>?_,λh5=>?_⟩
 ·have ek:k=0:=aE;subst ek;apply aG;obtain⟨P,hP⟩:∃P,gB 0 i v=P:=⟨_,rfl⟩;have kf:=mO 0 i v hi;rw[hP]at kf;have kd:=sT ((m2:Nat):Int) aE aE;have il:=cC ((m2:Nat):Int);obtain⟨dg,hdg⟩:∃x,itoaS ((m2:Nat):Int)=x:=⟨_,rfl⟩;rw[hdg]at kd il;simp only[cI,q2,q3,q9,htwo,hdg]at kf;simp at kf kd;refine aP (λ|33=>some<| .plain ⟨.d (.str dg),true⟩|44=>some<| .plain ⟨.own 2 (P.map Df.d),true⟩|_=>none) ?_;simp[e2,e3,e9,e4,d2,d9];refine⟨by(repeat' with_reducible apply And.intro)<;>first|omega|with_reducible assumption|rfl|simpa using kf,?_⟩;apply aH;simp[hP]
 ·apply aV;simp;refine⟨λh7=>?_,λh7=>?_⟩
  ·have ek:k=1:=aE;subst ek;apply aG;obtain⟨P,hP⟩:∃P,gB 1 i v=P:=⟨_,rfl⟩;have kf:=mO 1 i v hi;rw[hP]at kf;have kd:=sT ((m2:Nat):Int) aE aE;have il:=cC ((m2:Nat):Int);obtain⟨dg,hdg⟩:∃x,itoaS ((m2:Nat):Int)=x:=⟨_,rfl⟩;rw[hdg]at kd il;simp only[cI,q2,q3,q9,htwo,hdg]at kf;simp at kf kd;refine aP (λ|50=>some<| .plain ⟨.d (.str dg),true⟩|62=>some<| .plain ⟨.own 2 (P.map Df.d),true⟩|_=>none) ?_;simp[e2,e3,e9,e4,d2,d9];refine⟨by(repeat' with_reducible apply And.intro)<;>first|omega|with_reducible assumption|rfl|simpa using kf,?_⟩;apply aH;simp[hP]
  ·apply aV;simp;refine⟨λh9=>?_,λh9=>?_⟩
   ·have ek:k=2:=aE;subst ek;apply aG;obtain⟨P,hP⟩:∃P,gB 2 i v=P:=⟨_,rfl⟩;have kf:=mO 2 i v hi;rw[hP]at kf;have kd:=sT ((1+m2:Nat):Int) aE aE;have il:=cC ((1+m2:Nat):Int);obtain⟨dg,hdg⟩:∃x,itoaS ((1+m2:Nat):Int)=x:=⟨_,rfl⟩;rw[hdg]at kd il;simp only[cI,q2,q3,q9,hrow,hdg]at kf;simp at kf kd;refine aP (λ|69=>some<| .plain ⟨.d (.str dg),true⟩|79=>some<| .plain ⟨.own 2 (P.map Df.d),true⟩|_=>none) ?_;simp[e2,e3,e9,e4,d2,d9];refine⟨by(repeat' with_reducible apply And.intro)<;>first|omega|with_reducible assumption|rfl|simpa using kf,?_⟩;apply aH;simp[hP]
   ·apply aV;simp;refine⟨λh11=>?_,λh11=>?_⟩
    ·have ek:k=3:=aE;subst ek;apply aG;obtain⟨P,hP⟩:∃P,gB 3 i v=P:=⟨_,rfl⟩;have kf:=mO 3 i v hi;rw[hP]at kf;have kd:=sT ((1+m2:Nat):Int) aE aE;have il:=cC ((1+m2:Nat):Int);obtain⟨dg,hdg⟩:∃x,itoaS ((1+m2:Nat):Int)=x:=⟨_,rfl⟩;rw[hdg]at kd il;simp only[cI,q2,q3,q9,hdg]at kf;simp at kf kd;refine aP (λ|91=>some<| .plain ⟨.d (.str dg),true⟩|96=>some<| .plain ⟨.own 2 (P.map Df.d),true⟩|_=>none) ?_;simp[e2,e3,e9,e4,d2,d9];refine⟨by(repeat' with_reducible apply And.intro)<;>first|omega|with_reducible assumption|rfl|simpa using kf,?_⟩;apply aH;simp[hP]
    ·apply aV;simp;refine⟨λh13=>?_,λh13=>?_⟩
     ·have ek:k=4:=aE;subst ek;apply aG;obtain⟨P,hP⟩:∃P,gB 4 i v=P:=⟨_,rfl⟩;have kf:=mO 4 i v hi;rw[hP]at kf;simp only[cI,q2,q3,q9,horder]at kf;simp at kf;refine aP (λ|109=>some<| .plain ⟨.own 2 (P.map Df.d),true⟩|_=>none) ?_;simp[e2,e3,e9,e4,d2,d9];refine⟨by(repeat' with_reducible apply And.intro)<;>first|omega|with_reducible assumption|rfl|simpa using kf,?_⟩;apply aH;simp[hP]
     ·apply aF;simp;apply aG;have ek:k=5:=aE;subst ek;obtain⟨P,hP⟩:∃P,gB 5 i v=P:=⟨_,rfl⟩;have kf:=mO 5 i v hi;rw[hP]at kf;obtain⟨five,hfive⟩:∃x,mS v=x:=⟨_,rfl⟩;have lfive:five.length<=60:=by rw[<-hfive];exact dA LC
      have cfive:=wC (L:=Lz) (k:=n2) (by show _<2;omega);rw[show Lz.getD n2 []=five by rw[<-hfive];simp only[mS,q2,q4,g2,g9]]at cfive;simp[Lz]at cfive;have kd:=sT ((2+m2:Nat):Int) aE aE;have il:=cC ((2+m2:Nat):Int);obtain⟨dg,hdg⟩:∃x,itoaS ((2+m2:Nat):Int)=x:=⟨_,rfl⟩;rw[hdg]at kd il;simp only[cI,q2,q3,q9,hfive,hdg]at kf;simp at kf kd;refine eW.rd [[115,119,128],[115,119],[119],[119],[119],[119],[119],[119],[119],[115],[115,119],[115,119],[115,119],[115],[115],[115],[115],[115]] [[],[],[],[],[],[115],[],[],[],[119],[],[],[],[],[],[],[],[],[128],[129]] (λ|115=>some<| .plain ⟨.d (.str dg),true⟩|129=>some<| .plain ⟨.own 2 (P.map Df.d),true⟩|_=>none) ?_;simp[e2,e3,e9,e4,d2,d9,cfive];refine⟨by(repeat' with_reducible apply And.intro)<;>first|omega|with_reducible assumption|rfl|simpa using kf,?_⟩;apply aH;simp[hP]
end
section
attribute[local simp] kQ.cond Nd.d_eq nd_t nd_dr nd_td ndsD aZ bF bP aAm aAn R3.d
theorem LG(k i v:Nat)(hk:k<14)(hi:i<=9)(hv:v<=1000000):Ok prog 54 [aI k,aI i,aI v] ⟨.own 2 ((gB k i v).map Df.d),true⟩:=by
 refine Ok.ret func54 bY (c:=_) rfl ntmps54 aM results54 (by intro _ h;cases h) λw0 X hp=>?_;obtain⟨m2,q2⟩:∃m:Nat,v%2=m:=⟨_,rfl⟩;obtain⟨m3,q3⟩:∃m:Nat,v%3=m:=⟨_,rfl⟩;obtain⟨m9,q9⟩:∃m:Nat,v%9=m:=⟨_,rfl⟩;obtain⟨m4,q4⟩:∃m:Nat,v / 2%4=m:=⟨_,rfl⟩;obtain⟨n2,g2⟩:∃m:Nat,v / 2%2=m:=⟨_,rfl⟩;obtain⟨n9,g9⟩:∃m:Nat,v / 9%2=m:=⟨_,rfl⟩;have e2:(v:Int).tmod 2=(m2:Int):=by rw[<-q2];rfl
 have e3:(v:Int).tmod 3=(m3:Int):=by rw[<-q3];rfl
 have e9:(v:Int).tmod 9=(m9:Int):=by rw[<-q9];rfl
 have e4:((v:Int) / 2).tmod 4=(m4:Int):=by rw[<-q4];rfl
 have d2:((v:Int) / 2).tmod 2=(n2:Int):=by rw[<-g2];rfl
 have d9:((v:Int) / 9).tmod 2=(n9:Int):=by rw[<-g9];rfl
 have b2:(v:Int) / 2<=v:=aE;have b9:(v:Int) / 9<=v:=aE;apply aD;simp;apply dT;simp;apply aO;refine aY (ι:=Unit) (λc=>aR [(0,.d (aI (k:Nat))),(1,.d (aI (i:Nat))),(2,.d (aI (v:Nat))),(7,.d (aI (k:Nat))),(8,.d (.bool (decide (k<6))))]) (λc=>aL []) (λc=>True) ?_ λc hc8=>?_
 ·apply aV;simp;refine⟨λh2=>?_,λh2=>?_⟩
  ·apply aF;simp;exact(aA hp [0,1,2,7,8] [] (by simp[h2]))
  ·apply aV;simp;refine⟨λh3=>?_,λh3=>?_⟩
   ·apply aF;simp;exact(aA hp [0,1,2,7,8] [] (by simp[show k<6 by omega,h3]))
   ·apply aV;simp;refine⟨λh4=>?_,λh4=>?_⟩
    ·apply aF;simp;exact(aA hp [0,1,2,7,8] [] (by simp[show k<6 by omega,h4]))
    ·apply aV;simp;refine⟨λh5=>?_,λh5=>?_⟩
     ·apply aF;simp;exact(aA hp [0,1,2,7,8] [] (by simp[show k<6 by omega,h5]))
     ·apply aV;simp;refine⟨λh6=>?_,λh6=>?_⟩
      ·apply aF;simp;exact(aA hp [0,1,2,7,8] [] (by simp[show k<6 by omega,h6]))
      ·apply aK;simp;exact(aA hp [0,1,2,7,8] [] (by have e6:(k<6)=((k:Int)=5):=propext aE;simp[e6]))
 ·apply aJ;simp;refine⟨λh8=>?_,λh8=>?_⟩
  ·apply aG;have k6:k<6:=h8;obtain⟨P,hP⟩:∃P,gB k i v=P:=⟨_,rfl⟩;have kt:=LF k i v k6 hi hv;rw[hP]at kt;refine aP (λ|18=>some<| .plain ⟨.own 2 (P.map Df.d),true⟩|_=>none) ?_;simp;refine⟨kt,?_⟩;apply aH;simp[hP]
  ·apply aV;simp;refine⟨λh9=>?_,λh9=>?_⟩
   ·have ek:k=6:=aE;subst ek;apply aG;obtain⟨P,hP⟩:∃P,gB 6 i v=P:=⟨_,rfl⟩;have kf:=mO 6 i v hi;rw[hP]at kf;have kd:=sT ((1+m3:Nat):Int) aE aE;have il:=cC ((1+m3:Nat):Int);obtain⟨dg,hdg⟩:∃x,itoaS ((1+m3:Nat):Int)=x:=⟨_,rfl⟩;rw[hdg]at kd il;simp only[cI,q2,q3,q9,hdg]at kf;simp at kf kd;refine aP (λ|25=>some<| .plain ⟨.d (.str dg),true⟩|30=>some<| .plain ⟨.own 2 (P.map Df.d),true⟩|_=>none) ?_;simp[e2,e3,e9,e4,d2,d9];refine⟨by(repeat' with_reducible apply And.intro)<;>first|omega|with_reducible assumption|rfl|simpa using kf,?_⟩;apply aH;simp[hP]
   ·apply aV;simp;refine⟨λh11=>?_,λh11=>?_⟩
    ·have ek:k=7:=aE;subst ek;apply aG;obtain⟨P,hP⟩:∃P,gB 7 i v=P:=⟨_,rfl⟩;have kf:=mO 7 i v hi;rw[hP]at kf;have kd:=sT ((3+m3:Nat):Int) aE aE;have il:=cC ((3+m3:Nat):Int);obtain⟨dg,hdg⟩:∃x,itoaS ((3+m3:Nat):Int)=x:=⟨_,rfl⟩;rw[hdg]at kd il;simp only[cI,q2,q3,q9,hdg]at kf;simp at kf kd;refine aP (λ|37=>some<| .plain ⟨.d (.str dg),true⟩|42=>some<| .plain ⟨.own 2 (P.map Df.d),true⟩|_=>none) ?_;simp[e2,e3,e9,e4,d2,d9];refine⟨by(repeat' with_reducible apply And.intro)<;>first|omega|with_reducible assumption|rfl|simpa using kf,?_⟩;apply aH;simp[hP]
    ·apply aV;simp;refine⟨λh13=>?_,λh13=>?_⟩
     ·have ek:k=8:=aE;subst ek;apply aG;obtain⟨P,hP⟩:∃P,gB 8 i v=P:=⟨_,rfl⟩;have kf:=mO 8 i v hi;rw[hP]at kf;obtain⟨eight,height⟩:∃x,iR v=x:=⟨_,rfl⟩;have leight:eight.length<=60:=by rw[<-height];exact dA Hq
      have ceight:=wC (L:=Fj) (k:=m2) (by show _<2;omega);rw[show Fj.getD m2 []=eight by rw[<-height];simp only[iR,q2,q4,g2,g9]]at ceight;simp[Fj]at ceight;simp only[cI,q2,q3,q9,height]at kf;simp at kf;refine aP (λ|56=>some<| .plain ⟨.own 2 (P.map Df.d),true⟩|_=>none) ?_;simp[e2,e3,e9,e4,d2,d9,ceight];refine⟨by(repeat' with_reducible apply And.intro)<;>first|omega|with_reducible assumption|rfl|simpa using kf,?_⟩;apply aH;simp[hP]
     ·apply aV;simp;refine⟨λh15=>?_,λh15=>?_⟩
      ·have ek:k=9:=aE;subst ek;apply aG;obtain⟨P,hP⟩:∃P,gB 9 i v=P:=⟨_,rfl⟩;have kf:=mO 9 i v hi;rw[hP]at kf;obtain⟨nine,hnine⟩:∃x,mT v=x:=⟨_,rfl⟩;have lnine:nine.length<=60:=by rw[<-hnine];exact dA LD
       have cnine:=wC (L:=LA) (k:=m2) (by show _<2;omega);rw[show LA.getD m2 []=nine by rw[<-hnine];simp only[mT,q2,q4,g2,g9]]at cnine;simp[LA]at cnine;simp only[cI,q2,q3,q9,hnine]at kf;simp at kf;refine aP (λ|67=>some<| .plain ⟨.own 2 (P.map Df.d),true⟩|_=>none) ?_;simp[e2,e3,e9,e4,d2,d9,cnine];refine⟨by(repeat' with_reducible apply And.intro)<;>first|omega|with_reducible assumption|rfl|simpa using kf,?_⟩;apply aH;simp[hP]
      ·apply aV;simp;refine⟨λh17=>?_,λh17=>?_⟩
       ·have ek:k=10:=aE;subst ek;apply aG;obtain⟨P,hP⟩:∃P,gB 10 i v=P:=⟨_,rfl⟩;have kf:=mO 10 i v hi;rw[hP]at kf;have kd:=sT ((1+m3:Nat):Int) aE aE;have il:=cC ((1+m3:Nat):Int);obtain⟨dg,hdg⟩:∃x,itoaS ((1+m3:Nat):Int)=x:=⟨_,rfl⟩;rw[hdg]at kd il;simp only[cI,q2,q3,q9,hdg]at kf;simp at kf kd;refine aP (λ|75=>some<| .plain ⟨.d (.str dg),true⟩|80=>some<| .plain ⟨.own 2 (P.map Df.d),true⟩|_=>none) ?_;simp[e2,e3,e9,e4,d2,d9];refine⟨by(repeat' with_reducible apply And.intro)<;>first|omega|with_reducible assumption|rfl|simpa using kf,?_⟩;apply aH;simp[hP]
       ·apply aV;simp;refine⟨λh19=>?_,λh19=>?_⟩
        ·have ek:k=11:=aE;subst ek;apply aG;obtain⟨P,hP⟩:∃P,gB 11 i v=P:=⟨_,rfl⟩;have kf:=mO 11 i v hi;rw[hP]at kf;have kd:=sT ((m3:Nat):Int) aE aE;have il:=cC ((m3:Nat):Int);obtain⟨dg,hdg⟩:∃x,itoaS ((m3:Nat):Int)=x:=⟨_,rfl⟩;rw[hdg]at kd il;simp only[cI,q2,q3,q9,hdg]at kf;simp at kf kd;refine aP (λ|86=>some<| .plain ⟨.d (.str dg),true⟩|91=>some<| .plain ⟨.own 2 (P.map Df.d),true⟩|_=>none) ?_;simp[e2,e3,e9,e4,d2,d9];refine⟨by(repeat' with_reducible apply And.intro)<;>first|omega|with_reducible assumption|rfl|simpa using kf,?_⟩;apply aH;simp[hP]
        ·apply aV;simp;refine⟨λh21=>?_,λh21=>?_⟩
         ·have ek:k=12:=aE;subst ek;apply aG;obtain⟨P,hP⟩:∃P,gB 12 i v=P:=⟨_,rfl⟩;have kf:=mO 12 i v hi;rw[hP]at kf;have kd:=sT ((2+m3:Nat):Int) aE aE;have il:=cC ((2+m3:Nat):Int);obtain⟨dg,hdg⟩:∃x,itoaS ((2+m3:Nat):Int)=x:=⟨_,rfl⟩;rw[hdg]at kd il;simp only[cI,q2,q3,q9,hdg]at kf;simp at kf kd;refine aP (λ|100=>some<| .plain ⟨.d (.str dg),true⟩|105=>some<| .plain ⟨.own 2 (P.map Df.d),true⟩|_=>none) ?_;simp[e2,e3,e9,e4,d2,d9];refine⟨by(repeat' with_reducible apply And.intro)<;>first|omega|with_reducible assumption|rfl|simpa using kf,?_⟩;apply aH;simp[hP]
         ·apply aF;simp;apply aG;have ek:k=13:=aE;subst ek;obtain⟨P,hP⟩:∃P,gB 13 i v=P:=⟨_,rfl⟩;have kf:=mO 13 i v hi;rw[hP]at kf;obtain⟨last,hlast⟩:∃x,mU v=x:=⟨_,rfl⟩;have llast:last.length<=60:=by rw[<-hlast];exact dA LE
          have clast:=wC (L:=LB) (k:=n9) (by show _<2;omega);rw[show LB.getD n9 []=last by rw[<-hlast];simp only[mU,q2,q4,g2,g9]]at clast;simp[LB]at clast;have kd:=sT ((1+m9:Nat):Int) aE aE;have il:=cC ((1+m9:Nat):Int);obtain⟨dg,hdg⟩:∃x,itoaS ((1+m9:Nat):Int)=x:=⟨_,rfl⟩;rw[hdg]at kd il;simp only[cI,q2,q3,q9,hlast,hdg]at kf;simp at kf kd;refine eW.rd [[110,113,122],[113],[113],[113],[113],[113],[113],[110],[110,113],[110,113],[110,113],[110],[110]] [[],[],[],[],[110],[],[],[113],[],[],[],[],[],[],[],[],[122],[123]] (λ|110=>some<| .plain ⟨.d (.str dg),true⟩|123=>some<| .plain ⟨.own 2 (P.map Df.d),true⟩|_=>none) ?_;simp[e2,e3,e9,e4,d2,d9,clast];refine⟨by(repeat' with_reducible apply And.intro)<;>first|omega|with_reducible assumption|rfl|simpa using kf,?_⟩;apply aH;simp[hP]
end
section
attribute[local simp] kQ.cond Nd.d_eq nd_t nd_dr nd_td ndsD aZ bF
theorem Qq(ts:List Nd)(b:Int->Bool):∀(f i:Nat) (M:List Nat),M.Nodup->(∀k∈M,k<ts.length)->(gQ ts b f i M).Nodup/\∀k∈gQ ts b f i M,k<ts.length
 |0,_,_,hn,hk=>⟨hn,hk⟩
 |f+1,i,M,hn,hk=>by
  rw[Bk];have key:∀(us:List cZ) (M:List Nat),M.Nodup->(∀k∈M,k<ts.length)->(us.foldl (kE ts b (gQ ts b f)) M).Nodup/\∀k∈us.foldl (kE ts b (gQ ts b f)) M,k<ts.length:=λus=>by
   induction us with
   |nil=>exact λM h1 h2=>⟨h1,h2⟩
   |cons u r ihu=>
    intro M h1 h2;rw[List.foldl_cons];have h3:(kE ts b (gQ ts b f) M u).Nodup/\∀k∈kE ts b (gQ ts b f) M u,k<ts.length:=by
     unfold kE;split
     ·rename_i k hk;split
      ·rename_i hb;refine Qq ts b f k (M++[k]) ?_ λk' hk'=>?_
       ·rw[List.nodup_append];exact⟨h1,aM,λx hx y hy e=>by simp at hy;subst hy;subst e;exact hb.2 hx⟩
       ·rcases List.mem_append.1 hk' with h|h
        ·exact h2 k' h
        ·simp at h;subst h;exact vS hk
      ·exact⟨h1,h2⟩
     ·exact⟨h1,h2⟩
    exact ihu _ h3.1 h3.2
  exact key _ M hn hk
theorem BB(ts:List Nd)(b:Int->Bool)(i:Nat):(jI ts b i).Nodup/\∀k∈jI ts b i,k<ts.length:=Qq ts b _ i [] List.nodup_nil aM
def CP(_:Int):Bool:=true
def wE(i:Nat)(S:List Nat):List Nat:=S.filter λk=>decide (k≠i)
def sliceAt(l:List Df)(ts:List Nd)(i:Nat):List Df:=l.getD i default::(wE i (jI ts CP i)).map λk=>l.getD k default
def Fk(l:List Df)(name:aW):List Df×Int:=
 if(mK l).2.2≠0 then([],(mK l).2.2)
 else match oH (mK l).1 name with
  |none=>([],6)
  |some i=>(bV (sliceAt l (mK l).1 i),0)
theorem Tb{n i:Nat}{S:List Nat}(h1:S.Nodup)(h2:∀k∈S,k<n)(hi:i<n):(wE i S).length<n:=by
 have h3:(i::wE i S).Nodup:=List.nodup_cons.2 ⟨λh=>by simp[wE]at h,h1.filter _⟩;have:=Ej h3 (m:=List.range n) λk hk=>by
  rcases List.mem_cons.1 hk with rfl|hk
  ·exact List.mem_range.2 hi
  ·exact List.mem_range.2 (h2 k (List.mem_filter.1 hk).1)
 rw[List.length_cons,List.length_range]at this;omega
theorem Fl{α β:Type}{f:α->β}:∀{l:List α},(l.map f).Nodup->∀a∈l,∀b∈l,f a=f b->a=b
 |x::l,h,a,ha,b,hb,e=>by
  obtain⟨h1,h2⟩:=List.nodup_cons.1 h;rcases List.mem_cons.1 ha with ea|ha'
  ·rcases List.mem_cons.1 hb with eb|hb'
   ·rw[ea,eb]
   ·exact absurd (List.mem_map.2 ⟨b,hb',by rw[<-e,ea]⟩) h1
  ·rcases List.mem_cons.1 hb with eb|hb'
   ·exact absurd (List.mem_map.2 ⟨a,ha',by rw[e,eb]⟩) h1
   ·exact Fl h2 a ha' b hb' e
theorem OF{l m:List Df}(hp:l.Perm m)(hn:(l.map Df.name).Nodup):bV l=bV m:=by
 refine List.Perm.eq_of_pairwise (le:=λa b:Df=>a.name<=b.name) (λa b ha hb h1 h2=>?_) (pA l) (pA m) (((qI l).trans hp).trans (qI m).symm);exact Fl hn a ((qI l).mem_iff.1 ha) b (hp.mem_iff.2 ((qI m).mem_iff.1 hb)) (List.le_antisymm h1 h2)
theorem Hr:∀(l:List Df) (ts:List Nd),(Db ts l).2.2=0->(ts.map Nd.text).Nodup->(Db ts l).1.map Nd.text=ts.map Nd.text++l.map Df.name/\((Db ts l).1.map Nd.text).Nodup
 |[],ts,_,h=>⟨by simp[Db],by simpa [Db]using h⟩
 |d::r,ts,he,h=>by
  by_cases e:IH ts d=0
  ·rw[II e]at he|-;have ht:(parseS d.text).1.text=d.name/\oH ts d.name=none:=by
    unfold IH at e;split at e
    ·exact absurd e (by assumption)
    ·split at e
     ·cases e
     ·rename_i h1;split at e
      ·cases e
      ·rename_i h2;exact⟨Classical.byContradiction h1,by cases q:oH ts d.name with
        |none=>rfl
        |some j=>exact absurd (.inl (by rw[q];rfl)) h2⟩
   obtain⟨h1,h2⟩:=Hr r (ts++[(parseS d.text).1]) he (by
    rw[List.map_append,List.nodup_append];refine⟨h,aM,λx hx y hy e=>?_⟩;simp at hy;subst hy;subst e;rw[ht.1]at hx;obtain⟨t,ht',hte⟩:=List.mem_map.1 hx;have:=ht.2;unfold oH at this;rw[List.findIdx?_eq_none_iff]at this;have:=this t ht';simp[hte]at this)
   refine⟨?_,h2⟩;rw[h1,List.map_append];simp[ht.1]
  ·rw[tV e]at he;exact absurd he e
theorem rE{l:List Df}(h:(dK l).2.2=0):(dK l).1.map Nd.text=l.map Df.name/\(l.map Df.name).Nodup:=by
 unfold dK at h|-;split at h
 ·cases h
 ·rename_i h24;rw[if_neg h24];obtain⟨h1,h2⟩:=Hr l [] h aM;exact⟨by simpa using h1,by rw[h1]at h2;simpa using h2⟩
theorem IW{l:List Df}(h:(mK l).2.2=0):(dK l).2.2=0:=by
 unfold mK at h;split at h
 ·exact h
 ·rename_i h0;exact Classical.byContradiction h0
theorem OG{α:Type}{l:List α}{j:Nat}(h:j<l.length):l.Perm (l[j]::l.eraseIdx j):=by
 have e:l=l.take j++l[j]::l.drop (j+1):=by
  have:=List.take_append_drop j l;rw[List.drop_eq_getElem_cons h]at this;exact this.symm
 have e2:l.eraseIdx j=l.take j++l.drop (j+1):=List.eraseIdx_eq_take_drop_succ ..;rw[e2]
 conv=>lhs;rw[e]
 exact List.perm_middle
theorem YG{S:List Nat}{j:Nat}(h:j<(An S).length):(An S)[j]=aI ((S[j]'(by simpa [An]using h):Nat):Int):=by simp[An]
theorem Tc(S:List Nat)(j:Nat):(An S).eraseIdx j=An (S.eraseIdx j):=by
 unfold An;rw[List.eraseIdx_eq_take_drop_succ,List.eraseIdx_eq_take_drop_succ,List.map_append,List.map_take,List.map_drop]
theorem Td(S:List Nat)(j:Nat):(FJ S).eraseIdx j=FJ (S.eraseIdx j):=by
 unfold FJ;rw[List.eraseIdx_eq_take_drop_succ,List.eraseIdx_eq_take_drop_succ,List.map_append,List.map_take,List.map_drop]
theorem aAp{σ:List (Nat×Nat)}{n id:Nat}:ren σ (n+1) (.it id)=match dP σ id with|some j=>.it j|none=>.junk:=rfl
attribute[local simp] Tc Td aAp
theorem LH{S:List Nat}{i j:Nat}(h:j<S.length):(wE i S).Perm (if S[j]=i then wE i (S.eraseIdx j)else S[j]::wE i (S.eraseIdx j)):=by
 have:=(OG h).filter λk=>decide (k≠i);refine List.Perm.trans this ?_;by_cases e:S[j]=i
 ·rw[if_pos e,List.filter_cons_of_neg (by simpa using e)];exact List.Perm.refl _
 ·rw[if_neg e,List.filter_cons_of_pos (by simpa using e)];exact List.Perm.refl _
theorem Cy{l:List Df}(h:(l.map Df.name).Nodup):∀{S:List Nat},S.Nodup->(∀k∈S,k<l.length)->((S.map λk=>l.getD k default).map Df.name).Nodup
 |[],_,_=>aM
 |a::S,hn,hk=>by
  obtain⟨h1,h2⟩:=List.nodup_cons.1 hn;rw[List.map_cons,List.map_cons,List.nodup_cons];refine⟨λhm=>?_,Cy h h2 λk hk'=>hk k (List.mem_cons_of_mem _ hk')⟩;rw[List.map_map]at hm;obtain⟨b,hb,e⟩:=List.mem_map.1 hm;have ha:=hk a (List.mem_cons_self ..);have hb':=hk b (List.mem_cons_of_mem _ hb);simp only[Function.comp,List.getD_eq_getElem?_getD,List.getElem?_eq_getElem ha,List.getElem?_eq_getElem hb',Option.getD_some]at e;have this:=List.pairwise_iff_getElem.1 h;have hab:a≠b:=λq=>h1 (q▸hb);rcases Nat.lt_or_gt_of_ne hab with q|q
  ·exact this a b (by simpa using ha) (by simpa using hb') q (by simpa using e.symm)
  ·exact this b a (by simpa using hb') (by simpa using ha) q (by simpa using e)
theorem qK(l:List Df)(ts:List Nd)(i:Nat):sliceAt l ts i=(i::wE i (jI ts CP i)).map λk=>l.getD k default:=rfl
theorem yG{l:List Df}{ts:List Nd}{i:Nat}(h:(l.map Df.name).Nodup)(hl:ts.length=l.length)(hi:i<ts.length):((sliceAt l ts i).map Df.name).Nodup:=by
 obtain⟨h1,h2⟩:=BB ts CP i;rw[qK];refine Cy h (List.nodup_cons.2 ⟨λh=>by simp[wE]at h,h1.filter _⟩) λk hk=>?_;rcases List.mem_cons.1 hk with rfl|hk
 ·omega
 ·have:=h2 k (List.mem_filter.1 hk).1;omega
theorem LI(l:List Df)(name:aW)(hl:l.length<40):Ok prog 20 [eO l,.str name] ⟨.tup [.own 2 ((Fk l name).1.map Df.d),.d (aI (Fk l name).2)],true⟩:=by
 refine Ok.two func20 bY (c:=_) rfl ntmps20 aM results20 rfl λw0 X hp=>?_;obtain⟨C,hC⟩:∃C,mK l=C:=⟨_,rfl⟩;obtain⟨ts,hts⟩:∃ts,C.1=ts:=⟨_,rfl⟩;have kc:=EU l;have hS:Fk l name=if C.2.2≠0 then([],C.2.2)else match oH ts name with|none=>([],6)|some i=>(bV (sliceAt l ts i),0):=by rw[<-hts,<-hC];rfl
 have h1C:=IS l;have hok:=IW (l:=l);have sp:=tW l;rw[hC]at kc hok h1C;rw[hts]at kc h1C;rw[<-h1C]at sp;have hw:∀t∈ts,weighN t<=1000000000:=λt ht=>by obtain⟨s,rfl⟩:=sp.1 t ht;exact iJ s
 apply aD;simp;refine cJ (λ|15=>some<| .plain ⟨.tup [.d (yV ts),.d (aI C.2.1),.d (aI C.2.2)],false⟩|_=>none) ?_;simp[bD];refine⟨⟨by simpa using kc,by simp[yV]⟩,?_⟩;simp[yV];apply aG;apply aV;simp;refine⟨λh2=>?_,λh2=>?_⟩
 ·rw[if_pos h2]at hS;apply aD;simp;apply aH;simp[hS]
 ·have h2':C.2.2=0:=by simpa using h2
  rw[if_neg (by simpa using h2')]at hS;have hlen:=(sp.2.2 (hok h2')).2.1;apply aF;simp;apply aD;simp[In,bD];apply aG;apply aV;simp;refine⟨λh5=>?_,λh5=>?_⟩
  ·have hn:oH ts name=none:=by simpa using h5
   rw[hn]at hS;dsimp only at hS;apply aD;simp;apply aH;simp[hS]
  ·obtain⟨i,hi⟩:∃i,oH ts name=some i:=by cases h:oH ts name<;>simp_all
   rw[hi]at hS;dsimp only at hS;have hil:i<ts.length:=vS hi;have hat:Xj ts name=(i:Nat):=by unfold Xj;rw[hi];rfl
   have hrn:=BB ts CP i;apply aF;simp;apply aD;simp[hat,(show i<l.length by omega)];apply eA;have kre:=El ts CP 52 i hw (λk=>Se k) hil;refine aP (λ|38=>some<| .plain ⟨.d (.mp (An (jI ts CP i)) (FJ (jI ts CP i))),false⟩|_=>none) ?_;simp[hat];refine⟨by simpa [yV]using kre,?_⟩;apply aO;refine aU (ι:=List Nat×List Df) (λ⟨S,out⟩=>aR [(0,.d (eO l)),(9,.d (aI (i:Nat))),(11,.ow 35 0 out.length),(39,.it 39)]) (λ⟨S,out⟩=>aL [(35,.row false 2 (out.map Df.d)),(39,.iter false (An S) (FJ S))]) (λ⟨S,out⟩=>(out++(wE i S).map λk=>l.getD k default).Perm (sliceAt l ts i)/\(∀k∈S,k<l.length)) (λ⟨S,out⟩=>S.length) (jI ts CP i,[l.getD i default]) (aA hp [0,9,11,39] [(35,35),(39,39)] (hH:=by simp[List.getElem?_eq_getElem (show i<l.length by omega)])) (⟨by simp[sliceAt],λk hk=>by have:=hrn.2 k hk;omega⟩) λ⟨S,out⟩ hi9=>?_;obtain⟨hi9,hi9k⟩:=hi9;have hol:out.length<40:=by
    have e1:=hi9.length_eq;have e2:=Tb hrn.1 hrn.2 hil;simp only[qK,List.length_append,List.length_map,List.length_cons]at e1;omega
   refine HZ (it:=39) (id:=39) (ks:=An S) (vs:=FJ S) rfl rfl rfl rfl rfl rfl rfl rfl rfl rfl rfl rfl rfl rfl rfl bC bC aM aM (λhk=>?_) (λj hj=>?_)
   ·have hS0:S=[]:=by simpa [An]using hk
    subst hS0;simp;apply aG;have hpo:out.Perm (sliceAt l ts i):=by simpa [wE]using hi9
    have ks:=IQ out hol;have he:bV out=bV (sliceAt l ts i):=by
     have hns:=yG (ts:=ts) (i:=i) (rE (hok h2')).2 hlen hil;exact(OF hpo.symm hns).symm
    refine aP (λ|55=>some<| .plain ⟨.own 2 ((bV out).map Df.d),true⟩|_=>none) ?_;simp;refine⟨by simpa using ks,?_⟩;apply aH;have hsl:=fT out;have htk:List.take out.length (List.map Df.d (bV out))=List.map Df.d (bV out):=List.take_of_length_le (by rw[List.length_map,hsl];exact Nat.le_refl _);rw[he]at hsl htk;simp[hS,he,hsl,htk]
   ·have hjS:j<S.length:=by simpa [An]using hj
    obtain⟨k,hkj⟩:∃k,S[j]=k:=⟨_,rfl⟩;have hkl:k<l.length:=hi9k k (by rw[<-hkj];exact List.getElem_mem hjS);have hpe:=LH (i:=i) hjS;simp[YG,hkj];apply aV;simp;refine⟨λh11=>?_,λh11=>?_⟩
    ·apply aK;simp[hkl];refine⟨aE,?_⟩;refine Pq.mk (S.eraseIdx j,out++[l[k]]) (aA hp [0,9,11,39] [(53,35),(39,39)]) ?_ ?_
     ·refine⟨?_,λk' hk'=>hi9k k' ((List.eraseIdx_sublist S j).subset hk')⟩;rw[hkj,if_neg aE]at hpe;have hpm:=(hpe.map λk=>l.getD k default).append_left out;refine List.Perm.trans ?_ (hpm.symm.trans hi9);simp[List.getElem?_eq_getElem hkl]
     ·have:=List.length_eraseIdx_of_lt hjS;show(S.eraseIdx j).length<S.length;omega
    ·apply aF;simp;refine Pq.mk (S.eraseIdx j,out) (aA hp [0,9,11,39] [(35,35),(39,39)]) ?_ ?_
     ·refine⟨?_,λk' hk'=>hi9k k' ((List.eraseIdx_sublist S j).subset hk')⟩;rw[hkj,if_pos aE]at hpe;have hpm:=(hpe.map λk=>l.getD k default).append_left out;exact hpm.symm.trans hi9
     ·have:=List.length_eraseIdx_of_lt hjS;show(S.eraseIdx j).length<S.length;omega
end
theorem mP:STO (λa b:aW=>Op.bytesLess a b):=by
 refine⟨λa=>?_,λa b c h1 h2=>?_,λa b h1 h2=>?_⟩
 ·rw[bytesLess_eq,decide_eq_false_iff_not];exact List.lt_irrefl a
 ·rw[bytesLess_eq,decide_eq_true_eq]at*;exact List.lt_trans h1 h2
 ·rw[bytesLess_eq,decide_eq_false_iff_not,List.not_lt]at h1 h2;exact List.le_antisymm h2 h1
theorem Hs{α:Type}[DecidableEq α]:∀l:List α,(eM l).Sublist l
 |a::b::r=>by
  have ih:=Hs (b::r);simp only[eM];split
  ·exact ih.cons _
  ·exact ih.cons_cons _
 |[]=>List.Sublist.refl _
 |[_]=>List.Sublist.refl _
theorem rF{α:Type}[DecidableEq α]:∀{l:List α},l.Nodup->eM l=l
 |a::b::r,h=>by
  have h1:=List.nodup_cons.1 h;simp only[eM];rw[if_neg (λe=>h1.1 (by rw[e];exact List.mem_cons_self ..)),rF h1.2]
 |[],_=>rfl
 |[_],_=>rfl
theorem IX{α:Type}{lt:α->α->Bool}(O:STO lt){l:List α}(h:fB lt l):l.Nodup:=h.imp λ{a b} h e=>by subst e;rw[O.irrefl]at h;cases h
theorem YH{f:List aW}:(eM (dS f)).length<f.length↔¬f.Nodup:=by
 have hp:(dS f).Perm f:=List.mergeSort_perm f _;have hl:=jW f;constructor
 ·intro h hn;rw[rF (hp.nodup_iff.2 hn),hl]at h;exact Nat.lt_irrefl _ h
 ·intro h;refine Classical.byContradiction λhc=>h ?_;have hle:=tN (dS f);have e:eM (dS f)=dS f:=(Hs (dS f)).eq_of_length aE;have hr:fB (λa b:aW=>Op.bytesLess a b) (eM (dS f)):=oX mP ((oW f).imp λ{a b} h=>by
   rw[bytesLess_eq,decide_eq_false_iff_not,List.not_lt];exact h)
  rw[e]at hr;exact hp.nodup_iff.1 (IX mP hr)
def bO(d:Df):Nd:=(parseS d.text).1
theorem OH{l:List Df}{ts:List Nd}{i:Nat}{d:Df}(hd:l[i]? =some d)(ht:ts.map Nd.text=(l.take i).map Df.name):fH l d.name<(i:Int)↔(oH ts d.name).isSome=true:=by
 obtain⟨hi,hde⟩:=List.getElem?_eq_some_iff.1 hd;have hlt:ts.length=i:=by have:=congrArg List.length ht;simpa [Nat.min_eq_left (Nat.le_of_lt hi)]using this
 have hat:∀j (hj:j<ts.length),ts[j].text=(l[j]'aE).name:=λj hj=>by
  have:=congrArg (·[j]?) ht;simpa [List.getElem?_eq_getElem hj,List.getElem?_take,show j<i by omega,List.getElem?_eq_getElem (show j<l.length by omega)]using this
 cases q:l.findIdx? (λe=>decide (e.name=d.name))with
 |none=>
  rw[List.findIdx?_eq_none_iff]at q;have:=q d (List.mem_of_getElem? hd);simp at this
 |some j=>
  have e:fH l d.name=(j:Nat):=by unfold fH;rw[oD,q];rfl
  obtain⟨hj,hj1,hj2⟩:=List.findIdx?_eq_some_iff_getElem.1 q;rw[e];constructor
  ·intro h;have hji:j<i:=aE;cases r:oH ts d.name with
   |some _=>rfl
   |none=>
    unfold oH at r;rw[List.findIdx?_eq_none_iff]at r;have:=r ts[j] (List.getElem_mem aE);rw[hat j aE]at this;simp at hj1 this;exact absurd hj1.symm this
  ·intro h;obtain⟨k,hk⟩:=Option.isSome_iff_exists.1 h;unfold oH at hk;obtain⟨hk1,hk2,_⟩:=List.findIdx?_eq_some_iff_getElem.1 hk;simp at hk2;rw[hat k hk1]at hk2;have:¬k<j:=λhkj=>by
    have:=hj2 k hkj;simp[hk2]at this
   omega
theorem Te{l:List Df}{ts:List Nd}{i:Nat}{d:Df}(hd:l[i]? =some d)(ht:ts.map Nd.text=(l.take i).map Df.name):IH ts d=mM l d i:=by
 unfold IH mM;have h1:=OH hd ht;have h2:=YH (f:=bL (parseS d.text).1);by_cases a:(parseS d.text).2.2≠0
 ·rw[if_pos a,if_pos a]
 ·rw[if_neg a,if_neg a];by_cases b:(parseS d.text).1.text≠d.name
  ·rw[if_pos b,if_pos b]
  ·rw[if_neg b,if_neg b];by_cases c:fH l d.name<(i:Int)
   ·rw[if_pos c,if_pos (.inl (h1.1 c))]
   ·rw[if_neg c];by_cases e:(bL (parseS d.text).1).Nodup
    ·rw[if_pos e,if_neg];rintro(h|h)
     ·exact c (h1.2 h)
     ·exact h2.1 h e
    ·rw[if_neg e,if_pos (.inr (h2.2 e))]
theorem Wy{ts:List Nd}{d:Df}(e:IH ts d=0):(bO d).text=d.name:=by
 unfold IH at e;split at e
 ·exact absurd e (by assumption)
 ·split at e
  ·cases e
  ·rename_i h1;exact Classical.byContradiction h1
theorem Ht{l:List Df}:∀(m i:Nat) (ts:List Nd),i+m=l.length->ts=(l.take i).map bO->ts.map Nd.text=(l.take i).map Df.name->(∀j<i,q1 l j=false)->
 (match dJ (q1 l) l.length with|some k=>(Db ts (l.drop i)).2=((k:Int),mM l (l.getD k default) k)/\(Db ts (l.drop i)).2.2≠0|none=>Db ts (l.drop i)=(l.map bO,(l.length:Int),0))
 |0,i,ts,hm,ht,_,hq=>by
  have hi:i=l.length:=aE;subst hi;rw[lZ hq,List.drop_length,Db,ht,List.take_length];simp
 |m+1,i,ts,hm,ht,hn,hq=>by
  have hi:i<l.length:=aE;have hd:l[i]? =some l[i]:=List.getElem?_eq_getElem hi;have hg:l.getD i default=l[i]:=by rw[List.getD_eq_getElem?_getD,hd];rfl
  have he:=Te hd hn;rw[List.drop_eq_getElem_cons hi];by_cases c:mM l l[i] i=0
  ·have hq':q1 l i=false:=by unfold q1;rw[hg];simpa using c
   have htx:=Wy (he.trans c);have ht2:l.take (i+1)=l.take i++[l[i]]:=List.take_succ_eq_append_getElem hi;have ih:=Ht (l:=l) m (i+1) (ts++[bO l[i]]) aE (by rw[ht2,List.map_append,ht];rfl) (by rw[ht2,List.map_append,List.map_append,hn];simp[htx]) λj hj=>by
    rcases Nat.lt_succ_iff_lt_or_eq.1 hj with hj|rfl
    ·exact hq j hj
    ·exact hq'
   rw[II (he.trans c)];exact ih
  ·have hf:dJ (q1 l) l.length=some i:=lY hi hq (by unfold q1;rw[hg];simpa using c);rw[hf,tV (by rw[he];exact c),he];have hl:ts.length=i:=by rw[ht];simp;omega
   simp only[hg,hl];exact⟨trivial,c⟩
theorem Cz{l:List Df}(h:l.length<=24):(match dJ (q1 l) l.length with|some k=>(dK l).2=((k:Int),mM l (l.getD k default) k)/\(dK l).2.2≠0|none=>dK l=(l.map bO,(l.length:Int),0)):=by
 have:=Ht (l:=l) l.length 0 [] aE aM aM (λj h=>absurd h (Nat.not_lt_zero _));unfold dK;rw[if_neg aE];simpa using this
def yH(a b:Int):Int:=if b=0 then a else jH a b
def Wz(a b c:Bool):Int:=if a=true then 6 else if b=true then 12 else if c=true then -1 else 0
def LJ(e:cZ->Int)(us:List cZ):Int:=Wz (us.any λu=>decide (e u=6)) (us.any λu=>decide (e u=12)) (us.any λu=>decide (e u= -1))
theorem OI{a b:Int}(ha:oK a)(hb:oK b):oK (yH a b):=by
 rcases ha with rfl|rfl|rfl|rfl<;>rcases hb with rfl|rfl|rfl|rfl<;>simp[yH,jH,Kr,oK]
theorem LK{a b c:Int}(ha:oK a)(hb:oK b)(hc:oK c):yH (yH a b) c=yH a (yH b c):=by
 rcases ha with rfl|rfl|rfl|rfl<;>rcases hb with rfl|rfl|rfl|rfl<;>rcases hc with rfl|rfl|rfl|rfl<;>decide
theorem Tf(a b c:Bool):oK (Wz a b c):=by cases a<;>cases b<;>cases c<;>simp[Wz,oK]
theorem Hu(e:cZ->Int)(us:List cZ):oK (LJ e us):=Tf _ _ _
theorem Tg{e:cZ->Int}{u:cZ}{us:List cZ}(h:oK (e u)):LJ e (u::us)=yH (e u) (LJ e us):=by
 unfold LJ;simp only[List.any_cons];generalize us.any (λu=>decide (e u=6))=a;generalize us.any (λu=>decide (e u=12))=b;generalize us.any (λu=>decide (e u= -1))=c;generalize e u=x at*;rcases h with rfl|rfl|rfl|rfl<;>cases a<;>cases b<;>cases c<;>decide
theorem WA(ts:List Nd)(us:List cZ):Bi ts us=LJ (iP ts) us:=by
 have key:∀(us:List cZ) (o:Int),oK o->us.foldl (λout u=>if iP ts u=0 then out else jH out (iP ts u)) o=yH o (LJ (iP ts) us):=λus=>by
  induction us with
  |nil=>intro o _;simp[LJ,Wz,yH]
  |cons u r ih=>
   intro o ho;have he:=Bj ts u;have hc:(if iP ts u=0 then o else jH o (iP ts u))=yH o (iP ts u):=rfl;rw[List.foldl_cons,hc,ih _ (OI ho he),LK ho he (Hu _ r),Tg he]
 have:=key us 0 (.inl rfl);rw[Bi,this];rcases Hu (iP ts) us with h|h|h|h<;>rw[h]<;>decide
theorem Fm{l:List Df}{ts:List Nd}(h:ts.map Nd.text=l.map Df.name)(nm:aW):oH ts nm=l.findIdx? λd=>decide (d.name=nm):=by
 have h1:(ts.map Nd.text).findIdx? (λs=>decide (nm=s))=ts.findIdx? (λt=>decide (nm=t.text)):=by rw[List.findIdx?_map];rfl
 have h2:(l.map Df.name).findIdx? (λs=>decide (nm=s))=l.findIdx? (λd=>decide (nm=d.name)):=by rw[List.findIdx?_map];rfl
 unfold oH;rw[<-h1,h,h2];congr 1;funext d;simp[eq_comm]
theorem rG{l:List Df}{ts:List Nd}(h:ts.map Nd.text=l.map Df.name)(nm:aW):fH l nm=qO (oH ts nm):=by
 rw[Fm h];unfold fH;rw[oD]
theorem IY{l:List Df}(h:(l.map bO).map Nd.text=l.map Df.name){nm:aW}{j:Nat}(hj:oH (l.map bO) nm=some j):Qn l nm=(l.map bO).getD j default:=by
 have hlt:=vS hj;have hlt':j<l.length:=by simpa using hlt
 unfold Qn;rw[rG h,hj];simp only[qO,Int.toNat_natCast];rw[List.getD_eq_getElem?_getD,List.getD_eq_getElem?_getD,List.getElem?_eq_getElem hlt',List.getElem?_eq_getElem hlt,Option.getD_some,Option.getD_some,List.getElem_map];rfl
theorem zF{us:List cZ}{p q:cZ->Bool}(h:∀u∈us,p u=q u):us.any p=us.any q:=by
 induction us with
 |nil=>rfl
 |cons u r ih=>rw[List.any_cons,List.any_cons,h u (List.mem_cons_self ..),ih λv hv=>h v (List.mem_cons_of_mem _ hv)]
theorem Fn{l:List Df}(h:(l.map bO).map Nd.text=l.map Df.name)(x:Nd):FG (l.map bO) x=fM l (bJ x):=by
 have e1:∀u,p1 l u=decide (iP (l.map bO) u=6):=λu=>by
  unfold p1 iP;rw[rG h];cases hj:oH (l.map bO) u.name with
  |none=>simp[qO]
  |some j=>
   simp only[qO];have:¬((j:Int)<0):=aE;split
   ·simp[this]
   ·split<;>simp[this]
 have hE:∀u j,oH (l.map bO) u.name=some j->iP (l.map bO) u=if((l.map bO).getD j default).kind≠u.kind then 12 else if u.kind=1/\u.field∉bL ((l.map bO).getD j default)then -1 else 0:=λu j hj=>by unfold iP;rw[hj]
 have e2:∀u,p1 l u=false->p2 l u=decide (iP (l.map bO) u=12):=λu hu=>by
  unfold p1 at hu;rw[rG h]at hu;unfold p2;cases hj:oH (l.map bO) u.name with
  |none=>rw[hj]at hu;simp[qO]at hu
  |some j=>
   rw[IY h hj,hE u j hj];generalize(l.map bO).getD j default=y;by_cases hk:y.kind≠u.kind
   ·rw[if_pos hk];simp[hk]
   ·rw[if_neg hk];by_cases hf:u.kind=1/\u.field∉bL y
    ·rw[if_pos hf];simpa using hk
    ·rw[if_neg hf];simpa using hk
 have e3:∀u,p1 l u=false->p2 l u=false->p3 l u=decide (iP (l.map bO) u= -1):=λu hu hu2=>by
  unfold p1 at hu;rw[rG h]at hu;unfold p2 at hu2;unfold p3;cases hj:oH (l.map bO) u.name with
  |none=>rw[hj]at hu;simp[qO]at hu
  |some j=>
   rw[IY h hj]at hu2|-;rw[hE u j hj];generalize(l.map bO).getD j default=y at*;rw[if_neg (by simpa using hu2)];by_cases hf:u.kind=1/\u.field∉bL y
   ·rw[if_pos hf];simp only[hf,not_false_eq_true,and_self]
   ·rw[if_neg hf,decide_eq_false hf];rfl
 unfold FG;rw[WA];unfold LJ Wz fM;rw[zF (p:=p1 l) λu _=>e1 u];by_cases h6:(bJ x).any (λu=>decide (iP (l.map bO) u=6))=true
 ·simp only[h6,if_true];decide
 ·have h1:∀u∈bJ x,p1 l u=false:=λu hu=>by
   rw[e1];have:=λq=>h6 (List.any_eq_true.2 ⟨u,hu,q⟩);simpa using this
  rw[zF (p:=p2 l) λu hu=>e2 u (h1 u hu)];simp only[if_neg h6];by_cases h12:(bJ x).any (λu=>decide (iP (l.map bO) u=12))=true
  ·simp only[h12,if_true];decide
  ·have h2:∀u∈bJ x,p2 l u=false:=λu hu=>by
    rw[e2 u (h1 u hu)];have:=λq=>h12 (List.any_eq_true.2 ⟨u,hu,q⟩);simpa using this
   rw[zF (p:=p3 l) λu hu=>e3 u (h1 u hu) (h2 u hu)];simp only[if_neg h12];by_cases hm:(bJ x).any (λu=>decide (iP (l.map bO) u= -1))=true
   ·simp only[hm,if_true]
   ·simp only[if_neg hm];decide
inductive rL{α:Type}(S:α->α->Prop):α->α->Prop
 |one {i k:α}:S i k->rL S i k
 |more {i j k:α}:rL S i j->S j k->rL S i k
theorem rL.head{α:Type}{S:α->α->Prop}{i j k:α}(h:S i j)(r:rL S j k):rL S i k:=by
 induction r with
 |one h2=>exact .more (.one h) h2
 |more _ h2 ih=>exact .more ih h2
def sU(ts:List Nd)(b:Int->Bool)(i k:Nat):Prop:=∃u∈bJ (ts.getD i default),b u.bk=true/\oH ts u.name=some k
theorem Fo(ts:List Nd)(b:Int->Bool):∀(f i:Nat) (M:List Nat),Sc ts.length M<f->
 (∀k∈gQ ts b f i M,k∈M\/rL (sU ts b) i k)/\(∀k,sU ts b i k->k∈gQ ts b f i M)/\∀j∈gQ ts b f i M,j∉M->∀k,sU ts b j k->k∈gQ ts b f i M
 |0,_,_,h=>absurd h (Nat.not_lt_zero _)
 |f+1,i,M,h=>by
  rw[Bk];have key:∀(us:List cZ) (M0:List Nat),(∀u∈us,u∈bJ (ts.getD i default))->Sc ts.length M0<f+1->
   (∀k∈us.foldl (kE ts b (gQ ts b f)) M0,k∈M0\/rL (sU ts b) i k)/\(∀u∈us,∀k,b u.bk=true->oH ts u.name=some k->k∈us.foldl (kE ts b (gQ ts b f)) M0)/\
   ∀j∈us.foldl (kE ts b (gQ ts b f)) M0,j∉M0->∀k,sU ts b j k->k∈us.foldl (kE ts b (gQ ts b f)) M0:=λus=>by
   induction us with
   |nil=>exact λM0 _ _=>⟨λk hk=>.inl hk,aM,λj hj hn=>absurd hj hn⟩
   |cons u r ihr=>
    intro M0 hu hm;rw[List.foldl_cons];obtain⟨M1,hM1⟩:∃M1,kE ts b (gQ ts b f) M0 u=M1:=⟨_,rfl⟩;have hsub:∀k∈M0,k∈M1:=λk hk=>by rw[<-hM1];exact zA ts b f M0 u k hk
    have hm1:Sc ts.length M1<f+1:=Nat.lt_of_le_of_lt (Vo hsub) hm;obtain⟨r1,r2,r3⟩:=ihr M1 (λv hv=>hu v (List.mem_cons_of_mem _ hv)) hm1;have hkeep:∀k∈M1,k∈r.foldl (kE ts b (gQ ts b f)) M1:=λk hk=>qZ (zA ts b f) r M1 k hk;have hone:(∀k∈M1,k∈M0\/rL (sU ts b) i k)/\(∀k,b u.bk=true->oH ts u.name=some k->k∈M1)/\∀j∈M1,j∉M0->∀k,sU ts b j k->k∈M1:=by
     unfold kE at hM1;split at hM1
     ·rename_i k hk;split at hM1
      ·rename_i hc;have hst:sU ts b i k:=⟨u,hu u (List.mem_cons_self ..),hc.1,hk⟩;obtain⟨g1,g2,g3⟩:=Fo ts b f k (M0++[k]) (by have:=Vp (vS hk) hc.2;omega);have hkM:k∈M1:=by rw[<-hM1];exact yZ ts b f k _ k aM
       rw[hM1]at g1 g2 g3;refine⟨λj hj=>?_,λk' _ hk'=>?_,λj hj hn k' hs=>?_⟩
       ·rcases g1 j hj with hj|hj
        ·rcases List.mem_append.1 hj with hj|hj
         ·exact .inl hj
         ·simp at hj;subst hj;exact .inr (.one hst)
        ·exact .inr (.head hst hj)
       ·rw[hk]at hk';injection hk' with e;subst e;exact hkM
       ·by_cases e:j=k
        ·subst e;exact g2 k' hs
        ·exact g3 j hj (by simp[hn,e]) k' hs
      ·rename_i hc;subst hM1;refine⟨λj hj=>.inl hj,λk' hb hk'=>?_,λj hj hn=>absurd hj hn⟩;rw[hk]at hk';injection hk' with e;subst e
       exact Classical.byContradiction λhn=>hc ⟨hb,hn⟩
     ·rename_i hk;subst hM1;exact⟨λj hj=>.inl hj,λk' _ hk'=>(by rw[hk]at hk';cases hk'),λj hj hn=>absurd hj hn⟩
    rw[hM1];refine⟨λk hk=>?_,λv hv k hb hk=>?_,λj hj hn k hs=>?_⟩
    ·rcases r1 k hk with h|h
     ·exact hone.1 k h
     ·exact .inr h
    ·rcases List.mem_cons.1 hv with rfl|hv
     ·exact hkeep k (hone.2.1 k hb hk)
     ·exact r2 v hv k hb hk
    ·by_cases hj1:j∈M1
     ·exact hkeep k (hone.2.2 j hj1 hn k hs)
     ·exact r3 j hj hj1 k hs
  obtain⟨h1,h2,h3⟩:=key (bJ (ts.getD i default)) M (λu hu=>hu) h;exact⟨h1,λk ⟨u,hu,hb,hk⟩=>h2 u hu k hb hk,h3⟩
theorem zG(ts:List Nd)(b:Int->Bool)(i k:Nat):k∈jI ts b i↔rL (sU ts b) i k:=by
 obtain⟨h1,h2,h3⟩:=Fo ts b (ts.length+1) i [] (Nat.lt_succ_of_le (Nat.le_trans (List.length_filter_le _ _) aM));constructor
 ·intro h;rcases h1 k h with h|h
  ·cases h
  ·exact h
 ·intro h;induction h with
  |one hs=>exact h2 _ hs
  |more _ hs ih=>exact h3 _ ih aM _ hs
def wF(l:List Df)(c:Bool)(nm s:aW):Prop:=0<=fH l nm/\∃u∈bJ (Qn l nm),Jj c u.bk=true/\u.name=s
structure aBw(l:List Df)(c:Bool)(name:aW)(n:Nat)(st:List aW×List aW):Prop where
 reach:∀s∈st.1,rL (wF l c) name s
 todo:∀s,s∈st.2↔s=name\/s∈st.1
 done:∀j,j<n->∀nm,st.2[j]? =some nm->∀s,wF l c nm s->s∈st.1
theorem Th{c:Bool}{st:List aW×List aW}{u:cZ}:(∀s∈st.1,s∈(lG c st u).1)/\st.2<+:(lG c st u).2/\(∀s∈(lG c st u).1,s∈st.1\/(Jj c u.bk=true/\s=u.name))/\(Jj c u.bk=true->u.name∈(lG c st u).1)/\∀s,s∈(lG c st u).2↔s∈st.2\/(s∈(lG c st u).1/\s∉st.1):=by
 unfold lG;split
 ·rename_i h;refine⟨λs hs=>jP.2 (.inr hs),List.prefix_append _ _,λs hs=>?_,λ_=>jP.2 (.inl rfl),λs=>?_⟩
  ·rcases jP.1 hs with e|hs
   ·exact .inr ⟨h.1,e⟩
   ·exact .inl hs
  ·constructor
   ·intro hs;rcases List.mem_append.1 hs with hs|hs
    ·exact .inl hs
    ·simp at hs;subst hs;exact .inr ⟨jP.2 (.inl rfl),h.2⟩
   ·rintro(hs|⟨hs,hn⟩)
    ·exact List.mem_append_left _ hs
    ·rcases jP.1 hs with e|hs
     ·subst e;simp
     ·exact absurd hs hn
 ·rename_i h;refine⟨λs hs=>hs,List.prefix_refl _,λs hs=>.inl hs,λhc=>?_,λs=>?_⟩
  ·exact Classical.byContradiction λhn=>h ⟨hc,hn⟩
  ·constructor
   ·exact λhs=>.inl hs
   ·rintro(hs|⟨hs,hn⟩)
    ·exact hs
    ·exact absurd hs hn
theorem Fp{U:List aW}{c:Bool}:∀(us:List cZ) (st:List aW×List aW),(∀u∈us,u.name∈U)->Lx U st->
 (∀s∈st.1,s∈(us.foldl (lG c) st).1)/\st.2<+:(us.foldl (lG c) st).2/\(∀s∈(us.foldl (lG c) st).1,s∈st.1\/∃u∈us,Jj c u.bk=true/\u.name=s)/\(∀u∈us,Jj c u.bk=true->u.name∈(us.foldl (lG c) st).1)/\
   (∀s,s∈(us.foldl (lG c) st).2↔s∈st.2\/(s∈(us.foldl (lG c) st).1/\s∉st.1))/\Lx U (us.foldl (lG c) st)/\FN U (us.foldl (lG c) st).1+(us.foldl (lG c) st).2.length<=FN U st.1+st.2.length
 |[],st,_,hJ=>⟨λs hs=>hs,List.prefix_refl _,λs hs=>.inl hs,aM,λs=>⟨.inl,λh=>h.elim id λh=>absurd h.1 h.2⟩,hJ,Nat.le_refl _⟩
 |u::r,st,hU,hJ=>by
  obtain⟨a1,a2,a3,a4,a5⟩:=Th (c:=c) (st:=st) (u:=u);obtain⟨a6,a7⟩:=Wu (c:=c) (hU u (List.mem_cons_self ..)) hJ;obtain⟨b1,b2,b3,b4,b5,b6,b7⟩:=Fp (c:=c) r (lG c st u) (λv hv=>hU v (List.mem_cons_of_mem _ hv)) a6;rw[List.foldl_cons];refine⟨λs hs=>b1 s (a1 s hs),a2.trans b2,λs hs=>?_,λv hv hc=>?_,λs=>?_,b6,Nat.le_trans b7 a7⟩
  ·rcases b3 s hs with h|⟨v,hv,hc,e⟩
   ·rcases a3 s h with h|⟨hc,e⟩
    ·exact .inl h
    ·exact .inr ⟨u,List.mem_cons_self ..,hc,e.symm⟩
   ·exact .inr ⟨v,List.mem_cons_of_mem _ hv,hc,e⟩
  ·rcases List.mem_cons.1 hv with rfl|hv
   ·exact b1 _ (a4 hc)
   ·exact b4 v hv hc
  ·rw[b5,a5];constructor
   ·rintro((h|⟨h1,h2⟩)|⟨h1,h2⟩)
    ·exact .inl h
    ·exact .inr ⟨b1 s h1,h2⟩
    ·exact .inr ⟨h1,λh=>h2 (a1 s h)⟩
   ·rintro(h|⟨h1,h2⟩)
    ·exact .inl (.inl h)
    ·by_cases h3:s∈(lG c st u).1
     ·exact .inl (.inr ⟨h3,h2⟩)
     ·exact .inr ⟨h1,h3⟩
theorem Fq{l:List Df}{c:Bool}{name:aW}:∀(f n:Nat) (st:List aW×List aW),FN (CN l) st.1+st.2.length<f+n->n<=st.2.length->Lx (CN l) st->aBw l c name n st->∀s,s∈zE l c f n st↔rL (wF l c) name s
 |0,n,st,h,hn,_,_=>aE
 |f+1,n,st,h,hn,hJ,hI=>by
  intro s;rw[zE];cases q:st.2[n]? with
  |none=>
   have hlen:st.2.length<=n:=List.getElem?_eq_none_iff.1 q;simp only;constructor
   ·exact hI.reach s
   ·have all:∀nm,(nm=name\/nm∈st.1)->∀s,wF l c nm s->s∈st.1:=λnm hm s hs=>by
     obtain⟨j,hj,e⟩:=List.getElem_of_mem ((hI.todo nm).2 hm);exact hI.done j aE nm (by rw[List.getElem?_eq_getElem hj,e]) s hs
    intro hr;induction hr with
    |one hs=>exact all name (.inl rfl) _ hs
    |more _ hs ih=>exact all _ (.inr ih) _ hs
  |some nm=>
   simp only;have hlt:n<st.2.length:=(List.getElem?_eq_some_iff.1 q).1;have hnm:=(hI.todo nm).1 (List.mem_of_getElem? q);unfold Lw;by_cases hx:fH l nm<0
   ·rw[if_pos hx];refine Fq f (n+1) st aE aE hJ ⟨hI.reach,hI.todo,λj hj nm' hj' s hs=>?_⟩ s;by_cases e:j=n
    ·subst e;rw[q]at hj';injection hj' with e;subst e;exact absurd hs.1 aE
    ·exact hI.done j aE nm' hj' s hs
   ·rw[if_neg hx];obtain⟨b1,b2,b3,b4,b5,b6,b7⟩:=Fp (U:=CN l) (c:=c) (bJ (Qn l nm)) st (BA aE) hJ;have hpl:=b2.length_le;refine Fq f (n+1) _ aE aE b6 ⟨λs hs=>?_,λs=>?_,λj hj nm' hj' s hs=>?_⟩ s
    ·rcases b3 s hs with h|⟨u,hu,hc,e⟩
     ·exact hI.reach s h
     ·have hs':wF l c nm s:=⟨aE,u,hu,hc,e⟩;rcases hnm with rfl|hnm
      ·exact .one hs'
      ·exact .more (hI.reach nm hnm) hs'
    ·rw[b5,hI.todo];constructor
     ·rintro((h|h)|h)
      ·exact .inl h
      ·exact .inr (b1 s h)
      ·exact .inr h.1
     ·rintro(h|h)
      ·exact .inl (.inl h)
      ·by_cases h2:s∈st.1
       ·exact .inl (.inr h2)
       ·exact .inr ⟨h,h2⟩
    ·by_cases e:j=n
     ·subst e;have hj2:(List.foldl (lG c) st (bJ (Qn l nm))).2[j]? =some nm:=by
       obtain⟨t,ht⟩:=b2;rw[<-ht,List.getElem?_append_left hlt];exact q
      rw[hj2]at hj';injection hj' with e;subst e
      obtain⟨_,u,hu,hc,e⟩:=hs;rw[<-e];exact b4 u hu hc
     ·have hj3:st.2[j]? =some nm':=by
       obtain⟨t,ht⟩:=b2;rw[<-ht,List.getElem?_append_left aE]at hj';exact hj'
      exact b1 s (hI.done j aE nm' hj3 s hs)
theorem zH(l:List Df)(c:Bool)(name s:aW):s∈gS l name c↔rL (wF l c) name s:=by
 refine Fq ((CN l).length+2) 0 ([],[name]) (by rw[AI];simp) (Nat.zero_le _) ⟨by simp[AI],rfl⟩ ⟨aM,aM,λj h=>absurd h (Nat.not_lt_zero _)⟩ s
section
theorem AM{p q:Nat->Bool}{n:Nat}(h:∀i<n,p i=q i):dJ p n=dJ q n:=by
 unfold dJ;have:∀l:List Nat,(∀i∈l,p i=q i)->l.find? p=l.find? q:=λl=>by
  induction l with
  |nil=>intro _;rfl
  |cons a r ih=>
   intro hl;rw[List.find?_cons,List.find?_cons,hl a (List.mem_cons_self ..),ih λi hi=>hl i (List.mem_cons_of_mem _ hi)]
 exact this _ λi hi=>h i (List.mem_range.1 hi)
theorem AN{l:List Df}(h:(l.map bO).map Nd.text=l.map Df.name){nm:aW}{k:Nat}(hk:oH (l.map bO) nm=some k):∃hl:k<l.length,l[k].name=nm:=by
 rw[Fm h]at hk;obtain⟨hl,h1,_⟩:=List.findIdx?_eq_some_iff_getElem.1 hk;exact⟨hl,by simpa using h1⟩
theorem AO{l:List Df}(hn:(l.map Df.name).Nodup){i j:Nat}(hi:i<l.length)(hj:j<l.length)(e:l[i].name=l[j].name):i=j:=by
 have:=List.pairwise_iff_getElem.1 hn;rcases Nat.lt_trichotomy i j with h|h|h
 ·exact absurd (by rw[List.getElem_map,List.getElem_map];exact e) (this i j (by simpa using hi) (by simpa using hj) h)
 ·exact h
 ·exact absurd (by rw[List.getElem_map,List.getElem_map];exact e.symm) (this j i (by simpa using hj) (by simpa using hi) h)
theorem IZ{l:List Df}(h:(l.map bO).map Nd.text=l.map Df.name)(hn:(l.map Df.name).Nodup){i:Nat}(hi:i<l.length):oH (l.map bO) l[i].name=some i:=by
 cases q:oH (l.map bO) l[i].name with
 |none=>
  rw[Fm h,List.findIdx?_eq_none_iff]at q;have:=q l[i] (List.getElem_mem hi);simp at this
 |some j=>
  obtain⟨hj,e⟩:=AN h q;rw[AO hn hj hi e]
theorem LL(k:Int):Jj true k=ET k:=by simp[Jj,ET]
section
variable{l:List Df} (h:(l.map bO).map Nd.text=l.map Df.name) (hn:(l.map Df.name).Nodup) (hq:∀i<l.length,q2 l i=false)
include h hn hq
omit hq in
theorem Qr{b:Int->Bool}{c:Bool}(hb:∀k,Jj c k=b k){i k:Nat}(hi:i<l.length)(hs:sU (l.map bO) b i k):∃hk:k<l.length,wF l c l[i].name l[k].name:=by
 obtain⟨u,hu,hc,hk⟩:=hs;obtain⟨hkl,e⟩:=AN h hk;have ho:=IZ h hn hi;refine⟨hkl,?_,u,?_,by rw[hb];exact hc,e.symm⟩
 ·rw[rG h,ho];simp[qO]
 ·rw[IY h ho];exact hu
theorem Hv{b:Int->Bool}{c:Bool}(hb:∀k,Jj c k=b k){i:Nat}{s:aW}(hi:i<l.length)(hs:wF l c l[i].name s):∃k,∃hk:k<l.length,s=l[k].name/\sU (l.map bO) b i k:=by
 obtain⟨_,u,hu,hc,e⟩:=hs;have ho:=IZ h hn hi;rw[IY h ho]at hu;have h2:=hq i hi;have hg:(l.map bO).getD i default=bO (l.getD i default):=by
  rw[List.getD_eq_getElem?_getD,List.getD_eq_getElem?_getD,List.getElem?_map,List.getElem?_eq_getElem hi];rfl
 have h3:fM l (bJ (bO (l.getD i default)))=0:=Classical.byContradiction λhc=>by unfold q2 at h2;exact absurd (decide_eq_true hc) (by unfold bO;rw[h2];simp)
 rw[<-hg]at h3;have h4:(bJ ((l.map bO).getD i default)).any (p1 l)=false:=by
  rw[Bool.eq_false_iff];intro q;unfold fM at h3;rw[if_pos q]at h3;cases h3
 have h5:p1 l u=false:=by
  rw[List.any_eq_false]at h4;simpa using h4 u hu
 unfold p1 at h5;rw[rG h]at h5;cases q:oH (l.map bO) u.name with
 |none=>rw[q]at h5;simp[qO]at h5
 |some k=>
  obtain⟨hk,e2⟩:=AN h q;exact⟨k,hk,by rw[<-e,e2],u,hu,by rw[<-hb];exact hc,q⟩
omit hq in
theorem LM{b:Int->Bool}{c:Bool}(hb:∀k,Jj c k=b k){i k:Nat}(hi:i<l.length)(hr:rL (sU (l.map bO) b) i k):∃hk:k<l.length,rL (wF l c) l[i].name l[k].name:=by
 induction hr with
 |one hs=>obtain⟨hk,hs'⟩:=Qr h hn hb hi hs;exact⟨hk,.one hs'⟩
 |more _ hs ih=>
  obtain⟨hj,hr'⟩:=ih;obtain⟨hk,hs'⟩:=Qr h hn hb hj hs;exact⟨hk,.more hr' hs'⟩
theorem Fr{b:Int->Bool}{c:Bool}(hb:∀k,Jj c k=b k){i:Nat}{s:aW}(hi:i<l.length)(hr:rL (wF l c) l[i].name s):∃k,∃hk:k<l.length,s=l[k].name/\rL (sU (l.map bO) b) i k:=by
 induction hr with
 |one hs=>obtain⟨k,hk,e,hs'⟩:=Hv h hn hq hb hi hs;exact⟨k,hk,e,.one hs'⟩
 |more _ hs ih=>
  obtain⟨j,hj,rfl,hr'⟩:=ih;obtain⟨k,hk,e,hs'⟩:=Hv h hn hq hb hj hs;exact⟨k,hk,e,.more hr' hs'⟩
theorem aAq{i:Nat}(hi:i<l.length):IK (l.map bO) i=q3 l i:=by
 have hg:l.getD i default=l[i]:=by rw[List.getD_eq_getElem?_getD,List.getElem?_eq_getElem hi];rfl
 unfold IK q3;rw[hg,decide_eq_decide,zG,zH];constructor
 ·intro hr;obtain⟨_,hr'⟩:=LM h hn LL hi hr;exact hr'
 ·intro hr;obtain⟨k,hk,e,hr'⟩:=Fr h hn hq LL hi hr;rw[<-AO hn hi hk e]at hr';exact hr'
end
theorem OJ(l:List Df):(mK l).2=nK l:=by
 unfold mK nK;by_cases h24:24<l.length
 ·have:dK l=([],0,4):=by unfold dK;rw[if_pos h24]
  rw[if_pos h24,this];rfl
 ·rw[if_neg h24];have hf:=Cz (l:=l) aE;unfold AK;cases q:dJ (q1 l) l.length with
  |some k=>
   rw[q]at hf;obtain⟨h1,h2⟩:=hf;simp only;rw[if_pos h2,h1]
  |none=>
   rw[q]at hf;simp only at hf|-;have h0:(dK l).2.2=0:=by rw[hf]
   obtain⟨hnm,hnd⟩:=rE h0;rw[hf]at hnm;simp only at hnm;rw[if_neg (by rw[h0];simp),hf];simp only[List.length_map];have hb:∀i<l.length,IJ (l.map bO) i=q2 l i:=λi hi=>by
    have hg:(l.map bO).getD i default=bO (l.getD i default):=by
     rw[List.getD_eq_getElem?_getD,List.getD_eq_getElem?_getD,List.getElem?_map,List.getElem?_eq_getElem hi];rfl
    unfold IJ q2;rw[Fn hnm,hg];rfl
   rw[AM hb];unfold AJ;cases q':dJ (q2 l) l.length with
   |some i=>
    simp only;have hi:i<l.length:=by
     unfold dJ at q';exact List.mem_range.1 (List.mem_of_find?_eq_some q')
    have hg:(l.map bO).getD i default=bO (l.getD i default):=by
     rw[List.getD_eq_getElem?_getD,List.getD_eq_getElem?_getD,List.getElem?_map,List.getElem?_eq_getElem hi];rfl
    rw[Fn hnm,hg];rfl
   |none=>
    simp only;have hq:∀i<l.length,q2 l i=false:=λi hi=>by
     unfold dJ at q';rw[List.find?_eq_none]at q';simpa using q' i (List.mem_range.2 hi)
    rw[AM λi hi=>aAq hnm hnd hq hi];unfold Cx;cases dJ (q3 l) l.length<;>rfl
end
def LN(l:List Df)(c:Bool)(a b:aW):Prop:=∃d∈l,d.name=a/\∃u∈bJ (bO d),Jj c u.bk=true/\u.name=b
def CA(d:Df):Prop:=(parseS d.text).2.2=0/\(bO d).text=d.name/\(bL (bO d)).Nodup
def WB(l:List Df)(u:cZ):Prop:=∃e∈l,e.name=u.name/\(bO e).kind=u.kind/\(u.kind=1->u.field∈bL (bO e))
structure BD(l:List Df):Prop where
 len:l.length<=24
 names:(l.map Df.name).Nodup
 fine:∀d∈l,CA d
 uses:∀d∈l,∀u∈bJ (bO d),WB l u
 calls:∀d∈l,¬rL (LN l true) d.name d.name
theorem zI{p:Nat->Bool}{n:Nat}:dJ p n=none↔∀i<n,p i=false:=by
 unfold dJ;rw[List.find?_eq_none];constructor
 ·intro h i hi;simpa using h i (List.mem_range.2 hi)
 ·intro h i hi;simpa using h i (List.mem_range.1 hi)
theorem LO{l:List Df}{nm:aW}:fH l nm<0↔∀d∈l,d.name≠nm:=by
 unfold fH;rw[oD];cases q:l.findIdx? (λd=>decide (d.name=nm))with
 |none=>
  rw[List.findIdx?_eq_none_iff]at q;exact⟨λ_ d hd=>by simpa using q d hd,λ_=>by simp[qO]⟩
 |some i=>
  obtain⟨hi,h1,_⟩:=List.findIdx?_eq_some_iff_getElem.1 q;refine⟨λh=>?_,λh=>absurd (by simpa using h1) (h l[i] (List.getElem_mem hi))⟩;simp[qO]at h;omega
theorem sV{l:List Df}{nm:aW}(h:0<=fH l nm):∃i,∃hi:i<l.length,fH l nm=(i:Nat)/\l[i].name=nm/\Qn l nm=bO l[i]/\∀j,∀hj:j<l.length,j<i->l[j].name≠nm:=by
 obtain⟨i,d,e,hd,ht⟩:=xS h;obtain⟨hi,hd⟩:=List.getElem?_eq_some_iff.1 hd;unfold fH at e;rw[oD]at e;cases q:l.findIdx? (λd=>decide (d.name=nm))with
 |none=>rw[q]at e;simp[qO]at e
 |some k=>
  obtain⟨hk,h1,h2⟩:=List.findIdx?_eq_some_iff_getElem.1 q;rw[q]at e;have e:k=i:=by simp[qO]at e;omega
  subst e;refine⟨k,hk,?_,by simpa using h1,by rw[ht,<-hd];rfl,λj hj hjk=>by simpa using h2 j hjk⟩;unfold fH;rw[oD,q];rfl
theorem De{l:List Df}(hn:(l.map Df.name).Nodup){d:Df}(hd:d∈l):0<=fH l d.name/\Qn l d.name=bO d/\l.getD (fH l d.name).toNat default=d:=by
 have h0:0<=fH l d.name:=by
  by_cases h:fH l d.name<0
  ·exact absurd rfl (LO.1 h d hd)
  ·omega
 obtain⟨i,hi,e,hnm,ht,_⟩:=sV h0;obtain⟨j,hj,rfl⟩:=List.getElem_of_mem hd;have:=AO hn hi hj hnm;subst this;refine⟨h0,ht,?_⟩;rw[e,Int.toNat_natCast,List.getD_eq_getElem?_getD,List.getElem?_eq_getElem hi];rfl
theorem Hw{l:List Df}(hn:(l.map Df.name).Nodup){c:Bool}{a b:aW}:wF l c a b↔LN l c a b:=by
 constructor
 ·rintro⟨h0,u,hu,hc,e⟩;obtain⟨i,hi,_,hnm,ht,_⟩:=sV h0;exact⟨l[i],List.getElem_mem hi,hnm,u,by rw[<-ht];exact hu,hc,e⟩
 ·rintro⟨d,hd,rfl,u,hu,hc,e⟩;obtain⟨h0,ht,_⟩:=De hn hd;exact⟨h0,u,by rw[ht];exact hu,hc,e⟩
theorem rL.mono{α:Type}{S T:α->α->Prop}(h:∀a b,S a b->T a b){i k:α}(r:rL S i k):rL T i k:=by
 induction r with
 |one h2=>exact .one (h _ _ h2)
 |more _ h2 ih=>exact .more ih (h _ _ h2)
theorem zJ{l:List Df}(hn:(l.map Df.name).Nodup){c:Bool}{a s:aW}:s∈gS l a c↔rL (LN l c) a s:=by
 rw[zH];exact⟨rL.mono λ_ _=>(Hw hn).1,rL.mono λ_ _=>(Hw hn).2⟩
theorem xT{l:List Df}{i:Nat}(hi:i<l.length):l.getD i default=l[i]:=by
 rw[List.getD_eq_getElem?_getD,List.getElem?_eq_getElem hi];rfl
theorem WC{l:List Df}:(nK l).2=0↔l.length<=24/\(∀i<l.length,q1 l i=false)/\(∀i<l.length,q2 l i=false)/\∀i<l.length,q3 l i=false:=by
 unfold nK;by_cases h24:24<l.length
 ·rw[if_pos h24];exact⟨λh=>by simp at h,λh=>aE⟩
 rw[if_neg h24];unfold AK;cases q:dJ (q1 l) l.length with
 |some i=>
  simp only;have h1:q1 l i=true/\i<l.length:=by
   unfold dJ at q;exact⟨by simpa using List.find?_some q,List.mem_range.1 (List.mem_of_find?_eq_some q)⟩
  refine⟨λh=>?_,λh=>?_⟩
  ·have:=h1.1;unfold q1 at this;exact absurd h (of_decide_eq_true this)
  ·rw[h.2.1 i h1.2]at h1;simp at h1
 |none=>
  simp only;have q:=zI.1 q;unfold AJ;cases q':dJ (q2 l) l.length with
  |some i=>
   simp only;have h1:q2 l i=true/\i<l.length:=by
    unfold dJ at q';exact⟨by simpa using List.find?_some q',List.mem_range.1 (List.mem_of_find?_eq_some q')⟩
   refine⟨λh=>?_,λh=>?_⟩
   ·have:=h1.1;unfold q2 at this;exact absurd h (of_decide_eq_true this)
   ·rw[h.2.2.1 i h1.2]at h1;simp at h1
  |none=>
   simp only;have q':=zI.1 q';unfold Cx;cases q'':dJ (q3 l) l.length with
   |some i=>
    simp only;have h1:q3 l i=true/\i<l.length:=by
     unfold dJ at q'';exact⟨by simpa using List.find?_some q'',List.mem_range.1 (List.mem_of_find?_eq_some q'')⟩
    refine⟨λh=>by simp at h,λh=>?_⟩;rw[h.2.2.2 i h1.2]at h1;simp at h1
   |none=>
    have q'':=zI.1 q'';exact⟨λ_=>⟨aE,q,q',q''⟩,λ_=>rfl⟩
theorem aAr{l:List Df}:(∀i<l.length,q1 l i=false)↔(l.map Df.name).Nodup/\∀d∈l,CA d:=by
 constructor
 ·intro h;have h':∀i,∀hi:i<l.length,CA l[i]/\¬fH l l[i].name<(i:Int):=λi hi=>by
   have:=h i hi;unfold q1 at this;rw[xT hi,decide_eq_false_iff_not,ne_eq,Decidable.not_not]at this;unfold mM at this;split at this
   ·exact absurd this ‹_›
   ·split at this
    ·simp at this
    ·split at this
     ·simp at this
     ·split at this
      ·rename_i a b c d;exact⟨⟨Decidable.not_not.1 a,Decidable.not_not.1 b,d⟩,c⟩
      ·simp at this
  refine⟨List.pairwise_iff_getElem.2 λi j hi hj hij=>?_,λd hd=>?_⟩
  ·simp only[List.length_map]at hi hj;rw[List.getElem_map,List.getElem_map];intro e;have hj2:=(h' j hj).2;obtain⟨k,hk,ek,hnm,_,hf⟩:=sV (l:=l) (nm:=l[j].name) (by
    by_cases q:fH l l[j].name<0
    ·exact absurd rfl (LO.1 q l[j] (List.getElem_mem hj))
    ·omega)
   rw[ek]at hj2;exact hf i hi aE e
  ·obtain⟨i,hi,rfl⟩:=List.getElem_of_mem hd;exact(h' i hi).1
 ·rintro⟨hn,hf⟩ i hi;obtain⟨a,b,d⟩:=hf l[i] (List.getElem_mem hi);unfold q1;rw[xT hi,decide_eq_false_iff_not,ne_eq,Decidable.not_not];unfold mM;rw[if_neg (by simpa using a),if_neg (by simpa [bO]using b),if_neg,if_pos (by simpa [bO]using d)];obtain⟨h0,_,_⟩:=De hn (List.getElem_mem hi);obtain⟨k,hk,ek,hnm,_,_⟩:=sV h0;rw[ek,AO hn hk hi hnm];omega
theorem Hx{l:List Df}(hn:(l.map Df.name).Nodup){u:cZ}:WB l u↔p1 l u=false/\p2 l u=false/\p3 l u=false:=by
 unfold p1 p2 p3;simp only[decide_eq_false_iff_not];constructor
 ·rintro⟨e,he,hnm,hk,hf⟩;obtain⟨h0,ht,_⟩:=De hn he;rw[hnm]at h0 ht;refine⟨aE,by rw[ht];simpa using hk,?_⟩;rw[ht];exact λh=>h.2 (hf h.1)
 ·rintro⟨h1,h2,h3⟩;obtain⟨i,hi,_,hnm,ht,_⟩:=sV (l:=l) (nm:=u.name) aE;rw[ht]at h2 h3;refine⟨l[i],List.getElem_mem hi,hnm,by simpa using h2,λhk=>?_⟩;exact Classical.byContradiction λhc=>h3 ⟨hk,hc⟩
theorem CB{l:List Df}(hn:(l.map Df.name).Nodup){us:List cZ}:fM l us=0↔∀u∈us,WB l u:=by
 unfold fM;constructor
 ·intro h u hu;split at h
  ·simp at h
  ·split at h
   ·simp at h
   ·split at h
    ·simp at h
    ·rename_i a b c;simp only[List.any_eq_true,not_exists,not_and,Bool.not_eq_true]at a b c;exact(Hx hn).2 ⟨a u hu,b u hu,c u hu⟩
 ·intro h;rw[if_neg,if_neg,if_neg]<;>(simp only[List.any_eq_true,not_exists,not_and,Bool.not_eq_true];intro u hu;have:=(Hx hn).1 (h u hu);simp[this])
theorem OK{l:List Df}:(nK l).2=0↔BD l:=by
 rw[WC,aAr];constructor
 ·rintro⟨h0,⟨hn,hf⟩,h2,h3⟩;refine⟨h0,hn,hf,λd hd=>?_,λd hd=>?_⟩
  ·obtain⟨i,hi,rfl⟩:=List.getElem_of_mem hd;have:=h2 i hi;unfold q2 at this;rw[xT hi,decide_eq_false_iff_not,ne_eq,Decidable.not_not]at this;exact(CB hn).1 this
  ·obtain⟨i,hi,rfl⟩:=List.getElem_of_mem hd;have:=h3 i hi;unfold q3 at this;rw[xT hi,decide_eq_false_iff_not,zJ hn]at this;exact this
 ·rintro⟨h0,hn,hf,hu,hc⟩;refine⟨h0,⟨hn,hf⟩,λi hi=>?_,λi hi=>?_⟩
  ·unfold q2;rw[xT hi,decide_eq_false_iff_not,ne_eq,Decidable.not_not];exact(CB hn).2 (hu _ (List.getElem_mem hi))
  ·unfold q3;rw[xT hi,decide_eq_false_iff_not,zJ hn];exact hc _ (List.getElem_mem hi)
def Qs(ts:List (aW×Nd×Int×Int))(sh:Bool)(u:cZ):Bool:=
 (sh&&decide (u.name=fN.name)&&decide (u.kind=0)&&decide (u.bk≠14))||
   ts.any λp=>decide (p.1=u.name)&&decide (p.2.1.kind=u.kind)&&(decide (u.kind≠1)||decide (u.field∈bL p.2.1))&&(decide (u.bk≠14)||(bJ p.2.1).all λv=>decide (v.bk≠14))
def WD(c:UInt8)(sh:Bool)(ts:List (aW×Nd×Int×Int)):Bool:=
 decide (ts.length<=6)&&decide ((ts.map Prod.fst).Nodup)&&ts.all (λp=>decide (p.1.getLast?=some c)&&decide (p.2.2.2=0)&&decide (p.2.1.text=p.1)&&decide ((bL p.2.1).Nodup)&&(bJ p.2.1).all (Qs ts sh))
def iT(c:UInt8)(sh:Bool)(l:List Df):Bool:=WD c sh (l.map λd=>(d.name,parseS d.text))
structure OL(c:UInt8)(sh:Bool)(l:List Df):Prop where
 len:l.length<=6
 names:(l.map Df.name).Nodup
 last:∀d∈l,d.name.getLast?=some c
 fine:∀d∈l,CA d
 uses:∀d∈l,∀u∈bJ (bO d),(sh=true/\u.name=fN.name/\u.kind=0/\u.bk≠14)\/
  ∃e∈l,e.name=u.name/\(bO e).kind=u.kind/\(u.kind=1->u.field∈bL (bO e))/\(u.bk=14->∀v∈bJ (bO e),v.bk≠14)
theorem WE{c:UInt8}{sh:Bool}{l:List Df}(h:iT c sh l=true):OL c sh l:=by
 unfold iT WD at h;simp only[Bool.and_eq_true,decide_eq_true_eq,List.length_map,List.map_map,List.all_eq_true,List.mem_map,forall_exists_index,and_imp,forall_apply_eq_imp_iff₂]at h;obtain⟨⟨h1,h2⟩,h3⟩:=h;refine⟨h1,h2,λd hd=>(h3 d hd).1.1.1.1,λd hd=>⟨(h3 d hd).1.1.1.2,(h3 d hd).1.1.2,(h3 d hd).1.2⟩,λd hd u hu=>?_⟩;have hf:=(h3 d hd).2 u hu;unfold Qs at hf;simp only[Bool.or_eq_true,Bool.and_eq_true,decide_eq_true_eq,List.any_eq_true,List.mem_map,List.all_eq_true]at hf;rcases hf with hf|⟨p,⟨e,he,rfl⟩,⟨⟨⟨a,b⟩,c⟩,f⟩⟩
 ·exact .inl ⟨hf.1.1.1,hf.1.1.2,hf.1.2,hf.2⟩
 ·refine .inr ⟨e,he,a,b,λhk=>c.resolve_left λhc=>hc hk,λhk v hv=>?_⟩;exact(f.resolve_left λhc=>hc hk) v hv
set_option maxRecDepth 100000 in
theorem YI:((List.range 3).all λi=>(List.range 8).all λv=>iT (UInt8.ofNat (48+i)) false (gB 0 i v))=true:=bY
set_option maxRecDepth 100000 in
theorem YJ:((List.range 3).all λi=>(List.range 8).all λv=>iT (UInt8.ofNat (48+i)) false (gB 1 i v))=true:=bY
set_option maxRecDepth 100000 in
theorem YK:((List.range 3).all λi=>(List.range 4).all λv=>iT (UInt8.ofNat (48+i)) false (gB 2 i v))=true:=bY
set_option maxRecDepth 100000 in
theorem YL:((List.range 3).all λi=>(List.range 2).all λv=>iT (UInt8.ofNat (48+i)) false (gB 3 i v))=true:=bY
set_option maxRecDepth 100000 in
theorem YM:((List.range 3).all λi=>(List.range 2).all λv=>iT (UInt8.ofNat (48+i)) false (gB 4 i v))=true:=bY
set_option maxRecDepth 100000 in
theorem YN:((List.range 3).all λi=>(List.range 4).all λv=>iT (UInt8.ofNat (48+i)) false (gB 5 i v))=true:=bY
set_option maxRecDepth 100000 in
theorem YO:((List.range 3).all λi=>(List.range 3).all λv=>iT (UInt8.ofNat (48+i)) false (gB 6 i v))=true:=bY
set_option maxRecDepth 100000 in
theorem YP:((List.range 3).all λi=>(List.range 3).all λv=>iT (UInt8.ofNat (48+i)) false (gB 7 i v))=true:=bY
set_option maxRecDepth 100000 in
theorem YQ:((List.range 3).all λi=>(List.range 2).all λv=>iT (UInt8.ofNat (48+i)) false (gB 8 i v))=true:=bY
set_option maxRecDepth 100000 in
theorem YR:((List.range 3).all λi=>(List.range 2).all λv=>iT (UInt8.ofNat (48+i)) true (gB 9 i v))=true:=bY
set_option maxRecDepth 100000 in
theorem WF:((List.range 3).all λi=>(List.range 3).all λv=>iT (UInt8.ofNat (48+i)) false (gB 10 i v))=true:=bY
set_option maxRecDepth 100000 in
theorem WG:((List.range 3).all λi=>(List.range 3).all λv=>iT (UInt8.ofNat (48+i)) false (gB 11 i v))=true:=bY
set_option maxRecDepth 100000 in
theorem WH:((List.range 3).all λi=>(List.range 3).all λv=>iT (UInt8.ofNat (48+i)) false (gB 12 i v))=true:=bY
set_option maxRecDepth 100000 in
theorem WI:((List.range 3).all λi=>(List.range 18).all λv=>iT (UInt8.ofNat (48+i)) false (gB 13 i v))=true:=bY
theorem OM(v:Nat):cI (v%8) 0=cI v 0:=by
 simp only[cI,tX,iQ,uK,mS,iR,mT,mU,show v%8%2=v%2 by omega,show v%8 / 2%4=v / 2%4 by omega]
theorem ON(v:Nat):cI (v%8) 1=cI v 1:=by
 simp only[cI,tX,iQ,uK,mS,iR,mT,mU,show v%8%2=v%2 by omega,show v%8 / 2%4=v / 2%4 by omega]
theorem OO(v:Nat):cI (v%4) 2=cI v 2:=by
 simp only[cI,tX,iQ,uK,mS,iR,mT,mU,show v%4%2=v%2 by omega,show v%4 / 2%2=v / 2%2 by omega]
theorem OP(v:Nat):cI (v%2) 3=cI v 3:=by
 simp only[cI,tX,iQ,uK,mS,iR,mT,mU,show v%2%2=v%2 by omega]
theorem OQ(v:Nat):cI (v%2) 4=cI v 4:=by
 simp only[cI,tX,iQ,uK,mS,iR,mT,mU,show v%2%2=v%2 by omega]
theorem OR(v:Nat):cI (v%4) 5=cI v 5:=by
 simp only[cI,tX,iQ,uK,mS,iR,mT,mU,show v%4%2=v%2 by omega,show v%4 / 2%2=v / 2%2 by omega]
theorem OS(v:Nat):cI (v%3) 6=cI v 6:=by
 simp only[cI,tX,iQ,uK,mS,iR,mT,mU,show v%3%3=v%3 by omega]
theorem OT(v:Nat):cI (v%3) 7=cI v 7:=by
 simp only[cI,tX,iQ,uK,mS,iR,mT,mU,show v%3%3=v%3 by omega]
theorem OU(v:Nat):cI (v%2) 8=cI v 8:=by
 simp only[cI,tX,iQ,uK,mS,iR,mT,mU,show v%2%2=v%2 by omega]
theorem OV(v:Nat):cI (v%2) 9=cI v 9:=by
 simp only[cI,tX,iQ,uK,mS,iR,mT,mU,show v%2%2=v%2 by omega]
theorem LP(v:Nat):cI (v%3) 10=cI v 10:=by
 simp only[cI,tX,iQ,uK,mS,iR,mT,mU,show v%3%3=v%3 by omega]
theorem LQ(v:Nat):cI (v%3) 11=cI v 11:=by
 simp only[cI,tX,iQ,uK,mS,iR,mT,mU,show v%3%3=v%3 by omega]
theorem LR(v:Nat):cI (v%3) 12=cI v 12:=by
 simp only[cI,tX,iQ,uK,mS,iR,mT,mU,show v%3%3=v%3 by omega]
theorem LS(v:Nat):cI (v%18) 13=cI v 13:=by
 simp only[cI,tX,iQ,uK,mS,iR,mT,mU,show v%18%9=v%9 by omega,show v%18 / 9%2=v / 9%2 by omega]
theorem LT{k i v:Nat}(hk:k<14)(hi:i<3):OL (UInt8.ofNat (48+i)) (decide (k=9)) (gB k i v):=by
 refine WE ?_;have key:∀(m:Nat) (b:Bool),0<m->cI (v%m) k=cI v k->((List.range 3).all λi=>(List.range m).all λv=>iT (UInt8.ofNat (48+i)) b (gB k i v))=true->iT (UInt8.ofNat (48+i)) b (gB k i v)=true:=by
  intro m b hm he h;have:=List.all_eq_true.1 (List.all_eq_true.1 h i (List.mem_range.2 hi)) (v%m) (List.mem_range.2 (Nat.mod_lt _ hm));unfold gB at this|-;rw[he]at this;exact this
 match k,hk with
 |0,_=>exact key 8 false bC (OM v) YI
 |1,_=>exact key 8 false bC (ON v) YJ
 |2,_=>exact key 4 false bC (OO v) YK
 |3,_=>exact key 2 false bC (OP v) YL
 |4,_=>exact key 2 false bC (OQ v) YM
 |5,_=>exact key 4 false bC (OR v) YN
 |6,_=>exact key 3 false bC (OS v) YO
 |7,_=>exact key 3 false bC (OT v) YP
 |8,_=>exact key 2 false bC (OU v) YQ
 |9,_=>exact key 2 true bC (OV v) YR
 |10,_=>exact key 3 false bC (LP v) WF
 |11,_=>exact key 3 false bC (LQ v) WG
 |12,_=>exact key 3 false bC (LR v) WH
 |13,_=>exact key 18 false bC (LS v) WI
structure aAs(k:Nat)(st:List Df×Bool):Prop where
 len:st.1.length<=6*k+st.2.toNat
 names:(st.1.map Df.name).Nodup
 last:∀d∈st.1,(d=fN/\st.2=true)\/∃j<k,d.name.getLast?=some (UInt8.ofNat (48+j))
 shared:st.2=true->fN∈st.1
 fine:∀d∈st.1,CA d
 uses:∀d∈st.1,∀u∈bJ (bO d),∃e∈st.1,e.name=u.name/\(bO e).kind=u.kind/\(u.kind=1->u.field∈bL (bO e))/\(u.bk=14->∀v∈bJ (bO e),v.bk≠14)
theorem LU:CA fN:=by unfold CA;decide
theorem LW:bJ (bO fN)=[]:=bC
theorem CC:(bO fN).kind=0:=bC
theorem CD:fN.name.getLast?=some 100:=bC
theorem Ti{a b:Nat}(ha:a<3)(hb:b<3)(h:UInt8.ofNat (48+a)=UInt8.ofNat (48+b)):a=b:=by
 have:=congrArg UInt8.toNat h;rw[UInt8.toNat_ofNat',UInt8.toNat_ofNat']at this;omega
theorem Qt{a:Nat}(ha:a<3):(100:UInt8)≠UInt8.ofNat (48+a):=by
 intro h;have:=congrArg UInt8.toNat h;rw[UInt8.toNat_ofNat']at this;have h2:(100:UInt8).toNat=100:=rfl;omega
theorem aAs.add{k:Nat}{st:List Df×Bool}{p:List Df}{sh:Bool}(hk:k<3)(h:aAs k st)(hp:OL (UInt8.ofNat (48+k)) sh p):
 aAs (k+1) (if sh=true/\st.2=false then(st.1++p++[fN],true)else(st.1++p,st.2)):=by
 have hn:((st.1++p).map Df.name).Nodup:=by
  rw[List.map_append,List.nodup_append];refine⟨h.names,hp.names,?_⟩;intro a ha b hb e;subst e;obtain⟨d,hd,rfl⟩:=List.mem_map.1 ha;obtain⟨d2,hd2,e2⟩:=List.mem_map.1 hb;have l2:=hp.last d2 hd2;rw[e2]at l2;rcases h.last d hd with⟨rfl,_⟩|⟨j,hj,l1⟩
  ·rw[CD]at l2;injection l2 with l2
   exact Qt hk l2
  ·rw[l1]at l2;injection l2 with l2
   have:=Ti aE hk l2;omega
 have hf:∀d∈st.1++p,CA d:=λd hd=>(List.mem_append.1 hd).elim (h.fine d) (hp.fine d);have hl:∀d∈st.1++p,(d=fN/\st.2=true)\/∃j<k+1,d.name.getLast?=some (UInt8.ofNat (48+j)):=λd hd=>by
  rcases List.mem_append.1 hd with hd|hd
  ·rcases h.last d hd with h1|⟨j,hj,h1⟩
   ·exact .inl h1
   ·exact .inr ⟨j,aE,h1⟩
  ·exact .inr ⟨k,aE,hp.last d hd⟩
 have hlen:(st.1++p).length<=6*(k+1)+st.2.toNat:=by
  have:=h.len;have:=hp.len;rw[List.length_append];omega
 split
 ·rename_i hc;refine⟨?_,?_,λd hd=>?_,λ_=>aM,λd hd=>?_,λd hd u hu=>?_⟩
  ·simp only[List.length_append,List.length_cons,List.length_nil,Bool.toNat_true]at hlen|-;rw[hc.2]at hlen;simp at hlen;omega
  ·rw[List.map_append,List.nodup_append];refine⟨hn,aM,?_⟩;intro a ha b hb e;simp at hb;subst hb;obtain⟨d,hd,e2⟩:=List.mem_map.1 ha;rcases hl d hd with⟨_,h2⟩|⟨j,hj,l1⟩
   ·rw[hc.2]at h2;cases h2
   ·rw[e2,e,CD]at l1;injection l1 with l1
    exact Qt aE l1
  ·rcases List.mem_append.1 hd with hd|hd
   ·rcases hl d hd with⟨h1,_⟩|h1
    ·exact .inl ⟨h1,rfl⟩
    ·exact .inr h1
   ·simp at hd;exact .inl ⟨hd,rfl⟩
  ·rcases List.mem_append.1 hd with hd|hd
   ·exact hf d hd
   ·simp at hd;subst hd;exact LU
  ·have hs:fN∈st.1++p++[fN]:=aM;rcases List.mem_append.1 hd with hd|hd
   ·rcases List.mem_append.1 hd with hd|hd
    ·obtain⟨e,he,r⟩:=h.uses d hd u hu;exact⟨e,List.mem_append_left _ (List.mem_append_left _ he),r⟩
    ·rcases hp.uses d hd u hu with⟨_,h1,h2,h3⟩|⟨e,he,r⟩
     ·exact⟨fN,hs,h1.symm,by rw[CC,h2],(λhk=>by rw[h2]at hk;cases hk),λhk=>absurd hk h3⟩
     ·exact⟨e,List.mem_append_left _ (List.mem_append_right _ he),r⟩
   ·simp at hd;subst hd;rw[LW]at hu;cases hu
 ·rename_i hc;refine⟨hlen,hn,hl,λhb=>List.mem_append_left _ (h.shared hb),hf,λd hd u hu=>?_⟩;rcases List.mem_append.1 hd with hd|hd
  ·obtain⟨e,he,r⟩:=h.uses d hd u hu;exact⟨e,List.mem_append_left _ he,r⟩
  ·rcases hp.uses d hd u hu with⟨h0,h1,h2,h3⟩|⟨e,he,r⟩
   ·have hb:st.2=true:=by
     cases q:st.2 with
     |true=>rfl
     |false=>exact absurd ⟨h0,q⟩ hc
    exact⟨fN,List.mem_append_left _ (h.shared hb),h1.symm,by rw[CC,h2],(λhk=>by rw[h2]at hk;cases hk),λhk=>absurd hk h3⟩
   ·exact⟨e,List.mem_append_right _ he,r⟩
theorem YS(l:List Int)(st:List Df×Bool)(i:Nat):Ta l st i=(if decide ((dQ l (1+i) 4096).toNat%14=9)=true/\st.2=false then(st.1++gB ((dQ l (1+i) 4096).toNat%14) i ((dQ l (1+i) 4096).toNat / 14)++[fN],true)else(st.1++gB ((dQ l (1+i) 4096).toNat%14) i ((dQ l (1+i) 4096).toNat / 14),st.2)):=by
 unfold Ta;simp only[decide_eq_true_eq]
theorem BE(l:List Int)(k:Nat):mN l (k+1)=Ta l (mN l k) k:=by
 unfold mN;rw[List.range_succ,List.foldl_append];rfl
theorem Ft(l:List Int):∀k,k<=3->aAs k (mN l k)
 |0,_=>⟨Nat.zero_le _,.nil,by simp[mN],by simp[mN],by simp[mN],by simp[mN]⟩
 |k+1,h=>by
  rw[BE,YS];exact(Ft l k aE).add aE (LT (Nat.mod_lt _ bC) aE)
theorem Ja(l:List Int)(i m:Int)(hm:0<m):0<=dQ l i m/\dQ l i m<m:=by
 unfold dQ;split
 ·exact⟨Int.le_refl _,hm⟩
 ·exact dG _ _ hm
theorem Jb(l:List Int):xZ l<=3:=by
 have:=Ja l 0 3 bC;unfold xZ;omega
theorem LY(l:List Int):(mN l (xZ l)).1.length<=19:=by
 have h:=Ft l _ (Jb l);have h3:=Jb l;have hb:(mN l (xZ l)).2.toNat<=1:=Bool.toNat_le _;have:=h.len;omega
theorem WJ{n:Nat}{b:Int}{i:Nat}(hi:i<n):qJ n b i<n:=by
 unfold qJ;have hm:(i+(bH b (n:Int)).toNat)%n<n:=Nat.mod_lt _ aE;simp only;split<;>omega
theorem Qu{x n:Nat}(h:x<2*n):x%n=if x<n then x else x-n:=by
 split
 ·exact Nat.mod_eq_of_lt ‹_›
 ·rw[Nat.mod_eq_sub_mod aE,Nat.mod_eq_of_lt aE]
theorem Tj{n:Nat}{b:Int}{i j:Nat}(hi:i<n)(hj:j<n)(h:qJ n b i=qJ n b j):i=j:=by
 unfold qJ at h;have kl:=dG b (n:Int) aE;obtain⟨k,hk⟩:∃k:Nat,(bH b (n:Int)).toNat=k:=⟨_,rfl⟩;have hkn:k<n:=aE;rw[hk]at h;have e1:=Qu (x:=i+k) (n:=n) aE;have e2:=Qu (x:=j+k) (n:=n) aE;simp only at h;rw[e1,e2]at h;split at h<;>split at h<;>split at h<;>omega
theorem CE{α:Type}[DecidableEq α]:∀{a b:List α},a.Nodup->a⊆b->b.length<=a.length->a.Perm b
 |[],b,_,_,hl=>by
  have:b=[]:=List.eq_nil_of_length_eq_zero (by simpa using hl);rw[this]
 |x::r,b,hn,hs,hl=>by
  have hx:x∈b:=hs (List.mem_cons_self ..);have hp:=List.perm_cons_erase hx;refine(List.Perm.cons x (CE (List.nodup_cons.1 hn).2 (λy hy=>?_) ?_)).trans hp.symm
  ·have hy2:=hs (List.mem_cons_of_mem _ hy);have hne:y≠x:=λe=>(List.nodup_cons.1 hn).1 (e▸hy);exact(List.mem_erase_of_ne hne).2 hy2
  ·have:=hp.length_eq;simp only[List.length_cons]at this hl;omega
theorem WK:∀{n:Nat} {f:Nat->Nat},(∀i<n,f i<n)->(∀i<n,∀j<n,f i=f j->i=j)->((List.range n).map f).Perm (List.range n):=by
 intro n f h1 h2;have hnd:((List.range n).map f).Nodup:=by
  refine List.pairwise_iff_getElem.2 λi j hi hj hij=>?_;simp at hi hj|-;intro e;have:=h2 i hi j hj e;omega
 have hsub:(List.range n).map f⊆List.range n:=λx hx=>by
  obtain⟨i,hi,rfl⟩:=List.mem_map.1 hx;exact List.mem_range.2 (h1 i (List.mem_range.1 hi))
 exact CE hnd hsub aM
theorem Hy(l:List Df)(b:Int):(oE l b).Perm l:=by
 have h:=WK (n:=l.length) (f:=qJ l.length b) (λi hi=>WJ hi) λi hi j hj e=>Tj hi hj e;have h2:=h.map λi=>l.getD i default;have e1:oE l b=((List.range l.length).map (qJ l.length b)).map λi=>l.getD i default:=by unfold oE;rw[List.map_map];rfl
 have e2:(List.range l.length).map (λi=>l.getD i default)=l:=by
  refine List.ext_getElem aM λi h1 h2=>?_;simp[List.getD_eq_getElem?_getD,h2]
 rw[e1];rw[e2]at h2;exact h2
theorem Qv(l:List Int):(CO l).length<=19:=by
 have:=(Hy (mN l (xZ l)).1 (dQ l 4 64)).length_eq;have:=LY l;unfold CO;omega
end Go.Eng
