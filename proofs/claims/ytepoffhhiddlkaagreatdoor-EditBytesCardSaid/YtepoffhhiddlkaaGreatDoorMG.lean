/- Part 7 of the proof. No condition. -/
import Derived.Test.YtepoffhhiddlkaaGreatDoorMF
open Go.Proofs
set_option linter.unusedVariables false
set_option linter.unusedSimpArgs false
set_option maxRecDepth 20000
set_option maxHeartbeats 4000000
namespace Go.Eng
section
attribute[local simp] bA bW aQ aZ
theorem sK.next{α:Type}{lt:α->α->Bool}{l:List α}{i:Nat}{d:α}(h:sK lt l i)(hi:i<l.length)(hp:0<i->lt (l.getD (i-1) d) (l.getD i d)=true):sK lt l (i+1):=by
 cases i with
 |zero=>exact fW (by omega)
 |succ i=>
  refine h.succ hi ?_;have:=hp (by omega);simpa [show i<l.length by omega,hi]using this
theorem DS{α:Type}{lt:α->α->Bool}{l:List α}{i:Nat}{d:α}(hi:i<l.length)(h0:0<i)(hp:lt (l.getD (i-1) d) (l.getD i d)=false):nJ lt l=false:=by
 obtain⟨j,rfl⟩:∃j,i=j+1:=⟨i-1,by omega⟩;exact uY hi (by simpa [show j<l.length by omega,hi]using hp)
set_option maxRecDepth 20000
theorem Fx(e:Ed)(b1:e.puts.length<=1100000)(b2:e.drops.length<=1100000)(b3:e.needs.length<=1100000):Ok Tryz.prog 122 [e.d] ⟨.d (.bool (dA e)),true⟩:=by
 refine bE Tryz.func122 rfl Tryz.ntmps122 Tryz.results122 λw0 X hp=>?_;have htl:=oL b1 b2;refine aA ?_;simp;refine aS hT hW (λ|9=>some<| .plain ⟨.d (cQ (aP e)),true⟩|_=>none) ?_;simp;refine⟨uX e b1 b2,?_⟩;refine aB ?_;refine aS hT hW (λ|12=>some<| .plain ⟨.d (.bool e.name.isName),true⟩|_=>none) ?_;simp;refine⟨CB _,?_⟩;refine aD ?_;simp;refine⟨λh2=>?_,λn1 n2=>?_⟩
 ·refine aA ?_;simp;refine aN ?_;simp;rcases h2 with h|h
  ·simp[dA,h]
  ·have h:¬(aP e).length<=24:=(by omega);simp[dA,h]
 ·refine aH ?_;simp;refine aB ?_;refine aA ?_;simp;refine aF ?_;refine aJ (ι:=Nat) (λi=>aU [(1,.bx 1 0),(3,.d (cQ (aP e))),(4,.d (aT i))]) (λi=>aL [(1,.box false ((aK e.d).map .d))]) (λi=>i<=e.needs.length/\AY (λn=> !Nm.isName n) e.needs i/\sK Nm.less e.needs i) (λi=>e.needs.length-i) 0 (aC hp [1,3,4] [(1,1)]) (⟨Nat.zero_le _,AY.zero,fW (by omega)⟩) λi hi5=>?_;refine aB ?_;refine aA ?_;simp;refine aD ?_;simp;refine⟨λh5=>?_,λh5=>?_⟩
  ·refine aH ?_;simp;refine aB ?_;refine aF ?_;refine aB ?_;obtain⟨i1,hi1⟩:∃i1,i1=i-1:=⟨_,rfl⟩;have hmx:(if(i:Int)- 1<0 then(0:Int)else(i:Int)- 1)=(i1:Int):=by split<;>omega
   have hil:i1<e.needs.length:=(by omega);refine bI [] [[],[],[],[],[],[31],[],[],[],[],[],[],[],[],[],[],[],[],[],[],[],[],[],[49]] (λ|31=>some<| .plain ⟨.d (.bool e.needs[i].isName),true⟩|49=>some<| .plain ⟨.d (.bool (Nm.less e.needs[i1] e.needs[i])),true⟩|_=>none) ?_;simp[h5,hmx,hil];refine⟨⟨⟨⟨CB _,λ_ _=>by omega⟩,λ_ _=>If _ _⟩,λa b=>⟨a,b⟩⟩,?_⟩;refine aD ?_;simp;refine⟨λh7=>?_,λg1 g2=>?_⟩
   ·refine aA ?_;simp;refine aN ?_;simp;rcases h7 with h|⟨h0,h⟩
    ·have:e.needs.all Nm.isName=false:=by
      rw[List.all_eq_false];exact⟨_,List.getElem_mem h5,by simp[h]⟩
     simp[dA,this]
    ·have:nJ Nm.less e.needs=false:=DS (d:=default) h5 h0 (by subst hi1;simpa [hil,h5]using h);simp[dA,this]
   ·refine aH ?_;simp;refine aG ?_;simp;refine⟨by omega,?_⟩;refine aI (i+1) (aC hp [1,3,4] [(1,1)]) ?_ ?_
    ·refine⟨h5,hi5.2.1.succ h5 (by simpa using g1),hi5.2.2.next (d:=default) h5 λh0=>?_⟩;have:=g2 h0;subst hi1;simpa [hil,h5]using this
    ·omega
  ·refine aO ?_;simp;refine aB ?_;refine aA ?_;simp;refine aF ?_;refine aJ (ι:=Nat) (λk=>aU [(1,.bx 1 0),(3,.d (cQ (aP e))),(5,.d (aT k))]) (λk=>aL [(1,.box false ((aK e.d).map .d))]) (λk=>k<=(aP e).length/\∀(j:Nat) (h:j<(aP e).length),j<k->sL (aP e) j h=true) (λk=>(aP e).length-k) 0 (aC hp [1,3,5] [(1,1)]) (⟨Nat.zero_le _,λj _ h=>absurd h (Nat.not_lt_zero _)⟩) λk hi10=>?_;refine aB ?_;refine aA ?_;simp;refine aD ?_;simp;refine⟨λh10=>?_,λh10=>?_⟩
   ·refine aH ?_;simp;refine aB ?_;refine aF ?_;refine aB ?_;refine bI [] [[],[],[],[],[],[],[],[],[],[],[],[],[],[],[],[],[],[],[],[],[],[],[81]] (λ|81=>some<| .plain ⟨.d (.bool (decide ((aP e)[k]∈(aP e).take k))),true⟩|_=>none) ?_;simp[h10];refine⟨⟨λ_ _=>by omega,λ_ _=>by simpa [cQ]using Oa ((aP e).take k) (aP e)[k]⟩,?_⟩;refine aD ?_;simp;refine⟨λh12=>?_,λq1 q2 q3=>?_⟩
    ·refine aA ?_;simp;refine aN ?_;simp;have hn:mH (aP e)=false:=by
      cases qn:mH (aP e)with
      |false=>rfl
      |true=>
       have:=oK.1 qn k h10;simp only[sL,Bool.and_eq_true,decide_eq_true_eq]at this;obtain⟨⟨z1,z2⟩,z3⟩:=this;rcases h12 with(h|h)|h
       ·have:=List.length_pos_iff.2 z1;omega
       ·omega
       ·exact absurd h z3
     simp[dA,hn]
    ·refine aH ?_;simp;refine aG ?_;simp;refine⟨by omega,?_⟩;refine aI (k+1) (aC hp [1,3,5] [(1,1)]) ?_ ?_
     ·refine⟨h10,λj hj hjk=>?_⟩;by_cases hjk':j=k
      ·subst hjk';have z:(aP e)[j]≠[]:=λz=>by rw[z]at q1;simp at q1
       simp only[sL,Bool.and_eq_true,decide_eq_true_eq];exact⟨⟨z,by omega⟩,q3⟩
      ·exact hi10.2 j hj (by omega)
     ·omega
   ·refine aO ?_;simp;refine aB ?_;refine aA ?_;simp;refine aF ?_;refine aJ (ι:=Nat) (λt=>aU [(1,.bx 1 0),(6,.d (aT t))]) (λt=>aL [(1,.box false ((aK e.d).map .d))]) (λt=>t<=e.puts.length/\AY (λd=>decide (1024<d.text.length)) e.puts t/\sK fX (e.puts.map Df.name) t) (λt=>e.puts.length-t) 0 (aC hp [1,6] [(1,1)]) (⟨Nat.zero_le _,AY.zero,fW (by omega)⟩) λt hi15=>?_;refine aB ?_;refine aA ?_;simp;refine aD ?_;simp;refine⟨λh15=>?_,λh15=>?_⟩
    ·refine aH ?_;simp;refine aB ?_;refine aF ?_;refine aB ?_;obtain⟨t1,ht1⟩:∃t1,t1=t-1:=⟨_,rfl⟩;have hmx:(if(t:Int)- 1<0 then(0:Int)else(t:Int)- 1)=(t1:Int):=by split<;>omega
     have htl1:t1<e.puts.length:=(by omega);refine bI [] [] (λ_=>none) ?_;simp[h15,hmx,htl1];refine⟨⟨λ_ _=>by omega,λa b=>⟨a,b⟩⟩,?_⟩;refine aD ?_;simp;refine⟨λh17=>?_,λq4 q5=>?_⟩
     ·refine aA ?_;simp;refine aN ?_;simp;rcases h17 with h|⟨h0,h⟩
      ·have:(e.puts.all λd=>decide (d.text.length<=1024))=false:=by
        rw[List.all_eq_false];exact⟨_,List.getElem_mem h15,by simp;omega⟩
       simp[dA,this]
      ·have:nJ fX (e.puts.map Df.name)=false:=DS (d:=default) (by simpa using h15) h0 (by subst ht1;simpa [htl1,h15,fX]using h);simp[dA,this]
     ·refine aH ?_;simp;refine aG ?_;simp;refine⟨by omega,?_⟩;refine aI (t+1) (aC hp [1,6] [(1,1)]) ?_ ?_
      ·refine⟨h15,hi15.2.1.succ h15 (by simp;omega),hi15.2.2.next (d:=default) (by simpa using h15) λh0=>?_⟩;have:=q5 h0;subst ht1;simpa [htl1,h15,fX]using this
      ·omega
    ·refine aO ?_;simp;refine aB ?_;refine aA ?_;simp;refine aF ?_;refine aJ (ι:=Nat) (λu=>aU [(1,.bx 1 0),(7,.d (aT u))]) (λu=>aL [(1,.box false ((aK e.d).map .d))]) (λu=>1<=u/\u<=e.drops.length+1/\sK fX e.drops u) (λu=>e.drops.length+1-u) 1 (aC hp [1,7] [(1,1)]) (⟨Nat.le_refl _,by omega,fW (Nat.le_refl _)⟩) λu hi20=>?_;refine aB ?_;refine aA ?_;simp;refine aD ?_;simp;refine⟨λh20=>?_,λh20=>?_⟩
     ·refine aH ?_;simp;refine aB ?_;refine aF ?_;refine aB ?_;obtain⟨u1,hu1⟩:∃u1,u1=u-1:=⟨_,rfl⟩;have hu10:1<=u:=hi20.1;have hmu:((u:Int)- 1).toNat=u1:=by omega
      have hul1:u1<e.drops.length:=(by omega);refine bI [] [] (λ_=>none) ?_;simp[h20,hmu,hul1];refine⟨⟨by omega,by omega,by omega⟩,?_⟩;refine aD ?_;simp;refine⟨λh22=>?_,λh22=>?_⟩
      ·refine aA ?_;simp;refine aN ?_;simp;have:nJ fX e.drops=false:=DS (d:=default) h20 (by omega) (by subst hu1;simpa [hul1,h20,fX]using h22);simp[dA,this]
      ·refine aH ?_;simp;refine aG ?_;simp;refine⟨by omega,?_⟩;refine aI (u+1) (aC hp [1,7] [(1,1)]) ?_ ?_
       ·refine⟨by omega,by omega,hi20.2.2.next (d:=default) h20 λh0=>?_⟩;subst hu1;simpa [hul1,h20,fX]using h22
       ·omega
     ·refine aO ?_;simp;refine aA ?_;simp;refine aN ?_;simp;have a1:(e.needs.all Nm.isName)=true:=by
       rw[List.all_eq_true];intro x hx;obtain⟨j,hj,rfl⟩:=List.getElem_of_mem hx;have:=hi5.2.1 j hj (by omega);simpa using this
      have a2:(e.puts.all λd=>decide (d.text.length<=1024))=true:=by
       rw[List.all_eq_true];intro x hx;obtain⟨j,hj,rfl⟩:=List.getElem_of_mem hx;have:=hi15.2.1 j hj (by omega);simp at this|-;omega
      have a3:mH (aP e)=true:=oK.2 λj hj=>hi10.2 j hj (by omega);have a4:nJ Nm.less e.needs=true:=hi5.2.2.done (by omega);have a5:nJ fX (e.puts.map Df.name)=true:=hi15.2.2.done (by simp;omega);have a6:nJ fX e.drops=true:=hi20.2.2.done (by omega);have a7:(aP e).length<=24:=by omega
      simp[dA,n1,a1,a2,a3,a4,a5,a6,a7]
end
section
attribute[local simp] bA bW aQ aZ
theorem LQ(l:List Ed)(hs:iL l)(hn:(bC l).length<=1100000):Ok Tryz.prog 46 [bT l] ⟨.tup [.d (aT (cT l).1),.d (aT (cT l).2)],true⟩:=by
 refine AV Tryz.func46 (by kernel_rfl) (c:=_) rfl Tryz.ntmps46 (by simp) Tryz.results46 rfl λw0 X hp=>?_;refine eG.len (t:=0) rfl λhlen=>?_;simp at hlen;refine aA ?_;simp;refine aB ?_;refine aA ?_;simp;refine aD ?_;simp;refine⟨λh1=>?_,λh1=>?_⟩
 ·refine aA ?_;simp;refine aN ?_;have:64<l.length:=by omega
  simp[cT,this]
 ·refine aH ?_;simp;refine aB ?_;refine aA ?_;simp;refine aF ?_;refine aJ (ι:=Nat) (λi=>aU [(0,.d (bT l)),(4,.d (aT i))]) (λi=>aL []) (λi=>i<=l.length/\dW l (l.drop i) i=dW l l 0) (λi=>l.length-i) 0 (aC hp [0,4] []) (by simp) λi hi4=>?_;refine aB ?_;refine aA ?_;simp;refine aD ?_;simp;refine⟨λh4=>?_,λh4=>?_⟩
  ·refine aH ?_;simp;refine aB ?_;refine aF ?_;refine aA ?_;simp[h4];refine aB ?_;refine aB ?_;have hnd:=qQ (List.getElem_mem h4);have hnd2:l[i].needs.length<=1100000:=Nat.le_trans hnd hn;refine eG.ro hT hW (λ|21=>some<| .plain ⟨.d (.bool (dA l[i])),true⟩|_=>none) ?_;simp[h4];refine⟨Fx l[i] (hs _ (List.getElem_mem h4)).1 (hs _ (List.getElem_mem h4)).2 hnd2,?_⟩;refine aD ?_;simp;refine⟨λh7=>?_,λh7=>?_⟩
   ·refine aA ?_;simp;refine aN ?_;have hl:¬64<l.length:=by omega
    have e:kX l i l[i]=1:=(by simp[kX,h7]);have hv:=dS h4 (by rw[e];decide);rw[hi4.2,e]at hv;simp[cT,hl,hv]
   ·refine aH ?_;simp;refine aB ?_;refine aS hT hW (λ|27=>some<| .plain ⟨.d (aT (bM l l[i].name)),true⟩|_=>none) ?_;simp;refine⟨zY l l[i].name,?_⟩;refine aD ?_;simp;refine⟨λh9=>?_,λh9=>?_⟩
    ·refine aA ?_;simp;refine aN ?_;have hl:¬64<l.length:=by omega
     have e:kX l i l[i]=7:=(by simp[kX,h7,h9]);have hv:=dS h4 (by rw[e];decide);rw[hi4.2,e]at hv;simp[cT,hl,hv]
    ·refine aH ?_;simp;refine aB ?_;refine aA ?_;simp;refine aF ?_;refine aJ (ι:=Nat) (λk=>aU [(0,.d (bT l)),(4,.d (aT i)),(5,.bx 5 0),(6,.d (aT k))]) (λk=>aL [(5,.box false ((aK l[i].d).map .d))]) (λk=>k<=l[i].needs.length/\AY (λn=>decide (bM l n<0)) l[i].needs k) (λk=>l[i].needs.length-k) 0 (aC hp [0,4,5,6] [(5,5)]) (⟨Nat.zero_le _,AY.zero⟩) λk hi12=>?_;refine aB ?_;refine aA ?_;simp;refine aD ?_;simp;refine⟨λh12=>?_,λh12=>?_⟩
     ·refine aH ?_;simp;refine aB ?_;refine aF ?_;refine aS hT hW (λ|44=>some<| .plain ⟨.d (aT (bM l l[i].needs[k])),true⟩|_=>none) ?_;simp[h12];refine⟨zY l _,?_⟩;refine aD ?_;simp;refine⟨λh14=>?_,λh14=>?_⟩
      ·refine aA ?_;simp;refine aN ?_;have hl:¬64<l.length:=by omega
       have k8:¬bM l l[i].name<i:=(by omega);have k10:l[i].needs.any (λn=>decide (bM l n<0))=true:=List.any_eq_true.2 ⟨_,List.getElem_mem h12,by simpa using h14⟩;have e:kX l i l[i]=6:=by simp[kX,h7,k8,k10]
       have hv:=dS h4 (by rw[e];decide);rw[hi4.2,e]at hv;simp[cT,hl,hv]
      ·refine aH ?_;simp;refine aG ?_;simp;refine⟨by omega,?_⟩;refine aI (k+1) (aC hp [0,4,5,6] [(5,5)]) ?_ ?_
       ·exact⟨h12,hi12.2.succ h12 (by simpa using h14)⟩
       ·omega
     ·refine aO ?_;simp;refine aS hT hW (λ|52=>some<| .plain ⟨.d (.bool (decide (l[i].name∈bZ l l[i].name))),true⟩|_=>none) ?_;simp;refine⟨xY l _ _ hn,?_⟩;refine aD ?_;simp;refine⟨λh16=>?_,λh16=>?_⟩
      ·refine aA ?_;simp;refine aN ?_;have hl:¬64<l.length:=by omega
       have k8:¬bM l l[i].name<i:=(by omega);have k10:l[i].needs.any (λn=>decide (bM l n<0))=false:=hi12.2.any (by omega);have e:kX l i l[i]=13:=by simp[kX,h7,k8,k10,h16]
       have hv:=dS h4 (by rw[e];decide);rw[hi4.2,e]at hv;simp[cT,hl,hv]
      ·refine aH ?_;simp;refine aG ?_;simp;refine⟨by omega,?_⟩;refine aI (i+1) (aC hp [0,4] []) ?_ ?_
       ·refine⟨h4,?_⟩;rw[<-hi4.2,<-sM h4];have k8:¬bM l l[i].name<i:=by omega
        have k10:l[i].needs.any (λn=>decide (bM l n<0))=false:=hi12.2.any (by omega);simp[kX,h7,k8,k10,h16]
       ·omega
  ·refine aO ?_;simp;refine aA ?_;simp;refine aN ?_;have hl:¬64<l.length:=by omega
   have hv:=uK (l:=l) (i:=i) (by omega);rw[hi4.2]at hv;have q:i=l.length:=by omega
   simp[cT,hl,hv,q]
end
section
attribute[local simp] bA bW aQ aZ
theorem Qn{k:Nat}(h:k<5):[DV.str [97],DV.str [98],DV.str [99],DV.str [100],DV.str [97,97]][k]?.getD default=.str ((([[97],[98],[99],[100],[97,97]]:List dO)).getD k []):=by
 match k,h with
 |0,_=>rfl
 |1,_=>rfl
 |2,_=>rfl
 |3,_=>rfl
 |4,_=>rfl
theorem Io(n:Int)(h1: -9223372036854775808<=n)(h2:n<=9223372036854775807):Ok Tryz.prog 112 [aT n] ⟨.d (.str (uJ n)),true⟩:=by
 refine bE Tryz.func112 rfl Tryz.ntmps112 Tryz.results112 λw0 X hp=>?_;have ha:=cG n 5 (by decide);have h5:[DV.str [97],DV.str [98],DV.str [99],DV.str [100],DV.str [97,97]][(bR n 5).toNat]?.getD default=.str (uJ n):=Qn (by omega);have h0:[0,1,2,3,4]=List.range 5:=by decide
 refine aA ?_;simp;refine aS hT hW (λ|5=>some<| .plain ⟨.d (aT (bR n 5)),true⟩|_=>none) ?_;simp[h5];refine⟨⟨⟨⟨h0,dE n 5 h1 h2 (by decide)⟩,ha⟩,ha.2⟩,?_⟩;refine aN ?_;simp
theorem Hz(n:Int):iX (.int .u8 (IntKind.u8.wrap (48+bR n 10)))=UInt8.ofNat (48+bR n 10).toNat:=by
 obtain⟨ha,hb⟩:=cG n 10 (by decide);obtain⟨k,hk⟩:∃k:Nat,bR n 10=k:=⟨(bR n 10).toNat,by omega⟩;rw[hk]at ha hb|-;have hk10:k<10:=by omega
 clear hk ha hb
 match k,hk10 with
 |0,_=>rfl
 |1,_=>rfl
 |2,_=>rfl
 |3,_=>rfl
 |4,_=>rfl
 |5,_=>rfl
 |6,_=>rfl
 |7,_=>rfl
 |8,_=>rfl
 |9,_=>rfl
theorem yB(n:Int):(uJ n).length<=2:=by
 unfold uJ;obtain⟨ha,hb⟩:=cG n 5 (by decide);obtain⟨k,hk⟩:∃k:Nat,(bR n 5).toNat=k:=⟨_,rfl⟩;have hk5:k<5:=by omega
 rw[hk];clear hk ha hb
 match k,hk5 with
 |0,_=>exact Nat.le_succ 1
 |1,_=>exact Nat.le_succ 1
 |2,_=>exact Nat.le_succ 1
 |3,_=>exact Nat.le_succ 1
 |4,_=>exact Nat.le_refl 2
theorem LR(n v:Int)(h1: -9223372036854775808<=n)(h2:n<=9223372036854775807)(h3: -9223372036854775808<=v)(h4:v<=9223372036854775807):Ok Tryz.prog 111 [aT n,aT v] ⟨.d (BV n v).d,true⟩:=by
 refine sI Tryz.func111 rfl Tryz.ntmps111 Tryz.results111 λw0 X hp=>?_;have ha:=cG v 10 (by decide);have hl:=yB n;refine aA ?_;simp;refine aS hT hW (λ|7=>some<| .plain ⟨.d (aT (bR v 10)),true⟩|_=>none) ?_;simp[Hz];refine⟨⟨dE v 10 h3 h4 (by decide),by omega,by omega⟩,?_⟩;refine aS hT hW (λ|13=>some<| .plain ⟨.d (.str (uJ n)),true⟩|15=>some<| .plain ⟨.d (.str (uJ n)),true⟩|_=>none) ?_;simp;refine⟨⟨⟨⟨⟨Io n h1 h2,by omega⟩,by omega⟩,by omega⟩,by omega⟩,?_⟩;refine aN ?_;simp[BV,Hc]
def oT(n:Nat)(by':Int)(i:Nat):Nat:=
 let k:=(i+(bR by' n).toNat)%n
 if by'.tmod 2≠0 then n-1-k else k
def dG(l:List Ed)(by':Int):List Ed:=(List.range l.length).map λi=>l.getD (oT l.length by' i) default
theorem CI{n i:Nat}{b:Int}(h:0<n):oT n b i<n:=by
 unfold oT;have:=Nat.mod_lt (i+(bR b n).toNat) h;dsimp only;split<;>omega
theorem Bw{l:List Ed}{b:Int}{i:Nat}(h:i<l.length):(dG l b)[i]'(by simpa [dG]using h)=l.getD (oT l.length b i) default:=by simp[dG]
theorem JI(l:List Ed)(b:Int)(hl:l.length<=1100000)(h1: -9223372036854775808<=b)(h2:b<=9223372036854775807):Ok Tryz.prog 43 [bT l,aT b] ⟨.d (bT (dG l b)),false⟩:=by
 refine bE Tryz.func43 rfl Tryz.ntmps43 Tryz.results43 λw0 X hp=>?_;refine aA ?_;simp;refine aA ?_;simp;refine aB ?_;refine aA ?_;simp;refine aF ?_;refine aJ (ι:=Nat×List Ed) (λ⟨i,acc⟩=>aU [(0,.d (bT l)),(1,.d (aT b)),(5,.ow 5 0 acc.length),(6,.d (aT i))]) (λ⟨i,acc⟩=>aL [(5,.row false 5 (acc.map Ed.d))]) (λ⟨i,acc⟩=>i<=l.length/\acc.length=i/\acc=(dG l b).take i) (λ⟨i,acc⟩=>l.length-i) (0,[]) (aC hp [0,1,5,6] [(5,5)]) (by simp) λ⟨i,acc⟩ hi3=>?_;refine aB ?_;refine aA ?_;simp;refine aD ?_;simp;refine⟨λh3=>?_,λh3=>?_⟩
 ·refine aH ?_;simp;refine aB ?_;refine aF ?_;refine aB ?_;have hpos:0<l.length:=by omega
  have hta:=CI (n:=l.length) (i:=i) (b:=b) hpos;obtain⟨ha,hb⟩:=cG b l.length (by omega);obtain⟨k0,hk0⟩:∃k0,k0=(i+(bR b l.length).toNat)%l.length:=⟨_,rfl⟩;have hk0l:k0<l.length:=by rw[hk0];exact Nat.mod_lt _ hpos
  have hkr:l.length-1-k0<l.length:=by omega
  have hacc:acc.length=i:=hi3.2.1;have hkm:((i:Int)+bR b l.length).tmod l.length=(k0:Int):=by
   rw[hk0,show(i:Int)+bR b l.length=((i+(bR b l.length).toNat:Nat):Int)by omega];rfl
  refine eG.ro hT hW (λ|18=>some<| .plain ⟨.d (aT (bR b l.length)),true⟩|_=>none) ?_;simp[hkm];refine⟨⟨⟨dE b l.length h1 h2 (by omega),by omega⟩,λe=>by subst e;simp at hpos⟩,?_⟩;refine aB ?_;refine aA ?_;simp;refine aD ?_;simp;refine⟨λh6=>?_,λh6=>?_⟩
  ·refine aG ?_;simp;refine⟨⟨by omega,by omega⟩,?_⟩;refine aG ?_;simp[hk0l,hkr];refine⟨by omega,?_⟩;refine aG ?_;simp;refine⟨by omega,?_⟩;refine aI (i+1,acc++[l[l.length-1-k0]]) (aC hp [0,1,5,6] [(37,5)]) ?_ ?_
   ·refine⟨h3,by simp[hacc],?_⟩;have e:oT l.length b i=l.length-1-k0:=by unfold oT;rw[<-hk0];simp only;rw[if_pos h6]
    have:=Bw (b:=b) h3;dsimp only;rw[List.take_succ_eq_append_getElem (by simpa [dG]using h3),<-hi3.2.2,this,e];simp[hkr]
   ·omega
  ·refine aH ?_;simp;refine aG ?_;simp[hk0l,hkr];refine⟨by omega,?_⟩;refine aG ?_;simp;refine⟨by omega,?_⟩;refine aI (i+1,acc++[l[k0]]) (aC hp [0,1,5,6] [(37,5)]) ?_ ?_
   ·refine⟨h3,by simp[hacc],?_⟩;have e:oT l.length b i=k0:=by unfold oT;rw[<-hk0];simp only;rw[if_neg (by simpa using h6)]
    have:=Bw (b:=b) h3;dsimp only;rw[List.take_succ_eq_append_getElem (by simpa [dG]using h3),<-hi3.2.2,this,e];simp[hk0l]
   ·omega
 ·refine aO ?_;simp;refine aA ?_;simp;refine aN ?_;have e:acc=dG l b:=by
   rw[hi3.2.2,List.take_of_length_le (by simp[dG];omega)]
  simp[e]
end
section
attribute[local simp] bA bW aQ aZ
theorem DT{k:Nat}(h:k<1000):IntKind.u64.wrap (k:Int)=k:=by
 unfold IntKind.wrap;simp[IntKind.bits,IntKind.signed];omega
def shr(a:Int)(k:Nat):Int:=a.fdiv (2^k)
def dX(bits:Int)(earlier:List Nm):Nat->List Nm
 |0=>[]
 |k+1=>dX bits earlier k++if(shr bits k).tmod 3=1 then(match earlier[k]? with|some n=>[n]|none=>[])else []
def fD(m:Int)(i:Nat):Nat->List Df
 |0=>[]
 |k+1=>fD m i k++if(shr m (2*k)).tmod 4=1 then [BV k (m+i)]else []
def dY(m:Int):Nat->List dO
 |0=>[]
 |k+1=>dY m k++if(shr m (2*k)).tmod 4=2/\1<k then [uJ k]else []
def Bx(l:List Int)(out:List Ed)(i:Nat):Ed:=
 let n:=Cz l (1+3*i) 4096
 let bits:=Cz l (2+3*i) 4096
 let m:=Cz l (3+3*i) 4096
 let earlier:=aY (out.map Ed.name)
 ⟨⟨n.tmod 3,i+6*((n.tdiv 3).tmod 8)⟩,dX bits earlier earlier.length,fD m i 4,dY m 4⟩
def gG(l:List Int):Nat->List Ed
 |0=>[]
 |i+1=>gG l i++[Bx l (gG l i) i]
def cR(l:List Int):List Ed:=gG l (Cz l 0 7).toNat
theorem oU(bits:Int)(ear:List Nm):∀k,(dX bits ear k).length<=k
 |0=>Nat.le_refl _
 |k+1=>by
  have:=oU bits ear k;simp only[dX,List.length_append];split
  ·split<;>simp<;>omega
  ·simp;omega
theorem qT(m:Int)(i:Nat):∀k,(fD m i k).length<=k
 |0=>Nat.le_refl _
 |k+1=>by
  have:=qT m i k;simp only[fD,List.length_append];split<;>simp<;>omega
theorem oV(m:Int):∀k,(dY m k).length<=k
 |0=>Nat.le_refl _
 |k+1=>by
  have:=oV m k;simp only[dY,List.length_append];split<;>simp<;>omega
theorem lC(l:List Int):∀i,(gG l i).length=i
 |0=>rfl
 |i+1=>by simp[gG,lC l i]
theorem jO(l:List Int)(i m:Int)(h:0<m):0<=Cz l i m/\Cz l i m<m:=by
 unfold Cz;split
 ·omega
 ·exact cG _ _ h
theorem NH(l:List Int)(hr:∀n∈l, -9223372036854775808<=n/\n<=9223372036854775807):Ok Tryz.prog 41 [.sl (l.map aT)] ⟨.d (bT (cR l)),false⟩:=by
 refine bE Tryz.func41 rfl Tryz.ntmps41 Tryz.results41 λw0 X hp=>?_;obtain⟨c0,hc0⟩:∃c0:Nat,(c0:Int)=Cz l 0 7:=⟨(Cz l 0 7).toNat,by have:=(jO l 0 7 (by decide)).1;omega⟩;have hc7:c0<7:=by have:=(jO l 0 7 (by decide)).2;omega
 refine aA ?_;simp;refine aA ?_;simp;refine aB ?_;refine aA ?_;simp;refine aF ?_;refine aJ (ι:=Nat) (λi=>aU [(0,.d (.sl (l.map aT))),(3,.ow 3 0 i),(4,.d (aT i))]) (λi=>aL [(3,.row false 5 ((gG l i).map Ed.d))]) (λi=>i<=c0) (λi=>c0-i) 0 (aC hp [0,3,4] [(3,3)] (hH:=by simp[gG])) (Nat.zero_le _) λi hi3=>?_;refine aB ?_;refine aS hT hW (λ|14=>some<| .plain ⟨.d (aT c0),true⟩|_=>none) ?_;simp;refine⟨by rw[hc0];exact Ie l 0 7 hr (by decide),?_⟩;refine aD ?_;simp;refine⟨λh3=>?_,λh3=>?_⟩
 ·refine aH ?_;simp;refine aB ?_;refine aF ?_;refine aB ?_;obtain⟨an1,an2⟩:=jO l (1+3*i) 4096 (by decide);obtain⟨ab1,ab2⟩:=jO l (2+3*i) 4096 (by decide);obtain⟨am1,am2⟩:=jO l (3+3*i) 4096 (by decide);obtain⟨n,hnn⟩:∃n,n=Cz l (1+3*i) 4096:=⟨_,rfl⟩;obtain⟨bits,hbits⟩:∃n,n=Cz l (2+3*i) 4096:=⟨_,rfl⟩;obtain⟨m,hm⟩:∃n,n=Cz l (3+3*i) 4096:=⟨_,rfl⟩;have hml:=lC l i;have htk:List.take i (List.map Ed.d (gG l i))=List.map Ed.d (gG l i):=List.take_of_length_le (by simp[hml]);refine eG.ro hT hW (λ|22=>some<| .plain ⟨.d (aT n),true⟩|_=>none) ?_;simp;refine⟨⟨by omega,by rw[hnn];exact Ie l _ 4096 hr (by decide)⟩,?_⟩;refine aB ?_;have hd1:0<=n.tdiv 3:=Int.tdiv_nonneg (by omega) (by omega);have hd2:n.tdiv 3<=n:=by rw[Int.tdiv_eq_ediv_of_nonneg (by omega)];omega
  have h81:0<=(n.tdiv 3).tmod 8:=Int.tmod_nonneg _ hd1;have h82:(n.tdiv 3).tmod 8<8:=Int.tmod_lt_of_pos _ (by omega);refine aG ?_;simp;refine⟨⟨⟨by omega,by omega⟩,by omega⟩,?_⟩;refine qL (fz:=false) (cs:=[.d (aT (n.tmod 3)),.d (aT (i+6*(n.tdiv 3).tmod 8)),.nl,.nl,.nl]) 6 2 1060 2 (by decide) ⟨by simp,by simp,by simp,?_⟩;refine qL (fz:=false) (cs:=[.d (aT (n.tmod 3)),.d (aT (i+6*(n.tdiv 3).tmod 8)),.ow 1060 0 0,.nl,.nl]) 6 3 1087 2 (by decide) ⟨by simp,by simp,by simp,?_⟩;refine qL (fz:=false) (cs:=[.d (aT (n.tmod 3)),.d (aT (i+6*(n.tdiv 3).tmod 8)),.ow 1060 0 0,.ow 1087 0 0,.nl]) 6 4 1098 1 (by decide) ⟨by simp,by simp,by simp,?_⟩;simp;refine aB ?_;obtain⟨nms,hnms⟩:∃nms,nms=(gG l i).map Ed.name:=⟨_,rfl⟩;have hnml:nms.length=i:=by rw[hnms];simp[hml]
  obtain⟨ear,hear⟩:∃ear,ear=aY nms:=⟨_,rfl⟩;have hel:ear.length<=i:=by rw[hear];have:=fP nms;omega
  refine eG.ro hT hW (λ|34=>some<| .plain ⟨.d (bY nms),true⟩|35=>some<| .plain ⟨.d (bY ear),true⟩|_=>none) ?_;simp[htk];refine⟨⟨by rw[hnms];exact wG _ (by omega),by rw[hear];exact zZ nms (by omega)⟩,?_⟩;refine aS hT hW (λ|40=>some<| .plain ⟨.d (aT bits),true⟩|_=>none) ?_;simp;refine⟨⟨by omega,by rw[hbits];exact Ie l _ 4096 hr (by decide)⟩,?_⟩;refine aB ?_;refine aA ?_;simp;refine aF ?_;refine aJ (ι:=Nat) (λk=>aU [(0,.d (.sl (l.map aT))),(3,.ow 3 0 i),(4,.d (aT i)),(6,.bx 6 0),(7,.d (bY ear)),(8,.d (aT bits)),(9,.d (aT k))]) (λk=>aL [(3,.row false 5 ((gG l i).map Ed.d)),(6,.box false [.d (aT (n.tmod 3)),.d (aT (i+6*(n.tdiv 3).tmod 8)),.ow 1060 0 (dX bits ear k).length,.ow 1087 0 0,.ow 1098 0 0]),(1060,.row false 2 ((dX bits ear k).map Nm.d)),(1087,.row false 2 []),(1098,.row false 1 [])]) (λk=>k<=ear.length) (λk=>ear.length-k) 0 (aC hp [0,3,4,6,7,8,9] [(3,3),(6,6),(1060,1060),(1087,1087),(1098,1098)] (hH:=by simp[dX])) (Nat.zero_le _) λk hi10=>?_;refine aB ?_;refine aA ?_;simp;refine aD ?_;simp;refine⟨λh10=>?_,λh10=>?_⟩
  ·refine aH ?_;simp;refine aB ?_;refine aF ?_;refine aB ?_;have hkw:=DT (k:=k) (by omega);have hk64:min k 64=k:=by omega
   refine aG ?_;simp[hkw,IntKind.bits,hk64];refine aD ?_;simp;refine⟨λh12=>?_,λh12=>?_⟩
   ·refine bI [[59],[59]] [[],[],[],[],[],[],[59],[54,60],[],[6]] (λ_=>none) ?_;simp[h10];have z:=oU bits ear k;refine⟨by omega,?_⟩;refine aG ?_;simp;refine⟨by omega,?_⟩;refine aI (k+1) (aC hp [0,3,4,6,7,8,9] [(3,3),(6,6),(60,1060),(1087,1087),(1098,1098)] (hH:=by simp[dX,shr,h12,h10])) ?_ ?_
    ·exact h10
    ·omega
   ·refine aH ?_;simp;refine aG ?_;simp;refine⟨by omega,?_⟩;refine aI (k+1) (aC hp [0,3,4,6,7,8,9] [(3,3),(6,6),(1060,1060),(1087,1087),(1098,1098)] (hH:=by simp[dX,shr,h12])) ?_ ?_
    ·exact h10
    ·omega
  ·refine aO ?_;simp;refine aB ?_;have hke:k=ear.length:=by omega
   refine eG.ro hT hW (λ|66=>some<| .plain ⟨.d (aT m),true⟩|_=>none) ?_;simp;refine⟨⟨by omega,by rw[hm];exact Ie l _ 4096 hr (by decide)⟩,?_⟩;refine aB ?_;refine aA ?_;simp;refine aF ?_;refine aJ (ι:=Nat) (λq=>aU [(0,.d (.sl (l.map aT))),(3,.ow 3 0 i),(4,.d (aT i)),(6,.bx 6 0),(10,.d (aT m)),(11,.d (aT q))]) (λq=>aL [(3,.row false 5 ((gG l i).map Ed.d)),(6,.box false [.d (aT (n.tmod 3)),.d (aT (i+6*(n.tdiv 3).tmod 8)),.ow 1060 0 (dX bits ear ear.length).length,.ow 1087 0 (fD m i q).length,.ow 1098 0 (dY m q).length]),(1060,.row false 2 ((dX bits ear ear.length).map Nm.d)),(1087,.row false 2 ((fD m i q).map Df.d)),(1098,.row false 1 ((dY m q).map .str))]) (λq=>q<=4) (λq=>4-q) 0 (aC hp [0,3,4,6,10,11] [(3,3),(6,6),(1060,1060),(1087,1087),(1098,1098)] (hH:=by simp[fD,dY,hke])) (Nat.zero_le _) λq hi16=>?_;refine aB ?_;refine aA ?_;simp;refine aD ?_;simp;refine⟨λh16=>?_,λh16=>?_⟩
   ·refine aH ?_;simp;refine aB ?_;refine aF ?_;refine aB ?_;have hkw:IntKind.u64.wrap (2*(q:Int))=((2*q:Nat):Int):=by rw[<-DT (k:=2*q) (by omega)];congr 1
    have hk64:min (2*q) 64=2*q:=(by omega);have h2t:(2*(q:Int)).toNat=2*q:=(by omega);have z1:=qT m i q;have z2:=oV m q;refine aG ?_;simp[hkw,IntKind.bits,hk64,h2t];refine⟨⟨by omega,by omega⟩,?_⟩;refine aF ?_;refine aA ?_;simp;refine aD ?_;simp;refine⟨λh19=>?_,λh19=>?_⟩
    ·refine bI [[85,86],[85,86]] [[],[],[],[],[],[],[85],[86],[80,87],[],[6]] (λ|85=>some<| .plain ⟨.d (BV q (m+i)).d,true⟩|_=>none) ?_;simp;refine⟨⟨⟨by omega,LR q (m+i) (by omega) (by omega) (by omega) (by omega)⟩,by omega⟩,?_⟩;refine aG ?_;simp;refine⟨by omega,?_⟩;refine aI (q+1) (aC hp [0,3,4,6,10,11] [(3,3),(6,6),(1060,1060),(87,1087),(1098,1098)] (hH:=by simp[fD,dY,shr,h19])) ?_ ?_
     ·omega
     ·omega
    ·refine aA ?_;simp;refine aD ?_;simp;refine⟨λh21=>?_,λh21=>?_⟩
     ·refine aA ?_;simp;refine aD ?_;simp;refine⟨λh22=>?_,λh22=>?_⟩
      ·refine bI [[96,97],[96,97]] [[],[],[],[96],[97],[94,98],[],[6]] (λ|96=>some<| .plain ⟨.d (.str (uJ q)),true⟩|_=>none) ?_;simp;refine⟨⟨Io q (by omega) (by omega),by omega⟩,?_⟩;refine aG ?_;simp;refine⟨by omega,?_⟩;refine aI (q+1) (aC hp [0,3,4,6,10,11] [(3,3),(6,6),(1060,1060),(1087,1087),(98,1098)] (hH:=by simp[fD,dY,shr,h21,show 1<q by omega])) ?_ ?_
       ·omega
       ·omega
      ·refine aH ?_;simp;refine aG ?_;simp;refine⟨by omega,?_⟩;refine aI (q+1) (aC hp [0,3,4,6,10,11] [(3,3),(6,6),(1060,1060),(1087,1087),(1098,1098)] (hH:=by simp[fD,dY,shr,h21,show¬1<q by omega])) ?_ ?_
       ·omega
       ·omega
     ·refine aH ?_;simp;refine aG ?_;simp;refine⟨by omega,?_⟩;refine aI (q+1) (aC hp [0,3,4,6,10,11] [(3,3),(6,6),(1060,1060),(1087,1087),(1098,1098)] (hH:=by simp[fD,dY,shr,h19,h21])) ?_ ?_
      ·omega
      ·omega
   ·refine aO ?_;simp;refine aG ?_;simp;refine⟨by omega,?_⟩;refine aG ?_;simp;refine⟨by omega,?_⟩;refine aI (i+1) (aC hp [0,3,4] [(103,3)] (hH:=by simp[htk,gG,Bx,<-hnn,<-hbits,<-hm,<-hnms,<-hear,show q=4 by omega])) ?_ ?_
    ·exact h3
    ·omega
 ·refine aO ?_;simp;refine aA ?_;simp;refine aN ?_;have e:cR l=gG l i:=by
   unfold cR;rw[show(Cz l 0 7).toNat=i by omega]
  rw[e];simp[lC];rw[List.take_of_length_le (by simp[lC])]
end
section
attribute[local simp] bA bW aQ aZ
def Ip(l:List Ed):Nat:=(l.filter λe=>decide (aP e≠[])).length
theorem uN{α:Type}(p:α->Bool)(e:α):∀(l:List α) (k:Nat),((l.set k e).filter p).length<=(l.filter p).length+1
 |[],_=>by simp
 |a::l,0=>by
  rw[List.set_cons_zero,List.filter_cons,List.filter_cons];split<;>split<;>simp<;>omega
 |a::l,k+1=>by
  have:=uN p e l k;rw[List.set_cons_succ,List.filter_cons,List.filter_cons];split<;>simp<;>omega
def Gc(n:Nm):Prop:=(-9223372036854775808<=n.who/\n.who<=9223372036854775807)/\ -9223372036854775808<=n.seq/\n.seq<=9223372036854775807
structure Kn(e:Ed):Prop where
 name:Gc e.name
 needs:∀n∈e.needs,Gc n
 puts:∀d∈e.puts,d.name.length<=1000/\d.text.length<=2000
 drops:∀s∈e.drops,s.length<=1000
theorem Kn.bare{n:Nm}(h:Gc n):Kn ⟨n,[],[],[]⟩:=⟨h,(λ_ h=>by cases h),(λ_ h=>by cases h),(λ_ h=>by cases h)⟩
theorem nP{α:Type}{P:α->Prop}{l:List α}{x:α}(h:∀y∈l,P y)(hx:P x):∀y∈l++[x],P y:=λy hy=>by
 rcases List.mem_append.1 hy with hy|hy
 ·exact h y hy
 ·rw[List.mem_singleton.1 hy];exact hx
structure Ad(l L:List Ed):Prop where
 len:L.length<=l.length+67
 needs:(bC L).length<=(bC l).length+1
 parts:∀P,(∀e∈l,e.puts.length<=P/\e.drops.length<=P)->∀e∈L,e.puts.length<=P+27/\e.drops.length<=P+27
 live:Ip L<=Ip l+1
 rng:(∀e∈l,Kn e)->∀e∈L,Kn e
theorem wP:∀{l:List Ed} {k:Nat} (hk:k<l.length) (e:Ed),(bC (l.set k e)).length+l[k].needs.length=(bC l).length+e.needs.length
 |a::l,0,_,e=>by simp[bC];omega
 |a::l,k+1,hk,e=>by
  have:=wP (l:=l) (k:=k) (by simpa using hk) e;simp only[bC,List.set_cons_succ,List.flatMap_cons,List.length_append,List.getElem_cons_succ]at*;omega
theorem Ad.set{l:List Ed}{k:Nat}(hk:k<l.length){e:Ed}(h1:e.needs.length<=l[k].needs.length+1)(h2:e.puts.length<=l[k].puts.length+27)(h3:e.drops.length<=l[k].drops.length+1)(h4:(∀x∈l,Kn x)->Kn l[k]->Kn e):Ad l (l.set k e):=by
 refine⟨by simp,by have:=wP hk e;omega,λP hP x hx=>?_,uN _ e l k,λhr x hx=>(List.mem_or_eq_of_mem_set hx).elim (hr x) λq=>q▸h4 hr (hr _ (List.getElem_mem hk))⟩;rcases List.mem_or_eq_of_mem_set hx with hx|rfl
 ·have:=hP x hx;omega
 ·have:=hP _ (List.getElem_mem hk);omega
theorem sV:∀{l:List Ed} {k:Nat} (hk:k<l.length),l[k].needs.length<=(bC l).length
 |a::l,0,_=>by simp[bC]
 |a::l,k+1,hk=>by
  have:=sV (l:=l) (k:=k) (by simpa using hk);simp only[bC,List.flatMap_cons,List.length_append,List.getElem_cons_succ]at*;omega
theorem sW:∀(l:List Ed) (k:Nat),(bC (l.eraseIdx k)).length<=(bC l).length
 |[],_=>by simp
 |a::l,0=>by simp[bC]
 |a::l,k+1=>by
  have:=sW l k;simp only[bC,List.eraseIdx_cons_succ,List.flatMap_cons,List.length_append]at*;omega
theorem Ad.erase(l:List Ed)(k:Nat):Ad l (l.eraseIdx k):=by
 refine⟨by have:=List.length_eraseIdx_le l k;omega,by have:=sW l k;omega,λP hP e he=>?_,Nat.le_succ_of_le ((List.eraseIdx_sublist l k).filter _).length_le,λhr e he=>hr e (List.mem_of_mem_eraseIdx he)⟩;have:=hP e (List.mem_of_mem_eraseIdx he);omega
theorem Ad.refl(l:List Ed):Ad l l:=⟨by omega,by omega,λP hP e he=>by have:=hP e he;omega,by omega,λhr=>hr⟩
theorem Ad.push{l m:List Ed}(h:Ad l m)(hl:m.length<=66)(n:Nm)(hn:Gc n):Ad l (m++[⟨n,[],[],[]⟩]):=by
 refine⟨by simp;omega,by have:=h.needs;simp[bC]at*;omega,λP hP e he=>?_,by have:=h.live;simp[Ip,aP]at*;omega,λhr=>nP (h.rng hr) (.bare hn)⟩;rcases List.mem_append.1 he with he|he
 ·exact h.parts P hP e he
 ·simp at he;subst he;simp
theorem Fy(n v:Int):(BV n v).name.length<=1000/\(BV n v).text.length<=2000:=by
 have:=yB n;constructor<;>simp[BV,Hc]<;>omega
theorem JJ{l:List Ed}{k:Nat}(hk:k<l.length)(Z:List DV):List.take (l.length-1) (List.take k (l.map Ed.d)++(List.take (l.length-(k+1)) (List.drop (k+1) (l.map Ed.d))++Z))=(l.eraseIdx k).map Ed.d:=by
 have h1:(List.take (l.length-(k+1)) (List.drop (k+1) (l.map Ed.d)))=List.drop (k+1) (l.map Ed.d):=List.take_of_length_le (by simp);rw[h1,<-xS,List.eraseIdx_eq_take_drop_succ,<-List.append_assoc,List.take_append_of_le_length (by simp;omega),List.take_of_length_le (by simp;omega)]
theorem CJ(l:List Ed)(how b:Int)(hl:l.length<=1000)(hs:iL l)(hn:(bC l).length<=1000)(h1: -9223372036854775808<=b)(h2:b<=9223372036854775807)(h3: -9223372036854775808<=how)(h4:how<=9223372036854775807):MX Tryz.prog 42 [bT l,aT how,aT b] (λr=>(λv=>∃L:List Ed,Ad l L/\v=.d (bT L)) r.v/\r.fresh=false):=by
 refine MX.ret (Rel:=λv=>∃L:List Ed,Ad l L/\v=.d (bT L)) Tryz.func42 (by kernel_rfl) (c:=_) rfl Tryz.ntmps42 (by simp) Tryz.results42 λw0 X hp=>?_;refine aA ?_;simp;refine aA ?_;simp;refine⟨by omega,?_⟩;refine aB ?_;refine aA ?_;simp;refine aD ?_;simp;refine⟨λh2'=>?_,λh2'=>?_⟩
 ·refine aA ?_;simp;refine aN ?_;refine eA.2 ⟨_,⟨[⟨⟨b,how⟩,[],[],[]⟩],⟨by simp,by simp[bC],λP _ e he=>(by simp at he;subst he;simp),by simp[Ip,aP],λ_ e he=>(by simp at he;subst he;exact .bare ⟨⟨h1,h2⟩,h3,h4⟩)⟩,rfl⟩,by simp,?_⟩;simp
 ·refine aH ?_;simp;refine aB ?_;have hpos:0<l.length:=by have:=List.length_pos_iff.2 (show l≠[] from h2');omega
  obtain⟨ha1,ha2⟩:=cG b l.length (by omega);obtain⟨k,hk⟩:∃k:Nat,(k:Int)=bR b l.length:=⟨(bR b l.length).toNat,by omega⟩;have hkl:k<l.length:=by omega
  refine eG.ro hT hW (λ|27=>some<| .plain ⟨.d (aT k),true⟩|_=>none) ?_;simp;refine⟨by rw[hk];exact dE b l.length h1 h2 (by omega),?_⟩;refine aB ?_;obtain⟨hj1,hj2⟩:=cG (b.tdiv 7) l.length (by omega);obtain⟨j,hj⟩:∃j:Nat,(j:Int)=bR (b.tdiv 7) l.length:=⟨(bR (b.tdiv 7) l.length).toNat,by omega⟩;have hjl:j<l.length:=by omega
  have hd7: -9223372036854775808<=b.tdiv 7/\b.tdiv 7<=9223372036854775807:=by
   rcases Int.le_total 0 b with hb|hb
   ·rw[Int.tdiv_eq_ediv_of_nonneg hb];omega
   ·have:b.tdiv 7= -((-b) / 7):=by rw[show b= -(-b)by omega,Int.neg_tdiv,Int.tdiv_eq_ediv_of_nonneg (by omega)];simp
    omega
  refine eG.ro hT hW (λ|32=>some<| .plain ⟨.d (aT j),true⟩|_=>none) ?_;simp;refine⟨⟨hd7,by rw[hj];exact dE _ l.length hd7.1 hd7.2 (by omega)⟩,?_⟩;refine aA ?_;simp[hkl];refine aB ?_;refine aB ?_;obtain⟨hc1,hc2⟩:=cG how 12 (by decide);obtain⟨c,hc⟩:∃c:Nat,(c:Int)=bR how 12:=⟨(bR how 12).toNat,by omega⟩;refine eG.ro hT hW (λ|38=>some<| .plain ⟨.d (aT c),true⟩|_=>none) ?_;simp;refine⟨by rw[hc];exact dE how 12 h3 h4 (by decide),?_⟩;refine aF ?_;refine aA ?_;simp;refine aD ?_;simp;refine⟨λh9=>?_,λh9=>?_⟩
  ·obtain⟨z1,z2⟩:=cG b 6 (by decide);refine eG.ro hT hW (λ|52=>some<| .plain ⟨.d (aT (bR b 6)),true⟩|_=>none) ?_;simp;refine⟨⟨dE b 6 h1 h2 (by decide),by omega⟩,?_⟩;refine aA ?_;simp;refine⟨by omega,?_⟩;refine aA ?_;simp;refine aN ?_;refine eA.2 ⟨_,⟨l.set k {l[k]with name:=⟨bR b 6-1,l[k].name.seq⟩},Ad.set hkl (by simp) (by simp) (by simp) (λ_ h=>⟨⟨by have:=cG b 6 (by decide);dsimp only;omega,h.name.2⟩,h.needs,h.puts,h.drops⟩),rfl⟩,by simp,?_⟩;simp[List.map_set];rw[List.take_of_length_le (by simp)]
  ·refine aA ?_;simp;refine aD ?_;simp;refine⟨λh11=>?_,λh11=>?_⟩
   ·obtain⟨z1,z2⟩:=cG b 4 (by decide);obtain⟨z,hz⟩:∃z:Nat,(z:Int)=bR b 4:=⟨(bR b 4).toNat,by omega⟩;have hzl:z<4:=by omega
    obtain⟨q,hq,hqr⟩:∃q:Int,[DV.int IntKind.i64 (-1),DV.int IntKind.i64 63,DV.int IntKind.i64 64,aT b][z]? =some (aT q)/\ -9223372036854775808<=q/\q<=9223372036854775807:=by
     rcases(by omega:z=0\/z=1\/z=2\/z=3)with rfl|rfl|rfl|rfl<;>exact⟨_,rfl,by omega,by omega⟩
    have hr4:[0,1,2,3]=List.range 4:=(by decide);refine eG.ro hT hW (λ|61=>some<| .plain ⟨.d (aT z),true⟩|_=>none) ?_;simp[hq,hr4];refine⟨⟨⟨by rw[hz];exact dE b 4 h1 h2 (by decide),by omega⟩,by omega⟩,?_⟩;refine aA ?_;simp;refine⟨by omega,?_⟩;refine aA ?_;simp;refine aN ?_;refine eA.2 ⟨_,⟨l.set k {l[k]with name:=⟨l[k].name.who,q⟩},Ad.set hkl (by simp) (by simp) (by simp) (λ_ h=>⟨⟨h.name.1,hqr⟩,h.needs,h.puts,h.drops⟩),rfl⟩,by simp,?_⟩;simp[List.map_set];rw[List.take_of_length_le (by simp)]
   ·refine aA ?_;simp;refine aD ?_;simp;refine⟨λh13=>?_,λh13=>?_⟩
    ·refine aG ?_;simp[hjl];refine aA ?_;simp;refine⟨by omega,?_⟩;refine aA ?_;simp;refine aN ?_;refine eA.2 ⟨_,⟨l.set k {l[k]with name:=l[j].name},Ad.set hkl (by simp) (by simp) (by simp) (λhr h=>⟨(hr _ (List.getElem_mem hjl)).name,h.needs,h.puts,h.drops⟩),rfl⟩,by simp,?_⟩;simp[List.map_set];rw[List.take_of_length_le (by simp)]
    ·refine aA ?_;simp;refine aD ?_;simp;refine⟨λh15=>?_,λh15=>?_⟩
     ·have hnk:=sV hkl;refine bI [[85],[76,85],[76,85],[85],[76,79],[76,79],[76,79],[76,79],[76,79],[76,79]] [[76],[],[],[76,79],[],[],[],[],[],[85],[79,86],[87],[],[10]] (λ|87=>some<| .plain ⟨.d (bY (aY (l[k].needs++[l[j].name]))),true⟩|_=>none) ?_;simp[hjl];refine⟨⟨by omega,by rw[List.take_of_length_le (by simp)];simpa [bY,Nm.d]using zZ (l[k].needs++[l[j].name]) (by simp;omega)⟩,?_⟩;refine aA ?_;simp;refine⟨by omega,?_⟩;refine aA ?_;simp;refine aN ?_;refine eA.2 ⟨_,⟨l.set k {l[k]with needs:=aY (l[k].needs++[l[j].name])},Ad.set hkl (by have:=fP (l[k].needs++[l[j].name]);simp at this;simp;omega) (by simp) (by simp) (λhr h=>⟨h.name,λn hn=>nP h.needs (hr _ (List.getElem_mem hjl)).name n (((dC _).2 n).1 hn),h.puts,h.drops⟩),rfl⟩,by simp,?_⟩;simp[List.map_set];rw[List.take_of_length_le (by simp)]
     ·refine aA ?_;simp;refine aD ?_;simp;refine⟨λh17=>?_,λh17=>?_⟩
      ·have hnk:=sV hkl;obtain⟨z1,z2⟩:=cG b 5 (by decide);refine eG.ro hT hW (λ|96=>some<| .plain ⟨.d (aT (bR b 5)),true⟩|_=>none) ?_;simp;refine⟨⟨⟨⟨by omega,dE b 5 h1 h2 (by decide)⟩,by omega⟩,by omega⟩,?_⟩;refine aA ?_;simp;refine⟨by omega,?_⟩;refine aA ?_;simp;refine aN ?_;refine eA.2 ⟨_,⟨l.set k {l[k]with needs:=l[k].needs++[⟨bR b 5-1,5⟩]},Ad.set hkl (by simp) (by simp) (by simp) (λ_ h=>⟨h.name,nP h.needs ⟨by have:=cG b 5 (by decide);dsimp only;omega,by dsimp only;omega⟩,h.puts,h.drops⟩),rfl⟩,by simp,?_⟩;simp[List.map_set,Nm.d];rw[List.take_of_length_le (by simp),List.take_of_length_le (by simp)]
      ·refine aA ?_;simp;refine aD ?_;simp;refine⟨λh19=>?_,λh19=>?_⟩
       ·have hsk:=hs _ (List.getElem_mem hkl);refine eG.ro hT hW (λ|110=>some<| .plain ⟨.d (BV b how).d,true⟩|_=>none) ?_;simp;refine⟨⟨⟨by omega,by simpa [Df.d]using LR b how h1 h2 h3 h4⟩,by omega⟩,?_⟩;refine aA ?_;simp;refine⟨by omega,?_⟩;refine aA ?_;simp;refine aN ?_;refine eA.2 ⟨_,⟨l.set k {l[k]with puts:=l[k].puts++[BV b how]},Ad.set hkl (by simp) (by simp) (by simp) (λ_ h=>⟨h.name,h.needs,nP h.puts (Fy b how),h.drops⟩),rfl⟩,by simp,?_⟩;simp[List.map_set,Df.d];rw[List.take_of_length_le (by simp),List.take_of_length_le (by simp)]
       ·refine aA ?_;simp;refine aD ?_;simp;refine⟨λh21=>?_,λh21=>?_⟩
        ·have hsk:=hs _ (List.getElem_mem hkl);obtain⟨z1,z2⟩:=cG b 6 (by decide);obtain⟨z,hz⟩:∃z:Nat,(z:Int)=bR b 6:=⟨(bR b 6).toNat,by omega⟩;have hzl:z<6:=by omega
         have hr6:[0,1,2,3,4,5]=List.range 6:=(by decide);obtain⟨q,hq,hqr⟩:∃q:dO,[DV.str [],DV.str [97],DV.str [100],DV.str [122,111,111],
          DV.str [97,98,99,100,101,102,103,104,105,106,107,108,109,110,111,112],
          DV.str [97,98,99,100,101,102,103,104,105,106,107,108,109,110,111,112,113]][z]? =some (.str q)/\q.length<=1000:=by
          rcases(by omega:z=0\/z=1\/z=2\/z=3\/z=4\/z=5)with rfl|rfl|rfl|rfl|rfl|rfl<;>exact⟨_,rfl,by decide⟩
         refine eG.ro hT hW (λ|122=>some<| .plain ⟨.d (aT z),true⟩|_=>none) ?_;simp[hq,hr6];refine⟨⟨⟨⟨⟨by omega,by rw[hz];exact dE b 6 h1 h2 (by decide)⟩,by omega⟩,by omega⟩,by omega⟩,?_⟩;refine aA ?_;simp;refine⟨by omega,?_⟩;refine aA ?_;simp;refine aN ?_;refine eA.2 ⟨_,⟨l.set k {l[k]with drops:=l[k].drops++[q]},Ad.set hkl (by simp) (by simp) (by simp) (λ_ h=>⟨h.name,h.needs,h.puts,nP h.drops hqr⟩),rfl⟩,by simp,?_⟩;simp[List.map_set];rw[List.take_of_length_le (by simp),List.take_of_length_le (by simp)]
        ·refine aA ?_;simp;refine aD ?_;simp;refine⟨λh23=>?_,λh23=>?_⟩
         ·refine aB ?_;obtain⟨z1,z2⟩:=cG b 4 (by decide);obtain⟨z,hz⟩:∃z:Nat,(z:Int)=bR b 4:=⟨(bR b 4).toNat,by omega⟩;refine eG.ro hT hW (λ|131=>some<| .plain ⟨.d (aT z),true⟩|_=>none) ?_;simp;refine⟨⟨⟨by rw[hz];exact dE b 4 h1 h2 (by decide),by omega⟩,by omega⟩,?_⟩;refine aG ?_;simp;refine aA ?_;simp;refine⟨by omega,?_⟩;refine aA ?_;simp;refine aN ?_;refine eA.2 ⟨_,⟨l.set k {l[k]with puts:=[⟨[97],List.replicate (1023+(z:Int)).toNat 0⟩]},Ad.set hkl (by simp) (by simp) (by simp) (λ_ h=>⟨h.name,h.needs,λd hd=>by rw[List.mem_singleton.1 hd];simp;omega,h.drops⟩),rfl⟩,by simp,?_⟩;simp[List.map_set,Df.d,iX];rw[List.take_of_length_le (by simp)]
         ·refine aA ?_;simp;refine aD ?_;simp;refine⟨λh26=>?_,λh26=>?_⟩
          ·refine aB ?_;refine bI [] [[],[],[],[],[],[],[],[15],[6]] (λ|148=>some .inp|_=>none) ?_;simp[(show((l.length:Int)-((k:Int)+1)).toNat=l.length-(k+1)by omega),(show k+(l.length-(k+1))=l.length-1 by omega)];refine⟨by omega,?_⟩;refine aN ?_;refine eA.2 ⟨_,⟨l.eraseIdx k,Ad.erase l k,rfl⟩,by simp,?_⟩;simp[JJ hkl]
          ·refine aA ?_;simp;refine aD ?_;simp;refine⟨λh28=>?_,λh28=>?_⟩
           ·refine aB ?_;refine aF ?_;refine aJ (ι:=List Ed) (λm=>aU [(2,.d (aT b)),(7,.ow 15 0 m.length)]) (λm=>aL [(15,.row false 5 (m.map Ed.d))]) (λm=>Ad l m) (λm=>70-m.length) l (aC hp [2,7] [(15,15)]) (Ad.refl l) λm hi29=>?_;refine aB ?_;refine aB ?_;obtain⟨z1,z2⟩:=cG b 4 (by decide);obtain⟨z,hz⟩:∃z:Nat,(z:Int)=bR b 4:=⟨(bR b 4).toNat,by omega⟩;refine eG.ro hT hW (λ|154=>some<| .plain ⟨.d (aT z),true⟩|_=>none) ?_;simp;refine⟨⟨by rw[hz];exact dE b 4 h1 h2 (by decide),by omega⟩,?_⟩;refine aD ?_;simp;refine⟨λh29=>?_,λh29=>?_⟩
            ·refine aH ?_;simp;refine aF ?_;refine aG ?_;simp;refine⟨by omega,?_⟩;refine aI (m++[⟨⟨3,((m.length:Int)).tmod 64⟩,[],[],[]⟩]) (aC hp [2,7] [(164,15)]) ?_ ?_
             ·exact hi29.push (by omega) _ ⟨⟨by dsimp only;omega,by dsimp only;omega⟩,by
               have t1:0<=((m.length:Int)).tmod 64:=Int.tmod_nonneg _ (by omega);have t2:((m.length:Int)).tmod 64<64:=Int.tmod_lt_of_pos _ (by omega);dsimp only;omega⟩
             ·simp;omega
            ·refine aO ?_;simp;refine aA ?_;simp;refine aN ?_;refine eA.2 ⟨_,⟨m,hi29,rfl⟩,by simp,?_⟩;simp
           ·refine aA ?_;simp;refine aD ?_;simp;refine⟨λh32=>?_,λh32=>?_⟩
            ·refine aA ?_;simp;refine qL (fz:=false) (cs:=[.d (aT l[k].name.who),.d (aT l[k].name.seq),.d (bY l[k].needs),.nl,.d (.sl (l[k].drops.map .str))]) 10 3 1190 2 (by decide) ⟨by simp,by simp,by simp,?_⟩;simp;refine aA ?_;simp;refine aF ?_;refine aJ (ι:=List Df) (λps=>aU [(2,.d (aT b)),(7,.ow 15 0 l.length),(8,.d (aT k)),(10,.bx 10 0),(12,.d (aT ps.length))]) (λps=>aL [(15,.row false 5 (l.map Ed.d)),(10,.box false [.d (aT l[k].name.who),.d (aT l[k].name.seq),.d (bY l[k].needs),.ow 1190 0 ps.length,.d (.sl (l[k].drops.map .str))]),(1190,.row false 2 (ps.map Df.d))]) (λps=>ps.length<=26/\∀d∈ps,d.name.length<=1000/\d.text.length<=2000) (λps=>30-ps.length) [] (aC hp [2,7,8,10,12] [(15,15),(10,10),(1190,1190)]) (⟨Nat.zero_le _,λ_ h=>by cases h⟩) λps hi35=>?_;refine aB ?_;refine aB ?_;obtain⟨z1,z2⟩:=cG b 4 (by decide);obtain⟨z,hz⟩:∃z:Nat,(z:Int)=bR b 4:=⟨(bR b 4).toNat,by omega⟩;refine eG.ro hT hW (λ|171=>some<| .plain ⟨.d (aT z),true⟩|_=>none) ?_;simp;refine⟨⟨by rw[hz];exact dE b 4 h1 h2 (by decide),by omega⟩,?_⟩;refine aD ?_;simp;refine⟨λh35=>?_,λh35=>?_⟩
             ·refine aH ?_;simp;refine aB ?_;refine aF ?_;have ht1:0<=((ps.length:Int)).tmod 26:=Int.tmod_nonneg _ (by omega);have ht2:((ps.length:Int)).tmod 26<26:=Int.tmod_lt_of_pos _ (by omega);refine aG ?_;simp;refine⟨⟨⟨⟨⟨by omega,by omega⟩,by omega⟩,by decide⟩,by omega⟩,?_⟩;refine aG ?_;simp;refine⟨by omega,?_⟩;refine aI (ps++[⟨[iX (.int .u8 120),iX (.int .u8 (IntKind.u8.wrap (97+((ps.length:Int)).tmod 26))),iX (.int .u8 (IntKind.u8.wrap (97+(ps.length:Int) / 26)))],[]⟩]) (aC hp [2,7,8,10,12] [(15,15),(10,10),(190,1190)]) ?_ ?_
              ·exact⟨by simp;omega,nP hi35.2 (by simp)⟩
              ·simp;omega
             ·refine aO ?_;simp;refine aA ?_;simp;refine⟨by omega,?_⟩;refine aA ?_;simp;refine aN ?_;refine eA.2 ⟨_,⟨l.set k {l[k]with puts:=ps},Ad.set hkl (by simp) (by simp;omega) (by simp) (λ_ h=>⟨h.name,h.needs,hi35.2,h.drops⟩),rfl⟩,by simp,?_⟩;simp[List.map_set];rw[List.take_of_length_le (by simp)]
            ·have hnk:=sV hkl;refine bI [[],[],[],[],[],[],[44],[44]] [[],[],[],[],[],[44],[],[],[44,47],[],[10]] (λ_=>none) ?_;simp[hjl];refine⟨by omega,?_⟩;refine aA ?_;simp;refine⟨by omega,?_⟩;refine aA ?_;simp;refine aN ?_;refine eA.2 ⟨_,⟨l.set k {l[k]with needs:=l[j].name::l[k].needs},Ad.set hkl (by simp) (by simp) (by simp) (λhr h=>⟨h.name,λn hn=>(List.mem_cons.1 hn).elim (λe=>e▸(hr _ (List.getElem_mem hjl)).name) (h.needs n),h.puts,h.drops⟩),rfl⟩,by simp,?_⟩;simp[List.map_set];rw[List.take_of_length_le (by simp),List.take_of_length_le (by simp;omega)]
end
section
attribute[local simp] bA bW aQ aZ
theorem jP(l:List Int):(cR l).length<=6:=by
 have:=(jO l 0 7 (by decide)).2;rw[cR,lC];omega
theorem qU{l:List Int}{e:Ed}:∀{c:Nat},e∈gG l c->∃i,i<c/\e=Bx l (gG l i) i
 |0,h=>by simp[gG]at h
 |c+1,h=>by
  simp only[gG,List.mem_append,List.mem_singleton]at h;rcases h with h|h
  ·obtain⟨i,hi,he⟩:=qU h;exact⟨i,by omega,he⟩
  ·exact⟨c,by omega,h⟩
theorem Fz(l:List Int)(out:List Ed)(i:Nat):(Bx l out i).needs.length<=out.length:=by
 have h:=oU (Cz l (2+3*i) 4096) (aY (out.map Ed.name)) (aY (out.map Ed.name)).length;have:=fP (out.map Ed.name);simp[Bx]at*;omega
theorem nQ{l:List Int}{e:Ed}(h:e∈cR l):e.needs.length<=6/\e.puts.length<=4/\e.drops.length<=4:=by
 obtain⟨i,hi,rfl⟩:=qU h;have:=(jO l 0 7 (by decide)).2;have h1:=Fz l (gG l i) i;rw[lC]at h1;exact⟨by omega,qT _ _ 4,oV _ 4⟩
theorem DU{α β:Type}{f:α->List β}{m:Nat}:∀{l:List α},(∀x∈l,(f x).length<=m)->(l.flatMap f).length<=l.length*m
 |[],_=>by simp
 |a::l,h=>by
  have h1:=h a (by simp);have h2:=DU (l:=l) λx hx=>h x (by simp[hx]);simp only[List.flatMap_cons,List.length_append,List.length_cons,Nat.add_mul];omega
theorem qV(l:List Int):(bC (cR l)).length<=36:=by
 have h:=DU (f:=Ed.needs) (l:=cR l) λx hx=>(nQ hx).1;have:=jP l;unfold bC;omega
theorem By(l:List Int):iL (cR l):=λe he=>by have:=nQ he;omega
structure OW(a L1 L2:List Ed):Prop where
 len1:L1.length<=73
 len2:L2.length<=140
 need1:(bC L1).length<=37
 need2:(bC L2).length<=38
 part1:∀e∈L1,e.puts.length<=31/\e.drops.length<=31
 part2:∀e∈L2,e.puts.length<=58/\e.drops.length<=58
theorem DW{l:List Int}{L1 L2:List Ed}(h1:Ad (cR l) L1)(h2:Ad L1 L2):OW (cR l) L1 L2:=by
 have a:=jP l;have b:=qV l;have p:=h1.parts 4 λe he=>(nQ he).2;have q:=h2.parts 31 p;refine⟨by have:=h1.len;omega,by have:=h1.len;have:=h2.len;omega,by have:=h1.needs;omega,by have:=h1.needs;have:=h2.needs;omega,p,q⟩
theorem LS(l:List Int)(how b:Int)(hr:∀n∈l, -9223372036854775808<=n/\n<=9223372036854775807)(h1: -9223372036854775808<=b)(h2:b<=9223372036854775807)(h3: -9223372036854775808<=how)(h4:how<=9223372036854775807):MX Tryz.prog 7 [.sl (l.map aT),aT how,aT b] (λr=>(λv=>∃L1 L2:List Ed,Ad (cR l) L1/\Ad L1 L2/\v=.d (.sl [bT (cR l),bT L1,bT L2,bT (dG (cR l) b),.sl []])) r.v/\r.fresh=false):=by
 refine MX.ret (Rel:=λv=>∃L1 L2:List Ed,Ad (cR l) L1/\Ad L1 L2/\v=.d (.sl [bT (cR l),bT L1,bT L2,bT (dG (cR l) b),.sl []])) Tryz.func7 (by kernel_rfl) (c:=_) rfl Tryz.ntmps7 (by simp) Tryz.results7 λw0 X hp=>?_;refine aA ?_;simp;refine aB ?_;have hal:=jP l;have han:=qV l;have has:=By l;have hok:=NH l hr;obtain⟨a,haa⟩:∃a,a=cR l:=⟨_,rfl⟩;rw[<-haa]at hal han has hok;refine eG.ro hT hW (λ|10=>some<| .plain ⟨.d (bT a),false⟩|_=>none) ?_;simp;refine⟨hok,?_⟩;refine aB ?_;refine qK hT hW 14 (λr=>(∃L:List Ed,Ad a L/\r.v=.d (bT L))/\r.fresh=false) false ⟨.d (bT a),false⟩ ⟨⟨⟨a,Ad.refl a,rfl⟩,rfl⟩,rfl⟩ (λ|99=>none|_=>none) (by intro d;first|exact⟨rfl,λ_ h=>h⟩|(split<;>exact⟨rfl,λ_ h=>h⟩)) (by kernel_rfl) λr2 hr2=>?_;obtain⟨v2,f2⟩:=r2;obtain⟨⟨L1,hL1,hv⟩,hf⟩:=hr2;dsimp only at hv hf;subst hv;subst hf;obtain⟨b1,b2,b3,b4⟩:L1.length<=73/\(bC L1).length<=37/\iL L1/\True:=by
  have q:=hL1.parts 4 λe he=>(nQ (l:=l) (haa▸he)).2;exact⟨by have:=hL1.len;omega,by have:=hL1.needs;omega,λe he=>by have:=q e he;omega,trivial⟩
 simp;refine⟨CJ a how b (by omega) has (by omega) h1 h2 h3 h4,?_⟩;refine aB ?_;refine qK hT hW 20 (λr=>(∃L:List Ed,Ad L1 L/\r.v=.d (bT L))/\r.fresh=false) false ⟨.d (bT L1),false⟩ ⟨⟨⟨L1,Ad.refl L1,rfl⟩,rfl⟩,rfl⟩ (λ|23=>some<| .plain ⟨.d (bT (dG a b)),false⟩|_=>none) (by intro d;first|exact⟨rfl,λ_ h=>h⟩|(split<;>exact⟨rfl,λ_ h=>h⟩)) (by kernel_rfl) λr3 hr3=>?_;obtain⟨v3,f3⟩:=r3;obtain⟨⟨L2,hL2,hv⟩,hf⟩:=hr3;dsimp only at hv hf;subst hv;subst hf;simp;refine⟨⟨⟨CJ L1 b how (by omega) b3 (by omega) h3 h4 h1 h2,JI a b (by omega) h1 h2⟩,by decide⟩,?_⟩;refine aN ?_;refine eA.2 ⟨_,⟨L1,haa▸hL1,L2,hL2,rfl⟩,by simp,?_⟩;simp[haa]
end
theorem CK(m:Int)(i:Nat){d:Df}:∀{k:Nat},d∈fD m i k->∃q v,d=BV q v
 |0,h=>by simp[fD]at h
 |k+1,h=>by
  rw[fD]at h;rcases List.mem_append.1 h with h|h
  ·exact CK m i h
  ·split at h
   ·exact⟨_,_,List.mem_singleton.1 h⟩
   ·cases h
theorem Ae{x n:Nat}(h:x<2*n):(x<n/\x%n=x)\/(n<=x/\x%n=x-n):=by
 by_cases q:x<n
 ·exact .inl ⟨q,Nat.mod_eq_of_lt q⟩
 ·refine .inr ⟨by omega,?_⟩;rw[Nat.mod_eq_sub_mod (by omega),Nat.mod_eq_of_lt (by omega)]
theorem HA{n j:Nat}(b:Int)(hj:j<n):∃i,i<n/\oT n b i=j:=by
 have ha:=cG b n (by omega);unfold oT;obtain⟨a,hq⟩:∃a:Nat,a=(bR b n).toNat:=⟨_,rfl⟩;have han:a<n:=by omega
 rw[<-hq];dsimp only;split
 ·by_cases q:a<=n-1-j
  ·refine⟨n-1-j-a,by omega,?_⟩;have h1:=Ae (x:=n-1-j-a+a) (n:=n) (by omega);omega
  ·refine⟨n-1-j+n-a,by omega,?_⟩;have h1:=Ae (x:=n-1-j+n-a+a) (n:=n) (by omega);omega
 ·by_cases q:a<=j
  ·refine⟨j-a,by omega,?_⟩;have h1:=Ae (x:=j-a+a) (n:=n) (by omega);omega
  ·refine⟨j+n-a,by omega,?_⟩;have h1:=Ae (x:=j+n-a+a) (n:=n) (by omega);omega
theorem vB(l:List Ed)(b:Int):(dG l b).length=l.length:=by simp[dG]
theorem vC{l:List Ed}{b:Int}{e:Ed}:e∈dG l b↔e∈l:=by
 simp only[dG,List.mem_map,List.mem_range];constructor
 ·rintro⟨i,hi,rfl⟩;have:=CI (n:=l.length) (i:=i) (b:=b) (by omega);simp only[List.getD_eq_getElem?_getD,List.getElem?_eq_getElem this,Option.getD_some];exact List.getElem_mem this
 ·intro h;obtain⟨j,hj,rfl⟩:=List.getElem_of_mem h;obtain⟨i,hi,e⟩:=HA b hj;exact⟨i,hi,by rw[e];simp[hj]⟩
theorem JK{l:List Ed}{b:Int}{n:Nm}(h:n∈nH l b):n∈l.map Ed.name:=by
 unfold nH at h;obtain⟨p,hp,rfl⟩:=List.mem_map.1 h;have hp:=(List.mem_filter.1 hp).1;obtain⟨_,hi,e⟩:=List.mem_zipIdx hp;rw[e];exact List.mem_map_of_mem (List.getElem_mem _)
theorem CL(l:List Ed)(b:Int):(nH l b).length<=l.length:=by
 unfold nH;rw[List.length_map];exact Nat.le_trans (List.length_filter_le _ _) (by simp)
section
attribute[local simp] bA bW aQ aZ
theorem Bz{l:List Ed}{b:Int}{i:Nat}(h:i<l.length):nH (l.take (i+1)) b=nH (l.take i) b++if Id b i then [l[i].name]else []:=by
 have e:l.take (i+1)=l.take i++[l[i]]:=by simp
 unfold nH;rw[e,List.zipIdx_append,List.filter_append,List.map_append];congr 1;simp[List.length_take,Nat.min_eq_left (Nat.le_of_lt h),List.filter_cons];split<;>rfl
theorem FA{b:Int}{i k:Nat}(h:(k:Int)=(i:Int).tmod 16):(Id b i=true)=(((bR b 65536).fdiv (2^k)).tmod 2=1):=by
 unfold Id;rw[<-h];simp
theorem NI(l:List Ed)(b:Int)(hl:l.length<=1100000)(h1: -9223372036854775808<=b)(h2:b<=9223372036854775807):Ok Tryz.prog 50 [bT l,aT b] ⟨.d (bY (nH l b)),true⟩:=by
 refine bE Tryz.func50 rfl Tryz.ntmps50 Tryz.results50 λw0 X hp=>?_;refine aA ?_;simp;refine aA ?_;simp;refine aB ?_;refine aA ?_;simp;refine aF ?_;refine aJ (ι:=Nat×List Nm) (λ⟨i,acc⟩=>aU [(0,.d (bT l)),(1,.d (aT b)),(5,.ow 5 0 acc.length),(6,.d (aT i))]) (λ⟨i,acc⟩=>aL [(5,.row false 2 (acc.map Nm.d))]) (λ⟨i,acc⟩=>i<=l.length/\acc.length<=i/\acc=nH (l.take i) b) (λ⟨i,acc⟩=>l.length-i) (0,[]) (aC hp [0,1,5,6] [(5,5)]) (⟨Nat.zero_le _,Nat.le_refl _,rfl⟩) λ⟨i,acc⟩ hi3=>?_;refine aB ?_;refine aA ?_;simp;refine aD ?_;simp;refine⟨λh3=>?_,λh3=>?_⟩
 ·refine aH ?_;simp;refine aB ?_;refine aF ?_;refine aB ?_;have hm1:0<=((i:Int)).tmod 16:=Int.tmod_nonneg _ (by omega);have hm2:((i:Int)).tmod 16<16:=Int.tmod_lt_of_pos _ (by omega);obtain⟨k0,hk0⟩:∃k0:Nat,(k0:Int)=((i:Int)).tmod 16:=⟨(((i:Int)).tmod 16).toNat,by omega⟩;have hkw:=DT (k:=k0) (by omega);have hk64:min k0 64=k0:=by omega
  refine eG.ro hT hW (λ|14=>some<| .plain ⟨.d (aT (bR b 65536)),true⟩|_=>none) ?_;simp[<-hk0,hkw,IntKind.bits,hk64];refine⟨dE b 65536 h1 h2 (by decide),?_⟩;refine aD ?_;simp;refine⟨λh5=>?_,λh5=>?_⟩
  ·refine aG ?_;simp[h3];refine⟨by have:=hi3.2.1;omega,?_⟩;refine aG ?_;simp;refine⟨by omega,?_⟩;refine aI (i+1,acc++[l[i].name]) (aC hp [0,1,5,6] [(28,5)]) ?_ ?_
   ·refine⟨h3,by have:=hi3.2.1;simp;omega,?_⟩;dsimp only;rw[Bz h3,<-hi3.2.2,if_pos ((FA hk0).mpr h5)]
   ·omega
  ·refine aH ?_;simp;refine aG ?_;simp;refine⟨by omega,?_⟩;refine aI (i+1,acc) (aC hp [0,1,5,6] [(5,5)]) ?_ ?_
   ·refine⟨h3,by have:=hi3.2.1;dsimp only;omega,?_⟩;dsimp only;rw[Bz h3,<-hi3.2.2,if_neg (λq=>h5 ((FA hk0).mp q)),List.append_nil]
   ·omega
 ·refine aO ?_;simp;refine aA ?_;simp;refine aN ?_;have q:i=l.length:=by omega
  have:=hi3.2.2;rw[q,List.take_length]at this;simp[this]
def FB(b:Int):Nm:=⟨bR b 5-1,bR (b.tdiv 5) 50⟩
def sX(l:List Ed)(bits b:Int):List (List Nm):=[nH l bits,l.map Ed.name,nH l bits++[FB b],nH l bits++nH l bits,[],[FB b]]
theorem HB{l:List Ed}{bits b:Int}{x:List Nm}(h:x∈sX l bits b):x.length<=2*l.length+1:=by
 have:=CL l bits;simp only[sX,List.mem_cons,List.not_mem_nil,or_false]at h;rcases h with rfl|rfl|rfl|rfl|rfl|rfl<;>simp<;>omega
theorem JL(l:List Ed)(bits b:Int)(hl:l.length<=1100000)(h1: -9223372036854775808<=b)(h2:b<=9223372036854775807)(h3: -9223372036854775808<=bits)(h4:bits<=9223372036854775807):Ok Tryz.prog 10 [bT l,aT bits,aT b] ⟨.own 1 ((sX l bits b).map bY),false⟩:=by
 refine bE Tryz.func10 rfl Tryz.ntmps10 Tryz.results10 λw0 X hp=>?_;have hso:=NI l bits hl h3 h4;have hsl:=CL l bits;obtain⟨s,hs⟩:∃s,s=nH l bits:=⟨_,rfl⟩;have hnv:sX l bits b=[s,l.map Ed.name,s++[FB b],s++s,[],[FB b]]:=by rw[hs];rfl
 rw[hnv];rw[<-hs]at hso hsl;refine aA ?_;simp;refine aS hT hW (λ|11=>some<| .plain ⟨.d (bY s),true⟩|_=>none) ?_;simp;refine⟨hso,?_⟩;refine aB ?_;obtain⟨z1,z2⟩:=cG b 5 (by decide);obtain⟨z3,z4⟩:=cG (b.tdiv 5) 50 (by decide);have z5: -9223372036854775808<=b.tdiv 5/\b.tdiv 5<=9223372036854775807:=by rw[Int.tdiv_eq_ediv];have h5:Int.sign 5=1:=rfl;rw[h5];split<;>omega
 refine eG.ro hT hW (λ|13=>some<| .plain ⟨.d (aT (bR b 5)),true⟩|17=>some<| .plain ⟨.d (aT (bR (b.tdiv 5) 50)),true⟩|_=>none) ?_;simp;refine⟨⟨⟨⟨dE b 5 h1 h2 (by decide),by omega⟩,z5⟩,dE _ 50 z5.1 z5.2 (by decide)⟩,?_⟩;refine aB ?_;refine bI [[21,22,24,26,27,28,30,32,34],[22,26,28,34],[22,26,28,34],[21,26,28,34],[21,22,26,28,34],[26,28,34],[21,22,24,28,34],[21,22,24,28,34],[28,34],[21,22,24,26,27,34],[21,22,24,26,27,28,34],[34],[21,22,24,26,27,28,30,34],[34],[21,22,24,26,27,28,30,32],[21,22,24,26,27,28,30,32]] [[],[],[21],[22],[],[22,24],[],[26],[24,27],[28],[],[28,30],[],[30,32],[],[34],[35,27,32,34],[6]] (λ|21=>some<| .plain ⟨.d (bY (l.map Ed.name)),true⟩|_=>none) ?_;simp[(show [0,1,2,3,4,5]=List.range 6 from rfl)];refine⟨⟨⟨⟨⟨by simpa [bY]using wG l hl,by omega⟩,by omega⟩,by omega⟩,by omega⟩,?_⟩;refine aN ?_;simp[FB];exact⟨List.take_of_length_le (by simp),List.take_of_length_le (by simp)⟩
theorem LT(l:List Ed)(bits b:Int)(hl:l.length<=1100000)(h1: -9223372036854775808<=b)(h2:b<=9223372036854775807)(h3: -9223372036854775808<=bits)(h4:bits<=9223372036854775807):
 Ok Tryz.prog 10 [bT l,aT bits,aT b] ⟨.d (.sl ((sX l bits b).map bY)),false⟩:=(JL l bits b hl h1 h2 h3 h4).own_d
end
section
attribute[local simp] bA bW aQ aZ
theorem JM(l:List Ed)(a b:Nm)(hs:iL l)(hn:(bC l).length<=1100000):Ok Tryz.prog 49 [bT l,a.d,b.d] ⟨.d (cQ (dB l a b)),true⟩:=by
 refine bE Tryz.func49 rfl Tryz.ntmps49 Tryz.results49 λw0 X hp=>?_;refine aA ?_;simp;refine aS hT hW (λ|15=>some<| .plain ⟨.d (aT (bM l a)),true⟩|_=>none) ?_;simp;refine⟨zY l a,?_⟩;refine aS hT hW (λ|18=>some<| .plain ⟨.d (aT (bM l b)),true⟩|_=>none) ?_;simp;refine⟨zY l b,?_⟩;refine aB ?_;refine aS hT hW (λ|34=>some<| .plain ⟨.d (.bool (decide (a∈bZ l b))),true⟩|40=>some<| .plain ⟨.d (.bool (decide (b∈bZ l a))),true⟩|_=>none) ?_;simp;refine⟨⟨by intros;exact xY l a b hn,by intros;exact xY l b a hn⟩,?_⟩;refine aD ?_;simp;refine⟨λh3=>?_,λg1 g2 g3 g4 g5=>?_⟩
 ·refine aA ?_;simp;refine aN ?_;have e:dB l a b=[]:=by unfold dB;rw[if_pos (by rcases h3 with(((h|h)|h)|h)|h<;>simp[h])]
  simp[e]
 ·refine aH ?_;simp;refine aA ?_;simp;refine aB ?_;obtain⟨i,hi,fa,ea⟩:=tO (show 0<=bM l a by omega);obtain⟨j,hj,fb,eb⟩:=tO (show 0<=bM l b by omega);refine eG.ro hT hW (λ|46=>some<| .plain ⟨.d (cQ (aP l[i])),true⟩|_=>none) ?_;simp[fa,hi];refine⟨uX _ (hs _ (List.getElem_mem hi)).1 (hs _ (List.getElem_mem hi)).2,?_⟩;refine aS hT hW (λ|51=>some<| .plain ⟨.d (cQ (aP l[j])),true⟩|_=>none) ?_;simp[fb,hj];refine⟨uX _ (hs _ (List.getElem_mem hj)).1 (hs _ (List.getElem_mem hj)).2,?_⟩;refine aB ?_;refine aA ?_;simp;refine aF ?_;refine aJ (ι:=Nat×List dO) (λ⟨q,acc⟩=>aU [(9,.ow 9 0 acc.length),(10,.d (cQ (aP l[i]))),(11,.d (cQ (aP l[j]))),(12,.d (aT q))]) (λ⟨q,acc⟩=>aL [(9,.row false 1 (acc.map .str))]) (λ⟨q,acc⟩=>q<=(aP l[i]).length/\acc.length<=q/\acc=((aP l[i]).take q).filter λs=>decide (s∈aP l[j])) (λ⟨q,acc⟩=>(aP l[i]).length-q) (0,[]) (aC hp [9,10,11,12] [(9,9)]) (by simp) λ⟨q,acc⟩ hi9=>?_;refine aB ?_;refine aB ?_;have htl:=oL (hs _ (List.getElem_mem hi)).1 (hs _ (List.getElem_mem hi)).2;refine aG ?_;simp;refine aD ?_;simp;refine⟨λh9=>?_,λh9=>?_⟩
  ·refine aH ?_;simp;refine aB ?_;refine aF ?_;refine aS hT hW (λ|63=>some<| .plain ⟨.d (.bool (decide ((aP l[i])[q]∈aP l[j]))),true⟩|_=>none) ?_;simp[h9];refine⟨Oa _ _,?_⟩;refine aD ?_;simp;refine⟨λh11=>?_,λh11=>?_⟩
   ·refine aG ?_;simp[h9];refine⟨by have:=hi9.2.1;omega,?_⟩;refine aG ?_;simp;refine⟨by omega,?_⟩;refine aI (q+1,acc++[(aP l[i])[q]]) (aC hp [9,10,11,12] [(70,9)]) ?_ ?_
    ·refine⟨h9,by have:=hi9.2.1;simp;omega,?_⟩;dsimp only;rw[pI h9,<-hi9.2.2];simp[h11]
    ·omega
   ·refine aH ?_;simp;refine aG ?_;simp;refine⟨by omega,?_⟩;refine aI (q+1,acc) (aC hp [9,10,11,12] [(9,9)]) ?_ ?_
    ·refine⟨h9,by have:=hi9.2.1;dsimp only;omega,?_⟩;dsimp only;rw[pI h9,<-hi9.2.2];simp[h11]
    ·omega
  ·refine aO ?_;simp;refine aA ?_;simp;refine aN ?_;have e:dB l a b=(aP l[i]).filter λs=>decide (s∈aP l[j]):=by unfold dB;rw[if_neg (by simp only[not_or];exact⟨by omega,by omega,g3,g4,g5⟩),ea,eb]
   have e2:acc=dB l a b:=by rw[e,hi9.2.2,List.take_of_length_le (by omega)]
   simp[e2]
set_option maxRecDepth 10000
end
section
attribute[local simp] bA bW aQ aZ
def NJ:List Df:=[⟨[97],[118,97,114,32,97,32,61,32,49,59]⟩,⟨[98],[108,111,99,107,32,98,59]⟩]
def Cd:List Ed:=
 [⟨⟨0,1⟩,[],[⟨[97],[118,97,114,32,97,32,61,32,50,59]⟩],[]⟩,
  ⟨⟨1,0⟩,[⟨0,1⟩],[],[[98]]⟩,
  ⟨⟨1,1⟩,[],[⟨[97],[118,97,114,32,97,32,61,32,51,59]⟩],[]⟩,
  ⟨⟨2,0⟩,[⟨0,1⟩,⟨1,1⟩],[⟨[97],[118,97,114,32,97,32,61,32,53,59]⟩],[]⟩]
theorem HC:Ok Tryz.prog 72 [] ⟨.tup [.d (.sl (NJ.map Df.d)),.d (bT Cd)],false⟩:=by
 refine NA Tryz.func72 (by kernel_rfl) (c:=_) rfl Tryz.ntmps72 (by simp) Tryz.results72 λw0 X hp=>?_;refine aA ?_;simp;refine aA ?_;simp[(show [0,1]=List.range 2 from rfl)];refine aA ?_;simp;refine aA ?_;simp;refine aB ?_;refine bI [[13,17,18,22,27,29,31],[0,13,17,18,22,27,29],[0,17,18,22,27,29],[0,17,18,22,27,29],[0,17,18,22,27,29],[0,13,17,18,22,27,29],[0,13,18,22,27,29],[0,13,18,22,27,29],[0,13,17,22,27,29],[0,13,22,27,29],[0,13,17,18,22,27,29],[0,13,17,18,27,29],[0,13,17,18,27,29],[0,13,17,18,27,29],[0,13,17,18,22,27,29],[0,13,17,18,22,29],[0,13,17,18,22,29],[0,13,17,18,22,29],[0,13,17,18,22,27],[0,13,17,18,22,27],[0,13,17,18,22],[0],[13,17,18,22,27,29,31]] [[],[],[],[13],[],[],[],[17],[18],[],[],[],[22],[],[],[],[],[27],[],[29],[],[31,13,17,18,22,27,29],[0],[1]] (λ_=>none) ?_;simp[(show [0,1]=List.range 2 from rfl),(show [0,1,2,3]=List.range 4 from rfl)];refine aN ?_;simp[NJ,Cd,Ed.d,Df.d,Nm.d]
end
section
attribute[local simp] bA bW aQ aZ
def Od:List Nm:=[⟨0,1⟩,⟨1,0⟩,⟨1,1⟩,⟨2,0⟩]
def PY:List Df:=[⟨[97],[118,97,114,32,97,32,61,32,50,59]⟩]
def PZ:List Df:=[⟨[97],[118,97,114,32,97,32,61,32,53,59]⟩,⟨[98],[108,111,99,107,32,98,59]⟩]
theorem mS:iL Cd:=by unfold iL;decide
set_option maxRecDepth 100000 in
theorem LU:cT Cd=(4,0):=by decide
set_option maxRecDepth 100000 in
theorem HD:sP Cd [⟨1,0⟩]=([⟨0,1⟩,⟨1,0⟩],0):=by decide
set_option maxRecDepth 100000 in
theorem JN:eJ Cd [⟨1,0⟩]=false:=by decide
set_option maxRecDepth 100000 in
theorem LW:xU Cd Od=(Od,0):=by decide
set_option maxRecDepth 100000 in
theorem OX:eV NJ Cd [⟨0,1⟩,⟨1,0⟩]=(PY,0):=by decide
set_option maxRecDepth 100000 in
theorem LY:eV NJ Cd [⟨0,1⟩,⟨1,1⟩]=([],14):=by decide
set_option maxRecDepth 100000 in
theorem OY:eV NJ Cd [⟨2,0⟩,⟨0,1⟩,⟨1,1⟩]=(PZ,0):=by decide
set_option maxRecDepth 100000 in
theorem HE:gI Cd=[(⟨0,1⟩,⟨1,1⟩)]:=by decide
set_option maxHeartbeats 2000000
set_option maxRecDepth 10000
theorem LZ:Ok Tryz.prog 22 [] ⟨.d (.bool true),true⟩:=by
 refine bE Tryz.func22 rfl Tryz.ntmps22 Tryz.results22 λw0 X hp=>?_;have k1:=tM Cd mS;have k2:=Fr Cd [⟨1,0⟩] (by decide) (by decide);have k3:=JA Cd Od mS (by decide);have k4:=sU NJ Cd [⟨0,1⟩,⟨1,0⟩] mS (by decide) (by decide);have k5:=sU NJ Cd [⟨0,1⟩,⟨1,1⟩] mS (by decide) (by decide);have k6:=sU NJ Cd [⟨2,0⟩,⟨0,1⟩,⟨1,1⟩] mS (by decide) (by decide);have k7:=qO Cd [⟨1,0⟩];have k8:=zG Cd mS;have k9:=qM [⟨0,1⟩,⟨1,0⟩] [⟨0,1⟩,⟨1,0⟩];have k10:=qM Od Od;rw[decide_eq_true rfl]at k9 k10;rw[LU]at k1;rw[HD]at k2;rw[LW]at k3;rw[OX]at k4;rw[LY]at k5;rw[OY]at k6;rw[JN]at k7;rw[HE]at k8;refine aA ?_;simp;refine aS hT hW (λ|17=>some<| .plain ⟨.tup [.d (.sl (NJ.map Df.d)),.d (bT Cd)],false⟩|_=>none) ?_;simp[cO];refine⟨HC,?_⟩;refine aS hT hW (λ|21=>some<| .plain ⟨.d (bY Od),true⟩|_=>none) ?_;simp;refine⟨wG Cd (by decide),?_⟩;refine aS hT hW (λ|24=>some<| .plain ⟨.tup [.d (aT 4),.d (aT 0)],true⟩|_=>none) ?_;simp[cO];refine⟨k1,?_⟩;refine aS hT hW (λ|31=>some<| .plain ⟨.tup [.own 2 ([⟨0,1⟩,⟨1,0⟩].map Nm.d),.d (aT 0)],true⟩|_=>none) ?_;simp[cO];refine⟨⟨by decide,k2⟩,?_⟩;refine aS hT hW (λ|37=>some<| .plain ⟨.tup [.own 2 (Od.map Nm.d),.d (aT 0)],true⟩|_=>none) ?_;simp[cO];refine⟨k3,?_⟩;refine aS hT hW (λ|45=>some<| .plain ⟨.tup [.d (jA PY),.d (aT 0)],true⟩|_=>none) ?_;simp[cO];refine⟨⟨by decide,k4⟩,?_⟩;refine aB ?_;refine bI [[57],[57]] [[],[],[],[],[],[],[],[],[57],[58]] (λ|58=>some<| .plain ⟨.tup [.d (jA []),.d (aT 14)],true⟩|_=>none) ?_;simp[cO];refine⟨⟨by decide,k5⟩,?_⟩;refine aB ?_;refine bI [[73],[73]] [[],[],[],[],[],[],[],[],[],[],[],[73],[74]] (λ|74=>some<| .plain ⟨.tup [.d (jA PZ),.d (aT 0)],true⟩|_=>none) ?_;simp[cO];refine⟨⟨by decide,k6⟩,?_⟩;refine aB ?_;refine aS hT hW (λ|107=>some<| .plain ⟨.d (.bool false),true⟩|_=>none) ?_;simp;refine⟨⟨by decide,k7⟩,?_⟩;refine aD ?_;simp;refine aH ?_;simp;refine aB ?_;refine aS hT hW (λ|112=>some<| .plain ⟨.d (.bool true),true⟩|117=>some<| .plain ⟨.d (.bool true),true⟩|132=>some<| .plain ⟨.d (.sl ([(⟨0,1⟩,⟨1,1⟩)].map Ej)),true⟩|_=>none) ?_
 simp[(show PY.length=1 from rfl),(show PZ.length=2 from rfl)];refine⟨⟨⟨⟨by decide,k9⟩,k10⟩,k8⟩,?_⟩;refine aD ?_;simp;refine aH ?_;simp;refine aB ?_;refine bI [[],[],[],[],[],[],[],[],[],[],[],[],[],[],[],[],[],[],[],[],[],[],[],[],[157],[157],[157],[157],[157],[157],[157]] [[],[],[],[],[],[],[],[],[],[],[],[],[],[],[],[],[],[],[],[],[],[157]] (λ|157=>some<| .plain ⟨.d (.sl ([(⟨0,1⟩,⟨1,1⟩)].map Ej)),true⟩|_=>none) ?_;simp[PY,PZ,Od,Ej,Df.d,Nm.d];refine⟨k8,?_⟩;refine aN ?_;simp
end
section
attribute[local simp] bA bW aQ aZ
set_option maxRecDepth 10000
theorem Oe(a b:Ed):(((decide (a.name=b.name)&&decide (a.needs=b.needs))&&decide (a.puts=b.puts))&&decide (a.drops=b.drops))=decide (a=b):=by
 cases a;cases b;simp[Bool.decide_and,Bool.and_assoc]
theorem FC(l:List Ed)(hs:iL l)(hn:(bC l).length<=1100000)(hl:l.length<=1000):Ok Tryz.prog 9 [bT l] ⟨.d (.sl ((gI l).map Ej)),true⟩:=by
 refine bE Tryz.func9 rfl Tryz.ntmps9 Tryz.results9 λw0 X hp=>?_;refine aA ?_;simp;refine aS hT hW (λ|11=>some<| .plain ⟨.tup [.d (aT (cT l).1),.d (aT (cT l).2)],true⟩|_=>none) ?_;simp[cO];refine⟨LQ l hs hn,?_⟩;refine aB ?_;refine aA ?_;simp;refine aD ?_;simp;refine⟨λh2=>?_,λh2=>?_⟩
 ·refine aA ?_;simp;refine aN ?_;simp[gI,h2]
 ·refine aH ?_;simp;refine aB ?_;have h64:=(tN (by simpa using h2)).1;obtain⟨all,hall⟩:∃all,all=aY (l.map Ed.name):=⟨_,rfl⟩;have hal:all.length<=64:=by have:=fP (l.map Ed.name);rw[hall];simp at this;omega
  have hso:=zZ (l.map Ed.name) (by simp;omega);rw[<-hall]at hso;refine eG.ro hT hW (λ|17=>some<| .plain ⟨.d (bY (l.map Ed.name)),true⟩|18=>some<| .plain ⟨.d (bY all),true⟩|_=>none) ?_;simp;refine⟨⟨by simpa [bY]using wG l (by omega),by simpa [bY]using hso⟩,?_⟩;refine aA ?_;simp;refine aB ?_;refine aA ?_;simp;refine aF ?_;refine aJ (ι:=Nat×List (Nm×Nm)) (λ⟨j,ps⟩=>aU [(0,.d (bT l)),(5,.d (bY all)),(6,.ow 6 0 ps.length),(7,.d (aT j))]) (λ⟨j,ps⟩=>aL [(6,.row false 4 (ps.map Ej))]) (λ⟨j,ps⟩=>j<=all.length/\ps.length<=j*all.length/\ps=lB (gS l) all j) (λ⟨j,ps⟩=>all.length-j) (0,[]) (aC hp [0,5,6,7] [(6,6)]) (by simp[lB]) λ⟨j,ps⟩ hi7=>?_;refine aB ?_;refine aA ?_;simp;refine aD ?_;simp;refine⟨λh7=>?_,λh7=>?_⟩
  ·refine aH ?_;simp;refine aB ?_;refine aF ?_;refine aB ?_;have h7':j<all.length:=by omega
   refine aG ?_;simp;refine⟨by omega,?_⟩;refine aF ?_;refine aJ (ι:=Nat×List (Nm×Nm)) (λ⟨k,qs⟩=>aU [(0,.d (bT l)),(5,.d (bY all)),(6,.ow 6 0 qs.length),(7,.d (aT j)),(8,.d (aT ((j:Int)+1+(k:Int))))]) (λ⟨k,qs⟩=>aL [(6,.row false 4 (qs.map Ej))]) (λ⟨k,qs⟩=>k<=all.length-(j+1)/\qs.length<=ps.length+k/\qs=lB (gS l) all j++(((all.drop (j+1)).take k).filter (gS l all[j])).map (λb=>(all[j],b))) (λ⟨k,qs⟩=>all.length-(j+1)- k) (0,ps) (aC hp [0,5,6,7,8] [(6,6)]) (by simp[hi7.2.2]) λ⟨k,qs⟩ hi10=>?_;refine aB ?_;refine aA ?_;simp;refine aD ?_;simp;refine⟨λh10=>?_,λh10=>?_⟩
   ·refine aH ?_;simp;refine aB ?_;refine aF ?_;refine aB ?_;have h10':j+1+k<all.length:=by omega
    have e10:((j:Int)+1+(k:Int)).toNat=j+1+k:=(by omega);have f10:(j:Int)+1+(k:Int)<(all.length:Int):=(by omega);have g10:(0:Int)<=(j:Int)+1+(k:Int):=(by omega);refine bI [] [[],[],[],[],[],[],[],[],[],[42]] (λ|42=>some<| .plain ⟨.d (cQ (dB l all[j] all[j+1+k])),true⟩|_=>none) ?_;simp[h7',h10',e10,f10,g10];refine⟨by simpa using JM l all[j] all[j+1+k] hs hn,?_⟩;refine aD ?_;simp;refine⟨λh12=>?_,λh12=>?_⟩
    ·have hb:qs.length<=5000:=by
      have h1:=hi10.2.1;have h2:=hi7.2.1;have h3:j*all.length<=64*64:=Nat.mul_le_mul (by omega) hal;omega
     refine bI [[55]] [[],[],[],[],[],[],[],[],[],[],[55],[6,56]] (λ_=>none) ?_;simp[h7',h10',e10,f10,g10];refine⟨by omega,?_⟩;refine aG ?_;simp;refine⟨by omega,?_⟩;refine aI (k+1,qs++[(all[j],all[j+1+k])]) (aC hp [0,5,6,7,8] [(56,6)] (by simp[Int.add_assoc]) (by simp[Ej])) ?_ ?_
     ·refine⟨by omega,by have:=hi10.2.1;simp;omega,?_⟩;rw[hi10.2.2,List.take_succ_eq_append_getElem (by simp;omega),List.filter_append,List.map_append];simp[gS,h12]
     ·omega
    ·refine aH ?_;simp;refine aG ?_;simp;refine⟨by omega,?_⟩;refine aI (k+1,qs) (aC hp [0,5,6,7,8] [(6,6)] (by simp[Int.add_assoc])) ?_ ?_
     ·dsimp only;refine⟨by omega,by have:=hi10.2.1;omega,?_⟩;rw[hi10.2.2,List.take_succ_eq_append_getElem (by simp;omega),List.filter_append,List.map_append];simp[gS,h12]
     ·omega
   ·refine aO ?_;simp;refine aG ?_;simp;refine⟨by omega,?_⟩;refine aI (j+1,qs) (aC hp [0,5,6,7] [(6,6)]) ?_ ?_
    ·refine⟨by omega,?_,?_⟩
     ·rw[hi10.2.2,List.length_append,Nat.add_mul];have h1:=hi7.2.1;have h2:=hi7.2.2;rw[<-h2];have h3:((((all.drop (j+1)).take k).filter (gS l all[j])).map (λb=>(all[j],b))).length<=all.length:=by
       rw[List.length_map];exact Nat.le_trans (List.length_filter_le _ _) (by simp;omega)
      omega
     ·rw[hi10.2.2,List.take_of_length_le (by simp;omega)];simp[lB,LF,h7']
    ·omega
  ·refine aO ?_;simp;refine aA ?_;simp;refine aN ?_;have e:ps=gI l:=by
    have:=hi7.2.2;rw[show j=all.length by omega,hall]at this;simp[gI,h2,this]
   simp[e];rintro _ a b _ rfl;simp[Ej]
theorem HF(a b:List Nm):Ok Tryz.prog 67 [bY a,bY b] ⟨.d (.bool (decide (a=b))),true⟩:=by
 refine bE Tryz.func67 rfl Tryz.ntmps67 Tryz.results67 λw0 X hp=>?_;refine eG.len (t:=0) rfl λhlen=>?_;simp at hlen;refine aA ?_;simp;refine aB ?_;refine aA ?_;simp;refine aD ?_;simp;refine⟨λh1=>?_,λh1=>?_⟩
 ·refine aA ?_;simp;refine aN ?_;simp;intro q;subst q;simp at h1
 ·refine aH ?_;simp;refine aB ?_;refine aA ?_;simp;refine aF ?_;refine aJ (ι:=Nat) (λi=>aU [(0,.d (bY a)),(1,.d (bY b)),(11,.d (bY a)),(12,.d (aT a.length)),(13,.d (aT i))]) (λi=>aL []) (λi=>i<=a.length/\a.take i=b.take i) (λi=>a.length-i) 0 (aC hp [0,1,11,12,13] []) (⟨Nat.zero_le _,rfl⟩) λi hi4=>?_;refine aA ?_;simp;refine aB ?_;refine aD ?_;simp;refine⟨λh4=>?_,λh4=>?_⟩
  ·refine aH ?_;simp;refine aB ?_;refine aF ?_;refine aA ?_;simp;refine aB ?_;refine bI [] [] (λ_=>none) ?_;simp[h4,(show i<b.length by omega)];refine aD ?_;simp;refine⟨λh6=>?_,λh6=>?_⟩
   ·refine aA ?_;simp;refine aN ?_;simp;intro q;subst q;simp at h6
   ·refine aH ?_;simp;refine aG ?_;simp;refine⟨by omega,?_⟩;refine aI (i+1) (aC hp [0,1,11,12,13] []) ?_ ?_
    ·exact⟨h4,gF hi4.2 h4 (by omega) (by simpa using h6)⟩
    ·omega
  ·refine aO ?_;simp;refine aA ?_;simp;refine aN ?_;simp;have hi:i=a.length:=by omega
   have:=hi4.2;rw[hi,List.take_length,List.take_of_length_le (by omega)]at this;exact this
theorem HG(a b:List Df):Ok Tryz.prog 68 [jA a,jA b] ⟨.d (.bool (decide (a=b))),true⟩:=by
 refine bE Tryz.func68 rfl Tryz.ntmps68 Tryz.results68 λw0 X hp=>?_;refine eG.len (t:=0) rfl λhlen=>?_;simp at hlen;refine aA ?_;simp;refine aB ?_;refine aA ?_;simp;refine aD ?_;simp;refine⟨λh1=>?_,λh1=>?_⟩
 ·refine aA ?_;simp;refine aN ?_;simp;intro q;subst q;simp at h1
 ·refine aH ?_;simp;refine aB ?_;refine aA ?_;simp;refine aF ?_;refine aJ (ι:=Nat) (λi=>aU [(0,.d (jA a)),(1,.d (jA b)),(11,.d (jA a)),(12,.d (aT a.length)),(13,.d (aT i))]) (λi=>aL []) (λi=>i<=a.length/\a.take i=b.take i) (λi=>a.length-i) 0 (aC hp [0,1,11,12,13] []) (⟨Nat.zero_le _,rfl⟩) λi hi4=>?_;refine aA ?_;simp;refine aB ?_;refine aD ?_;simp;refine⟨λh4=>?_,λh4=>?_⟩
  ·refine aH ?_;simp;refine aB ?_;refine aF ?_;refine aA ?_;simp;refine aB ?_;refine bI [] [] (λ_=>none) ?_;simp[h4,(show i<b.length by omega)];refine aD ?_;simp;refine⟨λh6=>?_,λh6=>?_⟩
   ·refine aA ?_;simp;refine aN ?_;simp;intro q;subst q;simp at h6
   ·refine aH ?_;simp;refine aG ?_;simp;refine⟨by omega,?_⟩;refine aI (i+1) (aC hp [0,1,11,12,13] []) ?_ ?_
    ·exact⟨h4,gF hi4.2 h4 (by omega) (by simpa using h6)⟩
    ·omega
  ·refine aO ?_;simp;refine aA ?_;simp;refine aN ?_;simp;have hi:i=a.length:=by omega
   have:=hi4.2;rw[hi,List.take_length,List.take_of_length_le (by omega)]at this;exact this
theorem FD(a b:List dO):Ok Tryz.prog 69 [cQ a,cQ b] ⟨.d (.bool (decide (a=b))),true⟩:=by
 refine bE Tryz.func69 rfl Tryz.ntmps69 Tryz.results69 λw0 X hp=>?_;refine eG.len (t:=0) rfl λhlen=>?_;simp at hlen;refine aA ?_;simp;refine aB ?_;refine aA ?_;simp;refine aD ?_;simp;refine⟨λh1=>?_,λh1=>?_⟩
 ·refine aA ?_;simp;refine aN ?_;simp;intro q;subst q;simp at h1
 ·refine aH ?_;simp;refine aB ?_;refine aA ?_;simp;refine aF ?_;refine aJ (ι:=Nat) (λi=>aU [(0,.d (cQ a)),(1,.d (cQ b)),(11,.d (cQ a)),(12,.d (aT a.length)),(13,.d (aT i))]) (λi=>aL []) (λi=>i<=a.length/\a.take i=b.take i) (λi=>a.length-i) 0 (aC hp [0,1,11,12,13] []) (⟨Nat.zero_le _,rfl⟩) λi hi4=>?_;refine aA ?_;simp;refine aB ?_;refine aD ?_;simp;refine⟨λh4=>?_,λh4=>?_⟩
  ·refine aH ?_;simp;refine aB ?_;refine aF ?_;refine aA ?_;simp;refine aB ?_;refine bI [] [] (λ_=>none) ?_;simp[h4,(show i<b.length by omega)];refine aD ?_;simp;refine⟨λh6=>?_,λh6=>?_⟩
   ·refine aA ?_;simp;refine aN ?_;simp;intro q;subst q;simp at h6
   ·refine aH ?_;simp;refine aG ?_;simp;refine⟨by omega,?_⟩;refine aI (i+1) (aC hp [0,1,11,12,13] []) ?_ ?_
    ·exact⟨h4,gF hi4.2 h4 (by omega) (by simpa using h6)⟩
    ·omega
  ·refine aO ?_;simp;refine aA ?_;simp;refine aN ?_;simp;have hi:i=a.length:=by omega
   have:=hi4.2;rw[hi,List.take_length,List.take_of_length_le (by omega)]at this;exact this
theorem DX(a b:List dO):Ok Tryz.prog 35 [cQ a,cQ b] ⟨.d (.bool (decide (a=b))),true⟩:=by
 refine bE Tryz.func35 rfl Tryz.ntmps35 Tryz.results35 λw0 X hp=>?_;refine eG.len (t:=0) rfl λhlen=>?_;simp at hlen;refine aA ?_;simp;refine aB ?_;refine aA ?_;simp;refine aD ?_;simp;refine⟨λh1=>?_,λh1=>?_⟩
 ·refine aA ?_;simp;refine aN ?_;simp;exact λe=>h1 (by rw[e])
 ·refine aH ?_;simp;refine aB ?_;refine aA ?_;simp;refine aF ?_;refine aJ (ι:=Nat) (λi=>aU [(0,.d (cQ a)),(1,.d (cQ b)),(5,.d (aT i))]) (λi=>aL []) (λi=>i<=a.length/\a.take i=b.take i) (λi=>a.length-i) 0 (aC hp [0,1,5] []) (by simp) λi hi4=>?_;refine aB ?_;refine aA ?_;simp;refine aD ?_;simp;refine⟨λh4=>?_,λh4=>?_⟩
  ·refine aH ?_;simp;refine aB ?_;refine aF ?_;refine aB ?_;refine bI [] [] (λ_=>none) ?_;simp[h4,show i<b.length by omega];refine aD ?_;simp;refine⟨λh6=>?_,λh6=>?_⟩
   ·refine aA ?_;simp;refine aN ?_;simp;intro e;subst e;simp at h6
   ·refine aH ?_;simp;refine aG ?_;simp;refine⟨by omega,?_⟩;refine aI (i+1) (aC hp [0,1,5] []) ?_ ?_
    ·exact⟨h4,gF hi4.2 h4 (by omega) (by simpa using h6)⟩
    ·omega
  ·refine aO ?_;simp;refine aA ?_;simp;refine aN ?_;simp;have e:i=a.length:=by omega
   have:=hi4.2;rw[e,List.take_length]at this;have h1':a.length=b.length:=by omega
   rw[this,h1',List.take_length]
theorem Ma(a b:Ed):Ok Tryz.prog 21 [a.d,b.d] ⟨.d (.bool (decide (a=b))),true⟩:=by
 refine bE Tryz.func21 rfl Tryz.ntmps21 Tryz.results21 λw0 X hp=>?_;refine aA ?_;simp;refine aS hT hW (λ|15=>some<| .plain ⟨.d (.bool (decide (a.needs=b.needs))),true⟩|22=>some<| .plain ⟨.d (.bool (decide (a.puts=b.puts))),true⟩|29=>some<| .plain ⟨.d (.bool (decide (a.drops=b.drops))),true⟩|_=>none) ?_;simp;refine⟨⟨⟨by intros;exact qM _ _,by intros;exact EY _ _⟩,by intros;exact DX _ _⟩,?_⟩;refine aN ?_;rw[<-Oe];simp
theorem Mb(a b:Ed):Ok Tryz.prog 20 [a.d,b.d] ⟨.d (.bool (decide (a=b))),true⟩:=by
 refine bE Tryz.func20 rfl Tryz.ntmps20 Tryz.results20 λw0 X hp=>?_;refine aA ?_;simp;refine aS hT hW (λ|15=>some<| .plain ⟨.d (.bool (decide (a.needs=b.needs))),true⟩|22=>some<| .plain ⟨.d (.bool (decide (a.puts=b.puts))),true⟩|29=>some<| .plain ⟨.d (.bool (decide (a.drops=b.drops))),true⟩|_=>none) ?_;simp;refine⟨⟨⟨by intros;exact HF _ _,by intros;exact HG _ _⟩,by intros;exact FD _ _⟩,?_⟩;refine aN ?_;rw[<-Oe];simp
end
def dF(x:BitVec 32):DV:=.int .u32 (x.toNat:Int)
theorem OZ(n:Int):IntKind.u32.wrap n=n%4294967296:=by
 unfold IntKind.wrap;simp[IntKind.bits,IntKind.signed]
theorem qW(n:Nat):IntKind.u32.wrap (n:Int)=((n%4294967296:Nat):Int):=by rw[OZ];omega
theorem pK(x:BitVec 32):IntKind.u32.wrap (x.toNat:Int)=(x.toNat:Int):=by
 rw[qW];have:=x.isLt;omega
theorem PJ(x y:BitVec 32):IntKind.u32.wrap ((x.toNat:Int)+(y.toNat:Int))=((x+y).toNat:Int):=by
 rw[BitVec.toNat_add,show(x.toNat:Int)+(y.toNat:Int)=((x.toNat+y.toNat:Nat):Int)by omega,qW]
theorem FE(x:BitVec 32):BitVec.ofInt 32 (x.toNat:Int)=x:=by
 apply BitVec.eq_of_toNat_eq;rw[BitVec.toNat_ofInt];have:=x.isLt;omega
theorem PK(x y:BitVec 32):IntKind.u32.wrap ((BitVec.ofInt 32 (x.toNat:Int)&&&BitVec.ofInt 32 (y.toNat:Int)).toNat:Int)=((x&&&y).toNat:Int):=by rw[FE,FE,pK]
theorem Qo(x y:BitVec 32):IntKind.u32.wrap ((BitVec.ofInt 32 (x.toNat:Int)|||BitVec.ofInt 32 (y.toNat:Int)).toNat:Int)=((x|||y).toNat:Int):=by rw[FE,FE,pK]
theorem PL(x y:BitVec 32):IntKind.u32.wrap ((BitVec.ofInt 32 (x.toNat:Int)^^^BitVec.ofInt 32 (y.toNat:Int)).toNat:Int)=((x^^^y).toNat:Int):=by rw[FE,FE,pK]
theorem PM(x:BitVec 32):IntKind.u32.wrap ((BitVec.ofInt 32 IntKind.u32.max^^^BitVec.ofInt 32 (x.toNat:Int)).toNat:Int)=((~~~x).toNat:Int):=by
 have e:BitVec.ofInt 32 IntKind.u32.max=BitVec.allOnes 32:=by decide
 rw[e,FE,BitVec.allOnes_xor,pK]
theorem Pa(x:BitVec 32):IntKind.u32.wrap ((BitVec.ofInt 32 (x.toNat:Int)^^^BitVec.ofInt 32 4294967295).toNat:Int)=((~~~x).toNat:Int):=by
 have e:BitVec.ofInt 32 4294967295=BitVec.allOnes 32:=by decide
 rw[e,FE,BitVec.xor_allOnes,pK]
theorem Of(x:BitVec 32)(k:Nat)(hk:k<=32):IntKind.u32.wrap ((x.toNat:Int)*2^k)=((x<<<k).toNat:Int):=by
 rw[BitVec.toNat_shiftLeft,Nat.shiftLeft_eq,show(x.toNat:Int)*2^k=((x.toNat*2^k:Nat):Int)by simp,qW]
theorem Og(x:BitVec 32)(k:Nat):(x.toNat:Int).fdiv (2^k)=((x>>>k).toNat:Int):=by
 rw[BitVec.toNat_ushiftRight,Nat.shiftRight_eq_div_pow,show(2:Int)^k=((2^k:Nat):Int)by simp,Int.fdiv_eq_ediv_of_nonneg _ (Int.natCast_nonneg _),Int.natCast_ediv]
def FF(b:UInt8):BitVec 32:=BitVec.ofNat 32 b.toNat
theorem Pb(b:UInt8):IntKind.u32.wrap (b.toNat:Int)=((FF b).toNat:Int):=by
 rw[qW];unfold FF;rw[BitVec.toNat_ofNat]
theorem PN(x:BitVec 32):IntKind.u8.wrap (x.toNat:Int)=((UInt8.ofNat x.toNat).toNat:Int):=by
 unfold IntKind.wrap;simp[IntKind.bits,IntKind.signed,UInt8.toNat_ofNat]
def uO(x:BitVec 32)(k:Nat):BitVec 32:=x>>>k|||x<<<(32-k)
theorem Mc(x:BitVec 32)(k:Nat):x<<<(32-k)|||x>>>k=uO x k:=BitVec.or_comm _ _
structure H8 where
 (a b c d e f g h:BitVec 32)
def KS:List (BitVec 32):=[
 0x428a2f98,0x71374491,0xb5c0fbcf,0xe9b5dba5,0x3956c25b,0x59f111f1,0x923f82a4,0xab1c5ed5,
 0xd807aa98,0x12835b01,0x243185be,0x550c7dc3,0x72be5d74,0x80deb1fe,0x9bdc06a7,0xc19bf174,
 0xe49b69c1,0xefbe4786,0x0fc19dc6,0x240ca1cc,0x2de92c6f,0x4a7484aa,0x5cb0a9dc,0x76f988da,
 0x983e5152,0xa831c66d,0xb00327c8,0xbf597fc7,0xc6e00bf3,0xd5a79147,0x06ca6351,0x14292967,
 0x27b70a85,0x2e1b2138,0x4d2c6dfc,0x53380d13,0x650a7354,0x766a0abb,0x81c2c92e,0x92722c85,
 0xa2bfe8a1,0xa81a664b,0xc24b8b70,0xc76c51a3,0xd192e819,0xd6990624,0xf40e3585,0x106aa070,
 0x19a4c116,0x1e376c08,0x2748774c,0x34b0bcb5,0x391c0cb3,0x4ed8aa4a,0x5b9cca4f,0x682e6ff3,
 0x748f82ee,0x78a5636f,0x84c87814,0x8cc70208,0x90befffa,0xa4506ceb,0xbef9a3f7,0xc67178f2]
def NK(x:BitVec 32):BitVec 32:=uO x 7^^^uO x 18^^^x>>>3
def NL(x:BitVec 32):BitVec 32:=uO x 17^^^uO x 19^^^x>>>10
def FG(x:BitVec 32)(i j k:Nat):BitVec 32:=uO x i^^^uO x j^^^uO x k
def Md(s:H8)(k w:BitVec 32):H8:=
 ⟨s.h+FG s.e 6 11 25+((s.e&&&s.f)^^^(~~~s.e&&&s.g))+k+w+(FG s.a 2 13 22+((s.a&&&s.b)^^^(s.a&&&s.c)^^^(s.b&&&s.c))),s.a,s.b,s.c,
  s.d+(s.h+FG s.e 6 11 25+((s.e&&&s.f)^^^(~~~s.e&&&s.g))+k+w),s.e,s.f,s.g⟩
def wd(ws:List (BitVec 32))(t:Nat):BitVec 32:=ws.getD t 0
def DY(b:List UInt8)(t:Nat):BitVec 32:=FF (b.getD (4*t) 0)<<<24|||FF (b.getD (4*t+1) 0)<<<16|||FF (b.getD (4*t+2) 0)<<<8|||FF (b.getD (4*t+3) 0)
def cU(b:List UInt8):Nat->List (BitVec 32)
 |0=>[]
 |t+1=>cU b t++[if t<16 then DY b t else wd (cU b t) (t-16)+NK (wd (cU b t) (t-15))+wd (cU b t) (t-7)+NL (wd (cU b t) (t-2))]
theorem eP(b:List UInt8):∀t,(cU b t).length=t
 |0=>rfl
 |t+1=>by simp[cU,eP b t]
theorem JO(p q r s:UInt8):(((0<<<8|||FF p)<<<8|||FF q)<<<8|||FF r)<<<8|||FF s=FF p<<<24|||FF q<<<16|||FF r<<<8|||FF s:=by
 simp[BitVec.shiftLeft_or_distrib,<-BitVec.shiftLeft_add]
def nX(s:H8)(ks ws:List (BitVec 32)):Nat->H8
 |0=>s
 |t+1=>Md (nX s ks ws t) (ks.getD t 0) (wd ws t)
def H8.add(s r:H8):H8:=⟨s.a+r.a,s.b+r.b,s.c+r.c,s.d+r.d,s.e+r.e,s.f+r.f,s.g+r.g,s.h+r.h⟩
def comp(s:H8)(b:List UInt8):H8:=s.add (nX s KS (cU b 64) 64)
def qX(s:H8)(m:List UInt8):Nat->H8
 |0=>s
 |n+1=>comp (qX s m n) ((m.drop (64*n)).take 64)
theorem DZ(s:H8)(m x:List UInt8):∀n,64*n<=m.length->qX s (m++x) n=qX s m n
 |0,_=>rfl
 |n+1,h=>by
  rw[qX,qX,DZ s m x n (by omega),List.drop_append_of_le_length (by omega),List.take_append_of_le_length (by rw[List.length_drop];omega)]
structure fQ where
 (s:H8)(B:List UInt8)(n:Nat)
def fI(st:fQ)(x:List UInt8):Nat:=min x.length (64-st.n%64)
def rJ(st:fQ)(x:List UInt8):fQ:=
 ⟨if st.n%64+fI st x=64 then comp st.s (aQ (st.n%64) st.B (x.take (64-st.n%64)))else st.s,aQ (st.n%64) st.B (x.take (64-st.n%64)),st.n+fI st x⟩
def zQ:Nat->fQ->List UInt8->fQ
 |0,st,_=>st
 |f+1,st,x=>if x=[]then st else zQ f (rJ st x) (x.drop (fI st x))
def iv:H8:=⟨0x6a09e667,0xbb67ae85,0x3c6ef372,0xa54ff53a,0x510e527f,0x9b05688c,0x1f83d9ab,0x5be0cd19⟩
def sY(m:List UInt8)(st:fQ):Prop:=st.B.length=64/\st.n=m.length/\st.s=qX iv m (m.length / 64)/\st.B.take (m.length%64)=m.drop (64*(m.length / 64))
def qY:fQ:=⟨iv,List.replicate 64 0,0⟩
theorem FH:sY [] qY:=⟨rfl,rfl,rfl,rfl⟩
theorem sY.step{m:List UInt8}{st:fQ}(h:sY m st)(x:List UInt8):sY (m++x.take (fI st x)) (rJ st x):=by
 obtain⟨h1,h2,h3,h4⟩:=h;obtain⟨r,hr⟩:∃r,r=m.length%64:=⟨_,rfl⟩;obtain⟨q,hq⟩:∃q,q=m.length / 64:=⟨_,rfl⟩;have hrq:m.length=64*q+r:=by omega
 have hr64:r<64:=by omega
 rw[<-hr,<-hq]at h4;rw[<-hq]at h3;have e1:x.take (64-r)=x.take (fI st x):=by
  unfold fI;rw[h2,<-hr,List.take_eq_take_iff];omega
 have hk:fI st x=(x.take (fI st x)).length:=by rw[List.length_take];unfold fI;omega
 have hle:r+fI st x<=64:=by unfold fI;rw[h2,<-hr];omega
 unfold rJ;rw[h2,<-hr,e1];obtain⟨y,hy⟩:∃y,y=x.take (fI st x):=⟨_,rfl⟩;rw[<-hy]at hk|-;rw[hk]at hle|-;have hB:(aQ r st.B y).length=64:=by unfold aQ;simp;omega
 have hB64:(aQ r st.B y).take 64=aQ r st.B y:=List.take_of_length_le (by omega);have hBt:(aQ r st.B y).take (r+y.length)=(m++y).drop (64*q):=by
  unfold aQ;rw[List.drop_append_of_le_length (by omega),<-h4,List.take_append_of_le_length (by simp;omega),List.take_of_length_le (by simp;omega)]
 refine⟨hB,by simp,?_,?_⟩
 ·simp only[List.length_append];by_cases hf:r+y.length=64
  ·have e2:(m.length+y.length) / 64=q+1:=(by omega);rw[if_pos hf,e2,qX,DZ _ _ _ _ (by omega),h3,<-hBt,hf,hB64,hB64]
  ·have e2:(m.length+y.length) / 64=q:=(by omega);rw[if_neg hf,e2,DZ _ _ _ _ (by omega),h3]
 ·simp only[List.length_append];by_cases hf:r+y.length=64
  ·have e2:(m.length+y.length) / 64=q+1:=(by omega);have e3:(m.length+y.length)%64=0:=(by omega);rw[e2,e3,List.take_zero,List.drop_eq_nil_of_le (by rw[List.length_append];omega)]
  ·have e2:(m.length+y.length) / 64=q:=(by omega);have e3:(m.length+y.length)%64=r+y.length:=(by omega);rw[e2,e3,hBt]
theorem sZ{st:fQ}{x:List UInt8}(h:x≠[]):0<fI st x:=by
 unfold fI;have:=List.length_pos_iff.2 h;omega
theorem sY.adds:∀(f:Nat) {m:List UInt8} {st:fQ} (_:sY m st) (x:List UInt8),x.length<=f->sY (m++x) (zQ f st x)
 |0,m,st,h,x,hx=>by
  have:x=[]:=List.eq_nil_of_length_eq_zero (by omega);subst this;simpa [zQ]using h
 |f+1,m,st,h,x,hx=>by
  unfold zQ;split
  ·rename_i e;subst e;simpa using h
  ·rename_i e;have h2:=sY.adds f (h.step x) (x.drop (fI st x)) (by rw[List.length_drop];have:=sZ (st:=st) e;omega)
   rwa[List.append_assoc,List.take_append_drop]at h2
def JP(n:Nat):List UInt8:=(List.range 8).map λi=>UInt8.ofNat (n / 256^(7-i))
def nR(n:Nat):List UInt8:=128::List.replicate ((119-n%64)%64) 0++JP (8*n)
theorem Me(n:Nat):(n+(nR n).length)%64=0:=by simp[nR,JP];omega
def mD(s:H8):List UInt8:=[s.a,s.b,s.c,s.d,s.e,s.f,s.g,s.h].flatMap λ(x:BitVec 32)=>[UInt8.ofNat (x>>>24).toNat,UInt8.ofNat (x>>>16).toNat,UInt8.ofNat (x>>>8).toNat,UInt8.ofNat x.toNat]
def lD(m:List UInt8):List UInt8:=mD (qX iv (m++nR m.length) ((m++nR m.length).length / 64))
theorem sY.sum{m:List UInt8}{st:fQ}(h:sY m st)(f:Nat)(hf:(nR m.length).length<=f):mD (zQ f st (nR st.n)).s=lD m:=by
 obtain⟨_,h2,_,_⟩:=id h;have:=(h.adds f (nR m.length) hf).2.2.1;rw[h2,this,lD]
def cW:Nat->Nat->List Nat
 |0,_=>[]
 |f+1,m=>if m=0 then []else m%256::cW f (m / 256)
def Pc:List Nat->Nat
 |[]=>0
 |d::r=>d+256*Pc r
theorem BA:∀(f m:Nat),m<256^f->Pc (cW f m)=m
 |0,m,h=>by simp at h;subst h;rfl
 |f+1,m,h=>by
  unfold cW;split
  ·rename_i h0;subst h0;rfl
  ·rw[Pc,BA f (m / 256) (by rw[Nat.pow_succ]at h;omega)];omega
theorem tA:∀(f m:Nat),(cW f m).length<=f
 |0,_=>Nat.le_refl _
 |f+1,m=>by
  unfold cW;split
  ·simp
  ·have:=tA f (m / 256);simp only[List.length_cons];omega
theorem qZ:∀(f m:Nat),∀d∈cW f m,d<256
 |0,_,d,h=>by cases h
 |f+1,m,d,h=>by
  unfold cW at h;split at h
  ·cases h
  ·rcases List.mem_cons.1 h with rfl|h
   ·omega
   ·exact qZ f _ d h
def fS(n:Int):Nat:=(if n<0 then -1-n else n).toNat
def eK(n:Int):List Nat:=(if n<0 then 127-(cW 8 (fS n)).length else 128+(cW 8 (fS n)).length)::(cW 8 (fS n)).reverse.map λd=>if n<0 then 255-d else d
def vE(n:Int):Prop:= -9223372036854775808<=n/\n<=9223372036854775807
theorem tS{n:Int}(h:vE n):fS n<256^8:=by
 obtain⟨h1,h2⟩:=h;unfold fS;split<;>omega
theorem Mf{n n':Int}(hs:n<0↔n'<0)(h:fS n=fS n'):n=n':=by
 unfold fS at h;by_cases q:n<0
 ·rw[if_pos q,if_pos (hs.1 q)]at h;have:=hs.1 q;omega
 ·rw[if_neg q,if_neg λh=>q (hs.2 h)]at h;have:¬n'<0:=λh=>q (hs.2 h);omega
theorem Iq{f:Nat->Nat}(hf:∀x,x<256->∀y,y<256->f x=f y->x=y):∀{a b:List Nat},(∀x∈a,x<256)->(∀x∈b,x<256)->a.map f=b.map f->a=b
 |[],[],_,_,_=>rfl
 |[],_::_,_,_,h=>by simp at h
 |_::_,[],_,_,h=>by simp at h
 |x::a,y::b,ha,hb,h=>by
  simp only[List.map_cons,List.cons.injEq]at h;rw[hf x (ha x (List.mem_cons_self ..)) y (hb y (List.mem_cons_self ..)) h.1,Iq hf (λz hz=>ha z (List.mem_cons_of_mem _ hz)) (λz hz=>hb z (List.mem_cons_of_mem _ hz)) h.2]
theorem wQ{n n':Int}(h:vE n)(h':vE n'){a b:List Nat}(e:eK n++a=eK n'++b):n=n'/\a=b:=by
 have l1:=tA 8 (fS n);have l2:=tA 8 (fS n');have v1:=BA 8 _ (tS h);have v2:=BA 8 _ (tS h');have d1:=qZ 8 (fS n);have d2:=qZ 8 (fS n');unfold eK at e;generalize cW 8 (fS n)=D1 at*;generalize cW 8 (fS n')=D2 at*;simp only[List.cons_append,List.cons.injEq]at e;obtain⟨e1,e2⟩:=e;have hs:n<0↔n'<0:=by
  by_cases q:n<0<;>by_cases q':n'<0<;>simp only[q,q',if_true,if_false]at e1|-<;>omega
 have hl:D1.length=D2.length:=by
  by_cases q:n<0
  ·rw[if_pos q,if_pos (hs.1 q)]at e1;omega
  ·rw[if_neg q,if_neg λh=>q (hs.2 h)]at e1;omega
 have hd:=List.append_inj e2 (by simp[hl]);refine⟨Mf hs ?_,hd.2⟩;have hD:D1.reverse=D2.reverse:=by
  have hd1:=hd.1;by_cases q:n<0
  ·simp only[q,hs.1 q,if_true]at hd1;exact Iq (f:=λd=>255-d) (λx hx y hy h=>by omega) (λx hx=>d1 x (List.mem_reverse.1 hx)) (λx hx=>d2 x (List.mem_reverse.1 hx)) hd1
  ·have q':¬n'<0:=λh=>q (hs.2 h);simp only[q,q',if_false]at hd1;simpa using hd1
 rw[List.reverse_inj]at hD;rw[<-v1,<-v2,hD]
theorem BB{α:Type}{f:α->List Nat}{P:α->Prop}(hf:∀(x y:α),P x->P y->∀(a b:List Nat),f x++a=f y++b->x=y/\a=b):
 ∀{l l':List α},l.length=l'.length->(∀x∈l,P x)->(∀x∈l',P x)->∀{a b:List Nat},l.flatMap f++a=l'.flatMap f++b->l=l'/\a=b
 |[],[],_,_,_,_,_,e=>⟨rfl,by simpa using e⟩
 |[],_::_,h,_,_,_,_,_=>by simp at h
 |_::_,[],h,_,_,_,_,_=>by simp at h
 |x::l,y::l',h,h1,h2,a,b,e=>by
  simp only[List.flatMap_cons,List.append_assoc]at e;have q:=hf x y (h1 x (List.mem_cons_self ..)) (h2 y (List.mem_cons_self ..)) _ _ e;have q2:=BB hf (by simpa using h) (λz hz=>h1 z (List.mem_cons_of_mem _ hz)) (λz hz=>h2 z (List.mem_cons_of_mem _ hz)) q.2;exact⟨by rw[q.1,q2.1],q2.2⟩
def bN(l:List Int):List Nat:=eK l.length++l.flatMap eK
def Qa(l:List Int):Prop:=l.length<=9223372036854775807/\∀n∈l,vE n
theorem rK{n:Nat}(h:n<=9223372036854775807):vE (n:Int):=⟨by omega,by omega⟩
theorem CM{l l':List Int}(h:Qa l)(h':Qa l'){a b:List Nat}(e:bN l++a=bN l'++b):l=l'/\a=b:=by
 unfold bN at e;rw[List.append_assoc,List.append_assoc]at e;obtain⟨e1,e2⟩:=wQ (rK h.1) (rK h'.1) e;exact BB (λ_ _ hx hy _ _ e=>wQ hx hy e) (by omega) h.2 h'.2 e2
def aW(c:List Nm):List Int:=c.flatMap λn=>[n.who,n.seq]
theorem yC:∀{a b:List Nm},aW a=aW b->a=b
 |[],[],_=>rfl
 |[],_::_,h=>by simp[aW]at h
 |_::_,[],h=>by simp[aW]at h
 |x::a,y::b,h=>by
  simp only[aW,List.flatMap_cons,List.cons_append,List.nil_append,List.cons.injEq]at h;obtain⟨h1,h2,h3⟩:=h;rw[yC h3];cases x;cases y;simp only at h1 h2;rw[h1,h2]
def jC(s:List UInt8):List Nat:=eK s.length++s.map UInt8.toNat
def dN(l:List (List UInt8)):List Nat:=eK l.length++l.flatMap jC
def SR(l:List (List UInt8)):Prop:=l.length<=9223372036854775807/\∀s∈l,s.length<=9223372036854775807
theorem CN:∀{a b:List UInt8},a.map UInt8.toNat=b.map UInt8.toNat->a=b
 |[],[],_=>rfl
 |[],_::_,h=>by simp at h
 |_::_,[],h=>by simp at h
 |x::a,y::b,h=>by
  simp only[List.map_cons,List.cons.injEq]at h;rw[CN h.2,UInt8.toNat.inj h.1]
theorem Mg{s s':List UInt8}(h:s.length<=9223372036854775807)(h':s'.length<=9223372036854775807){a b:List Nat}(e:jC s++a=jC s'++b):s=s'/\a=b:=by
 unfold jC at e;rw[List.append_assoc,List.append_assoc]at e;obtain⟨e1,e2⟩:=wQ (rK h) (rK h') e;obtain⟨e3,e4⟩:=List.append_inj e2 (by simp;omega);exact⟨CN e3,e4⟩
theorem CO{l l':List (List UInt8)}(h:SR l)(h':SR l'){a b:List Nat}(e:dN l++a=dN l'++b):l=l'/\a=b:=by
 unfold dN at e;rw[List.append_assoc,List.append_assoc]at e;obtain⟨e1,e2⟩:=wQ (rK h.1) (rK h'.1) e;exact BB (P:=λs=>s.length<=9223372036854775807) (λ_ _ hx hy _ _ e=>Mg hx hy e) (by omega) h.2 h'.2 e2
def dJ(l:List Df):List (List UInt8):=l.flatMap λd=>[d.name,d.text]
theorem CP:∀{a b:List Df},dJ a=dJ b->a=b
 |[],[],_=>rfl
 |[],_::_,h=>by simp[dJ]at h
 |_::_,[],h=>by simp[dJ]at h
 |x::a,y::b,h=>by
  simp only[dJ,List.flatMap_cons,List.cons_append,List.nil_append,List.cons.injEq]at h;obtain⟨h1,h2,h3⟩:=h;rw[CP h3];cases x;cases y;simp only at h1 h2;rw[h1,h2]
theorem jQ:∀l:List Df,(dJ l).length=2*l.length
 |[]=>rfl
 |x::l=>by have:=jQ l;simp only[dJ,List.flatMap_cons,List.length_append,List.length_cons,List.length_nil]at*;omega
theorem fR:∀l:List Nm,(aW l).length=2*l.length
 |[]=>rfl
 |x::l=>by have:=fR l;simp only[aW,List.flatMap_cons,List.length_append,List.length_cons,List.length_nil]at*;omega
def eB(e:Ed):List Nat:=bN (aW [e.name])++(bN (aW e.needs)++(dN (dJ e.puts)++dN e.drops))
structure Qp(e:Ed):Prop where
 name:Qa (aW [e.name])
 needs:Qa (aW e.needs)
 puts:SR (dJ e.puts)
 drops:SR e.drops
theorem JQ{e e':Ed}(k:Qp e)(k':Qp e'):eB e=eB e'↔e=e':=by
 refine⟨λq=>?_,λq=>by rw[q]⟩;have q:eB e++[]=eB e'++[]:=by rw[q]
 unfold eB at q;simp only[List.append_assoc]at q;obtain⟨q1,q⟩:=CM k.name k'.name q;obtain⟨q2,q⟩:=CM k.needs k'.needs q;obtain⟨q3,q⟩:=CO k.puts k'.puts q;obtain⟨q4,_⟩:=CO k.drops k'.drops q;have q1:=yC q1;have q2:=yC q2;have q3:=CP q3;cases e;cases e';simp only[List.cons.injEq,and_true]at q1 q2 q3 q4;rw[q1,q2,q3,q4]
def dP(b:UInt8):DV:=.int .u8 (b.toNat:Int)
def Ea(s:H8):List DV:=[dF s.a,dF s.b,dF s.c,dF s.d,dF s.e,dF s.f,dF s.g,dF s.h]
def iM(st:fQ):List DV:=Ea st.s++(st.B.map dP++[.int .u64 (st.n:Int)])
def yD(s:H8):List LV:=(Ea s).map .d
def cM(st:fQ):List LV:=(iM st).map .d
def wL(ws:List (BitVec 32)):List LV:=ws.map λx=>.d (dF x)
def wD(ws:List (BitVec 32)):List DV:=ws.map dF
theorem Mh(ws:List (BitVec 32)):wL ws=(wD ws).map .d:=by simp[wL,wD]
theorem mA(ws:List (BitVec 32)):(wL ws).length=ws.length:=by simp[wL]
theorem dT:∀l:List DV,rT (l.map .d)=some l
 |[]=>rfl
 |x::l=>by simp[rT,dT l]
theorem Eb(s:H8):(Ea s).length=8:=rfl
theorem mT{st:fQ}(h:st.B.length=64):(iM st).length=73:=by simp[iM,Ea,h]
theorem fE{st:fQ}(h:st.B.length=64):(cM st).length=73:=by simp[cM,mT h]
theorem HH{st:fQ}(h:st.B.length=64):(cM st)[72]? =some (.d (.int .u64 (st.n:Int))):=by
 simp[cM,iM,Ea,h]
theorem Pd{st:fQ}(h:st.B.length=64){i:Nat}(hi:i<64):(cM st)[8+i]? =some (.d (dP (st.B.getD i 0))):=by
 have e:(cM st)[8+i]? =((st.B.map dP++[DV.int .u64 (st.n:Int)]).map LV.d)[i]? :=by
  unfold cM iM;rw[List.map_append,List.getElem?_append_right (by simp[Ea])];simp[Ea]
 rw[e,List.map_append,List.getElem?_append_left (by simp[h,hi])];simp[List.getElem?_eq_getElem (show i<st.B.length by omega)]
theorem Pe(st:fQ):(cM st).take 8=yD st.s:=by
 unfold cM iM yD;rw[List.map_append,List.take_left' (by simp[Ea])]
theorem wR{st:fQ}(h:st.B.length=64):(cM st).take 73=cM st:=List.take_of_length_le (by rw[fE h];exact Nat.le_refl _)
theorem pL{α:Type}{A B new:List α}{k n:Nat}(hk:A.length=k):aQ (k+n) (A++B) new=A++aQ n B new:=by
 unfold aQ;rw[List.take_append,List.drop_append,hk,Nat.add_sub_cancel_left,List.take_of_length_le (by omega),show k+n+new.length-k=n+new.length by omega,List.drop_eq_nil_of_le (by omega)];simp
theorem lW{α β:Type}(f:α->β)(n:Nat)(A B:List α):aQ n (A.map f) (B.map f)=(aQ n A B).map f:=by simp[aQ]
theorem CQ{α:Type}{A B new:List α}{n:Nat}(h:n+new.length<=A.length):aQ n (A++B) new=aQ n A new++B:=by
 unfold aQ;rw[List.take_append_of_le_length (by omega),List.drop_append_of_le_length (by omega)];simp
theorem yE{α:Type}{A new:List α}{n:Nat}(h:n+new.length<=A.length):(aQ n A new).length=A.length:=by
 simp[aQ];omega
theorem JR(y:List UInt8):pV y=(y.map dP).map .d:=by simp[pV,dP]
theorem JS{st:fQ}(h:st.B.length=64){k:Nat}{y:List UInt8}(hy:k+y.length<=64):aQ (8+k) (cM st) (pV y)=cM ⟨st.s,aQ k st.B y,st.n⟩:=by
 rw[JR];unfold cM iM;rw[lW,pL (Eb _),CQ (by simp[h];omega),lW]
theorem JT{st:fQ}(h:st.B.length=64)(n:Nat):aQ 72 (cM st) [.d (.int .u64 (n:Int))]=cM ⟨st.s,st.B,n⟩:=by
 rw[show [LV.d (.int .u64 (n:Int))]=[DV.int .u64 (n:Int)].map LV.d by rfl];unfold cM iM;rw[lW,show 72=8+64 by rfl,pL (Eb _),show 64=64+0 by rfl,pL (by simp[h])];simp[aQ]
theorem JU(st:fQ)(s:H8):aQ 0 (cM st) (yD s)=cM ⟨s,st.B,st.n⟩:=by
 unfold cM iM yD;rw[lW,CQ (by simp[Ea])];simp[aQ,Ea]
theorem iC(eqk:List TK)(tb:Bool)(x y:BitVec 32):bA eqk tb .add (.d (dF x)) (.d (dF y))=.plain (.d (dF (x+y))):=by
 simp[bA,dF,PJ, -BitVec.toNat_add]
theorem iD(eqk:List TK)(tb:Bool)(x y:BitVec 32):bA eqk tb .and (.d (dF x)) (.d (dF y))=.plain (.d (dF (x&&&y))):=congrArg (λz=>iO.plain (LV.d (.int .u32 z))) (PK x y)
theorem jZ(eqk:List TK)(tb:Bool)(x y:BitVec 32):bA eqk tb .or (.d (dF x)) (.d (dF y))=.plain (.d (dF (x|||y))):=congrArg (λz=>iO.plain (LV.d (.int .u32 z))) (Qo x y)
theorem iE(eqk:List TK)(tb:Bool)(x y:BitVec 32):bA eqk tb .xor (.d (dF x)) (.d (dF y))=.plain (.d (dF (x^^^y))):=congrArg (λz=>iO.plain (LV.d (.int .u32 z))) (PL x y)
theorem gH(eqk:List TK)(tb:Bool)(x:BitVec 32):bA eqk tb .xor (.d (dF x)) (.d (.int .u32 4294967295))=.plain (.d (dF (~~~x))):=congrArg (λz=>iO.plain (LV.d (.int .u32 z))) (Pa x)
theorem kA(x:BitVec 32):bW .xor (.d (dF x))=.plain (.d (dF (~~~x))):=congrArg (λz=>iO.plain (LV.d (.int .u32 z))) (PM x)
theorem JV(x:BitVec 32)(k:Nat):IntKind.u32.wrap ((x.toNat:Int)*2^min k 32)=((x<<<k).toNat:Int):=by
 rcases Nat.le_total k 32 with h|h
 ·rw[Nat.min_eq_left h,Of x k h]
 ·rw[Nat.min_eq_right h,Of x 32 (Nat.le_refl _),BitVec.shiftLeft_eq_zero h,BitVec.shiftLeft_eq_zero (Nat.le_refl _)]
theorem JW(x:BitVec 32)(k:Nat):(x.toNat:Int).fdiv (2^min k 32)=((x>>>k).toNat:Int):=by
 rcases Nat.le_total k 32 with h|h
 ·rw[Nat.min_eq_left h,Og x k]
 ·rw[Nat.min_eq_right h,Og x 32,BitVec.ushiftRight_eq_zero h,BitVec.ushiftRight_eq_zero (Nat.le_refl _)]
theorem iF(eqk:List TK)(tb:Bool)(x:BitVec 32)(k:IntKind)(n:Int):bA eqk tb .shl (.d (dF x)) (.d (.int k n))=.cond (.d (dF (x<<<n.toNat))) (0<=n):=congrArg (λz=>iO.cond (LV.d (.int .u32 z)) (0<=n)) (JV x n.toNat)
theorem iG(eqk:List TK)(tb:Bool)(x:BitVec 32)(k:IntKind)(n:Int):bA eqk tb .shr (.d (dF x)) (.d (.int k n))=.cond (.d (dF (x>>>n.toNat))) (0<=n):=congrArg (λz=>iO.cond (LV.d (.int .u32 z)) (0<=n)) (JW x n.toNat)
def PO(x:BitVec 32):UInt8:=UInt8.ofNat x.toNat
theorem mI(T:TypeId->eC)(H:Nat->aV){s t:TypeId}(h1:(T s).k=.int .u32)(h2:(T t).k=.int .u8)(x:BitVec 32):aZ T H s t (.d (dF x))=.plain (.d (dP (PO x))):=by
 simp only[aZ,h1,h2,dF,dP,PO,PN]
theorem kB(T:TypeId->eC)(H:Nat->aV){s t:TypeId}(h1:(T s).k=.int .u8)(h2:(T t).k=.int .u32)(b:UInt8):aZ T H s t (.d (dP b))=.plain (.d (dF (FF b))):=by
 simp only[aZ,h1,h2,dF,dP,Pb]
theorem kC(x:BitVec 32):cS (.d (dF x))=[.d (dF x)]:=rfl
theorem kD(x:BitVec 32):aK (dF x)=[dF x]:=rfl
theorem kE(x:UInt8):cS (.d (dP x))=[.d (dP x)]:=rfl
theorem iR(x:UInt8):aK (dP x)=[dP x]:=rfl
theorem nS(x:UInt8):iX (dP x)=x:=by simp[iX,dP]
theorem PP(l:List UInt8):(l.map dP).map iX=l:=by
 rw[List.map_map,show iX∘dP=id from funext nS,List.map_id]
theorem PQ:∀k:Nat,k<32->0<k->IntKind.u64.wrap (((IntKind.u64.wrap (-(k:Int))%2^IntKind.u64.bits).toNat&&&31%2^IntKind.u64.bits:Nat):Int)=((32-k:Nat):Int):=by decide
theorem lE{n:Nat}(h:n<18446744073709551616):IntKind.u64.wrap (n:Int)=(n:Int):=by
 unfold IntKind.wrap;simp[IntKind.bits,IntKind.signed];omega
theorem CR{n:Nat}(h:n<9223372036854775808):IntKind.i64.wrap (n:Int)=(n:Int):=by
 unfold IntKind.wrap;simp[IntKind.bits,IntKind.signed];omega
theorem Mi{st:fQ}(h:st.B.length=64)(x:List UInt8):(rJ st x).B.length=64:=by
 unfold rJ;rw[yE (by rw[List.length_take,h];have:=Nat.mod_lt st.n (show 0<64 by decide);omega),h]
theorem FI:∀(f g:Nat) (st:fQ) (x:List UInt8),x.length<=f->x.length<=g->zQ f st x=zQ g st x
 |0,0,_,_,_,_=>rfl
 |0,g+1,st,x,h,_=>by have:x=[]:=List.eq_nil_of_length_eq_zero (by omega);subst this;simp[zQ]
 |f+1,0,st,x,_,h=>by have:x=[]:=List.eq_nil_of_length_eq_zero (by omega);subst this;simp[zQ]
 |f+1,g+1,st,x,h1,h2=>by
  unfold zQ;split
  ·rfl
  ·rename_i e;have:=sZ (st:=st) e;exact FI f g _ _ (by rw[List.length_drop];omega) (by rw[List.length_drop];omega)
def tB(st:fQ)(x:List UInt8):fQ:=zQ x.length st x
theorem Mj(st:fQ):tB st []=st:=rfl
theorem CS{st:fQ}{x:List UInt8}(h:x≠[]):tB (rJ st x) (x.drop (fI st x))=tB st x:=by
 unfold tB;obtain⟨f,hf⟩:∃f,x.length=f+1:=⟨x.length-1,by have:=List.length_pos_iff.2 h;omega⟩;rw[hf,zQ,if_neg h];exact FI _ _ _ _ (Nat.le_refl _) (by rw[List.length_drop];have:=sZ (st:=st) h;omega)
theorem vF{m:List UInt8}{st:fQ}(h:sY m st)(x:List UInt8):sY (m++x) (tB st x):=h.adds _ x (Nat.le_refl _)
theorem sY.hash{m:List UInt8}{st:fQ}(h:sY m st):mD (tB st (nR st.n)).s=lD m:=by
 obtain⟨_,h2,_,_⟩:=id h;exact h.sum _ (by rw[h2];exact Nat.le_refl _)
def toS(l:List Nat):List UInt8:=l.map UInt8.ofNat
def uP(tag:Nat)(parts:List (List UInt8)):List UInt8:=UInt8.ofNat tag::parts.flatMap λp=>toS (jC p)
def zR(tag:Nat)(parts:List (List UInt8)):List UInt8:=(lD (uP tag parts)).take 16
def cN(l:List UInt8):List DV:=l.map dP
theorem pM(s:H8):(mD s).length=32:=by simp[mD]
theorem kF(m:List UInt8):(lD m).length=32:=pM _
theorem tT(tag:Nat)(parts:List (List UInt8)):(zR tag parts).length=16:=by simp[zR,kF]
section
attribute[local simp] bA bW aQ aZ
attribute[local simp] iO.cond
def bD(x:Nat):DV:=.int .u8 (x:Int)
theorem mJ{x:Int}(h0:0<=x)(h:x<256):IntKind.u8.wrap x=x:=by
 unfold IntKind.wrap;simp[IntKind.bits,IntKind.signed];omega
theorem CT(f:Nat):cW f 0=[]:=by cases f<;>simp[cW]
theorem CU{f m:Nat}(h:0<m):cW (f+1) m=m%256::cW f (m / 256):=by rw[cW,if_neg (by omega)]
def wS(hd:Nat)(L:List Nat)(j:Nat):List DV:=(hd::L.take j).map bD
theorem tU{hd:Nat}{L:List Nat}:wS hd L 0=[bD hd]:=rfl
theorem kG{hd:Nat}{L:List Nat}{j:Nat}(hj:j<=L.length):(wS hd L j).length=j+1:=by simp[wS];omega
theorem jR{hd:Nat}{L:List Nat}{j:Nat}(hj:j<=L.length):(wS hd L j).take (j+1)=wS hd L j:=List.take_of_length_le (by rw[kG hj];exact Nat.le_refl _)
theorem tV{hd:Nat}{L:List Nat}{j:Nat}(hj:j<L.length):wS hd L (j+1)=wS hd L j++[bD L[j]]:=by
 unfold wS;rw[<-List.take_append_getElem hj,List.map_cons,List.map_cons,List.map_append];rfl
theorem wT{hd:Nat}{L:List Nat}{j:Nat}(hj:L.length<=j):wS hd L j=(hd::L).map bD:=by rw[wS,List.take_of_length_le hj]
theorem NM(n:Int)(hn:0<=n)(h:vE n):Ok Tryz.prog 131 [aT n] ⟨.own 1 ((eK n).map bD),true⟩:=by
 refine bE Tryz.func131 rfl Tryz.ntmps131 Tryz.results131 λw0 X hp=>?_;have habs:(fS n:Int)=n:=by unfold fS;rw[if_neg (by omega)];omega
 have hlt:=tS h;have hE:eK n=(128+(cW 8 (fS n)).length)::(cW 8 (fS n)).reverse:=by unfold eK;rw[if_neg (by omega)];simp[show¬n<0 by omega]
 obtain⟨h1,h2⟩:=h;obtain⟨M,hM⟩:∃M,M=fS n:=⟨_,rfl⟩;rw[<-hM]at habs hlt hE;refine aA ?_;simp;refine aA ?_;simp;refine aB ?_;refine aA ?_;simp;refine aD ?_;simp[(show¬n<0 by omega)];refine aH ?_;simp;refine aA ?_;simp;refine aB ?_;refine aF ?_;refine aJ (ι:=List Nat×Nat) (λ⟨D,q⟩=>aU [(0,.d (aT n)),(3,.d (aT q)),(4,.ow 4 0 D.length)]) (λ⟨D,q⟩=>aL [(4,.row false 1 (D.map bD))]) (λ⟨D,q⟩=>cW 8 M=D++cW (8-D.length) q/\D.length<=8/\q<256^(8-D.length)/\q<=M) (λ⟨D,q⟩=>q) ([],M) (aC hp [0,3,4] [(4,4)] (by simp[habs])) (⟨rfl,by simp,by simpa using hlt,Nat.le_refl _⟩) λ⟨D,q⟩ hi5=>?_;refine aB ?_;refine aA ?_;simp;refine aD ?_;simp;refine⟨λh5=>?_,λh5=>?_⟩
 ·refine aH ?_;simp;refine aF ?_;refine aB ?_;obtain⟨i1,i2,i3,i4⟩:=hi5;have h5':0<q:=by omega
  have hl8:D.length<8:=by
   rcases Nat.lt_or_ge D.length 8 with h|h
   ·exact h
   ·rw[show 8-D.length=0 by omega]at i3;simp at i3;omega
  have hst:cW (8-D.length) q=q%256::cW (8-(D.length+1)) (q / 256):=by rw[show 8-D.length=(8-(D.length+1))+1 by omega,CU h5']
  have htm:(q:Int).tmod 256=((q%256:Nat):Int):=by rw[Int.tmod_eq_emod_of_nonneg (by omega)];omega
  have htd:(q:Int).tdiv 256=((q / 256:Nat):Int):=by rw[Int.tdiv_eq_ediv_of_nonneg (by omega)];omega
  have hw:IntKind.u8.wrap ((q%256:Nat):Int)=((q%256:Nat):Int):=mJ (by omega) (by omega);have hw3:IntKind.u8.wrap ((q:Int)%256)=(q:Int)%256:=mJ (by omega) (by omega);have htk:List.take D.length (D.map bD)=D.map bD:=List.take_of_length_le (by simp);refine aG ?_;simp[htm,hw,htk];refine⟨by omega,?_⟩;refine aG ?_;simp[htd];refine⟨by omega,?_⟩;refine aI (D++[q%256],q / 256) (aC hp [0,3,4] [(21,4)] (hH:=by simp[bD,hw3])) ?_ ?_
  ·show cW 8 M=(D++[q%256])++cW (8-(D++[q%256]).length) (q / 256)/\(D++[q%256]).length<=8/\q / 256<256^(8-(D++[q%256]).length)/\q / 256<=M;rw[List.length_append,List.length_singleton];refine⟨by rw[i1,hst];simp,by omega,?_,by omega⟩;rw[show 8-D.length=(8-(D.length+1))+1 by omega,Nat.pow_succ]at i3;omega
  ·show q / 256<q;omega
 ·refine aO ?_;simp;refine aB ?_;obtain⟨i1,i2,i3,i4⟩:=hi5;have hq:q=0:=by omega
  subst hq;rw[CT,List.append_nil]at i1;rw[i1]at hE;have hw2:IntKind.u8.wrap (128+(D.length:Int))=((128+D.length:Nat):Int):=by rw[mJ (by omega) (by omega)];omega
  refine aG ?_;simp;refine aA ?_;simp;refine aB ?_;refine aA ?_;simp;refine aD ?_;simp[hn];refine aG ?_;simp[hw2];refine⟨by omega,?_⟩;refine aB ?_;refine aA ?_;simp;refine⟨by omega,?_⟩;refine aF ?_;refine aJ (ι:=Nat) (λj=>aU [(0,.d (aT n)),(4,.ow 4 0 D.length),(6,.ow 6 0 (j+1)),(7,.d (aT ((D.length:Int)- 1-(j:Int))))]) (λj=>aL [(4,.row false 1 (D.map bD)),(6,.row false 1 (wS (128+D.length) D.reverse j))]) (λj=>j<=D.length) (λj=>D.length-j) 0 (aC hp [0,4,6,7] [(4,4),(33,6)] (hH:=by simp[bD,tU])) (Nat.zero_le _) λj hi14=>?_;refine aB ?_;refine aA ?_;simp;refine aD ?_;simp;refine⟨λh14=>?_,λh14=>?_⟩
  ·refine aH ?_;simp;refine aB ?_;refine aF ?_;refine aB ?_;have hj:j<D.length:=by omega
   have hix:((D.length:Int)- 1-(j:Int)).toNat=D.length-1-j:=(by omega);have hlr:D.reverse.length=D.length:=List.length_reverse;have hsc:=tV (hd:=128+D.length) (L:=D.reverse) (j:=j) (by omega);rw[List.getElem_reverse]at hsc;have htk2:=jR (hd:=128+D.length) (L:=D.reverse) (j:=j) (by omega);have hln2:=kG (hd:=128+D.length) (L:=D.reverse) (j:=j) (by omega);have hgd:D[D.length-1-j]? =some D[D.length-1-j]:=List.getElem?_eq_getElem (by omega);refine aG ?_;simp[hix,hgd,bD];refine⟨by omega,?_⟩;refine aB ?_;refine aA ?_;simp;refine aD ?_;simp[(show¬n<0 by omega)];refine aH ?_;simp;refine aG ?_;simp[htk2,hln2];refine⟨by omega,?_⟩;refine aG ?_;simp;refine⟨by omega,?_⟩;refine aI (j+1) (aC hp [0,4,6,7] [(4,4),(57,6)] (by simp[show((D.length:Int)- 1-(j:Int)- 1)=(D.length:Int)- 1-((j:Int)+1)by omega]) (by simp[hsc,bD])) ?_ ?_
   ·omega
   ·omega
  ·refine aO ?_;simp;refine aA ?_;simp;refine aN ?_;have hj:j=D.length:=by omega
   subst hj;have hlr:D.reverse.length=D.length:=List.length_reverse;have hln2:=kG (hd:=128+D.length) (L:=D.reverse) (j:=D.length) (by omega);rw[hE,<-wT (hd:=128+D.length) (L:=D.reverse) (j:=D.length) (by omega)];have htk2:=jR (hd:=128+D.length) (L:=D.reverse) (j:=D.length) (by omega);simp[hln2,htk2];intro x hx c hc;obtain⟨y,_,rfl⟩:=List.mem_map.1 hx;simp[bD,aK]at hc;subst hc;rfl
end
section
attribute[local simp] bA bW aQ aZ
attribute[local simp] iO.cond
theorem NN(n:Int)(hn:n<0)(h:vE n):Ok Tryz.prog 131 [aT n] ⟨.own 1 ((eK n).map bD),true⟩:=by
 refine bE Tryz.func131 rfl Tryz.ntmps131 Tryz.results131 λw0 X hp=>?_;have habs:(fS n:Int)= -1-n:=by unfold fS;rw[if_pos hn];omega
 have hlt:=tS h;have hE:eK n=(127-(cW 8 (fS n)).length)::((cW 8 (fS n)).map (λd=>255-d)).reverse:=by unfold eK;rw[if_pos hn];simp[hn]
 have hdl:=qZ 8 (fS n);obtain⟨h1,h2⟩:=h;obtain⟨M,hM⟩:∃M,M=fS n:=⟨_,rfl⟩;rw[<-hM]at habs hlt hE hdl;refine aA ?_;simp;refine aA ?_;simp;refine aB ?_;refine aA ?_;simp;refine aD ?_;simp[hn];refine aG ?_;simp;refine⟨by omega,?_⟩;refine aA ?_;simp;refine aB ?_;refine aF ?_;refine aJ (ι:=List Nat×Nat) (λ⟨D,q⟩=>aU [(0,.d (aT n)),(3,.d (aT q)),(4,.ow 4 0 D.length)]) (λ⟨D,q⟩=>aL [(4,.row false 1 (D.map bD))]) (λ⟨D,q⟩=>cW 8 M=D++cW (8-D.length) q/\D.length<=8/\q<256^(8-D.length)/\q<=M) (λ⟨D,q⟩=>q) ([],M) (aC hp [0,3,4] [(4,4)] (by simp[habs])) (⟨rfl,by simp,by simpa using hlt,Nat.le_refl _⟩) λ⟨D,q⟩ hi5=>?_;refine aB ?_;refine aA ?_;simp;refine aD ?_;simp;refine⟨λh5=>?_,λh5=>?_⟩
 ·refine aH ?_;simp;refine aF ?_;refine aB ?_;obtain⟨i1,i2,i3,i4⟩:=hi5;have h5':0<q:=by omega
  have hl8:D.length<8:=by
   rcases Nat.lt_or_ge D.length 8 with h|h
   ·exact h
   ·rw[show 8-D.length=0 by omega]at i3;simp at i3;omega
  have hst:cW (8-D.length) q=q%256::cW (8-(D.length+1)) (q / 256):=by rw[show 8-D.length=(8-(D.length+1))+1 by omega,CU h5']
  have htm:(q:Int).tmod 256=((q%256:Nat):Int):=by rw[Int.tmod_eq_emod_of_nonneg (by omega)];omega
  have htd:(q:Int).tdiv 256=((q / 256:Nat):Int):=by rw[Int.tdiv_eq_ediv_of_nonneg (by omega)];omega
  have hw:IntKind.u8.wrap ((q%256:Nat):Int)=((q%256:Nat):Int):=mJ (by omega) (by omega);have hw3:IntKind.u8.wrap ((q:Int)%256)=(q:Int)%256:=mJ (by omega) (by omega);have htk:List.take D.length (D.map bD)=D.map bD:=List.take_of_length_le (by simp);refine aG ?_;simp[htm,hw,htk];refine⟨by omega,?_⟩;refine aG ?_;simp[htd];refine⟨by omega,?_⟩;refine aI (D++[q%256],q / 256) (aC hp [0,3,4] [(21,4)] (hH:=by simp[bD,hw3])) ?_ ?_
  ·show cW 8 M=(D++[q%256])++cW (8-(D++[q%256]).length) (q / 256)/\(D++[q%256]).length<=8/\q / 256<256^(8-(D++[q%256]).length)/\q / 256<=M;rw[List.length_append,List.length_singleton];refine⟨by rw[i1,hst];simp,by omega,?_,by omega⟩;rw[show 8-D.length=(8-(D.length+1))+1 by omega,Nat.pow_succ]at i3;omega
  ·show q / 256<q;omega
 ·refine aO ?_;simp;refine aB ?_;obtain⟨i1,i2,i3,i4⟩:=hi5;have hq:q=0:=by omega
  subst hq;rw[CT,List.append_nil]at i1;rw[i1]at hE hdl;have hw2:IntKind.u8.wrap (127-(D.length:Int))=((127-D.length:Nat):Int):=by rw[mJ (by omega) (by omega)];omega
  refine aG ?_;simp;refine aA ?_;simp;refine aB ?_;refine aA ?_;simp;refine aD ?_;simp[(show¬0<=n by omega)];refine aG ?_;simp[hw2];refine⟨by omega,?_⟩;refine aB ?_;refine aA ?_;simp;refine⟨by omega,?_⟩;refine aF ?_;refine aJ (ι:=Nat) (λj=>aU [(0,.d (aT n)),(4,.ow 4 0 D.length),(6,.ow 6 0 (j+1)),(7,.d (aT ((D.length:Int)- 1-(j:Int))))]) (λj=>aL [(4,.row false 1 (D.map bD)),(6,.row false 1 (wS (127-D.length) ((D.map (λd=>255-d)).reverse) j))]) (λj=>j<=D.length) (λj=>D.length-j) 0 (aC hp [0,4,6,7] [(4,4),(39,6)] (hH:=by simp[bD,tU])) (Nat.zero_le _) λj hi14=>?_;refine aB ?_;refine aA ?_;simp;refine aD ?_;simp;refine⟨λh14=>?_,λh14=>?_⟩
  ·refine aH ?_;simp;refine aB ?_;refine aF ?_;refine aB ?_;have hj:j<D.length:=by omega
   have hix:((D.length:Int)- 1-(j:Int)).toNat=D.length-1-j:=(by omega);have hlr:((D.map (λd=>255-d)).reverse).length=D.length:=(by simp);have hsc:=tV (hd:=127-D.length) (L:=(D.map (λd=>255-d)).reverse) (j:=j) (by omega);rw[List.getElem_reverse,List.getElem_map]at hsc;simp only[List.length_map]at hsc;have hdq:=hdl _ (List.getElem_mem (show D.length-1-j<D.length by omega));have hw5:IntKind.u8.wrap (255-((D[D.length-1-j]:Nat):Int))=((255-D[D.length-1-j]:Nat):Int):=by rw[mJ (by omega) (by omega)];omega
   have htk2:=jR (hd:=127-D.length) (L:=(D.map (λd=>255-d)).reverse) (j:=j) (by omega);have hln2:=kG (hd:=127-D.length) (L:=(D.map (λd=>255-d)).reverse) (j:=j) (by omega);have hgd:D[D.length-1-j]? =some D[D.length-1-j]:=List.getElem?_eq_getElem (by omega);refine aG ?_;simp[hix,hgd,bD];refine⟨by omega,?_⟩;refine aB ?_;refine aA ?_;simp;refine aD ?_;simp[hn];refine aG ?_;simp[hw5];refine aG ?_;simp[htk2,hln2];refine⟨by omega,?_⟩;refine aG ?_;simp;refine⟨by omega,?_⟩;refine aI (j+1) (aC hp [0,4,6,7] [(4,4),(57,6)] (by simp[show((D.length:Int)- 1-(j:Int)- 1)=(D.length:Int)- 1-((j:Int)+1)by omega]) (by simp[hsc,bD])) ?_ ?_
   ·omega
   ·omega
  ·refine aO ?_;simp;refine aA ?_;simp;refine aN ?_;have hj:j=D.length:=by omega
   subst hj;have hlr:((D.map (λd=>255-d)).reverse).length=D.length:=by simp
   have hln2:=kG (hd:=127-D.length) (L:=(D.map (λd=>255-d)).reverse) (j:=D.length) (by omega);rw[hE,<-wT (hd:=127-D.length) (L:=(D.map (λd=>255-d)).reverse) (j:=D.length) (by omega)];have htk2:=jR (hd:=127-D.length) (L:=(D.map (λd=>255-d)).reverse) (j:=D.length) (by omega);simp[hln2,htk2];intro x hx c hc;obtain⟨y,_,rfl⟩:=List.mem_map.1 hx;simp[bD,aK]at hc;subst hc;rfl
theorem wU(n:Int)(h:vE n):Ok Tryz.prog 131 [aT n] ⟨.own 1 ((eK n).map bD),true⟩:=by
 rcases Int.lt_or_le n 0 with q|q
 ·exact NN n q h
 ·exact NM n q h
theorem fF(n:Int):(eK n).length<=9:=by
 have:=tA 8 (fS n);unfold eK;simp;omega
end
end Go.Eng
