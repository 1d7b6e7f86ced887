/- Part 9 of the proof. No condition. -/
import Derived.Test.YtepoffhhiddlkaaGreatDoorMH
import Derived.Test.YtepoffhhiddlkaaGreatDoorRows
import Derived.ChangeSame
import Derived.Lib.LaidTab
open Go.Proofs
set_option linter.unusedVariables false
set_option linter.unusedSimpArgs false
set_option maxRecDepth 20000
set_option maxHeartbeats 4000000
namespace Go.Eng
section
attribute[local simp] bA bW aQ aZ
theorem rL(m:Int):∀k,∀s∈dY m k,s.length<=1000
 |0,s,h=>by simp[dY]at h
 |k+1,s,h=>by
  simp only[dY,List.mem_append]at h;rcases h with h|h
  ·exact rL m k s h
  ·split at h
   ·rw[List.mem_singleton.1 h];have:=yB k;omega
   ·cases h
theorem uQ(b:Int)(ear:List Nm):∀k,∀n∈dX b ear k,n∈ear
 |0,n,h=>by simp[dX]at h
 |k+1,n,h=>by
  simp only[dX,List.mem_append]at h;rcases h with h|h
  ·exact uQ b ear k n h
  ·split at h
   ·split at h
    ·rename_i q;rw[List.mem_singleton.1 h];exact List.mem_of_getElem? q
    ·cases h
   ·cases h
theorem FW(l:List Int)(out:List Ed){i:Nat}(hi:i<7):Gc (Bx l out i).name:=by
 have h1:∀n:Int, -3<n.tmod 3/\n.tmod 3<3:=λn=>by
  rcases Int.le_total 0 n with h|h
  ·rw[Int.tmod_eq_emod_of_nonneg h];omega
  ·rw[show n= -(-n)by omega,Int.neg_tmod,Int.tmod_eq_emod_of_nonneg (by omega)];omega
 have h2:∀n:Int, -8<n.tmod 8/\n.tmod 8<8:=λn=>by
  rcases Int.le_total 0 n with h|h
  ·rw[Int.tmod_eq_emod_of_nonneg h];omega
  ·rw[show n= -(-n)by omega,Int.neg_tmod,Int.tmod_eq_emod_of_nonneg (by omega)];omega
 have a:=h1 (Cz l (1+3*i) 4096);have b:=h2 ((Cz l (1+3*i) 4096).tdiv 3);refine⟨?_,?_⟩<;>simp only[Bx]<;>omega
theorem FX(l:List Int):∀e∈cR l,Kn e:=λe he=>by
 have hc:(Cz l 0 7).toNat<=6:=by have:=(jO l 0 7 (by decide)).2;omega
 obtain⟨i,hi,rfl⟩:=qU he;refine⟨FW l _ (by omega),λn hn=>?_,λd hd=>?_,rL _ _⟩
 ·have h1:=((dC _).2 n).1 (uQ _ _ _ n hn);obtain⟨e,he,rfl⟩:=List.mem_map.1 h1;obtain⟨j,hj,rfl⟩:=qU he;exact FW l _ (by omega)
 ·obtain⟨q,v,rfl⟩:=CK _ _ hd;exact Fy q v
theorem MU{l:List Int}{L1 L2:List Ed}{b:Int}(h1:Ad (cR l) L1)(h2:Ad L1 L2){x:List Ed}(hx:x∈FU (cR l) L1 L2 (dG (cR l) b)):(∀e∈x,Kn e)/\x.length<=140:=by
 have q:=DW h1 h2;have r0:=FX l;have r1:=h1.rng r0;have hl:=jP l;simp only[FU,List.mem_cons,List.not_mem_nil,or_false]at hx;rcases hx with rfl|rfl|rfl|rfl|rfl
 ·exact⟨r0,by omega⟩
 ·exact⟨r1,by have:=q.len1;omega⟩
 ·exact⟨h2.rng r1,q.len2⟩
 ·exact⟨λe he=>r0 e (vC.1 he),by rw[vB];omega⟩
 ·exact⟨(λe he=>by cases he),by simp⟩
theorem Iu{b:Int}:Gc (FB b):=by
 have h1:=cG b 5 (by decide);have h2:=cG (b.tdiv 5) 50 (by decide);exact⟨by simp only[FB];omega,by simp only[FB];omega⟩
theorem MV{l:List Ed}{bits b:Int}(hr:∀e∈l,Kn e):∀x∈sX l bits b,∀n∈x,Gc n:=λx hx n hn=>by
 have h1:∀n∈l.map Ed.name,Gc n:=λn hn=>by obtain⟨e,he,rfl⟩:=List.mem_map.1 hn;exact(hr e he).name
 have h2:∀n∈nH l bits,Gc n:=λn hn=>h1 n (JK hn);simp only[sX,List.mem_cons,List.not_mem_nil,or_false]at hx;rcases hx with rfl|rfl|rfl|rfl|rfl|rfl
 ·exact h2 n hn
 ·exact h1 n hn
 ·exact nP h2 Iu n hn
 ·exact(List.mem_append.1 hn).elim (h2 n) (h2 n)
 ·cases hn
 ·rw[List.mem_singleton.1 hn];exact Iu
theorem NW{l:List Int}{L1 L2:List Ed}(h1:Ad (cR l) L1)(h2:Ad L1 L2):∀e∈cR l++L1.take 8,Oi e:=λe he=>by
 have q:=DW h1 h2;have r0:=FX l;have r1:=h1.rng r0;have w:∀(x:List Ed),(∀e∈x,Kn e)->(bC x).length<=1000->(∀e∈x,e.puts.length<=400/\e.drops.length<=400)->∀e∈x,Oi e:=λx a b c e he=>by
  obtain⟨k,hk,rfl⟩:=List.getElem_of_mem he;have:=sV hk;exact⟨a _ he,by omega,(c _ he).1,(c _ he).2⟩
 rcases List.mem_append.1 he with he|he
 ·exact w _ r0 (by have:=qV l;omega) (λe he=>by have:=nQ he;omega) e he
 ·exact w _ r1 (by have:=q.need1;omega) (λe he=>by have:=q.part1 e he;omega) e (List.mem_of_mem_take he)
theorem FY:∀l:List UInt8,eX (cN l) (cN l)=some true
 |[]=>rfl
 |x::l=>by
  have h:=FY l;simp only[cN,List.map_cons,dP,eX,Ga,if_true]at*;rw[h];simp
theorem Dc:∀l:List UInt8,bH (List.replicate l.length (.int .u8)) (cN l)=true
 |[]=>rfl
 |x::l=>by
  have h:=Dc l;simp only[List.length_cons,List.replicate_succ,cN,List.map_cons,bH]at*;rw[h];rfl
theorem Kj{e:Ed}(h:Oi e):(eB e).length<=3000000:=by
 have hw1:=h.needs;have hw2:=h.puts;have hw3:=h.drops;have n1:=fR [e.name];have n2:=fR e.needs;have n3:[e.name].length=1:=rfl;have b1:=iJ (l:=aW [e.name]);have b2:=iJ (l:=aW e.needs);have b3:=mW h.pt;have b4:=mW h.rng.drops;have b5:(dJ e.puts).length*(2000+9)<=800*2009:=Nat.mul_le_mul (by rw[jQ];omega) (Nat.le_refl _);have b6:e.drops.length*(1000+9)<=400*1009:=Nat.mul_le_mul hw3 (Nat.le_refl _);simp[eB];omega
set_option maxRecDepth 10000
set_option maxHeartbeats 1000000
theorem NX(l:List Int)(how b bits:Int)(hr:∀n∈l, -9223372036854775808<=n/\n<=9223372036854775807)(q1: -9223372036854775808<=how/\how<=9223372036854775807)(q2: -9223372036854775808<=b/\b<=9223372036854775807)(q3: -9223372036854775808<=bits/\bits<=9223372036854775807):Ok Tryz.prog 3 [.sl (l.map aT),aT how,aT b,aT bits] ⟨.d (.bool true),true⟩:=by
 refine bE Tryz.func3 rfl Tryz.ntmps3 Tryz.results3 λw0 X hp=>?_;refine aA ?_;simp;refine aB ?_;refine qK hT hW 24 (λr=>(∃L1 L2:List Ed,Ad (cR l) L1/\Ad L1 L2/\r.v=.d (.sl [bT (cR l),bT L1,bT L2,bT (dG (cR l) b),.sl []]))/\r.fresh=false) false ⟨.d (.sl [bT (cR l),bT (cR l),bT (cR l),bT (dG (cR l) b),.sl []]),false⟩ ⟨⟨⟨cR l,cR l,Ad.refl _,Ad.refl _,rfl⟩,rfl⟩,rfl⟩ (λ|99=>none|_=>none) (by intro d;first|exact⟨rfl,λ_ h=>h⟩|(split<;>exact⟨rfl,λ_ h=>h⟩)) (by kernel_rfl) λr1 hr1=>?_;obtain⟨v1,f1⟩:=r1;obtain⟨⟨L1,L2,hL1,hL2,hv⟩,hf⟩:=hr1;dsimp only at hv hf;obtain⟨A,hA⟩:∃A,A=FU (cR l) L1 L2 (dG (cR l) b):=⟨_,rfl⟩;have hok:∀x∈A,iL x/\(bC x).length<=1000:=λx hx=>⟨(It hL1 hL2 (hA▸hx)).1,(It hL1 hL2 (hA▸hx)).2.1⟩;have hrg:∀x∈A,(∀e∈x,Kn e)/\x.length<=140:=λx hx=>MU hL1 hL2 (hA▸hx);have hsm:=NW hL1 hL2;have hAl:A.length=5:=by rw[hA];rfl
 have hAd:[bT (cR l),bT L1,bT L2,bT (dG (cR l) b),.sl []]=A.map bT:=by rw[hA];rfl
 have hA0:∀h:0<A.length,A[0]'h=cR l:=λ_=>by subst hA;rfl
 have hA1:∀h:1<A.length,A[1]'h=L1:=λ_=>by subst hA;rfl
 have hm6:=jP l;have hlo:=LS l how b hr q2.1 q2.2 q1.1 q1.2;rw[hAd]at hv;subst hv;subst hf;simp;refine⟨by simpa using hlo,?_⟩;clear hA;refine aB ?_;refine aA ?_;simp;refine aF ?_;refine aJ (ι:=Nat) (λi=>aU [(2,.d (aT b)),(3,.d (aT bits)),(9,.d (.sl (A.map bT))),(10,.d (aT i))]) (λi=>aL []) (λi=>i<=A.length) (λi=>A.length-i) 0 (aC hp [2,3,9,10] []) (by simp) λi hi3=>?_;refine aB ?_;refine aA ?_;simp;refine aD ?_;simp;refine⟨λh3=>?_,λh3=>?_⟩
 ·refine aH ?_;simp;refine aB ?_;refine aF ?_;refine aB ?_;have hi5:i<A.length:=by omega
  have hAi:=hok _ (List.getElem_mem hi5);have hRi:=hrg _ (List.getElem_mem hi5);have hc1:=zG A[i] hAi.1;have hc2:=FC A[i] hAi.1 (by omega) (by omega);have hCl:(gI A[i]).length<=20000:=by
   unfold gI;split
   ·simp
   ·have h1:=Bo (gS A[i]) (aY (A[i].map Ed.name)) (aY (A[i].map Ed.name)).length;have h2:=fP (A[i].map Ed.name);rw[List.length_map]at h2;have h3:(aY (A[i].map Ed.name)).length*(aY (A[i].map Ed.name)).length<=140*140:=Nat.mul_le_mul (by omega) (by omega);omega
  obtain⟨C,hC⟩:∃C,C=gI A[i]:=⟨_,rfl⟩;rw[<-hC]at hc1 hc2 hCl;refine eG.ro hT hW (λ|35=>some<| .plain ⟨.d (.sl (C.map Ej)),true⟩|_=>none) ?_;simp[hi5];refine⟨by simpa using hc1,?_⟩;refine aS hT hW (λ|40=>some<| .plain ⟨.d (.sl (C.map Ej)),true⟩|_=>none) ?_;simp[hi5];refine⟨by simpa using hc2,?_⟩;refine aB ?_;refine aA ?_;simp;refine aD ?_;simp;refine aH ?_;simp;refine aB ?_;refine aA ?_;simp;refine aF ?_;refine aJ (ι:=Nat) (λk=>aU [(2,.d (aT b)),(3,.d (aT bits)),(9,.d (.sl (A.map bT))),(10,.d (aT i)),(11,.d (.sl (C.map Ej))),(12,.d (.sl (C.map Ej))),(13,.d (aT k))]) (λk=>aL []) (λk=>k<=C.length) (λk=>C.length-k) 0 (aC hp [2,3,9,10,11,12,13] []) (by simp) λk hi10=>?_;refine aB ?_;refine aA ?_;simp;refine aD ?_;simp;refine⟨λh10=>?_,λh10=>?_⟩
  ·refine aH ?_;simp;refine aB ?_;refine aF ?_;refine aB ?_;have hk:k<C.length:=by omega
   refine bI [] [] (λ_=>none) ?_;simp[hk,Ej];refine aD ?_;simp;refine aH ?_;simp;refine aG ?_;simp;refine⟨by omega,?_⟩;refine aI (k+1) (aC hp [2,3,9,10,11,12,13] []) ?_ ?_
   ·omega
   ·omega
  ·refine aO ?_;simp;refine aB ?_;obtain⟨S,hS⟩:∃S,S=sX A[i] bits b:=⟨_,rfl⟩;have hS6:S.length=6:=by rw[hS];rfl
   have hSl:∀x∈S,x.length<=400:=λx hx=>by have:=HB (hS▸hx);omega
   have hSr:∀x∈S,∀n∈x,Gc n:=λx hx=>MV hRi.1 x (hS▸hx);have hSn:=LT A[i] bits b (by omega) q2.1 q2.2 q3.1 q3.2;rw[<-hS]at hSn;clear hS;refine eG.ro hT hW (λ|67=>some<| .plain ⟨.d (.sl (S.map bY)),false⟩|_=>none) ?_;simp[hi5];refine⟨by simpa using hSn,?_⟩;refine aA ?_;simp;refine aF ?_;refine aJ (ι:=Nat) (λm=>aU [(2,.d (aT b)),(3,.d (aT bits)),(9,.d (.sl (A.map bT))),(10,.d (aT i)),(14,.d (.sl (S.map bY))),(15,.d (aT m))]) (λm=>aL []) (λm=>m<=S.length) (λm=>S.length-m) 0 (aC hp [2,3,9,10,14,15] []) (by simp) λm hi16=>?_;refine aB ?_;refine aA ?_;simp;refine aD ?_;simp;refine⟨λh16=>?_,λh16=>?_⟩
   ·refine aH ?_;simp;refine aB ?_;refine aF ?_;refine aB ?_;have hm:m<S.length:=by omega
    have hml:=hSl _ (List.getElem_mem hm);have hmr:=hSr _ (List.getElem_mem hm);have d1:=HO S[m] (by omega) hmr;have d2:=HP S[m] (by omega) hmr;have hsl:=fP S[m];have hsr:∀n∈aY S[m],Gc n:=λn hn=>hmr n (((dC S[m]).2 n).1 hn);have n1:=fR (aY S[m]);have f1:=Ai (aY S[m]) (by omega);have w1:=xB (aW (aY S[m])) (by omega) (mV hsr);have b1:=iJ (l:=aW (aY S[m]));have hO:=Oh 9 [toS (bN (aW (aY S[m])))] (by simp) (λs hs=>by rw[List.mem_singleton.1 hs,tW];omega);have hmb:=Ef (bN (aW (aY S[m])));have t0:List.take (aY S[m]).length ((aY S[m]).map Nm.d)=(aY S[m]).map Nm.d:=List.take_of_length_le (by simp);have t1:List.take (aW (aY S[m])).length ((aW (aY S[m])).map aT)=(aW (aY S[m])).map aT:=List.take_of_length_le (by simp);have t2:List.take (bN (aW (aY S[m]))).length ((bN (aW (aY S[m]))).map bD)=(bN (aW (aY S[m]))).map bD:=List.take_of_length_le (by simp);have es:=sR S[m] (by omega);obtain⟨D,hD⟩:∃D,D=cN (zR 9 [toS (bN (aW (aY S[m])))]):=⟨_,rfl⟩;rw[<-hD]at hO d1 d2;have hD16:D.length=16:=by rw[hD];simp[cN,tT]
    have hDe:eX D D=some true:=(by rw[hD];exact FY _);have hDk:bH (List.replicate 16 (.int .u8)) D=true:=(by rw[hD,<-tT 9 [toS (bN (aW (aY S[m])))]];exact Dc _);have hDn:D≠[]:=λh=>by rw[h]at hD16;cases hD16
    have had:=dT D;have htd:List.take 16 (D.map LV.d)=D.map LV.d:=List.take_of_length_le (by simp[hD16]);have hp16:List.drop 16 [LV.d (.int .u8 0),.d (.int .u8 0),.d (.int .u8 0),.d (.int .u8 0),.d (.int .u8 0),.d (.int .u8 0),.d (.int .u8 0),.d (.int .u8 0),.d (.int .u8 0),.d (.int .u8 0),.d (.int .u8 0),.d (.int .u8 0),.d (.int .u8 0),.d (.int .u8 0),.d (.int .u8 0),.d (.int .u8 0)]=[]:=rfl;refine eG.ro hT hW (λ|78=>some<| .plain ⟨.d (.agg D),true⟩|_=>none) ?_;simp[hm,hD16];refine⟨by simpa using d1,?_⟩;refine aB ?_;refine bI [[84],[],[],[],[],[],[],[],[92,93,94,96,97]] [[],[],[],[],[],[84],[],[],[],[],[],[],[],[92],[93],[94],[],[96],[97]] (λ|84=>some<| .plain ⟨.d (.agg D),true⟩|92=>some<| .plain ⟨.d (bY (aY S[m])),true⟩|93=>some<| .plain ⟨.d (.sl ((aW (aY S[m])).map aT)),true⟩|94=>some<| .plain ⟨.d (.sl ((bN (aW (aY S[m]))).map bD)),true⟩|97=>some<| .plain ⟨.d (.agg D),true⟩|_=>none) ?_;simp[hm,hD16,htd,had,hDe,hDk,hDn,t0,t1,t2,hmb];refine⟨⟨⟨⟨⟨⟨⟨⟨by simpa using d2,by simpa using hDk⟩,by simpa using es.own_d⟩,by simpa using f1.own_d⟩,by simpa using w1.own_d⟩,λ_ _=>⟨_,rfl⟩⟩,by simpa using hO⟩,by simpa using hDk⟩,?_⟩;refine aD ?_;simp;refine aH ?_;simp;refine aG ?_;simp;refine⟨by omega,?_⟩;refine aI (m+1) (aC hp [2,3,9,10,14,15] []) ?_ ?_
    ·omega
    ·omega
   ·refine aO ?_;simp;refine aG ?_;simp;refine⟨by omega,?_⟩;refine aI (i+1) (aC hp [2,3,9,10] []) ?_ ?_
    ·omega
    ·omega
 ·refine aO ?_;simp;refine aB ?_;have h0:0<A.length:=by omega
  have h1:1<A.length:=by omega
  have hz0:=hA0 h0;have hz1:=hA1 h1;obtain⟨M,hM⟩:∃M,M=cR l++L1.take 8:=⟨_,rfl⟩;rw[<-hM]at hsm;have hMl:M.length<=14:=by rw[hM,List.length_append,List.length_take];omega
  obtain⟨k8,hk8⟩:∃k,k=min L1.length 8:=⟨_,rfl⟩;have h8:(if(8:Int)<(L1.length:Int)then(8:Int)else(L1.length:Int))=(k8:Int):=by split<;>omega
  have ht8:List.take k8 (List.map Ed.d L1)=(L1.take 8).map Ed.d:=by rw[List.map_take,List.take_eq_take_iff,List.length_map];omega
  have hl8:min k8 L1.length=(L1.take 8).length:=by rw[List.length_take];omega
  have hMd:(cR l).map Ed.d++List.take 8 (L1.map Ed.d)=M.map Ed.d:=by rw[hM,List.map_append,List.map_take]
  have hMn:(cR l).length+min 8 L1.length=M.length:=by rw[hM,List.length_append,List.length_take]
  have htm:List.take (cR l).length ((cR l).map Ed.d)=(cR l).map Ed.d:=List.take_of_length_le (by simp);refine bI [[],[100],[100],[100],[],[100,104],[100,104],[100,104],[100,104],[100,104],[100,104],[100,104],[100,104],[100,104]] [[100],[],[],[],[100,104],[],[],[],[],[],[],[],[],[],[104,114]] (λ_=>none) ?_;simp[h0,h1,hz0,hz1,h8,ht8,htm,hl8,hMd,hMn];refine⟨by omega,?_⟩;refine aB ?_;refine aA ?_;simp;refine aF ?_;refine aJ (ι:=Nat) (λi=>aU [(17,.ow 17 0 M.length),(18,.d (aT i))]) (λi=>aL [(17,.row false 5 (M.map Ed.d))]) (λi=>i<=M.length) (λi=>M.length-i) 0 (aC hp [17,18] [(114,17)] (by simp[hMn]) (by simp[hMd])) (by simp) λi hi23=>?_;refine aB ?_;refine aA ?_;simp;refine aD ?_;simp;refine⟨λh23=>?_,λh23=>?_⟩
  ·refine aH ?_;simp;refine aB ?_;refine aF ?_;refine aB ?_;have hi:i<M.length:=by omega
   have hwi:=hsm _ (List.getElem_mem hi);have e1:=HN M[i] hwi;have e2:=BN M[i] hwi;have el:=Kj hwi;have tl:List.take (eB M[i]).length ((eB M[i]).map bD)=(eB M[i]).map bD:=List.take_of_length_le (by simp);have sm:=FV (eB M[i]) (eB M[i]);rw[decide_eq_true rfl]at sm;refine eG.ro hT hW (λ|125=>some<| .plain ⟨.own 1 ((eB M[i]).map bD),true⟩|_=>none) ?_;simp[hi];refine⟨by simpa using e1,?_⟩;refine aB ?_;refine aS hT hW (λ|131=>some<| .plain ⟨.own 1 ((eB M[i]).map bD),true⟩|132=>some<| .plain ⟨.d (.bool true),true⟩|_=>none) ?_;simp[hi,tl];refine⟨⟨by simpa using e2,sm⟩,?_⟩;refine aD ?_;simp;refine aH ?_;simp;refine aA ?_;simp;refine aF ?_;refine aJ (ι:=Nat) (λk=>aU [(17,.ow 17 0 M.length),(18,.d (aT i)),(19,.ow 19 0 (eB M[i]).length),(20,.d (aT k))]) (λk=>aL [(17,.row false 5 (M.map Ed.d)),(19,.row false 1 ((eB M[i]).map bD))]) (λk=>k<=i) (λk=>i-k) 0 (aC hp [17,18,19,20] [(17,17),(125,19)]) (by simp) λk hi29=>?_;refine aB ?_;refine aA ?_;simp;refine aD ?_;simp;refine⟨λh29=>?_,λh29=>?_⟩
   ·refine aH ?_;simp;refine aB ?_;refine aF ?_;refine aB ?_;have hk:k<M.length:=by omega
    have hwk:=hsm _ (List.getElem_mem hk);have e3:=BN M[k] hwk;have s1:=Mb M[i] M[k];have s2:=Ma M[i] M[k];have s3:=FV (eB M[i]) (eB M[k]);have hinj:=JQ hwi.ok hwk.ok;have hde:decide (eB M[i]=eB M[k])=decide (M[i]=M[k]):=decide_eq_decide.2 hinj;rw[hde]at s3;have tk:List.take (eB M[k]).length ((eB M[k]).map bD)=(eB M[k]).map bD:=List.take_of_length_le (by simp);obtain⟨c,hc⟩:∃c,c=decide (M[i]=M[k]):=⟨_,rfl⟩;rw[<-hc]at s1 s2 s3;refine bI [[],[],[],[],[],[],[],[],[],[147],[147],[147],[147],[147],[147],[147],[147],[],[],[],[],[],[],[],[],[],[],[],[],[167,173],[167],[167],[167],[167]] [[],[],[],[],[],[],[],[],[147],[],[],[],[],[],[],[],[],[156],[],[],[],[],[],[],[],[],[],[],[167],[],[],[],[],[],[173],[174]] (λ|147=>some<| .plain ⟨.d (.bool c),true⟩|156=>some<| .plain ⟨.d (.bool c),true⟩|167=>some<| .plain ⟨.d (.bool c),true⟩|173=>some<| .plain ⟨.d (.sl ((eB M[k]).map bD)),true⟩|174=>some<| .plain ⟨.d (.bool c),true⟩|_=>none) ?_;simp[hi,hk,tl,tk];refine⟨⟨⟨⟨⟨by simpa using s1,by simpa using s2⟩,by simpa using s1⟩,by simpa using e3.own_d⟩,by simpa using s3⟩,?_⟩;refine aD ?_;simp;refine aH ?_;simp;refine aG ?_;simp;refine⟨by omega,?_⟩;refine aI (k+1) (aC hp [17,18,19,20] [(17,17),(19,19)]) ?_ ?_
    ·omega
    ·omega
   ·refine aO ?_;simp;refine aG ?_;simp;refine⟨by omega,?_⟩;refine aI (i+1) (aC hp [17,18] [(17,17)]) ?_ ?_
    ·omega
    ·omega
  ·refine aO ?_;simp;refine aS hT hW (λ|177=>some<| .plain ⟨.d (.bool true),true⟩|_=>none) ?_;simp;refine⟨LZ,?_⟩;refine aN ?_;simp
end
open Go.RowKit
def Ei(P:Program):List Field->Nat->Bool
 |[],_=>true
 |f::r,o=>f.offset==o&&Ei P r (o+P.cellsOf f.type)
def tF(P:Program):Nat->TypeId->DataW Unit->Option (List Value)
 |0,_,_=>none
 |n+1,t,d=>match P.underlying t,d with
  |some (.int _),.lit (.int k z)=>some [.int k z]
  |some .string,.lit (.string s)=>some [.string ⟨s.toArray⟩]
  |some (.array _ e),.agg ds=>match ds.mapM (tF P n e)with
   |some xs=>if xs.all (λx=>x.length==P.cellsOf e)&&xs.length*P.cellsOf e==P.cellsOf t then some xs.flatten else none
   |none=>none
  |some (.struct fs),.agg ds=>match(fs.toList.zip ds).mapM (λp=>tF P n p.1.type p.2)with
   |some xs=>if Ei P fs.toList 0&&xs.flatten.length==P.cellsOf t&&((fs.toList.zip xs).all λp=>p.2.length==P.cellsOf p.1.type)&&ds.length==fs.size then some xs.flatten else none
   |none=>none
  |_,_=>none
theorem Dd{c:Nat}:∀(xs:List (List Value)) (cs:List Value),cs.length=xs.length*c->(∀(i:Nat) (x:List Value),xs[i]? =some x->(cs.drop (i*c)).take c=x)->cs=xs.flatten
 |[],cs,hl,_=>by
  have:cs=[]:=List.eq_nil_of_length_eq_zero (by simpa using hl);simp[this]
 |x::xs,cs,hl,h=>by
  have h0:=h 0 x rfl;simp only[Nat.zero_mul,List.drop_zero]at h0;have hr:=Dd (c:=c) xs (cs.drop c) (by rw[List.length_drop,hl,List.length_cons,Nat.succ_mul];omega) λi y hy=>by
   have:=h (i+1) y (by simpa using hy);rw[List.drop_drop,Nat.add_comm c,<-Nat.succ_mul];exact this
  rw[List.flatten_cons,<-hr,<-h0,List.take_append_drop]
theorem zL{P:Program}{cs:List Value}:∀(fs:List Field) (xs:List (List Value)) (o:Nat),Ei P fs o=true->xs.length=fs.length->(∀(i:Nat) (f:Field) (x:List Value),fs[i]? =some f->xs[i]? =some x->(cs.drop f.offset).take (P.cellsOf f.type)=x/\x.length=P.cellsOf f.type)->
 (cs.drop o).take xs.flatten.length=xs.flatten
 |[],[],_,_,_,_=>by simp
 |[],_::_,_,_,h,_=>by simp at h
 |_::_,[],_,_,h,_=>by simp at h
 |f::fs,x::xs,o,ho,hl,h=>by
  simp only[Ei,Bool.and_eq_true,beq_iff_eq]at ho;obtain⟨h1,h2⟩:=h 0 f x rfl rfl;have hr:=zL fs xs (o+P.cellsOf f.type) ho.2 (by simpa using hl) λi g y hg hy=>h (i+1) g y (by simpa using hg) (by simpa using hy);rw[ho.1]at h1;rw[List.flatten_cons,List.length_append,List.take_add,h2,h1,List.drop_drop,hr]
theorem Kk{enc:TypeId×Value->Unit}{P:Program}{w:World}{base:Nat}{sp:Nat->Bool}{held:Bool}:∀(n fuel:Nat) (t:TypeId) (cs:List Value) (d:DataW Unit) (p:List MemPlace) (vs:List Value),
 DataW.trod enc P w base sp held fuel t cs=some (d,p)->tF P n t d=some vs->cs=vs:=by
 intro n;induction n with
 |zero=>intro fuel t cs d p vs _ h;cases h
 |succ n ih=>
  intro fuel t cs d p vs ht hv;unfold tF at hv;split at hv
  ·rename_i k' k z hu;obtain⟨m,rfl,hx,_⟩:=DataW.trod_int hu ht;injection hx with e1 e2
   injection e1 with e1
   injection e1 with e3 e4
   subst e3 e4;exact Option.some.inj hv
  ·rename_i s hu;obtain⟨b,rfl,hx,_⟩:=DataW.trod_string hu ht;injection hx with e1 e2
   injection e1 with e1
   injection e1 with e3
   subst e3;exact Option.some.inj hv
  ·rename_i m e ds hu;cases fuel with
   |zero=>simp[DataW.trod]at ht
   |succ fuel=>
    unfold DataW.trod at ht;rw[hu]at ht;simp only at ht;split at ht
    ·rename_i hl;obtain⟨ys,hm,hx⟩:=Option.map_eq_some_iff.1 ht;have hds:ys.map (·.1)=ds:=by
      have:=congrArg Prod.fst hx;simpa using this
     split at hv
     ·rename_i xs hxs;split at hv
      ·rename_i hc;simp only[Bool.and_eq_true,List.all_eq_true,beq_iff_eq]at hc;have hv:=Option.some.inj hv;rw[<-hv];have hyl:ys.length=m:=by simpa using Lib.mapM_length hm
       have hxl:xs.length=ds.length:=Lib.mapM_length hxs;have hdl:ds.length=m:=by rw[<-hds,List.length_map,hyl]
       refine Dd (c:=P.cellsOf e) xs cs (by rw[hl,hc.2]) λi x hx'=>?_;have hi:i<m:=by have:=(List.getElem?_eq_some_iff.1 hx').1;omega
       obtain⟨y,hy,hf⟩:=Lib.mapM_at hm i i (by simp[hi]);have hdi:ds[i]? =some y.1:=by rw[<-hds,List.getElem?_map,hy];rfl
       obtain⟨x2,hx2,hlc⟩:=Lib.mapM_at hxs i _ hdi;have:x2=x:=Option.some.inj (hx2.symm.trans hx');subst this;exact ih fuel e _ y.1 y.2 x2 hf hlc
      ·cases hv
     ·cases hv
    ·cases ht
  ·rename_i fs ds hu;obtain⟨ys,m,rfl,hx,hl,hyl,hf⟩:=DataW.trod_struct hu ht;have hds:ys.map (·.1)=ds:=by
    have:=congrArg Prod.fst hx;simpa using this.symm
   split at hv
   ·rename_i xs hxs;split at hv
    ·rename_i hc;simp only[Bool.and_eq_true,List.all_eq_true,beq_iff_eq]at hc;obtain⟨⟨⟨c1,c2⟩,c3⟩,c4⟩:=hc;have hv:=Option.some.inj hv;rw[<-hv];have hxl:xs.length=(fs.toList.zip ds).length:=Lib.mapM_length hxs;have hzl:(fs.toList.zip ds).length=fs.size:=by rw[List.length_zip,c4];simp
     have key:=zL (P:=P) (cs:=cs) fs.toList xs 0 c1 (by rw[hxl,hzl];simp) λi f x hfi hxi=>by
      have hfa:fs[i]? =some f:=by simpa using hfi
      have hyi:=hf i f hfa;have hi:i<fs.size:=(Array.getElem?_eq_some_iff.1 hfa).1;obtain⟨y,hy⟩:∃y,ys[i]? =some y:=⟨_,List.getElem?_eq_getElem (by omega)⟩;rw[hy]at hyi;have hdi:ds[i]? =some y.1:=by rw[<-hds,List.getElem?_map,hy];rfl
      have hz:(fs.toList.zip ds)[i]? =some (f,y.1):=by
       rw[List.getElem?_zip_eq_some];exact⟨hfi,hdi⟩
      obtain⟨x2,hx2,hlc⟩:=Lib.mapM_at hxs i _ hz;have:x2=x:=Option.some.inj (hx2.symm.trans hxi);subst this;refine⟨ih m f.type _ _ _ x2 hyi hlc,?_⟩;have hz2:(fs.toList.zip xs)[i]? =some (f,x2):=by
       rw[List.getElem?_zip_eq_some];exact⟨hfi,hxi⟩
      exact c3 _ (List.mem_of_getElem? hz2)
     rw[List.drop_zero,c2,<-hl,List.take_length]at key;exact key
    ·cases hv
   ·cases hv
  ·cases hv
def MW:DV->Value
 | .int k n=>.int k n
 | .str s=>.string ⟨s.toArray⟩
 |_=>undef
def PS:DV->Bool
 | .int _ _=>true
 | .str _=>true
 |_=>false
theorem FZ{P:Program}{W:World}{name:String}{g g':Nat}{t t':TypeId}{cs:Array Value}{fuel n:Nat}{p:List MemPlace}{d:DataW Unit}{ds:List DV}{enc:TypeId×Value->Unit}{base:Nat}{sp:Nat->Bool}{held:Bool}
 (hg:P.globalNamed name=some g)(hty:(P.globals[g]?).map (·.type)=some t)(hg':P.globalNamed name=some g')(ht':(P.globals[g']?).map (·.type)=some t')(hvar:W.var? P name=some cs)
 (hd:DataW.trod enc P W base sp held fuel t' cs.toList=some (d,p))(hlit:tF P n t d=some (ds.map MW))(hfl:ds.all PS=true):
 RD W (λ_=>False) (.ro ds) (.pointer (some ⟨g,0,none⟩))/\∃arr t fz,W.heap[g]? =some (.cells arr t fz)/\arr.size=ds.length:=by
 obtain rfl:=Option.some.inj (hg.symm.trans hg');obtain rfl:=Option.some.inj (hty.symm.trans ht');have hc:=Kk n fuel t cs.toList d p _ hd hlit;have hsz:cs.size=ds.length:=by
  have:=congrArg List.length hc;simpa using this
 have hblk:∃ty fz,W.heap[g]? =some (.cells cs ty fz):=by
  unfold World.var? at hvar;rw[hg]at hvar;simp only[Option.bind_some]at hvar;split at hvar
  ·rename_i c ty fz hh;cases hvar;exact⟨ty,fz,hh⟩
  ·cases hvar
 obtain⟨ty,fz,hblk⟩:=hblk;refine⟨.ro ds g 0 (ds.map MW) (λh=>h) (by simp) (λu hu=>?_) (Array.getElem?_eq_some_iff.1 hblk).1 (λj u hj=>?_) (λi x v hx hv=>?_),cs,ty,fz,hblk,hsz⟩
 ·obtain⟨x,hx,rfl⟩:=List.mem_map.1 hu;have:=List.all_eq_true.1 hfl x hx;cases x<;>first|rfl|cases this
 ·have:=World.var?_cell hg hvar j;rw[Nat.zero_add,this,<-hj,<-hc];simp
 ·rw[List.getElem?_map,hx]at hv;cases hv;have:=List.all_eq_true.1 hfl x (List.mem_of_getElem? hx);cases x with
  |int k n=>exact .int k n
  |str s=>exact .str s
  |_=>cases this
end Go.Eng
namespace Go.Proofs.YtepoffhhiddlkaaGreatDoor.crA
open Go.Eng
theorem gl{W:World}(h:laidMetH Tryz.prog Rows.editBytesRow.laid W):zM W (λ_=>False):=by
 have h:laidMet Tryz.prog Rows.editBytesRow.laid W:=h;obtain⟨ps,⟨g1,t1,c1,f1,p1,q1,n1,y1,v1,d1,⟨g2,t2,c2,f2,p2,q2,n2,y2,v2,d2,_,_⟩,_⟩,_⟩:=h;intro n cs hn
 match n,hn with
 |0,hn=>cases hn
 |1,hn=>cases hn;exact FZ (n:=4) (g:=1) (t:=229) (by kernel_rfl) (by kernel_rfl) n2 y2 v2 d2 (by kernel_rfl) (by kernel_rfl)
 |2,hn=>cases hn
 |3,hn=>cases hn;exact FZ (n:=4) (g:=3) (t:=229) (by kernel_rfl) (by kernel_rfl) n1 y1 v1 d1 (by kernel_rfl) (by kernel_rfl)
 |4,hn=>cases hn
 |5,hn=>cases hn
 |6,hn=>cases hn
 |7,hn=>cases hn
 |8,hn=>cases hn
 |9,hn=>cases hn
 |10,hn=>cases hn
 |n+11,hn=>cases hn
abbrev rangeS:ByteArray:={data:= #[118,97,108,117,101,32,111,117,116,32,111,102,32,114,97,110,103,101]}
abbrev syntaxS:ByteArray:={data:= #[105,110,118,97,108,105,100,32,115,121,110,116,97,120]}
noncomputable def low:Nat:=(World.holding Tryz.prog default ⟨#[],#[],[]⟩).heap.size
noncomputable def held(g:Nat)(cs:Array Value):Array Value:=match g with
 |6=> #[.iface 338 (.pointer (some ⟨low+1,0,none⟩))]
 |7=> #[.iface 338 (.pointer (some ⟨low,0,none⟩))]
 |g=>match globD g with
  |some ds=>(ds.map MW).toArray
  |none=>cs
noncomputable def laidObj(h:Array Obj)(g:Nat):Array Obj:=h.modify g λ
 | .cells cs t frozen=>.cells (held g cs) t frozen
 |o=>o
noncomputable def laidWorld(os:Os):World:=
 let w0:=World.holding Tryz.prog os ⟨#[.cells #[.string rangeS] 340,.cells #[.string syntaxS] 340],#[],[]⟩
 {w0 with heap:=(List.range 11).foldl laidObj w0.heap}
theorem laidWorld_met(os:Os)(args:Array Value):laidMet Tryz.prog Rows.editBytesRow.laid ((laidWorld os).forCall (λ_ _=>0) ⟨#[],args,[]⟩).memory:=
 laidMet_of_run' 8 (by kernel_rfl) (by kernel_rfl)
end Go.Proofs.YtepoffhhiddlkaaGreatDoor.crA
