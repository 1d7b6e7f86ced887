/- Part 11 of the proof. No condition. -/
import Derived.Test.YtjdlbidjlfllcaaGreatDoorMJ
import Derived.Test.YtjdlbidjlfllcaaGreatDoorRows
import Derived.ChangeSame
import Derived.Lib.LaidTab
open Go.Proofs
open Go.Proofs.Tryz
set_option linter.unusedVariables false
set_option linter.unusedSimpArgs false
set_option maxRecDepth 20000
set_option maxHeartbeats 4000000
namespace Go.Eng
section
attribute[local simp] kQ.cond Nd.d_eq nd_t nd_dr nd_td ndsD aZ
theorem WL(T:List Tk)(l:List Int):spacedTo T l 0=[]:=rfl
attribute[local simp] WL
def spB(out w:aW)(k:Int)(i:Nat):Bool:=
 decide (k<3)||(match out.getLast? with
  |none=>false
  |some c=>(firstIs letterB w||firstIs digitB w)&&decide (c≠32)&&decide (c≠10)&& !signB c)||(decide (0<i)&&(decide (w=[61])||decide (w=[61,61])))
theorem wG(T:List Tk)(l:List Int)(i:Nat):spacedTo T l (i+1)=(if spB (spacedTo T l i) (T.getD i default).text (dQ l i 6) i=true then spacedTo T l i++sepsL.getD ((dQ l i 6).tmod 3).toNat []else spacedTo T l i)++(T.getD i default).text:=rfl
theorem WM{m:Int}(h0:0<=m)(h1:m<3):([DV.str [32],DV.str [10],DV.str [32,32,10,32]]:List DV)[m.toNat]?.getD default=.str (sepsL.getD m.toNat []):=by
 have:m=0\/m=1\/m=2:=aE;rcases this with rfl|rfl|rfl<;>rfl
theorem Qw{out w:aW}{k:Int}{i:Nat}{d:UInt8}(hd:out[out.length-1]?.getD 0=d):spB out w k i=true↔((k<3\/(((0<out.length/\(firstIs letterB w=true\/firstIs digitB w=true))/\¬(d.toNat:Int)=32)/\¬(d.toNat:Int)=10)/\¬d∈signs)\/0<i/\(w=[61]\/w=[61,61])):=by
 unfold spB;rw[List.getLast?_eq_getElem?];cases e:out[out.length-1]? with
 |none=>
  have h0:¬0<out.length:=λq=>by rw[List.getElem?_eq_getElem aE]at e;cases e
  simp[h0]
 |some c=>
  rw[e]at hd;have hd:c=d:=hd;subst hd;have h0:0<out.length:=by
   have:=(List.getElem?_eq_some_iff.1 e).1;omega
  have e1:(c.toNat:Int)=32↔c=32:=by rw[<-UInt8.toNat_inj];have:(32:UInt8).toNat=32:=rfl;omega
  have e2:(c.toNat:Int)=10↔c=10:=by rw[<-UInt8.toNat_inj];have:(10:UInt8).toNat=10:=rfl;omega
  simp[h0,e1,e2,signB]
theorem tY(T:List Tk)(l:List Int)(b:Nat)(hb:∀t∈T,t.text.length<=b):∀i,(spacedTo T l i).length<=i*(b+4)
 |0=>by simp[spacedTo]
 |i+1=>by
  have ih:=tY T l b hb i;have hs:∀k:Nat,(sepsL.getD k []).length<=4:=λk=>by
   rw[List.getD_eq_getElem?_getD];cases e:sepsL[k]? with
   |none=>simp
   |some w=>exact(by decide:∀w∈sepsL,w.length<=4) w (List.mem_of_getElem? e)
  have hw:(T.getD i default).text.length<=b:=by
   rw[List.getD_eq_getElem?_getD];cases e:T[i]? with
   |none=>exact Nat.zero_le _
   |some w=>exact hb w (List.mem_of_getElem? e)
  have h4:=hs ((dQ l i 6).tmod 3).toNat;rw[Nat.succ_mul,wG,List.length_append];cases spB (spacedTo T l i) (T.getD i default).text (dQ l i 6) i
  ·simp only[Bool.false_eq_true,if_false];omega
  ·rw[if_pos rfl,List.length_append];omega
theorem OW(s:aW)(l:List Int)(hs:s.length<=100000000)(hl:∀n∈l, -9223372036854775808<=n/\n<=9223372036854775807):Ok prog 58 [.str s,.sl (l.map aI)] ⟨.d (.str (spacedS s l)),true⟩:=by
 refine Ok.ret func58 bY (c:=_) rfl ntmps58 aM results58 (by intro _ h;cases h) λw0 X hp=>?_;obtain⟨T,hT1⟩:∃T,(scanS s).1=T:=⟨_,rfl⟩;have hin:∀t∈T,InT s t:=λt ht=>Et (hT1▸ht);have htl:T.length<=s.length:=by rw[<-hT1];exact lX _ _ _
 have hgT:bM T:=by rw[<-hT1];exact iA _ _ _
 have hwl:∀t∈T,t.text.length<=17:=λt ht=>Iv (hgT t ht);apply aD;simp;apply aG;have hsc:=Eu s aE;rw[hT1]at hsc;refine aP (λ|14=>some<| .plain ⟨.tup [.d (.sl (T.map Tk.r)),.d (aI (scanS s).2)],true⟩|_=>none) ?_;simp[bD];refine⟨hsc,?_⟩;apply aD;simp;apply dT;simp;apply aO;refine aU (ι:=Nat) (λi=>aR [(0,.d (.str s)),(1,.d (.sl (l.map aI))),(5,.d (.sl (T.map Tk.r))),(7,.d (.str (spacedTo T l i))),(8,.d (aI i))]) (λi=>aL []) (λi=>i<=T.length) (λi=>T.length-i) 0 (aA hp [0,1,5,7,8] []) ((Nat.zero_le _)) λi hi4=>?_;apply aG;apply aV;simp;refine⟨λh4=>?_,λh4=>?_⟩
 ·apply aF;simp;apply dH;apply aG;have hi:i<T.length:=aE;obtain⟨t,htt⟩:∃t,T[i]=t:=⟨_,rfl⟩;have hti:T[i]? =some t:=by rw[List.getElem?_eq_getElem hi,htt]
  have htm:t∈T:=List.mem_of_getElem? hti;obtain⟨a,ha,hal,hat⟩:=hin t htm;refine eW.rd [] [] (λ_=>none) ?_;simp[hti,Tk.r,ha,It,hat];refine⟨⟨hi,aE,aE⟩,?_⟩;apply aG;have h7:=Kh l i 6 hl bC;refine aP (λ|37=>some<| .plain ⟨.d (aI (dQ l i 6)),true⟩|_=>none) ?_;simp;refine⟨h7,?_⟩;apply aG;obtain⟨out,hout⟩:∃out,spacedTo T l i=out:=⟨_,rfl⟩;have hol:=tY T l 17 hwl i;rw[hout]at hol;have hol2:i*(17+4)<=100000000*(17+4):=Nat.mul_le_mul_right _ aE;obtain⟨d,hd⟩:∃d,out[out.length-1]?.getD 0=d:=⟨_,rfl⟩;have h81:=qD t.text 0 aE;have h82:=pJ t.text 0 aE;have h83:=KD d;have hpos:0<out.length↔out≠[]:=List.length_pos_iff;refine aP (λ|43=>some<| .plain ⟨.d (.bool (firstIs letterB t.text)),true⟩|46=>some<| .plain ⟨.d (.bool (firstIs digitB t.text)),true⟩|71=>some<| .plain ⟨.d (.bool (decide (d∈signs))),true⟩|_=>none) ?_;simp[hout,hd];refine⟨by(repeat' with_reducible apply And.intro)<;>intros<;>first|(with_reducible exact h83)|omega|(simpa using h81)|(simpa using h82)|(constructor<;>first|omega|assumption),?_⟩;apply dT;simp;refine⟨by(repeat' with_reducible apply And.intro)<;>intros<;>((repeat' with_reducible apply And.intro)<;>first|assumption|grind),?_⟩;apply aJ;simp;refine⟨λg=>?_,λg1 g2 g3=>?_⟩
  ·have hB:=(Qw hd).2 g;have htg:T.getD i default=t:=by rw[List.getD_eq_getElem?_getD,hti];rfl
   have hstep:=wG T l i;rw[hout,htg,if_pos hB]at hstep;have hk:=bU l i 6 bC;have hm3:0<=(dQ l i 6).tmod 3/\(dQ l i 6).tmod 3<3:=by rw[Int.tmod_eq_emod_of_nonneg hk.1];omega
   have hsp:=WM hm3.1 hm3.2;have hs4:(sepsL.getD ((dQ l i 6).tmod 3).toNat []).length<=4:=by
    rw[List.getD_eq_getElem?_getD];cases e:sepsL[((dQ l i 6).tmod 3).toNat]? with
    |none=>simp
    |some w=>exact(by decide:∀w∈sepsL,w.length<=4) w (List.mem_of_getElem? e)
   obtain⟨sep,hse⟩:∃sep,sepsL.getD ((dQ l i 6).tmod 3).toNat []=sep:=⟨_,rfl⟩;rw[hse]at hsp hs4 hstep;apply aK;simp[hsp];refine⟨⟨⟨⟨bC,hm3⟩,hm3.2⟩,aE⟩,?_⟩;have hwt:=hwl t htm;apply aK;simp[List.length_append];refine⟨aE,?_⟩;apply aK;simp;refine⟨aE,?_⟩;refine Pq.mk (i+1) (aA hp [0,1,5,7,8] [] (by simp[hstep])) ?_ ?_
   ·omega
   ·omega
  ·have hB:spB out t.text (dQ l i 6) i=false:=by
    cases e:spB out t.text (dQ l i 6) i with
    |false=>rfl
    |true=>
     rcases(Qw hd).1 e with(h|h)|h
     ·omega
     ·exact absurd (g2 h.1.1.1.1 h.1.1.1.2 h.1.1.2 h.1.2) h.2
     ·exact absurd h.2 (not_or.2 (g3 h.1))
   have htg:T.getD i default=t:=(by rw[List.getD_eq_getElem?_getD,hti];rfl);have hstep:=wG T l i;rw[hout,htg,if_neg (by simp[hB])]at hstep;apply aF;simp;have hwt:=hwl t htm;apply aK;simp[List.length_append];refine⟨aE,?_⟩;apply aK;simp;refine⟨aE,?_⟩;refine Pq.mk (i+1) (aA hp [0,1,5,7,8] [] (by simp[hstep])) ?_ ?_
   ·omega
   ·omega
 ·apply bE;simp;apply aD;simp;apply aH;simp;rw[show i=T.length by omega];unfold spacedS;rw[hT1]
theorem OX(s:aW)(l:List Int):(spacedS s l).length<=21*s.length:=by
 have hgT:bM (scanS s).1:=iA _ _ _;have h:=tY (scanS s).1 l 17 (λt ht=>Iv (hgT t ht)) (scanS s).1.length;have h1:(scanS s).1.length<=s.length:=lX _ _ _;unfold spacedS;omega
end
section
attribute[local simp] kQ.cond Nd.d_eq nd_t nd_dr nd_td ndsD aZ
theorem YT{n:Int}(h0:0<=n)(h1:n<4):(chgEmpty.map DV.str)[n.toNat]?.getD default=.str (chgEmpty.getD n.toNat []):=by
 have hk:n.toNat<chgEmpty.length:=by show _<4;omega
 rw[List.getElem?_map,List.getElem?_eq_getElem hk];simp[List.getD_eq_getElem?_getD,hk]
theorem YU{n:Int}(h0:0<=n)(h1:n<26):(chgWords.map DV.str)[n.toNat]?.getD default=.str (chgWords.getD n.toNat []):=by
 have hk:n.toNat<chgWords.length:=by show _<26;omega
 rw[List.getElem?_map,List.getElem?_eq_getElem hk];simp[List.getD_eq_getElem?_getD,hk]
theorem LZ(k:Nat):(chgWords.getD k []).length<=17:=by
 rw[List.getD_eq_getElem?_getD];cases e:chgWords[k]? with
 |none=>simp
 |some w=>exact(by decide:∀w∈chgWords,w.length<=17) w (List.mem_of_getElem? e)
theorem Ma(k:Nat):(chgEmpty.getD k []).length<=3:=by
 rw[List.getD_eq_getElem?_getD];cases e:chgEmpty[k]? with
 |none=>simp
 |some w=>exact(by decide:∀w∈chgEmpty,w.length<=3) w (List.mem_of_getElem? e)
theorem YV(y:Int):IntKind.u8.wrap y=y.emod 256:=by
 unfold IntKind.wrap;simp[IntKind.bits,IntKind.signed];rfl
def OY(s w:aW)(a b c:Int)(p q:Nat):aW:=
 if c=0 then s.take p++s.drop q
 else if c=1 then s.take q++32::s.drop p
 else if c=2 then s.take p++32::(w++32::s.drop q)
 else if c=3 then s.take p
 else if c=4 then s.take p++w++32::s.drop p
 else s.set (bH a s.length).toNat (UInt8.ofNat (b.emod 256).toNat)
theorem YW{s:aW}{a how b:Int}(h:(scanS s).1=[]):changedS s a how b=s++chgEmpty.getD (bH b 4).toNat []:=by
 unfold changedS;rw[h]
theorem WN{s:aW}{T:List Tk}{a how b:Int}{t:Tk}{p q:Nat}(h:(scanS s).1=T)(h0:T≠[])(ht:T[(bH a T.length).toNat]? =some t)(hp:t.at_=p)(hq:tokE t=q):
 changedS s a how b=OY s (chgWords.getD (bH b 26).toNat []) a b (bH how 6) p q:=by
 unfold changedS;cases e:T with
 |nil=>exact absurd e h0
 |cons x r=>
  subst e;rw[h];have hd:(x::r).getD (bH a ((r.length+1:Nat):Int)).toNat default=t:=by
   rw[List.getD_eq_getElem?_getD];have ht:(x::r)[(bH a ((r.length+1:Nat):Int)).toNat]? =some t:=ht;rw[ht];rfl
  simp only[hd,hp,hq,Int.toNat_natCast];rfl
theorem YX(s:aW)(a how b:Int):(changedS s a how b).length<=2*s.length+40:=by
 unfold changedS;split
 ·have:=Ma (bH b 4).toNat;rw[List.length_append];omega
 ·have hw:=LZ (bH b 26).toNat;simp only[];generalize chgWords.getD (bH b 26).toNat []=w at hw;split
  ·simp only[List.length_append,List.length_take,List.length_drop];omega
  ·split
   ·simp only[List.length_append,List.length_take,List.length_drop,List.length_cons];omega
   ·split
    ·simp only[List.length_append,List.length_take,List.length_drop,List.length_cons];omega
    ·split
     ·simp only[List.length_take];omega
     ·split
      ·simp only[List.length_append,List.length_take,List.length_drop,List.length_cons];omega
      ·rw[List.length_set];omega
theorem Mb(s:aW)(a how b:Int)(hs:s.length<=900000000)(ha: -9223372036854775808<=a/\a<=9223372036854775807)(hh: -9223372036854775808<=how/\how<=9223372036854775807)(hb: -9223372036854775808<=b/\b<=9223372036854775807):Ok prog 56 [.str s,aI a,aI how,aI b] ⟨.d (.str (changedS s a how b)),true⟩:=by
 refine Ok.ret func56 bY (c:=_) rfl ntmps56 aM results56 (by intro _ h;cases h) λw0 X hp=>?_;obtain⟨T,hT1⟩:∃T,(scanS s).1=T:=⟨_,rfl⟩;have hin:∀t∈T,InT s t:=λt ht=>Et (hT1▸ht);have htl:T.length<=s.length:=by rw[<-hT1];exact lX _ _ _
 have a4:=dG b 4 bC;have a26:=dG b 26 bC;have a6:=dG how 6 bC;have r4:=eK b 4 hb.1 hb.2 bC;have r26:=eK b 26 hb.1 hb.2 bC;have r6:=eK how 6 hh.1 hh.2 bC;apply aD;simp;apply aG;have hsc:=Eu s aE;rw[hT1]at hsc;refine aP (λ|16=>some<| .plain ⟨.tup [.d (.sl (T.map Tk.r)),.d (aI (scanS s).2)],true⟩|_=>none) ?_;simp[bD];refine⟨hsc,?_⟩;apply aG;apply aV;simp;refine⟨λh2=>?_,λh2=>?_⟩
 ·have hnil:(scanS s).1=[]:=by rw[hT1];first|exact h2|exact List.eq_nil_of_length_eq_zero aE
  apply aG;have hc:=YT a4.1 a4.2;have hcl:=Ma (bH b 4).toNat;obtain⟨z,hz⟩:∃z,chgEmpty.getD (bH b 4).toNat []=z:=⟨_,rfl⟩;rw[hz]at hc hcl;simp[chgEmpty]at hc;refine aP (λ|25=>some<| .plain ⟨.d (aI (bH b 4)),true⟩|_=>none) ?_;simp[hc];refine⟨⟨⟨⟨⟨bC,r4⟩,aE⟩,aE⟩,aE⟩,?_⟩;apply aH;simp;rw[YW hnil,hz]
 ·have hne:T≠[]:=λe=>by rw[e]at h2;simp at h2
  have hpos:0<T.length:=List.length_pos_iff.2 hne;have aT:=dG a (T.length:Int) aE;have rT:=eK a (T.length:Int) ha.1 ha.2 aE;obtain⟨j,hj⟩:∃j:Nat,bH a (T.length:Int)=(j:Int):=⟨(bH a (T.length:Int)).toNat,aE⟩;have hjl:j<T.length:=aE;obtain⟨t,htt⟩:∃t,T[j]=t:=⟨_,rfl⟩;have hti:T[j]? =some t:=by rw[List.getElem?_eq_getElem hjl,htt]
  obtain⟨p,hpa,hpl,hpt⟩:=hin t (List.mem_of_getElem? hti);obtain⟨q,hq⟩:∃q:Nat,q=p+t.text.length:=⟨_,rfl⟩;have hqe:tokE t=q:=by unfold tokE;rw[hpa,hq];simp
  have hqi:(p:Int)+(t.text.length:Int)=(q:Int):=by rw[hq];simp
  have hpl1:p<=s.length:=aE;have hql1:q<=s.length:=aE;have ech:=WN (a:=a) (how:=how) (b:=b) hT1 hne (by rw[hj,Int.toNat_natCast];exact hti) hpa hqe;apply aF;simp;refine cJ (λ|33=>some<| .plain ⟨.d (aI (j:Int)),true⟩|_=>none) ?_;simp[hti,Tk.r,hpa,hqi];refine⟨⟨by simpa [hj]using rT,hjl⟩,?_⟩;apply aG;have hc:=YU a26.1 a26.2;have hcl:=LZ (bH b 26).toNat;obtain⟨z,hz⟩:∃z,chgWords.getD (bH b 26).toNat []=z:=⟨_,rfl⟩;rw[hz]at hc hcl ech;simp[chgWords]at hc;refine aP (λ|38=>some<| .plain ⟨.d (aI (bH b 26)),true⟩|_=>none) ?_;simp[hc];refine⟨⟨⟨⟨bC,r26⟩,a26⟩,a26.2⟩,?_⟩;apply aG;refine cJ (λ|42=>some<| .plain ⟨.d (aI (bH how 6)),true⟩|_=>none) ?_;simp;refine⟨r6,?_⟩;apply aO;apply aV;simp;refine⟨λh7=>?_,λh7=>?_⟩
  ·apply aG;refine eI (fX [0,12,11] [(11,11)] bC bC (by simp[hp])) ?_;simp;refine eW.rd [] [] (λ_=>none) ?_;simp;refine⟨by(repeat' with_reducible apply And.intro)<;>first|omega|decide,?_⟩;apply aH;simp;rw[ech];unfold OY;rw[if_pos h7]
  ·apply aV;simp;refine⟨λh9=>?_,λh9=>?_⟩
   ·apply aG;refine eI (fX [0,12,11] [(11,11)] bC bC (by simp[hp])) ?_;simp;refine eW.rd [] [] (λ_=>none) ?_;simp;refine⟨by(repeat' with_reducible apply And.intro)<;>first|omega|decide,?_⟩;apply aH;simp;rw[ech];unfold OY;rw[if_neg h7,if_pos h9]
   ·apply aV;simp;refine⟨λh11=>?_,λh11=>?_⟩
    ·apply aG;refine eI (fX [0,12,11] [(11,11)] bC bC (by simp[hp])) ?_;simp;refine eW.rd [] [] (λ_=>none) ?_;simp;refine⟨by(repeat' with_reducible apply And.intro)<;>first|omega|decide,?_⟩;apply aH;simp;rw[ech];unfold OY;rw[if_neg h7,if_neg h9,if_pos h11]
    ·apply aV;simp;refine⟨λh13=>?_,λh13=>?_⟩
     ·apply aD;simp;refine⟨by(repeat' with_reducible apply And.intro)<;>first|omega|decide,?_⟩;apply aH;simp;rw[ech];unfold OY;rw[if_neg h7,if_neg h9,if_neg h11,if_pos h13]
     ·apply aV;simp;refine⟨λh15=>?_,λh15=>?_⟩
      ·apply aG;refine eI (fX [0,12,11] [(11,11)] bC bC (by simp[hp])) ?_;simp;refine eW.rd [] [] (λ_=>none) ?_;simp;refine⟨by(repeat' with_reducible apply And.intro)<;>first|omega|decide,?_⟩;apply aH;simp;rw[ech];unfold OY;rw[if_neg h7,if_neg h9,if_neg h11,if_neg h13,if_pos h15];simp
      ·apply aF;simp;have aS:=dG a (s.length:Int) aE;have rS:=eK a (s.length:Int) ha.1 ha.2 aE;obtain⟨m,hm⟩:∃m:Nat,bH a (s.length:Int)=(m:Int):=⟨(bH a (s.length:Int)).toNat,aE⟩;rw[hm]at rS;refine Kb hT bY bY bY bY (λw=>cP (w:=w) hT (t:=5) rfl) rfl rfl rfl rfl rfl rfl rfl rfl rfl rfl rfl rfl rfl rfl rfl rfl rfl rfl rfl rfl rfl rfl rfl rfl rfl rfl rfl rfl rfl rfl rfl rfl rfl rfl rfl rfl rfl rfl rfl rfl rfl rfl rfl rfl rfl (s:=s) (x:=a) (y:=b) (k:=m) aM aM aM aE rS ?_;apply aH;simp;rw[ech];unfold OY;rw[if_neg h7,if_neg h9,if_neg h11,if_neg h13,if_neg h15,hm,YV];rfl
end
theorem wH{α:Type}{p:α->Prop}{l:List α}{d:α}(h:∀x∈l,p x){k:Nat}(hk:k<l.length):p (l.getD k d):=by
 rw[List.getD_eq_getElem?_getD,List.getElem?_eq_getElem hk];exact h _ (List.getElem_mem hk)
theorem nL(L:List Int)(i:Nat):wholeB (callM L i) true=true:=by
 have h:=bU L i 8 bC;exact wH (p:=λw=>wholeB w true=true) (by decide:∀w∈callL,wholeB w true=true) (show(dQ L i 8).toNat<8 by omega)
theorem Hz(L:List Int)(i:Nat):wholeB (ownM L i) false=true:=by
 have h:=bU L i 4 bC;exact wH (p:=λw=>wholeB w false=true) (by decide:∀w∈ownL,wholeB w false=true) (show(dQ L i 4).toNat<4 by omega)
theorem wI{k:Int}{t:aW}{n:Int}{ks:List Nd}(h:0<=k/\k<=6):0<=(Nd.mk k t n ks).kind/\(Nd.mk k t n ks).kind<=6:=h
theorem fL{k:Int}{t:aW}{n:Int}(h0:0<=k/\k<37)(h1:shapedK k []=true)(h2:loAt k<=n/\n<=hiAt k)(h3:textB k t=true):rightN (.mk k t n [])=true:=
 right_mk.2 ⟨h0.1,h0.2,h1,h2.1,h2.2,h3,λx hx=>by cases hx⟩
theorem wJ(L:List Int)(i:Nat):rightN (.mk 33 (ownM L i) 0 [])=true:=fL bC rfl bC (Hz L i)
theorem oF(L:List Int)(i:Nat):rightN (placeM L i).1=true/\isPlaceK (placeM L i).1.kind=true:=by
 unfold placeM;split
 ·exact⟨fL bC rfl bC (nL L (i+1)),rfl⟩
 ·exact⟨fL bC rfl bC (Kf (nL L (i+1)) (nL L (i+2))),rfl⟩
theorem CF(L:List Int):∀(d i:Nat),rightN (valueM L d i).1=true/\isExprK (valueM L d i).1.kind=true:=λd=>by
 induction d with
 |zero=>
  intro i;obtain⟨r0,_,r2⟩:=gF L 0 i;have r2:=r2 rfl;by_cases h0:cY L 0 i=0\/cY L 0 i=1
  ·rw[jY h0];have hr:=bU L (i+1) 6 bC;exact⟨fL bC rfl (wH (p:=λn:Int=>loAt 32<=n/\n<=hiAt 32) (by decide:∀n∈numsM,loAt 32<=n/\n<=hiAt 32) (show(dQ L (i+1) 6).toNat<6 by omega)) rfl,rfl⟩
  ·by_cases h1:cY L 0 i=2
   ·rw[jZ h1];exact⟨wJ L (i+1),rfl⟩
   ·by_cases h2:cY L 0 i=3\/cY L 0 i=4
    ·rw[fZ h2];exact⟨(oF L (i+1)).1,pX (oF L (i+1)).2⟩
    ·rw[iC aE];exact⟨fL bC rfl bC rfl,rfl⟩
 |succ e ih=>
  intro i;obtain⟨r0,r1,_⟩:=gF L (e+1) i;by_cases h0:cY L (e+1) i=0\/cY L (e+1) i=1
  ·rw[jY h0];have hr:=bU L (i+1) 6 bC;exact⟨fL bC rfl (wH (p:=λn:Int=>loAt 32<=n/\n<=hiAt 32) (by decide:∀n∈numsM,loAt 32<=n/\n<=hiAt 32) (show(dQ L (i+1) 6).toNat<6 by omega)) rfl,rfl⟩
  ·by_cases h1:cY L (e+1) i=2
   ·rw[jZ h1];exact⟨wJ L (i+1),rfl⟩
   ·by_cases h3:cY L (e+1) i=3\/cY L (e+1) i=4
    ·rw[fZ h3];exact⟨(oF L (i+1)).1,pX (oF L (i+1)).2⟩
    ·by_cases h4:cY L (e+1) i=5
     ·rw[iC h4];exact⟨fL bC rfl bC rfl,rfl⟩
     ·rw[sR aE];exact Ba aE aE (ih (i+1)) (ih (valueM L e (i+1)).2)
theorem kD{k:Int}{t:aW}{n:Int}{ks:List Nd}(hk:9<=k/\k<=25)(h1:textB k t=true)(h2:loAt k<=n/\n<=hiAt k)(h3:shapedK k ks=true)(h4:∀x∈ks,rightN x=true):
 rightN (.mk k t n ks)=true/\isStmtK (Nd.mk k t n ks).kind=true:=⟨right_mk.2 ⟨aE,aE,h3,h2.1,h2.2,h1,h4⟩,isStmtK_iff.2 hk⟩
theorem WO{x:Nd}(h:rightN x=true):∀y∈[x],rightN y=true:=λy hy=>by rw[List.mem_singleton.1 hy];exact h
theorem Fu{L:List Int}{d i:Nat}{bl:Nat->Nd×Nat}(hb:0<d->∀j,rightN (bl j).1=true/\isBlockK (bl j).1.kind=true):rightN (oneB L d bl i).1=true/\isStmtK (oneB L d bl i).1.kind=true:=by
 obtain⟨k,hk⟩:∃k,Oi L d i=k:=⟨_,rfl⟩;obtain⟨r0,r1,r2⟩:=tU hk;rw[gI hk];have v1:=λj=>CF L 1 j;have v2:=λj=>CF L 2 j;have pl:=oF L (i+1);have cl:=nL L (i+1);have ol:=Hz L (i+1);unfold vX;split
 ·rename_i q;subst q;exact kD bC ol bC (by simp[shapedK,kidsB,(v2 (i+1+1)).2]) (WO (v2 (i+1+1)).1)
 split
 ·rename_i q;subst q;refine kD bC rfl bC (by simp[shapedK,kidsB,pl.2,(v2 (placeM L (i+1)).2).2]) λy hy=>?_;simp only[List.mem_cons,List.not_mem_nil,or_false]at hy;rcases hy with rfl|rfl
  ·exact pl.1
  ·exact(v2 _).1
 split
 ·rename_i q;have hb:=hb (r2 q);have a1:=v1 (i+1);have a2:=hb (valueM L 1 (i+1)).2;have a3:=hb ((bl (valueM L 1 (i+1)).2).2+1);have m2:∀y∈[(valueM L 1 (i+1)).1,(bl (valueM L 1 (i+1)).2).1],rightN y=true:=λy hy=>by
   simp only[List.mem_cons,List.not_mem_nil,or_false]at hy;rcases hy with rfl|rfl
   ·exact a1.1
   ·exact a2.1
  have m3:∀y∈[(valueM L 1 (i+1)).1,(bl (valueM L 1 (i+1)).2).1,(bl ((bl (valueM L 1 (i+1)).2).2+1)).1],rightN y=true:=λy hy=>by
   simp only[List.mem_cons,List.not_mem_nil,or_false]at hy;rcases hy with rfl|rfl|rfl
   ·exact a1.1
   ·exact a2.1
   ·exact a3.1
  split
  ·rename_i q2;subst q2;split
   ·exact kD bC rfl bC (by simp[shapedK,kidsB,a1.2,a2.2,a3.2]) m3
   ·exact kD bC rfl bC (by simp[shapedK,kidsB,a1.2,a2.2]) m2
  ·rename_i q2;have q3:k=12:=aE;subst q3;exact kD bC rfl bC (by simp[shapedK,kidsB,a1.2,a2.2]) m2
 split
 ·rename_i q;rcases q with rfl|rfl|rfl|rfl<;>exact kD bC cl bC rfl λx hx=>by cases hx
 split
 ·rename_i q;rcases q with rfl|rfl<;>exact kD bC cl bC (by simp[shapedK,kidsB,(v1 (i+1+1)).2]) (WO (v1 (i+1+1)).1)
 split
 ·rename_i q;rcases q with rfl|rfl<;>exact kD bC cl bC rfl (WO (wJ L (i+1+1)))
 split
 ·rename_i q;subst q;have hr:=bU L (((i+1:Nat):Int)+1) 5 bC;have e1:loAt 19=2:=rfl;have e2:hiAt 19=6:=rfl;exact kD bC ol aE rfl λx hx=>by cases hx
 split
 ·rename_i q;subst q;exact kD bC ol bC rfl λx hx=>by cases hx
 split
 ·rename_i q;subst q;have hr:=bU L ((i+1:Nat):Int) 9 bC;have e1:loAt 21=1:=rfl;have e2:hiAt 21=9:=rfl;exact kD bC rfl aE rfl λx hx=>by cases hx
 split
 ·rename_i q;subst q;have hr:=bU L ((i+1:Nat):Int) 99 bC;have e1:loAt 25=1:=rfl;have e2:hiAt 25=99:=rfl;exact kD bC rfl aE rfl λx hx=>by cases hx
 ·have q:k=24:=aE;subst q;exact kD bC rfl bC (by simp[shapedK,kidsB,(v2 (i+1)).2]) (WO (v2 (i+1)).1)
theorem CG{L:List Int}{st:Nat->Nd×Nat}(h:∀j,rightN (st j).1=true/\isStmtK (st j).1.kind=true):∀(m:Nat) (ks:List Nd) (j:Nat),(∀x∈ks,rightN x=true/\isStmtK x.kind=true)->∀x∈(somesM L st m ks j).1,rightN x=true/\isStmtK x.kind=true
 |0,ks,j,hk=>by simpa [somesM]using hk
 |m+1,ks,j,hk=>by
  unfold somesM;split
  ·exact hk
  ·refine CG h m _ _ λx hx=>?_;rcases List.mem_append.1 hx with hx|hx
   ·exact hk x hx
   ·rw[List.mem_singleton.1 hx];exact h j
theorem OZ{L:List Int}{st:Nat->Nd×Nat}(h:∀j,rightN (st j).1=true/\isStmtK (st j).1.kind=true)(i:Nat):rightN (someM L st i).1=true/\isBlockK (someM L st i).1.kind=true:=
 ⟨vO (CG h _ [] _ λx hx=>by cases hx),rfl⟩
theorem HA(L:List Int):∀d i,rightN (oneM L d i).1=true/\isStmtK (oneM L d i).1.kind=true
 |0,i=>by rw[oneM];exact Fu λh=>absurd h (Nat.lt_irrefl 0)
 |d+1,i=>by rw[oneM];exact Fu λ_ j=>OZ (HA L d) j
theorem Fv(L:List Int):∀(m:Nat) (ks:List Nd) (j:Nat),(∀x∈ks,rightN x=true/\isStmtK x.kind=true)->∀x∈bodyM L m ks j,rightN x=true/\isStmtK x.kind=true
 |0,ks,j,hk=>by simpa [bodyM]using hk
 |m+1,ks,j,hk=>by
  unfold bodyM;split
  ·exact hk
  ·refine Fv L m _ _ λx hx=>?_;rcases List.mem_append.1 hx with hx|hx
   ·exact hk x hx
   ·rw[List.mem_singleton.1 hx];exact HA L 2 j
theorem wK(L:List Int):∀c,∀x∈itemsM L c,rightN x=true/\isItemK x.kind=true
 |0,x,hx=>by cases hx
 |c+1,x,hx=>by
  rw[itemsM]at hx;rcases List.mem_append.1 hx with hx|hx
  ·exact wK L c x hx
  ·rw[List.mem_singleton.1 hx];have hr:=bU L (4+2*c) 1999 bC;have e1:loAt 7= -999:=rfl;have e2:hiAt 7=999:=rfl;exact⟨fL bC rfl aE (nL L (3+2*c)),rfl⟩
theorem zK(l:List Int):rightN (treeS l)=true/\0<=(treeS l).kind/\(treeS l).kind<=6:=by
 unfold treeS;generalize l.take 48=L;have cl:=nL L 1;have hk:=bU L 0 10 bC;have hx:=wH (p:=λn:Int=>0<=n/\n<=6) (d:=0) (by decide:∀n∈treeKinds,0<=n/\n<=6) (show(dQ L 0 10).toNat<10 by omega);unfold treeB;simp only[];generalize treeKinds.getD (dQ L 0 10).toNat 0=k at hx;split
 ·rename_i q;subst q;have hr:=bU L 2 1999 bC;have e1:loAt 0= -999:=rfl;have e2:hiAt 0=999:=rfl;exact⟨fL bC rfl aE cl,wI bC⟩
 split
 ·rename_i q;subst q;have hr:=bU L 2 4 bC;have e1:loAt 2=0:=rfl;have e2:hiAt 2=3:=rfl;exact⟨fL bC rfl aE cl,wI bC⟩
 split
 ·rename_i q;subst q;exact⟨right_mk.2 ⟨bC,bC,List.all_eq_true.2 λx hx=>(wK L _ x hx).2,bC,bC,cl,λx hx=>(wK L _ x hx).1⟩,wI bC⟩
 split
 ·rename_i q;have hb:rightN (.mk 8 [] 0 (bodyM L L.length [] 2))=true:=vO (Fv L _ [] 2 λx hx=>by cases hx);rcases q with rfl|rfl<;>exact⟨right_mk.2 ⟨bC,bC,rfl,bC,bC,cl,WO hb⟩,wI bC⟩
 ·have q:k=3\/k=4:=aE;rcases q with rfl|rfl<;>exact⟨fL bC rfl bC cl,wI bC⟩
theorem Fw(l:List Int):Nw (treeS l):=xF (zK l).1 (zK l).2.1 (zK l).2.2
section
attribute[local simp] kQ.cond Nd.d_eq nd_t nd_dr nd_td ndsD aZ
theorem Tl{x:Nd}(h:Nw x):(textT x).length<=40*weighN x+40:=by
 obtain⟨_,h⟩:=h;have hw:=weighN_eq x;have wl:=sH x.kind;have il:=cC x.n;have it:=qA x.kids;unfold textT;simp only[];split
 ·rename_i q;split
  ·rename_i b hb;have hB:jG b:=by
    rcases h with⟨_,c,hx,hc⟩|⟨z,_⟩|⟨z,_⟩|⟨z,_⟩|⟨z,_⟩
    ·rw[hx]at hb;have hb:[c]=[b]:=hb;injection hb with hb _
     rw[<-hb];exact hc
    all_goals omega
   have hl:=(eL b).2 hB;rw[hb]at hw;simp only[weighL]at hw;simp only[List.length_append,List.length_cons];omega
  ·exact Nat.zero_le _
 ·split
  ·simp only[List.length_append,List.length_cons,List.length_nil];omega
  ·split
   ·simp only[List.length_append,List.length_cons,List.length_nil];omega
   ·split
    ·simp only[List.length_append,List.length_cons,List.length_nil];omega
    ·simp only[List.length_append,List.length_cons,List.length_nil];omega
theorem Tm(l:List Int):(textT (treeS l)).length<=40000040:=by
 have:=Tl (Fw l);have:=EQ l;omega
end
section
attribute[local simp] kQ.cond Nd.d_eq nd_t nd_dr nd_td ndsD aZ bF bP
def Mc(l:List Int):Df:=⟨(treeS l).text,textT (treeS l)⟩
theorem Md(l:List Int)(hl:Lc l):Ok prog 27 [.sl (l.map aI)] ⟨.d (Mc l).d,true⟩:=by
 refine Ok.cell hT func27 bY (c:=_) rfl ntmps27 aM results27 (by intro _ h;cases h) λw0 X hp=>?_;obtain⟨x,hx⟩:∃x,treeS l=x:=⟨_,rfl⟩;obtain⟨s,hs⟩:∃s,textT x=s:=⟨_,rfl⟩;have kx:=We l hl;have ks:=Kz x (by rw[<-hx];exact Fw l) (by have:=EQ l;rw[hx]at this;omega);rw[hx]at kx;rw[hs]at ks;simp at kx ks;apply aD;simp;refine cJ (λ|5=>some<| .plain ⟨.d x.d,false⟩|_=>none) ?_;simp;refine⟨kx,?_⟩;apply aG;refine eW.rd [[9],[9]] [[],[],[],[9],[],[2]] (λ|9=>some<| .plain ⟨.d (.str s),true⟩|_=>none) ?_;simp;refine⟨ks,?_⟩;apply aH;simp[Mc,hx,hs,Df.d]
theorem WP(k i v:Nat)(hk:k<14)(hi:i<3):(gB k i v).length<=6:=(LT hk hi).len
theorem Me(l:List Int)(hl:Lc l):Ok prog 22 [.sl (l.map aI)] ⟨.own 2 ((CO l).map Df.d),true⟩:=by
 refine Ok.ret func22 bY (c:=_) rfl ntmps22 aM results22 (by intro _ h;cases h) λw0 X hp=>?_;have aN:=Ja l 0 3 bC;have kN:=Kh l 0 3 hl bC;have hN:(xZ l:Int)=1+dQ l 0 3:=by unfold xZ;omega
 have hN3:=Jb l;apply aD;simp;apply aD;simp;apply aD;simp;apply dT;simp;apply aO;refine aU (ι:=Nat) (λi=>aR [(0,.d (.sl (l.map aI))),(3,.ow 3 0 (mN l i).1.length),(4,.d (.bool (mN l i).2)),(5,.d (aI (i:Nat)))]) (λi=>aL [(3,.row false 2 ((mN l i).1.map Df.d))]) (λi=>i<=xZ l) (λi=>xZ l-i) 0 (aA hp [0,3,4,5] [(3,3)] (by simp[mN]) (by simp[mN])) (Nat.zero_le _) λi hi4=>?_;apply aG;refine cJ (λ|9=>some<| .plain ⟨.d (aI (dQ l 0 3)),true⟩|_=>none) ?_;simp;refine⟨⟨by simpa using kN,aE⟩,?_⟩;apply aJ;simp;refine⟨λh4=>?_,λh4=>?_⟩
 ·have hi:i<xZ l:=aE;have an:=Ja l (1+i) 4096 bC;have kn:=Kh l (1+i) 4096 hl bC;obtain⟨n,hn⟩:∃n:Nat,dQ l (1+i) 4096=(n:Int):=⟨(dQ l (1+i) 4096).toNat,aE⟩;rw[hn]at kn an;have hmod:(n:Int).tmod 14=((n%14:Nat):Int):=rfl;have hdiv:(n:Int).tdiv 14=((n / 14:Nat):Int):=rfl;obtain⟨k,hk⟩:∃k:Nat,n%14=k:=⟨_,rfl⟩;obtain⟨v,hv⟩:∃v:Nat,n / 14=v:=⟨_,rfl⟩;have hk14:k<14:=aE;rw[hk]at hmod;rw[hv]at hdiv;obtain⟨st,hst⟩:∃st,mN l i=st:=⟨_,rfl⟩;obtain⟨P,hP⟩:∃P,gB k i v=P:=⟨_,rfl⟩;have kp:=LG k i v hk14 aE aE;rw[hP]at kp;have lP:P.length<=6:=by rw[<-hP];exact WP k i v hk14 aE
  have lS:st.1.length<=19:=by
   have h:=(Ft l i aE).len;have hb:(mN l i).2.toNat<=1:=Bool.toNat_le _;rw[hst]at h hb;omega
  have hnx:mN l (i+1)=if k=9/\st.2=false then(st.1++P++[fN],true)else(st.1++P,st.2):=by
   rw[BE,hst];unfold Ta;simp only[hn,Int.toNat_natCast,hk,hv,hP]
  rw[hst];apply aF;simp;refine aY (ι:=Unit) (λu=>aR [(0,.d (.sl (l.map aI))),(3,.ow 3 0 (mN l (i+1)).1.length),(4,.d (.bool (mN l (i+1)).2)),(5,.d (aI (i:Nat)))]) (λu=>aL [(3,.row false 2 ((mN l (i+1)).1.map Df.d))]) (λu=>True) ?_ λu hc5=>?_
  ·apply aO;refine cJ (λ|17=>some<| .plain ⟨.d (aI (n:Int)),true⟩|_=>none) ?_;simp;refine⟨⟨aE,by simpa using kn⟩,?_⟩;refine cJ (λ|24=>some<| .plain ⟨.own 2 (P.map Df.d),true⟩|_=>none) ?_;simp[hmod,hdiv];refine⟨⟨⟨aE,by simpa using kp⟩,aE⟩,?_⟩;apply aD;simp[hmod];apply aJ;simp;refine⟨λh8 h8b=>?_,λh8=>?_⟩
   ·rw[if_pos ⟨aE,h8b⟩]at hnx;apply aD;simp;refine⟨aE,?_⟩;apply aK;simp;exact(aA hp [0,3,4,5] [(36,3)] (by simp[hnx,Nat.add_assoc]) (by simp[hnx,fN,Df.d,List.take_of_length_le (show(List.map Df.d st.1++List.map Df.d P).length<=st.1.length+P.length by simp)]))
   ·rw[if_neg (λh=>by have:=h8 aE;rw[h.2]at this;cases this)]at hnx;apply aF;simp;exact(aA hp [0,3,4,5] [(25,3)] (by simp[hnx]) (by simp[hnx]))
  ·apply aK;simp;refine⟨aE,?_⟩;refine Pq.mk (i+1) (aA hp [0,3,4,5] [(3,3)]) ?_ ?_
   ·omega
   ·omega
 ·apply bE;simp;apply aG;have e:i=xZ l:=aE;subst e;have aT:=Ja l 4 64 bC;have kA:=Kh l 4 64 hl bC;have lO:=LY l;have kT:=OD (mN l (xZ l)).1 (dQ l 4 64) aE aE aE;obtain⟨T,hT1⟩:∃T,oE (mN l (xZ l)).1 (dQ l 4 64)=T:=⟨_,rfl⟩;rw[hT1]at kT;obtain⟨O1,hO1⟩:∃O1,(mN l (xZ l)).1=O1:=⟨_,rfl⟩;rw[hO1]at kT;have tO:List.take O1.length (List.map Df.d O1)=List.map Df.d O1:=List.take_of_length_le (by rw[List.length_map];exact Nat.le_refl _);refine aP (λ|39=>some<| .plain ⟨.d (aI (dQ l 4 64)),true⟩|40=>some<| .plain ⟨.own 2 (T.map Df.d),true⟩|_=>none) ?_;simp[hO1,tO];refine⟨⟨by simpa using kA,by simpa using kT⟩,?_⟩;apply aH;simp[CO,hT1]
end
section
attribute[local simp] kQ.cond Nd.d_eq nd_t nd_dr nd_td ndsD aZ bF bP
def spN:List aW:=[[],[120,48],[116,48],[122,111,111],[105,102]]
def spW:List aW:=[[108,111,99,107],[102,105,108,101],[114,101,99],[112,114,111,99],[116,101,115,116]]
def spT:List aW:=[[59],[59],[32,123,32,97,32,61,32,49,59,32,99,32,61,32,50,59,32,125],[32,123,32,125],[32,123,32,125]]
def spZ:List aW:=[[99,97,108,108,32,122,59],[103,111,32,122,59],[99,97,108,108,32,122,122,59]]
def spA:List aW:=[[97],[98]]
def spC:List aW:=[[97],[98],[99]]
theorem WQ:∀w∈spN,w.length<=60:=bC
theorem WR:∀w∈spW,w.length<=60:=bC
theorem WS:∀w∈spT,w.length<=60:=bC
theorem WT:∀w∈spZ,w.length<=60:=bC
theorem WU:∀w∈spA,w.length<=60:=bC
theorem WV:∀w∈spC,w.length<=60:=bC
def vD(j:Nat):Df:=⟨[118]++itoaS (j:Int),[118,97,114,32,118]++itoaS (j:Int)++[32,61,32,49,59]⟩
def sW(l:List Df)(m:Nat):List Df:=l++(List.range (m-l.length)).map λj=>vD (l.length+j)
def Fx(l:List Df)(how by_ c:Int)(k:Nat)(x:Df):List Df:=
 if c=0 then l.set k ⟨spN.getD (bH (by_.tdiv 3) 5).toNat [],x.text⟩
 else if c=1\/c=2 then l.set k ⟨x.name,changedS x.text (by_.tdiv 3) (how.tdiv 11) by_⟩
 else if c=3 then l.eraseIdx k
 else if c=4 then l++[x]
 else if c=5 then l.set k ⟨x.name,spW.getD (bH (by_.tdiv 3) 5).toNat []++[32]++x.name++spT.getD (bH (by_.tdiv 3) 5).toNat []⟩
 else if c=6 then l++[⟨[122,111,111],[112,114,111,99,32,122,111,111,32,123,32,99,97,108,108,32]++x.name++[59,32,103,111,32,122,111,111,59,32,125]⟩]
 else if c=7 then l++[⟨[122],[112,114,111,99,32,122,32,123,32,99,97,108,108,32,122,122,59,32,125]⟩,⟨[122,122],[112,114,111,99,32,122,122,32,123,32]++spZ.getD (bH by_ 3).toNat []++[32,125]⟩]
 else if c=8 then l++[⟨[103],[114,101,99,32,103,32,123,32,97,32,61,32,49,59,32]++spA.getD (bH by_ 2).toNat []++[32,61,32,50,59,32,125]⟩,⟨[119],[112,114,111,99,32,119,32,123,32,103,46]++spC.getD (bH (by_.tdiv 2) 3).toNat []++[32,61,32,49,59,32,125]⟩]
 else if c=9 then sW l (23+(bH by_ 3).toNat)
 else l.set k ⟨x.name,spacedS x.text [by_,by_.tdiv 3,by_.tdiv 7,how,by_.tdiv 2,1,2]⟩
def jQ(l:List Df)(how by_:Int):List Df:=
 if l=[]then [Mc [how,by_]]else Fx l how by_ (bH how 11) (bH by_ l.length).toNat (l.getD (bH by_ l.length).toNat default)
structure oN(n m:Nat)(l:List Df):Prop where
 len:l.length<=n
 each:∀d∈l,d.name.length<=m/\d.text.length<=m
theorem oN.set{n m:Nat}{l:List Df}(h:oN n m l){k:Nat}{x:Df}(hx:x.name.length<=m/\x.text.length<=m):oN n m (l.set k x):=
 ⟨by rw[List.length_set];exact h.len,λd hd=>(List.mem_or_eq_of_mem_set hd).elim (h.each d) λe=>e▸hx⟩
theorem oN.app{n n' m:Nat}{l l':List Df}(h:oN n m l)(h':oN n' m l'):oN (n+n') m (l++l'):=
 ⟨by rw[List.length_append];have:=h.len;have:=h'.len;omega,λd hd=>(List.mem_append.1 hd).elim (h.each d) (h'.each d)⟩
theorem oN.mono{n n' m m':Nat}{l:List Df}(h:oN n m l)(hn:n<=n')(hm:m<=m'):oN n' m' l:=
 ⟨Nat.le_trans h.len hn,λd hd=>⟨Nat.le_trans (h.each d hd).1 hm,Nat.le_trans (h.each d hd).2 hm⟩⟩
theorem Pa{l m:List Df}(h:Is m (sW l m.length))(hl:l.length<=m.length):Is (m++[vD m.length]) (sW l (m++[vD m.length]).length):=by
 have h:m=sW l m.length:=h;show m++[vD m.length]=_;unfold sW at h|-;rw[List.length_append,List.length_singleton,show m.length+1-l.length=(m.length-l.length)+1 by omega,List.range_succ,List.map_append,<-List.append_assoc,<-h];simp[show l.length+(m.length-l.length)=m.length by omega]
theorem Tn{l m:List Df}{n:Nat}(h:Is m (sW l m.length))(hl:l.length<=m.length)(h1:n<=m.length)(h2:l.length<m.length->m.length<=n):Is m (sW l n):=by
 by_cases e:l.length<m.length
 ·rw[show n=m.length by have:=h2 e;omega];exact h
 ·have h:m=sW l m.length:=h;have e2:m.length=l.length:=aE;show m=_;rw[h,e2];unfold sW;rw[show n-l.length=0 by omega,Nat.sub_self]
theorem WW{b:List DV}{n k:Nat}(hn:b.length=n)(hk:k<n):List.take (n-1) (List.take k b++(List.take (n-(k+1)) (List.drop (k+1) b)++List.drop (n-1) b))=b.eraseIdx k:=by
 rw[<-List.append_assoc,List.take_append_of_le_length kG,List.take_of_length_le kG,List.take_of_length_le (l:=List.drop (k+1) b) kG,List.eraseIdx_eq_take_drop_succ]
theorem aAt{l:List Df}{k:Nat}:(l.eraseIdx k).map Df.d=(l.map Df.d).eraseIdx k:=by
 rw[List.eraseIdx_eq_take_drop_succ,List.eraseIdx_eq_take_drop_succ,List.map_append,List.map_take,List.map_drop]
theorem xU{L:List aW}{n:Int}{w:aW}(h0:0<=n)(h1:n.toNat<L.length)(hw:L.getD n.toNat []=w):(L.map DV.str)[n.toNat]?.getD default=.str w:=by
 rw[wC h1,hw]
theorem CH(l:List Df)(how by_:Int)(hs:oN 100 100000000 l)(hh:AD how)(hb:AD by_):Ok prog 26 [eO l,aI how,aI by_] ⟨.own 2 ((jQ l how by_).map Df.d),true⟩:=by
 refine Ok.ret func26 bY (c:=_) rfl ntmps26 aM results26 (by intro _ h;cases h) λw0 X hp=>?_;have hl:=hs.len;have hb3:AD (by_.tdiv 3):=IG (m:=2) hb;have hb7:AD (by_.tdiv 7):=IG (m:=6) hb;have hb2:AD (by_.tdiv 2):=IG (m:=1) hb;have hh11:AD (how.tdiv 11):=IG (m:=10) hh;unfold AD at hh hb hb3 hb7 hb2 hh11;apply aD;simp;apply aD;simp;refine⟨aE,?_⟩;apply aG;apply aV;simp;refine⟨λh2=>?_,λh2=>?_⟩
 ·have hnil:l=[]:=by first|exact h2|exact List.eq_nil_of_length_eq_zero aE
  subst hnil;have kd:=Md [how,by_] (by intro n hn;simp at hn;rcases hn with rfl|rfl<;>assumption);obtain⟨D,hD⟩:∃D,Mc [how,by_]=D:=⟨_,rfl⟩;rw[hD]at kd;have hsp:jQ [] how by_=[D]:=by unfold jQ;rw[if_pos rfl,hD]
  refine cJ (λ|19=>some<| .plain ⟨.d D.d,true⟩|_=>none) ?_;simp;refine⟨⟨rfl,by simpa using kd⟩,?_⟩;apply aH;simp[hsp]
 ·have hne:l≠[]:=λe=>h2 (by rw[e]);have hpos:0<l.length:=List.length_pos_iff.2 hne;have ak:=dG by_ (l.length:Int) aE;have kk:=eK by_ (l.length:Int) hb.1 hb.2 aE;obtain⟨k,hk⟩:∃k:Nat,bH by_ (l.length:Int)=(k:Int):=⟨(bH by_ (l.length:Int)).toNat,aE⟩;rw[hk]at ak kk;have hkl:k<l.length:=aE;obtain⟨x,hx⟩:∃x,l[k]=x:=⟨_,rfl⟩;obtain⟨hxn,hxt⟩:=hs.each x (hx▸List.getElem_mem hkl);have hgx:l.getD k default=x:=by rw[List.getD_eq_getElem?_getD,List.getElem?_eq_getElem hkl,hx];rfl
  have ac:=dG how 11 bC;have kc:=eK how 11 hh.1 hh.2 bC;obtain⟨c,hc⟩:∃c,bH how 11=c:=⟨_,rfl⟩;rw[hc]at ac kc;have hsp:jQ l how by_=Fx l how by_ c k x:=by unfold jQ;rw[if_neg hne,hk,Int.toNat_natCast,hc,hgx]
  apply aF;simp;refine cJ (λ|24=>some<| .plain ⟨.d (aI (k:Int)),true⟩|_=>none) ?_;simp;refine⟨kk,?_⟩;apply aD;simp[hkl,hx];refine aY (ι:=List Df) (λr=>aR [(7,.ow 7 0 r.length)]) (λr=>aL [(7,.row false 2 (r.map Df.d))]) (λr=>Is r (Fx l how by_ c k x)) ?_ λr hc28=>?_
  ·refine cJ (λ|31=>some<| .plain ⟨.d (aI c),true⟩|_=>none) ?_;simp;refine⟨kc,?_⟩;apply aO;apply aV;simp;refine⟨λh8=>?_,λh8=>?_⟩
   ·have aw1:=dG (by_.tdiv 3) 5 bC;have kk1:=eK (by_.tdiv 3) 5 hb3.1 hb3.2 bC;obtain⟨w1,hw1⟩:∃w,spN.getD (bH (by_.tdiv 3) 5).toNat []=w:=⟨_,rfl⟩;have lw1:w1.length<=60:=by rw[<-hw1];exact dA WQ
    have cw1:=xU (L:=spN) aw1.1 (by show _<5;omega) hw1;simp[spN]at cw1;refine aP (λ|58=>some<| .plain ⟨.d (aI (bH (by_.tdiv 3) 5)),true⟩|_=>none) ?_;simp[hkl,hx,cw1];refine⟨by(repeat' with_reducible apply And.intro)<;>first|omega|with_reducible assumption|decide|simpa using kk1|simpa using kk2,?_⟩;refine XG.mk (l.set k ⟨w1,x.text⟩) (aA hp [7] [(12,7)] (hH:=by simp[Df.d])) ?_;have e:c=0:=aE;subst e;show l.set k ⟨w1,x.text⟩=_;rw[<-hw1];rfl
   ·refine aY (ι:=Unit) (λcc=>aR [(0,.d (eO l)),(1,.d (aI how)),(2,.d (aI by_)),(7,.ow 12 0 l.length),(8,.d (aI (k:Nat))),(9,.d (.str x.name)),(31,.d (aI c)),(63,.d (.bool (decide (c=1\/c=2))))]) (λcc=>aL [(12,.row false 2 (l.map Df.d))]) (λcc=>True) ?_ λcc hc12=>?_
    ·apply aV;simp;refine⟨λh10=>?_,λh10=>?_⟩
     ·apply aF;simp;exact(aA hp [0,1,2,7,8,9,31,63] [(12,12)] (by simp[h10]))
     ·apply aK;simp;exact(aA hp [0,1,2,7,8,9,31,63] [(12,12)] (by simp[h10]))
    ·apply aJ;simp;refine⟨λh12=>?_,λh12 h12b=>?_⟩
     ·have kk1:=Mb x.text (by_.tdiv 3) (how.tdiv 11) by_ aE hb3 hh11 hb;refine aP (λ|78=>some<| .plain ⟨.d (.str (changedS x.text (by_.tdiv 3) (how.tdiv 11) by_)),true⟩|_=>none) ?_;simp[hkl,hx];refine⟨by(repeat' with_reducible apply And.intro)<;>first|omega|with_reducible assumption|decide|simpa using kk1|simpa using kk2,?_⟩;refine XG.mk (l.set k ⟨x.name,changedS x.text (by_.tdiv 3) (how.tdiv 11) by_⟩) (aA hp [7] [(12,7)] (hH:=by simp[Df.d])) ?_;rcases h12 with e|e<;>(subst e;rfl)
     ·apply aV;simp;refine⟨λh13=>?_,λh13=>?_⟩
      ·apply aG;refine eW.rd [] [[],[],[],[],[],[],[],[12],[6]] (λ|90=>some .inp|_=>none) ?_;simp[(show((l.length:Int)-((k:Int)+1)).toNat=l.length-(k+1)by omega),(show k+(l.length-(k+1))=l.length-1 by omega)];refine⟨aE,?_⟩;apply aH;have e:jQ l how by_=l.eraseIdx k:=by rw[hsp,h13];rfl
       rw[e];have el:(l.eraseIdx k).length=l.length-1:=by rw[List.length_eraseIdx];simp[hkl]
       have er:=WW (b:=l.map Df.d) (n:=l.length) aM hkl;simp[el];exact⟨aE,by rw[aAt];exact er⟩
      ·apply aV;simp;refine⟨λh15=>?_,λh15=>?_⟩
       ·apply aK;simp[hkl,hx];refine⟨aE,?_⟩;refine XG.mk (l++[x]) (aA hp [7] [(99,7)] (hH:=by simp[Df.d])) ?_;have e:c=4:=aE;subst e;show l++[x]=_;rfl
       ·apply aV;simp;refine⟨λh17=>?_,λh17=>?_⟩
        ·have aw1:=dG (by_.tdiv 3) 5 bC;have kk1:=eK (by_.tdiv 3) 5 hb3.1 hb3.2 bC;obtain⟨w1,hw1⟩:∃w,spW.getD (bH (by_.tdiv 3) 5).toNat []=w:=⟨_,rfl⟩;have lw1:w1.length<=60:=by rw[<-hw1];exact dA WR
         have cw1:=xU (L:=spW) aw1.1 (by show _<5;omega) hw1;simp[spW]at cw1;have aw2:=dG (by_.tdiv 3) 5 bC;have kk2:=eK (by_.tdiv 3) 5 hb3.1 hb3.2 bC;obtain⟨w2,hw2⟩:∃w,spT.getD (bH (by_.tdiv 3) 5).toNat []=w:=⟨_,rfl⟩;have lw2:w2.length<=60:=by rw[<-hw2];exact dA WS
         have cw2:=xU (L:=spT) aw2.1 (by show _<5;omega) hw2;simp[spT]at cw2;refine eW.rd [[104,107,113,116],[104,107,113,116],[107,113,116],[104,113],[104,113],[104,113],[113,116],[113,116],[113,116],[104,107,113,116],[113,116],[104,107,116],[104,107,113],[104,107,113],[104,113],[104],[104]] [[],[],[104],[],[],[107],[],[],[],[],[],[113],[],[],[116],[],[],[],[],[],[12]] (λ|107=>some<| .plain ⟨.d (aI (bH (by_.tdiv 3) 5)),true⟩|116=>some<| .plain ⟨.d (aI (bH (by_.tdiv 3) 5)),true⟩|_=>none) ?_;simp[hkl,hx,cw1,cw2];refine⟨by(repeat' with_reducible apply And.intro)<;>first|omega|with_reducible assumption|decide|simpa using kk1|simpa using kk2,?_⟩;refine XG.mk (l.set k ⟨x.name,w1++[32]++x.name++w2⟩) (aA hp [7] [(12,7)] (hH:=by simp[Df.d])) ?_;have e:c=5:=aE;subst e;show l.set k ⟨x.name,w1++[32]++x.name++w2⟩=_;rw[<-hw1,<-hw2];rfl
        ·apply aV;simp;refine⟨λh19=>?_,λh19=>?_⟩
         ·apply aK;simp;refine⟨aE,?_⟩;refine XG.mk (l++[⟨[122,111,111],[112,114,111,99,32,122,111,111,32,123,32,99,97,108,108,32]++x.name++[59,32,103,111,32,122,111,111,59,32,125]⟩]) (aA hp [7] [(130,7)] (hH:=by simp[Df.d])) ?_;have e:c=6:=aE;subst e;show l++[⟨[122,111,111],[112,114,111,99,32,122,111,111,32,123,32,99,97,108,108,32]++x.name++[59,32,103,111,32,122,111,111,59,32,125]⟩]=_;rfl
         ·apply aV;simp;refine⟨λh21=>?_,λh21=>?_⟩
          ·have aw1:=dG by_ 3 bC;have kk1:=eK by_ 3 hb.1 hb.2 bC;obtain⟨w1,hw1⟩:∃w,spZ.getD (bH by_ 3).toNat []=w:=⟨_,rfl⟩;have lw1:w1.length<=60:=by rw[<-hw1];exact dA WT
           have cw1:=xU (L:=spZ) aw1.1 (by show _<3;omega) hw1;simp[spZ]at cw1;refine aP (λ|137=>some<| .plain ⟨.d (aI (bH by_ 3)),true⟩|_=>none) ?_;simp[cw1];refine⟨by(repeat' with_reducible apply And.intro)<;>first|omega|with_reducible assumption|decide|simpa using kk1|simpa using kk2,?_⟩;refine XG.mk (l++[⟨[122],[112,114,111,99,32,122,32,123,32,99,97,108,108,32,122,122,59,32,125]⟩,⟨[122,122],[112,114,111,99,32,122,122,32,123,32]++w1++[32,125]⟩]) (aA hp [7] [(144,7)] (hH:=by simp[Df.d])) ?_;have e:c=7:=aE;subst e;show l++[⟨[122],[112,114,111,99,32,122,32,123,32,99,97,108,108,32,122,122,59,32,125]⟩,⟨[122,122],[112,114,111,99,32,122,122,32,123,32]++w1++[32,125]⟩]=_;rw[<-hw1];rfl
          ·apply aV;simp;refine⟨λh23=>?_,λh23=>?_⟩
           ·have aw1:=dG by_ 2 bC;have kk1:=eK by_ 2 hb.1 hb.2 bC;obtain⟨w1,hw1⟩:∃w,spA.getD (bH by_ 2).toNat []=w:=⟨_,rfl⟩;have lw1:w1.length<=60:=by rw[<-hw1];exact dA WU
            have cw1:=xU (L:=spA) aw1.1 (by show _<2;omega) hw1;simp[spA]at cw1;have aw2:=dG (by_.tdiv 2) 3 bC;have kk2:=eK (by_.tdiv 2) 3 hb2.1 hb2.2 bC;obtain⟨w2,hw2⟩:∃w,spC.getD (bH (by_.tdiv 2) 3).toNat []=w:=⟨_,rfl⟩;have lw2:w2.length<=60:=by rw[<-hw2];exact dA WV
            have cw2:=xU (L:=spC) aw2.1 (by show _<3;omega) hw2;simp[spC]at cw2;refine eW.rd [[148,150,156,159,165],[150,156,159],[148,156],[148,156],[156,159],[156,159],[156,159],[156,159],[156,159],[148,150,159],[148,150,156],[148,150,156],[148,156],[148],[148],[148],[148],[148]] [[],[148],[],[150],[],[],[],[],[],[156],[],[],[159],[],[],[],[],[],[165],[12,166]] (λ|150=>some<| .plain ⟨.d (aI (bH by_ 2)),true⟩|159=>some<| .plain ⟨.d (aI (bH (by_.tdiv 2) 3)),true⟩|_=>none) ?_;simp[cw1,cw2];refine⟨by(repeat' with_reducible apply And.intro)<;>first|omega|with_reducible assumption|decide|simpa using kk1|simpa using kk2,?_⟩;refine XG.mk (l++[⟨[103],[114,101,99,32,103,32,123,32,97,32,61,32,49,59,32]++w1++[32,61,32,50,59,32,125]⟩,⟨[119],[112,114,111,99,32,119,32,123,32,103,46]++w2++[32,61,32,49,59,32,125]⟩]) (aA hp [7] [(166,7)] (hH:=by simp[Df.d])) ?_;have e:c=8:=aE;subst e;show l++[⟨[103],[114,101,99,32,103,32,123,32,97,32,61,32,49,59,32]++w1++[32,61,32,50,59,32,125]⟩,⟨[119],[112,114,111,99,32,119,32,123,32,103,46]++w2++[32,61,32,49,59,32,125]⟩]=_;rw[<-hw1,<-hw2];rfl
           ·apply aV;simp;refine⟨λh25=>?_,λh25=>?_⟩
            ·apply aO;refine aU (ι:=List Df) (λm=>aR [(2,.d (aI by_)),(7,.ow 12 0 m.length)]) (λm=>aL [(12,.row false 2 (m.map Df.d))]) (λm=>Is m (sW l m.length)/\l.length<=m.length/\(l.length<m.length->m.length<=23+(bH by_ 3).toNat)/\m.length<=100) (λm=>30-m.length) l (aA hp [2,7] [(12,12)]) (⟨by unfold sW Is;simp,Nat.le_refl _,λh=>absurd h (Nat.lt_irrefl _),hl⟩) λm hi26=>?_;apply eA;have aw:=dG by_ 3 bC;have kk1:=eK by_ 3 hb.1 hb.2 bC;refine aP (λ|172=>some<| .plain ⟨.d (aI (bH by_ 3)),true⟩|_=>none) ?_;simp;refine⟨⟨kk1,aE⟩,?_⟩;apply aJ;simp;refine⟨λh26=>?_,λh26=>?_⟩
             ·apply aF;simp;apply aO;have kd:=sT (m.length:Int) aE aE;have il:=cC (m.length:Int);refine aP (λ|178=>some<| .plain ⟨.d (.str (itoaS (m.length:Int))),true⟩|182=>some<| .plain ⟨.d (.str (itoaS (m.length:Int))),true⟩|_=>none) ?_;simp;refine⟨by(repeat' with_reducible apply And.intro)<;>first|omega|with_reducible assumption,?_⟩;refine Pq.mk (m++[vD m.length]) (aA hp [2,7] [(187,12)] (hH:=by simp[vD,Df.d])) ?_ ?_
              ·exact⟨Pa hi26.1 hi26.2.1,kG,λ_=>kG,kG⟩
              ·simp;omega
             ·apply bE;simp;refine XG.mk (m) (aA hp [7] [(12,7)] (hH:=by simp[Df.d])) ?_;have e:c=9:=aE;subst e;exact Tn hi26.1 hi26.2.1 aE hi26.2.2.1
            ·have kk1:=OW x.text [by_,by_.tdiv 3,by_.tdiv 7,how,by_.tdiv 2,1,2] aE (by intro n hn;simp at hn;rcases hn with rfl|rfl|rfl|rfl|rfl|rfl|rfl<;>omega);obtain⟨sp,hsp1⟩:∃w,spacedS x.text [by_,by_.tdiv 3,by_.tdiv 7,how,by_.tdiv 2,1,2]=w:=⟨_,rfl⟩;rw[hsp1]at kk1;simp at kk1;refine aP (λ|48=>some<| .plain ⟨.d (.str sp),true⟩|_=>none) ?_;simp[hkl,hx];refine⟨by(repeat' with_reducible apply And.intro)<;>first|omega|with_reducible assumption|decide|simpa using kk1|simpa using kk2,?_⟩;refine XG.mk (l.set k ⟨x.name,sp⟩) (aA hp [7] [(12,7)] (hH:=by simp[Df.d])) ?_;have e:c=10:=aE;subst e;show l.set k ⟨x.name,sp⟩=_;rw[<-hsp1];rfl
  ·apply aD;simp;apply aH;have e:r=jQ l how by_:=(show r=_ from hc28).trans hsp.symm;have tk:List.take r.length (List.map Df.d r)=List.map Df.d r:=List.take_of_length_le (by rw[List.length_map];exact Nat.le_refl _);simp[<-e,tk]
end
section
attribute[local simp] kQ.cond Nd.d_eq nd_t nd_dr nd_td ndsD aZ bF bP YC YD YE cZ.r
def Fy(us:List cZ):List aW:=us.foldl (λM u=>iZ M u.name) []
theorem WX(l:List aW)(s:aW):(iZ l s).length<=l.length+1:=by
 unfold iZ;split
 ·omega
 ·rw[oS];exact Nat.le_refl _
def Qx(l:List Df):Option Nat->List aW×Int
 |none=>([],6)
 |some i=>if(parseS (l.getD i default).text).2.2≠0 then([],(parseS (l.getD i default).text).2.2)else(Fy (bJ (parseS (l.getD i default).text).1),0)
def Qy(l:List Df)(name:aW):List aW×Int:=Qx l (l.findIdx? λd=>decide (d.name=name))
end
section
attribute[local simp] kQ.cond Nd.d_eq nd_t nd_dr nd_td ndsD aZ bF bP
def Pb(l:List Df):List aW:=if(nK l).2≠0 then []else l.foldl (λM d=>if(parseS d.text).1.kind=6 then iZ M d.name else M) []
def Jc(l:List Df):List aW:=l.foldl (λM d=>if(parseS d.text).1.kind=6 then iZ M d.name else M) []
end
section
attribute[local simp] kQ.cond Nd.d_eq nd_t nd_dr nd_td ndsD aZ bF bP
end
section
attribute[local simp] kQ.cond Nd.d_eq nd_t nd_dr nd_td ndsD aZ bF bP
def uL:List Df:=[⟨[97],[118,97,114,32,97,32,61,32,48,59]⟩,⟨[103],[114,101,99,32,103,32,123,32,110,32,61,32,49,59,32,125]⟩,⟨[112],[112,114,111,99,32,112,32,123,32,97,32,61,32,103,46,110,59,32,125]⟩,
 ⟨[113],[112,114,111,99,32,113,32,123,32,99,97,108,108,32,112,59,32,103,111,32,113,59,32,125]⟩,⟨[116],[116,101,115,116,32,116,32,123,32,99,97,108,108,32,112,59,32,99,104,101,99,107,32,97,32,61,61,32,49,59,32,125]⟩]
def Zn(t:aW):List Df:=[uL[0],uL[1],⟨[112],t⟩,uL[3],uL[4]]
theorem Fz:Ok prog 32 [] ⟨.own 2 (uL.map Df.d),true⟩:=by
 refine Ok.ret func32 bY (c:=_) rfl ntmps32 aM results32 (by intro _ h;cases h) λw0 X hp=>?_;apply aD;simp;apply aD;simp;refine⟨bC,?_⟩;apply aH;simp[uL,Df.d]
theorem Jd(t:aW):Ok prog 33 [.str t] ⟨.own 2 ((Zn t).map Df.d),true⟩:=by
 refine Ok.ret func33 bY (c:=_) rfl ntmps33 aM results33 (by intro _ h;cases h) λw0 X hp=>?_;apply aD;simp;refine cJ (λ|4=>some<| .plain ⟨.own 2 (uL.map Df.d),true⟩|_=>none) ?_;simp;refine⟨Fz,?_⟩;apply aD;simp;refine⟨⟨bC,bC⟩,?_⟩;apply aD;simp;apply aH;simp[Zn,uL,Df.d]
end
section
attribute[local simp] kQ.cond Nd.d_eq nd_t nd_dr nd_td ndsD aZ bF bP
theorem Mf{l:List Df}{c:Bool}:∀(f n:Nat) (st:List aW×List aW),Lx (CN l) st->(zE l c f n st).length<=(CN l).length
 |0,_,st,h=>by have:=h.room;rw[zE];omega
 |f+1,n,st,h=>by
  rw[zE];cases q:st.2[n]? with
  |none=>have:=h.room;simp only;omega
  |some nm=>
   simp only;refine Mf f (n+1) _ ?_;unfold Lw;split
   ·exact h
   ·rename_i hx;exact(Fp (c:=c) (bJ (Qn l nm)) st (BA aE) h).2.2.2.2.2.1
theorem Pc(l:List Df)(name:aW)(c:Bool):(gS l name c).length<=(CN l).length:=Mf _ _ _ ⟨by simp[AI],rfl⟩
def To(l:List Df)(nm:aW):Df:=l.getD (fH l nm).toNat default
def tZ(l:List Df)(name:aW):List Df×Int:=
 if(nK l).2≠0 then([],(nK l).2)else if fH l name<0 then([],6)else((iZ (gS l name false) name).map (To l),0)
theorem YY{l:List Df}(h:(nK l).2=0):l.length<=24:=by
 unfold nK at h;split at h
 ·cases h
 ·omega
theorem Tp(l:List Df)(name:aW)(hl:l.length<=1000000):Ok prog 21 [eO l,.str name] ⟨.tup [.own 2 ((tZ l name).1.map Df.d),.d (aI (tZ l name).2)],true⟩:=by
 refine Ok.two func21 bY (c:=_) rfl ntmps21 aM results21 rfl λw0 X hp=>?_;obtain⟨C,hC⟩:∃C,nK l=C:=⟨_,rfl⟩;have kc:=SX l;have h24:=YY (l:=l);have hS:tZ l name=if C.2≠0 then([],C.2)else if fH l name<0 then([],6)else((iZ (gS l name false) name).map (To l),0):=by unfold tZ;rw[hC]
 rw[hC]at kc h24;apply aD;simp;refine cJ (λ|13=>some<| .plain ⟨.tup [.d (aI C.1),.d (aI C.2)],true⟩|_=>none) ?_;simp[bD];refine⟨by simpa using kc,?_⟩;apply aG;apply aV;simp;refine⟨λh2=>?_,λh2=>?_⟩
 ·rw[if_pos h2]at hS;apply aD;simp;apply aH;simp[hS]
 ·rw[if_neg (by simpa using h2)]at hS;have hl24:=h24 (by simpa using h2);apply aF;simp;apply eA;have ki:=nJ l name hl;refine aP (λ|21=>some<| .plain ⟨.d (aI (fH l name)),true⟩|_=>none) ?_;simp;refine⟨by simpa using ki,?_⟩;apply aJ;simp;refine⟨λh4=>?_,λh4=>?_⟩
  ·rw[if_pos h4]at hS;apply aD;simp;apply aH;simp[hS]
  ·rw[if_neg aE]at hS;apply aF;simp;apply aG;have kr:=Cw l name false aE;have hrl:=Pc l name false;have hul:=Ly l;obtain⟨R,hR⟩:∃R,gS l name false=R:=⟨_,rfl⟩;rw[hR]at kr hrl hS;have kp:=Qm R name aE;obtain⟨ns,hns⟩:∃ns,iZ R name=ns:=⟨_,rfl⟩;have hnl:=WX R name;rw[hns]at kp hnl hS;refine aP (λ|25=>some<| .plain ⟨.d (gO R),false⟩|27=>some<| .plain ⟨.d (gO ns),false⟩|_=>none) ?_;simp;refine⟨⟨by simpa using kr,by simpa using kp⟩,?_⟩;apply aD;simp;apply dT;simp;apply aO;refine aU (ι:=Nat) (λk=>aR [(0,.d (eO l)),(8,.d (gO ns)),(9,.ow 9 0 k),(10,.d (aI (k:Nat)))]) (λk=>aL [(9,.row false 2 (((ns.take k).map (To l)).map Df.d))]) (λk=>k<=ns.length) (λk=>ns.length-k) 0 (aA hp [0,8,9,10] [(9,9)]) (Nat.zero_le _) λk hi9=>?_;apply aG;apply aV;simp;refine⟨λh9=>?_,λh9=>?_⟩
   ·apply aF;simp;apply dH;have hk:k<ns.length:=aE;have kx:=nJ l ns[k] hl;have hlp:0<l.length:=by
     refine Nat.pos_of_ne_zero λh0=>?_;have e:l=[]:=List.eq_nil_of_length_eq_zero h0;subst e;exact absurd h4 (by simp[fH,nZ])
    have hix:(fH l ns[k]).toNat<l.length:=by
     by_cases hx:fH l ns[k]<0
     ·omega
     ·obtain⟨n,d,hn,hd,_⟩:=xS (l:=l) (name:=ns[k]) aE;have:=(List.getElem?_eq_some_iff.1 hd).1;rw[hn];simpa using this
    obtain⟨n,hn⟩:∃n,(fH l ns[k]).toNat=n:=⟨_,rfl⟩;rw[hn]at hix;obtain⟨d,hd⟩:∃d,l[n]=d:=⟨_,rfl⟩;have hdA:To l ns[k]=d:=by unfold To;rw[hn,List.getD_eq_getElem?_getD,List.getElem?_eq_getElem hix,hd];rfl
    have hmx:(if fH l ns[k]<0 then(0:Int)else fH l ns[k])=(n:Int):=by split<;>omega
    have hnd:List.take (k+1) (List.map (Df.d∘To l) ns)=List.take k (List.map (Df.d∘To l) ns)++[d.d]:=by
     rw[List.take_succ_eq_append_getElem (by simpa using hk)];simp[hdA]
    refine aP (λ|41=>some<| .plain ⟨.d (aI (fH l ns[k])),true⟩|_=>none) ?_;simp[hk,hmx,hix,hd];refine⟨⟨by simpa using kx,aE,aE⟩,?_⟩;apply aK;simp;refine⟨aE,?_⟩;refine Pq.mk (k+1) (aA hp [0,8,9,10] [(46,9)] (hH:=by simp[hnd,List.take_take,Df.d])) ?_ ?_
    ·omega
    ·omega
   ·apply bE;simp;apply aD;simp;apply aH;have e:k=ns.length:=aE;simp[hS,e]
end
set_option maxRecDepth 100000
theorem aAu:nK uL=(5,0):=bC
theorem WY:Qy uL [112]=([[97],[103]],0):=bC
theorem WZ:Qy uL [116]=([[97],[112]],0):=bC
theorem Xa:Pb uL=[[116]]:=bC
theorem Xb:tZ uL [116]=([uL[0],uL[1],uL[2],uL[4]],0):=bC
theorem YZ:nK (Zn [112,114,111,99,32,112,32,123,32,97,32,61,32,103,46,109,59,32,125])=(2,6):=bC
theorem Za:nK (Zn [112,114,111,99,32,112,32,123,32,97,32,61,32,116,59,32,125])=(2,12):=bC
theorem Zb:nK (Zn [112,114,111,99,32,112,32,123,32,99,97,108,108,32,113,59,32,125])=(2,13):=bC
theorem Zc:nK [uL[0],uL[2],uL[3],uL[4]]=(1,6):=bC
theorem Zd:Fe (bV [⟨[97],[118,97,114,32,97,61,48,32,59]⟩]) (bV [uL[0]])=true:=bC
abbrev CQ(a b:aW):Bool:=Op.bytesLess a b
theorem oG{out:List aW}{s:aW}(h:fB CQ out):fB CQ (iZ out s):=by
 unfold iZ;split
 ·exact h
 ·rename_i hn;obtain⟨s1,s2⟩:=Bn (p:=λy:aW=>Op.bytesLess s y) (out:=out) out.length (Nat.le_refl _);have hle:=CW (p:=λy:aW=>Op.bytesLess s y) (out:=out) out.length;unfold gP;generalize kM (λy:aW=>Op.bytesLess s y) out out.length=k at*;have hb:∀a∈out.take k,CQ a s=true:=λa ha=>by
   obtain⟨i,hi,rfl⟩:=List.getElem_of_mem ha;rw[List.getElem_take];rw[List.length_take]at hi;obtain⟨k',rfl⟩:∃k',k=k'+1:=⟨k-1,aE⟩;have hlt:k'<out.length:=aE;have h0:=s2 k' hlt rfl;have h1:CQ out[k'] s=true:=by
    cases q:CQ out[k'] s with
    |true=>rfl
    |false=>exact absurd (mP.total _ _ h0 q) (λe=>hn (by rw[e];exact List.getElem_mem hlt))
   by_cases e:i=k'
   ·subst e;exact h1
   ·exact mP.trans _ _ _ (List.pairwise_iff_getElem.1 h i k' aE hlt aE) h1
  have ha:∀b∈out.drop k,CQ s b=true:=λb hb=>by
   obtain⟨i,hi,rfl⟩:=List.getElem_of_mem hb;rw[List.getElem_drop];rw[List.length_drop]at hi;exact s1 (k+i) aE aE aE
  refine List.pairwise_append.2 ⟨h.sublist (List.take_sublist _ _),List.pairwise_cons.2 ⟨ha,h.sublist (List.drop_sublist _ _)⟩,λa ha' b hb'=>?_⟩;rcases List.mem_cons.1 hb' with rfl|hb'
  ·exact hb a ha'
  ·exact mP.trans _ _ _ (hb a ha') (ha b hb')
theorem AP{l:List aW}(h:l.Nodup):fB CQ (dS l):=by
 have hp:(dS l).Perm l:=List.mergeSort_perm l _;have hs:(dS l).Nodup:=hp.nodup_iff.2 h;have e:=rF hs;rw[<-e];exact oX mP ((oW l).imp λ{a b} h=>by
  rw[bytesLess_eq,decide_eq_false_iff_not,List.not_lt];exact h)
theorem HB{l:List aW}{s:aW}:s∈dS l↔s∈l:=(List.mergeSort_perm l _).mem_iff
theorem Mg(us:List cZ):fB CQ (Fy us)/\∀s,s∈Fy us↔∃u∈us,u.name=s:=by
 have:∀(us:List cZ) (M:List aW),fB CQ M->fB CQ (us.foldl (λM u=>iZ M u.name) M)/\∀s,s∈us.foldl (λM u=>iZ M u.name) M↔s∈M\/∃u∈us,u.name=s:=λus=>by
  induction us with
  |nil=>exact λM h=>⟨h,aM⟩
  |cons u r ih=>
   intro M h;obtain⟨h1,h2⟩:=ih (iZ M u.name) (oG h);rw[List.foldl_cons];refine⟨h1,λs=>?_⟩;rw[h2,jP];simp only[List.mem_cons,exists_eq_or_imp];constructor
   ·rintro((e|h)|h)
    ·exact .inr (.inl e.symm)
    ·exact .inl h
    ·exact .inr (.inr h)
   ·rintro(h|(e|h))
    ·exact .inl (.inr h)
    ·exact .inl (.inl e.symm)
    ·exact .inr h
 have h:=this us [] List.Pairwise.nil;exact⟨h.1,λs=>by simpa [Fy]using h.2 s⟩
theorem Mh(us:List cZ):(eP us).Nodup/\∀s,s∈eP us↔∃u∈us,u.name=s:=by
 have:∀(us:List cZ) (M:List aW),M.Nodup->(us.foldl (λM u=>By M u.name) M).Nodup/\∀s,s∈us.foldl (λM u=>By M u.name) M↔s∈M\/∃u∈us,u.name=s:=λus=>by
  induction us with
  |nil=>exact λM h=>⟨h,aM⟩
  |cons u r ih=>
   intro M h;have ha:(By M u.name).Nodup/\∀s,s∈By M u.name↔s∈M\/u.name=s:=by
    unfold By;split
    ·rename_i hm;exact⟨h,λs=>⟨.inl,λq=>q.elim id λe=>e▸hm⟩⟩
    ·rename_i hm;refine⟨List.nodup_append.2 ⟨h,aM,λa ha b hb e=>?_⟩,λs=>by simp[eq_comm]⟩;simp at hb;subst hb;subst e;exact hm ha
   obtain⟨h1,h2⟩:=ih (By M u.name) ha.1;rw[List.foldl_cons];refine⟨h1,λs=>?_⟩;rw[h2,ha.2];simp only[List.mem_cons,exists_eq_or_imp];rw[or_assoc]
 have h:=this us [] List.nodup_nil;exact⟨h.1,λs=>by simpa [eP]using h.2 s⟩
theorem Xd(us:List cZ):dS (eP us)=Fy us:=by
 obtain⟨h1,h2⟩:=Mh us;obtain⟨h3,h4⟩:=Mg us;exact xK mP (AP h1) h3 λs=>by rw[HB,h2,h4]
theorem Qz(l:List Df)(name:aW):Hm l name=Qy l name:=by
 unfold Hm Qy;cases l.findIdx? (λd=>decide (d.name=name))with
 |none=>rfl
 |some i=>
  simp only[Fd,Qx];rw[Xd]
theorem rH{l:List Df}(h:(dK l).2.2=0):(dK l).1=l.map bO:=by
 have h24:=((tW l).2.2 h).1;have hf:=Cz (l:=l) h24;cases q:dJ (q1 l) l.length with
 |some k=>rw[q]at hf;exact absurd h hf.2
 |none=>rw[q]at hf;rw[hf]
theorem Xe{l:List Df}(h:(l.map bO).map Nd.text=l.map Df.name):∀d∈l,(bO d).text=d.name:=by
 rw[List.map_map]at h;exact List.map_inj_left.1 h
theorem Pd{l:List Df}(h:∀d∈l,(bO d).text=d.name):iE (l.map bO)=(l.filter λd=>decide ((bO d).kind=6)).map Df.name:=by
 induction l with
 |nil=>rfl
 |cons d r ih=>
  have ih:=ih λx hx=>h x (List.mem_cons_of_mem _ hx);have hd:=h d (List.mem_cons_self ..);unfold iE at*;rw[List.map_cons];by_cases hk:(bO d).kind=6
  ·rw[List.filter_cons_of_pos (by simpa using hk),List.filter_cons_of_pos (by simpa using hk),List.map_cons,List.map_cons,ih,hd]
  ·rw[List.filter_cons_of_neg (by simpa using hk),List.filter_cons_of_neg (by simpa using hk),ih]
theorem Je(l:List Df):fB CQ (Jc l)/\∀s,s∈Jc l↔∃d∈l,(bO d).kind=6/\d.name=s:=by
 have:∀(l:List Df) (M:List aW),fB CQ M->fB CQ (l.foldl (λM d=>if(parseS d.text).1.kind=6 then iZ M d.name else M) M)/\∀s,s∈l.foldl (λM d=>if(parseS d.text).1.kind=6 then iZ M d.name else M) M↔s∈M\/∃d∈l,(bO d).kind=6/\d.name=s:=λl=>by
  induction l with
  |nil=>exact λM h=>⟨h,aM⟩
  |cons d r ih=>
   intro M h;rw[List.foldl_cons];by_cases hk:(parseS d.text).1.kind=6
   ·rw[if_pos hk];obtain⟨h1,h2⟩:=ih (iZ M d.name) (oG h);refine⟨h1,λs=>?_⟩;rw[h2,jP];simp only[List.mem_cons,exists_eq_or_imp];have hk':(bO d).kind=6:=hk;constructor
    ·rintro((e|h)|h)
     ·exact .inr (.inl ⟨hk',e.symm⟩)
     ·exact .inl h
     ·exact .inr (.inr h)
    ·rintro(h|(⟨_,e⟩|h))
     ·exact .inl (.inr h)
     ·exact .inl (.inl e.symm)
     ·exact .inr h
   ·rw[if_neg hk];obtain⟨h1,h2⟩:=ih M h;refine⟨h1,λs=>?_⟩;rw[h2];simp only[List.mem_cons,exists_eq_or_imp];have hk':¬(bO d).kind=6:=hk;constructor
    ·rintro(h|h)
     ·exact .inl h
     ·exact .inr (.inr h)
    ·rintro(h|(⟨e,_⟩|h))
     ·exact .inl h
     ·exact absurd e hk'
     ·exact .inr h
 have h:=this l [] List.Pairwise.nil;exact⟨h.1,λs=>by simpa [Jc]using h.2 s⟩
theorem Xf(l:List Df):IR l=Pb l:=by
 unfold IR Pb;have hc:=OJ l;by_cases h:(mK l).2.2=0
 ·have h':(nK l).2=0:=by rw[<-hc];exact h
  rw[if_neg (by simpa using h),if_neg (by simpa using h')];have hr:=IW h;obtain⟨hn,hd⟩:=rE hr;rw[IS,rH hr];rw[rH hr]at hn;rw[Pd (Xe hn)];obtain⟨h3,h4⟩:=Je l;have hnd:((l.filter λd=>decide ((bO d).kind=6)).map Df.name).Nodup:=hd.sublist (List.Sublist.map _ List.filter_sublist);refine xK mP (AP hnd) h3 λs=>?_;rw[HB];refine Iff.trans ?_ (h4 s).symm;simp only[List.mem_map,List.mem_filter,decide_eq_true_eq];constructor
  ·rintro⟨d,⟨h1,h2⟩,e⟩;exact⟨d,h1,h2,e⟩
  ·rintro⟨d,h1,h2,e⟩;exact⟨d,⟨h1,h2⟩,e⟩
 ·have h':(nK l).2≠0:=by rw[<-hc];exact h
  rw[if_pos h,if_pos h']
theorem HC{p:Nat->Bool}{n i:Nat}(h:dJ p n=some i):i<n/\p i=true:=by
 unfold dJ at h;exact⟨List.mem_range.1 (List.mem_of_find?_eq_some h),List.find?_some h⟩
theorem Pe{p:Nat->Bool}{n:Nat}(h:dJ p n=none):∀i<n,p i=false:=λi hi=>by
 unfold dJ at h;rw[List.find?_eq_none]at h;simpa using h i (List.mem_range.2 hi)
theorem Ze{l:List Df}(h:(nK l).2=0):∀i<l.length,q2 l i=false:=by
 unfold nK at h;split at h
 ·cases h
 ·unfold AK at h;cases a:dJ (q1 l) l.length with
  |some i=>
   rw[a]at h;have:=(HC a).2;unfold q1 at this;exact absurd h (of_decide_eq_true this)
  |none=>
   rw[a]at h;simp only at h;unfold AJ at h;cases b:dJ (q2 l) l.length with
   |some i=>
    rw[b]at h;have:=(HC b).2;unfold q2 at this;exact absurd h (of_decide_eq_true this)
   |none=>exact Pe b
theorem Mi{c:Bool}{st:List aW×List aW}{u:cZ}(h:fB CQ st.1):fB CQ (lG c st u).1:=by
 unfold lG;split
 ·exact oG h
 ·exact h
theorem wL{l:List Df}{c:Bool}:∀(f n:Nat) (st:List aW×List aW),fB CQ st.1->fB CQ (zE l c f n st)
 |0,_,_,h=>h
 |f+1,n,st,h=>by
  rw[zE];cases st.2[n]? with
  |none=>exact h
  |some nm=>
   refine wL f (n+1) _ ?_;unfold Lw;split
   ·exact h
   ·have:∀(us:List cZ) (st:List aW×List aW),fB CQ st.1->fB CQ (us.foldl (lG c) st).1:=λus=>by
     induction us with
     |nil=>exact λst h=>h
     |cons u r ih=>exact λst h=>ih _ (Mi h)
    exact this _ st h
theorem FO{L:List aW}(h:L.Pairwise λa b=>a<=b)(hn:L.Nodup):fB CQ L:=by
 rw[<-rF hn];exact oX mP (h.imp λ{a b} h=>by rw[bytesLess_eq,decide_eq_false_iff_not,List.not_lt];exact h)
theorem Zf{l:List Df}(h:(l.map bO).map Nd.text=l.map Df.name)(hn:(l.map Df.name).Nodup){i:Nat}(hi:i<l.length):To l l[i].name=l[i]:=by
 unfold To;rw[rG h,IZ h hn hi];simp only[qO,Int.toNat_natCast];rw[List.getD_eq_getElem?_getD,List.getElem?_eq_getElem hi];rfl
theorem QA(k:Int):Jj false k=CP k:=by simp[Jj,CP]
theorem Mj(l:List Df)(name:aW):Fk l name=tZ l name:=by
 unfold Fk tZ;have hc:=OJ l;by_cases hz:(mK l).2.2=0
 ·have hz':(nK l).2=0:=by rw[<-hc];exact hz
  rw[if_neg (by simpa using hz),if_neg (by simpa using hz')];have hr:=IW hz;obtain⟨hn,hd⟩:=rE hr;rw[IS,rH hr];rw[rH hr]at hn;have hq:=Ze hz';rw[rG hn];cases ha:oH (l.map bO) name with
  |none=>simp[qO]
  |some i=>
   obtain⟨hi,rfl⟩:=AN hn ha;rw[if_neg (show¬(qO (some i)<0)by show¬((i:Int)<0);omega)];have hts:(l.map bO).length=l.length:=aM;have hsn:=yG (ts:=l.map bO) (i:=i) hd hts (by rw[hts];exact hi);have hin:=BB (l.map bO) CP i;have hperm:=qI (sliceAt l (l.map bO) i);have hR1:fB CQ ((bV (sliceAt l (l.map bO) i)).map Df.name):=by
    refine FO ?_ ((hperm.map Df.name).nodup_iff.2 hsn);rw[List.pairwise_map];exact pA _
   have hR2:fB CQ (iZ (gS l l[i].name false) l[i].name):=oG (wL _ _ _ List.Pairwise.nil);have hmem:∀d∈sliceAt l (l.map bO) i,∃k,∃hk:k<l.length,d=l[k]/\(k=i\/k∈jI (l.map bO) CP i):=λd hdm=>by
    rw[qK]at hdm;obtain⟨k,hk,rfl⟩:=List.mem_map.1 hdm;rcases List.mem_cons.1 hk with rfl|hk
    ·exact⟨k,hi,by rw[List.getD_eq_getElem?_getD,List.getElem?_eq_getElem hi];rfl,.inl rfl⟩
    ·have hk':=(List.mem_filter.1 hk).1;have hkl:k<l.length:=by have:=hin.2 k hk';rwa[hts]at this
     exact⟨k,hkl,by rw[List.getD_eq_getElem?_getD,List.getElem?_eq_getElem hkl];rfl,.inr hk'⟩
   have hnames:(bV (sliceAt l (l.map bO) i)).map Df.name=iZ (gS l l[i].name false) l[i].name:=by
    refine xK mP hR1 hR2 λs=>?_;rw[jP,zH];constructor
    ·intro hs;obtain⟨d,hdm,rfl⟩:=List.mem_map.1 hs;obtain⟨k,hk,rfl,hor⟩:=hmem d (hperm.mem_iff.1 hdm);rcases hor with rfl|hor
     ·exact .inl rfl
     ·obtain⟨_,hr'⟩:=LM hn hd QA hi ((zG _ _ _ _).1 hor);exact .inr hr'
    ·intro hs;refine List.mem_map.2 ?_;rcases hs with rfl|hs
     ·exact⟨l[i],hperm.mem_iff.2 (by rw[qK];exact List.mem_map.2 ⟨i,List.mem_cons_self ..,by rw[List.getD_eq_getElem?_getD,List.getElem?_eq_getElem hi];rfl⟩),rfl⟩
     ·obtain⟨k,hk,rfl,hr'⟩:=Fr hn hd hq QA hi hs;refine⟨l[k],hperm.mem_iff.2 ?_,rfl⟩;rw[qK];refine List.mem_map.2 ⟨k,?_,by rw[List.getD_eq_getElem?_getD,List.getElem?_eq_getElem hk];rfl⟩;by_cases e:k=i
      ·subst e;exact List.mem_cons_self ..
      ·exact List.mem_cons_of_mem _ (List.mem_filter.2 ⟨(zG _ _ _ _).2 hr',by simpa using e⟩)
   rw[<-hnames,List.map_map];refine Prod.ext ?_ rfl;show bV (sliceAt l (l.map bO) i)=_
   conv=>lhs;rw[<-List.map_id (bV (sliceAt l (l.map bO) i))]
   refine List.map_congr_left λd hdm=>?_;obtain⟨k,hk,rfl,_⟩:=hmem d (hperm.mem_iff.1 hdm);exact(Zf hn hd hk).symm
 ·have hz':(nK l).2≠0:=by rw[<-hc];exact hz
  rw[if_pos hz,if_pos hz',<-hc]
section
attribute[local simp] kQ.cond Nd.d_eq nd_t nd_dr nd_td ndsD aZ iY
theorem uA(a b:List aW):Ok prog 11 [gO a,gO b] ⟨.d (.bool (decide (a=b))),true⟩:=by
 refine Ok.ret func11 bY (c:=_) rfl ntmps11 aM results11 (by intro _ h;cases h) λw0 X hp=>?_;refine eW.len (t:=0) rfl λhlen=>?_;simp at hlen;apply aD;simp;apply aG;apply aV;simp;refine⟨λh1=>?_,λh1=>?_⟩
 ·apply aD;simp;apply aH;simp;exact λe=>h1 (by rw[e])
 ·apply aF;simp;apply dT;simp;apply aO;refine aU (ι:=Nat) (λi=>aR [(0,.d (gO a)),(1,.d (gO b)),(5,.d (aI i))]) (λi=>aL []) (λi=>i<=a.length/\a.take i=b.take i) (λi=>a.length-i) 0 (aA hp [0,1,5] []) aM λi hi4=>?_;apply aG;apply aV;simp;refine⟨λh4=>?_,λh4=>?_⟩
  ·apply aF;simp;apply dH;apply aG;refine eW.rd [] [] (λ_=>none) ?_;simp[h4,show i<b.length by omega];apply aJ;simp;refine⟨λh6=>?_,λh6=>?_⟩
   ·apply aD;simp;apply aH;simp;intro e;subst e;simp at h6
   ·apply aF;simp;apply aK;simp;refine⟨aE,?_⟩;refine Pq.mk (i+1) (aA hp [0,1,5] []) ?_ ?_
    ·exact⟨h4,Id hi4.2 h4 aE (by simpa using h6)⟩
    ·omega
  ·apply bE;simp;apply aD;simp;apply aH;simp;have e:i=a.length:=aE;have:=hi4.2;rw[e,List.take_length]at this;have h1':a.length=b.length:=aE;rw[this,h1',List.take_length]
end
section
attribute[local simp] kQ.cond Nd.d_eq nd_t nd_dr nd_td ndsD aZ bF bP
theorem wM{l:List Df}{a b:Int}(h:nK l=(a,b)):Ok prog 8 [eO l] ⟨.tup [.d (aI a),.d (aI b)],true⟩:=by
 have k:=Wm l;rw[show(mK l).2=(a,b) from(OJ l).trans h]at k;exact k
theorem Tq:Ok prog 10 [] ⟨.d (.bool true),true⟩:=by
 refine Ok.ret func10 bY (c:=_) rfl ntmps10 aM results10 (by intro _ h;cases h) λw0 X hp=>?_;apply aD;simp;refine cJ (λ|19=>some<| .plain ⟨.own 2 (uL.map Df.d),true⟩|_=>none) ?_;simp;refine⟨Fz,?_⟩;refine cJ (λ|22=>some<| .plain ⟨.tup [.d (aI 5),.d (aI 0)],true⟩|_=>none) ?_;simp[bD];refine⟨by simpa using wM aAu,?_⟩;apply aG;have k:=Qi uL [112];rw[Qz,WY]at k;refine aP (λ|27=>some<| .plain ⟨.tup [.own 1 ([[97],[103]].map .str),.d (aI 0)],true⟩|_=>none) ?_;simp[bD];refine⟨by simpa using k,?_⟩;apply aG;have k2:=Qi uL [116];rw[Qz,WZ]at k2;refine aP (λ|32=>some<| .plain ⟨.tup [.own 1 ([[97],[112]].map .str),.d (aI 0)],true⟩|_=>none) ?_;simp[bD];refine⟨by simpa using k2,?_⟩;apply aG;have k3:=LI uL [116] bC;rw[Mj,Xb]at k3;obtain⟨sl,hsl⟩:∃sl,[uL[0],uL[1],uL[2],uL[4]]=sl:=⟨_,rfl⟩;rw[hsl]at k3;refine aP (λ|37=>some<| .plain ⟨.tup [.own 2 (sl.map Df.d),.d (aI 0)],true⟩|_=>none) ?_;simp[bD];refine⟨by simpa using k3,?_⟩;refine cJ (λ|41=>some<| .plain ⟨.own 2 ((Zn [112,114,111,99,32,112,32,123,32,97,32,61,32,103,46,109,59,32,125]).map Df.d),true⟩|42=>some<| .plain ⟨.tup [.d (aI 2),.d (aI 6)],true⟩|_=>none) ?_;simp[bD];refine⟨⟨Jd _,by simpa using wM YZ⟩,?_⟩;refine cJ (λ|46=>some<| .plain ⟨.own 2 ((Zn [112,114,111,99,32,112,32,123,32,97,32,61,32,116,59,32,125]).map Df.d),true⟩|47=>some<| .plain ⟨.tup [.d (aI 2),.d (aI 12)],true⟩|_=>none) ?_;simp[bD];refine⟨⟨Jd _,by simpa using wM Za⟩,?_⟩;refine cJ (λ|51=>some<| .plain ⟨.own 2 ((Zn [112,114,111,99,32,112,32,123,32,99,97,108,108,32,113,59,32,125]).map Df.d),true⟩|52=>some<| .plain ⟨.tup [.d (aI 2),.d (aI 13)],true⟩|_=>none) ?_;simp[bD];refine⟨⟨Jd _,by simpa using wM Zb⟩,?_⟩;apply aG;refine eW.rd [[60],[56],[56],[56],[56],[],[56,60,61],[56,60,61]] [[56],[],[],[],[60],[56,61],[],[],[61,64],[65]] (λ|65=>some<| .plain ⟨.tup [.d (aI 1),.d (aI 6)],true⟩|_=>none) ?_;simp[bD,uL,Df.d];refine⟨by simpa [uL,Df.d]using wM Zc,?_⟩;apply aG
 apply aV;simp;apply aF;simp;apply aG;have kt:=Wn uL;rw[Xf,Xa]at kt;have s1:=uA [[116]] [[116]];have s2:=uA [[97],[103]] [[97],[103]];have s3:=uA [[97],[112]] [[97],[112]];simp[uL,Df.d]at kt;simp at s1 s2 s3;refine aP (λ|119=>some<| .plain ⟨.own 1 [.str [116]],true⟩|121=>some<| .plain ⟨.d (.bool true),true⟩|125=>some<| .plain ⟨.d (.bool true),true⟩|130=>some<| .plain ⟨.d (.bool true),true⟩|_=>none) ?_;simp;refine⟨by(repeat' with_reducible apply And.intro)<;>first|with_reducible assumption|decide,?_⟩;apply aG;have sd:=AL sl sl (by rw[<-hsl];decide);have sm:=SU [⟨[97],[118,97,114,32,97,61,48,32,59]⟩] [uL[0]] bC bC;rw[Zd]at sm;simp[<-hsl,uL,Df.d]at sd sm;refine eW.rd [[],[],[147],[],[],[],[],[],[],[],[],[],[],[],[],[],[],[],[],[],[],[152],[152]] [[],[],[],[],[],[],[],[],[],[],[],[],[],[],[],[147],[148],[],[],[],[152],[],[],[155]] (λ|148=>some<| .plain ⟨.d (.bool true),true⟩|155=>some<| .plain ⟨.d (.bool true),true⟩|_=>none) ?_;simp[<-hsl,uL,Df.d];refine⟨by(repeat' with_reducible apply And.intro)<;>first|with_reducible assumption|decide,?_⟩;apply aH;simp
end
section
attribute[local simp] kQ.cond Nd.d_eq nd_t nd_dr nd_td ndsD aZ bF bP
theorem Tr{x:Nd}(h:Nw x):x.text.length<=(textT x).length:=by
 obtain⟨_,h⟩:=h;unfold textT;simp only[];split
 ·rename_i q;split
  ·simp only[List.length_append,List.length_cons];omega
  ·rename_i hb;rcases h with⟨_,c,hx,hc⟩|⟨z,_⟩|⟨z,_⟩|⟨z,_⟩|⟨z,_⟩
   ·exact absurd (by rw[hx];rfl) (hb c)
   all_goals omega
 ·split
  ·simp only[List.length_append,List.length_cons];omega
  ·split
   ·simp only[List.length_append,List.length_cons];omega
   ·split<;>(simp only[List.length_append,List.length_cons];omega)
theorem Pf(l:List Int):(Mc l).name.length<=40000040/\(Mc l).text.length<=40000040:=by
 have h1:=Tm l;have h2:=Tr (Fw l);exact⟨by show(treeS l).text.length<=40000040;omega,h1⟩
theorem Pg(k i v:Nat):∀d∈gB k i v,d.name.length<=2000/\d.text.length<=4000:=by
 intro d hd;unfold gB SZ at hd;obtain⟨r,hr,rfl⟩:=List.mem_map.1 hd;obtain⟨h1,h2,h3⟩:=(wD v k).2 r hr;have il:=cC (i:Int);refine⟨?_,?_⟩
 ·show(r.l++itoaS (i:Int)).length<=2000;rw[List.length_append];omega
 ·show(r.w++[32]++(r.l++itoaS (i:Int))++lU r.t i).length<=4000;simp only[List.length_append,Ho,List.length_cons,List.length_nil];omega
theorem FA(l:List Int):∀k,∀d∈(mN l k).1,d.name.length<=2000/\d.text.length<=4000
 |0=>by simp[mN]
 |k+1=>by
  intro d hd;have ih:=FA l k;rw[BE]at hd;unfold Ta at hd;simp only at hd;have hap:∀d∈(mN l k).1++gB ((dQ l (1+k) 4096).toNat%14) k ((dQ l (1+k) 4096).toNat / 14),d.name.length<=2000/\d.text.length<=4000:=λd hd=>(List.mem_append.1 hd).elim (ih d) (Pg _ _ _ d);split at hd
  ·rcases List.mem_append.1 hd with hd|hd
   ·exact hap d hd
   ·simp at hd;subst hd;decide
  ·exact hap d hd
theorem Ts(l:List Int):oN 19 4000 (CO l):=by
 refine⟨Qv l,λd hd=>?_⟩;have:=FA l (xZ l) d ((Hy _ _).mem_iff.1 hd);omega
theorem CI{l:List Df}{n m:Nat}(h:oN n m l)(hm:1000<=m)(hn:1<=n)(how by_:Int):oN (n+26) (21*m+40000040) (jQ l how by_):=by
 unfold jQ;split
 ·exact⟨by show 1<=_;omega,λd hd=>by simp at hd;subst hd;have:=Pf [how,by_];omega⟩
 ·rename_i hne;have hpos:0<l.length:=List.length_pos_iff.2 hne;have ak:=dG by_ (l.length:Int) aE;obtain⟨k,hk⟩:∃k:Nat,bH by_ (l.length:Int)=(k:Int):=⟨(bH by_ (l.length:Int)).toNat,aE⟩;rw[hk,Int.toNat_natCast];have hkl:k<l.length:=aE;obtain⟨x,hx⟩:∃x,l.getD k default=x:=⟨_,rfl⟩;have hx2:x∈l:=by rw[<-hx,List.getD_eq_getElem?_getD,List.getElem?_eq_getElem hkl];exact List.getElem_mem hkl
  obtain⟨q1,q2⟩:=h.each x hx2;rw[hx];have h1:oN (n+26) (21*m+40000040) l:=h.mono aE aE;have g1:=dA (k:=(bH (by_.tdiv 3) 5).toNat) WQ;have g2:=dA (k:=(bH (by_.tdiv 3) 5).toNat) WR;have g3:=dA (k:=(bH (by_.tdiv 3) 5).toNat) WS;have g4:=dA (k:=(bH by_ 3).toNat) WT;have g5:=dA (k:=(bH by_ 2).toNat) WU;have g6:=dA (k:=(bH (by_.tdiv 2) 3).toNat) WV;have ap:∀l':List Df,l'.length<=26->(∀d∈l',d.name.length<=21*m+40000040/\d.text.length<=21*m+40000040)->oN (n+26) (21*m+40000040) (l++l'):=λl' h1 h2=>(h.mono (Nat.le_refl _) aE).app ⟨h1,h2⟩;unfold Fx;split
  ·exact h1.set ⟨uB,uB⟩
  ·split
   ·have:=YX x.text (by_.tdiv 3) (how.tdiv 11) by_;exact h1.set ⟨uB,uB⟩
   ·split
    ·exact⟨by have:=List.length_eraseIdx_le l k;have:=h.len;omega,λd hd=>h1.each d (List.mem_of_mem_eraseIdx hd)⟩
    ·split
     ·exact ap _ aM (λd hd=>by simp at hd;subst hd;omega)
     ·split
      ·exact h1.set ⟨uB,by dsimp only;simp only[List.length_append,List.length_cons,List.length_nil];omega⟩
      ·split
       ·exact ap _ aM (λd hd=>by simp at hd;subst hd;simp only[List.length_append,List.length_cons,List.length_nil];omega)
       ·split
        ·exact ap _ aM (λd hd=>by simp at hd;rcases hd with rfl|rfl<;>simp only[List.length_append,List.length_cons,List.length_nil]<;>simp at g4|-<;>omega)
        ·split
         ·exact ap _ aM (λd hd=>by simp at hd;rcases hd with rfl|rfl<;>simp only[List.length_append,List.length_cons,List.length_nil]<;>simp at g5 g6|-<;>omega)
         ·split
          ·unfold sW;have a3:=dG by_ 3 bC;refine ap _ kG (λd hd=>?_);obtain⟨j,_,rfl⟩:=List.mem_map.1 hd;have:=cC ((l.length+j:Nat):Int);refine⟨by show(_++itoaS ((l.length+j:Nat):Int)).length<=_;simp only[List.length_append,List.length_cons,List.length_nil];omega,by show(_++itoaS ((l.length+j:Nat):Int)++_).length<=_;simp only[List.length_append,List.length_cons,List.length_nil];omega⟩
          ·have:=OX x.text [by_,by_.tdiv 3,by_.tdiv 7,how,by_.tdiv 2,1,2];exact h1.set ⟨uB,uB⟩
def cN(m:List Int):Nat:=min 6 ((m.length-1) / 10)
def cDf(m:List Int)(j:Nat):Df:=Mc ((m.take (10*j+10)).drop (10*j))
def cL(m:List Int):List Df:=(List.range (cN m)).map (cDf m)
theorem Xg(m:List Int):(cL m).length=cN m:=by simp[cL]
theorem Zo(m:List Int):cN m<=6:=by unfold cN;omega
def BF(l m:List Int)(how by_:Int)(raw:aW):List (List Df):=
 [CO l,jQ (CO l) how by_,jQ (jQ (CO l) how by_) by_ how,cL m,CO l++cL m,[⟨[112,48],raw.take 60⟩],[⟨[112,48],[112,114,111,99,32,112,48,32,123,32]++raw.take 60++[32,125]⟩],[]]
theorem Tt(l m:List Int)(how by_:Int)(raw:aW)(hl:Lc l)(hm:Lc m)(hh:AD how)(hb:AD by_)(hr:raw.length<=9223372036854775807):Ok prog 7 [.sl (l.map aI),.sl (m.map aI),aI how,aI by_,.str raw] ⟨.d (.sl ((BF l m how by_ raw).map eO)),false⟩:=by
 refine Ok.ret func7 bY (c:=_) rfl ntmps7 aM results7 (by intro _ h;cases h) λw0 X hp=>?_;obtain⟨a,ha⟩:∃a,CO l=a:=⟨_,rfl⟩;obtain⟨b,hb1⟩:∃b,jQ a how by_=b:=⟨_,rfl⟩;obtain⟨b2,hb2⟩:∃b2,jQ b by_ how=b2:=⟨_,rfl⟩;obtain⟨c,hc⟩:∃c,cL m=c:=⟨_,rfl⟩;have hres:BF l m how by_ raw=[a,b,b2,c,a++c,[⟨[112,48],raw.take 60⟩],[⟨[112,48],[112,114,111,99,32,112,48,32,123,32]++raw.take 60++[32,125]⟩],[]]:=by unfold BF;rw[ha,hb1,hb2,hc]
 have sa:oN 19 4000 a:=by rw[<-ha];exact Ts l
 have sb:oN 45 41000000 b:=by rw[<-hb1];exact(CI sa bC bC how by_).mono bC bC
 have sb2:oN 71 1000000000 b2:=by rw[<-hb2];exact(CI sb bC bC by_ how).mono bC bC
 have la:=sa.len;have lb:=sb.len;have lb2:=sb2.len;have ka:=Me l hl;have kb:=CH a how by_ (sa.mono bC bC) hh hb;have kb2:=CH b by_ how (sb.mono bC bC) hb hh;rw[ha]at ka;rw[hb1]at kb;rw[hb2]at kb2;have lc:c.length=cN m:=by rw[<-hc,Xg]
 have cn:=Zo m;obtain⟨rw_,hrw⟩:∃r,raw.take 60=r:=⟨_,rfl⟩;have krw:=Lh raw 60 hr;rw[hrw]at krw hres;have lrw:rw_.length<=60:=by rw[<-hrw,List.length_take];omega
 apply aD;simp;refine cJ (λ|17=>some<| .plain ⟨.own 2 (a.map Df.d),true⟩|_=>none) ?_;simp;refine⟨ka,?_⟩;refine cJ (λ|21=>some<| .plain ⟨.own 2 (b.map Df.d),true⟩|_=>none) ?_;simp[List.take_of_length_le (show(a.map Df.d).length<=a.length by simp)];refine⟨by simpa using kb,?_⟩;apply aD;simp;apply dT;simp;apply aO;refine aU (ι:=Nat) (λj=>aR [(1,.d (.sl (m.map aI))),(2,.d (aI how)),(3,.d (aI by_)),(4,.d (.str raw)),(11,.ow 11 0 a.length),(12,.ow 12 0 b.length),(13,.ow 13 0 j),(14,.d (aI (10*j:Nat)))]) (λj=>aL [(11,.row false 2 (a.map Df.d)),(12,.row false 2 (b.map Df.d)),(13,.row false 2 ((c.take j).map Df.d))]) (λj=>j<=cN m) (λj=>cN m-j) 0 (aA hp [1,2,3,4,11,12,13,14] [(17,11),(21,12),(13,13)]) (Nat.zero_le _) λj hi5=>?_;apply dT;simp;refine⟨aE,?_⟩;apply aJ;simp;refine⟨λh5 h5b=>?_,λh5=>?_⟩
 ·have hj:j<cN m:=by unfold cN;omega
  have kd:=Md ((m.take (10*j+10)).drop (10*j)) (λn hn=>hm n (List.mem_of_mem_take (List.mem_of_mem_drop hn)));obtain⟨D,hD⟩:∃D,Mc ((m.take (10*j+10)).drop (10*j))=D:=⟨_,rfl⟩;rw[hD]at kd;have hns:c.take (j+1)=c.take j++[D]:=by
   rw[List.take_succ_eq_append_getElem aE];simp[<-hc,cL,cDf,hD]
  have hnd:List.take (j+1) (List.map Df.d c)=List.take j (List.map Df.d c)++[D.d]:=by rw[<-List.map_take,hns,List.map_append,List.map_take];rfl
  apply aF;simp;apply dH;refine aP (λ|39=>some<| .plain ⟨.d D.d,true⟩|_=>none) ?_;simp[(show(10*(j:Int)).toNat=10*j by omega),(show(10*(j:Int)+10).toNat=10*j+10 by omega)];refine⟨by(repeat' with_reducible apply And.intro)<;>first|omega|rfl|simpa using kd,?_⟩;apply aK;simp;refine⟨aE,?_⟩;refine Pq.mk (j+1) (aA hp [1,2,3,4,11,12,13,14] [(11,11),(12,12),(41,13)] (by simp[show(10*(j:Int)+10)=10*((j:Int)+1)by omega]) (by simp[hnd,List.take_take,Df.d])) ?_ ?_
  ·omega
  ·omega
 ·apply bE;simp;apply aG;have hj:j=c.length:=by rw[lc];unfold cN at hi5|-;omega
  subst hj;have tk:List.take c.length (List.map Df.d c)=List.map Df.d c:=List.take_of_length_le (by rw[List.length_map];exact Nat.le_refl _);refine aP (λ|43=>some<| .plain ⟨.d (.str rw_),true⟩|_=>none) ?_;simp;refine⟨krw,?_⟩;refine cJ (λ|49=>some<| .plain ⟨.own 2 (b2.map Df.d),true⟩|_=>none) ?_;simp[tk,List.take_of_length_le (show(b.map Df.d).length<=b.length by simp),List.take_of_length_le (show(a.map Df.d).length<=a.length by simp)];refine⟨by(repeat' with_reducible apply And.intro)<;>first|omega|rfl|simpa using kb2,?_⟩;apply aH;simp[hres,List.take_of_length_le (show(List.map Df.d a++List.map Df.d c).length<=a.length+c.length by simp)]
end
section
attribute[local simp] kQ.cond Nd.d_eq nd_t nd_dr nd_td ndsD aZ bF bP
end
theorem FP(l:List Df)(nm:aW)(c:Bool):fB CQ (gS l nm c):=wL _ _ _ List.Pairwise.nil
def zL(l:List Df)(nm:aW):List aW:=iZ (gS l nm false) nm
theorem FQ(l:List Df)(nm:aW):fB CQ (zL l nm):=oG (FP l nm false)
def QB(l:List Df)(nm s:aW):Prop:=s=nm\/rL (LN l false) nm s
theorem zM{l:List Df}(hn:(l.map Df.name).Nodup){nm s:aW}:s∈zL l nm↔QB l nm s:=by
 unfold zL QB;rw[jP,zJ hn]
theorem Jf{l:List Df}(hn:(l.map Df.name).Nodup){d:Df}(hd:d∈l):To l d.name=d:=(De hn hd).2.2
theorem Mk{l:List Df}(h:BD l){d:Df}(hd:d∈l){s:aW}(hr:QB l d.name s):∃e∈l,e.name=s:=by
 rcases hr with rfl|hr
 ·exact⟨d,hd,rfl⟩
 ·have:∃a,LN l false a s:=by cases hr with|one h2=>exact⟨_,h2⟩|more _ h2=>exact⟨_,h2⟩
  obtain⟨_,d',hd',_,u,hu,_,e⟩:=this;obtain⟨x,hx,hn,_⟩:=h.uses d' hd' u hu;exact⟨x,hx,by rw[hn,e]⟩
def BG(l:List Df)(nm:aW):List Df:=(zL l nm).map (To l)
theorem Ph{l:List Df}(h:BD l){d:Df}(hd:d∈l){x:Df}:x∈BG l d.name↔x∈l/\QB l d.name x.name:=by
 unfold BG;rw[List.mem_map];constructor
 ·rintro⟨s,hs,rfl⟩;rw[zM h.names]at hs;obtain⟨e,he,rfl⟩:=Mk h hd hs;rw[Jf h.names he];exact⟨he,hs⟩
 ·rintro⟨hx,hr⟩;exact⟨x.name,(zM h.names).2 hr,Jf h.names hx⟩
theorem Jg{l:List Df}(h:BD l){d:Df}(hd:d∈l):(BG l d.name).map Df.name=zL l d.name:=by
 unfold BG;rw[List.map_map];have:∀L:List aW,(∀s∈L,s∈zL l d.name)->L.map (Df.name∘To l)=L:=λL=>by
  induction L with
  |nil=>intro _;rfl
  |cons s r ih=>
   intro hL;obtain⟨e,he,rfl⟩:=Mk h hd ((zM h.names).1 (hL s (List.mem_cons_self ..)));rw[List.map_cons,ih λs hs=>hL s (List.mem_cons_of_mem _ hs)];show(To l e.name).name::r=_;rw[Jf h.names he]
 exact this _ λs hs=>hs
theorem Jh(l:List Df)(nm:aW):(zL l nm).Nodup:=(FQ l nm).imp λ{a b} hab e=>by subst e;have:=mP.irrefl a;rw[show CQ a a=Op.bytesLess a a from rfl]at hab;rw[this]at hab;cases hab
theorem Ml{l:List Df}(h:BD l){d:Df}(hd:d∈l):((BG l d.name).map Df.name).Nodup:=by
 rw[Jg h hd];exact Jh l d.name
theorem HD:∀{l m:List aW},l.Nodup->(∀x∈l,x∈m)->l.length<=m.length
 |[],_,_,_=>Nat.zero_le _
 |a::l,m,h,hs=>by
  simp only[List.nodup_cons]at h;have:=HD (l:=l) (m:=m.erase a) h.2 λx hx=>(List.mem_erase_of_ne (λe=>h.1 (by rw[<-e];exact hx))).2 (hs x (List.mem_cons_of_mem _ hx));have h2:=List.length_erase_of_mem (hs a (List.mem_cons_self ..));have h3:0<m.length:=List.length_pos_of_mem (hs a (List.mem_cons_self ..));simp only[List.length_cons];omega
theorem Xh{l:List Df}(h:BD l){d:Df}(hd:d∈l):(BG l d.name).length<=l.length:=by
 have:=HD (Ml h hd) (m:=l.map Df.name) λs hs=>by
  obtain⟨x,hx,rfl⟩:=List.mem_map.1 hs;exact List.mem_map.2 ⟨x,((Ph h hd).1 hx).1,rfl⟩
 simpa using this
section
attribute[local simp] kQ.cond Nd.d_eq nd_t nd_dr nd_td ndsD aZ bF bP
theorem HE(l:List Df)(how by_:Int):(jQ l how by_).length<=max (l.length+2) 25:=by
 unfold jQ;split
 ·show 1<=_;omega
 ·unfold Fx;have a3:=dG by_ 3 bC;split
  ·rw[List.length_set];omega
  ·split
   ·rw[List.length_set];omega
   ·split
    ·have:=List.length_eraseIdx_le l (bH by_ l.length).toNat;omega
    ·split
     ·simp;omega
     ·split
      ·rw[List.length_set];omega
      ·split
       ·simp;omega
       ·split
        ·simp;omega
        ·split
         ·simp;omega
         ·split
          ·unfold sW;simp;omega
          ·rw[List.length_set];omega
theorem Tu{l m:List Int}{how by_:Int}{raw:aW}:∀d∈BF l m how by_ raw,d.length<=27:=by
 intro d hd;have h1:=Qv l;have h2:=HE (CO l) how by_;have h3:=HE (jQ (CO l) how by_) by_ how;have h4:=Xg m;have h5:=Zo m;unfold BF at hd;simp only[List.mem_cons,List.not_mem_nil,or_false]at hd;rcases hd with rfl|rfl|rfl|rfl|rfl|rfl|rfl|rfl
 ·omega
 ·omega
 ·omega
 ·omega
 ·rw[List.length_append];omega
 ·show 1<=27;omega
 ·show 1<=27;omega
 ·show 0<=27;omega
theorem Tz(l m:List Int)(how by_:Int)(raw:aW)(hl:Lc l)(hm:Lc m)(hh:AD how)(hb:AD by_)(hr:raw.length<=9223372036854775807):Ok prog 5 [.sl (l.map aI),.sl (m.map aI),aI how,aI by_,.str raw] ⟨.d (.bool true),true⟩:=by
 refine Ok.ret func5 bY (c:=_) rfl ntmps5 aM results5 (by intro _ h;cases h) λw0 X hp=>?_;have hL27:=Tu (l:=l) (m:=m) (how:=how) (by_:=by_) (raw:=raw);obtain⟨L,hL⟩:∃L,BF l m how by_ raw=L:=⟨_,rfl⟩;have hLl:L.length=8:=by rw[<-hL];rfl
 have kl:=Tt l m how by_ raw hl hm hh hb hr;rw[hL]at kl hL27;obtain⟨rw_,hrw⟩:∃r,raw.take 10=r:=⟨_,rfl⟩;have krw:=Lh raw 10 hr;rw[hrw]at krw;obtain⟨W,hW1⟩:∃W:List aW,W=[[],[116,48],[116,49],[112,48],[120,48],[115,104,97,114,101,100],[122,122],rw_]:=⟨_,rfl⟩;have hWl:W.length=8:=by rw[hW1];rfl
 apply aD;simp;refine cJ (λ|24=>some<| .plain ⟨.d (.sl (L.map eO)),false⟩|_=>none) ?_;simp;refine⟨kl,?_⟩;apply dT;simp;apply aO;refine aU (ι:=Nat) (λi=>aR [(4,.d (.str raw)),(11,.d (.sl (L.map eO))),(12,.d (aI (i:Nat)))]) (λi=>aL []) (λi=>i<=8) (λi=>8-i) 0 (aA hp [4,11,12] []) (Nat.zero_le _) λi hi3=>?_;apply dT;simp[hLl];apply aJ;simp;refine⟨λh3=>?_,λh3=>?_⟩
 ·apply aF;simp;apply dH;apply aG;have hi:i<L.length:=aE;obtain⟨d,hd⟩:∃d,L[i]=d:=⟨_,rfl⟩;have hd27:=hL27 d (hd▸List.getElem_mem hi);refine aP (λ|32=>some<| .plain ⟨.d (.str rw_),true⟩|_=>none) ?_;simp;refine⟨by(repeat' with_reducible apply And.intro)<;>first|rfl|exact krw,?_⟩;refine eI (iH.close 13 (x:=gO W) (by simp[hW1])) ?_;simp;apply aD;simp;apply aO;refine aU (ι:=Nat) (λj=>aR [(4,.d (.str raw)),(11,.d (.sl (L.map eO))),(12,.d (aI (i:Nat))),(13,.d (gO W)),(14,.d (aI (j:Nat)))]) (λj=>aL []) (λj=>j<=8) (λj=>8-j) 0 (aA hp [4,11,12,13,14] []) (Nat.zero_le _) λj hi7=>?_;apply dT;simp[hWl];apply aJ;simp;refine⟨λh7=>?_,λh7=>?_⟩
  ·apply aF;simp;apply dH;apply aG;have hj:j<W.length:=aE;obtain⟨nm,hnm⟩:∃nm,W[j]=nm:=⟨_,rfl⟩;have e1:=LI d nm aE;have e2:=Tp d nm aE;rw[Mj]at e1;obtain⟨Y,hY⟩:∃Y,tZ d nm=Y:=⟨_,rfl⟩;have hYl:Y.1.length<=24:=by
    rw[<-hY];unfold tZ;split
    ·exact Nat.zero_le _
    ·rename_i hz;split
     ·exact Nat.zero_le _
     ·rename_i hz2;have hB:=OK.1 (Decidable.not_not.1 hz);obtain⟨q,hq,_,hqn,_⟩:=sV (l:=d) (nm:=nm) aE;have hs:=Xh hB (List.getElem_mem hq);rw[hqn]at hs;have:=hB.len;exact Nat.le_trans hs this
   rw[hY]at e1 e2;have hYk:List.take Y.1.length (List.map Df.d Y.1)=List.map Df.d Y.1:=List.take_of_length_le aM;refine eW.rd [] [[],[],[],[],[],[],[],[],[49]] (λ|49=>some<| .plain ⟨.tup [.own 2 (Y.1.map Df.d),.d (aI Y.2)],true⟩|_=>none) ?_;simp[bD,hi,hd,hj,hnm];refine⟨by simpa using e1,?_⟩;refine eI (iH.close 15 (x:=eO Y.1) (by simp[hYk])) ?_;simp;apply aG;refine eW.rd [] [[],[],[],[],[],[],[],[],[61]] (λ|61=>some<| .plain ⟨.tup [.own 2 (Y.1.map Df.d),.d (aI Y.2)],true⟩|_=>none) ?_;simp[bD,hi,hd,hj,hnm];refine⟨by simpa using e2,?_⟩;refine eI (iH.close 17 (x:=eO Y.1) (by simp[hYk])) ?_;simp;apply aG;have kd:=AL Y.1 Y.1 aE;refine aP (λ|70=>some<| .plain ⟨.d (.bool true),true⟩|_=>none) ?_;simp;refine⟨by simpa using kd,?_⟩;apply aJ;simp;apply aF;simp;apply aK;simp;refine⟨aE,?_⟩;refine Pq.mk (j+1) (aA hp [4,11,12,13,14] []) ?_ ?_
   ·omega
   ·omega
  ·apply bE;simp;apply aK;simp;refine⟨aE,?_⟩;refine Pq.mk (i+1) (aA hp [4,11,12] []) ?_ ?_
   ·omega
   ·omega
 ·apply bE;simp;apply aG;have hlv:=Tq;refine aP (λ|73=>some<| .plain ⟨.d (.bool true),true⟩|_=>none) ?_;simp;refine⟨hlv,?_⟩;apply aH;simp
end
open Go.RowKit
def Ji(P:Program):List Field->Nat->Bool
 |[],_=>true
 |f::r,o=>f.offset==o&&Ji P r (o+P.cellsOf f.type)
def wN(P:Program):Nat->TypeId->DataW Unit->Option (List Value)
 |0,_,_=>none
 |n+1,t,d=>match P.underlying t,d with
  |some (.int _),.lit (.int k z)=>some [.int k z]
  |some .string,.lit (.string s)=>some [.string ⟨s.toArray⟩]
  |some (.array _ e),.agg ds=>match ds.mapM (wN P n e)with
   |some xs=>if xs.all (λx=>x.length==P.cellsOf e)&&xs.length*P.cellsOf e==P.cellsOf t then some xs.flatten else none
   |none=>none
  |some (.struct fs),.agg ds=>match(fs.toList.zip ds).mapM (λp=>wN P n p.1.type p.2)with
   |some xs=>if Ji P fs.toList 0&&xs.flatten.length==P.cellsOf t&&((fs.toList.zip xs).all λp=>p.2.length==P.cellsOf p.1.type)&&ds.length==fs.size then some xs.flatten else none
   |none=>none
  |_,_=>none
theorem HF{c:Nat}:∀(xs:List (List Value)) (cs:List Value),cs.length=xs.length*c->(∀(i:Nat) (x:List Value),xs[i]? =some x->(cs.drop (i*c)).take c=x)->cs=xs.flatten
 |[],cs,hl,_=>by
  have:cs=[]:=List.eq_nil_of_length_eq_zero (by simpa using hl);simp[this]
 |x::xs,cs,hl,h=>by
  have h0:=h 0 x rfl;simp only[Nat.zero_mul,List.drop_zero]at h0;have hr:=HF (c:=c) xs (cs.drop c) (by rw[List.length_drop,hl,List.length_cons,Nat.succ_mul];omega) λi y hy=>by
   have:=h (i+1) y (by simpa using hy);rw[List.drop_drop,Nat.add_comm c,<-Nat.succ_mul];exact this
  rw[List.flatten_cons,<-hr,<-h0,List.take_append_drop]
theorem CJ{P:Program}{cs:List Value}:∀(fs:List Field) (xs:List (List Value)) (o:Nat),Ji P fs o=true->xs.length=fs.length->(∀(i:Nat) (f:Field) (x:List Value),fs[i]? =some f->xs[i]? =some x->(cs.drop f.offset).take (P.cellsOf f.type)=x/\x.length=P.cellsOf f.type)->
 (cs.drop o).take xs.flatten.length=xs.flatten
 |[],[],_,_,_,_=>aM
 |[],_::_,_,_,h,_=>by simp at h
 |_::_,[],_,_,h,_=>by simp at h
 |f::fs,x::xs,o,ho,hl,h=>by
  simp only[Ji,Bool.and_eq_true,beq_iff_eq]at ho;obtain⟨h1,h2⟩:=h 0 f x rfl rfl;have hr:=CJ fs xs (o+P.cellsOf f.type) ho.2 (by simpa using hl) λi g y hg hy=>h (i+1) g y (by simpa using hg) (by simpa using hy);rw[ho.1]at h1;rw[List.flatten_cons,List.length_append,List.take_add,h2,h1,List.drop_drop,hr]
theorem Tv{enc:TypeId×Value->Unit}{P:Program}{w:World}{base:Nat}{sp:Nat->Bool}{held:Bool}:∀(n fuel:Nat) (t:TypeId) (cs:List Value) (d:DataW Unit) (p:List MemPlace) (vs:List Value),
 DataW.trod enc P w base sp held fuel t cs=some (d,p)->wN P n t d=some vs->cs=vs:=by
 intro n;induction n with
 |zero=>intro fuel t cs d p vs _ h;cases h
 |succ n ih=>
  intro fuel t cs d p vs ht hv;unfold wN at hv;split at hv
  ·rename_i k' k z hu;obtain⟨m,rfl,hx,_⟩:=DataW.trod_int hu ht;injection hx with e1 e2
   injection e1 with e1
   injection e1 with e3 e4
   subst e3 e4;exact Option.some.inj hv
  ·rename_i s hu;obtain⟨b,rfl,hx,_⟩:=DataW.trod_string hu ht;injection hx with e1 e2
   injection e1 with e1
   injection e1 with e3
   subst e3;exact Option.some.inj hv
  ·rename_i m e ds hu;cases fuel with
   |zero=>simp[DataW.trod]at ht
   |succ fuel=>
    unfold DataW.trod at ht;rw[hu]at ht;simp only at ht;split at ht
    ·rename_i hl;obtain⟨ys,hm,hx⟩:=Option.map_eq_some_iff.1 ht;have hds:ys.map (·.1)=ds:=by
      have:=congrArg Prod.fst hx;simpa using this
     split at hv
     ·rename_i xs hxs;split at hv
      ·rename_i hc;simp only[Bool.and_eq_true,List.all_eq_true,beq_iff_eq]at hc;have hv:=Option.some.inj hv;rw[<-hv];have hyl:ys.length=m:=by simpa using Lib.mapM_length hm
       have hxl:xs.length=ds.length:=Lib.mapM_length hxs;have hdl:ds.length=m:=by rw[<-hds,List.length_map,hyl]
       refine HF (c:=P.cellsOf e) xs cs (by rw[hl,hc.2]) λi x hx'=>?_;have hi:i<m:=by have:=(List.getElem?_eq_some_iff.1 hx').1;omega
       obtain⟨y,hy,hf⟩:=Lib.mapM_at hm i i (by simp[hi]);have hdi:ds[i]? =some y.1:=by rw[<-hds,List.getElem?_map,hy];rfl
       obtain⟨x2,hx2,hlc⟩:=Lib.mapM_at hxs i _ hdi;have:x2=x:=Option.some.inj (hx2.symm.trans hx');subst this;exact ih fuel e _ y.1 y.2 x2 hf hlc
      ·cases hv
     ·cases hv
    ·cases ht
  ·rename_i fs ds hu;obtain⟨ys,m,rfl,hx,hl,hyl,hf⟩:=DataW.trod_struct hu ht;have hds:ys.map (·.1)=ds:=by
    have:=congrArg Prod.fst hx;simpa using this.symm
   split at hv
   ·rename_i xs hxs;split at hv
    ·rename_i hc;simp only[Bool.and_eq_true,List.all_eq_true,beq_iff_eq]at hc;obtain⟨⟨⟨c1,c2⟩,c3⟩,c4⟩:=hc;have hv:=Option.some.inj hv;rw[<-hv];have hxl:xs.length=(fs.toList.zip ds).length:=Lib.mapM_length hxs;have hzl:(fs.toList.zip ds).length=fs.size:=by rw[List.length_zip,c4];simp
     have key:=CJ (P:=P) (cs:=cs) fs.toList xs 0 c1 (by rw[hxl,hzl];simp) λi f x hfi hxi=>by
      have hfa:fs[i]? =some f:=by simpa using hfi
      have hyi:=hf i f hfa;have hi:i<fs.size:=(Array.getElem?_eq_some_iff.1 hfa).1;obtain⟨y,hy⟩:∃y,ys[i]? =some y:=⟨_,List.getElem?_eq_getElem aE⟩;rw[hy]at hyi;have hdi:ds[i]? =some y.1:=by rw[<-hds,List.getElem?_map,hy];rfl
      have hz:(fs.toList.zip ds)[i]? =some (f,y.1):=by
       rw[List.getElem?_zip_eq_some];exact⟨hfi,hdi⟩
      obtain⟨x2,hx2,hlc⟩:=Lib.mapM_at hxs i _ hz;have:x2=x:=Option.some.inj (hx2.symm.trans hxi);subst this;refine⟨ih m f.type _ _ _ x2 hyi hlc,?_⟩;have hz2:(fs.toList.zip xs)[i]? =some (f,x2):=by
       rw[List.getElem?_zip_eq_some];exact⟨hfi,hxi⟩
      exact c3 _ (List.mem_of_getElem? hz2)
     rw[List.drop_zero,c2,<-hl,List.take_length]at key;exact key
    ·cases hv
   ·cases hv
  ·cases hv
def Xi:DV->Value
 | .int k n=>.int k n
 | .str s=>.string ⟨s.toArray⟩
 |_=>undef
def aA4:DV->Bool
 | .int _ _=>true
 | .str _=>true
 |_=>false
theorem sX{P:Program}{W:World}{name:String}{g g':Nat}{t t':TypeId}{cs:Array Value}{fuel n:Nat}{p:List MemPlace}{d:DataW Unit}{ds:List DV}{enc:TypeId×Value->Unit}{base:Nat}{sp:Nat->Bool}{held:Bool}
 (hg:P.globalNamed name=some g)(hty:(P.globals[g]?).map (·.type)=some t)(hg':P.globalNamed name=some g')(ht':(P.globals[g']?).map (·.type)=some t')(hvar:W.var? P name=some cs)
 (hd:DataW.trod enc P W base sp held fuel t' cs.toList=some (d,p))(hlit:wN P n t d=some (ds.map Xi))(hfl:ds.all aA4=true):
 RD W (λ_=>False) (.ro ds) (.pointer (some ⟨g,0,none⟩))/\∃arr t fz,W.heap[g]? =some (.cells arr t fz)/\arr.size=ds.length:=by
 obtain rfl:=Option.some.inj (hg.symm.trans hg');obtain rfl:=Option.some.inj (hty.symm.trans ht');have hc:=Tv n fuel t cs.toList d p _ hd hlit;have hsz:cs.size=ds.length:=by
  have:=congrArg List.length hc;simpa using this
 have hblk:∃ty fz,W.heap[g]? =some (.cells cs ty fz):=by
  unfold World.var? at hvar;rw[hg]at hvar;simp only[Option.bind_some]at hvar;split at hvar
  ·rename_i c ty fz hh;cases hvar;exact⟨ty,fz,hh⟩
  ·cases hvar
 obtain⟨ty,fz,hblk⟩:=hblk;refine⟨.ro ds g 0 (ds.map Xi) (λh=>h) aM (λu hu=>?_) (Array.getElem?_eq_some_iff.1 hblk).1 (λj u hj=>?_) (λi x v hx hv=>?_),cs,ty,fz,hblk,hsz⟩
 ·obtain⟨x,hx,rfl⟩:=List.mem_map.1 hu;have:=List.all_eq_true.1 hfl x hx;cases x<;>first|rfl|cases this
 ·have:=World.var?_cell hg hvar j;rw[Nat.zero_add,this,<-hj,<-hc];simp
 ·rw[List.getElem?_map,hx]at hv;cases hv;have:=List.all_eq_true.1 hfl x (List.mem_of_getElem? hx);cases x with
  |int k n=>exact .int k n
  |str s=>exact .str s
  |_=>cases this
theorem aBx{w:World}(s:ByteArray):RD w (λ_=>False) (.str s.data.toList) (.string s):=by
 have:=RD.str (w:=w) (E:=λ_=>False) s.data.toList
 rwa[rW]at this
end Go.Eng
namespace Go.Proofs.YtjdlbidjlfllcaaGreatDoor.crA
open Go.Eng
theorem gl{W:World}(h:laidMetH prog Rows.typingSlicesRow.laid W):yI W (λ_=>False):=by
 have h:laidMet prog Rows.typingSlicesRow.laid W:=h;obtain⟨ps,⟨g1,t1,c1,f1,p1,q1,n1,y1,v1,d1,⟨g2,t2,c2,f2,p2,q2,n2,y2,v2,d2,⟨g3,t3,c3,f3,p3,q3,n3,y3,v3,d3,⟨g4,t4,c4,f4,p4,q4,n4,y4,v4,d4,⟨g5,t5,c5,f5,p5,q5,n5,y5,v5,d5,⟨g6,t6,c6,f6,p6,q6,n6,y6,v6,d6,⟨g7,t7,c7,f7,p7,q7,n7,y7,v7,d7,⟨g8,t8,c8,f8,p8,q8,n8,y8,v8,d8,_,_⟩,_⟩,_⟩,_⟩,_⟩,_⟩,_⟩,_⟩,_⟩:=h;intro n cs hn
 match n,hn with
 |0,hn=>cases hn;exact sX (n:=4) (g:=0) (t:=170) (by kernel_rfl) (by kernel_rfl) n6 y6 v6 d6 (by kernel_rfl) (by kernel_rfl)
 |1,hn=>cases hn;exact sX (n:=4) (g:=1) (t:=191) (by kernel_rfl) (by kernel_rfl) n8 y8 v8 d8 (by kernel_rfl) (by kernel_rfl)
 |2,hn=>cases hn
 |3,hn=>cases hn;exact sX (n:=4) (g:=3) (t:=219) (by kernel_rfl) (by kernel_rfl) n7 y7 v7 d7 (by kernel_rfl) (by kernel_rfl)
 |4,hn=>cases hn
 |5,hn=>cases hn
 |6,hn=>cases hn;exact sX (n:=4) (g:=6) (t:=237) (by kernel_rfl) (by kernel_rfl) n3 y3 v3 d3 (by kernel_rfl) (by kernel_rfl)
 |7,hn=>cases hn;exact sX (n:=4) (g:=7) (t:=239) (by kernel_rfl) (by kernel_rfl) n1 y1 v1 d1 (by kernel_rfl) (by kernel_rfl)
 |8,hn=>cases hn;exact sX (n:=4) (g:=8) (t:=240) (by kernel_rfl) (by kernel_rfl) n2 y2 v2 d2 (by kernel_rfl) (by kernel_rfl)
 |n+9,hn=>cases hn
abbrev rangeS:ByteArray:={data:= #[118,97,108,117,101,32,111,117,116,32,111,102,32,114,97,110,103,101]}
abbrev syntaxS:ByteArray:={data:= #[105,110,118,97,108,105,100,32,115,121,110,116,97,120]}
noncomputable def low:Nat:=(World.holding prog default ⟨#[],#[],[]⟩).heap.size
noncomputable def held(g:Nat)(cs:Array Value):Array Value:=match g with
 |4=> #[.iface 233 (.pointer (some ⟨low+1,0,none⟩))]
 |5=> #[.iface 233 (.pointer (some ⟨low,0,none⟩))]
 |g=>match globD g with
  |some ds=>(ds.map Xi).toArray
  |none=>cs
noncomputable def laidObj(h:Array Obj)(g:Nat):Array Obj:=h.modify g λ
 | .cells cs t frozen=>.cells (held g cs) t frozen
 |o=>o
noncomputable def laidWorld(os:Os):World:=
 let w0:=World.holding prog os ⟨#[.cells #[.string rangeS] 235,.cells #[.string syntaxS] 235],#[],[]⟩
 {w0 with heap:=(List.range 9).foldl laidObj w0.heap}
theorem laidWorld_met(os:Os)(args:Array Value):laidMet prog Rows.typingSlicesRow.laid ((laidWorld os).forCall (λ_ _=>0) ⟨#[],args,[]⟩).memory:=
 laidMet_of_run' 8 (by kernel_rfl) (by kernel_rfl)
end Go.Proofs.YtjdlbidjlfllcaaGreatDoor.crA
