/- Part 7 of the proof. No condition. -/
import Derived.Test.YtjdlbidjlfllcaaGreatDoorMF
import Derived.Shelf.Strconv.Atoi
import Derived.Test.YtjdlbidjlfllcaaGreatDoorProg
open Go.Proofs
open Go.Proofs.Tryz
set_option linter.unusedVariables false
set_option linter.unusedSimpArgs false
set_option maxRecDepth 20000
set_option maxHeartbeats 4000000
namespace Go.Eng
section
attribute[local simp] kQ.cond Nd.d_eq nd_t nd_dr nd_td ndsD aZ
theorem Ep(p:UInt8->Bool)(s:aW)(i:Nat):firstIs p (s.drop i)=(decide (i<s.length)&&p (s[i]?.getD 0)):=by
 by_cases h:i<s.length
 ·rw[List.drop_eq_getElem_cons h,List.getElem?_eq_getElem h];simp[firstIs,h]
 ·rw[List.drop_eq_nil_of_le aE];simp[firstIs,h]
theorem qD(s:aW)(i:Nat)(hl:s.length<=9223372036854775807):Ok prog 92 [.str s,aI i] ⟨.d (.bool (firstIs letterB (s.drop i))),true⟩:=by
 refine Ok.ret func92 bY (c:=_) rfl ntmps92 aM results92 (by intro _ h;cases h) λw0 X hp=>?_;apply aD;simp;apply aD;simp;refine⟨λh _=>h,?_⟩;apply aH;simp;rw[Ep,yS];simp[Bool.and_assoc]
theorem pJ(s:aW)(i:Nat)(hl:s.length<=9223372036854775807):Ok prog 93 [.str s,aI i] ⟨.d (.bool (firstIs digitB (s.drop i))),true⟩:=by
 refine Ok.ret func93 bY (c:=_) rfl ntmps93 aM results93 (by intro _ h;cases h) λw0 X hp=>?_;apply aD;simp;apply aD;simp;refine⟨λh _=>h,?_⟩;apply aH;simp;rw[Ep,Be];simp[Bool.and_assoc]
def Cf(s:aW)(i:Nat):Int:=if 0<wordN (s.drop i)then(i:Int)+wordN (s.drop i)else -1
def ldB(c:UInt8):Bool:=letterB c||digitB c
theorem Eq(p q:UInt8->Bool)(s:aW):(firstIs p s||firstIs q s)=firstIs (λc=>p c||q c) s:=by cases s<;>rfl
theorem KA(s:aW):wordN s=if firstIs letterB s=true then(if runP ldB s<=16 then runP ldB s else 0)else 0:=by
 cases s with
 |nil=>rfl
 |cons c r=>rfl
theorem Bo{p:UInt8->Bool}:∀{s:aW} {k:Nat},(∀m (h:m<k),firstIs p (s.drop m)=true)->firstIs p (s.drop k)=false->runP p s=k
 |[],0,_,_=>rfl
 |[],k+1,h,_=>by have:=h 0 aE;simp[firstIs]at this
 |c::r,0,_,h=>by
  have h:p c=false:=h;simp[runP,h]
 |c::r,k+1,h,h2=>by
  have h0:p c=true:=h 0 aE;simp only[runP,h0,if_true];rw[Bo (s:=r) (k:=k) (λm hm=>h (m+1) aE) h2]
theorem Zk{s:aW}{i k:Nat}(g:firstIs letterB (s.drop (i+k))=true\/firstIs digitB (s.drop (i+k))=true):i+k<s.length:=by
 refine Classical.byContradiction λq=>?_;rw[List.drop_eq_nil_of_le aE]at g;rcases g with g|g<;>cases g
theorem aAR{s:aW}{i k:Nat}(g:firstIs letterB (s.drop (i+k))=true\/firstIs digitB (s.drop (i+k))=true):firstIs ldB (s.drop (i+k))=true:=by
 show firstIs (λc=>letterB c||digitB c) (s.drop (i+k))=true;rw[<-Eq];rcases g with g|g<;>simp[g]
def vT:List aW:=[[97,99,113,117,105,114,101],[97,108,108,111,99],[99,97,108,108],[99,104,97,110],[99,104,101,99,107],[100,114,97,119],[101,108,115,101],[102,105,108,101],[103,111],[105,102],[107,105,110,100],[108,111,99,107],[110,111,119],[112,114,111,99],[114,101,97,100],[114,101,99],[114,101,99,118],[114,101,108,101,97,115,101],[115,101,110,100],[115,108,101,101,112],[116,101,115,116],[118,97,114],[119,104,105,108,101],[119,114,105,116,101]]
theorem KB(s:aW)(i:Nat)(hi:i<=s.length)(hl:s.length<=9223372036854775000):Ok prog 170 [.str s,aI i] ⟨.d (aI (Cf s i)),true⟩:=by
 refine Ok.ret func170 bY (c:=_) rfl ntmps170 aM results170 (by intro _ h;cases h) λw0 X hp=>?_;apply aD;simp;apply eA;have h1:=qD s i aE;refine aP (λ|8=>some<| .plain ⟨.d (.bool (firstIs letterB (s.drop i))),true⟩|_=>none) ?_;simp;refine⟨h1,?_⟩;apply aJ;simp;refine⟨λh1=>?_,λh1=>?_⟩
 ·apply aD;simp;apply aH;simp;unfold Cf;have hw:wordN (s.drop i)=0:=by rw[KA,if_neg (by simp[h1])]
  rw[hw,if_neg aE]
 ·apply aF;simp;apply aD;simp;apply dH;refine aU (ι:=Nat) (λk=>aR [(0,.d (.str s)),(1,.d (aI i)),(5,.d (aI ((i+k:Nat):Int)))]) (λk=>aL []) (λk=>i+k<=s.length/\∀m,m<k->firstIs ldB (s.drop (i+m))=true) (λk=>s.length-i-k) 0 (aA hp [0,1,5] []) (⟨aE,λm h=>absurd h (Nat.not_lt_zero m)⟩) λk hi4=>?_;apply eA;have h2:=qD s (i+k) aE;have h3:=pJ s (i+k) aE;refine aP (λ|13=>some<| .plain ⟨.d (.bool (firstIs letterB (s.drop (i+k)))),true⟩|17=>some<| .plain ⟨.d (.bool (firstIs digitB (s.drop (i+k)))),true⟩|_=>none) ?_;simp[-Int.natCast_add];refine⟨⟨h2,λ_=>h3⟩,?_⟩;apply aJ;simp;refine⟨λg4=>?_,λg5 g6=>?_⟩
  ·apply aF;simp;apply aO;apply aK;simp;refine⟨aE,?_⟩;refine Pq.mk (k+1) (aA hp [0,1,5] [] (by simp[Int.add_assoc])) ?_ ?_
   ·have hlt:i+k<s.length:=Zk g4;refine⟨aE,λm hm=>?_⟩;by_cases e:m=k
    ·rw[e];exact aAR g4
    ·exact hi4.2 m aE
   ·have hlt:i+k<s.length:=Zk g4;omega
  ·apply bE;simp;apply eA;have hr:runP ldB (s.drop i)=k:=Bo (λm hm=>by rw[List.drop_drop];exact hi4.2 m hm) (by
    rw[List.drop_drop];show firstIs (λc=>letterB c||digitB c) (s.drop (i+k))=false;rw[<-Eq,g5,g6];rfl)
   have hw:=KA (s.drop i);rw[if_pos h1,hr]at hw;have hk0:0<k:=by
    rcases Nat.eq_zero_or_pos k with z|z
    ·rw[z]at g5;rw[Nat.add_zero,h1]at g5;cases g5
    ·exact z
   apply aK;simp;refine⟨aE,?_⟩;apply aJ;simp;refine⟨λh6=>?_,λh6=>?_⟩
   ·apply aD;simp;apply aH;simp;unfold Cf;have hw':wordN (s.drop i)=0:=by rw[hw,if_neg aE]
    rw[hw',if_neg aE]
   ·apply aF;simp;apply aD;simp;apply aH;simp;unfold Cf;have hw':wordN (s.drop i)=k:=by rw[hw,if_pos aE]
    rw[hw',if_pos hk0]
theorem Iq(c:UInt8)(r:aW):isNameB (c::r)=(letterB c&& !decide ((c::r)∈vT)):=by
 have h1:∀x∈vT,reservedB x=true:=bC;have h2:∀x∈sElse::sKind::wordsL,x≠[]->x∈vT:=bC;have e:reservedB (c::r)=decide ((c::r)∈vT):=by
  rw[Bool.eq_iff_iff,decide_eq_true_eq];refine⟨λh=>h2 _ ?_ aM,h1 _⟩;simp only[reservedB,Bool.or_eq_true,decide_eq_true_eq]at h;simp only[List.mem_cons];rcases h with(h|h)|h
  ·exact .inl h
  ·exact .inr (.inl h)
  ·exact .inr (.inr h)
 show(letterB c&& !reservedB (c::r))=_;rw[e]
theorem Bp(l:List aW)(w:aW):Ok prog 24 [gO l,.str w] ⟨.d (.bool (decide (w∈l))),true⟩:=by
 refine Ok.ret func24 bY (c:=_) rfl ntmps24 aM results24 (by intro _ h;cases h) λw0 X hp=>?_;refine eW.len (t:=0) rfl λhlen=>?_;simp at hlen;apply aD;simp;apply dT;simp;apply aO;refine aU (ι:=Nat) (λi=>aR [(0,.d (gO l)),(1,.d (.str w)),(5,.d (aI i))]) (λi=>aL []) (λi=>i<=l.length/\w∉l.take i) (λi=>l.length-i) 0 (aA hp [0,1,5] []) (⟨Nat.zero_le _,aM⟩) λi hi2=>?_;apply aG;apply aV;simp;refine⟨λh2=>?_,λh2=>?_⟩
 ·apply aF;simp;apply dH;apply aG;have hi:i<l.length:=aE;apply aK;simp[hi];apply aJ;simp;refine⟨λh4=>?_,λh4=>?_⟩
  ·apply aD;simp;apply aH;simp;rw[<-h4];exact(List.getElem_mem hi)
  ·apply aF;simp;apply aK;simp;refine⟨aE,?_⟩;refine Pq.mk (i+1) (aA hp [0,1,5] []) ?_ ?_
   ·refine⟨aE,?_⟩;have hi:i<l.length:=aE;rw[<-List.take_append_getElem hi];simp only[List.mem_append,List.mem_singleton,not_or];exact⟨hi2.2,λe=>h4 e.symm⟩
   ·omega
 ·apply bE;simp;apply aD;simp;apply aH;simp;have e:=hi2.2;rw[List.take_of_length_le aE]at e;exact e
theorem Sk:Ok prog 202 [] ⟨.d (gO vT),true⟩:=by
 refine Ok.ret func202 bY (c:=_) rfl ntmps202 aM results202 (by intro _ h;cases h) λw0 X hp=>?_;apply aD;simp;apply aD;simp;refine⟨bC,?_⟩;apply aH;simp;rfl
theorem NP(s:aW)(hl:s.length<=9223372036854775807):Ok prog 171 [.str s] ⟨.d (.bool (isNameB s)),true⟩:=by
 refine Ok.ret func171 bY (c:=_) rfl ntmps171 aM results171 (by intro _ h;cases h) λw0 X hp=>?_;apply aD;simp;apply aG;have h1:=qD s 0 hl;have h2:=Sk;have h3:=Bp vT s;refine aP (λ|4=>some<| .plain ⟨.d (.bool (firstIs letterB s)),true⟩|6=>some<| .plain ⟨.d (gO vT),true⟩|8=>some<| .plain ⟨.d (.bool (decide (s∈vT))),true⟩|_=>none) ?_;simp;refine⟨⟨⟨by simpa using h1,λ_=>h2⟩,λ_=>h3⟩,?_⟩;apply aH;simp;cases s with
 |nil=>rfl
 |cons c r=>rw[Iq];rfl
end
section
attribute[local simp] kQ.cond Nd.d_eq nd_t nd_dr nd_td ndsD aZ
theorem Vt{k:Nat}(h:k<11):(([40,41,123,125,61,43,45,42,60,59,46]:aW)[k]?.getD 0)∈signs:=by
 have e:([40,41,123,125,61,43,45,42,60,59,46]:aW)=signs:=rfl;rw[e,List.getElem?_eq_getElem h,Option.getD_some];exact List.getElem_mem h
theorem ZV{a b:UInt8}:((a.toNat:Int)=(b.toNat:Int))↔a=b:=by
 rw[<-UInt8.toNat_inj];omega
theorem KD(c:UInt8):Ok prog 94 [.int .u8 (c.toNat:Int)] ⟨.d (.bool (decide (c∈signs))),true⟩:=by
 refine Ok.ret func94 bY (c:=_) rfl ntmps94 aM results94 (by intro _ h;cases h) λw0 X hp=>?_;apply aD;simp;apply aD;simp;apply dT;simp;apply aO;refine aU (ι:=Nat) (λi=>aR [(0,.d (.int .u8 (c.toNat:Int))),(3,.d (.str [40,41,123,125,61,43,45,42,60,59,46])),(4,.d (aI i))]) (λi=>aL []) (λi=>i<=11/\c∉signs.take i) (λi=>11-i) 0 (aA hp [0,3,4] []) (⟨Nat.zero_le _,aM⟩) λi hi3=>?_;apply aG;apply aV;simp;refine⟨λh3=>?_,λh3=>?_⟩
 ·apply aF;simp;apply dH;apply aG;have hk:i<11:=aE;have hk2:i<signs.length:=hk;apply aK;simp;refine⟨aE,?_⟩;apply aJ;simp;refine⟨λh5=>?_,λh5=>?_⟩
  ·apply aD;simp;apply aH;simp;have e:=Vt hk;rw[ZV.1 h5]at e;exact e
  ·apply aF;simp;apply aK;simp;refine⟨aE,?_⟩;refine Pq.mk (i+1) (aA hp [0,3,4] []) ?_ ?_
   ·refine⟨aE,?_⟩;have hi:i<signs.length:=hk;rw[<-List.take_append_getElem hi];simp only[List.mem_append,List.mem_singleton,not_or];refine⟨hi3.2,λe=>h5 ?_⟩;rw[e];rw[show([40,41,123,125,61,43,45,42,60,59,46]:aW)=signs from rfl,List.getElem?_eq_getElem hi];rfl
   ·omega
 ·apply bE;simp;apply aD;simp;apply aH;simp;have e:=hi3.2;rw[List.take_of_length_le (by show 11<=i;omega)]at e;exact e
theorem NQ(c:UInt8):IntKind.i64.wrap (c.toNat:Int)=c.toNat:=by
 have:=c.toNat_lt;unfold IntKind.wrap;simp[IntKind.bits,IntKind.signed];split<;>omega
theorem GH:∀s:aW,s.length<=3-> -100000<=valS s/\valS s<=100000
 |[],_=>by simp[valS]
 |[a],_=>by have:=a.toNat_lt;simp only[valS,List.foldl_cons,List.foldl_nil];omega
 |[a,b],_=>by have:=a.toNat_lt;have:=b.toNat_lt;simp only[valS,List.foldl_cons,List.foldl_nil];omega
 |[a,b,c],_=>by have:=a.toNat_lt;have:=b.toNat_lt;have:=c.toNat_lt;simp only[valS,List.foldl_cons,List.foldl_nil];omega
 |_::_::_::_::_,h=>by simp at h
theorem Vu{s:aW}{k:Nat}(h:k<s.length):valS (s.take (k+1))=10*valS (s.take k)+(((s[k]?.getD 0).toNat:Int)- 48):=by
 rw[<-List.take_append_getElem h,List.getElem?_eq_getElem h];unfold valS;rw[List.foldl_append];rfl
theorem XU:valS []=0:=rfl
attribute[local simp] XU
theorem Sl(s:aW)(hl:s.length<=3):Ok prog 173 [.str s] ⟨.d (aI (valS s)),true⟩:=by
 refine Ok.ret func173 bY (c:=_) rfl ntmps173 aM results173 (by intro _ h;cases h) λw0 X hp=>?_;apply aD;simp;apply aD;simp;apply dT;simp;apply aO;refine aU (ι:=Nat) (λi=>aR [(0,.d (.str s)),(3,.d (aI (valS (s.take i)))),(4,.d (aI i))]) (λi=>aL []) (λi=>i<=s.length) (λi=>s.length-i) 0 (aA hp [0,3,4] []) ((Nat.zero_le _)) λi hi3=>?_;apply aG;apply aV;simp;refine⟨λh3=>?_,λh3=>?_⟩
 ·apply aF;simp;apply dH;have hk:i<s.length:=aE;have hv:=Vu hk;have b1:=GH (s.take i) (by rw[List.length_take];omega);have b2:=GH (s.take (i+1)) (by rw[List.length_take];omega);have b3:=(s[i]?.getD 0).toNat_lt;have hw:=NQ (s[i]?.getD 0);apply aK;simp[hw];refine⟨⟨⟨⟨aE,aE⟩,aE⟩,aE⟩,?_⟩;apply aK;simp;refine⟨aE,?_⟩;refine Pq.mk (i+1) (aA hp [0,3,4] [] (by simp[hv,Int.add_sub_assoc])) ?_ ?_
  ·omega
  ·omega
 ·apply bE;simp;apply aD;simp;apply aH;simp;rw[List.take_of_length_le aE]
def sM(s:aW)(i:Nat):Int:=if 0<nextN (s.drop i)then(i:Int)+nextN (s.drop i)else -1
theorem u61{c:UInt8}:((c.toNat:Int)=61)↔c=61:=by
 rw[<-UInt8.toNat_inj];have:(61:UInt8).toNat=61:=rfl;omega
theorem u60{c:UInt8}:((c.toNat:Int)=60)↔c=60:=by
 rw[<-UInt8.toNat_inj];have:(60:UInt8).toNat=60:=rfl;omega
theorem Vv{p:UInt8->Bool}{s:aW}{i k:Nat}(h:∀m,m<k->firstIs p (s.drop (i+m))=true)(h2:firstIs p (s.drop (i+k))=false):runP p (s.drop i)=k:=
 Bo (λm hm=>by rw[List.drop_drop];exact h m hm) (by rw[List.drop_drop];exact h2)
theorem Ir{s:aW}{i:Nat}{c:UInt8}(hi:i<s.length)(hd:s.drop i=c::s.drop (i+1))(hg:s[i]?.getD 0=c):
 ((s.drop i).take 2=[60,61]\/(s.drop i).take 2=[61,61])↔((i:Int)+1<s.length/\((s[i+1]?.getD 0).toNat:Int)=61/\(((s[i]?.getD 0).toNat:Int)=60\/((s[i]?.getD 0).toNat:Int)=61)):=by
 rw[hg,hd,oA,oA,u60,u61,u61];by_cases h:i+1<s.length
 ·rw[List.drop_eq_getElem_cons h,List.getElem?_eq_getElem h];simp only[List.take_succ_cons,List.take_zero,List.cons.injEq,and_true,Option.getD_some];constructor
  ·rintro(⟨e1,e2⟩|⟨e1,e2⟩)
   ·exact⟨aE,e2,.inl e1⟩
   ·exact⟨aE,e2,.inr e1⟩
  ·rintro⟨_,e2,e1|e1⟩
   ·exact .inl ⟨e1,e2⟩
   ·exact .inr ⟨e1,e2⟩
 ·rw[List.drop_eq_nil_of_le aE];simp;omega
theorem Vw(s:aW)(i:Nat)(hi:i<s.length)(hl:s.length<=1000000000):Ok prog 135 [.str s,aI i] ⟨.d (aI (sM s i)),true⟩:=by
 refine Ok.ret func135 bY (c:=_) rfl ntmps135 aM results135 (by intro _ h;cases h) λw0 X hp=>?_;have hd:=List.drop_eq_getElem_cons hi;have hg:s[i]?.getD 0=s[i]:=by rw[List.getElem?_eq_getElem hi];rfl
 generalize s[i]=c at hd hg;have he:=kW c (s.drop (i+1));rw[<-hd]at he;apply aD;simp;apply eA;have h1:=qD s i aE;rw[hd]at h1;refine aP (λ|8=>some<| .plain ⟨.d (.bool (letterB c)),true⟩|_=>none) ?_;simp;refine⟨h1,?_⟩;apply aJ;simp;refine⟨λh1=>?_,λh1=>?_⟩
 ·apply aG;have w1:=KB s i aE aE;refine aP (λ|11=>some<| .plain ⟨.d (aI (Cf s i)),true⟩|_=>none) ?_;simp;refine⟨w1,?_⟩;apply aH;simp;have e:nextN (s.drop i)=wordN (s.drop i):=by rw[he,if_pos h1]
  unfold Cf sM;rw[e]
 ·apply aF;simp;apply dT;simp[hg];refine⟨aE,?_⟩;apply aJ;simp;refine⟨λh3=>?_,λh3=>?_⟩
  ·apply aG;have w4:=KB s (i+1) aE aE;refine aP (λ|19=>some<| .plain ⟨.d (aI (Cf s (i+1))),true⟩|_=>none) ?_;simp;refine⟨⟨aE,by simpa using w4⟩,?_⟩;apply aH;simp;have e:nextN (s.drop i)=if 0<wordN (s.drop (i+1))then wordN (s.drop (i+1))+1 else 0:=by rw[he,if_neg (by simp[h1]),if_pos (PN.1 h3)]
   unfold Cf sM;rw[e];by_cases z:0<wordN (s.drop (i+1))
   ·rw[if_pos z,if_pos z,if_pos aE];omega
   ·rw[if_neg z,if_neg z,if_neg aE]
  ·apply aF;simp;apply eA;have w5:=pJ s i aE;rw[hd]at w5;refine aP (λ|22=>some<| .plain ⟨.d (.bool (digitB c)),true⟩|_=>none) ?_;simp;refine⟨w5,?_⟩;apply aJ;simp;refine⟨λh5=>?_,λh5=>?_⟩
   ·apply aD;simp;apply dH;refine aU (ι:=Nat) (λk=>aR [(0,.d (.str s)),(1,.d (aI i)),(5,.d (aI ((i+k:Nat):Int)))]) (λk=>aL []) (λk=>i+k<=s.length/\∀m,m<k->firstIs digitB (s.drop (i+m))=true) (λk=>s.length-i-k) 0 (aA hp [0,1,5] []) (⟨aE,λm h=>absurd h (Nat.not_lt_zero m)⟩) λk hi7=>?_;apply eA;have w7:=pJ s (i+k) aE;refine aP (λ|26=>some<| .plain ⟨.d (.bool (firstIs digitB (s.drop (i+k)))),true⟩|_=>none) ?_;simp[-Int.natCast_add];refine⟨w7,?_⟩;apply aJ;simp;refine⟨λh7=>?_,λh7=>?_⟩
    ·apply aF;simp;apply aO;apply aK;simp;refine⟨aE,?_⟩;refine Pq.mk (k+1) (aA hp [0,1,5] [] (by simp[Int.add_assoc])) ?_ ?_
     ·have hlt:i+k<s.length:=Classical.byContradiction λq=>by rw[List.drop_eq_nil_of_le aE]at h7;cases h7
      refine⟨aE,λm hm=>?_⟩;by_cases e:m=k
      ·rw[e];exact h7
      ·exact hi7.2 m aE
     ·have hlt:i+k<s.length:=Classical.byContradiction λq=>by rw[List.drop_eq_nil_of_le aE]at h7;cases h7
      omega
    ·apply bE;simp;apply eA;have hr:=Vv hi7.2 h7;apply aK;simp;refine⟨aE,?_⟩;apply aJ;simp;refine⟨λh9=>?_,λh9=>?_⟩
     ·apply aD;simp;apply aH;simp;have e:nextN (s.drop i)=0:=by rw[he,if_neg (by simp[h1]),if_neg (λe=>h3 (PN.2 e)),if_pos h5,hr,if_neg aE]
      unfold sM;rw[e,if_neg aE]
     ·apply aF;simp;apply aD;simp;apply aH;simp;have h0:0<k:=by
       rcases Nat.eq_zero_or_pos k with z|z
       ·rw[z,Nat.add_zero,hd]at h7;exact absurd h5 (by rw[show digitB c=false from h7];simp)
       ·exact z
      have e:nextN (s.drop i)=k:=by rw[he,if_neg (by simp[h1]),if_neg (λe=>h3 (PN.2 e)),if_pos h5,hr,if_pos aE]
      unfold sM;rw[e,if_pos h0]
   ·apply aF;simp;apply dT;simp;refine⟨⟨⟨⟨aE,λ_=>aE⟩,λ_=>aE⟩,aE⟩,?_⟩;apply aJ;simp;refine⟨λg1 g2 g3=>?_,λg=>?_⟩
    ·apply aD;simp;refine⟨aE,?_⟩;apply aH;simp;have e:nextN (s.drop i)=2:=by rw[he,if_neg (by simp[h1]),if_neg (λe=>h3 (PN.2 e)),if_neg (by simp[h5]),if_pos ((Ir hi hd hg).2 ⟨g1,g2,g3⟩)]
     unfold sM;rw[e,if_pos bC];rfl
    ·apply aF;simp;apply eA;have w14:=KD c;refine aP (λ|63=>some<| .plain ⟨.d (.bool (decide (c∈signs))),true⟩|_=>none) ?_;simp[hg];refine⟨⟨aE,w14⟩,?_⟩;apply aJ;simp;refine⟨λh14=>?_,λh14=>?_⟩
     ·apply aD;simp;refine⟨aE,?_⟩;apply aH;simp;have e:nextN (s.drop i)=1:=by rw[he,if_neg (by simp[h1]),if_neg (λe=>h3 (PN.2 e)),if_neg (by simp[h5]),if_neg (λz=>by have z:=(Ir hi hd hg).1 z;exact z.2.2.elim (g z.1 z.2.1).1 (g z.1 z.2.1).2),if_pos h14]
      unfold sM;rw[e,if_pos bC];rfl
     ·apply aF;simp;apply aD;simp;apply aH;simp;have e:nextN (s.drop i)=0:=by rw[he,if_neg (by simp[h1]),if_neg (λe=>h3 (PN.2 e)),if_neg (by simp[h5]),if_neg (λz=>by have z:=(Ir hi hd hg).1 z;exact z.2.2.elim (g z.1 z.2.1).1 (g z.1 z.2.1).2),if_neg h14]
      unfold sM;rw[e,if_neg bC]
end
section
attribute[local simp] kQ.cond Nd.d_eq nd_t nd_dr nd_td ndsD aZ
theorem tQ:∀(f:Nat) (s:aW) (i:Int),s.length<=f->scanF f s i=scanF s.length s i
 |0,s,i,h=>by
  have:s=[]:=List.eq_nil_of_length_eq_zero aE;subst this;rfl
 |f+1,[],i,_=>by simp[scanF]
 |f+1,c::r,i,h=>by
  have e1:=tQ f r (i+1) (by simpa using h);simp only[List.length_cons,scanF];by_cases q:c=32\/c=10
  ·rw[if_pos q,if_pos q,e1]
  ·rw[if_neg q,if_neg q];by_cases z:nextN (c::r)=0
   ·rw[if_pos z,if_pos z]
   ·rw[if_neg z,if_neg z];have hl:((c::r).drop (nextN (c::r))).length<=r.length:=by rw[List.length_drop,List.length_cons];omega
    have h':r.length<=f:=by simpa using h
    have e2:=tQ f ((c::r).drop (nextN (c::r))) (i+nextN (c::r)) aE;have e3:=tQ r.length ((c::r).drop (nextN (c::r))) (i+nextN (c::r)) hl;rw[e2,e3]
termination_by f _ _ _=>f
def oB(s:aW)(k:Nat):List Tk×Int:=scanF (s.drop k).length (s.drop k) k
theorem GI{s:aW}{k:Nat}(h:s.length<=k):oB s k=([],(k:Int)):=by
 unfold oB;rw[List.drop_eq_nil_of_le h];rfl
theorem Cg{s:aW}{k:Nat}(h:k<s.length)(hc:s[k]=32\/s[k]=10):oB s k=oB s (k+1):=by
 unfold oB;rw[List.drop_eq_getElem_cons h,List.length_cons,scanF,if_pos hc];rfl
theorem Er{s:aW}{k:Nat}(h:k<s.length)(hc:¬(s[k]=32\/s[k]=10))(hn:nextN (s.drop k)=0):oB s k=([],(k:Int)):=by
 unfold oB;rw[List.drop_eq_getElem_cons h]at hn|-;rw[List.length_cons,scanF,if_neg hc,if_pos hn]
theorem GJ{s:aW}{k:Nat}(h:k<s.length)(hc:¬(s[k]=32\/s[k]=10))(hn:nextN (s.drop k)≠0):
 oB s k=(⟨(s.drop k).take (nextN (s.drop k)),k⟩::(oB s (k+nextN (s.drop k))).1,(oB s (k+nextN (s.drop k))).2):=by
 have hl:=vN (s.drop k);have e:(s.drop k).drop (nextN (s.drop k))=s.drop (k+nextN (s.drop k)):=by rw[List.drop_drop]
 unfold oB;rw[<-e];generalize hm:nextN (s.drop k)=m at hn hl e|-;rw[List.drop_eq_getElem_cons h]at hm hl|-;rw[List.length_cons,scanF,if_neg hc,if_neg (by rw[hm];exact hn),hm];rw[tQ _ _ _ (by rw[List.length_drop,List.length_cons];omega)]
 push_cast
 rfl
theorem Zl{c:UInt8}{n:Nat}(hn:n<256):((c.toNat:Int)=n)↔c=UInt8.ofNat n:=by
 rw[<-UInt8.toNat_inj];have:(UInt8.ofNat n).toNat=n:=by simp[UInt8.toNat_ofNat'];omega
 omega
theorem xL{s:aW}{k:Nat}(hk:k<s.length):(((s[k]?.getD 0).toNat:Int)=32\/((s[k]?.getD 0).toNat:Int)=10)↔(s[k]=32\/s[k]=10):=by
 rw[List.getElem?_eq_getElem hk,Option.getD_some];have e1:=Zl (c:=s[k]) (n:=32) bC;have e2:=Zl (c:=s[k]) (n:=10) bC;exact⟨λq=>q.imp e1.1 e2.1,λq=>q.imp e1.2 e2.2⟩
theorem It(s:aW)(k n:Nat):List.drop k (List.take ((k:Int)+(n:Int)).toNat s)=List.take n (List.drop k s):=by
 rw[show((k:Int)+(n:Int)).toNat=k+n by omega,List.drop_take,show k+n-k=n by omega]
structure ScS where
 k:Nat
 L:List Tk
 deriving Inhabited
theorem Vx(s:aW)(hl:s.length<=1000000000):Ok prog 72 [.str s] ⟨.tup [.own 2 ((scanS s).1.map Tk.d),.d (aI (scanS s).2)],true⟩:=by
 refine Ok.two func72 bY (c:=_) rfl ntmps72 aM results72 rfl λw0 X hp=>?_;apply aD;simp;refine eW.scope ?_;apply aD;simp;apply aD;simp;apply aG;refine eW.label ?_;simp;apply dH;refine aU (ι:=ScS) (λ⟨k,L⟩=>aR [(0,.d (.str s)),(4,.ow 4 0 L.length),(5,.d (aI k))]) (λ⟨k,L⟩=>aL [(4,.row false 2 (L.map Tk.d))]) (λ⟨k,L⟩=>L.length<=k/\k<=s.length/\scanS s=(L++(oB s k).1,(oB s k).2)) (λ⟨k,L⟩=>s.length-k) ⟨0,[]⟩ (aA hp [0,4,5] [(4,4)]) (⟨Nat.le_refl _,Nat.zero_le _,by simp[oB,scanS]⟩) λ⟨k,L⟩ hi3=>?_;apply aG;apply aV;simp;refine⟨λh3=>?_,λh3=>?_⟩
 ·apply aF;simp;apply aO;apply eA;have hk:k<s.length:=aE;apply aK;simp;refine⟨hk,?_⟩;apply aO;refine aY (ι:=BC) (λ⟨b⟩=>aR [(0,.d (.str s)),(4,.ow 4 0 L.length),(5,.d (aI k)),(14,.d (.bool b))]) (λ⟨b⟩=>aL [(4,.row false 2 (L.map Tk.d))]) (λ⟨b⟩=>b=true↔(((s[k]?.getD 0).toNat:Int)=32\/((s[k]?.getD 0).toNat:Int)=10)) ?_ λ⟨b⟩ hc7=>?_
  ·apply aV;simp;refine⟨λh5=>?_,λh5=>?_⟩
   ·apply aF;simp;refine XG.mk ⟨decide (((s[k]?.getD 0).toNat:Int)=32)⟩ (aA hp [0,4,5,14] [(4,4)]) ?_;simp[h5]
   ·apply aK;simp;refine XG.mk ⟨decide (((s[k]?.getD 0).toNat:Int)=10)⟩ (aA hp [0,4,5,14] [(4,4)]) ?_;simp only[decide_eq_true_eq];omega
  ·apply aJ;simp;refine⟨λh7=>?_,λh7=>?_⟩
   ·have q7:=(xL hk).1 (hc7.1 h7);apply aD;simp;refine⟨aE,?_⟩;apply bE;simp;refine Pq.mk ⟨k+1,L⟩ (aA hp [0,4,5] [(4,4)]) ?_ ?_
    ·refine⟨Nat.le_succ_of_le hi3.1,hk,?_⟩;rw[hi3.2.2,Cg hk q7]
    ·show s.length-(k+1)<s.length-k;omega
   ·have q7:¬(s[k]=32\/s[k]=10):=λq=>by simp[hc7.2 ((xL hk).2 q)]at h7
    apply aF;simp;apply aG;have hn:=XS s[k] (s.drop (k+1)) kG;rw[<-List.drop_eq_getElem_cons hk]at hn;refine aP (λ|22=>some<| .plain ⟨.d (aI (nextN (s.drop k))),true⟩|_=>none) ?_;simp;refine⟨⟨aE,hn⟩,?_⟩;apply aG;apply aV;simp;refine⟨λh9=>?_,λh9=>?_⟩
    ·apply bE;simp;apply aD;simp;apply aH;simp;have e:=hi3.2.2;rw[Er hk q7 h9]at e;rw[e];exact⟨⟨aM,λa _ c hc=>by simp[Tk.d,aQ]at hc;rcases hc with rfl|rfl<;>rfl⟩,rfl⟩
    ·apply aF;simp;apply aG;have hnl:=vN (s.drop k);rw[List.length_drop]at hnl;apply aK;simp;refine⟨⟨⟨⟨aE,aE⟩,aE,aE⟩,aE,aE⟩,?_⟩;apply aK;simp;refine⟨aE,?_⟩;refine Pq.mk ⟨k+nextN (s.drop k),L++[⟨(s.drop k).take (nextN (s.drop k)),k⟩]⟩ (aA hp [0,4,5] [(35,4)] (hH:=by simp[Tk.d,It])) ?_ ?_
     ·refine⟨?_,?_,?_⟩
      ·show(L++[_]).length<=k+nextN (s.drop k);rw[List.length_append,List.length_singleton];omega
      ·show k+nextN (s.drop k)<=s.length;omega
      ·rw[hi3.2.2,GJ hk q7 h9];simp
     ·show s.length-(k+nextN (s.drop k))<s.length-k;omega
 ·apply bE;simp;apply aD;simp;apply aH;simp;have e:=hi3.2.2;rw[GI h3]at e;rw[e];exact⟨⟨aM,λa _ c hc=>by simp[Tk.d,aQ]at hc;rcases hc with rfl|rfl<;>rfl⟩,rfl⟩
theorem XV(s:aW)(hl:s.length<=1000000000):Ok prog 72 [.str s] ⟨.tup [.d (.sl ((scanS s).1.map Tk.d)),.d (aI (scanS s).2)],true⟩:=Gm (Vx s hl)
end
section
attribute[local simp] kQ.cond Nd.d_eq nd_t nd_dr nd_td ndsD aZ bP
def mQ(l:List Tk):DV:=.sl (l.map Tk.d)
theorem aBu:∀t:Tk,(aQ t.d).length=2:=λ_=>rfl
def dN(p:PS):List (Nat×bB):=[(0,.box false [.d (mQ p.l),.d (aI p.e)])]
attribute[local simp] mQ dN
theorem dD(c:Prop)[Decidable c](A B:bB)(x:Nat):bW (λx=>if x=0 then A else B) (if c then []else [(0,A)]) x=if x=0 then A else B:=by
 by_cases h:c<;>by_cases q:x=0<;>simp[h,q,bW,cE]
attribute[local simp] dD
theorem Bq{p:PS}(h:¬p.e=0\/p.l=[]):p.peek=[]:=by
 unfold PS.peek;by_cases q:p.e=0
 ·rcases h with h|h
  ·exact absurd q h
  ·rw[if_neg (by simpa using q),h]
 ·rw[if_pos q]
theorem GK{p:PS}{t:Tk}{r:List Tk}(h:p.e=0)(hl:p.l=t::r):p.peek=t.text:=by
 unfold PS.peek;rw[if_neg (by simpa using h),hl]
theorem eV{p:PS}{s:aW}:p.is s=true↔s≠[]/\p.peek=s:=by simp[PS.is]
theorem cH{p:PS}{s:aW}(h:p.is s=true):p.took s=p.skip:=if_pos h
theorem gR{p:PS}{s:aW}(h:¬p.is s=true):p.took s=p:=if_neg h
theorem mI(p:PS):iG prog 121 [.bx 0 0] (dN p) (dN p) (.d (.str p.peek)):=by
 unfold dN;refine iG.one func121 bY (c:=_) rfl ntmps121 aM results121 λw0 X hp=>?_;apply aD;simp;apply aG;apply aV;simp;refine⟨λg=>?_,λg1 g2=>?_⟩
 ·apply aD;simp;apply aH;simp;exact aA hp [2] [(0,0)] (by simp[Bq g])
 ·apply aF;simp;apply aG;obtain⟨t,r,htr⟩:=List.exists_cons_of_ne_nil g2;apply aK;simp[htr,Tk.d];apply aH;simp;exact aA hp [2] [(0,0)] (by simp[GK g1 htr]) (by simp[htr])
theorem xM(p:PS)(e:Int):iG prog 122 [.bx 0 0,.d (aI e)] (dN p) (dN (p.fail e)) (.tup []):=by
 unfold dN;refine fY func122 bY (c:=_) rfl ntmps122 aM results122 λw0 X hp=>?_;apply aV;simp;refine⟨λh0=>?_,λh0=>?_⟩
 ·apply aK;simp;exact aA hp [] [(0,0)] (hH:=by simp[PS.fail,h0])
 ·apply aF;simp;exact aA hp [] [(0,0)] (hH:=by simp[PS.fail,h0])
theorem jX(p:PS)(s:aW):iG prog 123 [.bx 0 0,.d (.str s)] (dN p) (dN (p.took s)) (.d (.bool (p.is s))):=by
 unfold dN;refine iG.one func123 bY (c:=_) rfl ntmps123 aM results123 λw0 X hp=>?_;apply aD;simp;apply aG;refine cJ (λ|9=>some (.gen ⟨[(0,0)],[],[],dN p,.d (.str p.peek)⟩)|_=>none) ?_;simp;refine⟨λ_=>mI p,?_⟩;apply aJ;simp;refine⟨λg=>?_,λg1 g2=>?_⟩
 ·apply aD;simp;apply aH;simp;have hn:¬p.is s=true:=λq=>by
   obtain⟨q1,q2⟩:=eV.1 q;rcases g with g|g
   ·exact q1 g
   ·exact g q2
  exact aA hp [4] [(0,0)] (by simp[hn]) (by simp[gR hn])
 ·apply aF;simp;apply aG;have hs:p.is s=true:=eV.2 ⟨g1,by simpa using g2⟩;have hl:=gE hs;apply aK;simp;refine⟨⟨aE,λt _=>aBu t⟩,?_⟩;apply aD;simp;apply aH;simp;exact aA hp [4] [(0,0)] (by simp[hs]) (by simp[cH hs,PS.skip])
theorem Iu{p:PS}{s:aW}(h:p.is s=true):p.need s=p.took s:=by unfold PS.need PS.took;rw[if_pos h,if_pos h]
theorem KE{p:PS}{s:aW}(h:p.is s=false):p.need s=(p.took s).fail 2:=by
 have h':¬p.is s=true:=by simp[h]
 rw[gR h'];unfold PS.need;rw[if_neg h']
theorem tR{p:PS}(h:isNameB p.peek=true):nameP p=(p.peek,p.took p.peek):=by
 have:p.is p.peek=true:=eV.2 ⟨λe=>(by rw[e]at h;cases h),rfl⟩;rw[cH this];unfold nameP;rw[if_pos h]
theorem qE{p:PS}(h:isNameB p.peek=false):nameP p=([],p.fail 2):=by unfold nameP;rw[if_neg (by simp[h])]
theorem kX(p:PS)(s:aW):iG prog 126 [.bx 0 0,.d (.str s)] (dN p) (dN (p.need s)) (.tup []):=by
 unfold dN;refine fY func126 bY (c:=_) rfl ntmps126 aM results126 λw0 X hp=>?_;refine cJ (λ|6=>some (.gen ⟨[(0,0)],[],[],dN (p.took s),.d (.bool (p.is s))⟩)|_=>none) ?_;simp;refine⟨jX p s,?_⟩;apply aJ;simp;refine⟨λh0=>?_,λh0=>?_⟩
 ·have en:=KE h0;refine aP (λ|9=>some (.gen ⟨[(0,0)],[],[],dN ((p.took s).fail 2),.tup []⟩)|_=>none) ?_;simp;refine⟨xM (p.took s) 2,?_⟩;exact aA hp [] [(0,0)] (hH:=by simp[en])
 ·have en:=Iu h0;apply aF;simp;exact aA hp [] [(0,0)] (hH:=by simp[en])
theorem Ao(p:PS):iG prog 124 [.bx 0 0] (dN p) (dN (nameP p).2) (.d (.str (nameP p).1)):=by
 unfold dN;refine iG.one func124 bY (c:=_) rfl ntmps124 aM results124 λw0 X hp=>?_;apply aD;simp;refine cJ (λ|5=>some (.gen ⟨[(0,0)],[],[],dN p,.d (.str p.peek)⟩)|_=>none) ?_;simp;refine⟨mI p,?_⟩;apply aG;refine cJ (λ|7=>some<| .plain ⟨.d (.bool (isNameB p.peek)),true⟩|_=>none) ?_;simp;refine⟨GA p.peek,?_⟩;apply aJ;simp;refine⟨λh2=>?_,λh2=>?_⟩
 ·refine cJ (λ|10=>some (.gen ⟨[(0,0)],[],[],dN (p.fail 2),.tup []⟩)|_=>none) ?_;simp;refine⟨xM p 2,?_⟩;apply aD;simp;apply aH;simp;exact aA hp [2] [(0,0)] (by simp[qE h2]) (by simp[qE h2])
 ·apply aF;simp;refine cJ (λ|13=>some (.gen ⟨[(0,0)],[],[],dN (p.took p.peek),.d (.bool (p.is p.peek))⟩)|_=>none) ?_;simp;refine⟨jX p p.peek,?_⟩;apply aD;simp;apply aH;simp;exact aA hp [2] [(0,0)] (by simp[tR h2]) (by simp[tR h2])
end
section
attribute[local simp] kQ.cond Nd.d_eq nd_t nd_dr nd_td ndsD aZ
def Tk.r(t:Tk):DV:=.agg [aI t.at_,aI (t.at_+t.text.length)]
def InT(s:aW)(t:Tk):Prop:=∃a:Nat,t.at_=a/\a+t.text.length<=s.length/\(s.drop a).take t.text.length=t.text
theorem Es(s:aW):∀(f k:Nat),k<=s.length->∀t∈(scanF f (s.drop k) k).1,InT s t
 |0,_,_,t,h=>by simp[scanF]at h
 |f+1,k,hk,t,h=>by
  by_cases hl:k<s.length
  ·have hd:=List.drop_eq_getElem_cons hl;have h1:=Es s f (k+1) hl;have h2:=Es s f (k+nextN (s.drop k));generalize s[k]=c at hd;have hn:=vN (s.drop k);rw[List.length_drop]at hn;have e:scanF (f+1) (s.drop k) k=if c=32\/c=10 then scanF f (s.drop (k+1)) ((k:Int)+1)else if nextN (s.drop k)=0 then([],(k:Int))else
    (⟨(s.drop k).take (nextN (s.drop k)),k⟩::(scanF f ((s.drop k).drop (nextN (s.drop k))) ((k:Int)+nextN (s.drop k))).1,(scanF f ((s.drop k).drop (nextN (s.drop k))) ((k:Int)+nextN (s.drop k))).2):=by
    rw[hd];rfl
   rw[e]at h;split at h
   ·exact h1 t (by simpa using h)
   ·split at h
    ·simp at h
    ·rw[List.drop_drop]at h;simp only[List.mem_cons]at h;rcases h with h|h
     ·refine⟨k,by rw[h],?_,?_⟩
      ·rw[h];simp only[List.length_take,List.length_drop];omega
      ·rw[h];simp only[List.length_take];rw[Nat.min_eq_left (by rw[List.length_drop];omega)]
     ·exact h2 aE t (by simpa using h)
  ·rw[List.drop_eq_nil_of_le aE]at h;simp[scanF]at h
theorem Sm{s:aW}{i:Nat}(h:0<=sM s i):0<nextN (s.drop i):=by
 unfold sM at h;split at h
 ·assumption
 ·omega
theorem Et{s:aW}{t:Tk}(h:t∈(scanS s).1):InT s t:=Es s s.length 0 (Nat.zero_le _) t (by simpa [scanS]using h)
theorem Sn(s:aW)(hl:s.length<=1000000000):Ok prog 83 [.str s] ⟨.tup [.own 2 ((scanS s).1.map Tk.r),.d (aI (scanS s).2)],true⟩:=by
 refine Ok.two func83 bY (c:=_) rfl ntmps83 aM results83 rfl λw0 X hp=>?_;apply aD;simp;apply aD;simp;apply aD;simp;apply dH;refine aU (ι:=ScS) (λ⟨k,L⟩=>aR [(0,.d (.str s)),(4,.ow 4 0 L.length),(5,.d (aI k))]) (λ⟨k,L⟩=>aL [(4,.row false 2 (L.map Tk.r))]) (λ⟨k,L⟩=>L.length<=k/\k<=s.length/\scanS s=(L++(oB s k).1,(oB s k).2)) (λ⟨k,L⟩=>s.length-k) ⟨0,[]⟩ (aA hp [0,4,5] [(4,4)]) (⟨Nat.le_refl _,Nat.zero_le _,by simp[oB,scanS]⟩) λ⟨k,L⟩ hi3=>?_;apply aG;apply aV;simp;refine⟨λh3=>?_,λh3=>?_⟩
 ·apply aF;simp;apply aO;apply eA;have hk:k<s.length:=aE;apply aK;simp;refine⟨⟨hk,λ_=>hk⟩,?_⟩;apply aJ;simp;refine⟨λg=>?_,λg1 g2=>?_⟩
  ·have q4:=(xL hk).1 g;apply aD;simp;refine⟨aE,?_⟩;apply bE;simp;refine Pq.mk ⟨k+1,L⟩ (aA hp [0,4,5] [(4,4)]) ?_ ?_
   ·refine⟨Nat.le_succ_of_le hi3.1,hk,?_⟩;rw[hi3.2.2,Cg hk q4]
   ·show s.length-(k+1)<s.length-k;omega
  ·have q4:¬(s[k]=32\/s[k]=10):=λq=>by have:=(xL hk).2 q;omega
   apply aF;simp;apply aG;have hn:=Vw s k hk aE;refine aP (λ|25=>some<| .plain ⟨.d (aI (sM s k)),true⟩|_=>none) ?_;simp;refine⟨hn,?_⟩;apply aG;apply aV;simp;refine⟨λh7=>?_,λh7=>?_⟩
   ·apply aD;simp;apply aH;simp;have h9:nextN (s.drop k)=0:=by
     rcases Nat.eq_zero_or_pos (nextN (s.drop k))with z|z
     ·exact z
     ·rw[show sM s k=(k:Int)+nextN (s.drop k) from if_pos z]at h7;omega
    have e:=hi3.2.2;rw[Er hk q4 h9]at e;rw[e];exact⟨⟨aM,λa _ c hc=>by simp[Tk.r,aQ]at hc;rcases hc with rfl|rfl<;>rfl⟩,rfl⟩
   ·have hpos:0<nextN (s.drop k):=Sm aE;have hnr:sM s k=(k:Int)+nextN (s.drop k):=if_pos hpos;have hnl:=vN (s.drop k);rw[List.length_drop]at hnl;have tok_len2:min (nextN (s.drop k)) (s.length-k)=nextN (s.drop k):=aE;apply aF;simp;apply aD;simp;refine⟨⟨aE,aE⟩,?_⟩;apply aK;simp;refine Pq.mk ⟨k+nextN (s.drop k),L++[⟨(s.drop k).take (nextN (s.drop k)),k⟩]⟩ (aA hp [0,4,5] [(35,4)] (by simp[hnr]) (by simp[Tk.r,hnr,tok_len2])) ?_ ?_
    ·refine⟨?_,?_,?_⟩
     ·show(L++[_]).length<=k+nextN (s.drop k);rw[List.length_append,List.length_singleton];omega
     ·show k+nextN (s.drop k)<=s.length;omega
     ·rw[hi3.2.2,GJ hk q4 aE];simp
    ·show s.length-(k+nextN (s.drop k))<s.length-k;omega
 ·apply bE;simp;apply aD;simp;apply aH;simp;have e:=hi3.2.2;rw[GI h3]at e;rw[e];exact⟨⟨aM,λa _ c hc=>by simp[Tk.r,aQ]at hc;rcases hc with rfl|rfl<;>rfl⟩,rfl⟩
theorem Eu(s:aW)(hl:s.length<=1000000000):Ok prog 83 [.str s] ⟨.tup [.d (.sl ((scanS s).1.map Tk.r)),.d (aI (scanS s).2)],true⟩:=Gm (Sn s hl)
end
end Go.Eng
namespace Go.Proofs
open Go.Shelf
def Tryz.atoiLay_ren:Go.Shelf.Ren:=⟨λ|172=>163|244=>186|245=>187|247=>210|279=>211|280=>212|281=>213|282=>214|287=>228|316=>229|171=>168|205=>230|321=>239|322=>240|243=>198|246=>217|283=>232|284=>233|285=>234|286=>235|129=>116|317=>242|318=>243|319=>244|320=>245|337=>247|338=>248|n=>n,λ|9=>9|3=>3|75=>187|76=>188|4=>4|5=>5|167=>204|37=>142|0=>0|85=>205|2=>2|168=>207|53=>165|175=>221|46=>107|210=>225|127=>232|145=>235|143=>233|21=>21|171=>227|173=>229|212=>237|51=>163|20=>20|213=>238|232=>239|233=>240|80=>148|n=>n,λ|15=>4|16=>5|17=>6|18=>7|19=>8|n=>n⟩
theorem Tryz.atoiLay:Go.Proofs.Lays.n172 prog Tryz.atoiLay_ren:={
 mixed:=by kernel_rfl,
 f129:=func116.trans (congrArg some (by kernel_rfl)),
 f171:=func168.trans (congrArg some (by kernel_rfl)),
 f172:=func163.trans (congrArg some (by kernel_rfl)),
 f205:=func230.trans (congrArg some (by kernel_rfl)),
 f243:=func198.trans (congrArg some (by kernel_rfl)),
 f244:=func186.trans (congrArg some (by kernel_rfl)),
 f245:=func187.trans (congrArg some (by kernel_rfl)),
 f246:=func217.trans (congrArg some (by kernel_rfl)),
 f247:=func210.trans (congrArg some (by kernel_rfl)),
 f279:=func211.trans (congrArg some (by kernel_rfl)),
 f280:=func212.trans (congrArg some (by kernel_rfl)),
 f281:=func213.trans (congrArg some (by kernel_rfl)),
 f282:=func214.trans (congrArg some (by kernel_rfl)),
 f283:=func232.trans (congrArg some (by kernel_rfl)),
 f284:=func233.trans (congrArg some (by kernel_rfl)),
 f285:=func234.trans (congrArg some (by kernel_rfl)),
 f286:=func235.trans (congrArg some (by kernel_rfl)),
 f287:=func228.trans (congrArg some (by kernel_rfl)),
 f316:=func229.trans (congrArg some (by kernel_rfl)),
 f317:=func242.trans (congrArg some (by kernel_rfl)),
 f318:=func243.trans (congrArg some (by kernel_rfl)),
 f319:=func244.trans (congrArg some (by kernel_rfl)),
 f320:=func245.trans (congrArg some (by kernel_rfl)),
 f321:=func239.trans (congrArg some (by kernel_rfl)),
 f322:=func240.trans (congrArg some (by kernel_rfl)),
 f337:=func247.trans (congrArg some (by kernel_rfl)),
 f338:=func248.trans (congrArg some (by kernel_rfl)),
 t0:=underlying0,
 a0:=isAgg0,
 z0:=sizeOf0,
 v0:=zeroValue0,
 t2:=underlying2,
 a2:=isAgg2,
 z2:=sizeOf2,
 v2:=zeroValue2,
 t3:=underlying3,
 a3:=isAgg3,
 z3:=sizeOf3,
 v3:=zeroValue3,
 t4:=underlying4,
 a4:=isAgg4,
 z4:=sizeOf4,
 v4:=zeroValue4,
 t5:=underlying5,
 a5:=isAgg5,
 z5:=sizeOf5,
 v5:=zeroValue5,
 t9:=underlying9,
 a9:=isAgg9,
 z9:=sizeOf9,
 v9:=zeroValue9,
 t20:=underlying20,
 a20:=isAgg20,
 z20:=sizeOf20,
 v20:=zeroValue20,
 t21:=underlying21,
 a21:=isAgg21,
 z21:=sizeOf21,
 v21:=zeroValue21,
 t37:=underlying142,
 a37:=isAgg142,
 z37:=sizeOf142,
 v37:=zeroValue142,
 t46:=underlying107,
 a46:=isAgg107,
 z46:=sizeOf107,
 v46:=zeroValue107,
 t51:=underlying163,
 a51:=isAgg163,
 z51:=sizeOf163,
 v51:=zeroValue163,
 t53:=underlying165,
 a53:=isAgg165,
 z53:=sizeOf165,
 v53:=zeroValue165,
 t75:=underlying187,
 a75:=isAgg187,
 z75:=sizeOf187,
 v75:=zeroValue187,
 t76:=underlying188,
 a76:=isAgg188,
 z76:=sizeOf188,
 v76:=zeroValue188,
 t85:=underlying205,
 a85:=isAgg205,
 z85:=sizeOf205,
 v85:=zeroValue205,
 t127:=underlying232,
 a127:=isAgg232,
 z127:=sizeOf232,
 v127:=zeroValue232,
 t143:=underlying233,
 a143:=isAgg233,
 z143:=sizeOf233,
 v143:=zeroValue233,
 t145:=underlying235,
 a145:=isAgg235,
 z145:=sizeOf235,
 v145:=zeroValue235,
 t167:=underlying204,
 a167:=isAgg204,
 z167:=sizeOf204,
 v167:=zeroValue204,
 t168:=underlying207,
 a168:=isAgg207,
 z168:=sizeOf207,
 v168:=zeroValue207,
 t171:=underlying227,
 a171:=isAgg227,
 z171:=sizeOf227,
 v171:=zeroValue227,
 t173:=underlying229,
 a173:=isAgg229,
 z173:=sizeOf229,
 v173:=zeroValue229,
 t175:=underlying221,
 a175:=isAgg221,
 z175:=sizeOf221,
 v175:=zeroValue221,
 t210:=underlying225,
 a210:=isAgg225,
 z210:=sizeOf225,
 v210:=zeroValue225,
 t212:=underlying237,
 a212:=isAgg237,
 z212:=sizeOf237,
 v212:=zeroValue237,
 t213:=underlying238,
 a213:=isAgg238,
 z213:=sizeOf238,
 t232:=underlying239,
 a232:=isAgg239,
 z232:=sizeOf239,
 v232:=zeroValue239,
 t233:=underlying240,
 a233:=isAgg240,
 z233:=sizeOf240,
 v233:=zeroValue240,
 g15:=by kernel_rfl,
 g16:=by kernel_rfl,
 g17:=by kernel_rfl,
 g18:=by kernel_rfl,
 g19:=by kernel_rfl}
end Go.Proofs
namespace Go.Eng
section
attribute[local simp] kQ.cond Nd.d_eq nd_t nd_dr nd_td ndsD aZ bP mQ dN dD
theorem Br{c:UInt8}(h:digitB c=true):Lib.digitVal c=some (c.toNat-48)/\48<=c.toNat/\c.toNat<=57:=by
 rw[Be]at h;simp only[Bool.and_eq_true,decide_eq_true_eq]at h;have h1:48<=c.toNat:=aE;have h2:c.toNat<=57:=aE;exact⟨by unfold Lib.digitVal;rw[if_pos ⟨h1,h2⟩],h1,h2⟩
theorem Ev:∀(s:aW) (acc:Nat),(∀c∈s,digitB c=true)->∃m:Nat,Lib.decFrom acc s=some m/\(m:Int)=s.foldl (λn c=>10*n+((c.toNat:Int)- 48)) (acc:Int)
 |[],acc,_=>⟨acc,rfl,rfl⟩
 |c::r,acc,h=>by
  obtain⟨h1,h2,h3⟩:=Br (h c (List.mem_cons_self ..));obtain⟨m,e1,e2⟩:=Ev r (acc*10+(c.toNat-48)) λx hx=>h x (List.mem_cons_of_mem _ hx);refine⟨m,?_,?_⟩
  ·unfold Lib.decFrom;rw[h1];exact e1
  ·rw[e2,List.foldl_cons];congr 1;omega
theorem KF{s:aW}(h0:s≠[])(h:∀c∈s,digitB c=true):Lib.atoi s=some (valS s):=by
 cases s with
 |nil=>exact absurd rfl h0
 |cons c r=>
  obtain⟨m,e1,e2⟩:=Ev (c::r) 0 h;obtain⟨_,d1,d2⟩:=Br (h c (List.mem_cons_self ..));have n1:¬(c==45)=true:=λq=>(by have e:c=45:=(by simpa using q);subst e;exact absurd d1 bC);have n2:¬(c==43)=true:=λq=>(by have e:c=43:=(by simpa using q);subst e;exact absurd d1 bC);show(if(c==45)=true then(Lib.decNat r).map (λm:Nat=> -(m:Int))else if(c==43)=true then(Lib.decNat r).map (λm:Nat=>(m:Int))else(Lib.decNat (c::r)).map (λm:Nat=>(m:Int)))=some (valS (c::r));rw[if_neg n1,if_neg n2];unfold Lib.decNat;rw[if_neg aM,e1,Option.map_some,e2];rfl
theorem Ew{s:aW}(h:Ns s)(hd:digitB (s[0]?.getD 0)=true):s.length<=3/\∀c∈s,digitB c=true:=by
 obtain⟨h0,h1⟩:=h;cases s with
 |nil=>exact absurd rfl h0
 |cons c r=>
  have hd:digitB c=true:=hd;obtain⟨_,d1,d2⟩:=Br hd;have nl:¬letterB c=true:=λq=>by
   rw[yS]at q;simp only[Bool.and_eq_true,decide_eq_true_eq]at q;omega
  have n36:¬c=36:=λq=>by subst q;exact absurd d1 bC
  rw[kW,if_neg nl,if_neg n36,if_pos hd]at h1;by_cases q:runP digitB (c::r)<=3
  ·rw[if_pos q]at h1;refine⟨aE,λx hx=>?_⟩;obtain⟨i,hi,rfl⟩:=List.getElem_of_mem hx;exact runP_all hi aE
  ·rw[if_neg q]at h1;simp at h1
theorem Iv{s:aW}(h:Ns s):s.length<=17:=by
 obtain⟨h0,h1⟩:=h;cases s with
 |nil=>simp
 |cons c r=>
  rw[<-h1,kW];have hw:∀t:aW,wordN t<=16:=λt=>by
   rcases Nat.eq_zero_or_pos (wordN t)with q|q
   ·omega
   ·obtain⟨_,_,_,_,_,q2⟩:=xB q;exact q2
  have a1:=hw (c::r);have a2:=hw r;repeat' split
  all_goals omega
theorem mJ{p:PS}(h:bM p.l):p.peek.length<=17:=by
 by_cases q:p.peek=[]
 ·rw[q];simp
 ·exact Iv (sE h q)
theorem XW(s:aW)(n:Int)(hl:s.length<=18)(h:Lib.atoi s=some n):Ok prog 163 [.str s] ⟨.tup [.d (aI n),.d (.val .nilIface)],true⟩:=by
 refine⟨⟨_,func163,bY,rfl⟩,λw X vs hX hr=>?_⟩
 match vs,hr.1 with
 |[u],_=>
  have h1:=hr.2 0 _ _ rfl rfl;cases h1;refine(Go.Proofs.Any.strconv_Atoi Tryz.atoiLay ⟨s.toArray⟩ n (by simpa [ByteArray.size]using hl) (by simpa using h) w).mono ?_;rintro e w' ⟨rfl,t,rfl⟩;refine⟨_,rfl,?_,?_⟩
  ·refine⟨by unfold Lib.bytesWorld World.freeze;split<;>rfl,by unfold Lib.bytesWorld World.freeze;split<;>rfl,by unfold Lib.bytesWorld World.freeze;split<;>rfl,by rw[Lib.bytesWorld_size];omega,λk hk=>Lib.bytesWorld_at_old _ _ _ k hk,?_⟩;unfold Lib.bytesWorld World.freeze;split<;>exact Nat.le_succ w.drawn
  ·refine⟨[.int .i64 n,.nilIface],λ_=>none,rfl,rfl,λ_ _ _ q=>(by cases q),λi r v hi hv=>?_⟩
   match i,hi with
   |0,hi=>cases hi;cases hv;exact .int _ _
   |1,hi=>cases hi;cases hv;exact .val _ rfl
theorem FL(s t:aW)(hl:s.length<=9223372036854775807)(ht:t.length<=9223372036854775807):Ok prog 227 [.str s,.str t] ⟨.tup [.d (.str (if s.take t.length=t then s.drop t.length else s)),.d (.bool (decide (s.take t.length=t)))],true⟩:=by
 refine Ok.two func227 bY (c:=_) rfl ntmps227 aM results227 rfl λw0 X hp=>?_;apply aD;simp;apply eA;have h:=yE s t hl ht;refine aP (λ|8=>some<| .plain ⟨.d (.bool (decide (s.take t.length=t))),true⟩|_=>none) ?_;simp;refine⟨h,?_⟩;apply aJ;simp;refine⟨λh1=>?_,λh1=>?_⟩
 ·apply aD;simp;apply aH;simp;exact⟨λq=>absurd q h1,h1⟩
 ·apply aF;simp;apply aG;have hle:t.length<=s.length:=by have e:=congrArg List.length h1;rw[List.length_take]at e;omega
  apply aK;simp;refine⟨aE,?_⟩;apply aH;simp;exact⟨λq=>absurd h1 q,h1⟩
theorem Iw(s t:aW)(hl:s.length<=9223372036854775807)(ht:t.length<=9223372036854775807):Ok prog 209 [.str s,.str t] ⟨.tup [.d (.str (if s.take t.length=t then s.drop t.length else s)),.d (.bool (decide (s.take t.length=t)))],true⟩:=by
 refine Ok.two func209 bY (c:=_) rfl ntmps209 aM results209 rfl λw0 X hp=>?_;apply aD;simp;apply aG;have h:=FL s t hl ht;refine aP (λ|8=>some<| .plain ⟨.tup [.d (.str (if s.take t.length=t then s.drop t.length else s)),.d (.bool (decide (s.take t.length=t)))],true⟩|_=>none) ?_;simp[bD];refine⟨h,?_⟩;apply aH;simp
theorem kO{p:PS}(h:p.peek.take 1=[36]):p.peek=36::p.peek.drop 1/\localP p=(p.peek.drop 1,p.took p.peek):=by
 cases e:p.peek with
 |nil=>rw[e]at h;cases h
 |cons c r=>
  rw[e]at h;have hc:c=36:=by simpa using h
  subst hc;have hi:p.is (36::r)=true:=eV.2 ⟨aM,e⟩;refine⟨rfl,?_⟩;rw[cH hi];unfold localP;rw[e];rfl
theorem nH{p:PS}(h:¬p.peek.take 1=[36]):localP p=([],p.fail 2):=by
 unfold localP;split
 ·rename_i r e;rw[e]at h;exact absurd rfl h
 ·rfl
theorem Ix{k:Int}{p:PS}(h:p.peek=[]\/digitB (p.peek[0]?.getD 0)=false):numeralP k p=(0,p.fail 2):=by
 unfold numeralP;split
 ·rfl
 ·rename_i c r e;rw[e]at h;rcases h with h|h
  ·cases h
  ·have h:digitB c=false:=h;rw[if_neg (by simp[h])]
theorem Iy{k:Int}{p:PS}(h0:¬p.peek=[])(h1:digitB (p.peek[0]?.getD 0)=true)(h2:valS p.peek<loAt k\/hiAt k<valS p.peek):numeralP k p=(0,p.fail 5):=by
 unfold numeralP;split
 ·rename_i e;exact absurd e h0
 ·rename_i c r e;rw[e]at h1 h2;have h1:digitB c=true:=h1;rw[if_pos h1,if_pos h2]
theorem NR{k:Int}{p:PS}(h0:¬p.peek=[])(h1:digitB (p.peek[0]?.getD 0)=true)(h2:¬(valS p.peek<loAt k\/hiAt k<valS p.peek)):numeralP k p=(valS p.peek,p.took p.peek):=by
 have hi:p.is p.peek=true:=eV.2 ⟨h0,rfl⟩;rw[cH hi];unfold numeralP;split
 ·rename_i e;exact absurd e h0
 ·rename_i c r e;rw[e]at h1 h2;have h1:digitB c=true:=h1;rw[if_pos h1,if_neg h2,e]
theorem Ap(p:PS)(hg:bM p.l):iG prog 184 [.bx 0 0] (dN p) (dN (localP p).2) (.d (.str (localP p).1)):=by
 unfold dN;refine iG.one func184 bY (c:=_) rfl ntmps184 aM results184 λw0 X hp=>?_;apply aD;simp;apply aG;have hk:=mJ hg;have hc:=Iw p.peek [36] aE bC;refine aP (λ|7=>some (.gen ⟨[(0,0)],[],[],dN p,.d (.str p.peek)⟩)|8=>some<| .plain ⟨.tup [.d (.str (if p.peek.take 1=[36]then p.peek.drop 1 else p.peek)),.d (.bool (decide (p.peek.take 1=[36])))],true⟩|_=>none) ?_;simp[bD];refine⟨⟨mI p,by simpa using hc⟩,?_⟩;apply aG;apply aV;simp;refine⟨λh2=>?_,λh2=>?_⟩
 ·refine cJ (λ|14=>some (.gen ⟨[(0,0)],[],[],dN (p.fail 2),.tup []⟩)|_=>none) ?_;simp;refine⟨xM p 2,?_⟩;apply aD;simp;apply aH;simp;exact aA hp [2] [(0,0)] (by simp[nH h2]) (by simp[nH h2])
 ·apply aF;simp;apply aG;obtain⟨e1,e2⟩:=kO h2;have e3:36::p.peek.tail=p.peek:=by rw[<-List.drop_one];exact e1.symm
  have ht:=jX p p.peek;have hl3:=congrArg List.length e3;refine aP (λ|18=>some (.gen ⟨[(0,0)],[],[],dN (p.took p.peek),.d (.bool (p.is p.peek))⟩)|_=>none) ?_;simp[h2];refine⟨⟨by simp at hl3;omega,by rw[e3];exact ht⟩,?_⟩;apply aD;simp;apply aH;simp;exact aA hp [2] [(0,0)] (by simp[h2,e2]) (by simp[e2])
theorem qF(p:PS)(k:Int)(hg:bM p.l)(hk:0<=k/\k<37):iG prog 128 [.bx 0 0,.d (aI k)] (dN p) (dN (numeralP k p).2) (.d (aI (numeralP k p).1)):=by
 unfold dN;refine iG.one func128 bY (c:=_) rfl ntmps128 aM results128 λw0 X hp=>?_;apply aD;simp;refine cJ (λ|9=>some (.gen ⟨[(0,0)],[],[],dN p,.d (.str p.peek)⟩)|_=>none) ?_;simp;refine⟨mI p,?_⟩;apply eA;have hd:=vQ (p.peek[0]?.getD 0);refine aP (λ|15=>some<| .plain ⟨.d (.bool (digitB (p.peek[0]?.getD 0))),true⟩|_=>none) ?_;simp;refine⟨⟨λh=>List.length_pos_iff.2 h,λ_=>hd⟩,?_⟩;apply aJ;simp;refine⟨λg=>?_,λg1 g2=>?_⟩
 ·refine cJ (λ|19=>some (.gen ⟨[(0,0)],[],[],dN (p.fail 2),.tup []⟩)|_=>none) ?_;simp;refine⟨xM p 2,?_⟩;apply aD;simp;apply aH;simp;have e:=Ix (k:=k) g;exact aA hp [4] [(0,0)] (by simp[e]) (by simp[e])
 ·apply aF;simp;apply aG;obtain⟨hl,hds⟩:=Ew (sE hg g1) g2;have ha:=XW p.peek (valS p.peek) aE (KF g1 hds);refine aP (λ|22=>some<| .plain ⟨.tup [.d (aI (valS p.peek)),.d (.val .nilIface)],true⟩|_=>none) ?_;simp[bD];refine⟨ha,?_⟩;apply eA;have hg1:=glob1_lo hk;have hg2:=glob1_hi hk;have hg3:=glob1_len;apply aK;simp[hg1,hg2];refine⟨⟨⟨⟨hk,aE⟩,λ_=>hk⟩,λ_=>aE⟩,?_⟩;apply aJ;simp;refine⟨λb=>?_,λb1 b2=>?_⟩
  ·refine cJ (λ|40=>some (.gen ⟨[(0,0)],[],[],dN (p.fail 5),.tup []⟩)|_=>none) ?_;simp;refine⟨xM p 5,?_⟩;apply aD;simp;apply aH;simp;have e:=Iy (k:=k) g1 g2 b;exact aA hp [4] [(0,0)] (by simp[e]) (by simp[e])
  ·apply aF;simp;refine cJ (λ|43=>some (.gen ⟨[(0,0)],[],[],dN (p.took p.peek),.d (.bool (p.is p.peek))⟩)|_=>none) ?_;simp;refine⟨jX p p.peek,?_⟩;apply aD;simp;apply aH;simp;have e:=NR (k:=k) g1 g2 aE;exact aA hp [4] [(0,0)] (by simp[e]) (by simp[e])
theorem GL{k:Int}{p:PS}(h:bM p.l)(hk:loAt k<=0/\0<=hiAt k/\ -999<=loAt k/\hiAt k<=999): -999<=(numeralP k p).1/\(numeralP k p).1<=999:=by
 by_cases q1:p.peek=[]\/digitB (p.peek[0]?.getD 0)=false
 ·rw[Ix q1];simp
 ·have q2:¬p.peek=[]:=λe=>q1 (.inl e);have q3:digitB (p.peek[0]?.getD 0)=true:=by
   cases e:digitB (p.peek[0]?.getD 0)with
   |true=>rfl
   |false=>exact absurd (.inr e) q1
  by_cases q4:valS p.peek<loAt k\/hiAt k<valS p.peek
  ·rw[Iy q2 q3 q4];simp
  ·rw[NR q2 q3 q4];simp only;omega
theorem Ey{p:PS}(h:p.is [45]=true):numberP p=(-(numeralP 0 (p.took [45])).1,(numeralP 0 (p.took [45])).2):=by
 rw[cH h];unfold numberP;rw[if_pos h]
theorem Ez{p:PS}(h:p.is [45]=false):numberP p=numeralP 0 (p.took [45]):=by
 have h':¬p.is [45]=true:=by simp[h]
 rw[gR h'];unfold numberP;rw[if_neg h']
theorem dY{p:PS}{s:aW}(h:bM p.l):bM (p.took s).l:=by
 unfold PS.took;split
 ·exact dB h
 ·exact h
theorem GM(p:PS)(hg:bM p.l):iG prog 127 [.bx 0 0] (dN p) (dN (numberP p).2) (.d (aI (numberP p).1)):=by
 unfold dN;refine iG.one func127 bY (c:=_) rfl ntmps127 aM results127 λw0 X hp=>?_;apply aD;simp;apply aG;refine cJ (λ|4=>some (.gen ⟨[(0,0)],[],[],dN (p.took [45]),.d (.bool (p.is [45]))⟩)|_=>none) ?_;simp;refine⟨jX p [45],?_⟩;apply aJ;simp;refine⟨λh1=>?_,λh1=>?_⟩
 ·apply aG;have hn:=qF (p.took [45]) 0 (dY hg) bC;have hr:=GL (k:=0) (dY (s:=[45]) hg) bC;refine aP (λ|6=>some (.gen ⟨[(0,0)],[],[],dN (numeralP 0 (p.took [45])).2,.d (aI (numeralP 0 (p.took [45])).1)⟩)|_=>none) ?_;simp;refine⟨⟨hn,aE⟩,?_⟩;apply aH;simp;have e:=Ey h1;exact aA hp [2] [(0,0)] (by simp[e]) (by simp[e])
 ·apply aF;simp;apply aG;have hn:=qF (p.took [45]) 0 (dY hg) bC;refine aP (λ|9=>some (.gen ⟨[(0,0)],[],[],dN (numeralP 0 (p.took [45])).2,.d (aI (numeralP 0 (p.took [45])).1)⟩)|_=>none) ?_;simp;refine⟨hn,?_⟩;apply aH;simp;have e:=Ez h1;exact aA hp [2] [(0,0)] (by simp[e]) (by simp[e])
end
section
attribute[local simp] kQ.cond Nd.d_eq nd_t nd_dr nd_td ndsD aZ bP dD
def dU(s:aW)(T:List Tk)(p:PS):List (Nat×bB):=[(0,.box false [.d (.str s),.d (.sl (T.map Tk.r)),.d (aI ((T.length:Int)- p.l.length)),.d (.bool (!decide (p.e=0))),.d (.bool (decide (p.e=5)))])]
attribute[local simp] dU
structure Aq(s:aW)(T:List Tk):Prop where
 hs:s.length<=1024
 ht:T.length<=1024
 hi:∀t∈T,InT s t
 hg:bM T
structure kF(T:List Tk)(p:PS):Prop where
 suf:p.l<:+T
 err:p.e=0\/p.e=2\/p.e=5
theorem kF.le{T:List Tk}{p:PS}(h:kF T p):p.l.length<=T.length:=h.suf.length_le
theorem kF.good{s:aW}{T:List Tk}{p:PS}(h:kF T p)(c:Aq s T):bM p.l:=λt ht=>c.hg t (h.suf.mem ht)
theorem kF.fail{T:List Tk}{p:PS}{e:Int}(h:kF T p)(he:e=2\/e=5):kF T (p.fail e):=by
 refine⟨by rw[oI];exact h.suf,?_⟩;unfold PS.fail;split
 ·exact .inr he
 ·exact h.err
theorem kF.skip{T:List Tk}{p:PS}(h:kF T p):kF T p.skip:=⟨(List.tail_suffix _).trans h.suf,h.err⟩
theorem kF.took{T:List Tk}{p:PS}{w:aW}(h:kF T p):kF T (p.took w):=by
 unfold PS.took;split
 ·exact h.skip
 ·exact h
theorem kF.need{T:List Tk}{p:PS}{w:aW}(h:kF T p):kF T (p.need w):=by
 unfold PS.need;split
 ·exact h.skip
 ·exact h.fail (.inl rfl)
theorem kF.name{T:List Tk}{p:PS}(h:kF T p):kF T (nameP p).2:=by
 unfold nameP;split
 ·exact h.skip
 ·exact h.fail (.inl rfl)
theorem kF.local{T:List Tk}{p:PS}(h:kF T p):kF T (localP p).2:=by
 unfold localP;split
 ·exact h.skip
 ·exact h.fail (.inl rfl)
theorem kF.numeral{T:List Tk}{p:PS}{k:Int}(h:kF T p):kF T (numeralP k p).2:=by
 unfold numeralP;split
 ·exact h.fail (.inl rfl)
 ·split
  ·split
   ·exact h.fail (.inr rfl)
   ·exact h.skip
  ·exact h.fail (.inl rfl)
theorem kF.number{T:List Tk}{p:PS}(h:kF T p):kF T (numberP p).2:=by
 unfold numberP;split
 ·exact h.skip.numeral
 ·exact h.numeral
theorem kF.place{T:List Tk}{p:PS}(h:kF T p):kF T (placeP p).2:=by
 unfold placeP;split
 ·exact h.name.skip.name
 ·exact h.name
theorem kF.at{T:List Tk}{p:PS}{t:Tk}{r:List Tk}(h:kF T p)(hl:p.l=t::r):∃n:Nat,(T.length:Int)- p.l.length=n/\n<T.length/\T[n]? =some t/\t∈T:=by
 obtain⟨T0,rfl⟩:=h.suf;refine⟨T0.length,aM,?_,?_,?_⟩
 ·rw[hl];simp
 ·rw[hl];simp
 ·rw[hl];simp
theorem jK(s:aW)(T:List Tk)(p:PS)(c:Aq s T)(f:kF T p):iG prog 136 [.bx 0 0] (dU s T p) (dU s T p) (.d (.str p.peek)):=by
 unfold dU;have hle:=f.le;refine iG.one func136 bY (c:=_) rfl ntmps136 aM results136 λw0 X hp=>?_;apply aD;simp;apply eA;refine eW.rd [] [] (λ_=>none) ?_;simp;apply aJ;simp;refine⟨λg=>?_,λg1 g2=>?_⟩
 ·apply aD;simp;apply aH;simp;have e:p.peek=[]:=Bq (g.imp id λz=>List.eq_nil_of_length_eq_zero aE);exact aA hp [2] [(0,0)] (by simp[e])
 ·apply aF;simp;apply aG;obtain⟨t,r,htr⟩:=List.exists_cons_of_ne_nil (l:=p.l) (λe=>by rw[e]at g2;simp at g2);obtain⟨n,hn,hnl,hn2,hm⟩:=f.at htr;obtain⟨a,ha,hal,hat⟩:=c.hi t hm;refine eI (fX [0] [(0,0)] bC bC (by simp[hp])) ?_;simp;refine eW.rd [] [] (λ_=>none) ?_;simp[hn,hn2,Tk.r,ha];refine⟨⟨hnl,aE,aE⟩,?_⟩;apply aH;simp;exact aA hp [2] [(0,0)] (by simp[GK g1 htr,It,hat])
theorem Ar{p:PS}:((p.fail 2).e=0)=False:=eq_false (fail_e bC)
theorem As{p:PS}:((p.fail 5).e=0)=False:=eq_false (fail_e bC)
theorem At{p:PS}:((p.fail 2).e=5)=(p.e=5):=by
 unfold PS.fail;split
 ·rename_i h;simp[h]
 ·rfl
theorem XX{p:PS}(h:p.e=0):((p.fail 5).e=5)=True:=by unfold PS.fail;rw[if_pos h];simp
theorem Iz{p:PS}:p.skip.e=p.e:=rfl
attribute[local simp] Ar As At oI Iz
theorem rA{T:List Tk}{p:PS}(h:p.peek≠[]):(T.length:Int)- p.skip.l.length=(T.length:Int)- p.l.length+1:=by
 have:=pW h;omega
theorem Vy{p:PS}(h:p.peek≠[]):p.e=0:=Classical.byContradiction λq=>h (Bq (.inl q))
theorem kF.pos{T:List Tk}{p:PS}(f:kF T p)(h:p.peek≠[]):0<=(T.length:Int)- p.l.length/\(T.length:Int)- p.l.length<T.length:=by
 have:=pW h;have:=f.le;omega
theorem vU(s:aW)(T:List Tk)(p:PS)(c:Aq s T)(f:kF T p)(w:aW)(hw:w≠[]):iG prog 172 [.bx 0 0,.d (.str w)] (dU s T p) (dU s T (p.took w)) (.d (.bool (p.is w))):=by
 unfold dU;have hle:=f.le;have htt:=c.ht;refine iG.one func172 bY (c:=_) rfl ntmps172 aM results172 λw0 X hp=>?_;apply aD;simp;apply aG;refine cJ (λ|6=>some (.gen ⟨[(0,0)],[],[],dU s T p,.d (.str p.peek)⟩)|_=>none) ?_;simp;refine⟨jK s T p c f,?_⟩;apply aJ;simp;refine⟨λh1=>?_,λh1=>?_⟩
 ·apply aD;simp;apply aH;simp;have hn:¬p.is w=true:=λq=>h1 (eV.1 q).2;exact aA hp [4] [(0,0)] (by simp[hn]) (by simp[gR hn])
 ·apply aF;simp;apply aG;have h1':p.peek≠[]:=λe=>hw (by rw[<-h1,e]);have hsk:=rA (T:=T) h1';have hps:=f.pos h1';apply aK;simp;refine⟨aE,?_⟩;apply aD;simp;apply aH;simp;have hn:p.is w=true:=eV.2 ⟨hw,h1⟩;exact aA hp [4] [(0,0)] (by simp[hn]) (by simp[cH hn,hsk])
theorem iI(s:aW)(T:List Tk)(p:PS)(c:Aq s T)(f:kF T p)(w:aW)(hw:w≠[]):iG prog 138 [.bx 0 0,.d (.str w)] (dU s T p) (dU s T (p.need w)) (.tup []):=by
 unfold dU;refine fY func138 bY (c:=_) rfl ntmps138 aM results138 λw0 X hp=>?_;refine cJ (λ|6=>some (.gen ⟨[(0,0)],[],[],dU s T (p.took w),.d (.bool (p.is w))⟩)|_=>none) ?_;simp;refine⟨vU s T p c f w hw,?_⟩;apply aJ;simp;refine⟨λh0=>?_,λh0=>?_⟩
 ·have en:=KE h0;apply aK;simp;exact aA hp [] [(0,0)] (hH:=by simp[en])
 ·have en:=Iu h0;apply aF;simp;exact aA hp [] [(0,0)] (hH:=by simp[en])
theorem qG(s:aW)(T:List Tk)(p:PS)(c:Aq s T)(f:kF T p):iG prog 137 [.bx 0 0] (dU s T p) (dU s T (nameP p).2) (.d (.str (nameP p).1)):=by
 unfold dU;have hle:=f.le;have htt:=c.ht;have htl:=mJ (f.good c);refine iG.one func137 bY (c:=_) rfl ntmps137 aM results137 λw0 X hp=>?_;apply aD;simp;refine cJ (λ|5=>some (.gen ⟨[(0,0)],[],[],dU s T p,.d (.str p.peek)⟩)|_=>none) ?_;simp;refine⟨jK s T p c f,?_⟩;apply aG;refine cJ (λ|7=>some<| .plain ⟨.d (.bool (isNameB p.peek)),true⟩|_=>none) ?_;simp;refine⟨NP p.peek aE,?_⟩;apply aJ;simp;refine⟨λh2=>?_,λh2=>?_⟩
 ·apply aD;simp;apply aD;simp;apply aH;simp;exact aA hp [2] [(0,0)] (by simp[qE h2]) (by simp[qE h2])
 ·apply aF;simp;apply aG;have h1':p.peek≠[]:=λe=>by rw[e]at h2;cases h2
  have hsk:=rA (T:=T) h1';have hps:=f.pos h1';have hn:p.is p.peek=true:=eV.2 ⟨h1',rfl⟩;apply aK;simp;refine⟨aE,?_⟩;apply aD;simp;apply aH;simp;exact aA hp [2] [(0,0)] (by simp[tR h2]) (by simp[tR h2,cH hn,hsk])
theorem XY{s:aW}(h:∀c∈s,digitB c=true):0<=valS s:=by
 obtain⟨m,_,e⟩:=Ev s 0 h;unfold valS;have e':(m:Int)=s.foldl (λn c=>10*n+((c.toNat:Int)- 48)) 0:=e;omega
theorem So{p:PS}(hg:bM p.l)(h:p.peek.take 1=[36]):2<=p.peek.length:=by
 have hn:p.peek≠[]:=λe=>(by rw[e]at h;cases h);obtain⟨_,ht⟩:=sE hg hn;obtain⟨e1,_⟩:=kO h;rw[e1,kW,if_neg bC,if_pos rfl]at ht;rw[e1];split at ht
 ·rename_i z;have:=zZ (p.peek.drop 1);rw[List.length_cons]at ht|-;omega
 ·simp at ht
theorem at0{w:aW}:w.take 1=[36]↔(1<=w.length/\(((w[0]?.getD 0).toNat:Int))=36):=by
 cases w with
 |nil=>simp
 |cons c r=>
  have:=PN (c:=c);simp[this]
theorem sN(s:aW)(T:List Tk)(p:PS)(c:Aq s T)(f:kF T p):iG prog 221 [.bx 0 0] (dU s T p) (dU s T (localP p).2) (.d (.str (localP p).1)):=by
 unfold dU;have hle:=f.le;have htt:=c.ht;have hll:=So (f.good c);refine iG.one func221 bY (c:=_) rfl ntmps221 aM results221 λw0 X hp=>?_;apply aD;simp;refine cJ (λ|5=>some (.gen ⟨[(0,0)],[],[],dU s T p,.d (.str p.peek)⟩)|_=>none) ?_;simp;refine⟨jK s T p c f,?_⟩;apply dT;simp;refine⟨λh=>aE,?_⟩;apply aJ;simp;refine⟨λg=>?_,λg1 g2=>?_⟩
 ·have g':¬p.peek.take 1=[36]:=λq=>by have:=hll q;have:=(at0.1 q).2;omega
  apply aD;simp;apply aD;simp;apply aH;simp;exact aA hp [2] [(0,0)] (by simp[nH g']) (by simp[nH g'])
 ·have g':p.peek.take 1=[36]:=at0.2 ⟨aE,g2⟩;apply aF;simp;apply aG;have h1':p.peek≠[]:=λe=>by rw[e]at g';cases g'
  have hsk:=rA (T:=T) h1';have hps:=f.pos h1';have hn:p.is p.peek=true:=eV.2 ⟨h1',rfl⟩;apply aK;simp;refine⟨aE,?_⟩;apply aD;simp;refine⟨aE,?_⟩;apply aH;simp;exact aA hp [2] [(0,0)] (by simp[(kO g').2]) (by simp[(kO g').2,cH hn,hsk])
theorem jL(s:aW)(T:List Tk)(p:PS)(c:Aq s T)(f:kF T p)(k lo hi:Int)(hlo:loAt k=lo\/(loAt k<=0/\lo=0))(hhi:hiAt k=hi):iG prog 140 [.bx 0 0,.d (aI lo),.d (aI hi)] (dU s T p) (dU s T (numeralP k p).2) (.d (aI (numeralP k p).1)):=by
 unfold dU;have hle:=f.le;have htt:=c.ht;have htl:=mJ (f.good c);refine iG.one func140 bY (c:=_) rfl ntmps140 aM results140 λw0 X hp=>?_;apply aD;simp;refine cJ (λ|10=>some (.gen ⟨[(0,0)],[],[],dU s T p,.d (.str p.peek)⟩)|_=>none) ?_;simp;refine⟨jK s T p c f,?_⟩;apply eA;have hd:=pJ p.peek 0 aE;refine aP (λ|12=>some<| .plain ⟨.d (.bool (firstIs digitB p.peek)),true⟩|_=>none) ?_;simp;refine⟨by simpa using hd,?_⟩;apply aJ;simp;refine⟨λh2=>?_,λh2=>?_⟩
 ·have g:p.peek=[]\/digitB (p.peek[0]?.getD 0)=false:=by cases e:p.peek with|nil=>exact .inl rfl|cons a r=>rw[e]at h2;exact .inr h2
  apply aD;simp;apply aD;simp;apply aH;simp;have e:=Ix (k:=k) g;exact aA hp [6] [(0,0)] (by simp[e]) (by simp[e])
 ·have g1:¬p.peek=[]:=λe=>by rw[e]at h2;cases h2
  have g2:digitB (p.peek[0]?.getD 0)=true:=by cases e:p.peek with|nil=>exact absurd e g1|cons a r=>rw[e]at h2;exact h2
  apply aF;simp;apply aG;obtain⟨hl,hds⟩:=Ew (sE (f.good c) g1) g2;have hc:=Sl p.peek hl;have hv0:=XY hds;refine aP (λ|18=>some<| .plain ⟨.d (aI (valS p.peek)),true⟩|_=>none) ?_;simp;refine⟨hc,?_⟩;apply aG;apply aV;simp;refine⟨λb=>?_,λb1 b2=>?_⟩
  ·apply aD;simp;apply aD;simp;apply aD;simp;apply aH;simp;have e:=Iy (k:=k) g1 g2 aE;exact aA hp [6] [(0,0)] (by simp[e]) (by simp[e,XX (Vy g1)])
  ·apply aF;simp;apply aG;have hsk:=rA (T:=T) g1;have hps:=f.pos g1;have hn:p.is p.peek=true:=eV.2 ⟨g1,rfl⟩;apply aK;simp;refine⟨aE,?_⟩;apply aD;simp;apply aH;simp;have e:=NR (k:=k) g1 g2 aE;exact aA hp [6] [(0,0)] (by simp[e]) (by simp[e,cH hn,hsk])
theorem EA(s:aW)(T:List Tk)(p:PS)(c:Aq s T)(f:kF T p):iG prog 139 [.bx 0 0] (dU s T p) (dU s T (numberP p).2) (.d (aI (numberP p).1)):=by
 unfold dU;refine iG.one func139 bY (c:=_) rfl ntmps139 aM results139 λw0 X hp=>?_;apply aD;simp;apply aG;refine cJ (λ|4=>some (.gen ⟨[(0,0)],[],[],dU s T (p.took [45]),.d (.bool (p.is [45]))⟩)|_=>none) ?_;simp;refine⟨vU s T p c f [45] aM,?_⟩;apply aJ;simp;refine⟨λh1=>?_,λh1=>?_⟩
 ·apply aG;have hn:=jL s T (p.took [45]) c f.took 0 0 999 (.inr ⟨bC,rfl⟩) rfl;have hr:=GL (k:=0) (dY (s:=[45]) (f.good c)) bC;refine aP (λ|6=>some (.gen ⟨[(0,0)],[],[],dU s T (numeralP 0 (p.took [45])).2,.d (aI (numeralP 0 (p.took [45])).1)⟩)|_=>none) ?_;simp;refine⟨⟨hn,aE⟩,?_⟩;apply aH;simp;have e:=Ey h1;exact aA hp [2] [(0,0)] (by simp[e]) (by simp[e])
 ·apply aF;simp;apply aG;have hn:=jL s T (p.took [45]) c f.took 0 0 999 (.inr ⟨bC,rfl⟩) rfl;refine aP (λ|9=>some (.gen ⟨[(0,0)],[],[],dU s T (numeralP 0 (p.took [45])).2,.d (aI (numeralP 0 (p.took [45])).1)⟩)|_=>none) ?_;simp;refine⟨hn,?_⟩;apply aH;simp;have e:=Ez h1;exact aA hp [2] [(0,0)] (by simp[e]) (by simp[e])
end
section
attribute[local simp] kQ.cond Nd.d_eq nd_t nd_dr nd_td ndsD aZ bP mQ dN dD
theorem GN{p:PS}(h:(nameP p).2.is [46]=true):placeP p=(.mk 35 ((nameP p).1++46::(nameP ((nameP p).2.took [46])).1) 0 [],(nameP ((nameP p).2.took [46])).2):=by
 rw[cH h];unfold placeP;rw[if_pos h]
theorem Ch{p:PS}(h:(nameP p).2.is [46]=false):placeP p=(.mk 34 (nameP p).1 0 [],(nameP p).2.took [46]):=by
 have h':¬(nameP p).2.is [46]=true:=by simp[h]
 rw[gR h'];unfold placeP;rw[if_neg h']
theorem oZ{p:PS}(h:bM p.l):(nameP p).1.length<=17:=by
 unfold nameP;split
 ·exact mJ h
 ·simp
theorem KG(p:PS)(hg:bM p.l):iG prog 185 [.bx 0 0] (dN p) (dN (placeP p).2) (.d (placeP p).1.d):=by
 unfold dN;refine iG.cell hT func185 bY (c:=_) rfl ntmps185 aM results185 λw0 X hp=>?_;apply aD;simp;refine cJ (λ|5=>some (.gen ⟨[(0,0)],[],[],dN (nameP p).2,.d (.str (nameP p).1)⟩)|_=>none) ?_;simp;refine⟨Ao p,?_⟩;apply aG;refine cJ (λ|8=>some (.gen ⟨[(0,0)],[],[],dN ((nameP p).2.took [46]),.d (.bool ((nameP p).2.is [46]))⟩)|_=>none) ?_;simp;refine⟨jX (nameP p).2 [46],?_⟩;apply aJ;simp;refine⟨λh2=>?_,λh2=>?_⟩
 ·have l1:=oZ hg;have l2:=oZ (p:=(nameP p).2.took [46]) (dY (cV hg).2.1);refine eW.rd [[0],[0],[0]] [[],[],[],[],[0],[],[],[3]] (λ|13=>some (.gen ⟨[(0,0)],[],[],dN (nameP ((nameP p).2.took [46])).2,.d (.str (nameP ((nameP p).2.took [46])).1)⟩)|_=>none) ?_;simp;refine⟨⟨⟨aE,Ao _⟩,aE⟩,?_⟩;apply aD;simp;apply aH;simp;have e:=GN h2;refine bA (x:=(placeP p).1.d) (by simp[e]) ?_;simp;exact aA hp [0] [(0,0)] (hH:=by simp[e])
 ·apply aF;simp;apply aD;simp;apply aH;simp;have e:=Ch h2;refine bA (x:=(placeP p).1.d) (by simp[e]) ?_;simp;exact aA hp [0] [(0,0)] (hH:=by simp[e])
def opD(o:aW×Int):DV:=.agg [.str o.1,aI o.2]
theorem NS:kR 6 2 BH=opsL.map opD:=bY
def XZ(p:PS)(lv:Int):List (Nat×bB):=[(0,.box false [.d (mQ p.l),.d (aI p.e)]),(1,.box false [.d (aI lv)]),(2,.box false [.bx 0 0])]
def Ya(p:PS)(lv:Int)(o:aW×Int):Bool:=decide (o.2=lv)&&decide (o.1=p.peek)
attribute[local simp] XZ opD
theorem ZW(p:PS)(lv:Int)(o:aW×Int):iG prog 226 [.d (opD o),.bx 1 0,.bx 2 0] (XZ p lv) (XZ p lv) (.d (.bool (Ya p lv o))):=by
 unfold XZ;refine iG.one func226 bY (c:=_) rfl ntmps226 aM results226 λw0 X hp=>?_;apply aD;simp;apply aG;refine eW.rd [[],[],[],[],[],[0],[0]] [[],[],[],[],[],[],[],[],[0]] (λ|13=>some (.gen ⟨[(0,0)],[],[],dN p,.d (.str p.peek)⟩)|_=>none) ?_;simp;refine⟨λ_=>mI p,?_⟩;apply aH;simp;by_cases hq:o.2=lv
 ·exact aA hp [4] [(0,0),(1,1),(2,2)] (by simp[hq,Ya,Bool.beq_eq_decide_eq]) (by simp[hq])
 ·exact aA hp [4] [(0,0),(1,1),(2,2)] (by simp[hq,Ya]) (by simp[hq])
theorem NT(p:PS)(lv:Int)(l:List (aW×Int)):iG prog 225 [.d (.sl (l.map opD)),.fn 226 [.bx 1 0,.bx 2 0]] (XZ p lv) (XZ p lv) (.d (aI (nZ (Ya p lv) l))):=by
 unfold XZ;refine iG.one func225 bY (c:=_) rfl ntmps225 aM results225 λw0 X hp=>?_;refine eW.len (t:=0) rfl λhlen=>?_;simp at hlen;apply aD;simp;apply dT;simp;apply aO;refine aU (ι:=Nat) (λi=>aR [(0,.d (.sl (l.map opD))),(1,.fn 226 [.bx 1 0,.bx 2 0]),(7,.d (aI l.length)),(8,.d (aI i))]) (λi=>aL [(0,.box false [.d (mQ p.l),.d (aI p.e)]),(1,.box false [.d (aI lv)]),(2,.box false [.bx 0 0])]) (λi=>i<=l.length/\Pz (Ya p lv) l i) (λi=>l.length-i) 0 (aA hp [0,1,7,8] [(0,0),(1,1),(2,2)]) (⟨Nat.zero_le _,Pz.zero⟩) λi hi2=>?_;apply aD;simp;apply aG;apply aJ;simp;refine⟨λh2=>?_,λh2=>?_⟩
 ·apply aF;simp;apply dH;apply aD;simp;apply aG;have h2':i<l.length:=aE;have ho:=ZW p lv l[i];refine aP (λ|16=>some (.gen ⟨[(0,0),(1,1),(2,2)],[],[],XZ p lv,.d (.bool (Ya p lv l[i]))⟩)|_=>none) ?_;simp[h2',eF];refine⟨ho,?_⟩;apply aJ;simp;refine⟨λh4=>?_,λh4=>?_⟩
  ·apply aD;simp;apply aH;simp;exact aA hp [4] [(0,0),(1,1),(2,2)] (by simp[sF (hi2.2.found h2 h4)])
  ·apply aF;simp;apply aK;simp;refine⟨aE,?_⟩;refine Pq.mk (i+1) (aA hp [0,1,7,8] [(0,0),(1,1),(2,2)]) ?_ ?_
   ·exact⟨h2,hi2.2.succ h2 h4⟩
   ·omega
 ·apply bE;simp;apply aD;simp;apply aH;simp;exact aA hp [4] [(0,0),(1,1),(2,2)] (by simp[sG (hi2.2.none aE)])
theorem Vz(q:aW×Int->Bool):(List.range 6).find? (λi=>q (opsL.getD i ([],0)))=opsL.findIdx? q:=by
 rw[show List.range 6=[0,1,2,3,4,5] from rfl];unfold opsL;simp only[List.find?_cons,List.findIdx?_cons,List.getD_cons_zero,List.getD_cons_succ,List.find?_nil,List.findIdx?_nil];cases q ([60],1)<;>cases q ([60,61],1)<;>cases q ([61,61],1)<;>cases q ([43],2)<;>cases q ([45],2)<;>cases q ([42],3)<;>rfl
theorem PR(p:PS)(lv:Int):opI lv p.peek=nZ (Ya p lv) opsL:=by
 unfold opI nZ;rw[<-Vz (Ya p lv)];rfl
def Yb(l:List (aW×Int)):List DV:=l.flatMap λo=>[.str o.1,aI o.2]
theorem VA:BH=Yb opsL:=bY
theorem PT:∀(l:List (aW×Int)) (k:Nat) (h:k<l.length),(Yb l)[k*2]?.getD default=.str l[k].1
 |o::l,0,_=>rfl
 |o::l,k+1,h=>by
  have ih:=PT l k (by simpa using h);have e:Yb (o::l)=.str o.1::aI o.2::Yb l:=rfl;rw[e,show(k+1)*2=k*2+1+1 by omega];exact ih
theorem tS{p:PS}{lv:Int}(h:0<=opI lv p.peek):BH[(opI lv p.peek).toNat*2]?.getD default=.str p.peek/\p.is p.peek=true/\opI lv p.peek<6:=by
 rw[PR]at h|-;unfold nZ at h|-;split at h
 ·rename_i i hi;obtain⟨h1,h2,_⟩:=List.findIdx?_eq_some_iff_getElem.1 hi;simp only[Ya,Bool.and_eq_true,decide_eq_true_eq]at h2;have hne:∀o∈opsL,o.1≠[]:=bC;have hn:=hne _ (List.getElem_mem h1);rw[VA,Int.toNat_natCast,PT opsL i h1,h2.2];rw[h2.2]at hn;have:i<6:=h1;exact⟨rfl,eV.2 ⟨hn,rfl⟩,aE⟩
 ·omega
theorem zB{p:PS}{lv:Int}(h:0<=opI lv p.peek):opP lv p=(opI lv p.peek,p.took p.peek):=by
 rw[cH (tS h).2.1];unfold opP;rw[if_pos h]
theorem GO{p:PS}{lv:Int}(h:opI lv p.peek<0):opP lv p=(opI lv p.peek,p):=by
 unfold opP;rw[if_neg aE]
theorem Au(p:PS)(lv:Int):iG prog 208 [.bx 0 0,.d (aI lv)] (dN p) (dN (opP lv p).2) (.d (aI (opP lv p).1)):=by
 unfold dN;refine iG.one func208 bY (c:=_) rfl ntmps208 aM results208 λw0 X hp=>?_;apply aD;simp;apply aG;have ho:=NT p lv opsL;have hgl:=Bc;rw[<-PR]at ho;refine aP (λ|8=>some (.gen ⟨[(0,0),(3,1),(2,2)],[],[],XZ p lv,.d (aI (opI lv p.peek))⟩)|_=>none) ?_;simp[NS];refine⟨⟨aE,ho⟩,?_⟩;apply aG;apply aV;simp;refine⟨λh2=>?_,λh2=>?_⟩
 ·have eo:=zB h2;obtain⟨s1,s2,s3⟩:=tS h2;refine eW.rd [] [[],[],[],[],[],[0]] (λ|16=>some (.gen ⟨[(0,0)],[],[],dN (p.took p.peek),.d (.bool (p.is p.peek))⟩)|_=>none) ?_;simp[s1];refine⟨⟨⟨⟨h2,s3⟩,aE⟩,jX p p.peek⟩,?_⟩;apply aD;simp;apply aH;simp;exact aA hp [4] [(0,0)] (by simp[eo]) (by simp[eo])
 ·have eo:=GO h2;apply aF;simp;apply aD;simp;apply aH;simp;exact aA hp [4] [(0,0)] (by simp[eo]) (by simp[eo])
end
section
attribute[local simp] kQ.cond Nd.d_eq nd_t nd_dr nd_td ndsD aZ bP mQ dN dD
structure mR(n:Nat)(g:FuncId)(x:PS->Nd×PS):Prop where
 ok:∀q:PS,q.l.length<n->bM q.l->iG prog g [.bx 0 0] (dN q) (dN (x q).2) (.d (x q).1.d)
 le:∀q:PS,q.l.length<n->bM q.l->(x q).2.l.length<=q.l.length/\bM (x q).2.l
structure ChS where
 f:Nat
 n:Nd
 q:PS
theorem GP{lv:Int}{x:PS->Nd×PS}{f:Nat}{n:Nd}{q:PS}(hf:q.l.length<f)(h:¬q.e=0):chainF lv x f n q=(n,q):=by
 obtain⟨k,rfl⟩:∃k,f=k+1:=⟨f-1,aE⟩;rw[chainF,if_pos h]
theorem EB{lv:Int}{x:PS->Nd×PS}{f:Nat}{n:Nd}{q:PS}(hf:q.l.length<f)(h:q.e=0)(ho:(opP lv q).1<0):chainF lv x f n q=(n,(opP lv q).2):=by
 obtain⟨k,rfl⟩:∃k,f=k+1:=⟨f-1,aE⟩;rw[chainF,if_neg (by simp[h]),if_pos ho]
theorem KH{lv:Int}{x:PS->Nd×PS}{f:Nat}{n:Nd}{q:PS}(hf:q.l.length<f)(h:q.e=0)(ho:0<=(opP lv q).1):
 chainF lv x f n q=chainF lv x (f-1) (.mk (26+(opP lv q).1) [] 0 [n,(x (opP lv q).2).1]) (x (opP lv q).2).2:=by
 obtain⟨k,rfl⟩:∃k,f=k+1:=⟨f-1,aE⟩;rw[chainF,if_neg (by simp[h]),if_neg aE];rfl
theorem CX{lv:Int}{q:PS}(ho:0<=(opP lv q).1):(opP lv q).2.l.length+1=q.l.length/\(opP lv q).1<=5:=by
 have h:0<=opI lv q.peek:=ho;obtain⟨_,h2,h3⟩:=tS h;rw[zB h,cH h2];exact⟨gE h2,by simp only;omega⟩
theorem KI(p:PS)(lv:Int)(x:PS->Nd×PS)(g:FuncId)(m:Nat)(hx:mR m g x)(hm:p.l.length<m)(hg:bM p.l):iG prog 223 [.bx 0 0,.d (aI lv),.bm g [.bx 0 0]] (dN p) (dN (chainP lv x p).2) (.d (chainP lv x p).1.d):=by
 unfold dN;refine iG.cell hT func223 bY (c:=_) rfl ntmps223 aM results223 λw0 X hp=>?_;apply aD;simp;apply aG;have h1:=hx.ok p hm hg;refine aP (λ|10=>some (.gen ⟨[(0,0)],[],[],dN (x p).2,.d (x p).1.d⟩)|_=>none) ?_;simp[eF];refine⟨by simpa using h1,?_⟩;apply dH;refine aU (ι:=ChS) (λ⟨f,n,q⟩=>aR [(0,.bx 0 0),(1,.d (aI lv)),(2,.bm g [.bx 0 0]),(6,.bx 6 0),(7,.bx 7 0)]) (λ⟨f,n,q⟩=>aL [(0,.box false [.d (mQ q.l),.d (aI q.e)]),(6,.box false [.d (aI 0),.d (.str []),.d (aI 0),.nl]),(7,.box false [.d (aI n.kind),.d (.str n.text),.d (aI n.n),.d (ndsD n.kids)])]) (λ⟨f,n,q⟩=>q.l.length<f/\bM q.l/\q.l.length<=p.l.length/\chainP lv x p=chainF lv x f n q) (λ⟨f,n,q⟩=>q.l.length) ⟨(x p).2.l.length+1,(x p).1,(x p).2⟩ (aA hp [0,1,2,6,7] [(0,0),(6,6),(7,7)]) (⟨Nat.lt_succ_self _,(hx.le p hm hg).2,(hx.le p hm hg).1,rfl⟩) λ⟨f,n,q⟩ hi2=>?_;apply aG;apply aV;simp;refine⟨λh2=>?_,λh2=>?_⟩
 ·apply aF;simp;apply aO;apply aG;have ho:=Au q lv;refine aP (λ|18=>some (.gen ⟨[(0,0)],[],[],dN (opP lv q).2,.d (aI (opP lv q).1)⟩)|_=>none) ?_;simp;refine⟨ho,?_⟩;apply aG;apply aV;simp;refine⟨λh4=>?_,λh4=>?_⟩
  ·apply bE;simp;apply aD;simp;apply aH;simp;have e:chainP lv x p=(n,(opP lv q).2):=by rw[hi2.2.2.2];exact EB hi2.1 h2 h4
   exact aA hp [0] [(0,0)] (by simp[e]) (by simp[e])
  ·apply aF;simp;obtain⟨ol,or⟩:=CX h4;have gg:=xD (lv:=lv) hi2.2.1;have hc:=hx.ok (opP lv q).2 aE gg.2;refine eW.rd [[0,26],[0,26],[0]] [[],[],[],[],[0],[26],[],[7]] (λ|25=>some (.gen ⟨[(0,0)],[],[],dN (x (opP lv q).2).2,.d (x (opP lv q).2).1.d⟩)|_=>none) ?_;simp[eF];refine⟨⟨⟨⟨aE,aE⟩,by simpa using hc⟩,bC⟩,?_⟩;refine yN (bN 7 [26] (fz:=false) (cs:=[.d (aI (26+(opP lv q).1)),.d (.str []),.d (aI 0),.ow 26 0 2]) (ds:=[aI (26+(opP lv q).1),.str [],aI 0,.sl [n.d,(x (opP lv q).2).1.d]]) aM aM aM (by simp[bB.mut])) ?_;simp;refine Pq.mk ⟨f-1,.mk (26+(opP lv q).1) [] 0 [n,(x (opP lv q).2).1],(x (opP lv q).2).2⟩ (aA hp [0,1,2,6,7] [(0,0),(6,6),(7,7)]) ?_ ?_
   ·have le:=hx.le (opP lv q).2 aE gg.2;have i1:=hi2.1;have i3:=hi2.2.2.1;refine⟨?_,le.2,?_,?_⟩
    ·show(x (opP lv q).2).2.l.length<f-1;omega
    ·show(x (opP lv q).2).2.l.length<=p.l.length;omega
    ·rw[hi2.2.2.2];exact KH hi2.1 h2 h4
   ·have le:=hx.le (opP lv q).2 aE gg.2;show(x (opP lv q).2).2.l.length<q.l.length;omega
 ·apply bE;simp;apply aD;simp;apply aH;simp;have e:chainP lv x p=(n,q):=by rw[hi2.2.2.2];exact GP hi2.1 h2
  exact aA hp [0] [(0,0)] (by simp[e]) (by simp[e])
end
section
attribute[local simp] kQ.cond Nd.d_eq nd_t nd_dr nd_td ndsD aZ bP mQ dN dD
theorem Ci{ex:PS->Nd×PS}{p:PS}(h:p.is [40]=true):factP ex p=((ex (p.took [40])).1,(ex (p.took [40])).2.need [41]):=by
 rw[cH h];unfold factP;rw[if_pos h]
theorem EC{ex:PS->Nd×PS}{p:PS}(h1:p.is [40]=false)(h2:p.is sKind=true):factP ex p=(.mk 36 [] 0 [],p.took sKind):=by
 rw[cH h2];unfold factP;rw[if_neg (by simp[h1]),if_pos h2]
theorem Cj{ex:PS->Nd×PS}{p:PS}(h1:p.is [40]=false)(h2:p.is sKind=false)(h3:¬p.peek=[])(h4:digitB (p.peek[0]?.getD 0)=true):factP ex p=(.mk 32 [] (numeralP 32 p).1 [],(numeralP 32 p).2):=by
 unfold factP;rw[if_neg (by simp[h1]),if_neg (by simp[h2])];cases e:p.peek with
 |nil=>exact absurd e h3
 |cons c r=>
  rw[e]at h4;have h4:digitB c=true:=h4;simp only[h4,if_true]
theorem Ck{ex:PS->Nd×PS}{p:PS}(h1:p.is [40]=false)(h2:p.is sKind=false)(h3:¬p.peek=[]->digitB (p.peek[0]?.getD 0)=false)(h4:p.peek.take 1=[36]):factP ex p=(.mk 33 (localP p).1 0 [],(localP p).2):=by
 unfold factP;rw[if_neg (by simp[h1]),if_neg (by simp[h2])];cases e:p.peek with
 |nil=>rw[e]at h4;cases h4
 |cons c r=>
  rw[e]at h3 h4;have h3:digitB c=false:=h3 aM;have h4:c=36:=by simpa using h4
  simp[h4];decide
theorem Cl{ex:PS->Nd×PS}{p:PS}(h1:p.is [40]=false)(h2:p.is sKind=false)(h3:¬p.peek=[]->digitB (p.peek[0]?.getD 0)=false)(h4:¬p.peek.take 1=[36]):factP ex p=placeP p:=by
 unfold factP;rw[if_neg (by simp[h1]),if_neg (by simp[h2])];cases e:p.peek with
 |nil=>rfl
 |cons c r=>
  rw[e]at h3 h4;have h3:digitB c=false:=h3 aM;have h4:¬c=36:=by simpa using h4
  simp[h3,h4]
theorem Yc(p:PS)(n:Nat)(ex:PS->Nd×PS)(hE:mR n 182 ex)(hn:p.l.length<n+1)(hg:bM p.l):iG prog 238 [.bx 0 0] (dN p) (dN (factP ex p).2) (.d (factP ex p).1.d):=by
 unfold dN;refine iG.cell hT func238 bY (c:=_) rfl ntmps238 aM results238 λw0 X hp=>?_;apply aD;simp;refine cJ (λ|6=>some (.gen ⟨[(0,0)],[],[],dN p,.d (.str p.peek)⟩)|_=>none) ?_;simp;refine⟨mI p,?_⟩;apply dH;refine cJ (λ|9=>some (.gen ⟨[(0,0)],[],[],dN (p.took [40]),.d (.bool (p.is [40]))⟩)|_=>none) ?_;simp;refine⟨jX p [40],?_⟩;apply aJ;simp;refine⟨λh2=>?_,λh2=>?_⟩
 ·apply aG;have hl:=gE h2;rw[<-cH h2]at hl;have hx:=hE.ok (p.took [40]) aE (dY hg);refine aP (λ|11=>some (.gen ⟨[(0,0)],[],[],dN (ex (p.took [40])).2,.d (ex (p.took [40])).1.d⟩)|_=>none) ?_;simp;refine⟨by simpa using hx,?_⟩;apply aG;have hn4:=kX (ex (p.took [40])).2 [41];refine aP (λ|13=>some (.gen ⟨[(0,0)],[],[],dN ((ex (p.took [40])).2.need [41]),.tup []⟩)|_=>none) ?_;simp;refine⟨hn4,?_⟩;apply aD;simp;apply aH;simp;have e:=Ci (ex:=ex) h2;exact aA hp [0] [(0,0)] (by simp[e]) (by simp[e])
 ·have e2:p.took [40]=p:=gR (by simp[h2]);simp only[e2];refine cJ (λ|17=>some (.gen ⟨[(0,0)],[],[],dN (p.took [107,105,110,100]),.d (.bool (p.is [107,105,110,100]))⟩)|_=>none) ?_;simp;refine⟨jX p [107,105,110,100],?_⟩;apply aJ;simp;refine⟨λh6=>?_,λh6=>?_⟩
  ·apply aD;simp;apply aH;simp;have e:=EC (ex:=ex) h2 h6;refine bA (x:=(factP ex p).1.d) (by simp[e]) ?_;simp;exact aA hp [0] [(0,0)] (hH:=by simp[e,sKind])
  ·have e6:p.took [107,105,110,100]=p:=gR (by simp[h6]);simp only[e6];apply aG;have hd:=vQ (p.peek[0]?.getD 0);refine aP (λ|25=>some<| .plain ⟨.d (.bool (digitB (p.peek[0]?.getD 0))),true⟩|_=>none) ?_;simp;refine⟨⟨λh=>List.length_pos_iff.2 h,λ_=>hd⟩,?_⟩;apply aJ;simp;refine⟨λg1 g2=>?_,λg=>?_⟩
   ·apply aG;have hnu:=qF p 32 hg bC;refine aP (λ|28=>some (.gen ⟨[(0,0)],[],[],dN (numeralP 32 p).2,.d (aI (numeralP 32 p).1)⟩)|_=>none) ?_;simp;refine⟨hnu,?_⟩;apply aH;simp;have e:=Cj (ex:=ex) h2 h6 g1 g2;refine bA (x:=(factP ex p).1.d) (by simp[e]) ?_;simp;exact aA hp [0] [(0,0)] (hH:=by simp[e])
   ·apply aG;have hpf:=oY p.peek [36] (by have:=mJ hg;omega) bC;refine aP (λ|32=>some<| .plain ⟨.d (.bool (decide (p.peek.take 1=[36]))),true⟩|_=>none) ?_;simp;refine⟨hpf,?_⟩;apply aJ;simp;refine⟨λh10=>?_,λh10=>?_⟩
    ·apply aG;have hlo:=Ap p hg;refine aP (λ|34=>some (.gen ⟨[(0,0)],[],[],dN (localP p).2,.d (.str (localP p).1)⟩)|_=>none) ?_;simp;refine⟨hlo,?_⟩;apply aH;simp;have e:=Ck (ex:=ex) h2 h6 g h10;refine bA (x:=(factP ex p).1.d) (by simp[e]) ?_;simp;exact aA hp [0] [(0,0)] (hH:=by simp[e])
    ·apply aF;simp;apply aG;have hpl:=KG p hg;refine aP (λ|37=>some (.gen ⟨[(0,0)],[],[],dN (placeP p).2,.d (placeP p).1.d⟩)|_=>none) ?_;simp;refine⟨by simpa using hpl,?_⟩;apply aH;simp;have e:=Cl (ex:=ex) h2 h6 g h10;exact aA hp [0] [(0,0)] (by simp[e]) (by simp[e])
theorem Rt.le{n:Nat}{cls:Int->Bool}{x:PS->Nd×PS}(h:Rt n cls x)(q:PS)(hq:q.l.length<n)(hg:bM q.l):(x q).2.l.length<=q.l.length/\bM (x q).2.l:=⟨(h q hq hg).1,(h q hq hg).2.1⟩
theorem mR.fact{n:Nat}{ex:PS->Nd×PS}(hE:mR n 182 ex)(hR:Rt n isExprK ex):mR (n+1) 238 (factP ex):=
 ⟨λq hq hg=>Yc q n ex hE hq hg,λq hq hg=>(DX hR).le q hq hg⟩
theorem Yd(p:PS)(n:Nat)(ex:PS->Nd×PS)(hE:mR n 182 ex)(hR:Rt n isExprK ex)(hn:p.l.length<n+1)(hg:bM p.l):iG prog 224 [.bx 0 0] (dN p) (dN (prodP ex p).2) (.d (prodP ex p).1.d):=by
 unfold dN;refine iG.cell hT func224 bY (c:=_) rfl ntmps224 aM results224 λw0 X hp=>?_;apply aD;simp;apply aG;have hc:=KI p 3 (factP ex) 238 (n+1) (hE.fact hR) hn hg;refine aP (λ|6=>some (.gen ⟨[(0,0)],[],[],dN (prodP ex p).2,.d (prodP ex p).1.d⟩)|_=>none) ?_;simp;refine⟨by simpa [prodP]using hc,?_⟩;apply aH;simp;exact aA hp [0] [(0,0)]
theorem mR.prod{n:Nat}{ex:PS->Nd×PS}(hE:mR n 182 ex)(hR:Rt n isExprK ex):mR (n+1) 224 (prodP ex):=
 ⟨λq hq hg=>Yd q n ex hE hR hq hg,λq hq hg=>(Bb (DX hR)).le q hq hg⟩
theorem VB(p:PS)(n:Nat)(ex:PS->Nd×PS)(hE:mR n 182 ex)(hR:Rt n isExprK ex)(hn:p.l.length<n+1)(hg:bM p.l):iG prog 207 [.bx 0 0] (dN p) (dN (sumP ex p).2) (.d (sumP ex p).1.d):=by
 unfold dN;refine iG.cell hT func207 bY (c:=_) rfl ntmps207 aM results207 λw0 X hp=>?_;apply aD;simp;apply aG;have hc:=KI p 2 (prodP ex) 224 (n+1) (hE.prod hR) hn hg;refine aP (λ|6=>some (.gen ⟨[(0,0)],[],[],dN (sumP ex p).2,.d (sumP ex p).1.d⟩)|_=>none) ?_;simp;refine⟨by simpa [sumP]using hc,?_⟩;apply aH;simp;exact aA hp [0] [(0,0)]
theorem Bs{ex:PS->Nd×PS}{p:PS}(h:0<=(opP 1 (sumP ex p).2).1):exprB ex p=(.mk (26+(opP 1 (sumP ex p).2).1) [] 0 [(sumP ex p).1,(sumP ex (opP 1 (sumP ex p).2).2).1],(sumP ex (opP 1 (sumP ex p).2).2).2):=by
 unfold exprB;simp only[];rw[if_pos h]
theorem Bt{ex:PS->Nd×PS}{p:PS}(h:(opP 1 (sumP ex p).2).1<0):exprB ex p=((sumP ex p).1,(opP 1 (sumP ex p).2).2):=by
 unfold exprB;simp only[];rw[if_neg aE]
theorem NU(p:PS)(n:Nat)(ex:PS->Nd×PS)(hE:mR n 182 ex)(hR:Rt n isExprK ex)(hn:p.l.length<n+1)(hg:bM p.l):iG prog 182 [.bx 0 0] (dN p) (dN (exprB ex p).2) (.d (exprB ex p).1.d):=by
 unfold dN;refine iG.cell hT func182 bY (c:=_) rfl ntmps182 aM results182 λw0 X hp=>?_;apply aD;simp;apply aG;have hc:=VB p n ex hE hR hn hg;have hl1:=(Ie hR).le p hn hg;refine aP (λ|6=>some (.gen ⟨[(0,0)],[],[],dN (sumP ex p).2,.d (sumP ex p).1.d⟩)|_=>none) ?_;simp;refine⟨by simpa using hc,?_⟩;apply eA;have ho:=Au (sumP ex p).2 1;refine aP (λ|8=>some (.gen ⟨[(0,0)],[],[],dN (opP 1 (sumP ex p).2).2,.d (aI (opP 1 (sumP ex p).2).1)⟩)|_=>none) ?_;simp;refine⟨ho,?_⟩;apply aV;simp;refine⟨λh3=>?_,λh3=>?_⟩
 ·apply aG;have hol:=CX h3;have hog:=xD (lv:=1) hl1.2;have hc4:=VB (opP 1 (sumP ex p).2).2 n ex hE hR aE hog.2;refine eW.rd [[0,16],[0,16],[0]] [[],[],[],[],[0],[16],[],[2]] (λ|15=>some (.gen ⟨[(0,0)],[],[],dN (sumP ex (opP 1 (sumP ex p).2).2).2,.d (sumP ex (opP 1 (sumP ex p).2).2).1.d⟩)|_=>none) ?_;simp;refine⟨⟨⟨⟨aE,aE⟩,by simpa using hc4⟩,bC⟩,?_⟩;apply aH;simp;have e:=Bs h3;refine bA (x:=(exprB ex p).1.d) (by simp[e]) ?_;simp;exact aA hp [0] [(0,0)] (hH:=by simp[e])
 ·apply aF;simp;apply aD;simp;apply aH;simp;have e:=Bt h3;exact aA hp [0] [(0,0)] (by simp[e]) (by simp[e])
theorem ED:∀n:Nat,mR n 182 (exprP false n)
 |0=>⟨λq h _=>absurd h (Nat.not_lt_zero _),λq h _=>absurd h (Nat.not_lt_zero _)⟩
 |n+1=>by
  have e:∀q,exprP false (n+1) q=exprB (exprP false n) q:=λq=>by rw[exprP,if_neg aM]
  refine⟨λq hq hg=>?_,λq hq hg=>(Aa (n+1)).le q hq hg⟩;rw[e];exact NU q n (exprP false n) (ED n) (Aa n) hq hg
end
section
attribute[local simp] kQ.cond Nd.d_eq nd_t nd_dr nd_td ndsD aZ bP mQ dN dD
theorem sO{c:Prop}[Decidable c]{f:Nat->bB}{A:bB}{x:Nat}(h:f 0=A):bW f (if c then [(0,A)]else []) x=f x:=by
 by_cases hc:c
 ·rw[if_pos hc];subst h;simp only[bW,cE];split
  ·rename_i e;rw[e]
  ·rfl
 ·rw[if_neg hc];rfl
def NV(n:Nat)(x:PS->Nd×PS):Prop:=∀q:PS,q.l.length<n->bM q.l->q.e=0->(x q).2.e≠0\/(x q).2.l.length<q.l.length
structure BlS where
 f:Nat
 ks:List Nd
 q:PS
theorem GQ{st:PS->Nd×PS}{ks:List Nd}{q:PS}(h:q.e=0->q.peek=[125]):∀f,stmtsF st f ks q=(ks,q)
 |0=>rfl
 |f+1=>by
  rw[stmtsF,if_pos];by_cases e:q.e=0
  ·exact .inr (h e)
  ·exact .inl e
theorem KJ{st:PS->Nd×PS}{ks:List Nd}{q:PS}{f:Nat}(hf:q.l.length<f)(h:q.e=0)(hp:¬q.peek=[125]):stmtsF st f ks q=stmtsF st (f-1) (ks++[(st q).1]) (st q).2:=by
 obtain⟨k,rfl⟩:∃k,f=k+1:=⟨f-1,aE⟩;rw[stmtsF,if_neg]
 ·rfl
 ·rintro(e|e)
  ·exact e h
  ·exact hp e
theorem KK(p:PS)(n:Nat)(st:PS->Nd×PS)(hS:mR n 162 st)(hE:NV n st)(hn:p.l.length<n)(hg:bM p.l)(hb:p.l.length<=1100000):iG prog 125 [.bx 0 0] (dN p) (dN (blockB st p).2) (.d (blockB st p).1.d):=by
 unfold dN;refine iG.cell hT func125 bY (c:=_) rfl ntmps125 aM results125 λw0 X hp=>?_;apply aD;simp;apply aD;simp;refine hZ (fz:=false) (cs:=[.d (aI 8),.d (.str []),.d (aI 0),.nl]) 3 3 1022 4 bC ⟨aM,aM,aM,?_⟩;simp;apply aG;have hn2:=kX p [123];have gl:=cA (s:=[123]) hg;refine aP (λ|6=>some (.gen ⟨[(0,0)],[],[],dN (p.need [123]),.tup []⟩)|_=>none) ?_;simp;refine⟨hn2,?_⟩;apply dH;refine aU (ι:=BlS) (λ⟨f,ks,q⟩=>aR [(0,.bx 0 0),(2,.bx 2 0),(3,.bx 3 0)]) (λ⟨f,ks,q⟩=>aL [(0,.box false [.d (mQ q.l),.d (aI q.e)]),(2,.box false [.d (aI 0),.d (.str []),.d (aI 0),.nl]),(3,.box false [.d (aI 8),.d (.str []),.d (aI 0),.ow 1022 0 ks.length]),(1022,.row false 4 (ks.map Nd.d))]) (λ⟨f,ks,q⟩=>(q.e=0->q.l.length<f)/\bM q.l/\q.l.length<=p.l.length/\ks.length+q.l.length<=p.l.length+(if q.e=0 then 0 else 1)/\stmtsF st ((p.need [123]).l.length+1) [] (p.need [123])=stmtsF st f ks q) (λ⟨f,ks,q⟩=>2*q.l.length+(if q.e=0 then 1 else 0)) ⟨(p.need [123]).l.length+1,[],p.need [123]⟩ (aA hp [0,2,3] [(0,0),(2,2),(3,3),(1022,1022)]) (⟨λ_=>Nat.lt_succ_self _,gl.2,gl.1,by have:=gl.1;simp only[List.length_nil];omega,rfl⟩) λ⟨f,ks,q⟩ hi3=>?_;apply eA;have hpk:=mI q;refine aP (λ|14=>some (.gen ⟨[(0,0)],[],[],dN q,.d (.str q.peek)⟩)|_=>none) ?_;simp[sO];refine⟨λ_=>hpk,?_⟩;apply aJ;simp;refine⟨λg1 g2=>?_,λg=>?_⟩
 ·apply aF;simp;apply aO;have ha:q.l.length<=p.l.length:=hi3.2.2.1;have hk:ks.length+q.l.length<=p.l.length:=by have z:=hi3.2.2.2.1;simp only[g1,if_true]at z;omega
  have hs:=hS.ok q aE hi3.2.1;have hle:=hS.le q aE hi3.2.1;have heat:=hE q aE hi3.2.1 g1;refine eW.rd [[0,21],[0,21]] [[],[],[],[0],[21],[22,1022],[],[3]] (λ|20=>some (.gen ⟨[(0,0)],[],[],dN (st q).2,.d (st q).1.d⟩)|_=>none) ?_;simp;refine⟨⟨by simpa using hs,aE,aE⟩,?_⟩;refine Pq.mk ⟨f-1,ks++[(st q).1],(st q).2⟩ (aA hp [0,2,3] [(0,0),(2,2),(3,3),(22,1022)]) ?_ ?_
  ·refine⟨λe=>?_,hle.2,?_,?_,?_⟩
   ·show(st q).2.l.length<f-1;have z:=hi3.1 g1;rcases heat with h|h
    ·exact absurd e h
    ·omega
   ·show(st q).2.l.length<=p.l.length;omega
   ·show(ks++[(st q).1]).length+(st q).2.l.length<=p.l.length+(if(st q).2.e=0 then 0 else 1);rw[List.length_append,List.length_singleton];by_cases e:(st q).2.e=0
    ·rw[if_pos e];rcases heat with h|h
     ·exact absurd e h
     ·omega
    ·rw[if_neg e];omega
   ·rw[hi3.2.2.2.2];exact KJ (hi3.1 g1) g1 g2
  ·show 2*(st q).2.l.length+(if(st q).2.e=0 then 1 else 0)<2*q.l.length+(if q.e=0 then 1 else 0);rw[if_pos g1];by_cases e:(st q).2.e=0
   ·rw[if_pos e];rcases heat with h|h
    ·exact absurd e h
    ·omega
   ·rw[if_neg e];omega
 ·apply bE;simp;apply aG;have hn5:=kX q [125];refine aP (λ|25=>some (.gen ⟨[(0,0)],[],[],dN (q.need [125]),.tup []⟩)|_=>none) ?_;simp;refine⟨hn5,?_⟩;apply aD;simp;apply aH;simp;have e:blockB st p=(.mk 8 [] 0 ks,q.need [125]):=by unfold blockB;simp only[];rw[hi3.2.2.2.2,GQ g]
  refine bA (x:=(blockB st p).1.d) (by simp[e]) ?_;simp;exact aA hp [0] [(0,0)] (hH:=by simp[e])
end
section
attribute[local simp] kQ.cond Nd.d_eq nd_t nd_dr nd_td ndsD aZ bP mQ dN dD
def cmdA(k:Int)(p:PS):aW×PS:=if k=19\/k=20 then localP p else if k=21\/k=25\/k=24 then([],p)else nameP p
theorem sP{k:Int}{p:PS}(h:bM p.l):(cmdA k p).2.l.length<=p.l.length/\bM (cmdA k p).2.l:=by
 unfold cmdA;split
 ·exact⟨(eE h).1,(eE h).2.1⟩
 ·split
  ·exact⟨Nat.le_refl _,h⟩
  ·exact⟨(cV h).1,(cV h).2.1⟩
theorem EE{ex:PS->Nd×PS}{k:Int}{p:PS}(h:k=15\/k=22\/k=24):cmdP ex k p=(.mk k (cmdA k p).1 0 [(ex (cmdA k p).2).1],(ex (cmdA k p).2).2):=by
 unfold cmdP;simp only[];rw[if_pos h];rfl
theorem CY{ex:PS->Nd×PS}{k:Int}{p:PS}(h0:¬(k=15\/k=22\/k=24))(h:k=16\/k=23):cmdP ex k p=(.mk k (cmdA k p).1 0 [.mk 33 (localP (cmdA k p).2).1 0 []],(localP (cmdA k p).2).2):=by
 unfold cmdP;simp only[];rw[if_neg h0,if_pos h];rfl
theorem xN{ex:PS->Nd×PS}{k:Int}{p:PS}(h0:¬(k=15\/k=22\/k=24))(h1:¬(k=16\/k=23))(h:k=19\/k=21\/k=25):cmdP ex k p=(.mk k (cmdA k p).1 (numeralP k (cmdA k p).2).1 [],(numeralP k (cmdA k p).2).2):=by
 unfold cmdP;simp only[];rw[if_neg h0,if_neg h1,if_pos h];rfl
theorem sQ{ex:PS->Nd×PS}{k:Int}{p:PS}(h0:¬(k=15\/k=22\/k=24))(h1:¬(k=16\/k=23))(h:¬(k=19\/k=21\/k=25)):cmdP ex k p=(.mk k (cmdA k p).1 0 [],(cmdA k p).2):=by
 unfold cmdP;simp only[];rw[if_neg h0,if_neg h1,if_neg h];rfl
def cdH(p:PS)(x:Nd):List (Nat×bB):=[(0,.box false [.d (mQ p.l),.d (aI p.e)]),(1,.box false [.d (aI x.kind),.d (.str x.text),.d (aI x.n),.d (ndsD x.kids)])]
structure SPS where
 s:aW
 q:PS
theorem NW(p:PS)(n:Nat)(ex:PS->Nd×PS)(k:Int)(hk:0<=k/\k<37)(hE:mR n 182 ex)(hn:p.l.length<n)(hg:bM p.l):iG prog 183 [.bx 0 0,.bx 1 0] [(0,.box false [.d (mQ p.l),.d (aI p.e)]),(1,.box false [.d (aI k),.d (.str []),.d (aI 0),.nl])] (cdH (cmdP ex k p).2 (cmdP ex k p).1) (.tup []):=by
 unfold cdH;refine fY func183 bY (c:=_) rfl ntmps183 aM results183 λw0 X hp=>?_;refine aY (ι:=SPS) (λ⟨s,q⟩=>aR [(0,.bx 0 0),(1,.bx 1 0)]) (λ⟨s,q⟩=>aL [(0,.box false [.d (mQ q.l),.d (aI q.e)]),(1,.box false [.d (aI k),.d (.str s),.d (aI 0),.nl])]) (λ⟨s,q⟩=>cmdA k p=(s,q)) ?_ λ⟨s,q⟩ hc8=>?_
 ·apply aD;simp;apply aO;refine aY (ι:=BC) (λ⟨b⟩=>aR [(0,.bx 0 0),(1,.bx 1 0),(7,.d (aI k)),(13,.d (.bool b))]) (λ⟨b⟩=>aL [(0,.box false [.d (mQ p.l),.d (aI p.e)]),(1,.box false [.d (aI k),.d (.str []),.d (aI 0),.nl])]) (λ⟨b⟩=>b=true↔(k=19\/k=20)) ?_ λ⟨b⟩ hc4=>?_
  ·apply aV;simp;refine⟨λh2=>?_,λh2=>?_⟩
   ·apply aF;simp;refine XG.mk ⟨decide (k=19)⟩ (aA hp [0,1,7,13] [(0,0),(1,1)]) ?_;simp[h2]
   ·apply aK;simp;refine XG.mk ⟨decide (k=20)⟩ (aA hp [0,1,7,13] [(0,0),(1,1)]) ?_;simp only[decide_eq_true_eq];omega
  ·apply aJ;simp;refine⟨λh4=>?_,λh4=>?_⟩
   ·have q4:=hc4.1 h4;have hlo:=Ap p hg;refine aP (λ|18=>some (.gen ⟨[(0,0)],[],[],dN (localP p).2,.d (.str (localP p).1)⟩)|_=>none) ?_;simp;refine⟨hlo,?_⟩;refine XG.mk ⟨(localP p).1,(localP p).2⟩ (aA hp [0,1] [(0,0),(1,1)]) ?_;unfold cmdA;rw[if_pos q4]
   ·have q4:¬(k=19\/k=20):=λq=>by simp[hc4.2 q]at h4
    refine aY (ι:=BC) (λ⟨b⟩=>aR [(0,.bx 0 0),(1,.bx 1 0),(7,.d (aI k)),(21,.d (.bool b))]) (λ⟨b⟩=>aL [(0,.box false [.d (mQ p.l),.d (aI p.e)]),(1,.box false [.d (aI k),.d (.str []),.d (aI 0),.nl])]) (λ⟨b⟩=>b=true↔(k=21\/k=25\/k=24)) ?_ λ⟨b⟩ hc1=>?_
    ·apply aV;simp;refine⟨λh5=>?_,λh5=>?_⟩
     ·apply aF;simp;refine XG.mk ⟨decide (k=21)⟩ (aA hp [0,1,7,21] [(0,0),(1,1)]) ?_;simp[h5]
     ·apply aV;simp;refine⟨λh6=>?_,λh6=>?_⟩
      ·apply aF;simp;refine XG.mk ⟨decide (k=25)⟩ (aA hp [0,1,7,21] [(0,0),(1,1)]) ?_;simp[h6]
      ·apply aK;simp;refine XG.mk ⟨decide (k=24)⟩ (aA hp [0,1,7,21] [(0,0),(1,1)]) ?_;simp only[decide_eq_true_eq];omega
    ·apply aJ;simp;refine⟨λh1=>?_,λh1=>?_⟩
     ·have q1:=hc1.1 h1;apply aF;simp;refine XG.mk ⟨[],p⟩ (aA hp [0,1] [(0,0),(1,1)]) ?_;unfold cmdA;rw[if_neg q4,if_pos q1]
     ·have q1:¬(k=21\/k=25\/k=24):=λq=>by simp[hc1.2 q]at h1
      have hna:=Ao p;refine aP (λ|10=>some (.gen ⟨[(0,0)],[],[],dN (nameP p).2,.d (.str (nameP p).1)⟩)|_=>none) ?_;simp;refine⟨hna,?_⟩;refine XG.mk ⟨(nameP p).1,(nameP p).2⟩ (aA hp [0,1] [(0,0),(1,1)]) ?_;unfold cmdA;rw[if_neg q4,if_neg q1]
 ·apply aD;simp;apply aO;refine aY (ι:=BC) (λ⟨b⟩=>aR [(0,.bx 0 0),(1,.bx 1 0),(28,.d (aI k)),(29,.d (.bool b))]) (λ⟨b⟩=>aL [(0,.box false [.d (mQ q.l),.d (aI q.e)]),(1,.box false [.d (aI k),.d (.str s),.d (aI 0),.nl])]) (λ⟨b⟩=>b=true↔(k=15\/k=22\/k=24)) ?_ λ⟨b⟩ hc12=>?_
  ·apply aV;simp;refine⟨λh9=>?_,λh9=>?_⟩
   ·apply aF;simp;refine XG.mk ⟨decide (k=15)⟩ (aA hp [0,1,28,29] [(0,0),(1,1)]) ?_;simp[h9]
   ·apply aV;simp;refine⟨λh10=>?_,λh10=>?_⟩
    ·apply aF;simp;refine XG.mk ⟨decide (k=22)⟩ (aA hp [0,1,28,29] [(0,0),(1,1)]) ?_;simp[h10]
    ·apply aK;simp;refine XG.mk ⟨decide (k=24)⟩ (aA hp [0,1,28,29] [(0,0),(1,1)]) ?_;simp only[decide_eq_true_eq];omega
  ·apply aJ;simp;refine⟨λh12=>?_,λh12=>?_⟩
   ·have q12:=hc12.1 h12;have ga:=sP (k:=k) hg;rw[hc8]at ga;have hx:=hE.ok q (by have:=ga.1;simp only at this;omega) ga.2;refine aP (λ|35=>some (.gen ⟨[(0,0)],[],[],dN (ex q).2,.d (ex q).1.d⟩)|_=>none) ?_;simp;refine⟨by simpa using hx,?_⟩;have e:=EE (ex:=ex) (p:=p) q12;rw[hc8]at e;refine iH.trans (bN 1 [36] (fz:=false) (cs:=[.d (aI k),.d (.str s),.d (aI 0),.ow 36 0 1]) (ds:=[aI k,.str s,aI 0,.sl [(ex q).1.d]]) aM aM aM (by simp[bB.mut])) ?_;simp;exact aA hp [] [(0,0),(1,1)] (hH:=by simp[e])
   ·have q12:¬(k=15\/k=22\/k=24):=λq=>by simp[hc12.2 q]at h12
    refine aY (ι:=BC) (λ⟨b⟩=>aR [(0,.bx 0 0),(1,.bx 1 0),(28,.d (aI k)),(39,.d (.bool b))]) (λ⟨b⟩=>aL [(0,.box false [.d (mQ q.l),.d (aI q.e)]),(1,.box false [.d (aI k),.d (.str s),.d (aI 0),.nl])]) (λ⟨b⟩=>b=true↔(k=16\/k=23)) ?_ λ⟨b⟩ hc15=>?_
    ·apply aV;simp;refine⟨λh13=>?_,λh13=>?_⟩
     ·apply aF;simp;refine XG.mk ⟨decide (k=16)⟩ (aA hp [0,1,28,39] [(0,0),(1,1)]) ?_;simp[h13]
     ·apply aK;simp;refine XG.mk ⟨decide (k=23)⟩ (aA hp [0,1,28,39] [(0,0),(1,1)]) ?_;simp only[decide_eq_true_eq];omega
    ·apply aJ;simp;refine⟨λh15=>?_,λh15=>?_⟩
     ·have q15:=hc15.1 h15;have ga:=sP (k:=k) hg;rw[hc8]at ga;have hlo:=Ap q ga.2;refine aP (λ|44=>some (.gen ⟨[(0,0)],[],[],dN (localP q).2,.d (.str (localP q).1)⟩)|_=>none) ?_;simp;refine⟨hlo,?_⟩;have e:=CY (ex:=ex) (p:=p) q12 q15;rw[hc8]at e;refine iH.trans (bN 1 [46] (fz:=false) (cs:=[.d (aI k),.d (.str s),.d (aI 0),.ow 46 0 1]) (ds:=[aI k,.str s,aI 0,.sl [(Nd.mk 33 (localP q).1 0 []).d]]) aM aM aM (by simp[bB.mut])) ?_;simp;exact aA hp [] [(0,0),(1,1)] (hH:=by simp[e])
     ·have q15:¬(k=16\/k=23):=λq=>by simp[hc15.2 q]at h15
      refine aY (ι:=BC) (λ⟨b⟩=>aR [(0,.bx 0 0),(1,.bx 1 0),(28,.d (aI k)),(49,.d (.bool b))]) (λ⟨b⟩=>aL [(0,.box false [.d (mQ q.l),.d (aI q.e)]),(1,.box false [.d (aI k),.d (.str s),.d (aI 0),.nl])]) (λ⟨b⟩=>b=true↔(k=19\/k=21\/k=25)) ?_ λ⟨b⟩ hc19=>?_
      ·apply aV;simp;refine⟨λh16=>?_,λh16=>?_⟩
       ·apply aF;simp;refine XG.mk ⟨decide (k=19)⟩ (aA hp [0,1,28,49] [(0,0),(1,1)]) ?_;simp[h16]
       ·apply aV;simp;refine⟨λh17=>?_,λh17=>?_⟩
        ·apply aF;simp;refine XG.mk ⟨decide (k=21)⟩ (aA hp [0,1,28,49] [(0,0),(1,1)]) ?_;simp[h17]
        ·apply aK;simp;refine XG.mk ⟨decide (k=25)⟩ (aA hp [0,1,28,49] [(0,0),(1,1)]) ?_;simp only[decide_eq_true_eq];omega
      ·apply aJ;simp;refine⟨λh19=>?_,λh19=>?_⟩
       ·have q19:=hc19.1 h19;have ga:=sP (k:=k) hg;rw[hc8]at ga;have hnu:=qF q k ga.2 hk;refine aP (λ|59=>some (.gen ⟨[(0,0)],[],[],dN (numeralP k q).2,.d (aI (numeralP k q).1)⟩)|_=>none) ?_;simp;refine⟨hnu,?_⟩;have e:=xN (ex:=ex) (p:=p) q12 q15 q19;rw[hc8]at e;refine iH.trans (bN 1 [] (fz:=false) (cs:=[.d (aI k),.d (.str s),.d (aI (numeralP k q).1),.nl]) (ds:=[aI k,.str s,aI (numeralP k q).1,.sl []]) aM aM aM (by simp[bB.mut])) ?_;simp;exact aA hp [] [(0,0),(1,1)] (hH:=by simp[e])
       ·have q19:¬(k=19\/k=21\/k=25):=λq=>by simp[hc19.2 q]at h19
        apply aF;simp;have e:=sQ (ex:=ex) (p:=p) q12 q15 q19;rw[hc8]at e;refine iH.trans (bN 1 [] (fz:=false) (cs:=[.d (aI k),.d (.str s),.d (aI 0),.nl]) (ds:=[aI k,.str s,aI 0,.sl []]) aM aM aM (by simp[bB.mut])) ?_;simp;exact aA hp [] [(0,0),(1,1)] (hH:=by simp[e])
end
theorem zC{α:Type}(q:α->Bool)(d:α):∀l:List α,(List.range l.length).find? (λi=>q (l.getD i d))=l.findIdx? q
 |[]=>rfl
 |x::l=>by
  have ih:=zC q d l;rw[List.length_cons,List.range_succ_eq_map,List.find?_cons,List.findIdx?_cons];have e:(x::l).getD 0 d=x:=rfl;rw[e];cases h:q x with
  |true=>simp
  |false=>
   simp only[List.find?_map];rw[<-ih];rfl
theorem Ye{s:aW}(h:¬s=[]):kindP s=nZ (λx=>decide (s=x)) wordsL:=by
 unfold kindP wordI nZ;rw[if_neg h];have e:=zC (λx=>decide (s=x)) [] wordsL;rw[show wordsL.length=26 from rfl]at e;rw[<-e];have e2:(λi=>decide (wordsL.getD i []=s))=λi=>decide (s=wordsL.getD i []):=by funext i;rw[decide_eq_decide];exact eq_comm
 rw[e2];rfl
theorem Av{s:aW}(h:s=[]):kindP s= -1:=by unfold kindP;rw[if_pos h]
theorem kP{p:PS}(h:0<=kindP p.peek):p.is p.peek=true:=eV.2 ⟨λe=>by rw[Av e]at h;omega,rfl⟩
theorem CZ{ex bl:PS->Nd×PS}{p:PS}{k:Int}(hk:kindP p.peek=k)(h:k=11)(he:(bl (ex (p.took p.peek)).2).2.is sElse=true):
 stmtB ex bl p=(.mk k [] 0 [(ex (p.took p.peek)).1,(bl (ex (p.took p.peek)).2).1,(bl ((bl (ex (p.took p.peek)).2).2.took sElse)).1],(bl ((bl (ex (p.took p.peek)).2).2.took sElse)).2):=by
 subst hk;rw[cH he];rw[cH (kP aE)]at he|-;unfold stmtB;simp only[];rw[if_pos aE,if_pos ⟨h,he⟩]
theorem PU{ex bl:PS->Nd×PS}{p:PS}{k:Int}(hk:kindP p.peek=k)(h:k=11\/k=12)(he:k=11->(bl (ex (p.took p.peek)).2).2.is sElse=false):
 stmtB ex bl p=(.mk k [] 0 [(ex (p.took p.peek)).1,(bl (ex (p.took p.peek)).2).1],(bl (ex (p.took p.peek)).2).2):=by
 subst hk;rw[cH (kP aE)]at he|-;unfold stmtB;simp only[];rw[if_pos h,if_neg (λq=>by rw[he q.1]at q;exact absurd q.2 aM)]
theorem IA{ex bl:PS->Nd×PS}{p:PS}{k:Int}(hk:kindP p.peek=k)(h:12<k):stmtB ex bl p=((cmdP ex k (p.took p.peek)).1,(cmdP ex k (p.took p.peek)).2.need [59]):=by
 subst hk;rw[cH (kP aE)];unfold stmtB;simp only[];rw[if_neg aE,if_pos h]
theorem Aw{ex bl:PS->Nd×PS}{p:PS}{k:Int}(hk:kindP p.peek=k)(h0:¬(k=11\/k=12))(h:¬12<k)(hd:p.peek.take 1=[36]):stmtB ex bl p=(.mk 9 (localP p).1 0 [(ex ((localP p).2.need [61])).1],(ex ((localP p).2.need [61])).2.need [59]):=by
 subst hk;unfold stmtB;simp only[];rw[if_neg h0,if_neg h];rw[(kO hd).1];rfl
theorem Ay{ex bl:PS->Nd×PS}{p:PS}{k:Int}(hk:kindP p.peek=k)(h0:¬(k=11\/k=12))(h:¬12<k)(hd:¬p.peek.take 1=[36]):stmtB ex bl p=(.mk 10 [] 0 [(placeP p).1,(ex ((placeP p).2.need [61])).1],(ex ((placeP p).2.need [61])).2.need [59]):=by
 subst hk;unfold stmtB;simp only[];rw[if_neg h0,if_neg h];split
 ·rename_i r e;rw[e]at hd;exact absurd rfl hd
 ·rfl
theorem iB{p:PS}{s:aW}:(p.need s).l.length<=p.l.length:=by
 unfold PS.need;split
 ·exact dZ
 ·rw[oI];exact Nat.le_refl _
theorem EF{m:Nat}{ex bl:PS->Nd×PS}(hs:Stk ex)(ht:Stk bl)(hx:Rt (m+1) isExprK ex)(hb:Rt m isBlockK bl):NV (m+1) (stmtB ex bl):=λp hl h _=>by
 by_cases he:(stmtB ex bl p).2.e=0
 ·right;obtain⟨k,hk⟩:∃k,kindP p.peek=k:=⟨_,rfl⟩;by_cases h1:k=11\/k=12
  ·have ip:=kP (p:=p) aE;have lp:=gE ip;rw[<-cH ip]at lp;have gp:=dY (s:=p.peek) h;obtain⟨e0,e1,_⟩:=hx (p.took p.peek) aE gp;obtain⟨b0,b1,_⟩:=hb (ex (p.took p.peek)).2 aE e1;by_cases h2:k=11/\(bl (ex (p.took p.peek)).2).2.is sElse=true
   ·rw[CZ hk h2.1 h2.2];have l2:=gE h2.2;rw[<-cH h2.2]at l2;obtain⟨c0,_,_⟩:=hb ((bl (ex (p.took p.peek)).2).2.took sElse) aE (dY b1);show(bl ((bl (ex (p.took p.peek)).2).2.took sElse)).2.l.length<p.l.length;omega
   ·rw[PU hk h1 (λq=>by
     cases z:(bl (ex (p.took p.peek)).2).2.is sElse with
     |false=>rfl
     |true=>exact absurd ⟨q,z⟩ h2)]
    show(bl (ex (p.took p.peek)).2).2.l.length<p.l.length;omega
  ·by_cases h3:12<k
   ·have ip:=kP (p:=p) aE;have lp:=gE ip;rw[<-cH ip]at lp;have gp:=dY (s:=p.peek) h;obtain⟨c0,_,_⟩:=PB (m:=m+1) hs hx (k:=k) (hk▸yR (s:=p.peek) aE) (p.took p.peek) aE gp;rw[IA hk h3];have:=iB (p:=(cmdP ex k (p.took p.peek)).2) (s:=[59]);show((cmdP ex k (p.took p.peek)).2.need [59]).l.length<p.l.length;omega
   ·by_cases h4:p.peek.take 1=[36]
    ·obtain⟨i1,i2⟩:=kO h4;have ip:p.is p.peek=true:=eV.2 ⟨λe=>(by rw[e]at h4;cases h4),rfl⟩;have lp:=gE ip;rw[<-cH ip]at lp;rw[Aw hk h1 h3 h4,i2];have n1:=iB (p:=p.took p.peek) (s:=[61]);obtain⟨e0,_,_⟩:=hx ((p.took p.peek).need [61]) aE (cA (dY h)).2;have n2:=iB (p:=(ex ((p.took p.peek).need [61])).2) (s:=[59]);show((ex ((p.took p.peek).need [61])).2.need [59]).l.length<p.l.length;omega
    ·rw[Ay hk h1 h3 h4]at he|-;have he:((ex ((placeP p).2.need [61])).2.need [59]).e=0:=he;have he2:=hs _ (need_e he).2;have he3:=(need_e he2).2;have pl:(placeP p).2.l.length<p.l.length:=by
      unfold placeP at he3|-;have nm:(nameP p).2.e=0->(nameP p).2.l.length<p.l.length:=λz=>by
       cases q:isNameB p.peek with
       |false=>rw[qE q]at z;exact absurd z (fail_e bC)
       |true=>
        have ip:p.is p.peek=true:=eV.2 ⟨λe=>(by rw[e]at q;cases q),rfl⟩;have lp:=gE ip;rw[tR q,cH ip];simp only;omega
      have ng:=cV h;split at he3
      ·rename_i z;rw[if_pos z];have z2:=nameP_stk _ he3;have z3:(nameP p).2.e=0:=z2;have ll:=(cV (p:=(nameP p).2.skip) (dB ng.2.1)).1;have l3:=dZ (p:=(nameP p).2);have:=nm z3;simp only;omega
      ·rename_i z;rw[if_neg z];exact nm he3
     have n1:=iB (p:=(placeP p).2) (s:=[61]);have pg:=(lV (p.l.length+1) p (Nat.lt_succ_self _) h).2.1;obtain⟨e0,_,_⟩:=hx ((placeP p).2.need [61]) aE (cA pg).2;have n2:=iB (p:=(ex ((placeP p).2.need [61])).2) (s:=[59]);show((ex ((placeP p).2.need [61])).2.need [59]).l.length<p.l.length;omega
 ·exact .inl he
section
attribute[local simp] kQ.cond Nd.d_eq nd_t nd_dr nd_td ndsD aZ bP dD dU Ar As At oI Iz
def Fs(T:List Tk)(n:Nat)(x:PS->Nd×PS):Prop:=∀q:PS,q.l.length<n->kF T q->kF T (x q).2/\(x q).2.l.length<=q.l.length
theorem kF.goodT{T:List Tk}{q:PS}(f:kF T q)(hg:bM T):bM q.l:=λt ht=>hg t (f.suf.mem ht)
theorem qH{p:PS}{w:aW}(h:p.is w=true):(p.took w).l.length+1=p.l.length:=by rw[cH h];exact gE h
theorem IB{p:PS}{w:aW}:(p.took w).l.length<=p.l.length:=by
 unfold PS.took;split
 ·exact dZ
 ·exact Nat.le_refl _
theorem Fs.place{T:List Tk}(hg:bM T)(n:Nat):Fs T n placeP:=λq h f=>⟨f.place,(lV n q h (f.goodT hg)).1⟩
theorem Fs.chainF{T:List Tk}{m:Nat}{lv:Int}{x:PS->Nd×PS}(hx:Fs T m x):∀(f:Nat) (n:Nd) (p:PS),p.l.length<m->kF T p->kF T (chainF lv x f n p).2/\(chainF lv x f n p).2.l.length<=p.l.length
 |0,_,p,_,hf=>⟨hf,Nat.le_refl _⟩
 |f+1,n,p,hm,hf=>by
  rw[Go.Eng.chainF];split
  ·exact⟨hf,Nat.le_refl _⟩
  ·split
   ·rename_i h;rw[GO h];exact⟨hf,Nat.le_refl _⟩
   ·rename_i h;have h':0<=opI lv p.peek:=by have:¬opI lv p.peek<0:=h;omega
    rw[zB h'];have l1:=qH (tS h').2.1;obtain⟨a1,a2⟩:=hx (p.took p.peek) aE hf.took;obtain⟨b1,b2⟩:=Fs.chainF (lv:=lv) hx f (.mk (26+(opI lv p.peek)) [] 0 [n,(x (p.took p.peek)).1]) (x (p.took p.peek)).2 aE a1;exact⟨b1,Nat.le_trans b2 aE⟩
theorem Az{T:List Tk}{m:Nat}{lv:Int}{x:PS->Nd×PS}(hx:Fs T m x):Fs T m (chainP lv x):=λq h f=>by
 obtain⟨a1,a2⟩:=hx q h f;obtain⟨b1,b2⟩:=Fs.chainF (lv:=lv) hx ((x q).2.l.length+1) (x q).1 (x q).2 aE a1;exact⟨b1,by unfold chainP;omega⟩
theorem Fs.fact{T:List Tk}(hg:bM T){n:Nat}{ex:PS->Nd×PS}(hx:Fs T n ex):Fs T (n+1) (factP ex):=λq h f=>by
 have gq:=f.goodT hg;unfold factP;split
 ·rename_i z;have hl:=gE z;obtain⟨a1,a2⟩:=hx q.skip aE f.skip;exact⟨a1.need,by have:=iB (p:=(ex q.skip).2) (s:=[41]);simp only;omega⟩
 ·split
  ·exact⟨f.skip,dZ⟩
  ·split
   ·split
    ·exact⟨f.numeral,(eR gq).1⟩
    ·split
     ·exact⟨f.local,(eE gq).1⟩
     ·exact Fs.place hg (n+1) q h f
   ·exact Fs.place hg (n+1) q h f
theorem Fs.exprB{T:List Tk}(hg:bM T){n:Nat}{ex:PS->Nd×PS}(hx:Fs T n ex):Fs T (n+1) (exprB ex):=λq h f=>by
 have hs:Fs T (n+1) (sumP ex):=Az (Az (Fs.fact hg hx));obtain⟨a1,a2⟩:=hs q h f;unfold Go.Eng.exprB;simp only[];by_cases z:0<=opI 1 (sumP ex q).2.peek
 ·rw[if_pos (show 0<=(opP 1 (sumP ex q).2).1 from z),zB z];have l1:=qH (tS z).2.1;obtain⟨b1,b2⟩:=hs ((sumP ex q).2.took (sumP ex q).2.peek) aE a1.took;exact⟨b1,by simp only;omega⟩
 ·rw[if_neg (show¬0<=(opP 1 (sumP ex q).2).1 from z),GO aE];exact⟨a1,a2⟩
theorem IC{T:List Tk}(hg:bM T):∀n,Fs T n (exprP true n)
 |0=>λq h _=>absurd h (Nat.not_lt_zero _)
 |n+1=>λq h f=>by
  rw[exprP];split
  ·exact⟨f,Nat.le_refl _⟩
  ·exact Fs.exprB hg (IC hg n) q h f
structure RR(s:aW)(T:List Tk)(n:Nat)(g:FuncId)(x:PS->Nd×PS):Prop where
 ok:∀q:PS,q.l.length<n->kF T q->iG prog g [.bx 0 0] (dU s T q) (dU s T (x q).2) (.d (x q).1.d)
 fs:Fs T n x
theorem Zm(s:aW):opI 3 s=if s=[42]then 5 else -1:=by
 by_cases h:s=[42]
 ·subst h;rfl
 ·rw[if_neg h];simp[opI,opsL,List.range,List.range.loop,Ne.symm h,h]
theorem VC(s:aW):opI 2 s=if s=[43]then 3 else if s=[45]then 4 else -1:=by
 by_cases h:s=[43]
 ·subst h;rfl
 ·rw[if_neg h];by_cases h2:s=[45]
  ·subst h2;rfl
  ·rw[if_neg h2];have a:=Ne.symm h;have b:=Ne.symm h2;simp[opI,opsL,List.range,List.range.loop,a,b]
theorem aAV(s:aW):opI 1 s=if s=[60]then 0 else if s=[60,61]then 1 else if s=[61,61]then 2 else -1:=by
 by_cases h:s=[60]
 ·subst h;rfl
 ·rw[if_neg h];by_cases h2:s=[60,61]
  ·subst h2;rfl
  ·rw[if_neg h2];by_cases h3:s=[61,61]
   ·subst h3;rfl
   ·rw[if_neg h3];have a:=Ne.symm h;have b:=Ne.symm h2;have c:=Ne.symm h3;simp[opI,opsL,List.range,List.range.loop,a,b,c]
theorem GR{lv:Int}{x:PS->Nd×PS}{f:Nat}{n:Nd}{q:PS}(hf:q.l.length<f)(h:opI lv q.peek<0):chainF lv x f n q=(n,q):=by
 by_cases e:q.e=0
 ·rw[EB hf e h,GO h]
 ·exact GP hf e
theorem KL{lv:Int}{x:PS->Nd×PS}{f:Nat}{n:Nd}{q:PS}(hf:q.l.length<f)(h:0<=opI lv q.peek):
 chainF lv x f n q=chainF lv x (f-1) (.mk (26+opI lv q.peek) [] 0 [n,(x (q.took q.peek)).1]) (x (q.took q.peek)).2:=by
 have hn:q.peek≠[]:=(eV.1 (tS h).2.1).1;rw[KH hf (Vy hn) h,zB h]
theorem Yf(w:aW):firstIs digitB w=true↔(¬w=[]/\digitB (w[0]?.getD 0)=true):=by
 cases w with
 |nil=>simp[firstIs]
 |cons c r=>simp[firstIs]
theorem GS(s:aW)(T:List Tk)(p:PS)(c:Aq s T)(f:kF T p):iG prog 237 [.bx 0 0] (dU s T p) (dU s T (placeP p).2) (.d (placeP p).1.d):=by
 unfold dU;refine iG.cell hT func237 bY (c:=_) rfl ntmps237 aM results237 λw0 X hp=>?_;apply aD;simp;refine cJ (λ|5=>some (.gen ⟨[(0,0)],[],[],dU s T (nameP p).2,.d (.str (nameP p).1)⟩)|_=>none) ?_;simp;refine⟨qG s T p c f,?_⟩;apply aG;refine cJ (λ|8=>some (.gen ⟨[(0,0)],[],[],dU s T ((nameP p).2.took [46]),.d (.bool ((nameP p).2.is [46]))⟩)|_=>none) ?_;simp;refine⟨vU s T (nameP p).2 c f.name [46] aM,?_⟩;apply aJ;simp;refine⟨λh2=>?_,λh2=>?_⟩
 ·apply aD;simp;have l1:=oZ (f.good c);have l2:=oZ (p:=(nameP p).2.took [46]) (f.name.took.good c);refine eW.rd [[0],[0],[0]] [[],[],[],[],[0],[],[],[3]] (λ|14=>some (.gen ⟨[(0,0)],[],[],dU s T (nameP ((nameP p).2.took [46])).2,.d (.str (nameP ((nameP p).2.took [46])).1)⟩)|_=>none) ?_;simp;refine⟨⟨⟨aE,qG s T _ c f.name.took⟩,aE⟩,?_⟩;apply aD;simp;apply aH;simp;have e:=GN h2;refine bA (x:=(placeP p).1.d) (by simp[e]) ?_;simp;exact aA hp [0] [(0,0)] (hH:=by simp[e])
 ·apply aF;simp;apply aD;simp;apply aH;simp;have e:=Ch h2;refine bA (x:=(placeP p).1.d) (by simp[e]) ?_;simp;exact aA hp [0] [(0,0)] (hH:=by simp[e])
theorem VD(s:aW)(T:List Tk)(c:Aq s T)(p:PS)(n:Nat)(ex:PS->Nd×PS)(hE:RR s T n 219 ex)(hn:p.l.length<n+1)(f:kF T p):iG prog 249 [.bx 0 0] (dU s T p) (dU s T (factP ex p).2) (.d (factP ex p).1.d):=by
 unfold dU;have hg:=f.good c;have htl:=mJ hg;refine iG.cell hT func249 bY (c:=_) rfl ntmps249 aM results249 λw0 X hp=>?_;apply aD;simp;apply aG;refine cJ (λ|6=>some (.gen ⟨[(0,0)],[],[],dU s T (p.took [40]),.d (.bool (p.is [40]))⟩)|_=>none) ?_;simp;refine⟨vU s T p c f [40] aM,?_⟩;apply aJ;simp;refine⟨λh1=>?_,λh1=>?_⟩
 ·apply aG;have hl:=qH h1;have hx:=hE.ok (p.took [40]) aE f.took;have fx:=(hE.fs (p.took [40]) aE f.took).1;refine aP (λ|8=>some (.gen ⟨[(0,0)],[],[],dU s T (ex (p.took [40])).2,.d (ex (p.took [40])).1.d⟩)|_=>none) ?_;simp;refine⟨by simpa using hx,?_⟩;apply aG;have hn4:=iI s T (ex (p.took [40])).2 c fx [41] aM;refine aP (λ|10=>some (.gen ⟨[(0,0)],[],[],dU s T ((ex (p.took [40])).2.need [41]),.tup []⟩)|_=>none) ?_;simp;refine⟨hn4,?_⟩;apply aD;simp;apply aH;simp;have e:=Ci (ex:=ex) h1;exact aA hp [0] [(0,0)] (by simp[e]) (by simp[e])
 ·have e2:p.took [40]=p:=gR (by simp[h1]);simp only[e2];apply aF;simp;apply aG;refine cJ (λ|13=>some (.gen ⟨[(0,0)],[],[],dU s T (p.took [107,105,110,100]),.d (.bool (p.is [107,105,110,100]))⟩)|_=>none) ?_;simp;refine⟨vU s T p c f [107,105,110,100] aM,?_⟩;apply aJ;simp;refine⟨λh5=>?_,λh5=>?_⟩
  ·apply aD;simp;apply aH;simp;have e:=EC (ex:=ex) h1 h5;refine bA (x:=(factP ex p).1.d) (by simp[e]) ?_;simp;exact aA hp [0] [(0,0)] (hH:=by simp[e,sKind])
  ·have e6:p.took [107,105,110,100]=p:=gR (by simp[h5]);simp only[e6];apply aF;simp;refine cJ (λ|16=>some (.gen ⟨[(0,0)],[],[],dU s T p,.d (.str p.peek)⟩)|_=>none) ?_;simp;refine⟨jK s T p c f,?_⟩;apply eA;have hd:=pJ p.peek 0 aE;refine aP (λ|18=>some<| .plain ⟨.d (.bool (firstIs digitB p.peek)),true⟩|_=>none) ?_;simp;refine⟨by simpa using hd,?_⟩;apply aJ;simp;refine⟨λh8=>?_,λh8=>?_⟩
   ·apply aG;have hnu:=jL s T p c f 32 0 999 (.inl rfl) rfl;refine aP (λ|20=>some (.gen ⟨[(0,0)],[],[],dU s T (numeralP 32 p).2,.d (aI (numeralP 32 p).1)⟩)|_=>none) ?_;simp;refine⟨hnu,?_⟩;apply aH;simp;have e:=Cj (ex:=ex) h1 h5 ((Yf _).1 h8).1 ((Yf _).1 h8).2;refine bA (x:=(factP ex p).1.d) (by simp[e]) ?_;simp;exact aA hp [0] [(0,0)] (hH:=by simp[e])
   ·apply aF;simp;apply aG;apply aV;simp;refine⟨λg1 g2=>?_,λg=>?_⟩
    ·apply aG;have hlo:=sN s T p c f;refine aP (λ|31=>some (.gen ⟨[(0,0)],[],[],dU s T (localP p).2,.d (.str (localP p).1)⟩)|_=>none) ?_;simp;refine⟨hlo,?_⟩;apply aH;simp;have g8:¬p.peek=[]->digitB (p.peek[0]?.getD 0)=false:=λa=>by
      cases e:digitB (p.peek[0]?.getD 0)with
      |false=>rfl
      |true=>rw[(Yf _).2 ⟨a,e⟩]at h8;cases h8
     have e:=Ck (ex:=ex) h1 h5 g8 (at0.2 ⟨aE,g2⟩);refine bA (x:=(factP ex p).1.d) (by simp[e]) ?_;simp;exact aA hp [0] [(0,0)] (hH:=by simp[e])
    ·apply aF;simp;apply aG;have hpl:=GS s T p c f;refine aP (λ|34=>some (.gen ⟨[(0,0)],[],[],dU s T (placeP p).2,.d (placeP p).1.d⟩)|_=>none) ?_;simp;refine⟨by simpa using hpl,?_⟩;apply aH;simp;have g8:¬p.peek=[]->digitB (p.peek[0]?.getD 0)=false:=λa=>by
      cases e:digitB (p.peek[0]?.getD 0)with
      |false=>rfl
      |true=>rw[(Yf _).2 ⟨a,e⟩]at h8;cases h8
     have e:=Cl (ex:=ex) h1 h5 g8 (λz=>by have:=at0.1 z;have:=g aE;omega);exact aA hp [0] [(0,0)] (by simp[e]) (by simp[e])
theorem RR.fact{s:aW}{T:List Tk}(c:Aq s T){n:Nat}{ex:PS->Nd×PS}(hE:RR s T n 219 ex):RR s T (n+1) 249 (factP ex):=
 ⟨λq hq f=>VD s T c q n ex hE hq f,Fs.fact c.hg hE.fs⟩
theorem VE(s:aW)(T:List Tk)(c:Aq s T)(p:PS)(n:Nat)(x:PS->Nd×PS)(hE:RR s T n 249 x)(hn:p.l.length<n)(f:kF T p):iG prog 246 [.bx 0 0] (dU s T p) (dU s T (chainP 3 x p).2) (.d (chainP 3 x p).1.d):=by
 unfold dU;refine iG.cell hT func246 bY (c:=_) rfl ntmps246 aM results246 λw0 X hp=>?_;apply aD;simp;apply aG;have hx:=hE.ok p hn f;have fx:=hE.fs p hn f;refine aP (λ|5=>some (.gen ⟨[(0,0)],[],[],dU s T (x p).2,.d (x p).1.d⟩)|_=>none) ?_;simp;refine⟨by simpa using hx,?_⟩;apply dH;refine aU (ι:=ChS) (λ⟨f,n,q⟩=>aR [(0,.bx 0 0),(2,.bx 2 0),(3,.bx 3 0)]) (λ⟨f,n,q⟩=>aL [(0,.box false [.d (.str s),.d (.sl (T.map Tk.r)),.d (aI ((T.length:Int)- q.l.length)),.d (.bool (!decide (q.e=0))),.d (.bool (decide (q.e=5)))]),(2,.box false [.d (aI 0),.d (.str []),.d (aI 0),.nl]),(3,.box false [.d (aI n.kind),.d (.str n.text),.d (aI n.n),.d (ndsD n.kids)])]) (λ⟨f,n,q⟩=>q.l.length<f/\kF T q/\q.l.length<=p.l.length/\chainP 3 x p=chainF 3 x f n q) (λ⟨f,n,q⟩=>q.l.length) ⟨(x p).2.l.length+1,(x p).1,(x p).2⟩ (aA hp [0,2,3] [(0,0),(2,2),(3,3)]) (⟨Nat.lt_succ_self _,fx.1,fx.2,rfl⟩) λ⟨f,n,q⟩ hi2=>?_;apply eA;have hi:=vU s T q c hi2.2.1 [42] aM;refine aP (λ|7=>some (.gen ⟨[(0,0)],[],[],dU s T (q.took [42]),.d (.bool (q.is [42]))⟩)|_=>none) ?_;simp;refine⟨hi,?_⟩;apply aJ;simp;refine⟨λh2=>?_,λh2=>?_⟩
 ·apply aF;simp;apply aO;have hl:=qH h2;have hpk:=(eV.1 h2).2;have i3:=hi2.2.2.1;have hx3:=hE.ok (q.took [42]) aE hi2.2.1.took;have fx3:=hE.fs (q.took [42]) aE hi2.2.1.took;refine eW.rd [[0]] [[],[],[0],[11],[],[3]] (λ|10=>some (.gen ⟨[(0,0)],[],[],dU s T (x (q.took [42])).2,.d (x (q.took [42])).1.d⟩)|_=>none) ?_;simp;refine⟨⟨by simpa using hx3,bC⟩,?_⟩;refine yN (bN 3 [11] (fz:=false) (cs:=[.d (aI 31),.d (.str []),.d (aI 0),.ow 11 0 2]) (ds:=[aI 31,.str [],aI 0,.sl [n.d,(x (q.took [42])).1.d]]) aM aM aM (by simp[bB.mut])) ?_;simp;refine Pq.mk ⟨f-1,.mk 31 [] 0 [n,(x (q.took [42])).1],(x (q.took [42])).2⟩ (aA hp [0,2,3] [(0,0),(2,2),(3,3)]) ?_ ?_
  ·have i1:=hi2.1;have i3:=hi2.2.2.1;refine⟨?_,fx3.1,?_,?_⟩
   ·show(x (q.took [42])).2.l.length<f-1;have:=fx3.2;omega
   ·show(x (q.took [42])).2.l.length<=p.l.length;have:=fx3.2;omega
   ·rw[hi2.2.2.2,KL hi2.1 (by rw[Zm,hpk];decide),hpk];rfl
  ·have:=fx3.2;show(x (q.took [42])).2.l.length<q.l.length;omega
 ·have e2:q.took [42]=q:=gR (by simp[h2]);simp only[e2];apply bE;simp;apply aD;simp;apply aH;simp;have hno:opI 3 q.peek<0:=by
   rw[Zm,if_neg (λz=>by rw[eV.2 ⟨aM,z⟩]at h2;cases h2)];decide
  have e:chainP 3 x p=(n,q):=by rw[hi2.2.2.2];exact GR hi2.1 hno
  exact aA hp [0] [(0,0)] (by simp[e]) (by simp[e])
theorem Sp{c:Prop}[Decidable c]{f:Nat->bB}{A:bB}{x:Nat}(h:f 0=A):bW f (if c then []else [(0,A)]) x=f x:=by
 by_cases hc:c
 ·rw[if_pos hc];rfl
 ·rw[if_neg hc];subst h;simp only[bW,cE];split
  ·rename_i e;rw[e]
  ·rfl
theorem RR.prod{s:aW}{T:List Tk}(c:Aq s T){n:Nat}{x:PS->Nd×PS}(hE:RR s T n 249 x):RR s T n 246 (chainP 3 x):=
 ⟨λq hq f=>VE s T c q n x hE hq f,Az hE.fs⟩
structure KC6 where
 k:Int
theorem PV{q:aW}:(q=[43]\/q=[45])↔0<=opI 2 q:=by
 rw[VC];by_cases h:q=[43]
 ·simp[h]
 ·by_cases h2:q=[45]
  ·simp[h2]
  ·simp[h,h2]
theorem Yg(s:aW)(T:List Tk)(c:Aq s T)(p:PS)(n:Nat)(x:PS->Nd×PS)(hE:RR s T n 246 x)(hn:p.l.length<n)(f:kF T p):iG prog 236 [.bx 0 0] (dU s T p) (dU s T (chainP 2 x p).2) (.d (chainP 2 x p).1.d):=by
 unfold dU;have htl:=c.ht;refine iG.cell hT func236 bY (c:=_) rfl ntmps236 aM results236 λw0 X hp=>?_;apply aD;simp;apply aG;have hx:=hE.ok p hn f;have fx:=hE.fs p hn f;refine aP (λ|6=>some (.gen ⟨[(0,0)],[],[],dU s T (x p).2,.d (x p).1.d⟩)|_=>none) ?_;simp;refine⟨by simpa using hx,?_⟩;apply dH;refine aU (ι:=ChS) (λ⟨f,n,q⟩=>aR [(0,.bx 0 0),(2,.bx 2 0),(3,.bx 3 0)]) (λ⟨f,n,q⟩=>aL [(0,.box false [.d (.str s),.d (.sl (T.map Tk.r)),.d (aI ((T.length:Int)- q.l.length)),.d (.bool (!decide (q.e=0))),.d (.bool (decide (q.e=5)))]),(2,.box false [.d (aI 0),.d (.str []),.d (aI 0),.nl]),(3,.box false [.d (aI n.kind),.d (.str n.text),.d (aI n.n),.d (ndsD n.kids)])]) (λ⟨f,n,q⟩=>q.l.length<f/\kF T q/\q.l.length<=p.l.length/\chainP 2 x p=chainF 2 x f n q) (λ⟨f,n,q⟩=>q.l.length) ⟨(x p).2.l.length+1,(x p).1,(x p).2⟩ (aA hp [0,2,3] [(0,0),(2,2),(3,3)]) (⟨Nat.lt_succ_self _,fx.1,fx.2,rfl⟩) λ⟨f,n,q⟩ hi2=>?_;apply eA;have hk:=jK s T q c hi2.2.1;refine aP (λ|8=>some (.gen ⟨[(0,0)],[],[],dU s T q,.d (.str q.peek)⟩)|12=>some (.gen ⟨[(0,0)],[],[],dU s T q,.d (.str q.peek)⟩)|_=>none) ?_;simp[Sp];refine⟨⟨hk,λ_=>hk⟩,?_⟩;apply aJ;simp;refine⟨λg=>?_,λg1 g2=>?_⟩
 ·have hop:=PV.1 g;have his:=(tS hop).2.1;have hne:=(eV.1 his).1;have hl:=qH his;have hsk:=rA (T:=T) hne;have hps:=hi2.2.1.pos hne;have i3:=hi2.2.2.1;have hx3:=hE.ok (q.took q.peek) aE hi2.2.1.took;have fx3:=hE.fs (q.took q.peek) aE hi2.2.1.took;apply aF;simp;apply aO;apply aD;simp;refine aY (ι:=KC6) (λ⟨k⟩=>aR [(0,.bx 0 0),(2,.bx 2 0),(3,.bx 3 0),(4,.d (aI k))]) (λ⟨k⟩=>aL [(0,.box false [.d (.str s),.d (.sl (T.map Tk.r)),.d (aI ((T.length:Int)- q.l.length)),.d (.bool (!decide (q.e=0))),.d (.bool (decide (q.e=5)))]),(2,.box false [.d (aI 0),.d (.str []),.d (aI 0),.nl]),(3,.box false [.d (aI n.kind),.d (.str n.text),.d (aI n.n),.d (ndsD n.kids)])]) (λ⟨k⟩=>k=26+opI 2 q.peek) ?_ λ⟨k⟩ hc6=>?_
  ·apply aG;have hk4:=jK s T q c hi2.2.1;refine aP (λ|16=>some (.gen ⟨[(0,0)],[],[],dU s T q,.d (.str q.peek)⟩)|_=>none) ?_;simp;refine⟨hk4,?_⟩;apply aJ;simp;refine⟨λh4=>?_,λh4=>?_⟩
   ·apply aK;simp;refine XG.mk ⟨30⟩ (aA hp [0,2,3,4] [(0,0),(2,2),(3,3)]) ?_;rw[VC,h4];decide
   ·apply aF;simp;refine XG.mk ⟨29⟩ (aA hp [0,2,3,4] [(0,0),(2,2),(3,3)]) ?_;rw[VC,if_pos (g.resolve_right h4)];decide
  ·apply aD;simp;refine⟨aE,?_⟩;simp only[<-hsk];refine eW.rd [[0,29],[0]] [[],[],[],[0],[29],[],[3]] (λ|28=>some (.gen ⟨[(0,0)],[],[],dU s T (x (q.took q.peek)).2,.d (x (q.took q.peek)).1.d⟩)|_=>none) ?_;simp;refine⟨⟨by simpa [cH his]using hx3,bC⟩,?_⟩;simp only[hc6];refine yN (bN 3 [29] (fz:=false) (cs:=[.d (aI (26+opI 2 q.peek)),.d (.str []),.d (aI 0),.ow 29 0 2]) (ds:=[aI (26+opI 2 q.peek),.str [],aI 0,.sl [n.d,(x (q.took q.peek)).1.d]]) aM aM aM (by simp[bB.mut])) ?_;simp;refine Pq.mk ⟨f-1,.mk (26+opI 2 q.peek) [] 0 [n,(x (q.took q.peek)).1],(x (q.took q.peek)).2⟩ (aA hp [0,2,3] [(0,0),(2,2),(3,3)]) ?_ ?_
   ·have i1:=hi2.1;have i3:=hi2.2.2.1;have:=fx3.2;refine⟨?_,fx3.1,?_,?_⟩
    ·show(x (q.took q.peek)).2.l.length<f-1;omega
    ·show(x (q.took q.peek)).2.l.length<=p.l.length;omega
    ·rw[hi2.2.2.2,KL hi2.1 hop]
   ·have:=fx3.2;show(x (q.took q.peek)).2.l.length<q.l.length;omega
 ·apply bE;simp;apply aD;simp;apply aH;simp;have hno:opI 2 q.peek<0:=by
   have z:¬0<=opI 2 q.peek:=λz=>(PV.2 z).elim g1 g2;omega
  have e:chainP 2 x p=(n,q):=by rw[hi2.2.2.2];exact GR hi2.1 hno
  exact aA hp [0] [(0,0)] (by simp[e]) (by simp[e])
theorem RR.sum{s:aW}{T:List Tk}(c:Aq s T){n:Nat}{x:PS->Nd×PS}(hE:RR s T n 246 x):RR s T n 236 (chainP 2 x):=
 ⟨λq hq f=>Yg s T c q n x hE hq f,Az hE.fs⟩
def zD:List aW:=[[60],[60,61],[61,61]]
theorem PW{i:Nat}(h:i<3):zD[i]?.getD []≠[]:=by
 match i,h with
 |0,_=>decide
 |1,_=>decide
 |2,_=>decide
theorem ZX{w:aW}{i:Nat}(h:i<3)(hw:w=zD[i]?.getD []):opI 1 w=i:=by
 subst hw
 match i,h with
 |0,_=>decide
 |1,_=>decide
 |2,_=>decide
theorem VF{w:aW}(h:∀j,j<3->w≠zD[j]?.getD []):opI 1 w<0:=by
 have a:w≠[60]:=h 0 bC;have b:w≠[60,61]:=h 1 bC;have d:w≠[61,61]:=h 2 bC;rw[aAV,if_neg a,if_neg b,if_neg d];decide
theorem VG(i:Nat)(h:i<3):([DV.str [60],DV.str [60,61],DV.str [61,61]]:List DV)[i]?.getD default=.str (zD[i]?.getD []):=by
 match i,h with
 |0,_=>rfl
 |1,_=>rfl
 |2,_=>rfl
theorem KM(s:aW)(T:List Tk)(c:Aq s T)(p:PS)(n:Nat)(ex:PS->Nd×PS)(hE:RR s T n 236 (sumP ex))(hn:p.l.length<n)(f:kF T p):iG prog 219 [.bx 0 0] (dU s T p) (dU s T (if p.e=0 then exprB ex p else(zeroNd,p)).2) (.d (if p.e=0 then exprB ex p else(zeroNd,p)).1.d):=by
 unfold dU;refine iG.cell hT func219 bY (c:=_) rfl ntmps219 aM results219 λw0 X hp=>?_;apply aD;simp;apply aG;apply aV;simp;refine⟨λh1=>?_,λh1=>?_⟩
 ·apply aD;simp;apply aH;simp;have e:(if p.e=0 then exprB ex p else(zeroNd,p))=(zeroNd,p):=if_neg h1;rw[e];refine bA (x:=zeroNd.d) (by simp[zeroNd]) ?_;simp;exact aA hp [0] [(0,0)]
 ·apply aF;simp;apply aG;have hx:=hE.ok p hn f;have fx:=hE.fs p hn f;refine aP (λ|12=>some (.gen ⟨[(0,0)],[],[],dU s T (sumP ex p).2,.d (sumP ex p).1.d⟩)|_=>none) ?_;simp;refine⟨by simpa using hx,?_⟩;apply aD;simp;refine⟨bC,?_⟩;apply dT;simp;apply aO;refine aU (ι:=Nat) (λi=>aR [(0,.bx 0 0),(2,.bx 2 0),(3,.bx 3 0),(4,.ow 13 0 3),(5,.d (aI i))]) (λi=>aL [(0,.box false [.d (.str s),.d (.sl (T.map Tk.r)),.d (aI ((T.length:Int)-(sumP ex p).2.l.length)),.d (.bool (!decide ((sumP ex p).2.e=0))),.d (.bool (decide ((sumP ex p).2.e=5)))]),(2,.box false [.d (aI 0),.d (.str []),.d (aI 0),.nl]),(3,.box false [.d (aI (sumP ex p).1.kind),.d (.str (sumP ex p).1.text),.d (aI (sumP ex p).1.n),.d (ndsD (sumP ex p).1.kids)]),(13,.row false 1 [.str [60],.str [60,61],.str [61,61]])]) (λi=>i<=3/\∀j,j<i->(sumP ex p).2.peek≠zD[j]?.getD []) (λi=>3-i) 0 (aA hp [0,2,3,4,5] [(0,0),(2,2),(3,3),(13,13)]) (⟨Nat.zero_le _,λj h=>absurd h (Nat.not_lt_zero j)⟩) λi hi6=>?_;apply aG;apply aV;simp;refine⟨λh6=>?_,λh6=>?_⟩
  ·apply aF;simp;apply dH;apply aG;have hi3:i<3:=aE;have hi:=vU s T (sumP ex p).2 c fx.1 (zD[i]?.getD []) (PW hi3);refine aP (λ|23=>some (.gen ⟨[(0,0)],[],[],dU s T ((sumP ex p).2.took (zD[i]?.getD [])),.d (.bool ((sumP ex p).2.is (zD[i]?.getD [])))⟩)|_=>none) ?_;simp[VG i hi3];refine⟨⟨aE,hi⟩,?_⟩;apply aJ;simp;refine⟨λh8=>?_,λh8=>?_⟩
   ·apply aG;have hpk:=(eV.1 h8).2;have hop:=ZX hi3 hpk;have hl:=qH h8;have hx9:=hE.ok ((sumP ex p).2.took (zD[i]?.getD [])) (by have:=fx.2;omega) fx.1.took;refine eW.rd [[0,29],[0,29],[0]] [[],[],[],[],[0],[29],[],[2]] (λ|28=>some (.gen ⟨[(0,0)],[],[],dU s T (sumP ex ((sumP ex p).2.took (zD[i]?.getD []))).2,.d (sumP ex ((sumP ex p).2.took (zD[i]?.getD []))).1.d⟩)|_=>none) ?_;simp;refine⟨⟨⟨aE,by simpa using hx9⟩,bC⟩,?_⟩;apply aH;simp;have e:(if p.e=0 then exprB ex p else(zeroNd,p))=exprB ex p:=if_pos h1;have e2:exprB ex p=(.mk (26+(i:Int)) [] 0 [(sumP ex p).1,(sumP ex ((sumP ex p).2.took (zD[i]?.getD []))).1],(sumP ex ((sumP ex p).2.took (zD[i]?.getD []))).2):=by
     rw[Bs (by rw[zB aE];show 0<=opI 1 _;omega),zB aE,hop,hpk]
    rw[e,e2];refine bA (x:=(Nd.mk (26+(i:Int)) [] 0 [(sumP ex p).1,(sumP ex ((sumP ex p).2.took (zD[i]?.getD []))).1]).d) aM ?_;simp;exact aA hp [0] [(0,0)]
   ·have e2:(sumP ex p).2.took (zD[i]?.getD [])=(sumP ex p).2:=gR (by simp[h8]);simp only[e2];apply aF;simp;apply aK;simp;refine⟨aE,?_⟩;refine Pq.mk (i+1) (aA hp [0,2,3,4,5] [(0,0),(2,2),(3,3),(13,13)]) ?_ ?_
    ·refine⟨aE,λj hj=>?_⟩;by_cases e:j=i
     ·subst e;exact λz=>by rw[eV.2 ⟨PW hi3,z⟩]at h8;cases h8
     ·exact hi6.2 j aE
    ·omega
  ·apply bE;simp;apply aD;simp;apply aH;simp;have e:(if p.e=0 then exprB ex p else(zeroNd,p))=exprB ex p:=if_pos h1;have hno:=VF (w:=(sumP ex p).2.peek) (λj hj=>hi6.2 j aE);have e2:exprB ex p=((sumP ex p).1,(sumP ex p).2):=by rw[Bt (by rw[GO hno];exact hno),GO hno]
   rw[e,e2];exact aA hp [0] [(0,0)]
theorem PX{s:aW}{T:List Tk}(c:Aq s T):∀n:Nat,RR s T n 219 (exprP true n)
 |0=>⟨λq h _=>absurd h (Nat.not_lt_zero _),λq h _=>absurd h (Nat.not_lt_zero _)⟩
 |n+1=>by
  have e:∀q,exprP true (n+1) q=if q.e=0 then exprB (exprP true n) q else(zeroNd,q):=λq=>by
   rw[exprP];by_cases h:q.e=0
   ·rw[if_neg (by simp[h]),if_pos h]
   ·rw[if_pos ⟨rfl,h⟩,if_neg h]
  refine⟨λq hq f=>?_,IC c.hg (n+1)⟩;rw[e];exact KM s T c q (n+1) (exprP true n) (((PX c n).fact c).prod c |>.sum c) hq f
end
end Go.Eng
