/- Part 7 of the proof. No condition. -/
import Derived.Test.YtjdlbidjlfllcaaGreatDoorMF
import Derived.Shelf.Strconv.Atoi
import Derived.Test.YtjdlbidjlfllcaaGreatDoorProg
open Go.Proofs
set_option linter.unusedVariables false
set_option linter.unusedSimpArgs false
set_option maxRecDepth 20000
set_option maxHeartbeats 4000000
namespace Go.Eng
section
attribute[local simp] jO.cond Nd.d_eq nd_t nd_dr nd_td ndsD aQ
theorem CY(p:UInt8->Bool)(s:aM)(i:Nat):firstIs p (s.drop i)=(decide (i<s.length)&&p (s[i]?.getD 0)):=by
 by_cases h:i<s.length
 ·rw[List.drop_eq_getElem_cons h,List.getElem?_eq_getElem h];simp[firstIs,h]
 ·rw[List.drop_eq_nil_of_le (by omega)];simp[firstIs,h]
theorem oT(s:aM)(i:Nat)(hl:s.length<=9223372036854775807):Ok Tryz.prog 92 [.str s,aG i] ⟨.d (.bool (firstIs letterB (s.drop i))),true⟩:=by
 refine aZ Tryz.func92 rfl Tryz.ntmps92 Tryz.results92 λw0 X hp=>?_;refine aA ?_;simp;refine aA ?_;simp;refine⟨λh _=>h,?_⟩;refine aF ?_;simp;rw[CY,wZ];simp[Bool.and_assoc]
theorem nX(s:aM)(i:Nat)(hl:s.length<=9223372036854775807):Ok Tryz.prog 93 [.str s,aG i] ⟨.d (.bool (firstIs digitB (s.drop i))),true⟩:=by
 refine aZ Tryz.func93 rfl Tryz.ntmps93 Tryz.results93 λw0 X hp=>?_;refine aA ?_;simp;refine aA ?_;simp;refine⟨λh _=>h,?_⟩;refine aF ?_;simp;rw[CY,Ac];simp[Bool.and_assoc]
def AY(s:aM)(i:Nat):Int:=if 0<wordN (s.drop i)then(i:Int)+wordN (s.drop i)else -1
def Yb(c:UInt8):Bool:=letterB c||digitB c
theorem CZ(p q:UInt8->Bool)(s:aM):(firstIs p s||firstIs q s)=firstIs (λc=>p c||q c) s:=by cases s<;>rfl
theorem IQ(s:aM):wordN s=if firstIs letterB s=true then(if runP Yb s<=16 then runP Yb s else 0)else 0:=by
 cases s with
 |nil=>rfl
 |cons c r=>rfl
theorem Al{p:UInt8->Bool}:∀{s:aM} {k:Nat},(∀m (h:m<k),firstIs p (s.drop m)=true)->firstIs p (s.drop k)=false->runP p s=k
 |[],0,_,_=>rfl
 |[],k+1,h,_=>by have:=h 0 (by omega);simp[firstIs]at this
 |c::r,0,_,h=>by
  have h:p c=false:=h;simp[runP,h]
 |c::r,k+1,h,h2=>by
  have h0:p c=true:=h 0 (by omega);simp only[runP,h0,if_true];rw[Al (s:=r) (k:=k) (λm hm=>h (m+1) (by omega)) h2]
theorem Wx{s:aM}{i k:Nat}(g:firstIs letterB (s.drop (i+k))=true\/firstIs digitB (s.drop (i+k))=true):i+k<s.length:=by
 refine Classical.byContradiction λq=>?_;rw[List.drop_eq_nil_of_le (by omega)]at g;rcases g with g|g<;>cases g
theorem Yc{s:aM}{i k:Nat}(g:firstIs letterB (s.drop (i+k))=true\/firstIs digitB (s.drop (i+k))=true):firstIs Yb (s.drop (i+k))=true:=by
 show firstIs (λc=>letterB c||digitB c) (s.drop (i+k))=true;rw[<-CZ];rcases g with g|g<;>simp[g]
def uH:List aM:=[[97,99,113,117,105,114,101],[97,108,108,111,99],[99,97,108,108],[99,104,97,110],[99,104,101,99,107],[100,114,97,119],[101,108,115,101],[102,105,108,101],[103,111],[105,102],[107,105,110,100],[108,111,99,107],[110,111,119],[112,114,111,99],[114,101,97,100],[114,101,99],[114,101,99,118],[114,101,108,101,97,115,101],[115,101,110,100],[115,108,101,101,112],[116,101,115,116],[118,97,114],[119,104,105,108,101],[119,114,105,116,101]]
theorem IR(s:aM)(i:Nat)(hi:i<=s.length)(hl:s.length<=9223372036854775000):Ok Tryz.prog 170 [.str s,aG i] ⟨.d (aG (AY s i)),true⟩:=by
 refine aZ Tryz.func170 rfl Tryz.ntmps170 Tryz.results170 λw0 X hp=>?_;refine aA ?_;simp;refine aD ?_;refine aD ?_;have h1:=oT s i (by omega);refine eF.ro hT hW (λ|8=>some<| .plain ⟨.d (.bool (firstIs letterB (s.drop i))),true⟩|_=>none) ?_;simp;refine⟨h1,?_⟩;refine aC ?_;simp;refine⟨λh1=>?_,λh1=>?_⟩
 ·refine aA ?_;simp;refine aF ?_;simp;unfold AY;have hw:wordN (s.drop i)=0:=by rw[IQ,if_neg (by simp[h1])]
  rw[hw,if_neg (by omega)]
 ·refine aE ?_;simp;refine aA ?_;simp;refine aD ?_;refine aH ?_;refine aR (ι:=Nat) (λk=>aO [(0,.d (.str s)),(1,.d (aG i)),(5,.d (aG ((i+k:Nat):Int)))]) (λk=>aI []) (λk=>i+k<=s.length/\∀m,m<k->firstIs Yb (s.drop (i+m))=true) (λk=>s.length-i-k) 0 (aB hp [0,1,5] []) (⟨by omega,λm h=>absurd h (Nat.not_lt_zero m)⟩) λk hi4=>?_;refine aD ?_;refine aD ?_;have h2:=oT s (i+k) (by omega);have h3:=nX s (i+k) (by omega);refine eF.ro hT hW (λ|13=>some<| .plain ⟨.d (.bool (firstIs letterB (s.drop (i+k)))),true⟩|17=>some<| .plain ⟨.d (.bool (firstIs digitB (s.drop (i+k)))),true⟩|_=>none) ?_;simp[-Int.natCast_add];refine⟨⟨h2,λ_=>h3⟩,?_⟩;refine aC ?_;simp;refine⟨λg4=>?_,λg5 g6=>?_⟩
  ·refine aE ?_;simp;refine aH ?_;refine aJ ?_;simp;refine⟨by omega,?_⟩;refine Nf.mk (k+1) (aB hp [0,1,5] [] (by simp[Int.add_assoc])) ?_ ?_
   ·have hlt:i+k<s.length:=Wx g4;refine⟨by omega,λm hm=>?_⟩;by_cases e:m=k
    ·rw[e];exact Yc g4
    ·exact hi4.2 m (by omega)
   ·have hlt:i+k<s.length:=Wx g4;omega
  ·refine bA ?_;simp;refine aD ?_;refine aD ?_;have hr:runP Yb (s.drop i)=k:=Al (λm hm=>by rw[List.drop_drop];exact hi4.2 m hm) (by
    rw[List.drop_drop];show firstIs (λc=>letterB c||digitB c) (s.drop (i+k))=false;rw[<-CZ,g5,g6];rfl)
   have hw:=IQ (s.drop i);rw[if_pos h1,hr]at hw;have hk0:0<k:=by
    rcases Nat.eq_zero_or_pos k with z|z
    ·rw[z]at g5;rw[Nat.add_zero,h1]at g5;cases g5
    ·exact z
   refine aJ ?_;simp;refine⟨by omega,?_⟩;refine aC ?_;simp;refine⟨λh6=>?_,λh6=>?_⟩
   ·refine aA ?_;simp;refine aF ?_;simp;unfold AY;have hw':wordN (s.drop i)=0:=by rw[hw,if_neg (by omega)]
    rw[hw',if_neg (by omega)]
   ·refine aE ?_;simp;refine aA ?_;simp;refine aF ?_;simp;unfold AY;have hw':wordN (s.drop i)=k:=by rw[hw,if_pos (by omega)]
    rw[hw',if_pos hk0]
theorem GK(c:UInt8)(r:aM):isNameB (c::r)=(letterB c&& !decide ((c::r)∈uH)):=by
 have h1:∀x∈uH,reservedB x=true:=by decide
 have h2:∀x∈sElse::sKind::wordsL,x≠[]->x∈uH:=by decide
 have e:reservedB (c::r)=decide ((c::r)∈uH):=by
  rw[Bool.eq_iff_iff,decide_eq_true_eq];refine⟨λh=>h2 _ ?_ (by simp),h1 _⟩;simp only[reservedB,Bool.or_eq_true,decide_eq_true_eq]at h;simp only[List.mem_cons];rcases h with(h|h)|h
  ·exact .inl h
  ·exact .inr (.inl h)
  ·exact .inr (.inr h)
 show(letterB c&& !reservedB (c::r))=_;rw[e]
theorem Am(l:List aM)(w:aM):Ok Tryz.prog 24 [jD l,.str w] ⟨.d (.bool (decide (w∈l))),true⟩:=by
 refine aZ Tryz.func24 rfl Tryz.ntmps24 Tryz.results24 λw0 X hp=>?_;refine eF.len (t:=0) rfl λhlen=>?_;simp at hlen;refine aA ?_;simp;refine aD ?_;refine aA ?_;simp;refine aH ?_;refine aR (ι:=Nat) (λi=>aO [(0,.d (jD l)),(1,.d (.str w)),(5,.d (aG i))]) (λi=>aI []) (λi=>i<=l.length/\w∉l.take i) (λi=>l.length-i) 0 (aB hp [0,1,5] []) (⟨Nat.zero_le _,by simp⟩) λi hi2=>?_;refine aD ?_;refine aA ?_;simp;refine aC ?_;simp;refine⟨λh2=>?_,λh2=>?_⟩
 ·refine aE ?_;simp;refine aD ?_;refine aH ?_;refine aD ?_;have hi:i<l.length:=by omega
  refine aJ ?_;simp[hi];refine aC ?_;simp;refine⟨λh4=>?_,λh4=>?_⟩
  ·refine aA ?_;simp;refine aF ?_;simp;rw[<-h4];exact(List.getElem_mem hi)
  ·refine aE ?_;simp;refine aJ ?_;simp;refine⟨by omega,?_⟩;refine Nf.mk (i+1) (aB hp [0,1,5] []) ?_ ?_
   ·refine⟨by omega,?_⟩;have hi:i<l.length:=by omega
    rw[<-List.take_append_getElem hi];simp only[List.mem_append,List.mem_singleton,not_or];exact⟨hi2.2,λe=>h4 e.symm⟩
   ·omega
 ·refine bA ?_;simp;refine aA ?_;simp;refine aF ?_;simp;have e:=hi2.2;rw[List.take_of_length_le (by omega)]at e;exact e
theorem PQ:Ok Tryz.prog 202 [] ⟨.d (jD uH),true⟩:=by
 refine aZ Tryz.func202 rfl Tryz.ntmps202 Tryz.results202 λw0 X hp=>?_;refine aA ?_;simp;refine aA ?_;simp;refine⟨by decide,?_⟩;refine aF ?_;simp;rfl
theorem LL(s:aM)(hl:s.length<=9223372036854775807):Ok Tryz.prog 171 [.str s] ⟨.d (.bool (isNameB s)),true⟩:=by
 refine aZ Tryz.func171 rfl Tryz.ntmps171 Tryz.results171 λw0 X hp=>?_;refine aA ?_;simp;refine aD ?_;have h1:=oT s 0 hl;have h2:=PQ;have h3:=Am uH s;refine eF.ro hT hW (λ|4=>some<| .plain ⟨.d (.bool (firstIs letterB s)),true⟩|6=>some<| .plain ⟨.d (jD uH),true⟩|8=>some<| .plain ⟨.d (.bool (decide (s∈uH))),true⟩|_=>none) ?_;simp;refine⟨⟨⟨by simpa using h1,λ_=>h2⟩,λ_=>h3⟩,?_⟩;refine aF ?_;simp;cases s with
 |nil=>rfl
 |cons c r=>rw[GK];rfl
end
section
attribute[local simp] jO.cond Nd.d_eq nd_t nd_dr nd_td ndsD aQ
theorem SU{k:Nat}(h:k<11):(([40,41,123,125,61,43,45,42,60,59,46]:aM)[k]?.getD 0)∈signs:=by
 have e:([40,41,123,125,61,43,45,42,60,59,46]:aM)=signs:=rfl;rw[e,List.getElem?_eq_getElem h,Option.getD_some];exact List.getElem_mem h
theorem Xh{a b:UInt8}:((a.toNat:Int)=(b.toNat:Int))↔a=b:=by
 rw[<-UInt8.toNat_inj];omega
theorem IS(c:UInt8):Ok Tryz.prog 94 [.int .u8 (c.toNat:Int)] ⟨.d (.bool (decide (c∈signs))),true⟩:=by
 refine aZ Tryz.func94 rfl Tryz.ntmps94 Tryz.results94 λw0 X hp=>?_;refine aA ?_;simp;refine aA ?_;simp;refine aD ?_;refine aA ?_;simp;refine aH ?_;refine aR (ι:=Nat) (λi=>aO [(0,.d (.int .u8 (c.toNat:Int))),(3,.d (.str [40,41,123,125,61,43,45,42,60,59,46])),(4,.d (aG i))]) (λi=>aI []) (λi=>i<=11/\c∉signs.take i) (λi=>11-i) 0 (aB hp [0,3,4] []) (⟨Nat.zero_le _,by simp⟩) λi hi3=>?_;refine aD ?_;refine aA ?_;simp;refine aC ?_;simp;refine⟨λh3=>?_,λh3=>?_⟩
 ·refine aE ?_;simp;refine aD ?_;refine aH ?_;refine aD ?_;have hk:i<11:=by omega
  have hk2:i<signs.length:=hk;refine aJ ?_;simp;refine⟨by omega,?_⟩;refine aC ?_;simp;refine⟨λh5=>?_,λh5=>?_⟩
  ·refine aA ?_;simp;refine aF ?_;simp;have e:=SU hk;rw[Xh.1 h5]at e;exact e
  ·refine aE ?_;simp;refine aJ ?_;simp;refine⟨by omega,?_⟩;refine Nf.mk (i+1) (aB hp [0,3,4] []) ?_ ?_
   ·refine⟨by omega,?_⟩;have hi:i<signs.length:=hk;rw[<-List.take_append_getElem hi];simp only[List.mem_append,List.mem_singleton,not_or];refine⟨hi3.2,λe=>h5 ?_⟩;rw[e];rw[show([40,41,123,125,61,43,45,42,60,59,46]:aM)=signs from rfl,List.getElem?_eq_getElem hi];rfl
   ·omega
 ·refine bA ?_;simp;refine aA ?_;simp;refine aF ?_;simp;have e:=hi3.2;rw[List.take_of_length_le (by show 11<=i;omega)]at e;exact e
theorem LM(c:UInt8):IntKind.i64.wrap (c.toNat:Int)=c.toNat:=by
 have:=c.toNat_lt;unfold IntKind.wrap;simp[IntKind.bits,IntKind.signed];split<;>omega
theorem Fg:∀s:aM,s.length<=3-> -100000<=valS s/\valS s<=100000
 |[],_=>by simp[valS]
 |[a],_=>by have:=a.toNat_lt;simp only[valS,List.foldl_cons,List.foldl_nil];omega
 |[a,b],_=>by have:=a.toNat_lt;have:=b.toNat_lt;simp only[valS,List.foldl_cons,List.foldl_nil];omega
 |[a,b,c],_=>by have:=a.toNat_lt;have:=b.toNat_lt;have:=c.toNat_lt;simp only[valS,List.foldl_cons,List.foldl_nil];omega
 |_::_::_::_::_,h=>by simp at h
theorem SV{s:aM}{k:Nat}(h:k<s.length):valS (s.take (k+1))=10*valS (s.take k)+(((s[k]?.getD 0).toNat:Int)- 48):=by
 rw[<-List.take_append_getElem h,List.getElem?_eq_getElem h];unfold valS;rw[List.foldl_append];rfl
theorem Vj:valS []=0:=rfl
attribute[local simp] Vj
theorem PR(s:aM)(hl:s.length<=3):Ok Tryz.prog 173 [.str s] ⟨.d (aG (valS s)),true⟩:=by
 refine aZ Tryz.func173 rfl Tryz.ntmps173 Tryz.results173 λw0 X hp=>?_;refine aA ?_;simp;refine aA ?_;simp;refine aD ?_;refine aA ?_;simp;refine aH ?_;refine aR (ι:=Nat) (λi=>aO [(0,.d (.str s)),(3,.d (aG (valS (s.take i)))),(4,.d (aG i))]) (λi=>aI []) (λi=>i<=s.length) (λi=>s.length-i) 0 (aB hp [0,3,4] []) ((Nat.zero_le _)) λi hi3=>?_;refine aD ?_;refine aA ?_;simp;refine aC ?_;simp;refine⟨λh3=>?_,λh3=>?_⟩
 ·refine aE ?_;simp;refine aD ?_;refine aH ?_;have hk:i<s.length:=by omega
  have hv:=SV hk;have b1:=Fg (s.take i) (by rw[List.length_take];omega);have b2:=Fg (s.take (i+1)) (by rw[List.length_take];omega);have b3:=(s[i]?.getD 0).toNat_lt;have hw:=LM (s[i]?.getD 0);refine aJ ?_;simp[hw];refine⟨⟨⟨⟨by omega,by omega⟩,by omega⟩,by omega⟩,?_⟩;refine aJ ?_;simp;refine⟨by omega,?_⟩;refine Nf.mk (i+1) (aB hp [0,3,4] [] (by simp[hv,Int.add_sub_assoc])) ?_ ?_
  ·omega
  ·omega
 ·refine bA ?_;simp;refine aA ?_;simp;refine aF ?_;simp;rw[List.take_of_length_le (by omega)]
def qY(s:aM)(i:Nat):Int:=if 0<nextN (s.drop i)then(i:Int)+nextN (s.drop i)else -1
theorem YW{c:UInt8}:((c.toNat:Int)=61)↔c=61:=by
 rw[<-UInt8.toNat_inj];have:(61:UInt8).toNat=61:=rfl;omega
theorem u60{c:UInt8}:((c.toNat:Int)=60)↔c=60:=by
 rw[<-UInt8.toNat_inj];have:(60:UInt8).toNat=60:=rfl;omega
theorem SW{p:UInt8->Bool}{s:aM}{i k:Nat}(h:∀m,m<k->firstIs p (s.drop (i+m))=true)(h2:firstIs p (s.drop (i+k))=false):runP p (s.drop i)=k:=
 Al (λm hm=>by rw[List.drop_drop];exact h m hm) (by rw[List.drop_drop];exact h2)
theorem GL{s:aM}{i:Nat}{c:UInt8}(hi:i<s.length)(hd:s.drop i=c::s.drop (i+1))(hg:s[i]?.getD 0=c):
 ((s.drop i).take 2=[60,61]\/(s.drop i).take 2=[61,61])↔((i:Int)+1<s.length/\((s[i+1]?.getD 0).toNat:Int)=61/\(((s[i]?.getD 0).toNat:Int)=60\/((s[i]?.getD 0).toNat:Int)=61)):=by
 rw[hg,hd,mS,mS,u60,YW,YW];by_cases h:i+1<s.length
 ·rw[List.drop_eq_getElem_cons h,List.getElem?_eq_getElem h];simp only[List.take_succ_cons,List.take_zero,List.cons.injEq,and_true,Option.getD_some];constructor
  ·rintro(⟨e1,e2⟩|⟨e1,e2⟩)
   ·exact⟨by omega,e2,.inl e1⟩
   ·exact⟨by omega,e2,.inr e1⟩
  ·rintro⟨_,e2,e1|e1⟩
   ·exact .inl ⟨e1,e2⟩
   ·exact .inr ⟨e1,e2⟩
 ·rw[List.drop_eq_nil_of_le (by omega)];simp;omega
theorem SX(s:aM)(i:Nat)(hi:i<s.length)(hl:s.length<=1000000000):Ok Tryz.prog 135 [.str s,aG i] ⟨.d (aG (qY s i)),true⟩:=by
 refine aZ Tryz.func135 rfl Tryz.ntmps135 Tryz.results135 λw0 X hp=>?_;have hd:=List.drop_eq_getElem_cons hi;have hg:s[i]?.getD 0=s[i]:=by rw[List.getElem?_eq_getElem hi];rfl
 generalize s[i]=c at hd hg;have he:=jT c (s.drop (i+1));rw[<-hd]at he;refine aA ?_;simp;refine aD ?_;refine aD ?_;have h1:=oT s i (by omega);rw[hd]at h1;refine eF.ro hT hW (λ|8=>some<| .plain ⟨.d (.bool (letterB c)),true⟩|_=>none) ?_;simp;refine⟨h1,?_⟩;refine aC ?_;simp;refine⟨λh1=>?_,λh1=>?_⟩
 ·refine aD ?_;have w1:=IR s i (by omega) (by omega);refine eF.ro hT hW (λ|11=>some<| .plain ⟨.d (aG (AY s i)),true⟩|_=>none) ?_;simp;refine⟨w1,?_⟩;refine aF ?_;simp;have e:nextN (s.drop i)=wordN (s.drop i):=by rw[he,if_pos h1]
  unfold AY qY;rw[e]
 ·refine aE ?_;simp;refine aD ?_;refine aA ?_;simp[hg];refine⟨by omega,?_⟩;refine aC ?_;simp;refine⟨λh3=>?_,λh3=>?_⟩
  ·refine aD ?_;have w4:=IR s (i+1) (by omega) (by omega);refine eF.ro hT hW (λ|19=>some<| .plain ⟨.d (aG (AY s (i+1))),true⟩|_=>none) ?_;simp;refine⟨⟨by omega,by simpa using w4⟩,?_⟩;refine aF ?_;simp;have e:nextN (s.drop i)=if 0<wordN (s.drop (i+1))then wordN (s.drop (i+1))+1 else 0:=by rw[he,if_neg (by simp[h1]),if_pos (NF.1 h3)]
   unfold AY qY;rw[e];by_cases z:0<wordN (s.drop (i+1))
   ·rw[if_pos z,if_pos z,if_pos (by omega)];omega
   ·rw[if_neg z,if_neg z,if_neg (by omega)]
  ·refine aE ?_;simp;refine aD ?_;refine aD ?_;have w5:=nX s i (by omega);rw[hd]at w5;refine eF.ro hT hW (λ|22=>some<| .plain ⟨.d (.bool (digitB c)),true⟩|_=>none) ?_;simp;refine⟨w5,?_⟩;refine aC ?_;simp;refine⟨λh5=>?_,λh5=>?_⟩
   ·refine aA ?_;simp;refine aD ?_;refine aH ?_;refine aR (ι:=Nat) (λk=>aO [(0,.d (.str s)),(1,.d (aG i)),(5,.d (aG ((i+k:Nat):Int)))]) (λk=>aI []) (λk=>i+k<=s.length/\∀m,m<k->firstIs digitB (s.drop (i+m))=true) (λk=>s.length-i-k) 0 (aB hp [0,1,5] []) (⟨by omega,λm h=>absurd h (Nat.not_lt_zero m)⟩) λk hi7=>?_;refine aD ?_;refine aD ?_;have w7:=nX s (i+k) (by omega);refine eF.ro hT hW (λ|26=>some<| .plain ⟨.d (.bool (firstIs digitB (s.drop (i+k)))),true⟩|_=>none) ?_;simp[-Int.natCast_add];refine⟨w7,?_⟩;refine aC ?_;simp;refine⟨λh7=>?_,λh7=>?_⟩
    ·refine aE ?_;simp;refine aH ?_;refine aJ ?_;simp;refine⟨by omega,?_⟩;refine Nf.mk (k+1) (aB hp [0,1,5] [] (by simp[Int.add_assoc])) ?_ ?_
     ·have hlt:i+k<s.length:=Classical.byContradiction λq=>by rw[List.drop_eq_nil_of_le (by omega)]at h7;cases h7
      refine⟨by omega,λm hm=>?_⟩;by_cases e:m=k
      ·rw[e];exact h7
      ·exact hi7.2 m (by omega)
     ·have hlt:i+k<s.length:=Classical.byContradiction λq=>by rw[List.drop_eq_nil_of_le (by omega)]at h7;cases h7
      omega
    ·refine bA ?_;simp;refine aD ?_;refine aD ?_;have hr:=SW hi7.2 h7;refine aJ ?_;simp;refine⟨by omega,?_⟩;refine aC ?_;simp;refine⟨λh9=>?_,λh9=>?_⟩
     ·refine aA ?_;simp;refine aF ?_;simp;have e:nextN (s.drop i)=0:=by rw[he,if_neg (by simp[h1]),if_neg (λe=>h3 (NF.2 e)),if_pos h5,hr,if_neg (by omega)]
      unfold qY;rw[e,if_neg (by omega)]
     ·refine aE ?_;simp;refine aA ?_;simp;refine aF ?_;simp;have h0:0<k:=by
       rcases Nat.eq_zero_or_pos k with z|z
       ·rw[z,Nat.add_zero,hd]at h7;exact absurd h5 (by rw[show digitB c=false from h7];simp)
       ·exact z
      have e:nextN (s.drop i)=k:=by rw[he,if_neg (by simp[h1]),if_neg (λe=>h3 (NF.2 e)),if_pos h5,hr,if_pos (by omega)]
      unfold qY;rw[e,if_pos h0]
   ·refine aE ?_;simp;refine aD ?_;refine aA ?_;simp;refine⟨⟨⟨⟨by omega,λ_=>by omega⟩,λ_=>by omega⟩,by omega⟩,?_⟩;refine aC ?_;simp;refine⟨λg1 g2 g3=>?_,λg=>?_⟩
    ·refine aA ?_;simp;refine⟨by omega,?_⟩;refine aF ?_;simp;have e:nextN (s.drop i)=2:=by rw[he,if_neg (by simp[h1]),if_neg (λe=>h3 (NF.2 e)),if_neg (by simp[h5]),if_pos ((GL hi hd hg).2 ⟨g1,g2,g3⟩)]
     unfold qY;rw[e,if_pos (by decide)];rfl
    ·refine aE ?_;simp;refine aD ?_;refine aD ?_;have w14:=IS c;refine eF.ro hT hW (λ|63=>some<| .plain ⟨.d (.bool (decide (c∈signs))),true⟩|_=>none) ?_;simp[hg];refine⟨⟨by omega,w14⟩,?_⟩;refine aC ?_;simp;refine⟨λh14=>?_,λh14=>?_⟩
     ·refine aA ?_;simp;refine⟨by omega,?_⟩;refine aF ?_;simp;have e:nextN (s.drop i)=1:=by rw[he,if_neg (by simp[h1]),if_neg (λe=>h3 (NF.2 e)),if_neg (by simp[h5]),if_neg (λz=>by have z:=(GL hi hd hg).1 z;exact z.2.2.elim (g z.1 z.2.1).1 (g z.1 z.2.1).2),if_pos h14]
      unfold qY;rw[e,if_pos (by decide)];rfl
     ·refine aE ?_;simp;refine aA ?_;simp;refine aF ?_;simp;have e:nextN (s.drop i)=0:=by rw[he,if_neg (by simp[h1]),if_neg (λe=>h3 (NF.2 e)),if_neg (by simp[h5]),if_neg (λz=>by have z:=(GL hi hd hg).1 z;exact z.2.2.elim (g z.1 z.2.1).1 (g z.1 z.2.1).2),if_neg h14]
      unfold qY;rw[e,if_neg (by decide)]
end
section
attribute[local simp] jO.cond Nd.d_eq nd_t nd_dr nd_td ndsD aQ
theorem sF:∀(f:Nat) (s:aM) (i:Int),s.length<=f->scanF f s i=scanF s.length s i
 |0,s,i,h=>by
  have:s=[]:=List.eq_nil_of_length_eq_zero (by omega);subst this;rfl
 |f+1,[],i,_=>by simp[scanF]
 |f+1,c::r,i,h=>by
  have e1:=sF f r (i+1) (by simpa using h);simp only[List.length_cons,scanF];by_cases q:c=32\/c=10
  ·rw[if_pos q,if_pos q,e1]
  ·rw[if_neg q,if_neg q];by_cases z:nextN (c::r)=0
   ·rw[if_pos z,if_pos z]
   ·rw[if_neg z,if_neg z];have hl:((c::r).drop (nextN (c::r))).length<=r.length:=by rw[List.length_drop,List.length_cons];omega
    have h':r.length<=f:=by simpa using h
    have e2:=sF f ((c::r).drop (nextN (c::r))) (i+nextN (c::r)) (by omega);have e3:=sF r.length ((c::r).drop (nextN (c::r))) (i+nextN (c::r)) hl;rw[e2,e3]
termination_by f _ _ _=>f
def mT(s:aM)(k:Nat):List Tk×Int:=scanF (s.drop k).length (s.drop k) k
theorem Fh{s:aM}{k:Nat}(h:s.length<=k):mT s k=([],(k:Int)):=by
 unfold mT;rw[List.drop_eq_nil_of_le h];rfl
theorem AZ{s:aM}{k:Nat}(h:k<s.length)(hc:s[k]=32\/s[k]=10):mT s k=mT s (k+1):=by
 unfold mT;rw[List.drop_eq_getElem_cons h,List.length_cons,scanF,if_pos hc];rfl
theorem Da{s:aM}{k:Nat}(h:k<s.length)(hc:¬(s[k]=32\/s[k]=10))(hn:nextN (s.drop k)=0):mT s k=([],(k:Int)):=by
 unfold mT;rw[List.drop_eq_getElem_cons h]at hn|-;rw[List.length_cons,scanF,if_neg hc,if_pos hn]
theorem Fi{s:aM}{k:Nat}(h:k<s.length)(hc:¬(s[k]=32\/s[k]=10))(hn:nextN (s.drop k)≠0):
 mT s k=(⟨(s.drop k).take (nextN (s.drop k)),k⟩::(mT s (k+nextN (s.drop k))).1,(mT s (k+nextN (s.drop k))).2):=by
 have hl:=uB (s.drop k);have e:(s.drop k).drop (nextN (s.drop k))=s.drop (k+nextN (s.drop k)):=by rw[List.drop_drop]
 unfold mT;rw[<-e];generalize hm:nextN (s.drop k)=m at hn hl e|-;rw[List.drop_eq_getElem_cons h]at hm hl|-;rw[List.length_cons,scanF,if_neg hc,if_neg (by rw[hm];exact hn),hm];rw[sF _ _ _ (by rw[List.length_drop,List.length_cons];omega)]
 push_cast
 rfl
theorem Wy{c:UInt8}{n:Nat}(hn:n<256):((c.toNat:Int)=n)↔c=UInt8.ofNat n:=by
 rw[<-UInt8.toNat_inj];have:(UInt8.ofNat n).toNat=n:=by simp[UInt8.toNat_ofNat'];omega
 omega
theorem vZ{s:aM}{k:Nat}(hk:k<s.length):(((s[k]?.getD 0).toNat:Int)=32\/((s[k]?.getD 0).toNat:Int)=10)↔(s[k]=32\/s[k]=10):=by
 rw[List.getElem?_eq_getElem hk,Option.getD_some];have e1:=Wy (c:=s[k]) (n:=32) (by decide);have e2:=Wy (c:=s[k]) (n:=10) (by decide);exact⟨λq=>q.imp e1.1 e2.1,λq=>q.imp e1.2 e2.2⟩
theorem GM(s:aM)(k n:Nat):List.drop k (List.take ((k:Int)+(n:Int)).toNat s)=List.take n (List.drop k s):=by
 rw[show((k:Int)+(n:Int)).toNat=k+n by omega,List.drop_take,show k+n-k=n by omega]
structure YX where
 k:Nat
 L:List Tk
 deriving Inhabited
theorem SY(s:aM)(hl:s.length<=1000000000):Ok Tryz.prog 72 [.str s] ⟨.tup [.own 2 ((scanS s).1.map Tk.d),.d (aG (scanS s).2)],true⟩:=by
 refine Ok.two Tryz.func72 (by kernel_rfl) (c:=_) rfl Tryz.ntmps72 (by simp) Tryz.results72 rfl λw0 X hp=>?_;refine aA ?_;simp;refine eF.scope ?_;refine aA ?_;simp;refine aA ?_;simp;refine aD ?_;refine eF.label ?_;simp;refine aD ?_;refine aH ?_;refine aR (ι:=YX) (λ⟨k,L⟩=>aO [(0,.d (.str s)),(4,.ow 4 0 L.length),(5,.d (aG k))]) (λ⟨k,L⟩=>aI [(4,.row false 2 (L.map Tk.d))]) (λ⟨k,L⟩=>L.length<=k/\k<=s.length/\scanS s=(L++(mT s k).1,(mT s k).2)) (λ⟨k,L⟩=>s.length-k) ⟨0,[]⟩ (aB hp [0,4,5] [(4,4)]) (⟨Nat.le_refl _,Nat.zero_le _,by simp[mT,scanS]⟩) λ⟨k,L⟩ hi3=>?_;refine aD ?_;refine aA ?_;simp;refine aC ?_;simp;refine⟨λh3=>?_,λh3=>?_⟩
 ·refine aE ?_;simp;refine aH ?_;refine aD ?_;refine aD ?_;have hk:k<s.length:=by omega
  refine aJ ?_;simp;refine⟨hk,?_⟩;refine aH ?_;refine aP (ι:=BC) (λ⟨b⟩=>aO [(0,.d (.str s)),(4,.ow 4 0 L.length),(5,.d (aG k)),(14,.d (.bool b))]) (λ⟨b⟩=>aI [(4,.row false 2 (L.map Tk.d))]) (λ⟨b⟩=>b=true↔(((s[k]?.getD 0).toNat:Int)=32\/((s[k]?.getD 0).toNat:Int)=10)) ?_ λ⟨b⟩ hc7=>?_
  ·refine aA ?_;simp;refine aC ?_;simp;refine⟨λh5=>?_,λh5=>?_⟩
   ·refine aE ?_;simp;refine UV.mk ⟨decide (((s[k]?.getD 0).toNat:Int)=32)⟩ (aB hp [0,4,5,14] [(4,4)]) ?_;simp[h5]
   ·refine aJ ?_;simp;refine UV.mk ⟨decide (((s[k]?.getD 0).toNat:Int)=10)⟩ (aB hp [0,4,5,14] [(4,4)]) ?_;simp only[decide_eq_true_eq];omega
  ·refine aC ?_;simp;refine⟨λh7=>?_,λh7=>?_⟩
   ·have q7:=(vZ hk).1 (hc7.1 h7);refine aA ?_;simp;refine⟨by omega,?_⟩;refine bA ?_;simp;refine Nf.mk ⟨k+1,L⟩ (aB hp [0,4,5] [(4,4)]) ?_ ?_
    ·refine⟨Nat.le_succ_of_le hi3.1,hk,?_⟩;rw[hi3.2.2,AZ hk q7]
    ·show s.length-(k+1)<s.length-k;omega
   ·have q7:¬(s[k]=32\/s[k]=10):=λq=>by simp[hc7.2 ((vZ hk).2 q)]at h7
    refine aE ?_;simp;refine aD ?_;have hn:=Vh s[k] (s.drop (k+1)) (by simp;omega);rw[<-List.drop_eq_getElem_cons hk]at hn;refine eF.ro hT hW (λ|22=>some<| .plain ⟨.d (aG (nextN (s.drop k))),true⟩|_=>none) ?_;simp;refine⟨⟨by omega,hn⟩,?_⟩;refine aD ?_;refine aA ?_;simp;refine aC ?_;simp;refine⟨λh9=>?_,λh9=>?_⟩
    ·refine bA ?_;simp;refine aA ?_;simp;refine aF ?_;simp;have e:=hi3.2.2;rw[Da hk q7 h9]at e;rw[e];exact⟨⟨by simp,λa _ c hc=>by simp[Tk.d,aK]at hc;rcases hc with rfl|rfl<;>rfl⟩,rfl⟩
    ·refine aE ?_;simp;refine aD ?_;have hnl:=uB (s.drop k);rw[List.length_drop]at hnl;refine aJ ?_;simp;refine⟨⟨⟨⟨by omega,by omega⟩,by omega,by omega⟩,by omega,by omega⟩,?_⟩;refine aJ ?_;simp;refine⟨by omega,?_⟩;refine Nf.mk ⟨k+nextN (s.drop k),L++[⟨(s.drop k).take (nextN (s.drop k)),k⟩]⟩ (aB hp [0,4,5] [(35,4)] (hH:=by simp[Tk.d,GM])) ?_ ?_
     ·refine⟨?_,?_,?_⟩
      ·show(L++[_]).length<=k+nextN (s.drop k);rw[List.length_append,List.length_singleton];omega
      ·show k+nextN (s.drop k)<=s.length;omega
      ·rw[hi3.2.2,Fi hk q7 h9];simp
     ·show s.length-(k+nextN (s.drop k))<s.length-k;omega
 ·refine bA ?_;simp;refine aA ?_;simp;refine aF ?_;simp;have e:=hi3.2.2;rw[Fh h3]at e;rw[e];exact⟨⟨by simp,λa _ c hc=>by simp[Tk.d,aK]at hc;rcases hc with rfl|rfl<;>rfl⟩,rfl⟩
theorem Vk(s:aM)(hl:s.length<=1000000000):Ok Tryz.prog 72 [.str s] ⟨.tup [.d (.sl ((scanS s).1.map Tk.d)),.d (aG (scanS s).2)],true⟩:=EM (SY s hl)
end
section
attribute[local simp] jO.cond Nd.d_eq nd_t nd_dr nd_td ndsD aQ bL
def lH(l:List Tk):DV:=.sl (l.map Tk.d)
theorem YM:∀t:Tk,(aK t.d).length=2:=λ_=>rfl
def dE(p:PS):List (Nat×aV):=[(0,.box false [.d (lH p.l),.d (aG p.e)])]
attribute[local simp] lH dE
theorem cV(c:Prop)[Decidable c](A B:aV)(x:Nat):bQ (λx=>if x=0 then A else B) (if c then []else [(0,A)]) x=if x=0 then A else B:=by
 by_cases h:c<;>by_cases q:x=0<;>simp[h,q,bQ,bY]
attribute[local simp] cV
theorem An{p:PS}(h:¬p.e=0\/p.l=[]):p.peek=[]:=by
 unfold PS.peek;by_cases q:p.e=0
 ·rcases h with h|h
  ·exact absurd q h
  ·rw[if_neg (by simpa using q),h]
 ·rw[if_pos q]
theorem Fj{p:PS}{t:Tk}{r:List Tk}(h:p.e=0)(hl:p.l=t::r):p.peek=t.text:=by
 unfold PS.peek;rw[if_neg (by simpa using h),hl]
theorem eE{p:PS}{s:aM}:p.is s=true↔s≠[]/\p.peek=s:=by simp[PS.is]
theorem cB{p:PS}{s:aM}(h:p.is s=true):p.took s=p.skip:=if_pos h
theorem fW{p:PS}{s:aM}(h:¬p.is s=true):p.took s=p:=if_neg h
theorem lC(p:PS):iE Tryz.prog 121 [.bx 0 0] (dE p) (dE p) (.d (.str p.peek)):=by
 unfold dE;refine gJ Tryz.func121 rfl Tryz.ntmps121 Tryz.results121 λw0 X hp=>?_;refine aA ?_;simp;refine aD ?_;refine aA ?_;simp;refine aC ?_;simp;refine⟨λg=>?_,λg1 g2=>?_⟩
 ·refine aA ?_;simp;refine aF ?_;simp;exact aB hp [2] [(0,0)] (by simp[An g])
 ·refine aE ?_;simp;refine aD ?_;obtain⟨t,r,htr⟩:=List.exists_cons_of_ne_nil g2;refine aJ ?_;simp[htr,Tk.d];refine aF ?_;simp;exact aB hp [2] [(0,0)] (by simp[Fj g1 htr]) (by simp[htr])
theorem wA(p:PS)(e:Int):iE Tryz.prog 122 [.bx 0 0,.d (aG e)] (dE p) (dE (p.fail e)) (.tup []):=by
 unfold dE;refine rX Tryz.func122 rfl Tryz.ntmps122 Tryz.results122 λw0 X hp=>?_;refine aA ?_;simp;refine aC ?_;simp;refine⟨λh0=>?_,λh0=>?_⟩
 ·refine aJ ?_;simp;exact aB hp [] [(0,0)] (hH:=by simp[PS.fail,h0])
 ·refine aE ?_;simp;exact aB hp [] [(0,0)] (hH:=by simp[PS.fail,h0])
theorem iY(p:PS)(s:aM):iE Tryz.prog 123 [.bx 0 0,.d (.str s)] (dE p) (dE (p.took s)) (.d (.bool (p.is s))):=by
 unfold dE;refine gJ Tryz.func123 rfl Tryz.ntmps123 Tryz.results123 λw0 X hp=>?_;refine aA ?_;simp;refine aD ?_;refine aX hT hW (λ|9=>some (.gen ⟨[(0,0)],[],[],dE p,.d (.str p.peek)⟩)|_=>none) ?_;simp;refine⟨λ_=>lC p,?_⟩;refine aC ?_;simp;refine⟨λg=>?_,λg1 g2=>?_⟩
 ·refine aA ?_;simp;refine aF ?_;simp;have hn:¬p.is s=true:=λq=>by
   obtain⟨q1,q2⟩:=eE.1 q;rcases g with g|g
   ·exact q1 g
   ·exact g q2
  exact aB hp [4] [(0,0)] (by simp[hn]) (by simp[fW hn])
 ·refine aE ?_;simp;refine aD ?_;have hs:p.is s=true:=eE.2 ⟨g1,by simpa using g2⟩;have hl:=fK hs;refine aJ ?_;simp;refine⟨⟨by omega,λt _=>YM t⟩,?_⟩;refine aA ?_;simp;refine aF ?_;simp;exact aB hp [4] [(0,0)] (by simp[hs]) (by simp[cB hs,PS.skip])
theorem GN{p:PS}{s:aM}(h:p.is s=true):p.need s=p.took s:=by unfold PS.need PS.took;rw[if_pos h,if_pos h]
theorem IT{p:PS}{s:aM}(h:p.is s=false):p.need s=(p.took s).fail 2:=by
 have h':¬p.is s=true:=by simp[h]
 rw[fW h'];unfold PS.need;rw[if_neg h']
theorem sG{p:PS}(h:isNameB p.peek=true):nameP p=(p.peek,p.took p.peek):=by
 have:p.is p.peek=true:=eE.2 ⟨λe=>(by rw[e]at h;cases h),rfl⟩;rw[cB this];unfold nameP;rw[if_pos h]
theorem oU{p:PS}(h:isNameB p.peek=false):nameP p=([],p.fail 2):=by unfold nameP;rw[if_neg (by simp[h])]
theorem jU(p:PS)(s:aM):iE Tryz.prog 126 [.bx 0 0,.d (.str s)] (dE p) (dE (p.need s)) (.tup []):=by
 unfold dE;refine rX Tryz.func126 rfl Tryz.ntmps126 Tryz.results126 λw0 X hp=>?_;refine aX hT hW (λ|6=>some (.gen ⟨[(0,0)],[],[],dE (p.took s),.d (.bool (p.is s))⟩)|_=>none) ?_;simp;refine⟨iY p s,?_⟩;refine aC ?_;simp;refine⟨λh0=>?_,λh0=>?_⟩
 ·have en:=IT h0;refine eF.ro hT hW (λ|9=>some (.gen ⟨[(0,0)],[],[],dE ((p.took s).fail 2),.tup []⟩)|_=>none) ?_;simp;refine⟨wA (p.took s) 2,?_⟩;exact aB hp [] [(0,0)] (hH:=by simp[en])
 ·have en:=GN h0;refine aE ?_;simp;exact aB hp [] [(0,0)] (hH:=by simp[en])
theorem yQ(p:PS):iE Tryz.prog 124 [.bx 0 0] (dE p) (dE (nameP p).2) (.d (.str (nameP p).1)):=by
 unfold dE;refine gJ Tryz.func124 rfl Tryz.ntmps124 Tryz.results124 λw0 X hp=>?_;refine aA ?_;simp;refine aX hT hW (λ|5=>some (.gen ⟨[(0,0)],[],[],dE p,.d (.str p.peek)⟩)|_=>none) ?_;simp;refine⟨lC p,?_⟩;refine aD ?_;refine aX hT hW (λ|7=>some<| .plain ⟨.d (.bool (isNameB p.peek)),true⟩|_=>none) ?_;simp;refine⟨EZ p.peek,?_⟩;refine aC ?_;simp;refine⟨λh2=>?_,λh2=>?_⟩
 ·refine aX hT hW (λ|10=>some (.gen ⟨[(0,0)],[],[],dE (p.fail 2),.tup []⟩)|_=>none) ?_;simp;refine⟨wA p 2,?_⟩;refine aA ?_;simp;refine aF ?_;simp;exact aB hp [2] [(0,0)] (by simp[oU h2]) (by simp[oU h2])
 ·refine aE ?_;simp;refine aX hT hW (λ|13=>some (.gen ⟨[(0,0)],[],[],dE (p.took p.peek),.d (.bool (p.is p.peek))⟩)|_=>none) ?_;simp;refine⟨iY p p.peek,?_⟩;refine aA ?_;simp;refine aF ?_;simp;exact aB hp [2] [(0,0)] (by simp[sG h2]) (by simp[sG h2])
end
section
attribute[local simp] jO.cond Nd.d_eq nd_t nd_dr nd_td ndsD aQ
def Tk.r(t:Tk):DV:=.agg [aG t.at_,aG (t.at_+t.text.length)]
def Yd(s:aM)(t:Tk):Prop:=∃a:Nat,t.at_=a/\a+t.text.length<=s.length/\(s.drop a).take t.text.length=t.text
theorem Db(s:aM):∀(f k:Nat),k<=s.length->∀t∈(scanF f (s.drop k) k).1,Yd s t
 |0,_,_,t,h=>by simp[scanF]at h
 |f+1,k,hk,t,h=>by
  by_cases hl:k<s.length
  ·have hd:=List.drop_eq_getElem_cons hl;have h1:=Db s f (k+1) hl;have h2:=Db s f (k+nextN (s.drop k));generalize s[k]=c at hd;have hn:=uB (s.drop k);rw[List.length_drop]at hn;have e:scanF (f+1) (s.drop k) k=if c=32\/c=10 then scanF f (s.drop (k+1)) ((k:Int)+1)else if nextN (s.drop k)=0 then([],(k:Int))else
    (⟨(s.drop k).take (nextN (s.drop k)),k⟩::(scanF f ((s.drop k).drop (nextN (s.drop k))) ((k:Int)+nextN (s.drop k))).1,(scanF f ((s.drop k).drop (nextN (s.drop k))) ((k:Int)+nextN (s.drop k))).2):=by
    rw[hd];rfl
   rw[e]at h;split at h
   ·exact h1 t (by simpa using h)
   ·split at h
    ·simp at h
    ·rw[List.drop_drop]at h;simp only[List.mem_cons]at h;rcases h with h|h
     ·refine⟨k,by rw[h],?_,?_⟩
      ·rw[h];simp only[List.length_take,List.length_drop];omega
      ·rw[h];simp only[List.length_take];rw[Nat.min_eq_left (by rw[List.length_drop];omega)]
     ·exact h2 (by omega) t (by simpa using h)
  ·rw[List.drop_eq_nil_of_le (by omega)]at h;simp[scanF]at h
theorem PT{s:aM}{i:Nat}(h:0<=qY s i):0<nextN (s.drop i):=by
 unfold qY at h;split at h
 ·assumption
 ·omega
theorem Dc{s:aM}{t:Tk}(h:t∈(scanS s).1):Yd s t:=Db s s.length 0 (Nat.zero_le _) t (by simpa [scanS]using h)
theorem PU(s:aM)(hl:s.length<=1000000000):Ok Tryz.prog 83 [.str s] ⟨.tup [.own 2 ((scanS s).1.map Tk.r),.d (aG (scanS s).2)],true⟩:=by
 refine Ok.two Tryz.func83 (by kernel_rfl) (c:=_) rfl Tryz.ntmps83 (by simp) Tryz.results83 rfl λw0 X hp=>?_;refine aA ?_;simp;refine aA ?_;simp;refine aA ?_;simp;refine aD ?_;refine aH ?_;refine aR (ι:=YX) (λ⟨k,L⟩=>aO [(0,.d (.str s)),(4,.ow 4 0 L.length),(5,.d (aG k))]) (λ⟨k,L⟩=>aI [(4,.row false 2 (L.map Tk.r))]) (λ⟨k,L⟩=>L.length<=k/\k<=s.length/\scanS s=(L++(mT s k).1,(mT s k).2)) (λ⟨k,L⟩=>s.length-k) ⟨0,[]⟩ (aB hp [0,4,5] [(4,4)]) (⟨Nat.le_refl _,Nat.zero_le _,by simp[mT,scanS]⟩) λ⟨k,L⟩ hi3=>?_;refine aD ?_;refine aA ?_;simp;refine aC ?_;simp;refine⟨λh3=>?_,λh3=>?_⟩
 ·refine aE ?_;simp;refine aH ?_;refine aD ?_;refine aD ?_;have hk:k<s.length:=by omega
  refine aJ ?_;simp;refine⟨⟨hk,λ_=>hk⟩,?_⟩;refine aC ?_;simp;refine⟨λg=>?_,λg1 g2=>?_⟩
  ·have q4:=(vZ hk).1 g;refine aA ?_;simp;refine⟨by omega,?_⟩;refine bA ?_;simp;refine Nf.mk ⟨k+1,L⟩ (aB hp [0,4,5] [(4,4)]) ?_ ?_
   ·refine⟨Nat.le_succ_of_le hi3.1,hk,?_⟩;rw[hi3.2.2,AZ hk q4]
   ·show s.length-(k+1)<s.length-k;omega
  ·have q4:¬(s[k]=32\/s[k]=10):=λq=>by have:=(vZ hk).2 q;omega
   refine aE ?_;simp;refine aD ?_;have hn:=SX s k hk (by omega);refine eF.ro hT hW (λ|25=>some<| .plain ⟨.d (aG (qY s k)),true⟩|_=>none) ?_;simp;refine⟨hn,?_⟩;refine aD ?_;refine aA ?_;simp;refine aC ?_;simp;refine⟨λh7=>?_,λh7=>?_⟩
   ·refine aA ?_;simp;refine aF ?_;simp;have h9:nextN (s.drop k)=0:=by
     rcases Nat.eq_zero_or_pos (nextN (s.drop k))with z|z
     ·exact z
     ·rw[show qY s k=(k:Int)+nextN (s.drop k) from if_pos z]at h7;omega
    have e:=hi3.2.2;rw[Da hk q4 h9]at e;rw[e];exact⟨⟨by simp,λa _ c hc=>by simp[Tk.r,aK]at hc;rcases hc with rfl|rfl<;>rfl⟩,rfl⟩
   ·have hpos:0<nextN (s.drop k):=PT (by omega);have hnr:qY s k=(k:Int)+nextN (s.drop k):=if_pos hpos;have hnl:=uB (s.drop k);rw[List.length_drop]at hnl;have tok_len2:min (nextN (s.drop k)) (s.length-k)=nextN (s.drop k):=by omega
    refine aE ?_;simp;refine aA ?_;simp;refine⟨⟨by omega,by omega⟩,?_⟩;refine aJ ?_;simp;refine Nf.mk ⟨k+nextN (s.drop k),L++[⟨(s.drop k).take (nextN (s.drop k)),k⟩]⟩ (aB hp [0,4,5] [(35,4)] (by simp[hnr]) (by simp[Tk.r,hnr,tok_len2])) ?_ ?_
    ·refine⟨?_,?_,?_⟩
     ·show(L++[_]).length<=k+nextN (s.drop k);rw[List.length_append,List.length_singleton];omega
     ·show k+nextN (s.drop k)<=s.length;omega
     ·rw[hi3.2.2,Fi hk q4 (by omega)];simp
    ·show s.length-(k+nextN (s.drop k))<s.length-k;omega
 ·refine bA ?_;simp;refine aA ?_;simp;refine aF ?_;simp;have e:=hi3.2.2;rw[Fh h3]at e;rw[e];exact⟨⟨by simp,λa _ c hc=>by simp[Tk.r,aK]at hc;rcases hc with rfl|rfl<;>rfl⟩,rfl⟩
theorem Dd(s:aM)(hl:s.length<=1000000000):Ok Tryz.prog 83 [.str s] ⟨.tup [.d (.sl ((scanS s).1.map Tk.r)),.d (aG (scanS s).2)],true⟩:=EM (PU s hl)
end
end Go.Eng
namespace Go.Proofs
open Go.Shelf
def Tryz.atoiLay_ren:Go.Shelf.Ren:=⟨λ|172=>163|244=>186|245=>187|247=>210|279=>211|280=>212|281=>213|282=>214|287=>228|316=>229|171=>168|205=>230|321=>239|322=>240|243=>198|246=>217|283=>232|284=>233|285=>234|286=>235|129=>116|317=>242|318=>243|319=>244|320=>245|337=>247|338=>248|n=>n,λ|9=>9|3=>3|75=>187|76=>188|4=>4|5=>5|167=>204|37=>142|0=>0|85=>205|2=>2|168=>207|53=>165|175=>221|46=>107|210=>225|127=>232|145=>235|143=>233|21=>21|171=>227|173=>229|212=>237|51=>163|20=>20|213=>238|232=>239|233=>240|80=>148|n=>n,λ|15=>4|16=>5|17=>6|18=>7|19=>8|n=>n⟩
theorem Tryz.atoiLay:Go.Proofs.Lays.n172 Tryz.prog Tryz.atoiLay_ren:={
 mixed:=by kernel_rfl,
 f129:=Tryz.func116.trans (congrArg some (by kernel_rfl)),
 f171:=Tryz.func168.trans (congrArg some (by kernel_rfl)),
 f172:=Tryz.func163.trans (congrArg some (by kernel_rfl)),
 f205:=Tryz.func230.trans (congrArg some (by kernel_rfl)),
 f243:=Tryz.func198.trans (congrArg some (by kernel_rfl)),
 f244:=Tryz.func186.trans (congrArg some (by kernel_rfl)),
 f245:=Tryz.func187.trans (congrArg some (by kernel_rfl)),
 f246:=Tryz.func217.trans (congrArg some (by kernel_rfl)),
 f247:=Tryz.func210.trans (congrArg some (by kernel_rfl)),
 f279:=Tryz.func211.trans (congrArg some (by kernel_rfl)),
 f280:=Tryz.func212.trans (congrArg some (by kernel_rfl)),
 f281:=Tryz.func213.trans (congrArg some (by kernel_rfl)),
 f282:=Tryz.func214.trans (congrArg some (by kernel_rfl)),
 f283:=Tryz.func232.trans (congrArg some (by kernel_rfl)),
 f284:=Tryz.func233.trans (congrArg some (by kernel_rfl)),
 f285:=Tryz.func234.trans (congrArg some (by kernel_rfl)),
 f286:=Tryz.func235.trans (congrArg some (by kernel_rfl)),
 f287:=Tryz.func228.trans (congrArg some (by kernel_rfl)),
 f316:=Tryz.func229.trans (congrArg some (by kernel_rfl)),
 f317:=Tryz.func242.trans (congrArg some (by kernel_rfl)),
 f318:=Tryz.func243.trans (congrArg some (by kernel_rfl)),
 f319:=Tryz.func244.trans (congrArg some (by kernel_rfl)),
 f320:=Tryz.func245.trans (congrArg some (by kernel_rfl)),
 f321:=Tryz.func239.trans (congrArg some (by kernel_rfl)),
 f322:=Tryz.func240.trans (congrArg some (by kernel_rfl)),
 f337:=Tryz.func247.trans (congrArg some (by kernel_rfl)),
 f338:=Tryz.func248.trans (congrArg some (by kernel_rfl)),
 t0:=Tryz.underlying0,
 a0:=Tryz.isAgg0,
 z0:=Tryz.sizeOf0,
 v0:=Tryz.zeroValue0,
 t2:=Tryz.underlying2,
 a2:=Tryz.isAgg2,
 z2:=Tryz.sizeOf2,
 v2:=Tryz.zeroValue2,
 t3:=Tryz.underlying3,
 a3:=Tryz.isAgg3,
 z3:=Tryz.sizeOf3,
 v3:=Tryz.zeroValue3,
 t4:=Tryz.underlying4,
 a4:=Tryz.isAgg4,
 z4:=Tryz.sizeOf4,
 v4:=Tryz.zeroValue4,
 t5:=Tryz.underlying5,
 a5:=Tryz.isAgg5,
 z5:=Tryz.sizeOf5,
 v5:=Tryz.zeroValue5,
 t9:=Tryz.underlying9,
 a9:=Tryz.isAgg9,
 z9:=Tryz.sizeOf9,
 v9:=Tryz.zeroValue9,
 t20:=Tryz.underlying20,
 a20:=Tryz.isAgg20,
 z20:=Tryz.sizeOf20,
 v20:=Tryz.zeroValue20,
 t21:=Tryz.underlying21,
 a21:=Tryz.isAgg21,
 z21:=Tryz.sizeOf21,
 v21:=Tryz.zeroValue21,
 t37:=Tryz.underlying142,
 a37:=Tryz.isAgg142,
 z37:=Tryz.sizeOf142,
 v37:=Tryz.zeroValue142,
 t46:=Tryz.underlying107,
 a46:=Tryz.isAgg107,
 z46:=Tryz.sizeOf107,
 v46:=Tryz.zeroValue107,
 t51:=Tryz.underlying163,
 a51:=Tryz.isAgg163,
 z51:=Tryz.sizeOf163,
 v51:=Tryz.zeroValue163,
 t53:=Tryz.underlying165,
 a53:=Tryz.isAgg165,
 z53:=Tryz.sizeOf165,
 v53:=Tryz.zeroValue165,
 t75:=Tryz.underlying187,
 a75:=Tryz.isAgg187,
 z75:=Tryz.sizeOf187,
 v75:=Tryz.zeroValue187,
 t76:=Tryz.underlying188,
 a76:=Tryz.isAgg188,
 z76:=Tryz.sizeOf188,
 v76:=Tryz.zeroValue188,
 t85:=Tryz.underlying205,
 a85:=Tryz.isAgg205,
 z85:=Tryz.sizeOf205,
 v85:=Tryz.zeroValue205,
 t127:=Tryz.underlying232,
 a127:=Tryz.isAgg232,
 z127:=Tryz.sizeOf232,
 v127:=Tryz.zeroValue232,
 t143:=Tryz.underlying233,
 a143:=Tryz.isAgg233,
 z143:=Tryz.sizeOf233,
 v143:=Tryz.zeroValue233,
 t145:=Tryz.underlying235,
 a145:=Tryz.isAgg235,
 z145:=Tryz.sizeOf235,
 v145:=Tryz.zeroValue235,
 t167:=Tryz.underlying204,
 a167:=Tryz.isAgg204,
 z167:=Tryz.sizeOf204,
 v167:=Tryz.zeroValue204,
 t168:=Tryz.underlying207,
 a168:=Tryz.isAgg207,
 z168:=Tryz.sizeOf207,
 v168:=Tryz.zeroValue207,
 t171:=Tryz.underlying227,
 a171:=Tryz.isAgg227,
 z171:=Tryz.sizeOf227,
 v171:=Tryz.zeroValue227,
 t173:=Tryz.underlying229,
 a173:=Tryz.isAgg229,
 z173:=Tryz.sizeOf229,
 v173:=Tryz.zeroValue229,
 t175:=Tryz.underlying221,
 a175:=Tryz.isAgg221,
 z175:=Tryz.sizeOf221,
 v175:=Tryz.zeroValue221,
 t210:=Tryz.underlying225,
 a210:=Tryz.isAgg225,
 z210:=Tryz.sizeOf225,
 v210:=Tryz.zeroValue225,
 t212:=Tryz.underlying237,
 a212:=Tryz.isAgg237,
 z212:=Tryz.sizeOf237,
 v212:=Tryz.zeroValue237,
 t213:=Tryz.underlying238,
 a213:=Tryz.isAgg238,
 z213:=Tryz.sizeOf238,
 t232:=Tryz.underlying239,
 a232:=Tryz.isAgg239,
 z232:=Tryz.sizeOf239,
 v232:=Tryz.zeroValue239,
 t233:=Tryz.underlying240,
 a233:=Tryz.isAgg240,
 z233:=Tryz.sizeOf240,
 v233:=Tryz.zeroValue240,
 g15:=by kernel_rfl,
 g16:=by kernel_rfl,
 g17:=by kernel_rfl,
 g18:=by kernel_rfl,
 g19:=by kernel_rfl}
end Go.Proofs
namespace Go.Eng
section
attribute[local simp] jO.cond Nd.d_eq nd_t nd_dr nd_td ndsD aQ bL lH dE cV
theorem Ao{c:UInt8}(h:digitB c=true):Lib.digitVal c=some (c.toNat-48)/\48<=c.toNat/\c.toNat<=57:=by
 rw[Ac]at h;simp only[Bool.and_eq_true,decide_eq_true_eq]at h;have h1:48<=c.toNat:=by omega
 have h2:c.toNat<=57:=by omega
 exact⟨by unfold Lib.digitVal;rw[if_pos ⟨h1,h2⟩],h1,h2⟩
theorem De:∀(s:aM) (acc:Nat),(∀c∈s,digitB c=true)->∃m:Nat,Lib.decFrom acc s=some m/\(m:Int)=s.foldl (λn c=>10*n+((c.toNat:Int)- 48)) (acc:Int)
 |[],acc,_=>⟨acc,rfl,rfl⟩
 |c::r,acc,h=>by
  obtain⟨h1,h2,h3⟩:=Ao (h c (List.mem_cons_self ..));obtain⟨m,e1,e2⟩:=De r (acc*10+(c.toNat-48)) λx hx=>h x (List.mem_cons_of_mem _ hx);refine⟨m,?_,?_⟩
  ·unfold Lib.decFrom;rw[h1];exact e1
  ·rw[e2,List.foldl_cons];congr 1;omega
theorem IU{s:aM}(h0:s≠[])(h:∀c∈s,digitB c=true):Lib.atoi s=some (valS s):=by
 cases s with
 |nil=>exact absurd rfl h0
 |cons c r=>
  obtain⟨m,e1,e2⟩:=De (c::r) 0 h;obtain⟨_,d1,d2⟩:=Ao (h c (List.mem_cons_self ..));have n1:¬(c==45)=true:=λq=>(by have e:c=45:=(by simpa using q);subst e;exact absurd d1 (by decide));have n2:¬(c==43)=true:=λq=>(by have e:c=43:=(by simpa using q);subst e;exact absurd d1 (by decide));show(if(c==45)=true then(Lib.decNat r).map (λm:Nat=> -(m:Int))else if(c==43)=true then(Lib.decNat r).map (λm:Nat=>(m:Int))else(Lib.decNat (c::r)).map (λm:Nat=>(m:Int)))=some (valS (c::r));rw[if_neg n1,if_neg n2];unfold Lib.decNat;rw[if_neg (by simp),e1,Option.map_some,e2];rfl
theorem Dg{s:aM}(h:Lo s)(hd:digitB (s[0]?.getD 0)=true):s.length<=3/\∀c∈s,digitB c=true:=by
 obtain⟨h0,h1⟩:=h;cases s with
 |nil=>exact absurd rfl h0
 |cons c r=>
  have hd:digitB c=true:=hd;obtain⟨_,d1,d2⟩:=Ao hd;have nl:¬letterB c=true:=λq=>by
   rw[wZ]at q;simp only[Bool.and_eq_true,decide_eq_true_eq]at q;omega
  have n36:¬c=36:=λq=>by subst q;exact absurd d1 (by decide)
  rw[jT,if_neg nl,if_neg n36,if_pos hd]at h1;by_cases q:runP digitB (c::r)<=3
  ·rw[if_pos q]at h1;refine⟨by omega,λx hx=>?_⟩;obtain⟨i,hi,rfl⟩:=List.getElem_of_mem hx;exact runP_all hi (by omega)
  ·rw[if_neg q]at h1;simp at h1
theorem GO{s:aM}(h:Lo s):s.length<=17:=by
 obtain⟨h0,h1⟩:=h;cases s with
 |nil=>simp
 |cons c r=>
  rw[<-h1,jT];have hw:∀t:aM,wordN t<=16:=λt=>by
   rcases Nat.eq_zero_or_pos (wordN t)with q|q
   ·omega
   ·obtain⟨_,_,_,_,_,q2⟩:=vP q;exact q2
  have a1:=hw (c::r);have a2:=hw r;repeat' split
  all_goals omega
theorem lD{p:PS}(h:bH p.l):p.peek.length<=17:=by
 by_cases q:p.peek=[]
 ·rw[q];simp
 ·exact GO (qQ h q)
theorem Vl(s:aM)(n:Int)(hl:s.length<=18)(h:Lib.atoi s=some n):Ok Tryz.prog 163 [.str s] ⟨.tup [.d (aG n),.d (.val .nilIface)],true⟩:=by
 refine⟨⟨_,Tryz.func163,by kernel_rfl,rfl⟩,λw X vs hX hr=>?_⟩
 match vs,hr.1 with
 |[u],_=>
  have h1:=hr.2 0 _ _ rfl rfl;cases h1;refine(Go.Proofs.Any.strconv_Atoi Tryz.atoiLay ⟨s.toArray⟩ n (by simpa [ByteArray.size]using hl) (by simpa using h) w).mono ?_;rintro e w' ⟨rfl,t,rfl⟩;refine⟨_,rfl,?_,?_⟩
  ·refine⟨by unfold Lib.bytesWorld World.freeze;split<;>rfl,by unfold Lib.bytesWorld World.freeze;split<;>rfl,by unfold Lib.bytesWorld World.freeze;split<;>rfl,by rw[Lib.bytesWorld_size];omega,λk hk=>Lib.bytesWorld_at_old _ _ _ k hk,?_⟩;unfold Lib.bytesWorld World.freeze;split<;>exact Nat.le_succ w.drawn
  ·refine⟨[.int .i64 n,.nilIface],λ_=>none,rfl,rfl,λ_ _ _ q=>(by cases q),λi r v hi hv=>?_⟩
   match i,hi with
   |0,hi=>cases hi;cases hv;exact .int _ _
   |1,hi=>cases hi;cases hv;exact .val _ rfl
theorem En(s t:aM)(hl:s.length<=9223372036854775807)(ht:t.length<=9223372036854775807):Ok Tryz.prog 227 [.str s,.str t] ⟨.tup [.d (.str (if s.take t.length=t then s.drop t.length else s)),.d (.bool (decide (s.take t.length=t)))],true⟩:=by
 refine Ok.two Tryz.func227 (by kernel_rfl) (c:=_) rfl Tryz.ntmps227 (by simp) Tryz.results227 rfl λw0 X hp=>?_;refine aA ?_;simp;refine aD ?_;refine aD ?_;have h:=wL s t hl ht;refine eF.ro hT hW (λ|8=>some<| .plain ⟨.d (.bool (decide (s.take t.length=t))),true⟩|_=>none) ?_;simp;refine⟨h,?_⟩;refine aC ?_;simp;refine⟨λh1=>?_,λh1=>?_⟩
 ·refine aA ?_;simp;refine aF ?_;simp;exact⟨λq=>absurd q h1,h1⟩
 ·refine aE ?_;simp;refine aD ?_;have hle:t.length<=s.length:=by have e:=congrArg List.length h1;rw[List.length_take]at e;omega
  refine aJ ?_;simp;refine⟨by omega,?_⟩;refine aF ?_;simp;exact⟨λq=>absurd h1 q,h1⟩
theorem GP(s t:aM)(hl:s.length<=9223372036854775807)(ht:t.length<=9223372036854775807):Ok Tryz.prog 209 [.str s,.str t] ⟨.tup [.d (.str (if s.take t.length=t then s.drop t.length else s)),.d (.bool (decide (s.take t.length=t)))],true⟩:=by
 refine Ok.two Tryz.func209 (by kernel_rfl) (c:=_) rfl Tryz.ntmps209 (by simp) Tryz.results209 rfl λw0 X hp=>?_;refine aA ?_;simp;refine aD ?_;have h:=En s t hl ht;refine eF.ro hT hW (λ|8=>some<| .plain ⟨.tup [.d (.str (if s.take t.length=t then s.drop t.length else s)),.d (.bool (decide (s.take t.length=t)))],true⟩|_=>none) ?_;simp[aW];refine⟨h,?_⟩;refine aF ?_;simp
theorem jL{p:PS}(h:p.peek.take 1=[36]):p.peek=36::p.peek.drop 1/\localP p=(p.peek.drop 1,p.took p.peek):=by
 cases e:p.peek with
 |nil=>rw[e]at h;cases h
 |cons c r=>
  rw[e]at h;have hc:c=36:=by simpa using h
  subst hc;have hi:p.is (36::r)=true:=eE.2 ⟨by simp,e⟩;refine⟨rfl,?_⟩;rw[cB hi];unfold localP;rw[e];rfl
theorem lZ{p:PS}(h:¬p.peek.take 1=[36]):localP p=([],p.fail 2):=by
 unfold localP;split
 ·rename_i r e;rw[e]at h;exact absurd rfl h
 ·rfl
theorem GQ{k:Int}{p:PS}(h:p.peek=[]\/digitB (p.peek[0]?.getD 0)=false):numeralP k p=(0,p.fail 2):=by
 unfold numeralP;split
 ·rfl
 ·rename_i c r e;rw[e]at h;rcases h with h|h
  ·cases h
  ·have h:digitB c=false:=h;rw[if_neg (by simp[h])]
theorem GR{k:Int}{p:PS}(h0:¬p.peek=[])(h1:digitB (p.peek[0]?.getD 0)=true)(h2:valS p.peek<loAt k\/hiAt k<valS p.peek):numeralP k p=(0,p.fail 5):=by
 unfold numeralP;split
 ·rename_i e;exact absurd e h0
 ·rename_i c r e;rw[e]at h1 h2;have h1:digitB c=true:=h1;rw[if_pos h1,if_pos h2]
theorem LN{k:Int}{p:PS}(h0:¬p.peek=[])(h1:digitB (p.peek[0]?.getD 0)=true)(h2:¬(valS p.peek<loAt k\/hiAt k<valS p.peek)):numeralP k p=(valS p.peek,p.took p.peek):=by
 have hi:p.is p.peek=true:=eE.2 ⟨h0,rfl⟩;rw[cB hi];unfold numeralP;split
 ·rename_i e;exact absurd e h0
 ·rename_i c r e;rw[e]at h1 h2;have h1:digitB c=true:=h1;rw[if_pos h1,if_neg h2,e]
theorem yR(p:PS)(hg:bH p.l):iE Tryz.prog 184 [.bx 0 0] (dE p) (dE (localP p).2) (.d (.str (localP p).1)):=by
 unfold dE;refine gJ Tryz.func184 rfl Tryz.ntmps184 Tryz.results184 λw0 X hp=>?_;refine aA ?_;simp;refine aD ?_;have hk:=lD hg;have hc:=GP p.peek [36] (by omega) (by decide);refine eF.ro hT hW (λ|7=>some (.gen ⟨[(0,0)],[],[],dE p,.d (.str p.peek)⟩)|8=>some<| .plain ⟨.tup [.d (.str (if p.peek.take 1=[36]then p.peek.drop 1 else p.peek)),.d (.bool (decide (p.peek.take 1=[36])))],true⟩|_=>none) ?_;simp[aW];refine⟨⟨lC p,by simpa using hc⟩,?_⟩;refine aD ?_;refine aA ?_;simp;refine aC ?_;simp;refine⟨λh2=>?_,λh2=>?_⟩
 ·refine aX hT hW (λ|14=>some (.gen ⟨[(0,0)],[],[],dE (p.fail 2),.tup []⟩)|_=>none) ?_;simp;refine⟨wA p 2,?_⟩;refine aA ?_;simp;refine aF ?_;simp;exact aB hp [2] [(0,0)] (by simp[lZ h2]) (by simp[lZ h2])
 ·refine aE ?_;simp;refine aD ?_;obtain⟨e1,e2⟩:=jL h2;have e3:36::p.peek.tail=p.peek:=by rw[<-List.drop_one];exact e1.symm
  have ht:=iY p p.peek;have hl3:=congrArg List.length e3;refine eF.ro hT hW (λ|18=>some (.gen ⟨[(0,0)],[],[],dE (p.took p.peek),.d (.bool (p.is p.peek))⟩)|_=>none) ?_;simp[h2];refine⟨⟨by simp at hl3;omega,by rw[e3];exact ht⟩,?_⟩;refine aA ?_;simp;refine aF ?_;simp;exact aB hp [2] [(0,0)] (by simp[h2,e2]) (by simp[e2])
theorem oV(p:PS)(k:Int)(hg:bH p.l)(hk:0<=k/\k<37):iE Tryz.prog 128 [.bx 0 0,.d (aG k)] (dE p) (dE (numeralP k p).2) (.d (aG (numeralP k p).1)):=by
 unfold dE;refine gJ Tryz.func128 rfl Tryz.ntmps128 Tryz.results128 λw0 X hp=>?_;refine aA ?_;simp;refine aX hT hW (λ|9=>some (.gen ⟨[(0,0)],[],[],dE p,.d (.str p.peek)⟩)|_=>none) ?_;simp;refine⟨lC p,?_⟩;refine aD ?_;refine aD ?_;have hd:=uE (p.peek[0]?.getD 0);refine eF.ro hT hW (λ|15=>some<| .plain ⟨.d (.bool (digitB (p.peek[0]?.getD 0))),true⟩|_=>none) ?_;simp;refine⟨⟨λh=>List.length_pos_iff.2 h,λ_=>hd⟩,?_⟩;refine aC ?_;simp;refine⟨λg=>?_,λg1 g2=>?_⟩
 ·refine aX hT hW (λ|19=>some (.gen ⟨[(0,0)],[],[],dE (p.fail 2),.tup []⟩)|_=>none) ?_;simp;refine⟨wA p 2,?_⟩;refine aA ?_;simp;refine aF ?_;simp;have e:=GQ (k:=k) g;exact aB hp [4] [(0,0)] (by simp[e]) (by simp[e])
 ·refine aE ?_;simp;refine aD ?_;obtain⟨hl,hds⟩:=Dg (qQ hg g1) g2;have ha:=Vl p.peek (valS p.peek) (by omega) (IU g1 hds);refine eF.ro hT hW (λ|22=>some<| .plain ⟨.tup [.d (aG (valS p.peek)),.d (.val .nilIface)],true⟩|_=>none) ?_;simp[aW];refine⟨ha,?_⟩;refine aD ?_;refine aD ?_;have hg1:=glob1_lo hk;have hg2:=glob1_hi hk;have hg3:=glob1_len;refine aJ ?_;simp[hg1,hg2];refine⟨⟨⟨⟨hk,by omega⟩,λ_=>hk⟩,λ_=>by omega⟩,?_⟩;refine aC ?_;simp;refine⟨λb=>?_,λb1 b2=>?_⟩
  ·refine aX hT hW (λ|40=>some (.gen ⟨[(0,0)],[],[],dE (p.fail 5),.tup []⟩)|_=>none) ?_;simp;refine⟨wA p 5,?_⟩;refine aA ?_;simp;refine aF ?_;simp;have e:=GR (k:=k) g1 g2 b;exact aB hp [4] [(0,0)] (by simp[e]) (by simp[e])
  ·refine aE ?_;simp;refine aX hT hW (λ|43=>some (.gen ⟨[(0,0)],[],[],dE (p.took p.peek),.d (.bool (p.is p.peek))⟩)|_=>none) ?_;simp;refine⟨iY p p.peek,?_⟩;refine aA ?_;simp;refine aF ?_;simp;have e:=LN (k:=k) g1 g2 (by omega);exact aB hp [4] [(0,0)] (by simp[e]) (by simp[e])
theorem Fk{k:Int}{p:PS}(h:bH p.l)(hk:loAt k<=0/\0<=hiAt k/\ -999<=loAt k/\hiAt k<=999): -999<=(numeralP k p).1/\(numeralP k p).1<=999:=by
 by_cases q1:p.peek=[]\/digitB (p.peek[0]?.getD 0)=false
 ·rw[GQ q1];simp
 ·have q2:¬p.peek=[]:=λe=>q1 (.inl e);have q3:digitB (p.peek[0]?.getD 0)=true:=by
   cases e:digitB (p.peek[0]?.getD 0)with
   |true=>rfl
   |false=>exact absurd (.inr e) q1
  by_cases q4:valS p.peek<loAt k\/hiAt k<valS p.peek
  ·rw[GR q2 q3 q4];simp
  ·rw[LN q2 q3 q4];simp only;omega
theorem Dh{p:PS}(h:p.is [45]=true):numberP p=(-(numeralP 0 (p.took [45])).1,(numeralP 0 (p.took [45])).2):=by
 rw[cB h];unfold numberP;rw[if_pos h]
theorem Di{p:PS}(h:p.is [45]=false):numberP p=numeralP 0 (p.took [45]):=by
 have h':¬p.is [45]=true:=by simp[h]
 rw[fW h'];unfold numberP;rw[if_neg h']
theorem dO{p:PS}{s:aM}(h:bH p.l):bH (p.took s).l:=by
 unfold PS.took;split
 ·exact cT h
 ·exact h
theorem Fl(p:PS)(hg:bH p.l):iE Tryz.prog 127 [.bx 0 0] (dE p) (dE (numberP p).2) (.d (aG (numberP p).1)):=by
 unfold dE;refine gJ Tryz.func127 rfl Tryz.ntmps127 Tryz.results127 λw0 X hp=>?_;refine aA ?_;simp;refine aD ?_;refine aX hT hW (λ|4=>some (.gen ⟨[(0,0)],[],[],dE (p.took [45]),.d (.bool (p.is [45]))⟩)|_=>none) ?_;simp;refine⟨iY p [45],?_⟩;refine aC ?_;simp;refine⟨λh1=>?_,λh1=>?_⟩
 ·refine aD ?_;have hn:=oV (p.took [45]) 0 (dO hg) (by decide);have hr:=Fk (k:=0) (dO (s:=[45]) hg) (by decide);refine eF.ro hT hW (λ|6=>some (.gen ⟨[(0,0)],[],[],dE (numeralP 0 (p.took [45])).2,.d (aG (numeralP 0 (p.took [45])).1)⟩)|_=>none) ?_;simp;refine⟨⟨hn,by omega⟩,?_⟩;refine aF ?_;simp;have e:=Dh h1;exact aB hp [2] [(0,0)] (by simp[e]) (by simp[e])
 ·refine aE ?_;simp;refine aD ?_;have hn:=oV (p.took [45]) 0 (dO hg) (by decide);refine eF.ro hT hW (λ|9=>some (.gen ⟨[(0,0)],[],[],dE (numeralP 0 (p.took [45])).2,.d (aG (numeralP 0 (p.took [45])).1)⟩)|_=>none) ?_;simp;refine⟨hn,?_⟩;refine aF ?_;simp;have e:=Di h1;exact aB hp [2] [(0,0)] (by simp[e]) (by simp[e])
end
section
attribute[local simp] jO.cond Nd.d_eq nd_t nd_dr nd_td ndsD aQ bL cV
def dK(s:aM)(T:List Tk)(p:PS):List (Nat×aV):=[(0,.box false [.d (.str s),.d (.sl (T.map Tk.r)),.d (aG ((T.length:Int)- p.l.length)),.d (.bool (!decide (p.e=0))),.d (.bool (decide (p.e=5)))])]
attribute[local simp] dK
structure yS(s:aM)(T:List Tk):Prop where
 hs:s.length<=1024
 ht:T.length<=1024
 hi:∀t∈T,Yd s t
 hg:bH T
structure jF(T:List Tk)(p:PS):Prop where
 suf:p.l<:+T
 err:p.e=0\/p.e=2\/p.e=5
theorem jF.le{T:List Tk}{p:PS}(h:jF T p):p.l.length<=T.length:=h.suf.length_le
theorem jF.good{s:aM}{T:List Tk}{p:PS}(h:jF T p)(c:yS s T):bH p.l:=λt ht=>c.hg t (h.suf.mem ht)
theorem jF.fail{T:List Tk}{p:PS}{e:Int}(h:jF T p)(he:e=2\/e=5):jF T (p.fail e):=by
 refine⟨by rw[mZ];exact h.suf,?_⟩;unfold PS.fail;split
 ·exact .inr he
 ·exact h.err
theorem jF.skip{T:List Tk}{p:PS}(h:jF T p):jF T p.skip:=⟨(List.tail_suffix _).trans h.suf,h.err⟩
theorem jF.took{T:List Tk}{p:PS}{w:aM}(h:jF T p):jF T (p.took w):=by
 unfold PS.took;split
 ·exact h.skip
 ·exact h
theorem jF.need{T:List Tk}{p:PS}{w:aM}(h:jF T p):jF T (p.need w):=by
 unfold PS.need;split
 ·exact h.skip
 ·exact h.fail (.inl rfl)
theorem jF.name{T:List Tk}{p:PS}(h:jF T p):jF T (nameP p).2:=by
 unfold nameP;split
 ·exact h.skip
 ·exact h.fail (.inl rfl)
theorem jF.local{T:List Tk}{p:PS}(h:jF T p):jF T (localP p).2:=by
 unfold localP;split
 ·exact h.skip
 ·exact h.fail (.inl rfl)
theorem jF.numeral{T:List Tk}{p:PS}{k:Int}(h:jF T p):jF T (numeralP k p).2:=by
 unfold numeralP;split
 ·exact h.fail (.inl rfl)
 ·split
  ·split
   ·exact h.fail (.inr rfl)
   ·exact h.skip
  ·exact h.fail (.inl rfl)
theorem jF.number{T:List Tk}{p:PS}(h:jF T p):jF T (numberP p).2:=by
 unfold numberP;split
 ·exact h.skip.numeral
 ·exact h.numeral
theorem jF.place{T:List Tk}{p:PS}(h:jF T p):jF T (placeP p).2:=by
 unfold placeP;split
 ·exact h.name.skip.name
 ·exact h.name
theorem jF.at{T:List Tk}{p:PS}{t:Tk}{r:List Tk}(h:jF T p)(hl:p.l=t::r):∃n:Nat,(T.length:Int)- p.l.length=n/\n<T.length/\T[n]? =some t/\t∈T:=by
 obtain⟨T0,rfl⟩:=h.suf;refine⟨T0.length,by simp,?_,?_,?_⟩
 ·rw[hl];simp
 ·rw[hl];simp
 ·rw[hl];simp
theorem iM(s:aM)(T:List Tk)(p:PS)(c:yS s T)(f:jF T p):iE Tryz.prog 136 [.bx 0 0] (dK s T p) (dK s T p) (.d (.str p.peek)):=by
 unfold dK;have hle:=f.le;refine gJ Tryz.func136 rfl Tryz.ntmps136 Tryz.results136 λw0 X hp=>?_;refine aA ?_;simp;refine aD ?_;refine aD ?_;refine eF.rd [] [] (λ_=>none) ?_;simp;refine aC ?_;simp;refine⟨λg=>?_,λg1 g2=>?_⟩
 ·refine aA ?_;simp;refine aF ?_;simp;have e:p.peek=[]:=An (g.imp id λz=>List.eq_nil_of_length_eq_zero (by omega));exact aB hp [2] [(0,0)] (by simp[e])
 ·refine aE ?_;simp;refine aD ?_;obtain⟨t,r,htr⟩:=List.exists_cons_of_ne_nil (l:=p.l) (λe=>by rw[e]at g2;simp at g2);obtain⟨n,hn,hnl,hn2,hm⟩:=f.at htr;obtain⟨a,ha,hal,hat⟩:=c.hi t hm;refine eL (fG [0] [(0,0)] (by decide) (by decide) (by simp[hp])) ?_;simp;refine eF.rd [] [] (λ_=>none) ?_;simp[hn,hn2,Tk.r,ha];refine⟨⟨hnl,by omega,by omega⟩,?_⟩;refine aF ?_;simp;exact aB hp [2] [(0,0)] (by simp[Fj g1 htr,GM,hat])
theorem yT{p:PS}:((p.fail 2).e=0)=False:=eq_false (fail_e (by decide))
theorem yU{p:PS}:((p.fail 5).e=0)=False:=eq_false (fail_e (by decide))
theorem yV{p:PS}:((p.fail 2).e=5)=(p.e=5):=by
 unfold PS.fail;split
 ·rename_i h;simp[h]
 ·rfl
theorem Vm{p:PS}(h:p.e=0):((p.fail 5).e=5)=True:=by unfold PS.fail;rw[if_pos h];simp
theorem GS{p:PS}:p.skip.e=p.e:=rfl
attribute[local simp] yT yU yV mZ GS
theorem pS{T:List Tk}{p:PS}(h:p.peek≠[]):(T.length:Int)- p.skip.l.length=(T.length:Int)- p.l.length+1:=by
 have:=oL h;omega
theorem SZ{p:PS}(h:p.peek≠[]):p.e=0:=Classical.byContradiction λq=>h (An (.inl q))
theorem jF.pos{T:List Tk}{p:PS}(f:jF T p)(h:p.peek≠[]):0<=(T.length:Int)- p.l.length/\(T.length:Int)- p.l.length<T.length:=by
 have:=oL h;have:=f.le;omega
theorem uI(s:aM)(T:List Tk)(p:PS)(c:yS s T)(f:jF T p)(w:aM)(hw:w≠[]):iE Tryz.prog 172 [.bx 0 0,.d (.str w)] (dK s T p) (dK s T (p.took w)) (.d (.bool (p.is w))):=by
 unfold dK;have hle:=f.le;have htt:=c.ht;refine gJ Tryz.func172 rfl Tryz.ntmps172 Tryz.results172 λw0 X hp=>?_;refine aA ?_;simp;refine aD ?_;refine aX hT hW (λ|6=>some (.gen ⟨[(0,0)],[],[],dK s T p,.d (.str p.peek)⟩)|_=>none) ?_;simp;refine⟨iM s T p c f,?_⟩;refine aC ?_;simp;refine⟨λh1=>?_,λh1=>?_⟩
 ·refine aA ?_;simp;refine aF ?_;simp;have hn:¬p.is w=true:=λq=>h1 (eE.1 q).2;exact aB hp [4] [(0,0)] (by simp[hn]) (by simp[fW hn])
 ·refine aE ?_;simp;refine aD ?_;have h1':p.peek≠[]:=λe=>hw (by rw[<-h1,e]);have hsk:=pS (T:=T) h1';have hps:=f.pos h1';refine aJ ?_;simp;refine⟨by omega,?_⟩;refine aA ?_;simp;refine aF ?_;simp;have hn:p.is w=true:=eE.2 ⟨hw,h1⟩;exact aB hp [4] [(0,0)] (by simp[hn]) (by simp[cB hn,hsk])
theorem gP(s:aM)(T:List Tk)(p:PS)(c:yS s T)(f:jF T p)(w:aM)(hw:w≠[]):iE Tryz.prog 138 [.bx 0 0,.d (.str w)] (dK s T p) (dK s T (p.need w)) (.tup []):=by
 unfold dK;refine rX Tryz.func138 rfl Tryz.ntmps138 Tryz.results138 λw0 X hp=>?_;refine aX hT hW (λ|6=>some (.gen ⟨[(0,0)],[],[],dK s T (p.took w),.d (.bool (p.is w))⟩)|_=>none) ?_;simp;refine⟨uI s T p c f w hw,?_⟩;refine aC ?_;simp;refine⟨λh0=>?_,λh0=>?_⟩
 ·have en:=IT h0;refine aJ ?_;simp;exact aB hp [] [(0,0)] (hH:=by simp[en])
 ·have en:=GN h0;refine aE ?_;simp;exact aB hp [] [(0,0)] (hH:=by simp[en])
theorem oW(s:aM)(T:List Tk)(p:PS)(c:yS s T)(f:jF T p):iE Tryz.prog 137 [.bx 0 0] (dK s T p) (dK s T (nameP p).2) (.d (.str (nameP p).1)):=by
 unfold dK;have hle:=f.le;have htt:=c.ht;have htl:=lD (f.good c);refine gJ Tryz.func137 rfl Tryz.ntmps137 Tryz.results137 λw0 X hp=>?_;refine aA ?_;simp;refine aX hT hW (λ|5=>some (.gen ⟨[(0,0)],[],[],dK s T p,.d (.str p.peek)⟩)|_=>none) ?_;simp;refine⟨iM s T p c f,?_⟩;refine aD ?_;refine aX hT hW (λ|7=>some<| .plain ⟨.d (.bool (isNameB p.peek)),true⟩|_=>none) ?_;simp;refine⟨LL p.peek (by omega),?_⟩;refine aC ?_;simp;refine⟨λh2=>?_,λh2=>?_⟩
 ·refine aA ?_;simp;refine aA ?_;simp;refine aF ?_;simp;exact aB hp [2] [(0,0)] (by simp[oU h2]) (by simp[oU h2])
 ·refine aE ?_;simp;refine aD ?_;have h1':p.peek≠[]:=λe=>by rw[e]at h2;cases h2
  have hsk:=pS (T:=T) h1';have hps:=f.pos h1';have hn:p.is p.peek=true:=eE.2 ⟨h1',rfl⟩;refine aJ ?_;simp;refine⟨by omega,?_⟩;refine aA ?_;simp;refine aF ?_;simp;exact aB hp [2] [(0,0)] (by simp[sG h2]) (by simp[sG h2,cB hn,hsk])
theorem Vn{s:aM}(h:∀c∈s,digitB c=true):0<=valS s:=by
 obtain⟨m,_,e⟩:=De s 0 h;unfold valS;have e':(m:Int)=s.foldl (λn c=>10*n+((c.toNat:Int)- 48)) 0:=e;omega
theorem PV{p:PS}(hg:bH p.l)(h:p.peek.take 1=[36]):2<=p.peek.length:=by
 have hn:p.peek≠[]:=λe=>(by rw[e]at h;cases h);obtain⟨_,ht⟩:=qQ hg hn;obtain⟨e1,_⟩:=jL h;rw[e1,jT,if_neg (by decide),if_pos rfl]at ht;rw[e1];split at ht
 ·rename_i z;have:=yB (p.peek.drop 1);rw[List.length_cons]at ht|-;omega
 ·simp at ht
theorem XI{w:aM}:w.take 1=[36]↔(1<=w.length/\(((w[0]?.getD 0).toNat:Int))=36):=by
 cases w with
 |nil=>simp
 |cons c r=>
  have:=NF (c:=c);simp[this]
theorem qZ(s:aM)(T:List Tk)(p:PS)(c:yS s T)(f:jF T p):iE Tryz.prog 221 [.bx 0 0] (dK s T p) (dK s T (localP p).2) (.d (.str (localP p).1)):=by
 unfold dK;have hle:=f.le;have htt:=c.ht;have hll:=PV (f.good c);refine gJ Tryz.func221 rfl Tryz.ntmps221 Tryz.results221 λw0 X hp=>?_;refine aA ?_;simp;refine aX hT hW (λ|5=>some (.gen ⟨[(0,0)],[],[],dK s T p,.d (.str p.peek)⟩)|_=>none) ?_;simp;refine⟨iM s T p c f,?_⟩;refine aD ?_;refine aA ?_;simp;refine⟨λh=>by omega,?_⟩;refine aC ?_;simp;refine⟨λg=>?_,λg1 g2=>?_⟩
 ·have g':¬p.peek.take 1=[36]:=λq=>by have:=hll q;have:=(XI.1 q).2;omega
  refine aA ?_;simp;refine aA ?_;simp;refine aF ?_;simp;exact aB hp [2] [(0,0)] (by simp[lZ g']) (by simp[lZ g'])
 ·have g':p.peek.take 1=[36]:=XI.2 ⟨by omega,g2⟩;refine aE ?_;simp;refine aD ?_;have h1':p.peek≠[]:=λe=>by rw[e]at g';cases g'
  have hsk:=pS (T:=T) h1';have hps:=f.pos h1';have hn:p.is p.peek=true:=eE.2 ⟨h1',rfl⟩;refine aJ ?_;simp;refine⟨by omega,?_⟩;refine aA ?_;simp;refine⟨by omega,?_⟩;refine aF ?_;simp;exact aB hp [2] [(0,0)] (by simp[(jL g').2]) (by simp[(jL g').2,cB hn,hsk])
theorem iO(s:aM)(T:List Tk)(p:PS)(c:yS s T)(f:jF T p)(k lo hi:Int)(hlo:loAt k=lo\/(loAt k<=0/\lo=0))(hhi:hiAt k=hi):iE Tryz.prog 140 [.bx 0 0,.d (aG lo),.d (aG hi)] (dK s T p) (dK s T (numeralP k p).2) (.d (aG (numeralP k p).1)):=by
 unfold dK;have hle:=f.le;have htt:=c.ht;have htl:=lD (f.good c);refine gJ Tryz.func140 rfl Tryz.ntmps140 Tryz.results140 λw0 X hp=>?_;refine aA ?_;simp;refine aX hT hW (λ|10=>some (.gen ⟨[(0,0)],[],[],dK s T p,.d (.str p.peek)⟩)|_=>none) ?_;simp;refine⟨iM s T p c f,?_⟩;refine aD ?_;refine aD ?_;have hd:=nX p.peek 0 (by omega);refine eF.ro hT hW (λ|12=>some<| .plain ⟨.d (.bool (firstIs digitB p.peek)),true⟩|_=>none) ?_;simp;refine⟨by simpa using hd,?_⟩;refine aC ?_;simp;refine⟨λh2=>?_,λh2=>?_⟩
 ·have g:p.peek=[]\/digitB (p.peek[0]?.getD 0)=false:=by cases e:p.peek with|nil=>exact .inl rfl|cons a r=>rw[e]at h2;exact .inr h2
  refine aA ?_;simp;refine aA ?_;simp;refine aF ?_;simp;have e:=GQ (k:=k) g;exact aB hp [6] [(0,0)] (by simp[e]) (by simp[e])
 ·have g1:¬p.peek=[]:=λe=>by rw[e]at h2;cases h2
  have g2:digitB (p.peek[0]?.getD 0)=true:=by cases e:p.peek with|nil=>exact absurd e g1|cons a r=>rw[e]at h2;exact h2
  refine aE ?_;simp;refine aD ?_;obtain⟨hl,hds⟩:=Dg (qQ (f.good c) g1) g2;have hc:=PR p.peek hl;have hv0:=Vn hds;refine eF.ro hT hW (λ|18=>some<| .plain ⟨.d (aG (valS p.peek)),true⟩|_=>none) ?_;simp;refine⟨hc,?_⟩;refine aD ?_;refine aA ?_;simp;refine aC ?_;simp;refine⟨λb=>?_,λb1 b2=>?_⟩
  ·refine aA ?_;simp;refine aA ?_;simp;refine aA ?_;simp;refine aF ?_;simp;have e:=GR (k:=k) g1 g2 (by omega);exact aB hp [6] [(0,0)] (by simp[e]) (by simp[e,Vm (SZ g1)])
  ·refine aE ?_;simp;refine aD ?_;have hsk:=pS (T:=T) g1;have hps:=f.pos g1;have hn:p.is p.peek=true:=eE.2 ⟨g1,rfl⟩;refine aJ ?_;simp;refine⟨by omega,?_⟩;refine aA ?_;simp;refine aF ?_;simp;have e:=LN (k:=k) g1 g2 (by omega);exact aB hp [6] [(0,0)] (by simp[e]) (by simp[e,cB hn,hsk])
theorem Dj(s:aM)(T:List Tk)(p:PS)(c:yS s T)(f:jF T p):iE Tryz.prog 139 [.bx 0 0] (dK s T p) (dK s T (numberP p).2) (.d (aG (numberP p).1)):=by
 unfold dK;refine gJ Tryz.func139 rfl Tryz.ntmps139 Tryz.results139 λw0 X hp=>?_;refine aA ?_;simp;refine aD ?_;refine aX hT hW (λ|4=>some (.gen ⟨[(0,0)],[],[],dK s T (p.took [45]),.d (.bool (p.is [45]))⟩)|_=>none) ?_;simp;refine⟨uI s T p c f [45] (by simp),?_⟩;refine aC ?_;simp;refine⟨λh1=>?_,λh1=>?_⟩
 ·refine aD ?_;have hn:=iO s T (p.took [45]) c f.took 0 0 999 (.inr ⟨by decide,rfl⟩) rfl;have hr:=Fk (k:=0) (dO (s:=[45]) (f.good c)) (by decide);refine eF.ro hT hW (λ|6=>some (.gen ⟨[(0,0)],[],[],dK s T (numeralP 0 (p.took [45])).2,.d (aG (numeralP 0 (p.took [45])).1)⟩)|_=>none) ?_;simp;refine⟨⟨hn,by omega⟩,?_⟩;refine aF ?_;simp;have e:=Dh h1;exact aB hp [2] [(0,0)] (by simp[e]) (by simp[e])
 ·refine aE ?_;simp;refine aD ?_;have hn:=iO s T (p.took [45]) c f.took 0 0 999 (.inr ⟨by decide,rfl⟩) rfl;refine eF.ro hT hW (λ|9=>some (.gen ⟨[(0,0)],[],[],dK s T (numeralP 0 (p.took [45])).2,.d (aG (numeralP 0 (p.took [45])).1)⟩)|_=>none) ?_;simp;refine⟨hn,?_⟩;refine aF ?_;simp;have e:=Di h1;exact aB hp [2] [(0,0)] (by simp[e]) (by simp[e])
end
section
attribute[local simp] jO.cond Nd.d_eq nd_t nd_dr nd_td ndsD aQ bL lH dE cV
theorem Fm{p:PS}(h:(nameP p).2.is [46]=true):placeP p=(.mk 35 ((nameP p).1++46::(nameP ((nameP p).2.took [46])).1) 0 [],(nameP ((nameP p).2.took [46])).2):=by
 rw[cB h];unfold placeP;rw[if_pos h]
theorem Ba{p:PS}(h:(nameP p).2.is [46]=false):placeP p=(.mk 34 (nameP p).1 0 [],(nameP p).2.took [46]):=by
 have h':¬(nameP p).2.is [46]=true:=by simp[h]
 rw[fW h'];unfold placeP;rw[if_neg h']
theorem nQ{p:PS}(h:bH p.l):(nameP p).1.length<=17:=by
 unfold nameP;split
 ·exact lD h
 ·simp
theorem IV(p:PS)(hg:bH p.l):iE Tryz.prog 185 [.bx 0 0] (dE p) (dE (placeP p).2) (.d (placeP p).1.d):=by
 unfold dE;refine eR Tryz.func185 rfl Tryz.ntmps185 Tryz.results185 λw0 X hp=>?_;refine aA ?_;simp;refine aX hT hW (λ|5=>some (.gen ⟨[(0,0)],[],[],dE (nameP p).2,.d (.str (nameP p).1)⟩)|_=>none) ?_;simp;refine⟨yQ p,?_⟩;refine aD ?_;refine aX hT hW (λ|8=>some (.gen ⟨[(0,0)],[],[],dE ((nameP p).2.took [46]),.d (.bool ((nameP p).2.is [46]))⟩)|_=>none) ?_;simp;refine⟨iY (nameP p).2 [46],?_⟩;refine aC ?_;simp;refine⟨λh2=>?_,λh2=>?_⟩
 ·have l1:=nQ hg;have l2:=nQ (p:=(nameP p).2.took [46]) (dO (cO hg).2.1);refine eF.rd [[0],[0],[0]] [[],[],[],[],[0],[],[],[3]] (λ|13=>some (.gen ⟨[(0,0)],[],[],dE (nameP ((nameP p).2.took [46])).2,.d (.str (nameP ((nameP p).2.took [46])).1)⟩)|_=>none) ?_;simp;refine⟨⟨⟨by omega,yQ _⟩,by omega⟩,?_⟩;refine aA ?_;simp;refine aF ?_;simp;have e:=Fm h2;refine aU (x:=(placeP p).1.d) (by simp[e]) ?_;simp;exact aB hp [0] [(0,0)] (hH:=by simp[e])
 ·refine aE ?_;simp;refine aA ?_;simp;refine aF ?_;simp;have e:=Ba h2;refine aU (x:=(placeP p).1.d) (by simp[e]) ?_;simp;exact aB hp [0] [(0,0)] (hH:=by simp[e])
def Ye(o:aM×Int):DV:=.agg [.str o.1,aG o.2]
theorem LO:jP 6 2 AA=opsL.map Ye:=by kernel_rfl
def Vo(p:PS)(lv:Int):List (Nat×aV):=[(0,.box false [.d (lH p.l),.d (aG p.e)]),(1,.box false [.d (aG lv)]),(2,.box false [.bx 0 0])]
def Vp(p:PS)(lv:Int)(o:aM×Int):Bool:=decide (o.2=lv)&&decide (o.1=p.peek)
attribute[local simp] Vo Ye
theorem Xi(p:PS)(lv:Int)(o:aM×Int):iE Tryz.prog 226 [.d (Ye o),.bx 1 0,.bx 2 0] (Vo p lv) (Vo p lv) (.d (.bool (Vp p lv o))):=by
 unfold Vo;refine gJ Tryz.func226 rfl Tryz.ntmps226 Tryz.results226 λw0 X hp=>?_;refine aA ?_;simp;refine aD ?_;refine eF.rd [[],[],[],[],[],[0],[0]] [[],[],[],[],[],[],[],[],[0]] (λ|13=>some (.gen ⟨[(0,0)],[],[],dE p,.d (.str p.peek)⟩)|_=>none) ?_;simp;refine⟨λ_=>lC p,?_⟩;refine aF ?_;simp;by_cases hq:o.2=lv
 ·exact aB hp [4] [(0,0),(1,1),(2,2)] (by simp[hq,Vp,Bool.beq_eq_decide_eq]) (by simp[hq])
 ·exact aB hp [4] [(0,0),(1,1),(2,2)] (by simp[hq,Vp]) (by simp[hq])
theorem LP(p:PS)(lv:Int)(l:List (aM×Int)):iE Tryz.prog 225 [.d (.sl (l.map Ye)),.fn 226 [.bx 1 0,.bx 2 0]] (Vo p lv) (Vo p lv) (.d (aG (nA (Vp p lv) l))):=by
 unfold Vo;refine gJ Tryz.func225 rfl Tryz.ntmps225 Tryz.results225 λw0 X hp=>?_;refine eF.len (t:=0) rfl λhlen=>?_;simp at hlen;refine aA ?_;simp;refine aD ?_;refine aA ?_;simp;refine aH ?_;refine aR (ι:=Nat) (λi=>aO [(0,.d (.sl (l.map Ye))),(1,.fn 226 [.bx 1 0,.bx 2 0]),(7,.d (aG l.length)),(8,.d (aG i))]) (λi=>aI [(0,.box false [.d (lH p.l),.d (aG p.e)]),(1,.box false [.d (aG lv)]),(2,.box false [.bx 0 0])]) (λi=>i<=l.length/\Nq (Vp p lv) l i) (λi=>l.length-i) 0 (aB hp [0,1,7,8] [(0,0),(1,1),(2,2)]) (⟨Nat.zero_le _,Nq.zero⟩) λi hi2=>?_;refine aA ?_;simp;refine aD ?_;refine aC ?_;simp;refine⟨λh2=>?_,λh2=>?_⟩
 ·refine aE ?_;simp;refine aD ?_;refine aH ?_;refine aA ?_;simp;refine aD ?_;have h2':i<l.length:=by omega
  have ho:=Xi p lv l[i];refine eF.ro hT hW (λ|16=>some (.gen ⟨[(0,0),(1,1),(2,2)],[],[],Vo p lv,.d (.bool (Vp p lv l[i]))⟩)|_=>none) ?_;simp[h2',dS];refine⟨ho,?_⟩;refine aC ?_;simp;refine⟨λh4=>?_,λh4=>?_⟩
  ·refine aA ?_;simp;refine aF ?_;simp;exact aB hp [4] [(0,0),(1,1),(2,2)] (by simp[qR (hi2.2.found h2 h4)])
  ·refine aE ?_;simp;refine aJ ?_;simp;refine⟨by omega,?_⟩;refine Nf.mk (i+1) (aB hp [0,1,7,8] [(0,0),(1,1),(2,2)]) ?_ ?_
   ·exact⟨h2,hi2.2.succ h2 h4⟩
   ·omega
 ·refine bA ?_;simp;refine aA ?_;simp;refine aF ?_;simp;exact aB hp [4] [(0,0),(1,1),(2,2)] (by simp[qS (hi2.2.none (by omega))])
theorem Ta(q:aM×Int->Bool):(List.range 6).find? (λi=>q (opsL.getD i ([],0)))=opsL.findIdx? q:=by
 rw[show List.range 6=[0,1,2,3,4,5] from rfl];unfold opsL;simp only[List.find?_cons,List.findIdx?_cons,List.getD_cons_zero,List.getD_cons_succ,List.find?_nil,List.findIdx?_nil];cases q ([60],1)<;>cases q ([60,61],1)<;>cases q ([61,61],1)<;>cases q ([43],2)<;>cases q ([45],2)<;>cases q ([42],3)<;>rfl
theorem NJ(p:PS)(lv:Int):opI lv p.peek=nA (Vp p lv) opsL:=by
 unfold opI nA;rw[<-Ta (Vp p lv)];rfl
def Vq(l:List (aM×Int)):List DV:=l.flatMap λo=>[.str o.1,aG o.2]
theorem Tb:AA=Vq opsL:=by kernel_rfl
theorem NK:∀(l:List (aM×Int)) (k:Nat) (h:k<l.length),(Vq l)[k*2]?.getD default=.str l[k].1
 |o::l,0,_=>rfl
 |o::l,k+1,h=>by
  have ih:=NK l k (by simpa using h);have e:Vq (o::l)=.str o.1::aG o.2::Vq l:=rfl;rw[e,show(k+1)*2=k*2+1+1 by omega];exact ih
theorem sH{p:PS}{lv:Int}(h:0<=opI lv p.peek):AA[(opI lv p.peek).toNat*2]?.getD default=.str p.peek/\p.is p.peek=true/\opI lv p.peek<6:=by
 rw[NJ]at h|-;unfold nA at h|-;split at h
 ·rename_i i hi;obtain⟨h1,h2,_⟩:=List.findIdx?_eq_some_iff_getElem.1 hi;simp only[Vp,Bool.and_eq_true,decide_eq_true_eq]at h2;have hne:∀o∈opsL,o.1≠[]:=by decide
  have hn:=hne _ (List.getElem_mem h1);rw[Tb,Int.toNat_natCast,NK opsL i h1,h2.2];rw[h2.2]at hn;have:i<6:=h1;exact⟨rfl,eE.2 ⟨hn,rfl⟩,by omega⟩
 ·omega
theorem xI{p:PS}{lv:Int}(h:0<=opI lv p.peek):opP lv p=(opI lv p.peek,p.took p.peek):=by
 rw[cB (sH h).2.1];unfold opP;rw[if_pos h]
theorem Fn{p:PS}{lv:Int}(h:opI lv p.peek<0):opP lv p=(opI lv p.peek,p):=by
 unfold opP;rw[if_neg (by omega)]
theorem yW(p:PS)(lv:Int):iE Tryz.prog 208 [.bx 0 0,.d (aG lv)] (dE p) (dE (opP lv p).2) (.d (aG (opP lv p).1)):=by
 unfold dE;refine gJ Tryz.func208 rfl Tryz.ntmps208 Tryz.results208 λw0 X hp=>?_;refine aA ?_;simp;refine aD ?_;have ho:=LP p lv opsL;have hgl:=Aa;rw[<-NJ]at ho;refine eF.ro hT hW (λ|8=>some (.gen ⟨[(0,0),(3,1),(2,2)],[],[],Vo p lv,.d (aG (opI lv p.peek))⟩)|_=>none) ?_;simp[LO];refine⟨⟨by omega,ho⟩,?_⟩;refine aD ?_;refine aA ?_;simp;refine aC ?_;simp;refine⟨λh2=>?_,λh2=>?_⟩
 ·have eo:=xI h2;obtain⟨s1,s2,s3⟩:=sH h2;refine eF.rd [] [[],[],[],[],[],[0]] (λ|16=>some (.gen ⟨[(0,0)],[],[],dE (p.took p.peek),.d (.bool (p.is p.peek))⟩)|_=>none) ?_;simp[s1];refine⟨⟨⟨⟨h2,s3⟩,by omega⟩,iY p p.peek⟩,?_⟩;refine aA ?_;simp;refine aF ?_;simp;exact aB hp [4] [(0,0)] (by simp[eo]) (by simp[eo])
 ·have eo:=Fn h2;refine aE ?_;simp;refine aA ?_;simp;refine aF ?_;simp;exact aB hp [4] [(0,0)] (by simp[eo]) (by simp[eo])
end
section
attribute[local simp] jO.cond Nd.d_eq nd_t nd_dr nd_td ndsD aQ bL lH dE cV
structure lJ(n:Nat)(g:FuncId)(x:PS->Nd×PS):Prop where
 ok:∀q:PS,q.l.length<n->bH q.l->iE Tryz.prog g [.bx 0 0] (dE q) (dE (x q).2) (.d (x q).1.d)
 le:∀q:PS,q.l.length<n->bH q.l->(x q).2.l.length<=q.l.length/\bH (x q).2.l
structure YN where
 f:Nat
 n:Nd
 q:PS
theorem Fo{lv:Int}{x:PS->Nd×PS}{f:Nat}{n:Nd}{q:PS}(hf:q.l.length<f)(h:¬q.e=0):chainF lv x f n q=(n,q):=by
 obtain⟨k,rfl⟩:∃k,f=k+1:=⟨f-1,by omega⟩;rw[chainF,if_pos h]
theorem Dk{lv:Int}{x:PS->Nd×PS}{f:Nat}{n:Nd}{q:PS}(hf:q.l.length<f)(h:q.e=0)(ho:(opP lv q).1<0):chainF lv x f n q=(n,(opP lv q).2):=by
 obtain⟨k,rfl⟩:∃k,f=k+1:=⟨f-1,by omega⟩;rw[chainF,if_neg (by simp[h]),if_pos ho]
theorem IW{lv:Int}{x:PS->Nd×PS}{f:Nat}{n:Nd}{q:PS}(hf:q.l.length<f)(h:q.e=0)(ho:0<=(opP lv q).1):
 chainF lv x f n q=chainF lv x (f-1) (.mk (26+(opP lv q).1) [] 0 [n,(x (opP lv q).2).1]) (x (opP lv q).2).2:=by
 obtain⟨k,rfl⟩:∃k,f=k+1:=⟨f-1,by omega⟩;rw[chainF,if_neg (by simp[h]),if_neg (by omega)];rfl
theorem BN{lv:Int}{q:PS}(ho:0<=(opP lv q).1):(opP lv q).2.l.length+1=q.l.length/\(opP lv q).1<=5:=by
 have h:0<=opI lv q.peek:=ho;obtain⟨_,h2,h3⟩:=sH h;rw[xI h,cB h2];exact⟨fK h2,by simp only;omega⟩
theorem IX(p:PS)(lv:Int)(x:PS->Nd×PS)(g:FuncId)(m:Nat)(hx:lJ m g x)(hm:p.l.length<m)(hg:bH p.l):iE Tryz.prog 223 [.bx 0 0,.d (aG lv),.bm g [.bx 0 0]] (dE p) (dE (chainP lv x p).2) (.d (chainP lv x p).1.d):=by
 unfold dE;refine eR Tryz.func223 rfl Tryz.ntmps223 Tryz.results223 λw0 X hp=>?_;refine aA ?_;simp;refine aD ?_;have h1:=hx.ok p hm hg;refine eF.ro hT hW (λ|10=>some (.gen ⟨[(0,0)],[],[],dE (x p).2,.d (x p).1.d⟩)|_=>none) ?_;simp[dS];refine⟨by simpa using h1,?_⟩;refine aD ?_;refine aH ?_;refine aR (ι:=YN) (λ⟨f,n,q⟩=>aO [(0,.bx 0 0),(1,.d (aG lv)),(2,.bm g [.bx 0 0]),(6,.bx 6 0),(7,.bx 7 0)]) (λ⟨f,n,q⟩=>aI [(0,.box false [.d (lH q.l),.d (aG q.e)]),(6,.box false [.d (aG 0),.d (.str []),.d (aG 0),.nl]),(7,.box false [.d (aG n.kind),.d (.str n.text),.d (aG n.n),.d (ndsD n.kids)])]) (λ⟨f,n,q⟩=>q.l.length<f/\bH q.l/\q.l.length<=p.l.length/\chainP lv x p=chainF lv x f n q) (λ⟨f,n,q⟩=>q.l.length) ⟨(x p).2.l.length+1,(x p).1,(x p).2⟩ (aB hp [0,1,2,6,7] [(0,0),(6,6),(7,7)]) (⟨Nat.lt_succ_self _,(hx.le p hm hg).2,(hx.le p hm hg).1,rfl⟩) λ⟨f,n,q⟩ hi2=>?_;refine aD ?_;refine aA ?_;simp;refine aC ?_;simp;refine⟨λh2=>?_,λh2=>?_⟩
 ·refine aE ?_;simp;refine aH ?_;refine aD ?_;have ho:=yW q lv;refine eF.ro hT hW (λ|18=>some (.gen ⟨[(0,0)],[],[],dE (opP lv q).2,.d (aG (opP lv q).1)⟩)|_=>none) ?_;simp;refine⟨ho,?_⟩;refine aD ?_;refine aA ?_;simp;refine aC ?_;simp;refine⟨λh4=>?_,λh4=>?_⟩
  ·refine bA ?_;simp;refine aA ?_;simp;refine aF ?_;simp;have e:chainP lv x p=(n,(opP lv q).2):=by rw[hi2.2.2.2];exact Dk hi2.1 h2 h4
   exact aB hp [0] [(0,0)] (by simp[e]) (by simp[e])
  ·refine aE ?_;simp;obtain⟨ol,or⟩:=BN h4;have gg:=vR (lv:=lv) hi2.2.1;have hc:=hx.ok (opP lv q).2 (by omega) gg.2;refine eF.rd [[0,26],[0,26],[0]] [[],[],[],[],[0],[26],[],[7]] (λ|25=>some (.gen ⟨[(0,0)],[],[],dE (x (opP lv q).2).2,.d (x (opP lv q).2).1.d⟩)|_=>none) ?_;simp[dS];refine⟨⟨⟨⟨by omega,by omega⟩,by simpa using hc⟩,by decide⟩,?_⟩;refine wU (bJ 7 [26] (fz:=false) (cs:=[.d (aG (26+(opP lv q).1)),.d (.str []),.d (aG 0),.ow 26 0 2]) (ds:=[aG (26+(opP lv q).1),.str [],aG 0,.sl [n.d,(x (opP lv q).2).1.d]]) (by simp) (by simp) (by simp) (by simp[aV.mut])) ?_;simp;refine Nf.mk ⟨f-1,.mk (26+(opP lv q).1) [] 0 [n,(x (opP lv q).2).1],(x (opP lv q).2).2⟩ (aB hp [0,1,2,6,7] [(0,0),(6,6),(7,7)]) ?_ ?_
   ·have le:=hx.le (opP lv q).2 (by omega) gg.2;have i1:=hi2.1;have i3:=hi2.2.2.1;refine⟨?_,le.2,?_,?_⟩
    ·show(x (opP lv q).2).2.l.length<f-1;omega
    ·show(x (opP lv q).2).2.l.length<=p.l.length;omega
    ·rw[hi2.2.2.2];exact IW hi2.1 h2 h4
   ·have le:=hx.le (opP lv q).2 (by omega) gg.2;show(x (opP lv q).2).2.l.length<q.l.length;omega
 ·refine bA ?_;simp;refine aA ?_;simp;refine aF ?_;simp;have e:chainP lv x p=(n,q):=by rw[hi2.2.2.2];exact Fo hi2.1 h2
  exact aB hp [0] [(0,0)] (by simp[e]) (by simp[e])
end
section
attribute[local simp] jO.cond Nd.d_eq nd_t nd_dr nd_td ndsD aQ bL lH dE cV
theorem Bb{ex:PS->Nd×PS}{p:PS}(h:p.is [40]=true):factP ex p=((ex (p.took [40])).1,(ex (p.took [40])).2.need [41]):=by
 rw[cB h];unfold factP;rw[if_pos h]
theorem Dl{ex:PS->Nd×PS}{p:PS}(h1:p.is [40]=false)(h2:p.is sKind=true):factP ex p=(.mk 36 [] 0 [],p.took sKind):=by
 rw[cB h2];unfold factP;rw[if_neg (by simp[h1]),if_pos h2]
theorem Bc{ex:PS->Nd×PS}{p:PS}(h1:p.is [40]=false)(h2:p.is sKind=false)(h3:¬p.peek=[])(h4:digitB (p.peek[0]?.getD 0)=true):factP ex p=(.mk 32 [] (numeralP 32 p).1 [],(numeralP 32 p).2):=by
 unfold factP;rw[if_neg (by simp[h1]),if_neg (by simp[h2])];cases e:p.peek with
 |nil=>exact absurd e h3
 |cons c r=>
  rw[e]at h4;have h4:digitB c=true:=h4;simp only[h4,if_true]
theorem Bd{ex:PS->Nd×PS}{p:PS}(h1:p.is [40]=false)(h2:p.is sKind=false)(h3:¬p.peek=[]->digitB (p.peek[0]?.getD 0)=false)(h4:p.peek.take 1=[36]):factP ex p=(.mk 33 (localP p).1 0 [],(localP p).2):=by
 unfold factP;rw[if_neg (by simp[h1]),if_neg (by simp[h2])];cases e:p.peek with
 |nil=>rw[e]at h4;cases h4
 |cons c r=>
  rw[e]at h3 h4;have h3:digitB c=false:=h3 (by simp);have h4:c=36:=by simpa using h4
  simp[h4];decide
theorem Be{ex:PS->Nd×PS}{p:PS}(h1:p.is [40]=false)(h2:p.is sKind=false)(h3:¬p.peek=[]->digitB (p.peek[0]?.getD 0)=false)(h4:¬p.peek.take 1=[36]):factP ex p=placeP p:=by
 unfold factP;rw[if_neg (by simp[h1]),if_neg (by simp[h2])];cases e:p.peek with
 |nil=>rfl
 |cons c r=>
  rw[e]at h3 h4;have h3:digitB c=false:=h3 (by simp);have h4:¬c=36:=by simpa using h4
  simp[h3,h4]
theorem Vr(p:PS)(n:Nat)(ex:PS->Nd×PS)(hE:lJ n 182 ex)(hn:p.l.length<n+1)(hg:bH p.l):iE Tryz.prog 238 [.bx 0 0] (dE p) (dE (factP ex p).2) (.d (factP ex p).1.d):=by
 unfold dE;refine eR Tryz.func238 rfl Tryz.ntmps238 Tryz.results238 λw0 X hp=>?_;refine aA ?_;simp;refine aX hT hW (λ|6=>some (.gen ⟨[(0,0)],[],[],dE p,.d (.str p.peek)⟩)|_=>none) ?_;simp;refine⟨lC p,?_⟩;refine aD ?_;refine aH ?_;refine aX hT hW (λ|9=>some (.gen ⟨[(0,0)],[],[],dE (p.took [40]),.d (.bool (p.is [40]))⟩)|_=>none) ?_;simp;refine⟨iY p [40],?_⟩;refine aC ?_;simp;refine⟨λh2=>?_,λh2=>?_⟩
 ·refine aD ?_;have hl:=fK h2;rw[<-cB h2]at hl;have hx:=hE.ok (p.took [40]) (by omega) (dO hg);refine eF.ro hT hW (λ|11=>some (.gen ⟨[(0,0)],[],[],dE (ex (p.took [40])).2,.d (ex (p.took [40])).1.d⟩)|_=>none) ?_;simp;refine⟨by simpa using hx,?_⟩;refine aD ?_;have hn4:=jU (ex (p.took [40])).2 [41];refine eF.ro hT hW (λ|13=>some (.gen ⟨[(0,0)],[],[],dE ((ex (p.took [40])).2.need [41]),.tup []⟩)|_=>none) ?_;simp;refine⟨hn4,?_⟩;refine aA ?_;simp;refine aF ?_;simp;have e:=Bb (ex:=ex) h2;exact aB hp [0] [(0,0)] (by simp[e]) (by simp[e])
 ·have e2:p.took [40]=p:=fW (by simp[h2]);simp only[e2];refine aX hT hW (λ|17=>some (.gen ⟨[(0,0)],[],[],dE (p.took [107,105,110,100]),.d (.bool (p.is [107,105,110,100]))⟩)|_=>none) ?_;simp;refine⟨iY p [107,105,110,100],?_⟩;refine aC ?_;simp;refine⟨λh6=>?_,λh6=>?_⟩
  ·refine aA ?_;simp;refine aF ?_;simp;have e:=Dl (ex:=ex) h2 h6;refine aU (x:=(factP ex p).1.d) (by simp[e]) ?_;simp;exact aB hp [0] [(0,0)] (hH:=by simp[e,sKind])
  ·have e6:p.took [107,105,110,100]=p:=fW (by simp[h6]);simp only[e6];refine aD ?_;have hd:=uE (p.peek[0]?.getD 0);refine eF.ro hT hW (λ|25=>some<| .plain ⟨.d (.bool (digitB (p.peek[0]?.getD 0))),true⟩|_=>none) ?_;simp;refine⟨⟨λh=>List.length_pos_iff.2 h,λ_=>hd⟩,?_⟩;refine aC ?_;simp;refine⟨λg1 g2=>?_,λg=>?_⟩
   ·refine aD ?_;have hnu:=oV p 32 hg (by decide);refine eF.ro hT hW (λ|28=>some (.gen ⟨[(0,0)],[],[],dE (numeralP 32 p).2,.d (aG (numeralP 32 p).1)⟩)|_=>none) ?_;simp;refine⟨hnu,?_⟩;refine aF ?_;simp;have e:=Bc (ex:=ex) h2 h6 g1 g2;refine aU (x:=(factP ex p).1.d) (by simp[e]) ?_;simp;exact aB hp [0] [(0,0)] (hH:=by simp[e])
   ·refine aD ?_;have hpf:=nP p.peek [36] (by have:=lD hg;omega) (by decide);refine eF.ro hT hW (λ|32=>some<| .plain ⟨.d (.bool (decide (p.peek.take 1=[36]))),true⟩|_=>none) ?_;simp;refine⟨hpf,?_⟩;refine aC ?_;simp;refine⟨λh10=>?_,λh10=>?_⟩
    ·refine aD ?_;have hlo:=yR p hg;refine eF.ro hT hW (λ|34=>some (.gen ⟨[(0,0)],[],[],dE (localP p).2,.d (.str (localP p).1)⟩)|_=>none) ?_;simp;refine⟨hlo,?_⟩;refine aF ?_;simp;have e:=Bd (ex:=ex) h2 h6 g h10;refine aU (x:=(factP ex p).1.d) (by simp[e]) ?_;simp;exact aB hp [0] [(0,0)] (hH:=by simp[e])
    ·refine aE ?_;simp;refine aD ?_;have hpl:=IV p hg;refine eF.ro hT hW (λ|37=>some (.gen ⟨[(0,0)],[],[],dE (placeP p).2,.d (placeP p).1.d⟩)|_=>none) ?_;simp;refine⟨by simpa using hpl,?_⟩;refine aF ?_;simp;have e:=Be (ex:=ex) h2 h6 g h10;exact aB hp [0] [(0,0)] (by simp[e]) (by simp[e])
theorem Rt.le{n:Nat}{cls:Int->Bool}{x:PS->Nd×PS}(h:Rt n cls x)(q:PS)(hq:q.l.length<n)(hg:bH q.l):(x q).2.l.length<=q.l.length/\bH (x q).2.l:=⟨(h q hq hg).1,(h q hq hg).2.1⟩
theorem lJ.fact{n:Nat}{ex:PS->Nd×PS}(hE:lJ n 182 ex)(hR:Rt n isExprK ex):lJ (n+1) 238 (factP ex):=
 ⟨λq hq hg=>Vr q n ex hE hq hg,λq hq hg=>(CH hR).le q hq hg⟩
theorem Vs(p:PS)(n:Nat)(ex:PS->Nd×PS)(hE:lJ n 182 ex)(hR:Rt n isExprK ex)(hn:p.l.length<n+1)(hg:bH p.l):iE Tryz.prog 224 [.bx 0 0] (dE p) (dE (prodP ex p).2) (.d (prodP ex p).1.d):=by
 unfold dE;refine eR Tryz.func224 rfl Tryz.ntmps224 Tryz.results224 λw0 X hp=>?_;refine aA ?_;simp;refine aD ?_;have hc:=IX p 3 (factP ex) 238 (n+1) (hE.fact hR) hn hg;refine eF.ro hT hW (λ|6=>some (.gen ⟨[(0,0)],[],[],dE (prodP ex p).2,.d (prodP ex p).1.d⟩)|_=>none) ?_;simp;refine⟨by simpa [prodP]using hc,?_⟩;refine aF ?_;simp;exact aB hp [0] [(0,0)]
theorem lJ.prod{n:Nat}{ex:PS->Nd×PS}(hE:lJ n 182 ex)(hR:Rt n isExprK ex):lJ (n+1) 224 (prodP ex):=
 ⟨λq hq hg=>Vs q n ex hE hR hq hg,λq hq hg=>(zZ (CH hR)).le q hq hg⟩
theorem Tc(p:PS)(n:Nat)(ex:PS->Nd×PS)(hE:lJ n 182 ex)(hR:Rt n isExprK ex)(hn:p.l.length<n+1)(hg:bH p.l):iE Tryz.prog 207 [.bx 0 0] (dE p) (dE (sumP ex p).2) (.d (sumP ex p).1.d):=by
 unfold dE;refine eR Tryz.func207 rfl Tryz.ntmps207 Tryz.results207 λw0 X hp=>?_;refine aA ?_;simp;refine aD ?_;have hc:=IX p 2 (prodP ex) 224 (n+1) (hE.prod hR) hn hg;refine eF.ro hT hW (λ|6=>some (.gen ⟨[(0,0)],[],[],dE (sumP ex p).2,.d (sumP ex p).1.d⟩)|_=>none) ?_;simp;refine⟨by simpa [sumP]using hc,?_⟩;refine aF ?_;simp;exact aB hp [0] [(0,0)]
theorem Ap{ex:PS->Nd×PS}{p:PS}(h:0<=(opP 1 (sumP ex p).2).1):exprB ex p=(.mk (26+(opP 1 (sumP ex p).2).1) [] 0 [(sumP ex p).1,(sumP ex (opP 1 (sumP ex p).2).2).1],(sumP ex (opP 1 (sumP ex p).2).2).2):=by
 unfold exprB;simp only[];rw[if_pos h]
theorem Aq{ex:PS->Nd×PS}{p:PS}(h:(opP 1 (sumP ex p).2).1<0):exprB ex p=((sumP ex p).1,(opP 1 (sumP ex p).2).2):=by
 unfold exprB;simp only[];rw[if_neg (by omega)]
theorem LQ(p:PS)(n:Nat)(ex:PS->Nd×PS)(hE:lJ n 182 ex)(hR:Rt n isExprK ex)(hn:p.l.length<n+1)(hg:bH p.l):iE Tryz.prog 182 [.bx 0 0] (dE p) (dE (exprB ex p).2) (.d (exprB ex p).1.d):=by
 unfold dE;refine eR Tryz.func182 rfl Tryz.ntmps182 Tryz.results182 λw0 X hp=>?_;refine aA ?_;simp;refine aD ?_;have hc:=Tc p n ex hE hR hn hg;have hl1:=(Gy hR).le p hn hg;refine eF.ro hT hW (λ|6=>some (.gen ⟨[(0,0)],[],[],dE (sumP ex p).2,.d (sumP ex p).1.d⟩)|_=>none) ?_;simp;refine⟨by simpa using hc,?_⟩;refine aD ?_;refine aD ?_;have ho:=yW (sumP ex p).2 1;refine eF.ro hT hW (λ|8=>some (.gen ⟨[(0,0)],[],[],dE (opP 1 (sumP ex p).2).2,.d (aG (opP 1 (sumP ex p).2).1)⟩)|_=>none) ?_;simp;refine⟨ho,?_⟩;refine aA ?_;simp;refine aC ?_;simp;refine⟨λh3=>?_,λh3=>?_⟩
 ·refine aD ?_;have hol:=BN h3;have hog:=vR (lv:=1) hl1.2;have hc4:=Tc (opP 1 (sumP ex p).2).2 n ex hE hR (by omega) hog.2;refine eF.rd [[0,16],[0,16],[0]] [[],[],[],[],[0],[16],[],[2]] (λ|15=>some (.gen ⟨[(0,0)],[],[],dE (sumP ex (opP 1 (sumP ex p).2).2).2,.d (sumP ex (opP 1 (sumP ex p).2).2).1.d⟩)|_=>none) ?_;simp;refine⟨⟨⟨⟨by omega,by omega⟩,by simpa using hc4⟩,by decide⟩,?_⟩;refine aF ?_;simp;have e:=Ap h3;refine aU (x:=(exprB ex p).1.d) (by simp[e]) ?_;simp;exact aB hp [0] [(0,0)] (hH:=by simp[e])
 ·refine aE ?_;simp;refine aA ?_;simp;refine aF ?_;simp;have e:=Aq h3;exact aB hp [0] [(0,0)] (by simp[e]) (by simp[e])
theorem Dm:∀n:Nat,lJ n 182 (exprP false n)
 |0=>⟨λq h _=>absurd h (Nat.not_lt_zero _),λq h _=>absurd h (Nat.not_lt_zero _)⟩
 |n+1=>by
  have e:∀q,exprP false (n+1) q=exprB (exprP false n) q:=λq=>by rw[exprP,if_neg (by simp)]
  refine⟨λq hq hg=>?_,λq hq hg=>(yC (n+1)).le q hq hg⟩;rw[e];exact LQ q n (exprP false n) (Dm n) (yC n) hq hg
end
section
attribute[local simp] jO.cond Nd.d_eq nd_t nd_dr nd_td ndsD aQ bL lH dE cV
theorem rA{c:Prop}[Decidable c]{f:Nat->aV}{A:aV}{x:Nat}(h:f 0=A):bQ f (if c then [(0,A)]else []) x=f x:=by
 by_cases hc:c
 ·rw[if_pos hc];subst h;simp only[bQ,bY];split
  ·rename_i e;rw[e]
  ·rfl
 ·rw[if_neg hc];rfl
def LR(n:Nat)(x:PS->Nd×PS):Prop:=∀q:PS,q.l.length<n->bH q.l->q.e=0->(x q).2.e≠0\/(x q).2.l.length<q.l.length
structure Yx where
 f:Nat
 ks:List Nd
 q:PS
theorem Fp{st:PS->Nd×PS}{ks:List Nd}{q:PS}(h:q.e=0->q.peek=[125]):∀f,stmtsF st f ks q=(ks,q)
 |0=>rfl
 |f+1=>by
  rw[stmtsF,if_pos];by_cases e:q.e=0
  ·exact .inr (h e)
  ·exact .inl e
theorem IY{st:PS->Nd×PS}{ks:List Nd}{q:PS}{f:Nat}(hf:q.l.length<f)(h:q.e=0)(hp:¬q.peek=[125]):stmtsF st f ks q=stmtsF st (f-1) (ks++[(st q).1]) (st q).2:=by
 obtain⟨k,rfl⟩:∃k,f=k+1:=⟨f-1,by omega⟩;rw[stmtsF,if_neg]
 ·rfl
 ·rintro(e|e)
  ·exact e h
  ·exact hp e
theorem IZ(p:PS)(n:Nat)(st:PS->Nd×PS)(hS:lJ n 162 st)(hE:LR n st)(hn:p.l.length<n)(hg:bH p.l)(hb:p.l.length<=1100000):iE Tryz.prog 125 [.bx 0 0] (dE p) (dE (blockB st p).2) (.d (blockB st p).1.d):=by
 unfold dE;refine eR Tryz.func125 rfl Tryz.ntmps125 Tryz.results125 λw0 X hp=>?_;refine aA ?_;simp;refine aA ?_;simp;refine gH (fz:=false) (cs:=[.d (aG 8),.d (.str []),.d (aG 0),.nl]) 3 3 1022 4 (by decide) ⟨by simp,by simp,by simp,?_⟩;simp;refine aD ?_;have hn2:=jU p [123];have gl:=bT (s:=[123]) hg;refine eF.ro hT hW (λ|6=>some (.gen ⟨[(0,0)],[],[],dE (p.need [123]),.tup []⟩)|_=>none) ?_;simp;refine⟨hn2,?_⟩;refine aD ?_;refine aH ?_;refine aR (ι:=Yx) (λ⟨f,ks,q⟩=>aO [(0,.bx 0 0),(2,.bx 2 0),(3,.bx 3 0)]) (λ⟨f,ks,q⟩=>aI [(0,.box false [.d (lH q.l),.d (aG q.e)]),(2,.box false [.d (aG 0),.d (.str []),.d (aG 0),.nl]),(3,.box false [.d (aG 8),.d (.str []),.d (aG 0),.ow 1022 0 ks.length]),(1022,.row false 4 (ks.map Nd.d))]) (λ⟨f,ks,q⟩=>(q.e=0->q.l.length<f)/\bH q.l/\q.l.length<=p.l.length/\ks.length+q.l.length<=p.l.length+(if q.e=0 then 0 else 1)/\stmtsF st ((p.need [123]).l.length+1) [] (p.need [123])=stmtsF st f ks q) (λ⟨f,ks,q⟩=>2*q.l.length+(if q.e=0 then 1 else 0)) ⟨(p.need [123]).l.length+1,[],p.need [123]⟩ (aB hp [0,2,3] [(0,0),(2,2),(3,3),(1022,1022)]) (⟨λ_=>Nat.lt_succ_self _,gl.2,gl.1,by have:=gl.1;simp only[List.length_nil];omega,rfl⟩) λ⟨f,ks,q⟩ hi3=>?_;refine aD ?_;refine aD ?_;have hpk:=lC q;refine eF.ro hT hW (λ|14=>some (.gen ⟨[(0,0)],[],[],dE q,.d (.str q.peek)⟩)|_=>none) ?_;simp[rA];refine⟨λ_=>hpk,?_⟩;refine aC ?_;simp;refine⟨λg1 g2=>?_,λg=>?_⟩
 ·refine aE ?_;simp;refine aH ?_;have ha:q.l.length<=p.l.length:=hi3.2.2.1;have hk:ks.length+q.l.length<=p.l.length:=by have z:=hi3.2.2.2.1;simp only[g1,if_true]at z;omega
  have hs:=hS.ok q (by omega) hi3.2.1;have hle:=hS.le q (by omega) hi3.2.1;have heat:=hE q (by omega) hi3.2.1 g1;refine eF.rd [[0,21],[0,21]] [[],[],[],[0],[21],[22,1022],[],[3]] (λ|20=>some (.gen ⟨[(0,0)],[],[],dE (st q).2,.d (st q).1.d⟩)|_=>none) ?_;simp;refine⟨⟨by simpa using hs,by omega,by omega⟩,?_⟩;refine Nf.mk ⟨f-1,ks++[(st q).1],(st q).2⟩ (aB hp [0,2,3] [(0,0),(2,2),(3,3),(22,1022)]) ?_ ?_
  ·refine⟨λe=>?_,hle.2,?_,?_,?_⟩
   ·show(st q).2.l.length<f-1;have z:=hi3.1 g1;rcases heat with h|h
    ·exact absurd e h
    ·omega
   ·show(st q).2.l.length<=p.l.length;omega
   ·show(ks++[(st q).1]).length+(st q).2.l.length<=p.l.length+(if(st q).2.e=0 then 0 else 1);rw[List.length_append,List.length_singleton];by_cases e:(st q).2.e=0
    ·rw[if_pos e];rcases heat with h|h
     ·exact absurd e h
     ·omega
    ·rw[if_neg e];omega
   ·rw[hi3.2.2.2.2];exact IY (hi3.1 g1) g1 g2
  ·show 2*(st q).2.l.length+(if(st q).2.e=0 then 1 else 0)<2*q.l.length+(if q.e=0 then 1 else 0);rw[if_pos g1];by_cases e:(st q).2.e=0
   ·rw[if_pos e];rcases heat with h|h
    ·exact absurd e h
    ·omega
   ·rw[if_neg e];omega
 ·refine bA ?_;simp;refine aD ?_;have hn5:=jU q [125];refine eF.ro hT hW (λ|25=>some (.gen ⟨[(0,0)],[],[],dE (q.need [125]),.tup []⟩)|_=>none) ?_;simp;refine⟨hn5,?_⟩;refine aA ?_;simp;refine aF ?_;simp;have e:blockB st p=(.mk 8 [] 0 ks,q.need [125]):=by unfold blockB;simp only[];rw[hi3.2.2.2.2,Fp g]
  refine aU (x:=(blockB st p).1.d) (by simp[e]) ?_;simp;exact aB hp [0] [(0,0)] (hH:=by simp[e])
end
section
attribute[local simp] jO.cond Nd.d_eq nd_t nd_dr nd_td ndsD aQ bL lH dE cV
def cmdA(k:Int)(p:PS):aM×PS:=if k=19\/k=20 then localP p else if k=21\/k=25\/k=24 then([],p)else nameP p
theorem rB{k:Int}{p:PS}(h:bH p.l):(cmdA k p).2.l.length<=p.l.length/\bH (cmdA k p).2.l:=by
 unfold cmdA;split
 ·exact⟨(dR h).1,(dR h).2.1⟩
 ·split
  ·exact⟨Nat.le_refl _,h⟩
  ·exact⟨(cO h).1,(cO h).2.1⟩
theorem Dn{ex:PS->Nd×PS}{k:Int}{p:PS}(h:k=15\/k=22\/k=24):cmdP ex k p=(.mk k (cmdA k p).1 0 [(ex (cmdA k p).2).1],(ex (cmdA k p).2).2):=by
 unfold cmdP;simp only[];rw[if_pos h];rfl
theorem BO{ex:PS->Nd×PS}{k:Int}{p:PS}(h0:¬(k=15\/k=22\/k=24))(h:k=16\/k=23):cmdP ex k p=(.mk k (cmdA k p).1 0 [.mk 33 (localP (cmdA k p).2).1 0 []],(localP (cmdA k p).2).2):=by
 unfold cmdP;simp only[];rw[if_neg h0,if_pos h];rfl
theorem wB{ex:PS->Nd×PS}{k:Int}{p:PS}(h0:¬(k=15\/k=22\/k=24))(h1:¬(k=16\/k=23))(h:k=19\/k=21\/k=25):cmdP ex k p=(.mk k (cmdA k p).1 (numeralP k (cmdA k p).2).1 [],(numeralP k (cmdA k p).2).2):=by
 unfold cmdP;simp only[];rw[if_neg h0,if_neg h1,if_pos h];rfl
theorem rC{ex:PS->Nd×PS}{k:Int}{p:PS}(h0:¬(k=15\/k=22\/k=24))(h1:¬(k=16\/k=23))(h:¬(k=19\/k=21\/k=25)):cmdP ex k p=(.mk k (cmdA k p).1 0 [],(cmdA k p).2):=by
 unfold cmdP;simp only[];rw[if_neg h0,if_neg h1,if_neg h];rfl
def Yf(p:PS)(x:Nd):List (Nat×aV):=[(0,.box false [.d (lH p.l),.d (aG p.e)]),(1,.box false [.d (aG x.kind),.d (.str x.text),.d (aG x.n),.d (ndsD x.kids)])]
structure SPS where
 s:aM
 q:PS
theorem LS(p:PS)(n:Nat)(ex:PS->Nd×PS)(k:Int)(hk:0<=k/\k<37)(hE:lJ n 182 ex)(hn:p.l.length<n)(hg:bH p.l):iE Tryz.prog 183 [.bx 0 0,.bx 1 0] [(0,.box false [.d (lH p.l),.d (aG p.e)]),(1,.box false [.d (aG k),.d (.str []),.d (aG 0),.nl])] (Yf (cmdP ex k p).2 (cmdP ex k p).1) (.tup []):=by
 unfold Yf;refine rX Tryz.func183 rfl Tryz.ntmps183 Tryz.results183 λw0 X hp=>?_;refine aP (ι:=SPS) (λ⟨s,q⟩=>aO [(0,.bx 0 0),(1,.bx 1 0)]) (λ⟨s,q⟩=>aI [(0,.box false [.d (lH q.l),.d (aG q.e)]),(1,.box false [.d (aG k),.d (.str s),.d (aG 0),.nl])]) (λ⟨s,q⟩=>cmdA k p=(s,q)) ?_ λ⟨s,q⟩ hc8=>?_
 ·refine aA ?_;simp;refine aH ?_;refine aP (ι:=BC) (λ⟨b⟩=>aO [(0,.bx 0 0),(1,.bx 1 0),(7,.d (aG k)),(13,.d (.bool b))]) (λ⟨b⟩=>aI [(0,.box false [.d (lH p.l),.d (aG p.e)]),(1,.box false [.d (aG k),.d (.str []),.d (aG 0),.nl])]) (λ⟨b⟩=>b=true↔(k=19\/k=20)) ?_ λ⟨b⟩ hc4=>?_
  ·refine aA ?_;simp;refine aC ?_;simp;refine⟨λh2=>?_,λh2=>?_⟩
   ·refine aE ?_;simp;refine UV.mk ⟨decide (k=19)⟩ (aB hp [0,1,7,13] [(0,0),(1,1)]) ?_;simp[h2]
   ·refine aJ ?_;simp;refine UV.mk ⟨decide (k=20)⟩ (aB hp [0,1,7,13] [(0,0),(1,1)]) ?_;simp only[decide_eq_true_eq];omega
  ·refine aC ?_;simp;refine⟨λh4=>?_,λh4=>?_⟩
   ·have q4:=hc4.1 h4;have hlo:=yR p hg;refine eF.ro hT hW (λ|18=>some (.gen ⟨[(0,0)],[],[],dE (localP p).2,.d (.str (localP p).1)⟩)|_=>none) ?_;simp;refine⟨hlo,?_⟩;refine UV.mk ⟨(localP p).1,(localP p).2⟩ (aB hp [0,1] [(0,0),(1,1)]) ?_;unfold cmdA;rw[if_pos q4]
   ·have q4:¬(k=19\/k=20):=λq=>by simp[hc4.2 q]at h4
    refine aP (ι:=BC) (λ⟨b⟩=>aO [(0,.bx 0 0),(1,.bx 1 0),(7,.d (aG k)),(21,.d (.bool b))]) (λ⟨b⟩=>aI [(0,.box false [.d (lH p.l),.d (aG p.e)]),(1,.box false [.d (aG k),.d (.str []),.d (aG 0),.nl])]) (λ⟨b⟩=>b=true↔(k=21\/k=25\/k=24)) ?_ λ⟨b⟩ hc1=>?_
    ·refine aA ?_;simp;refine aC ?_;simp;refine⟨λh5=>?_,λh5=>?_⟩
     ·refine aE ?_;simp;refine UV.mk ⟨decide (k=21)⟩ (aB hp [0,1,7,21] [(0,0),(1,1)]) ?_;simp[h5]
     ·refine aA ?_;simp;refine aC ?_;simp;refine⟨λh6=>?_,λh6=>?_⟩
      ·refine aE ?_;simp;refine UV.mk ⟨decide (k=25)⟩ (aB hp [0,1,7,21] [(0,0),(1,1)]) ?_;simp[h6]
      ·refine aJ ?_;simp;refine UV.mk ⟨decide (k=24)⟩ (aB hp [0,1,7,21] [(0,0),(1,1)]) ?_;simp only[decide_eq_true_eq];omega
    ·refine aC ?_;simp;refine⟨λh1=>?_,λh1=>?_⟩
     ·have q1:=hc1.1 h1;refine aE ?_;simp;refine UV.mk ⟨[],p⟩ (aB hp [0,1] [(0,0),(1,1)]) ?_;unfold cmdA;rw[if_neg q4,if_pos q1]
     ·have q1:¬(k=21\/k=25\/k=24):=λq=>by simp[hc1.2 q]at h1
      have hna:=yQ p;refine eF.ro hT hW (λ|10=>some (.gen ⟨[(0,0)],[],[],dE (nameP p).2,.d (.str (nameP p).1)⟩)|_=>none) ?_;simp;refine⟨hna,?_⟩;refine UV.mk ⟨(nameP p).1,(nameP p).2⟩ (aB hp [0,1] [(0,0),(1,1)]) ?_;unfold cmdA;rw[if_neg q4,if_neg q1]
 ·refine aA ?_;simp;refine aH ?_;refine aP (ι:=BC) (λ⟨b⟩=>aO [(0,.bx 0 0),(1,.bx 1 0),(28,.d (aG k)),(29,.d (.bool b))]) (λ⟨b⟩=>aI [(0,.box false [.d (lH q.l),.d (aG q.e)]),(1,.box false [.d (aG k),.d (.str s),.d (aG 0),.nl])]) (λ⟨b⟩=>b=true↔(k=15\/k=22\/k=24)) ?_ λ⟨b⟩ hc12=>?_
  ·refine aA ?_;simp;refine aC ?_;simp;refine⟨λh9=>?_,λh9=>?_⟩
   ·refine aE ?_;simp;refine UV.mk ⟨decide (k=15)⟩ (aB hp [0,1,28,29] [(0,0),(1,1)]) ?_;simp[h9]
   ·refine aA ?_;simp;refine aC ?_;simp;refine⟨λh10=>?_,λh10=>?_⟩
    ·refine aE ?_;simp;refine UV.mk ⟨decide (k=22)⟩ (aB hp [0,1,28,29] [(0,0),(1,1)]) ?_;simp[h10]
    ·refine aJ ?_;simp;refine UV.mk ⟨decide (k=24)⟩ (aB hp [0,1,28,29] [(0,0),(1,1)]) ?_;simp only[decide_eq_true_eq];omega
  ·refine aC ?_;simp;refine⟨λh12=>?_,λh12=>?_⟩
   ·have q12:=hc12.1 h12;have ga:=rB (k:=k) hg;rw[hc8]at ga;have hx:=hE.ok q (by have:=ga.1;simp only at this;omega) ga.2;refine eF.ro hT hW (λ|35=>some (.gen ⟨[(0,0)],[],[],dE (ex q).2,.d (ex q).1.d⟩)|_=>none) ?_;simp;refine⟨by simpa using hx,?_⟩;have e:=Dn (ex:=ex) (p:=p) q12;rw[hc8]at e;refine gO.trans (bJ 1 [36] (fz:=false) (cs:=[.d (aG k),.d (.str s),.d (aG 0),.ow 36 0 1]) (ds:=[aG k,.str s,aG 0,.sl [(ex q).1.d]]) (by simp) (by simp) (by simp) (by simp[aV.mut])) ?_;simp;exact aB hp [] [(0,0),(1,1)] (hH:=by simp[e])
   ·have q12:¬(k=15\/k=22\/k=24):=λq=>by simp[hc12.2 q]at h12
    refine aP (ι:=BC) (λ⟨b⟩=>aO [(0,.bx 0 0),(1,.bx 1 0),(28,.d (aG k)),(39,.d (.bool b))]) (λ⟨b⟩=>aI [(0,.box false [.d (lH q.l),.d (aG q.e)]),(1,.box false [.d (aG k),.d (.str s),.d (aG 0),.nl])]) (λ⟨b⟩=>b=true↔(k=16\/k=23)) ?_ λ⟨b⟩ hc15=>?_
    ·refine aA ?_;simp;refine aC ?_;simp;refine⟨λh13=>?_,λh13=>?_⟩
     ·refine aE ?_;simp;refine UV.mk ⟨decide (k=16)⟩ (aB hp [0,1,28,39] [(0,0),(1,1)]) ?_;simp[h13]
     ·refine aJ ?_;simp;refine UV.mk ⟨decide (k=23)⟩ (aB hp [0,1,28,39] [(0,0),(1,1)]) ?_;simp only[decide_eq_true_eq];omega
    ·refine aC ?_;simp;refine⟨λh15=>?_,λh15=>?_⟩
     ·have q15:=hc15.1 h15;have ga:=rB (k:=k) hg;rw[hc8]at ga;have hlo:=yR q ga.2;refine eF.ro hT hW (λ|44=>some (.gen ⟨[(0,0)],[],[],dE (localP q).2,.d (.str (localP q).1)⟩)|_=>none) ?_;simp;refine⟨hlo,?_⟩;have e:=BO (ex:=ex) (p:=p) q12 q15;rw[hc8]at e;refine gO.trans (bJ 1 [46] (fz:=false) (cs:=[.d (aG k),.d (.str s),.d (aG 0),.ow 46 0 1]) (ds:=[aG k,.str s,aG 0,.sl [(Nd.mk 33 (localP q).1 0 []).d]]) (by simp) (by simp) (by simp) (by simp[aV.mut])) ?_;simp;exact aB hp [] [(0,0),(1,1)] (hH:=by simp[e])
     ·have q15:¬(k=16\/k=23):=λq=>by simp[hc15.2 q]at h15
      refine aP (ι:=BC) (λ⟨b⟩=>aO [(0,.bx 0 0),(1,.bx 1 0),(28,.d (aG k)),(49,.d (.bool b))]) (λ⟨b⟩=>aI [(0,.box false [.d (lH q.l),.d (aG q.e)]),(1,.box false [.d (aG k),.d (.str s),.d (aG 0),.nl])]) (λ⟨b⟩=>b=true↔(k=19\/k=21\/k=25)) ?_ λ⟨b⟩ hc19=>?_
      ·refine aA ?_;simp;refine aC ?_;simp;refine⟨λh16=>?_,λh16=>?_⟩
       ·refine aE ?_;simp;refine UV.mk ⟨decide (k=19)⟩ (aB hp [0,1,28,49] [(0,0),(1,1)]) ?_;simp[h16]
       ·refine aA ?_;simp;refine aC ?_;simp;refine⟨λh17=>?_,λh17=>?_⟩
        ·refine aE ?_;simp;refine UV.mk ⟨decide (k=21)⟩ (aB hp [0,1,28,49] [(0,0),(1,1)]) ?_;simp[h17]
        ·refine aJ ?_;simp;refine UV.mk ⟨decide (k=25)⟩ (aB hp [0,1,28,49] [(0,0),(1,1)]) ?_;simp only[decide_eq_true_eq];omega
      ·refine aC ?_;simp;refine⟨λh19=>?_,λh19=>?_⟩
       ·have q19:=hc19.1 h19;have ga:=rB (k:=k) hg;rw[hc8]at ga;have hnu:=oV q k ga.2 hk;refine eF.ro hT hW (λ|59=>some (.gen ⟨[(0,0)],[],[],dE (numeralP k q).2,.d (aG (numeralP k q).1)⟩)|_=>none) ?_;simp;refine⟨hnu,?_⟩;have e:=wB (ex:=ex) (p:=p) q12 q15 q19;rw[hc8]at e;refine gO.trans (bJ 1 [] (fz:=false) (cs:=[.d (aG k),.d (.str s),.d (aG (numeralP k q).1),.nl]) (ds:=[aG k,.str s,aG (numeralP k q).1,.sl []]) (by simp) (by simp) (by simp) (by simp[aV.mut])) ?_;simp;exact aB hp [] [(0,0),(1,1)] (hH:=by simp[e])
       ·have q19:¬(k=19\/k=21\/k=25):=λq=>by simp[hc19.2 q]at h19
        refine aE ?_;simp;have e:=rC (ex:=ex) (p:=p) q12 q15 q19;rw[hc8]at e;refine gO.trans (bJ 1 [] (fz:=false) (cs:=[.d (aG k),.d (.str s),.d (aG 0),.nl]) (ds:=[aG k,.str s,aG 0,.sl []]) (by simp) (by simp) (by simp) (by simp[aV.mut])) ?_;simp;exact aB hp [] [(0,0),(1,1)] (hH:=by simp[e])
end
theorem xJ{α:Type}(q:α->Bool)(d:α):∀l:List α,(List.range l.length).find? (λi=>q (l.getD i d))=l.findIdx? q
 |[]=>rfl
 |x::l=>by
  have ih:=xJ q d l;rw[List.length_cons,List.range_succ_eq_map,List.find?_cons,List.findIdx?_cons];have e:(x::l).getD 0 d=x:=rfl;rw[e];cases h:q x with
  |true=>simp
  |false=>
   simp only[List.find?_map];rw[<-ih];rfl
theorem Vt{s:aM}(h:¬s=[]):kindP s=nA (λx=>decide (s=x)) wordsL:=by
 unfold kindP wordI nA;rw[if_neg h];have e:=xJ (λx=>decide (s=x)) [] wordsL;rw[show wordsL.length=26 from rfl]at e;rw[<-e];have e2:(λi=>decide (wordsL.getD i []=s))=λi=>decide (s=wordsL.getD i []):=by funext i;rw[decide_eq_decide];exact eq_comm
 rw[e2];rfl
theorem yX{s:aM}(h:s=[]):kindP s= -1:=by unfold kindP;rw[if_pos h]
theorem jM{p:PS}(h:0<=kindP p.peek):p.is p.peek=true:=eE.2 ⟨λe=>by rw[yX e]at h;omega,rfl⟩
theorem BP{ex bl:PS->Nd×PS}{p:PS}{k:Int}(hk:kindP p.peek=k)(h:k=11)(he:(bl (ex (p.took p.peek)).2).2.is sElse=true):
 stmtB ex bl p=(.mk k [] 0 [(ex (p.took p.peek)).1,(bl (ex (p.took p.peek)).2).1,(bl ((bl (ex (p.took p.peek)).2).2.took sElse)).1],(bl ((bl (ex (p.took p.peek)).2).2.took sElse)).2):=by
 subst hk;rw[cB he];rw[cB (jM (by omega))]at he|-;unfold stmtB;simp only[];rw[if_pos (by omega),if_pos ⟨h,he⟩]
theorem NL{ex bl:PS->Nd×PS}{p:PS}{k:Int}(hk:kindP p.peek=k)(h:k=11\/k=12)(he:k=11->(bl (ex (p.took p.peek)).2).2.is sElse=false):
 stmtB ex bl p=(.mk k [] 0 [(ex (p.took p.peek)).1,(bl (ex (p.took p.peek)).2).1],(bl (ex (p.took p.peek)).2).2):=by
 subst hk;rw[cB (jM (by omega))]at he|-;unfold stmtB;simp only[];rw[if_pos h,if_neg (λq=>by rw[he q.1]at q;exact absurd q.2 (by simp))]
theorem GT{ex bl:PS->Nd×PS}{p:PS}{k:Int}(hk:kindP p.peek=k)(h:12<k):stmtB ex bl p=((cmdP ex k (p.took p.peek)).1,(cmdP ex k (p.took p.peek)).2.need [59]):=by
 subst hk;rw[cB (jM (by omega))];unfold stmtB;simp only[];rw[if_neg (by omega),if_pos h]
theorem yY{ex bl:PS->Nd×PS}{p:PS}{k:Int}(hk:kindP p.peek=k)(h0:¬(k=11\/k=12))(h:¬12<k)(hd:p.peek.take 1=[36]):stmtB ex bl p=(.mk 9 (localP p).1 0 [(ex ((localP p).2.need [61])).1],(ex ((localP p).2.need [61])).2.need [59]):=by
 subst hk;unfold stmtB;simp only[];rw[if_neg h0,if_neg h];rw[(jL hd).1];rfl
theorem yZ{ex bl:PS->Nd×PS}{p:PS}{k:Int}(hk:kindP p.peek=k)(h0:¬(k=11\/k=12))(h:¬12<k)(hd:¬p.peek.take 1=[36]):stmtB ex bl p=(.mk 10 [] 0 [(placeP p).1,(ex ((placeP p).2.need [61])).1],(ex ((placeP p).2.need [61])).2.need [59]):=by
 subst hk;unfold stmtB;simp only[];rw[if_neg h0,if_neg h];split
 ·rename_i r e;rw[e]at hd;exact absurd rfl hd
 ·rfl
theorem gK{p:PS}{s:aM}:(p.need s).l.length<=p.l.length:=by
 unfold PS.need;split
 ·exact dP
 ·rw[mZ];exact Nat.le_refl _
theorem Do{m:Nat}{ex bl:PS->Nd×PS}(hs:Stk ex)(ht:Stk bl)(hx:Rt (m+1) isExprK ex)(hb:Rt m isBlockK bl):LR (m+1) (stmtB ex bl):=λp hl h _=>by
 by_cases he:(stmtB ex bl p).2.e=0
 ·right;obtain⟨k,hk⟩:∃k,kindP p.peek=k:=⟨_,rfl⟩;by_cases h1:k=11\/k=12
  ·have ip:=jM (p:=p) (by omega);have lp:=fK ip;rw[<-cB ip]at lp;have gp:=dO (s:=p.peek) h;obtain⟨e0,e1,_⟩:=hx (p.took p.peek) (by omega) gp;obtain⟨b0,b1,_⟩:=hb (ex (p.took p.peek)).2 (by omega) e1;by_cases h2:k=11/\(bl (ex (p.took p.peek)).2).2.is sElse=true
   ·rw[BP hk h2.1 h2.2];have l2:=fK h2.2;rw[<-cB h2.2]at l2;obtain⟨c0,_,_⟩:=hb ((bl (ex (p.took p.peek)).2).2.took sElse) (by omega) (dO b1);show(bl ((bl (ex (p.took p.peek)).2).2.took sElse)).2.l.length<p.l.length;omega
   ·rw[NL hk h1 (λq=>by
     cases z:(bl (ex (p.took p.peek)).2).2.is sElse with
     |false=>rfl
     |true=>exact absurd ⟨q,z⟩ h2)]
    show(bl (ex (p.took p.peek)).2).2.l.length<p.l.length;omega
  ·by_cases h3:12<k
   ·have ip:=jM (p:=p) (by omega);have lp:=fK ip;rw[<-cB ip]at lp;have gp:=dO (s:=p.peek) h;obtain⟨c0,_,_⟩:=Ns (m:=m+1) hs hx (k:=k) (hk▸wY (s:=p.peek) (by omega)) (p.took p.peek) (by omega) gp;rw[GT hk h3];have:=gK (p:=(cmdP ex k (p.took p.peek)).2) (s:=[59]);show((cmdP ex k (p.took p.peek)).2.need [59]).l.length<p.l.length;omega
   ·by_cases h4:p.peek.take 1=[36]
    ·obtain⟨i1,i2⟩:=jL h4;have ip:p.is p.peek=true:=eE.2 ⟨λe=>(by rw[e]at h4;cases h4),rfl⟩;have lp:=fK ip;rw[<-cB ip]at lp;rw[yY hk h1 h3 h4,i2];have n1:=gK (p:=p.took p.peek) (s:=[61]);obtain⟨e0,_,_⟩:=hx ((p.took p.peek).need [61]) (by omega) (bT (dO h)).2;have n2:=gK (p:=(ex ((p.took p.peek).need [61])).2) (s:=[59]);show((ex ((p.took p.peek).need [61])).2.need [59]).l.length<p.l.length;omega
    ·rw[yZ hk h1 h3 h4]at he|-;have he:((ex ((placeP p).2.need [61])).2.need [59]).e=0:=he;have he2:=hs _ (need_e he).2;have he3:=(need_e he2).2;have pl:(placeP p).2.l.length<p.l.length:=by
      unfold placeP at he3|-;have nm:(nameP p).2.e=0->(nameP p).2.l.length<p.l.length:=λz=>by
       cases q:isNameB p.peek with
       |false=>rw[oU q]at z;exact absurd z (fail_e (by decide))
       |true=>
        have ip:p.is p.peek=true:=eE.2 ⟨λe=>(by rw[e]at q;cases q),rfl⟩;have lp:=fK ip;rw[sG q,cB ip];simp only;omega
      have ng:=cO h;split at he3
      ·rename_i z;rw[if_pos z];have z2:=nameP_stk _ he3;have z3:(nameP p).2.e=0:=z2;have ll:=(cO (p:=(nameP p).2.skip) (cT ng.2.1)).1;have l3:=dP (p:=(nameP p).2);have:=nm z3;simp only;omega
      ·rename_i z;rw[if_neg z];exact nm he3
     have n1:=gK (p:=(placeP p).2) (s:=[61]);have pg:=(kQ (p.l.length+1) p (Nat.lt_succ_self _) h).2.1;obtain⟨e0,_,_⟩:=hx ((placeP p).2.need [61]) (by omega) (bT pg).2;have n2:=gK (p:=(ex ((placeP p).2.need [61])).2) (s:=[59]);show((ex ((placeP p).2.need [61])).2.need [59]).l.length<p.l.length;omega
 ·exact .inl he
section
attribute[local simp] jO.cond Nd.d_eq nd_t nd_dr nd_td ndsD aQ bL cV dK yT yU yV mZ GS
def Fs(T:List Tk)(n:Nat)(x:PS->Nd×PS):Prop:=∀q:PS,q.l.length<n->jF T q->jF T (x q).2/\(x q).2.l.length<=q.l.length
theorem jF.goodT{T:List Tk}{q:PS}(f:jF T q)(hg:bH T):bH q.l:=λt ht=>hg t (f.suf.mem ht)
theorem oX{p:PS}{w:aM}(h:p.is w=true):(p.took w).l.length+1=p.l.length:=by rw[cB h];exact fK h
theorem GU{p:PS}{w:aM}:(p.took w).l.length<=p.l.length:=by
 unfold PS.took;split
 ·exact dP
 ·exact Nat.le_refl _
theorem Fs.place{T:List Tk}(hg:bH T)(n:Nat):Fs T n placeP:=λq h f=>⟨f.place,(kQ n q h (f.goodT hg)).1⟩
theorem Fs.chainF{T:List Tk}{m:Nat}{lv:Int}{x:PS->Nd×PS}(hx:Fs T m x):∀(f:Nat) (n:Nd) (p:PS),p.l.length<m->jF T p->jF T (chainF lv x f n p).2/\(chainF lv x f n p).2.l.length<=p.l.length
 |0,_,p,_,hf=>⟨hf,Nat.le_refl _⟩
 |f+1,n,p,hm,hf=>by
  rw[Go.Eng.chainF];split
  ·exact⟨hf,Nat.le_refl _⟩
  ·split
   ·rename_i h;rw[Fn h];exact⟨hf,Nat.le_refl _⟩
   ·rename_i h;have h':0<=opI lv p.peek:=by have:¬opI lv p.peek<0:=h;omega
    rw[xI h'];have l1:=oX (sH h').2.1;obtain⟨a1,a2⟩:=hx (p.took p.peek) (by omega) hf.took;obtain⟨b1,b2⟩:=Fs.chainF (lv:=lv) hx f (.mk (26+(opI lv p.peek)) [] 0 [n,(x (p.took p.peek)).1]) (x (p.took p.peek)).2 (by omega) a1;exact⟨b1,Nat.le_trans b2 (by omega)⟩
theorem zA{T:List Tk}{m:Nat}{lv:Int}{x:PS->Nd×PS}(hx:Fs T m x):Fs T m (chainP lv x):=λq h f=>by
 obtain⟨a1,a2⟩:=hx q h f;obtain⟨b1,b2⟩:=Fs.chainF (lv:=lv) hx ((x q).2.l.length+1) (x q).1 (x q).2 (by omega) a1;exact⟨b1,by unfold chainP;omega⟩
theorem Fs.fact{T:List Tk}(hg:bH T){n:Nat}{ex:PS->Nd×PS}(hx:Fs T n ex):Fs T (n+1) (factP ex):=λq h f=>by
 have gq:=f.goodT hg;unfold factP;split
 ·rename_i z;have hl:=fK z;obtain⟨a1,a2⟩:=hx q.skip (by omega) f.skip;exact⟨a1.need,by have:=gK (p:=(ex q.skip).2) (s:=[41]);simp only;omega⟩
 ·split
  ·exact⟨f.skip,dP⟩
  ·split
   ·split
    ·exact⟨f.numeral,(eA gq).1⟩
    ·split
     ·exact⟨f.local,(dR gq).1⟩
     ·exact Fs.place hg (n+1) q h f
   ·exact Fs.place hg (n+1) q h f
theorem Fs.exprB{T:List Tk}(hg:bH T){n:Nat}{ex:PS->Nd×PS}(hx:Fs T n ex):Fs T (n+1) (exprB ex):=λq h f=>by
 have hs:Fs T (n+1) (sumP ex):=zA (zA (Fs.fact hg hx));obtain⟨a1,a2⟩:=hs q h f;unfold Go.Eng.exprB;simp only[];by_cases z:0<=opI 1 (sumP ex q).2.peek
 ·rw[if_pos (show 0<=(opP 1 (sumP ex q).2).1 from z),xI z];have l1:=oX (sH z).2.1;obtain⟨b1,b2⟩:=hs ((sumP ex q).2.took (sumP ex q).2.peek) (by omega) a1.took;exact⟨b1,by simp only;omega⟩
 ·rw[if_neg (show¬0<=(opP 1 (sumP ex q).2).1 from z),Fn (by omega)];exact⟨a1,a2⟩
theorem GV{T:List Tk}(hg:bH T):∀n,Fs T n (exprP true n)
 |0=>λq h _=>absurd h (Nat.not_lt_zero _)
 |n+1=>λq h f=>by
  rw[exprP];split
  ·exact⟨f,Nat.le_refl _⟩
  ·exact Fs.exprB hg (GV hg n) q h f
structure RR(s:aM)(T:List Tk)(n:Nat)(g:FuncId)(x:PS->Nd×PS):Prop where
 ok:∀q:PS,q.l.length<n->jF T q->iE Tryz.prog g [.bx 0 0] (dK s T q) (dK s T (x q).2) (.d (x q).1.d)
 fs:Fs T n x
theorem Wz(s:aM):opI 3 s=if s=[42]then 5 else -1:=by
 by_cases h:s=[42]
 ·subst h;rfl
 ·rw[if_neg h];simp[opI,opsL,List.range,List.range.loop,Ne.symm h,h]
theorem Td(s:aM):opI 2 s=if s=[43]then 3 else if s=[45]then 4 else -1:=by
 by_cases h:s=[43]
 ·subst h;rfl
 ·rw[if_neg h];by_cases h2:s=[45]
  ·subst h2;rfl
  ·rw[if_neg h2];have a:=Ne.symm h;have b:=Ne.symm h2;simp[opI,opsL,List.range,List.range.loop,a,b]
theorem Yg(s:aM):opI 1 s=if s=[60]then 0 else if s=[60,61]then 1 else if s=[61,61]then 2 else -1:=by
 by_cases h:s=[60]
 ·subst h;rfl
 ·rw[if_neg h];by_cases h2:s=[60,61]
  ·subst h2;rfl
  ·rw[if_neg h2];by_cases h3:s=[61,61]
   ·subst h3;rfl
   ·rw[if_neg h3];have a:=Ne.symm h;have b:=Ne.symm h2;have c:=Ne.symm h3;simp[opI,opsL,List.range,List.range.loop,a,b,c]
theorem Fq{lv:Int}{x:PS->Nd×PS}{f:Nat}{n:Nd}{q:PS}(hf:q.l.length<f)(h:opI lv q.peek<0):chainF lv x f n q=(n,q):=by
 by_cases e:q.e=0
 ·rw[Dk hf e h,Fn h]
 ·exact Fo hf e
theorem Ja{lv:Int}{x:PS->Nd×PS}{f:Nat}{n:Nd}{q:PS}(hf:q.l.length<f)(h:0<=opI lv q.peek):
 chainF lv x f n q=chainF lv x (f-1) (.mk (26+opI lv q.peek) [] 0 [n,(x (q.took q.peek)).1]) (x (q.took q.peek)).2:=by
 have hn:q.peek≠[]:=(eE.1 (sH h).2.1).1;rw[IW hf (SZ hn) h,xI h]
theorem Vu(w:aM):firstIs digitB w=true↔(¬w=[]/\digitB (w[0]?.getD 0)=true):=by
 cases w with
 |nil=>simp[firstIs]
 |cons c r=>simp[firstIs]
theorem Fr(s:aM)(T:List Tk)(p:PS)(c:yS s T)(f:jF T p):iE Tryz.prog 237 [.bx 0 0] (dK s T p) (dK s T (placeP p).2) (.d (placeP p).1.d):=by
 unfold dK;refine eR Tryz.func237 rfl Tryz.ntmps237 Tryz.results237 λw0 X hp=>?_;refine aA ?_;simp;refine aX hT hW (λ|5=>some (.gen ⟨[(0,0)],[],[],dK s T (nameP p).2,.d (.str (nameP p).1)⟩)|_=>none) ?_;simp;refine⟨oW s T p c f,?_⟩;refine aD ?_;refine aX hT hW (λ|8=>some (.gen ⟨[(0,0)],[],[],dK s T ((nameP p).2.took [46]),.d (.bool ((nameP p).2.is [46]))⟩)|_=>none) ?_;simp;refine⟨uI s T (nameP p).2 c f.name [46] (by simp),?_⟩;refine aC ?_;simp;refine⟨λh2=>?_,λh2=>?_⟩
 ·refine aA ?_;simp;have l1:=nQ (f.good c);have l2:=nQ (p:=(nameP p).2.took [46]) (f.name.took.good c);refine eF.rd [[0],[0],[0]] [[],[],[],[],[0],[],[],[3]] (λ|14=>some (.gen ⟨[(0,0)],[],[],dK s T (nameP ((nameP p).2.took [46])).2,.d (.str (nameP ((nameP p).2.took [46])).1)⟩)|_=>none) ?_;simp;refine⟨⟨⟨by omega,oW s T _ c f.name.took⟩,by omega⟩,?_⟩;refine aA ?_;simp;refine aF ?_;simp;have e:=Fm h2;refine aU (x:=(placeP p).1.d) (by simp[e]) ?_;simp;exact aB hp [0] [(0,0)] (hH:=by simp[e])
 ·refine aE ?_;simp;refine aA ?_;simp;refine aF ?_;simp;have e:=Ba h2;refine aU (x:=(placeP p).1.d) (by simp[e]) ?_;simp;exact aB hp [0] [(0,0)] (hH:=by simp[e])
theorem Te(s:aM)(T:List Tk)(c:yS s T)(p:PS)(n:Nat)(ex:PS->Nd×PS)(hE:RR s T n 219 ex)(hn:p.l.length<n+1)(f:jF T p):iE Tryz.prog 249 [.bx 0 0] (dK s T p) (dK s T (factP ex p).2) (.d (factP ex p).1.d):=by
 unfold dK;have hg:=f.good c;have htl:=lD hg;refine eR Tryz.func249 rfl Tryz.ntmps249 Tryz.results249 λw0 X hp=>?_;refine aA ?_;simp;refine aD ?_;refine aX hT hW (λ|6=>some (.gen ⟨[(0,0)],[],[],dK s T (p.took [40]),.d (.bool (p.is [40]))⟩)|_=>none) ?_;simp;refine⟨uI s T p c f [40] (by simp),?_⟩;refine aC ?_;simp;refine⟨λh1=>?_,λh1=>?_⟩
 ·refine aD ?_;have hl:=oX h1;have hx:=hE.ok (p.took [40]) (by omega) f.took;have fx:=(hE.fs (p.took [40]) (by omega) f.took).1;refine eF.ro hT hW (λ|8=>some (.gen ⟨[(0,0)],[],[],dK s T (ex (p.took [40])).2,.d (ex (p.took [40])).1.d⟩)|_=>none) ?_;simp;refine⟨by simpa using hx,?_⟩;refine aD ?_;have hn4:=gP s T (ex (p.took [40])).2 c fx [41] (by simp);refine eF.ro hT hW (λ|10=>some (.gen ⟨[(0,0)],[],[],dK s T ((ex (p.took [40])).2.need [41]),.tup []⟩)|_=>none) ?_;simp;refine⟨hn4,?_⟩;refine aA ?_;simp;refine aF ?_;simp;have e:=Bb (ex:=ex) h1;exact aB hp [0] [(0,0)] (by simp[e]) (by simp[e])
 ·have e2:p.took [40]=p:=fW (by simp[h1]);simp only[e2];refine aE ?_;simp;refine aD ?_;refine aX hT hW (λ|13=>some (.gen ⟨[(0,0)],[],[],dK s T (p.took [107,105,110,100]),.d (.bool (p.is [107,105,110,100]))⟩)|_=>none) ?_;simp;refine⟨uI s T p c f [107,105,110,100] (by simp),?_⟩;refine aC ?_;simp;refine⟨λh5=>?_,λh5=>?_⟩
  ·refine aA ?_;simp;refine aF ?_;simp;have e:=Dl (ex:=ex) h1 h5;refine aU (x:=(factP ex p).1.d) (by simp[e]) ?_;simp;exact aB hp [0] [(0,0)] (hH:=by simp[e,sKind])
  ·have e6:p.took [107,105,110,100]=p:=fW (by simp[h5]);simp only[e6];refine aE ?_;simp;refine aX hT hW (λ|16=>some (.gen ⟨[(0,0)],[],[],dK s T p,.d (.str p.peek)⟩)|_=>none) ?_;simp;refine⟨iM s T p c f,?_⟩;refine aD ?_;refine aD ?_;have hd:=nX p.peek 0 (by omega);refine eF.ro hT hW (λ|18=>some<| .plain ⟨.d (.bool (firstIs digitB p.peek)),true⟩|_=>none) ?_;simp;refine⟨by simpa using hd,?_⟩;refine aC ?_;simp;refine⟨λh8=>?_,λh8=>?_⟩
   ·refine aD ?_;have hnu:=iO s T p c f 32 0 999 (.inl rfl) rfl;refine eF.ro hT hW (λ|20=>some (.gen ⟨[(0,0)],[],[],dK s T (numeralP 32 p).2,.d (aG (numeralP 32 p).1)⟩)|_=>none) ?_;simp;refine⟨hnu,?_⟩;refine aF ?_;simp;have e:=Bc (ex:=ex) h1 h5 ((Vu _).1 h8).1 ((Vu _).1 h8).2;refine aU (x:=(factP ex p).1.d) (by simp[e]) ?_;simp;exact aB hp [0] [(0,0)] (hH:=by simp[e])
   ·refine aE ?_;simp;refine aD ?_;refine aA ?_;simp;refine aC ?_;simp;refine⟨λg1 g2=>?_,λg=>?_⟩
    ·refine aD ?_;have hlo:=qZ s T p c f;refine eF.ro hT hW (λ|31=>some (.gen ⟨[(0,0)],[],[],dK s T (localP p).2,.d (.str (localP p).1)⟩)|_=>none) ?_;simp;refine⟨hlo,?_⟩;refine aF ?_;simp;have g8:¬p.peek=[]->digitB (p.peek[0]?.getD 0)=false:=λa=>by
      cases e:digitB (p.peek[0]?.getD 0)with
      |false=>rfl
      |true=>rw[(Vu _).2 ⟨a,e⟩]at h8;cases h8
     have e:=Bd (ex:=ex) h1 h5 g8 (XI.2 ⟨by omega,g2⟩);refine aU (x:=(factP ex p).1.d) (by simp[e]) ?_;simp;exact aB hp [0] [(0,0)] (hH:=by simp[e])
    ·refine aE ?_;simp;refine aD ?_;have hpl:=Fr s T p c f;refine eF.ro hT hW (λ|34=>some (.gen ⟨[(0,0)],[],[],dK s T (placeP p).2,.d (placeP p).1.d⟩)|_=>none) ?_;simp;refine⟨by simpa using hpl,?_⟩;refine aF ?_;simp;have g8:¬p.peek=[]->digitB (p.peek[0]?.getD 0)=false:=λa=>by
      cases e:digitB (p.peek[0]?.getD 0)with
      |false=>rfl
      |true=>rw[(Vu _).2 ⟨a,e⟩]at h8;cases h8
     have e:=Be (ex:=ex) h1 h5 g8 (λz=>by have:=XI.1 z;have:=g (by omega);omega);exact aB hp [0] [(0,0)] (by simp[e]) (by simp[e])
theorem RR.fact{s:aM}{T:List Tk}(c:yS s T){n:Nat}{ex:PS->Nd×PS}(hE:RR s T n 219 ex):RR s T (n+1) 249 (factP ex):=
 ⟨λq hq f=>Te s T c q n ex hE hq f,Fs.fact c.hg hE.fs⟩
theorem Tf(s:aM)(T:List Tk)(c:yS s T)(p:PS)(n:Nat)(x:PS->Nd×PS)(hE:RR s T n 249 x)(hn:p.l.length<n)(f:jF T p):iE Tryz.prog 246 [.bx 0 0] (dK s T p) (dK s T (chainP 3 x p).2) (.d (chainP 3 x p).1.d):=by
 unfold dK;refine eR Tryz.func246 rfl Tryz.ntmps246 Tryz.results246 λw0 X hp=>?_;refine aA ?_;simp;refine aD ?_;have hx:=hE.ok p hn f;have fx:=hE.fs p hn f;refine eF.ro hT hW (λ|5=>some (.gen ⟨[(0,0)],[],[],dK s T (x p).2,.d (x p).1.d⟩)|_=>none) ?_;simp;refine⟨by simpa using hx,?_⟩;refine aD ?_;refine aH ?_;refine aR (ι:=YN) (λ⟨f,n,q⟩=>aO [(0,.bx 0 0),(2,.bx 2 0),(3,.bx 3 0)]) (λ⟨f,n,q⟩=>aI [(0,.box false [.d (.str s),.d (.sl (T.map Tk.r)),.d (aG ((T.length:Int)- q.l.length)),.d (.bool (!decide (q.e=0))),.d (.bool (decide (q.e=5)))]),(2,.box false [.d (aG 0),.d (.str []),.d (aG 0),.nl]),(3,.box false [.d (aG n.kind),.d (.str n.text),.d (aG n.n),.d (ndsD n.kids)])]) (λ⟨f,n,q⟩=>q.l.length<f/\jF T q/\q.l.length<=p.l.length/\chainP 3 x p=chainF 3 x f n q) (λ⟨f,n,q⟩=>q.l.length) ⟨(x p).2.l.length+1,(x p).1,(x p).2⟩ (aB hp [0,2,3] [(0,0),(2,2),(3,3)]) (⟨Nat.lt_succ_self _,fx.1,fx.2,rfl⟩) λ⟨f,n,q⟩ hi2=>?_;refine aD ?_;refine aD ?_;have hi:=uI s T q c hi2.2.1 [42] (by simp);refine eF.ro hT hW (λ|7=>some (.gen ⟨[(0,0)],[],[],dK s T (q.took [42]),.d (.bool (q.is [42]))⟩)|_=>none) ?_;simp;refine⟨hi,?_⟩;refine aC ?_;simp;refine⟨λh2=>?_,λh2=>?_⟩
 ·refine aE ?_;simp;refine aH ?_;have hl:=oX h2;have hpk:=(eE.1 h2).2;have i3:=hi2.2.2.1;have hx3:=hE.ok (q.took [42]) (by omega) hi2.2.1.took;have fx3:=hE.fs (q.took [42]) (by omega) hi2.2.1.took;refine eF.rd [[0]] [[],[],[0],[11],[],[3]] (λ|10=>some (.gen ⟨[(0,0)],[],[],dK s T (x (q.took [42])).2,.d (x (q.took [42])).1.d⟩)|_=>none) ?_;simp;refine⟨⟨by simpa using hx3,by decide⟩,?_⟩;refine wU (bJ 3 [11] (fz:=false) (cs:=[.d (aG 31),.d (.str []),.d (aG 0),.ow 11 0 2]) (ds:=[aG 31,.str [],aG 0,.sl [n.d,(x (q.took [42])).1.d]]) (by simp) (by simp) (by simp) (by simp[aV.mut])) ?_;simp;refine Nf.mk ⟨f-1,.mk 31 [] 0 [n,(x (q.took [42])).1],(x (q.took [42])).2⟩ (aB hp [0,2,3] [(0,0),(2,2),(3,3)]) ?_ ?_
  ·have i1:=hi2.1;have i3:=hi2.2.2.1;refine⟨?_,fx3.1,?_,?_⟩
   ·show(x (q.took [42])).2.l.length<f-1;have:=fx3.2;omega
   ·show(x (q.took [42])).2.l.length<=p.l.length;have:=fx3.2;omega
   ·rw[hi2.2.2.2,Ja hi2.1 (by rw[Wz,hpk];decide),hpk];rfl
  ·have:=fx3.2;show(x (q.took [42])).2.l.length<q.l.length;omega
 ·have e2:q.took [42]=q:=fW (by simp[h2]);simp only[e2];refine bA ?_;simp;refine aA ?_;simp;refine aF ?_;simp;have hno:opI 3 q.peek<0:=by
   rw[Wz,if_neg (λz=>by rw[eE.2 ⟨by simp,z⟩]at h2;cases h2)];decide
  have e:chainP 3 x p=(n,q):=by rw[hi2.2.2.2];exact Fq hi2.1 hno
  exact aB hp [0] [(0,0)] (by simp[e]) (by simp[e])
theorem PW{c:Prop}[Decidable c]{f:Nat->aV}{A:aV}{x:Nat}(h:f 0=A):bQ f (if c then []else [(0,A)]) x=f x:=by
 by_cases hc:c
 ·rw[if_pos hc];rfl
 ·rw[if_neg hc];subst h;simp only[bQ,bY];split
  ·rename_i e;rw[e]
  ·rfl
theorem RR.prod{s:aM}{T:List Tk}(c:yS s T){n:Nat}{x:PS->Nd×PS}(hE:RR s T n 249 x):RR s T n 246 (chainP 3 x):=
 ⟨λq hq f=>Tf s T c q n x hE hq f,zA hE.fs⟩
structure YY where
 k:Int
theorem NM{q:aM}:(q=[43]\/q=[45])↔0<=opI 2 q:=by
 rw[Td];by_cases h:q=[43]
 ·simp[h]
 ·by_cases h2:q=[45]
  ·simp[h2]
  ·simp[h,h2]
theorem Vv(s:aM)(T:List Tk)(c:yS s T)(p:PS)(n:Nat)(x:PS->Nd×PS)(hE:RR s T n 246 x)(hn:p.l.length<n)(f:jF T p):iE Tryz.prog 236 [.bx 0 0] (dK s T p) (dK s T (chainP 2 x p).2) (.d (chainP 2 x p).1.d):=by
 unfold dK;have htl:=c.ht;refine eR Tryz.func236 rfl Tryz.ntmps236 Tryz.results236 λw0 X hp=>?_;refine aA ?_;simp;refine aD ?_;have hx:=hE.ok p hn f;have fx:=hE.fs p hn f;refine eF.ro hT hW (λ|6=>some (.gen ⟨[(0,0)],[],[],dK s T (x p).2,.d (x p).1.d⟩)|_=>none) ?_;simp;refine⟨by simpa using hx,?_⟩;refine aD ?_;refine aH ?_;refine aR (ι:=YN) (λ⟨f,n,q⟩=>aO [(0,.bx 0 0),(2,.bx 2 0),(3,.bx 3 0)]) (λ⟨f,n,q⟩=>aI [(0,.box false [.d (.str s),.d (.sl (T.map Tk.r)),.d (aG ((T.length:Int)- q.l.length)),.d (.bool (!decide (q.e=0))),.d (.bool (decide (q.e=5)))]),(2,.box false [.d (aG 0),.d (.str []),.d (aG 0),.nl]),(3,.box false [.d (aG n.kind),.d (.str n.text),.d (aG n.n),.d (ndsD n.kids)])]) (λ⟨f,n,q⟩=>q.l.length<f/\jF T q/\q.l.length<=p.l.length/\chainP 2 x p=chainF 2 x f n q) (λ⟨f,n,q⟩=>q.l.length) ⟨(x p).2.l.length+1,(x p).1,(x p).2⟩ (aB hp [0,2,3] [(0,0),(2,2),(3,3)]) (⟨Nat.lt_succ_self _,fx.1,fx.2,rfl⟩) λ⟨f,n,q⟩ hi2=>?_;refine aD ?_;refine aD ?_;have hk:=iM s T q c hi2.2.1;refine eF.ro hT hW (λ|8=>some (.gen ⟨[(0,0)],[],[],dK s T q,.d (.str q.peek)⟩)|12=>some (.gen ⟨[(0,0)],[],[],dK s T q,.d (.str q.peek)⟩)|_=>none) ?_;simp[PW];refine⟨⟨hk,λ_=>hk⟩,?_⟩;refine aC ?_;simp;refine⟨λg=>?_,λg1 g2=>?_⟩
 ·have hop:=NM.1 g;have his:=(sH hop).2.1;have hne:=(eE.1 his).1;have hl:=oX his;have hsk:=pS (T:=T) hne;have hps:=hi2.2.1.pos hne;have i3:=hi2.2.2.1;have hx3:=hE.ok (q.took q.peek) (by omega) hi2.2.1.took;have fx3:=hE.fs (q.took q.peek) (by omega) hi2.2.1.took;refine aE ?_;simp;refine aH ?_;refine aA ?_;simp;refine aP (ι:=YY) (λ⟨k⟩=>aO [(0,.bx 0 0),(2,.bx 2 0),(3,.bx 3 0),(4,.d (aG k))]) (λ⟨k⟩=>aI [(0,.box false [.d (.str s),.d (.sl (T.map Tk.r)),.d (aG ((T.length:Int)- q.l.length)),.d (.bool (!decide (q.e=0))),.d (.bool (decide (q.e=5)))]),(2,.box false [.d (aG 0),.d (.str []),.d (aG 0),.nl]),(3,.box false [.d (aG n.kind),.d (.str n.text),.d (aG n.n),.d (ndsD n.kids)])]) (λ⟨k⟩=>k=26+opI 2 q.peek) ?_ λ⟨k⟩ hc6=>?_
  ·refine aD ?_;have hk4:=iM s T q c hi2.2.1;refine eF.ro hT hW (λ|16=>some (.gen ⟨[(0,0)],[],[],dK s T q,.d (.str q.peek)⟩)|_=>none) ?_;simp;refine⟨hk4,?_⟩;refine aC ?_;simp;refine⟨λh4=>?_,λh4=>?_⟩
   ·refine aJ ?_;simp;refine UV.mk ⟨30⟩ (aB hp [0,2,3,4] [(0,0),(2,2),(3,3)]) ?_;rw[Td,h4];decide
   ·refine aE ?_;simp;refine UV.mk ⟨29⟩ (aB hp [0,2,3,4] [(0,0),(2,2),(3,3)]) ?_;rw[Td,if_pos (g.resolve_right h4)];decide
  ·refine aA ?_;simp;refine⟨by omega,?_⟩;simp only[<-hsk];refine eF.rd [[0,29],[0]] [[],[],[],[0],[29],[],[3]] (λ|28=>some (.gen ⟨[(0,0)],[],[],dK s T (x (q.took q.peek)).2,.d (x (q.took q.peek)).1.d⟩)|_=>none) ?_;simp;refine⟨⟨by simpa [cB his]using hx3,by decide⟩,?_⟩;simp only[hc6];refine wU (bJ 3 [29] (fz:=false) (cs:=[.d (aG (26+opI 2 q.peek)),.d (.str []),.d (aG 0),.ow 29 0 2]) (ds:=[aG (26+opI 2 q.peek),.str [],aG 0,.sl [n.d,(x (q.took q.peek)).1.d]]) (by simp) (by simp) (by simp) (by simp[aV.mut])) ?_;simp;refine Nf.mk ⟨f-1,.mk (26+opI 2 q.peek) [] 0 [n,(x (q.took q.peek)).1],(x (q.took q.peek)).2⟩ (aB hp [0,2,3] [(0,0),(2,2),(3,3)]) ?_ ?_
   ·have i1:=hi2.1;have i3:=hi2.2.2.1;have:=fx3.2;refine⟨?_,fx3.1,?_,?_⟩
    ·show(x (q.took q.peek)).2.l.length<f-1;omega
    ·show(x (q.took q.peek)).2.l.length<=p.l.length;omega
    ·rw[hi2.2.2.2,Ja hi2.1 hop]
   ·have:=fx3.2;show(x (q.took q.peek)).2.l.length<q.l.length;omega
 ·refine bA ?_;simp;refine aA ?_;simp;refine aF ?_;simp;have hno:opI 2 q.peek<0:=by
   have z:¬0<=opI 2 q.peek:=λz=>(NM.2 z).elim g1 g2;omega
  have e:chainP 2 x p=(n,q):=by rw[hi2.2.2.2];exact Fq hi2.1 hno
  exact aB hp [0] [(0,0)] (by simp[e]) (by simp[e])
theorem RR.sum{s:aM}{T:List Tk}(c:yS s T){n:Nat}{x:PS->Nd×PS}(hE:RR s T n 246 x):RR s T n 236 (chainP 2 x):=
 ⟨λq hq f=>Vv s T c q n x hE hq f,zA hE.fs⟩
def xK:List aM:=[[60],[60,61],[61,61]]
theorem NN{i:Nat}(h:i<3):xK[i]?.getD []≠[]:=by
 match i,h with
 |0,_=>decide
 |1,_=>decide
 |2,_=>decide
theorem Xj{w:aM}{i:Nat}(h:i<3)(hw:w=xK[i]?.getD []):opI 1 w=i:=by
 subst hw
 match i,h with
 |0,_=>decide
 |1,_=>decide
 |2,_=>decide
theorem Tg{w:aM}(h:∀j,j<3->w≠xK[j]?.getD []):opI 1 w<0:=by
 have a:w≠[60]:=h 0 (by decide);have b:w≠[60,61]:=h 1 (by decide);have d:w≠[61,61]:=h 2 (by decide);rw[Yg,if_neg a,if_neg b,if_neg d];decide
theorem Th(i:Nat)(h:i<3):([DV.str [60],DV.str [60,61],DV.str [61,61]]:List DV)[i]?.getD default=.str (xK[i]?.getD []):=by
 match i,h with
 |0,_=>rfl
 |1,_=>rfl
 |2,_=>rfl
theorem Jb(s:aM)(T:List Tk)(c:yS s T)(p:PS)(n:Nat)(ex:PS->Nd×PS)(hE:RR s T n 236 (sumP ex))(hn:p.l.length<n)(f:jF T p):iE Tryz.prog 219 [.bx 0 0] (dK s T p) (dK s T (if p.e=0 then exprB ex p else(zeroNd,p)).2) (.d (if p.e=0 then exprB ex p else(zeroNd,p)).1.d):=by
 unfold dK;refine eR Tryz.func219 rfl Tryz.ntmps219 Tryz.results219 λw0 X hp=>?_;refine aA ?_;simp;refine aD ?_;refine aA ?_;simp;refine aC ?_;simp;refine⟨λh1=>?_,λh1=>?_⟩
 ·refine aA ?_;simp;refine aF ?_;simp;have e:(if p.e=0 then exprB ex p else(zeroNd,p))=(zeroNd,p):=if_neg h1;rw[e];refine aU (x:=zeroNd.d) (by simp[zeroNd]) ?_;simp;exact aB hp [0] [(0,0)]
 ·refine aE ?_;simp;refine aD ?_;have hx:=hE.ok p hn f;have fx:=hE.fs p hn f;refine eF.ro hT hW (λ|12=>some (.gen ⟨[(0,0)],[],[],dK s T (sumP ex p).2,.d (sumP ex p).1.d⟩)|_=>none) ?_;simp;refine⟨by simpa using hx,?_⟩;refine aA ?_;simp;refine⟨by decide,?_⟩;refine aD ?_;refine aA ?_;simp;refine aH ?_;refine aR (ι:=Nat) (λi=>aO [(0,.bx 0 0),(2,.bx 2 0),(3,.bx 3 0),(4,.ow 13 0 3),(5,.d (aG i))]) (λi=>aI [(0,.box false [.d (.str s),.d (.sl (T.map Tk.r)),.d (aG ((T.length:Int)-(sumP ex p).2.l.length)),.d (.bool (!decide ((sumP ex p).2.e=0))),.d (.bool (decide ((sumP ex p).2.e=5)))]),(2,.box false [.d (aG 0),.d (.str []),.d (aG 0),.nl]),(3,.box false [.d (aG (sumP ex p).1.kind),.d (.str (sumP ex p).1.text),.d (aG (sumP ex p).1.n),.d (ndsD (sumP ex p).1.kids)]),(13,.row false 1 [.str [60],.str [60,61],.str [61,61]])]) (λi=>i<=3/\∀j,j<i->(sumP ex p).2.peek≠xK[j]?.getD []) (λi=>3-i) 0 (aB hp [0,2,3,4,5] [(0,0),(2,2),(3,3),(13,13)]) (⟨Nat.zero_le _,λj h=>absurd h (Nat.not_lt_zero j)⟩) λi hi6=>?_;refine aD ?_;refine aA ?_;simp;refine aC ?_;simp;refine⟨λh6=>?_,λh6=>?_⟩
  ·refine aE ?_;simp;refine aD ?_;refine aH ?_;refine aD ?_;have hi3:i<3:=by omega
   have hi:=uI s T (sumP ex p).2 c fx.1 (xK[i]?.getD []) (NN hi3);refine eF.ro hT hW (λ|23=>some (.gen ⟨[(0,0)],[],[],dK s T ((sumP ex p).2.took (xK[i]?.getD [])),.d (.bool ((sumP ex p).2.is (xK[i]?.getD [])))⟩)|_=>none) ?_;simp[Th i hi3];refine⟨⟨by omega,hi⟩,?_⟩;refine aC ?_;simp;refine⟨λh8=>?_,λh8=>?_⟩
   ·refine aD ?_;have hpk:=(eE.1 h8).2;have hop:=Xj hi3 hpk;have hl:=oX h8;have hx9:=hE.ok ((sumP ex p).2.took (xK[i]?.getD [])) (by have:=fx.2;omega) fx.1.took;refine eF.rd [[0,29],[0,29],[0]] [[],[],[],[],[0],[29],[],[2]] (λ|28=>some (.gen ⟨[(0,0)],[],[],dK s T (sumP ex ((sumP ex p).2.took (xK[i]?.getD []))).2,.d (sumP ex ((sumP ex p).2.took (xK[i]?.getD []))).1.d⟩)|_=>none) ?_;simp;refine⟨⟨⟨by omega,by simpa using hx9⟩,by decide⟩,?_⟩;refine aF ?_;simp;have e:(if p.e=0 then exprB ex p else(zeroNd,p))=exprB ex p:=if_pos h1;have e2:exprB ex p=(.mk (26+(i:Int)) [] 0 [(sumP ex p).1,(sumP ex ((sumP ex p).2.took (xK[i]?.getD []))).1],(sumP ex ((sumP ex p).2.took (xK[i]?.getD []))).2):=by
     rw[Ap (by rw[xI (by omega)];show 0<=opI 1 _;omega),xI (by omega),hop,hpk]
    rw[e,e2];refine aU (x:=(Nd.mk (26+(i:Int)) [] 0 [(sumP ex p).1,(sumP ex ((sumP ex p).2.took (xK[i]?.getD []))).1]).d) (by simp) ?_;simp;exact aB hp [0] [(0,0)]
   ·have e2:(sumP ex p).2.took (xK[i]?.getD [])=(sumP ex p).2:=fW (by simp[h8]);simp only[e2];refine aE ?_;simp;refine aJ ?_;simp;refine⟨by omega,?_⟩;refine Nf.mk (i+1) (aB hp [0,2,3,4,5] [(0,0),(2,2),(3,3),(13,13)]) ?_ ?_
    ·refine⟨by omega,λj hj=>?_⟩;by_cases e:j=i
     ·subst e;exact λz=>by rw[eE.2 ⟨NN hi3,z⟩]at h8;cases h8
     ·exact hi6.2 j (by omega)
    ·omega
  ·refine bA ?_;simp;refine aA ?_;simp;refine aF ?_;simp;have e:(if p.e=0 then exprB ex p else(zeroNd,p))=exprB ex p:=if_pos h1;have hno:=Tg (w:=(sumP ex p).2.peek) (λj hj=>hi6.2 j (by omega));have e2:exprB ex p=((sumP ex p).1,(sumP ex p).2):=by rw[Aq (by rw[Fn hno];exact hno),Fn hno]
   rw[e,e2];exact aB hp [0] [(0,0)]
theorem NO{s:aM}{T:List Tk}(c:yS s T):∀n:Nat,RR s T n 219 (exprP true n)
 |0=>⟨λq h _=>absurd h (Nat.not_lt_zero _),λq h _=>absurd h (Nat.not_lt_zero _)⟩
 |n+1=>by
  have e:∀q,exprP true (n+1) q=if q.e=0 then exprB (exprP true n) q else(zeroNd,q):=λq=>by
   rw[exprP];by_cases h:q.e=0
   ·rw[if_neg (by simp[h]),if_pos h]
   ·rw[if_pos ⟨rfl,h⟩,if_neg h]
  refine⟨λq hq f=>?_,GV c.hg (n+1)⟩;rw[e];exact Jb s T c q (n+1) (exprP true n) (((NO c n).fact c).prod c |>.sum c) hq f
end
end Go.Eng
