/- Part 7 of the proof. No condition. -/
import Derived.Test.YtepoffhhiddlkaaGreatDoorMF
open Go.Proofs
open Go.Proofs.Tryz
set_option linter.unusedVariables false
set_option linter.unusedSimpArgs false
set_option maxRecDepth 20000
set_option maxHeartbeats 4000000
open List renaming getD_eq_getElem?_getD→A0,getElem?_eq_getElem→A1,length_append→A2,take_of_length_le→A4,length_nil→A5,replicate→A6,length_drop→A8,length_pos_iff→A9,length_cons→B1,mem_of_getElem?→B2,take_append_getElem→B3,getElem_mem→B4,drop_append_of_le_length→B7,take_append_of_le_length→B8,eq_nil_of_length_eq_zero→B9,getElem?_map→C0,getElem?_append_left→C3,map_append→C4,range_succ→C5,append_assoc→C6,length_take→C7,cons_append→C8,map_map→D0,mem_cons_self→D1,getElem?_append_right→D2,range→D8,length_eq_one_iff→D9,drop_eq_nil_of_le→E0,mem_cons_of_mem→E3,replicate_succ→E4,mem_cons→E5,map_cons→E6,findIdx?_cons→E7,find?_cons→F4,nil_append→F6,mem_map→G1,length→G2
open Nat renaming le_refl→A7,lt_succ_self→B5,zero_le→D5,le_of_eq→E1,not_lt_zero→E2,add_zero→F0,min_eq_right→F3,min_eq_left→F7,le_total→G0
open Int renaming tmod_eq_emod_of_nonneg→C1,fdiv_eq_ediv_of_nonneg→D3,natCast_nonneg→E8,natCast_ediv→F2,ofNat_inj→F9
open Option renaming getD_some→B6
open Bool renaming and_eq_true→D7,or_eq_true→F5
open Classical renaming byContradiction→C2,em→G3
open BitVec renaming ofInt→A3,ushiftRight_eq_zero→D4,shiftLeft_eq_zero→D6,toNat_add→F1,allOnes→F8
open UInt8 renaming ofNat→B0,toNat_inj→C9,toNat_ofNat→E9
namespace Go.Eng
section
attribute[local simp] aR bK bE aO aL aZ aP
attribute[local simp] kJ.cond Nd.d_eq nd_t nd_dr nd_td ndsD aU bO mP dU dH
theorem BK{c:UInt8}(h:digitB c=true):Lib.digitVal c=some (c.toNat-48)/\48<=c.toNat/\c.toNat<=57:=by
 rw[BG]at h;simp only[D7,decide_eq_true_eq]at h;have a:48<=c.toNat:=aD;have b:c.toNat<=57:=aD;exact⟨by unfold Lib.digitVal;rw[if_pos ⟨a,b⟩],a,b⟩
theorem JS:∀(s:aV) (a:Nat),(∀c∈s,digitB c=true)->∃m:Nat,Lib.decFrom a s=some m/\(m:Int)=s.foldl (λn c=>10*n+((c.toNat:Int)- 48)) (a:Int)
 |[],a,_=>⟨a,rfl,rfl⟩
 |c::r,a,h=>by
  obtain⟨e,g,i⟩:=BK (h c (D1 ..));obtain⟨m,b,d⟩:=JS r (a*10+(c.toNat-48)) λx f=>h x (E3 _ f);refine⟨m,?_,?_⟩
  .unfold Lib.decFrom;rw[e];exact b
  .rw[d,List.foldl_cons];congr 1;omega
theorem JT{s:aV}(f:s≠[])(h:∀c∈s,digitB c=true):Lib.atoi s=some (valS s):=by
 cases s with
 |nil=>exact absurd rfl f
 |cons c r=>
  obtain⟨m,b,d⟩:=JS (c::r) 0 h;obtain⟨_,a,j⟩:=BK (h c (D1 ..));have g:¬(c==45)=true:=λq=>(by have e:c=45:=(by simpa using q);subst e;exact absurd a bG);have i:¬(c==43)=true:=λq=>(by have e:c=43:=(by simpa using q);subst e;exact absurd a bG);show(if(c==45)=true then(Lib.decNat r).map (λm:Nat=> -(m:Int))else if(c==43)=true then(Lib.decNat r).map (λm:Nat=>(m:Int))else(Lib.decNat (c::r)).map (λm:Nat=>(m:Int)))=some (valS (c::r));rw[if_neg g,if_neg i];unfold Lib.decNat;rw[if_neg bA,b,Option.map_some,d];rfl
theorem MG{s:aV}(h:tM s)(b:digitB (s[0]?.getD 0)=true):s.length<=3/\∀c∈s,digitB c=true:=by
 obtain⟨f,a⟩:=h;cases s with
 |nil=>exact absurd rfl f
 |cons c r=>
  have b:digitB c=true:=b;obtain⟨_,e,l⟩:=BK b;have k:¬letterB c=true:=λq=>by
   rw[zT]at q;simp only[D7,decide_eq_true_eq]at q;omega
  have d:¬c=36:=λq=>by subst q;exact absurd e bG
  rw[iI,if_neg k,if_neg d,if_pos b]at a;by_cases q:runP digitB (c::r)<=3
  .rw[if_pos q]at a;refine⟨aD,λx j=>?_⟩;obtain⟨i,g,rfl⟩:=List.getElem_of_mem j;exact runP_all g aD
  .rw[if_neg q]at a;simp at a
theorem HO{s:aV}(h:tM s):s.length<=17:=by
 obtain⟨f,b⟩:=h;cases s with
 |nil=>simp
 |cons c r=>
  rw[<-b,iI];have a:∀t:aV,wordN t<=16:=λt=>by
   rcases Nat.eq_zero_or_pos (wordN t)with q|q
   .omega
   .obtain⟨_,_,_,_,_,q2⟩:=jZ q;exact q2
  have d:=a (c::r);have e:=a r;repeat' split
  all_goals omega
theorem rB{p:PS}(h:cF p.l):p.peek.length<=17:=by
 by_cases q:p.peek=[]
 .rw[q];simp
 .exact HO (AC h q)
theorem XL(s:aV)(n:Int)(g:s.length<=18)(h:Lib.atoi s=some n):Ok prog 236 [.str s] ⟨.tup [.d (aI n),.d (.val .nilIface)],true⟩:=by
 refine⟨⟨_,func236,jM,rfl⟩,λw X j l b=>?_⟩
 match j,b.1 with
 |[u],_=>
  have d:=b.2 0 _ _ rfl rfl;cases d;refine(Go.Proofs.Any.strconv_Atoi Tryz.atoiLay ⟨s.toArray⟩ n (by simpa [ByteArray.size]using g) (by simpa using h) w).mono ?_;rintro e m ⟨rfl,t,rfl⟩;refine⟨_,rfl,?_,?_⟩
  .refine⟨by unfold Lib.bytesWorld World.freeze;split<;>rfl,by unfold Lib.bytesWorld World.freeze;split<;>rfl,by unfold Lib.bytesWorld World.freeze;split<;>rfl,by rw[Lib.bytesWorld_size];omega,λk f=>Lib.bytesWorld_at_old _ _ _ k f,?_⟩;unfold Lib.bytesWorld World.freeze;split<;>exact Nat.le_succ w.drawn
  .refine⟨[.int .i64 n,.nilIface],λ_=>none,rfl,rfl,λ_ _ _ q=>(by cases q),λi r v a c=>?_⟩
   match i,a with
   |0,a=>cases a;cases c;exact .int _ _
   |1,a=>cases a;cases c;exact .val _ rfl
theorem Fu(s t:aV)(b:s.length<=9223372036854775807)(f:t.length<=9223372036854775807):Ok prog 347 [.str s,.str t] ⟨.tup [.d (.str (if s.take t.length=t then s.drop t.length else s)),.d (.bool (decide (s.take t.length=t)))],true⟩:=by
 refine Ok.two func347 jM (c:=_) rfl ntmps347 bA results347 rfl λi X g=>?_;apply aE;simp;apply fL;have h:=zG s t b f;refine bH (og 8 (.plain ⟨.d (.bool (decide (s.take t.length=t))),true⟩)) ?_;simp;refine⟨h,?_⟩;apply aM;simp;refine⟨λa=>?_,λa=>?_⟩
 .apply aE;simp;apply aH;simp;exact⟨λq=>absurd q a,a⟩
 .apply aG;simp;apply aF;have d:t.length<=s.length:=by have e:=congrArg G2 a;rw[C7]at e;omega
  apply aJ;simp;refine⟨aD,?_⟩;apply aH;simp;exact⟨λq=>absurd a q,a⟩
theorem HP(s t:aV)(a:s.length<=9223372036854775807)(b:t.length<=9223372036854775807):Ok prog 320 [.str s,.str t] ⟨.tup [.d (.str (if s.take t.length=t then s.drop t.length else s)),.d (.bool (decide (s.take t.length=t)))],true⟩:=by
 refine Ok.two func320 jM (c:=_) rfl ntmps320 bA results320 rfl λe X d=>?_;apply aE;simp;apply aF;have h:=Fu s t a b;refine bH (og 8 (.plain ⟨.tup [.d (.str (if s.take t.length=t then s.drop t.length else s)),.d (.bool (decide (s.take t.length=t)))],true⟩)) ?_;simp[bM];refine⟨h,?_⟩;apply aH;simp
theorem qJ{p:PS}(h:p.peek.take 1=[36]):p.peek=36::p.peek.drop 1/\localP p=(p.peek.drop 1,p.took p.peek):=by
 cases e:p.peek with
 |nil=>rw[e]at h;cases h
 |cons c r=>
  rw[e]at h;have a:c=36:=by simpa using h
  subst a;have b:p.is (36::r)=true:=nK.2 ⟨bA,e⟩;refine⟨rfl,?_⟩;rw[dI b];unfold localP;rw[e];rfl
theorem sR{p:PS}(h:¬p.peek.take 1=[36]):localP p=([],p.fail 2):=by
 unfold localP;split
 .rename_i r e;rw[e]at h;exact absurd rfl h
 .rfl
theorem PF{k:Int}{p:PS}(h:p.peek=[]\/digitB (p.peek[0]?.getD 0)=false):numeralP k p=(0,p.fail 2):=by
 unfold numeralP;split
 .rfl
 .rename_i c r e;rw[e]at h;rcases h with h|h
  .cases h
  .have h:digitB c=false:=h;rw[if_neg (by simp[h])]
theorem PG{k:Int}{p:PS}(d:¬p.peek=[])(a:digitB (p.peek[0]?.getD 0)=true)(b:valS p.peek<loAt k\/hiAt k<valS p.peek):numeralP k p=(0,p.fail 5):=by
 unfold numeralP;split
 .rename_i e;exact absurd e d
 .rename_i c r e;rw[e]at a b;have a:digitB c=true:=a;rw[if_pos a,if_pos b]
theorem UP{k:Int}{p:PS}(b:¬p.peek=[])(a:digitB (p.peek[0]?.getD 0)=true)(d:¬(valS p.peek<loAt k\/hiAt k<valS p.peek)):numeralP k p=(valS p.peek,p.took p.peek):=by
 have f:p.is p.peek=true:=nK.2 ⟨b,rfl⟩;rw[dI f];unfold numeralP;split
 .rename_i e;exact absurd e b
 .rename_i c r e;rw[e]at a d;have a:digitB c=true:=a;rw[if_pos a,if_neg d,e]
theorem AO(p:PS)(h:cF p.l):mH prog 287 [.bx 0 0] (dU p) (dU (localP p).2) (.d (.str (localP p).1)):=by
 unfold dU;refine nE func287 rfl ntmps287 results287 λk X e=>?_;apply aE;simp;apply aF;have j:=rB h;have g:=HP p.peek [36] aD bG;refine bH (λ|7=>some (.gen ⟨[(0,0)],[],[],dU p,.d (.str p.peek)⟩)|8=>some<| .plain ⟨.tup [.d (.str (if p.peek.take 1=[36]then p.peek.drop 1 else p.peek)),.d (.bool (decide (p.peek.take 1=[36])))],true⟩|_=>none) ?_;simp[bM];refine⟨⟨mL p,by simpa using g⟩,?_⟩;apply aF;apply bF;simp;refine⟨λa=>?_,λa=>?_⟩
 .refine dF (oh 14 (dU (p.fail 2)) (.tup [])) ?_;simp;refine⟨yJ p 2,?_⟩;apply aE;simp;apply aH;simp;exact aA e [2] [(0,0)] (by simp[sR a]) (by simp[sR a])
 .apply aG;simp;apply aF;obtain⟨f,c⟩:=qJ a;have d:36::p.peek.tail=p.peek:=by rw[<-List.drop_one];exact f.symm
  have i:=kD p p.peek;have b:=congrArg G2 d;refine bH (oh 18 (dU (p.took p.peek)) (.d (.bool (p.is p.peek)))) ?_;simp[a];refine⟨⟨by simp at b;omega,by rw[d];exact i⟩,?_⟩;apply aE;simp;apply aH;simp;exact aA e [2] [(0,0)] (by simp[a,c]) (by simp[c])
theorem qK(p:PS)(k:Int)(o:cF p.l)(c:0<=k/\k<37):mH prog 163 [.bx 0 0,.d (aI k)] (dU p) (dU (numeralP k p).2) (.d (aI (numeralP k p).1)):=by
 unfold dU;refine nE func163 rfl ntmps163 results163 λu X l=>?_;apply aE;simp;refine dF (oh 9 (dU p) (.d (.str p.peek))) ?_;simp;refine⟨mL p,?_⟩;apply fL;have n:=wB (p.peek[0]?.getD 0);refine bH (og 15 (.plain ⟨.d (.bool (digitB (p.peek[0]?.getD 0))),true⟩)) ?_;simp;refine⟨⟨λh=>A9.2 h,λ_=>n⟩,?_⟩;apply aM;simp;refine⟨λg=>?_,λa d=>?_⟩
 .refine dF (oh 19 (dU (p.fail 2)) (.tup [])) ?_;simp;refine⟨yJ p 2,?_⟩;apply aE;simp;apply aH;simp;have e:=PF (k:=k) g;exact aA l [4] [(0,0)] (by simp[e]) (by simp[e])
 .apply aG;simp;apply aF;obtain⟨t,f⟩:=MG (AC o a) d;have m:=XL p.peek (valS p.peek) aD (JT a f);refine bH (og 22 (.plain ⟨.tup [.d (aI (valS p.peek)),.d (.val .nilIface)],true⟩)) ?_;simp[bM];refine⟨m,?_⟩;apply fL;have i:=JG c;have j:=JH c;have q:=Gl;apply aJ;simp[i,j];refine⟨⟨⟨⟨c,aD⟩,λ_=>c⟩,λ_=>aD⟩,?_⟩;apply aM;simp;refine⟨λb=>?_,λr s=>?_⟩
  .refine dF (oh 40 (dU (p.fail 5)) (.tup [])) ?_;simp;refine⟨yJ p 5,?_⟩;apply aE;simp;apply aH;simp;have e:=PG (k:=k) a d b;exact aA l [4] [(0,0)] (by simp[e]) (by simp[e])
  .apply aG;simp;refine dF (oh 43 (dU (p.took p.peek)) (.d (.bool (p.is p.peek)))) ?_;simp;refine⟨kD p p.peek,?_⟩;apply aE;simp;apply aH;simp;have e:=UP (k:=k) a d aD;exact aA l [4] [(0,0)] (by simp[e]) (by simp[e])
theorem RG{k:Int}{p:PS}(h:cF p.l)(b:loAt k<=0/\0<=hiAt k/\ -999<=loAt k/\hiAt k<=999): -999<=(numeralP k p).1/\(numeralP k p).1<=999:=by
 by_cases q1:p.peek=[]\/digitB (p.peek[0]?.getD 0)=false
 .rw[PF q1];simp
 .have q2:¬p.peek=[]:=λe=>q1 (.inl e);have q3:digitB (p.peek[0]?.getD 0)=true:=by
   cases e:digitB (p.peek[0]?.getD 0)with
   |true=>rfl
   |false=>exact absurd (.inr e) q1
  by_cases a:valS p.peek<loAt k\/hiAt k<valS p.peek
  .rw[PG q2 q3 a];simp
  .rw[UP q2 q3 a];simp only;omega
theorem MH{p:PS}(h:p.is [45]=true):numberP p=(-(numeralP 0 (p.took [45])).1,(numeralP 0 (p.took [45])).2):=by
 rw[dI h];unfold numberP;rw[if_pos h]
theorem MI{p:PS}(h:p.is [45]=false):numberP p=numeralP 0 (p.took [45]):=by
 have a:¬p.is [45]=true:=by simp[h]
 rw[qI a];unfold numberP;rw[if_neg a]
theorem eI{p:PS}{s:aV}(h:cF p.l):cF (p.took s).l:=by
 unfold PS.took;split
 .exact dO h
 .exact h
theorem Gr(p:PS)(b:cF p.l):mH prog 162 [.bx 0 0] (dU p) (dU (numberP p).2) (.d (aI (numberP p).1)):=by
 unfold dU;refine nE func162 rfl ntmps162 results162 λg X d=>?_;apply aE;simp;apply aF;refine dF (oh 4 (dU (p.took [45])) (.d (.bool (p.is [45])))) ?_;simp;refine⟨kD p [45],?_⟩;apply aM;simp;refine⟨λa=>?_,λa=>?_⟩
 .apply aF;have c:=qK (p.took [45]) 0 (eI b) bG;have f:=RG (k:=0) (eI (s:=[45]) b) bG;refine bH (oh 6 (dU (numeralP 0 (p.took [45])).2) (.d (aI (numeralP 0 (p.took [45])).1))) ?_;simp;refine⟨⟨c,aD⟩,?_⟩;apply aH;simp;have e:=MH a;exact aA d [2] [(0,0)] (by simp[e]) (by simp[e])
 .apply aG;simp;apply aF;have c:=qK (p.took [45]) 0 (eI b) bG;refine bH (oh 9 (dU (numeralP 0 (p.took [45])).2) (.d (aI (numeralP 0 (p.took [45])).1))) ?_;simp;refine⟨c,?_⟩;apply aH;simp;have e:=MI a;exact aA d [2] [(0,0)] (by simp[e]) (by simp[e])
theorem RH{p:PS}(h:(nameP p).2.is [46]=true):placeP p=(.mk 35 ((nameP p).1++46::(nameP ((nameP p).2.took [46])).1) 0 [],(nameP ((nameP p).2.took [46])).2):=by
 rw[dI h];unfold placeP;rw[if_pos h]
theorem JU{p:PS}(h:(nameP p).2.is [46]=false):placeP p=(.mk 34 (nameP p).1 0 [],(nameP p).2.took [46]):=by
 have a:¬(nameP p).2.is [46]=true:=by simp[h]
 rw[qI a];unfold placeP;rw[if_neg a]
theorem tR{p:PS}(h:cF p.l):(nameP p).1.length<=17:=by
 unfold nameP;split
 .exact rB h
 .simp
theorem JV(p:PS)(b:cF p.l):mH prog 288 [.bx 0 0] (dU p) (dU (placeP p).2) (.d (placeP p).1.d):=by
 unfold dU;refine lE func288 rfl ntmps288 results288 λg X c=>?_;apply aE;simp;refine dF (oh 5 (dU (nameP p).2) (.d (.str (nameP p).1))) ?_;simp;refine⟨AN p,?_⟩;apply aF;refine dF (oh 8 (dU ((nameP p).2.took [46])) (.d (.bool ((nameP p).2.is [46])))) ?_;simp;refine⟨kD (nameP p).2 [46],?_⟩;apply aM;simp;refine⟨λa=>?_,λa=>?_⟩
 .have d:=tR b;have f:=tR (p:=(nameP p).2.took [46]) (eI (dY b).2.1);refine fF.rd [[0],[0],[0]] [[],[],[],[],[0],[],[],[3]] (oh 13 (dU (nameP ((nameP p).2.took [46])).2) (.d (.str (nameP ((nameP p).2.took [46])).1))) ?_;simp;refine⟨⟨⟨aD,AN _⟩,aD⟩,?_⟩;apply aE;simp;apply aH;simp;have e:=RH a;refine cP (x:=(placeP p).1.d) (by simp[e]) ?_;simp;exact aA c [0] [(0,0)] (hH:=by simp[e])
 .apply aG;simp;apply aE;simp;apply aH;simp;have e:=JU a;refine cP (x:=(placeP p).1.d) (by simp[e]) ?_;simp;exact aA c [0] [(0,0)] (hH:=by simp[e])
def opD(o:aV×Int):DV:=.agg [.str o.1,aI o.2]
theorem MJ:kU 6 2 BR=opsL.map opD:=jM
def XM(p:PS)(lv:Int):List (Nat×bJ):=[(0,.box false [.d (mP p.l),.d (aI p.e)]),(1,.box false [.d (aI lv)]),(2,.box false [.bx 0 0])]
def XN(p:PS)(lv:Int)(o:aV×Int):Bool:=decide (o.2=lv)&&decide (o.1=p.peek)
attribute[local simp] XM opD
theorem ZC(p:PS)(b:Int)(o:aV×Int):mH prog 346 [.d (opD o),.bx 1 0,.bx 2 0] (XM p b) (XM p b) (.d (.bool (XN p b o))):=by
 unfold XM;refine nE func346 rfl ntmps346 results346 λd X c=>?_;apply aE;simp;apply aF;refine fF.rd [[],[],[],[],[],[0],[0]] [[],[],[],[],[],[],[],[],[0]] (oh 13 (dU p) (.d (.str p.peek))) ?_;simp;refine⟨λ_=>mL p,?_⟩;apply aH;simp;by_cases a:o.2=b
 .exact aA c [4] [(0,0),(1,1),(2,2)] (by simp[a,XN,Bool.beq_eq_decide_eq]) (by simp[a])
 .exact aA c [4] [(0,0),(1,1),(2,2)] (by simp[a,XN]) (by simp[a])
theorem MK(p:PS)(a:Int)(l:List (aV×Int)):mH prog 345 [.d (.sl (l.map opD)),.fn 346 [.bx 1 0,.bx 2 0]] (XM p a) (XM p a) (.d (aI (oY (XN p a) l))):=by
 unfold XM;refine nE func345 rfl ntmps345 results345 λj X e=>?_;refine fF.len (t:=0) rfl λc=>?_;simp at c;apply aE;simp;apply eT;simp;apply aY;refine bC (ι:=Nat) (λi=>bB [(0,.d (.sl (l.map opD))),(1,.fn 346 [.bx 1 0,.bx 2 0]),(7,.d (aI l.length)),(8,.d (aI i))]) (λi=>aK [(0,.box false [.d (mP p.l),.d (aI p.e)]),(1,.box false [.d (aI a)]),(2,.box false [.bx 0 0])]) (λi=>i<=l.length/\XA (XN p a) l i) (λi=>l.length-i) 0 (aA e [0,1,7,8] [(0,0),(1,1),(2,2)]) (⟨D5 _,XA.zero⟩) λi b=>?_;apply aE;simp;apply aF;apply aM;simp;refine⟨λd=>?_,λd=>?_⟩
 .apply aG;simp;apply eE;apply aE;simp;apply aF;have f:i<l.length:=aD;have h:=ZC p a l[i];refine bH (og 16 (.gen ⟨[(0,0),(1,1),(2,2)],[],[],XM p a,.d (.bool (XN p a l[i]))⟩)) ?_;simp[f,eM];refine⟨h,?_⟩;apply aM;simp;refine⟨λg=>?_,λg=>?_⟩
  .apply aE;simp;apply aH;simp;exact aA e [4] [(0,0),(1,1),(2,2)] (by simp[yB (b.2.found d g)])
  .apply aG;simp;apply aJ;simp;refine⟨aD,?_⟩;refine Oe.mk (i+1) (aA e [0,1,7,8] [(0,0),(1,1),(2,2)]) ?_ ?_
   .exact⟨d,b.2.succ d g⟩
   .omega
 .apply bQ;simp;apply aE;simp;apply aH;simp;exact aA e [4] [(0,0),(1,1),(2,2)] (by simp[yC (b.2.none aD)])
theorem UQ(q:aV×Int->Bool):(D8 6).find? (λi=>q (opsL.getD i ([],0)))=opsL.findIdx? q:=by
 rw[show D8 6=[0,1,2,3,4,5] from rfl];unfold opsL;simp only[F4,E7,List.getD_cons_zero,List.getD_cons_succ,List.find?_nil,List.findIdx?_nil];cases q ([60],1)<;>cases q ([60,61],1)<;>cases q ([61,61],1)<;>cases q ([43],2)<;>cases q ([45],2)<;>cases q ([42],3)<;>rfl
theorem PH(p:PS)(a:Int):opI a p.peek=oY (XN p a) opsL:=by
 unfold opI oY;rw[<-UQ (XN p a)];rfl
def XO(l:List (aV×Int)):List DV:=l.flatMap λo=>[.str o.1,aI o.2]
theorem UR:BR=XO opsL:=jM
theorem PI:∀(l:List (aV×Int)) (k:Nat) (h:k<l.length),(XO l)[k*2]?.getD default=.str l[k].1
 |o::l,0,_=>rfl
 |o::l,k+1,h=>by
  have a:=PI l k (by simpa using h);have e:XO (o::l)=.str o.1::aI o.2::XO l:=rfl;rw[e,show(k+1)*2=k*2+1+1 by omega];exact a
theorem HQ{p:PS}{d:Int}(h:0<=opI d p.peek):BR[(opI d p.peek).toNat*2]?.getD default=.str p.peek/\p.is p.peek=true/\opI d p.peek<6:=by
 rw[PH]at h|-;unfold oY at h|-;split at h
 .rename_i i f;obtain⟨a,b,_⟩:=List.findIdx?_eq_some_iff_getElem.1 f;simp only[XN,D7,decide_eq_true_eq]at b;have c:∀o∈opsL,o.1≠[]:=bG;have e:=c _ (B4 a);rw[UR,Int.toNat_natCast,PI opsL i a,b.2];rw[b.2]at e;have:i<6:=a;exact⟨rfl,nK.2 ⟨e,rfl⟩,aD⟩
 .omega
theorem US{p:PS}{a:Int}(h:0<=opI a p.peek):opP a p=(opI a p.peek,p.took p.peek):=by
 rw[dI (HQ h).2.1];unfold opP;rw[if_pos h]
theorem aAC{p:PS}{a:Int}(h:opI a p.peek<0):opP a p=(opI a p.peek,p):=by
 unfold opP;rw[if_neg aD]
theorem AP(p:PS)(lv:Int):mH prog 319 [.bx 0 0,.d (aI lv)] (dU p) (dU (opP lv p).2) (.d (aI (opP lv p).1)):=by
 unfold dU;refine nE func319 rfl ntmps319 results319 λi X d=>?_;apply aE;simp;apply aF;have c:=MK p lv opsL;have e:=BE;rw[<-PH]at c;refine bH (og 8 (.gen ⟨[(0,0),(3,1),(2,2)],[],[],XM p lv,.d (aI (opI lv p.peek))⟩)) ?_;simp[MJ];refine⟨⟨aD,c⟩,?_⟩;apply aF;apply bF;simp;refine⟨λb=>?_,λb=>?_⟩
 .have a:=US b;obtain⟨f,h,g⟩:=HQ b;refine fF.rd [] [[],[],[],[],[],[0]] (oh 16 (dU (p.took p.peek)) (.d (.bool (p.is p.peek)))) ?_;simp[f];refine⟨⟨⟨⟨b,g⟩,aD⟩,kD p p.peek⟩,?_⟩;apply aE;simp;apply aH;simp;exact aA d [4] [(0,0)] (by simp[a]) (by simp[a])
 .have a:=aAC b;apply aG;simp;apply aE;simp;apply aH;simp;exact aA d [4] [(0,0)] (by simp[a]) (by simp[a])
end
section
attribute[local simp] aR bK bE aO aL aZ aP
attribute[local simp] kJ.cond Nd.d_eq nd_t nd_dr nd_td ndsD aU bO mP dU dH
structure jP(n:Nat)(g:FuncId)(x:PS->Nd×PS):Prop where
 ok:∀q:PS,q.l.length<n->cF q.l->mH prog g [.bx 0 0] (dU q) (dU (x q).2) (.d (x q).1.d)
 le:∀q:PS,q.l.length<n->cF q.l->(x q).2.l.length<=q.l.length/\cF (x q).2.l
structure ChS where
 f:Nat
 n:Nd
 q:PS
theorem RI{a:Int}{x:PS->Nd×PS}{f:Nat}{n:Nd}{q:PS}(b:q.l.length<f)(h:¬q.e=0):chainF a x f n q=(n,q):=by
 obtain⟨k,rfl⟩:∃k,f=k+1:=⟨f-1,aD⟩;rw[chainF,if_pos h]
theorem ML{lv:Int}{x:PS->Nd×PS}{f:Nat}{n:Nd}{q:PS}(b:q.l.length<f)(h:q.e=0)(a:(opP lv q).1<0):chainF lv x f n q=(n,(opP lv q).2):=by
 obtain⟨k,rfl⟩:∃k,f=k+1:=⟨f-1,aD⟩;rw[chainF,if_neg (by simp[h]),if_pos a]
theorem UT{a:Int}{x:PS->Nd×PS}{f:Nat}{n:Nd}{q:PS}(b:q.l.length<f)(h:q.e=0)(c:0<=(opP a q).1):
 chainF a x f n q=chainF a x (f-1) (.mk (26+(opP a q).1) [] 0 [n,(x (opP a q).2).1]) (x (opP a q).2).2:=by
 obtain⟨k,rfl⟩:∃k,f=k+1:=⟨f-1,aD⟩;rw[chainF,if_neg (by simp[h]),if_neg aD];rfl
theorem Db{lv:Int}{q:PS}(b:0<=(opP lv q).1):(opP lv q).2.l.length+1=q.l.length/\(opP lv q).1<=5:=by
 have h:0<=opI lv q.peek:=b;obtain⟨_,a,c⟩:=HQ h;rw[US h,dI a];exact⟨iH a,by simp only;omega⟩
theorem JW(p:PS)(a:Int)(x:PS->Nd×PS)(g:FuncId)(m:Nat)(c:jP m g x)(l:p.l.length<m)(k:cF p.l):mH prog 343 [.bx 0 0,.d (aI a),.bm g [.bx 0 0]] (dU p) (dU (chainP a x p).2) (.d (chainP a x p).1.d):=by
 unfold dU;refine lE func343 rfl ntmps343 results343 λy X i=>?_;apply aE;simp;apply aF;have r:=c.ok p l k;refine bH (oh 10 (dU (x p).2) (.d (x p).1.d)) ?_;simp[eM];refine⟨by simpa using r,?_⟩;apply eE;refine bC (ι:=ChS) (λ⟨f,n,q⟩=>bB [(0,.bx 0 0),(1,.d (aI a)),(2,.bm g [.bx 0 0]),(6,.bx 6 0),(7,.bx 7 0)]) (λ⟨f,n,q⟩=>aK [(0,.box false [.d (mP q.l),.d (aI q.e)]),(6,.box false [.d (aI 0),.d (.str []),.d (aI 0),.nl]),(7,.box false [.d (aI n.kind),.d (.str n.text),.d (aI n.n),.d (ndsD n.kids)])]) (λ⟨f,n,q⟩=>q.l.length<f/\cF q.l/\q.l.length<=p.l.length/\chainP a x p=chainF a x f n q) (λ⟨f,n,q⟩=>q.l.length) ⟨(x p).2.l.length+1,(x p).1,(x p).2⟩ (aA i [0,1,2,6,7] [(0,0),(6,6),(7,7)]) (⟨B5 _,(c.le p l k).2,(c.le p l k).1,rfl⟩) λ⟨f,n,q⟩ b=>?_;apply aF;apply bF;simp;refine⟨λd=>?_,λd=>?_⟩
 .apply aG;simp;apply aY;apply aF;have t:=AP q a;refine bH (oh 18 (dU (opP a q).2) (.d (aI (opP a q).1))) ?_;simp;refine⟨t,?_⟩;apply aF;apply bF;simp;refine⟨λh=>?_,λh=>?_⟩
  .apply bQ;simp;apply aE;simp;apply aH;simp;have e:chainP a x p=(n,(opP a q).2):=by rw[b.2.2.2];exact ML b.1 d h
   exact aA i [0] [(0,0)] (by simp[e]) (by simp[e])
  .apply aG;simp;obtain⟨w,or⟩:=Db h;have j:=xX (lv:=a) b.2.1;have s:=c.ok (opP a q).2 aD j.2;refine fF.rd [[0,26],[0,26],[0]] [[],[],[],[],[0],[26],[],[7]] (oh 25 (dU (x (opP a q).2).2) (.d (x (opP a q).2).1.d)) ?_;simp[eM];refine⟨⟨⟨⟨aD,aD⟩,by simpa using s⟩,bG⟩,?_⟩;refine Mn (cB 7 [26] (fz:=false) (cs:=[.d (aI (26+(opP a q).1)),.d (.str []),.d (aI 0),.ow 26 0 2]) (ds:=[aI (26+(opP a q).1),.str [],aI 0,.sl [n.d,(x (opP a q).2).1.d]]) bA bA bA (by simp[bJ.mut])) ?_;simp;refine Oe.mk ⟨f-1,.mk (26+(opP a q).1) [] 0 [n,(x (opP a q).2).1],(x (opP a q).2).2⟩ (aA i [0,1,2,6,7] [(0,0),(6,6),(7,7)]) ?_ ?_
   .have o:=c.le (opP a q).2 aD j.2;have u:=b.1;have v:=b.2.2.1;refine⟨?_,o.2,?_,?_⟩
    .show(x (opP a q).2).2.l.length<f-1;omega
    .show(x (opP a q).2).2.l.length<=p.l.length;omega
    .rw[b.2.2.2];exact UT b.1 d h
   .have o:=c.le (opP a q).2 aD j.2;show(x (opP a q).2).2.l.length<q.l.length;omega
 .apply bQ;simp;apply aE;simp;apply aH;simp;have e:chainP a x p=(n,q):=by rw[b.2.2.2];exact RI b.1 d
  exact aA i [0] [(0,0)] (by simp[e]) (by simp[e])
theorem JX{ex:PS->Nd×PS}{p:PS}(h:p.is [40]=true):factP ex p=((ex (p.took [40])).1,(ex (p.took [40])).2.need [41]):=by
 rw[dI h];unfold factP;rw[if_pos h]
theorem MM{ex:PS->Nd×PS}{p:PS}(b:p.is [40]=false)(a:p.is sKind=true):factP ex p=(.mk 36 [] 0 [],p.took sKind):=by
 rw[dI a];unfold factP;rw[if_neg (by simp[b]),if_pos a]
theorem JY{ex:PS->Nd×PS}{p:PS}(b:p.is [40]=false)(d:p.is sKind=false)(f:¬p.peek=[])(a:digitB (p.peek[0]?.getD 0)=true):factP ex p=(.mk 32 [] (numeralP 32 p).1 [],(numeralP 32 p).2):=by
 unfold factP;rw[if_neg (by simp[b]),if_neg (by simp[d])];cases e:p.peek with
 |nil=>exact absurd e f
 |cons c r=>
  rw[e]at a;have a:digitB c=true:=a;simp only[a,if_true]
theorem JZ{ex:PS->Nd×PS}{p:PS}(d:p.is [40]=false)(f:p.is sKind=false)(b:¬p.peek=[]->digitB (p.peek[0]?.getD 0)=false)(a:p.peek.take 1=[36]):factP ex p=(.mk 33 (localP p).1 0 [],(localP p).2):=by
 unfold factP;rw[if_neg (by simp[d]),if_neg (by simp[f])];cases e:p.peek with
 |nil=>rw[e]at a;cases a
 |cons c r=>
  rw[e]at b a;have b:digitB c=false:=b bA;have a:c=36:=by simpa using a
  simp[a];decide
theorem Ka{ex:PS->Nd×PS}{p:PS}(d:p.is [40]=false)(f:p.is sKind=false)(a:¬p.peek=[]->digitB (p.peek[0]?.getD 0)=false)(b:¬p.peek.take 1=[36]):factP ex p=placeP p:=by
 unfold factP;rw[if_neg (by simp[d]),if_neg (by simp[f])];cases e:p.peek with
 |nil=>rfl
 |cons c r=>
  rw[e]at a b;have a:digitB c=false:=a bA;have b:¬c=36:=by simpa using b
  simp[a,b]
theorem XP(p:PS)(n:Nat)(a:PS->Nd×PS)(u:jP n 285 a)(z:p.l.length<n+1)(f:cF p.l):mH prog 363 [.bx 0 0] (dU p) (dU (factP a p).2) (.d (factP a p).1.d):=by
 unfold dU;refine lE func363 rfl ntmps363 results363 λA X i=>?_;apply aE;simp;refine dF (oh 6 (dU p) (.d (.str p.peek))) ?_;simp;refine⟨mL p,?_⟩;apply eE;refine dF (oh 9 (dU (p.took [40])) (.d (.bool (p.is [40])))) ?_;simp;refine⟨kD p [40],?_⟩;apply aM;simp;refine⟨λb=>?_,λb=>?_⟩
 .apply aF;have w:=iH b;rw[<-dI b]at w;have y:=u.ok (p.took [40]) aD (eI f);refine bH (oh 11 (dU (a (p.took [40])).2) (.d (a (p.took [40])).1.d)) ?_;simp;refine⟨by simpa using y,?_⟩;apply aF;have k:=kX (a (p.took [40])).2 [41];refine bH (oh 13 (dU ((a (p.took [40])).2.need [41])) (.tup [])) ?_;simp;refine⟨k,?_⟩;apply aE;simp;apply aH;simp;have e:=JX (ex:=a) b;exact aA i [0] [(0,0)] (by simp[e]) (by simp[e])
 .have q:p.took [40]=p:=qI (by simp[b]);simp only[q];refine dF (oh 17 (dU (p.took [107,105,110,100])) (.d (.bool (p.is [107,105,110,100])))) ?_;simp;refine⟨kD p [107,105,110,100],?_⟩;apply aM;simp;refine⟨λd=>?_,λd=>?_⟩
  .apply aE;simp;apply aH;simp;have e:=MM (ex:=a) b d;refine cP (x:=(factP a p).1.d) (by simp[e]) ?_;simp;exact aA i [0] [(0,0)] (hH:=by simp[e,sKind])
  .have r:p.took [107,105,110,100]=p:=qI (by simp[d]);simp only[r];apply aF;have v:=wB (p.peek[0]?.getD 0);refine bH (og 25 (.plain ⟨.d (.bool (digitB (p.peek[0]?.getD 0))),true⟩)) ?_;simp;refine⟨⟨λh=>A9.2 h,λ_=>v⟩,?_⟩;apply aM;simp;refine⟨λs t=>?_,λg=>?_⟩
   .apply aF;have l:=qK p 32 f bG;refine bH (oh 28 (dU (numeralP 32 p).2) (.d (aI (numeralP 32 p).1))) ?_;simp;refine⟨l,?_⟩;apply aH;simp;have e:=JY (ex:=a) b d s t;refine cP (x:=(factP a p).1.d) (by simp[e]) ?_;simp;exact aA i [0] [(0,0)] (hH:=by simp[e])
   .apply aF;have m:=pH p.peek [36] (by have:=rB f;omega) bG;refine bH (og 32 (.plain ⟨.d (.bool (decide (p.peek.take 1=[36]))),true⟩)) ?_;simp;refine⟨m,?_⟩;apply aM;simp;refine⟨λc=>?_,λc=>?_⟩
    .apply aF;have j:=AO p f;refine bH (oh 34 (dU (localP p).2) (.d (.str (localP p).1))) ?_;simp;refine⟨j,?_⟩;apply aH;simp;have e:=JZ (ex:=a) b d g c;refine cP (x:=(factP a p).1.d) (by simp[e]) ?_;simp;exact aA i [0] [(0,0)] (hH:=by simp[e])
    .apply aG;simp;apply aF;have o:=JV p f;refine bH (oh 37 (dU (placeP p).2) (.d (placeP p).1.d)) ?_;simp;refine⟨by simpa using o,?_⟩;apply aH;simp;have e:=Ka (ex:=a) b d g c;exact aA i [0] [(0,0)] (by simp[e]) (by simp[e])
theorem Rt.le{n:Nat}{a:Int->Bool}{x:PS->Nd×PS}(h:Rt n a x)(q:PS)(c:q.l.length<n)(b:cF q.l):(x q).2.l.length<=q.l.length/\cF (x q).2.l:=⟨(h q c b).1,(h q c b).2.1⟩
theorem jP.fact{n:Nat}{a:PS->Nd×PS}(d:jP n 285 a)(e:Rt n isExprK a):jP (n+1) 363 (factP a):=
 ⟨λq c b=>XP q n a d c b,λq c b=>(Eb e).le q c b⟩
theorem XQ(p:PS)(n:Nat)(a:PS->Nd×PS)(b:jP n 285 a)(c:Rt n isExprK a)(f:p.l.length<n+1)(e:cF p.l):mH prog 344 [.bx 0 0] (dU p) (dU (prodP a p).2) (.d (prodP a p).1.d):=by
 unfold dU;refine lE func344 rfl ntmps344 results344 λh X g=>?_;apply aE;simp;apply aF;have d:=JW p 3 (factP a) 363 (n+1) (b.fact c) f e;refine bH (oh 6 (dU (prodP a p).2) (.d (prodP a p).1.d)) ?_;simp;refine⟨by simpa [prodP]using d,?_⟩;apply aH;simp;exact aA g [0] [(0,0)]
theorem jP.prod{n:Nat}{a:PS->Nd×PS}(e:jP n 285 a)(d:Rt n isExprK a):jP (n+1) 344 (prodP a):=
 ⟨λq c b=>XQ q n a e d c b,λq c b=>(Bv (Eb d)).le q c b⟩
theorem UU(p:PS)(n:Nat)(a:PS->Nd×PS)(b:jP n 285 a)(c:Rt n isExprK a)(f:p.l.length<n+1)(e:cF p.l):mH prog 318 [.bx 0 0] (dU p) (dU (sumP a p).2) (.d (sumP a p).1.d):=by
 unfold dU;refine lE func318 rfl ntmps318 results318 λh X g=>?_;apply aE;simp;apply aF;have d:=JW p 2 (prodP a) 344 (n+1) (b.prod c) f e;refine bH (oh 6 (dU (sumP a p).2) (.d (sumP a p).1.d)) ?_;simp;refine⟨by simpa [sumP]using d,?_⟩;apply aH;simp;exact aA g [0] [(0,0)]
theorem Gs{a:PS->Nd×PS}{p:PS}(h:0<=(opP 1 (sumP a p).2).1):exprB a p=(.mk (26+(opP 1 (sumP a p).2).1) [] 0 [(sumP a p).1,(sumP a (opP 1 (sumP a p).2).2).1],(sumP a (opP 1 (sumP a p).2).2).2):=by
 unfold exprB;simp only[];rw[if_pos h]
theorem Gt{a:PS->Nd×PS}{p:PS}(h:(opP 1 (sumP a p).2).1<0):exprB a p=((sumP a p).1,(opP 1 (sumP a p).2).2):=by
 unfold exprB;simp only[];rw[if_neg aD]
theorem MN(p:PS)(n:Nat)(a:PS->Nd×PS)(h:jP n 285 a)(c:Rt n isExprK a)(j:p.l.length<n+1)(i:cF p.l):mH prog 285 [.bx 0 0] (dU p) (dU (exprB a p).2) (.d (exprB a p).1.d):=by
 unfold dU;refine lE func285 rfl ntmps285 results285 λq X k=>?_;apply aE;simp;apply aF;have l:=UU p n a h c j i;have f:=(HH c).le p j i;refine bH (oh 6 (dU (sumP a p).2) (.d (sumP a p).1.d)) ?_;simp;refine⟨by simpa using l,?_⟩;apply fL;have m:=AP (sumP a p).2 1;refine bH (oh 8 (dU (opP 1 (sumP a p).2).2) (.d (aI (opP 1 (sumP a p).2).1))) ?_;simp;refine⟨m,?_⟩;apply bF;simp;refine⟨λb=>?_,λb=>?_⟩
 .apply aF;have o:=Db b;have g:=xX (lv:=1) f.2;have d:=UU (opP 1 (sumP a p).2).2 n a h c aD g.2;refine fF.rd [[0,16],[0,16],[0]] [[],[],[],[],[0],[16],[],[2]] (oh 15 (dU (sumP a (opP 1 (sumP a p).2).2).2) (.d (sumP a (opP 1 (sumP a p).2).2).1.d)) ?_;simp;refine⟨⟨⟨⟨aD,aD⟩,by simpa using d⟩,bG⟩,?_⟩;apply aH;simp;have e:=Gs b;refine cP (x:=(exprB a p).1.d) (by simp[e]) ?_;simp;exact aA k [0] [(0,0)] (hH:=by simp[e])
 .apply aG;simp;apply aE;simp;apply aH;simp;have e:=Gt b;exact aA k [0] [(0,0)] (by simp[e]) (by simp[e])
theorem Et:∀n:Nat,jP n 285 (exprP false n)
 |0=>⟨λq h _=>absurd h (E2 _),λq h _=>absurd h (E2 _)⟩
 |n+1=>by
  have e:∀q,exprP false (n+1) q=exprB (exprP false n) q:=λq=>by rw[exprP,if_neg bA]
  refine⟨λq b a=>?_,λq b a=>(AE (n+1)).le q b a⟩;rw[e];exact MN q n (exprP false n) (Et n) (AE n) b a
theorem BL{c:Prop}[Decidable c]{f:Nat->bJ}{A:bJ}{x:Nat}(h:f 0=A):cD f (if c then [(0,A)]else []) x=f x:=by
 by_cases a:c
 .rw[if_pos a];subst h;simp only[cD,cQ];split
  .rename_i e;rw[e]
  .rfl
 .rw[if_neg a];rfl
def ZD(n:Nat)(x:PS->Nd×PS):Prop:=∀q:PS,q.l.length<n->cF q.l->q.e=0->(x q).2.e≠0\/(x q).2.l.length<q.l.length
structure BlS where
 f:Nat
 ks:List Nd
 q:PS
theorem RJ{b:PS->Nd×PS}{a:List Nd}{q:PS}(h:q.e=0->q.peek=[125]):∀f,stmtsF b f a q=(a,q)
 |0=>rfl
 |f+1=>by
  rw[stmtsF,if_pos];by_cases e:q.e=0
  .exact .inr (h e)
  .exact .inl e
theorem UV{a:PS->Nd×PS}{b:List Nd}{q:PS}{f:Nat}(d:q.l.length<f)(h:q.e=0)(c:¬q.peek=[125]):stmtsF a f b q=stmtsF a (f-1) (b++[(a q).1]) (a q).2:=by
 obtain⟨k,rfl⟩:∃k,f=k+1:=⟨f-1,aD⟩;rw[stmtsF,if_neg]
 .rfl
 .rintro(e|e)
  .exact e h
  .exact c e
theorem Kb(p:PS)(n:Nat)(a:PS->Nd×PS)(r:jP n 235 a)(u:ZD n a)(C:p.l.length<n)(v:cF p.l)(A:p.l.length<=1100000):mH prog 160 [.bx 0 0] (dU p) (dU (blockB a p).2) (.d (blockB a p).1.d):=by
 unfold dU;refine lE func160 rfl ntmps160 results160 λD X m=>?_;apply aE;simp;apply aE;simp;refine lB (fz:=false) (cs:=[.d (aI 8),.d (.str []),.d (aI 0),.nl]) 3 3 1022 4 bG ⟨bA,bA,bA,?_⟩;simp;apply aF;have k:=kX p [123];have gl:=cK (s:=[123]) v;refine bH (oh 6 (dU (p.need [123])) (.tup [])) ?_;simp;refine⟨k,?_⟩;apply eE;refine bC (ι:=BlS) (λ⟨f,c,q⟩=>bB [(0,.bx 0 0),(2,.bx 2 0),(3,.bx 3 0)]) (λ⟨f,c,q⟩=>aK [(0,.box false [.d (mP q.l),.d (aI q.e)]),(2,.box false [.d (aI 0),.d (.str []),.d (aI 0),.nl]),(3,.box false [.d (aI 8),.d (.str []),.d (aI 0),.ow 1022 0 c.length]),(1022,.row false 4 (c.map Nd.d))]) (λ⟨f,c,q⟩=>(q.e=0->q.l.length<f)/\cF q.l/\q.l.length<=p.l.length/\c.length+q.l.length<=p.l.length+(if q.e=0 then 0 else 1)/\stmtsF a ((p.need [123]).l.length+1) [] (p.need [123])=stmtsF a f c q) (λ⟨f,c,q⟩=>2*q.l.length+(if q.e=0 then 1 else 0)) ⟨(p.need [123]).l.length+1,[],p.need [123]⟩ (aA m [0,2,3] [(0,0),(2,2),(3,3),(1022,1022)]) (⟨λ_=>B5 _,gl.2,gl.1,by have:=gl.1;simp only[A5];omega,rfl⟩) λ⟨f,c,q⟩ b=>?_;apply fL;have o:=mL q;refine bH (oh 14 (dU q) (.d (.str q.peek))) ?_;simp[BL];refine⟨λ_=>o,?_⟩;apply aM;simp;refine⟨λi t=>?_,λg=>?_⟩
 .apply aG;simp;apply aY;have y:q.l.length<=p.l.length:=b.2.2.1;have B:c.length+q.l.length<=p.l.length:=by have z:=b.2.2.2.1;simp only[i,if_true]at z;omega
  have w:=r.ok q aD b.2.1;have j:=r.le q aD b.2.1;have d:=u q aD b.2.1 i;refine fF.rd [[0,21],[0,21]] [[],[],[],[0],[21],[22,1022],[],[3]] (oh 20 (dU (a q).2) (.d (a q).1.d)) ?_;simp;refine⟨⟨by simpa using w,aD,aD⟩,?_⟩;refine Oe.mk ⟨f-1,c++[(a q).1],(a q).2⟩ (aA m [0,2,3] [(0,0),(2,2),(3,3),(22,1022)]) ?_ ?_
  .refine⟨λe=>?_,j.2,?_,?_,?_⟩
   .show(a q).2.l.length<f-1;have z:=b.1 i;rcases d with h|h
    .exact absurd e h
    .omega
   .show(a q).2.l.length<=p.l.length;omega
   .show(c++[(a q).1]).length+(a q).2.l.length<=p.l.length+(if(a q).2.e=0 then 0 else 1);rw[A2,List.length_singleton];by_cases e:(a q).2.e=0
    .rw[if_pos e];rcases d with h|h
     .exact absurd e h
     .omega
    .rw[if_neg e];omega
   .rw[b.2.2.2.2];exact UV (b.1 i) i t
  .show 2*(a q).2.l.length+(if(a q).2.e=0 then 1 else 0)<2*q.l.length+(if q.e=0 then 1 else 0);rw[if_pos i];by_cases e:(a q).2.e=0
   .rw[if_pos e];rcases d with h|h
    .exact absurd e h
    .omega
   .rw[if_neg e];omega
 .apply bQ;simp;apply aF;have l:=kX q [125];refine bH (oh 25 (dU (q.need [125])) (.tup [])) ?_;simp;refine⟨l,?_⟩;apply aE;simp;apply aH;simp;have e:blockB a p=(.mk 8 [] 0 c,q.need [125]):=by unfold blockB;simp only[];rw[b.2.2.2.2,RJ g]
  refine cP (x:=(blockB a p).1.d) (by simp[e]) ?_;simp;exact aA m [0] [(0,0)] (hH:=by simp[e])
def qL(k:Int)(p:PS):aV×PS:=if k=19\/k=20 then localP p else if k=21\/k=25\/k=24 then([],p)else nameP p
theorem yK{k:Int}{p:PS}(h:cF p.l):(qL k p).2.l.length<=p.l.length/\cF (qL k p).2.l:=by
 unfold qL;split
 .exact⟨(gD h).1,(gD h).2.1⟩
 .split
  .exact⟨A7 _,h⟩
  .exact⟨(dY h).1,(dY h).2.1⟩
theorem UW{ex:PS->Nd×PS}{k:Int}{p:PS}(h:k=15\/k=22\/k=24):cmdP ex k p=(.mk k (qL k p).1 0 [(ex (qL k p).2).1],(ex (qL k p).2).2):=by
 unfold cmdP;simp only[];rw[if_pos h];rfl
theorem PJ{ex:PS->Nd×PS}{k:Int}{p:PS}(a:¬(k=15\/k=22\/k=24))(h:k=16\/k=23):cmdP ex k p=(.mk k (qL k p).1 0 [.mk 33 (localP (qL k p).2).1 0 []],(localP (qL k p).2).2):=by
 unfold cmdP;simp only[];rw[if_neg a,if_pos h];rfl
theorem PK{ex:PS->Nd×PS}{k:Int}{p:PS}(a:¬(k=15\/k=22\/k=24))(b:¬(k=16\/k=23))(h:k=19\/k=21\/k=25):cmdP ex k p=(.mk k (qL k p).1 (numeralP k (qL k p).2).1 [],(numeralP k (qL k p).2).2):=by
 unfold cmdP;simp only[];rw[if_neg a,if_neg b,if_pos h];rfl
theorem Gu{ex:PS->Nd×PS}{k:Int}{p:PS}(a:¬(k=15\/k=22\/k=24))(b:¬(k=16\/k=23))(h:¬(k=19\/k=21\/k=25)):cmdP ex k p=(.mk k (qL k p).1 0 [],(qL k p).2):=by
 unfold cmdP;simp only[];rw[if_neg a,if_neg b,if_neg h];rfl
def cdH(p:PS)(x:Nd):List (Nat×bJ):=[(0,.box false [.d (mP p.l),.d (aI p.e)]),(1,.box false [.d (aI x.kind),.d (.str x.text),.d (aI x.n),.d (ndsD x.kids)])]
structure SPS where
 s:aV
 q:PS
theorem MO(p:PS)(n:Nat)(f:PS->Nd×PS)(k:Int)(M:0<=k/\k<37)(L:jP n 285 f)(O:p.l.length<n)(B:cF p.l):mH prog 286 [.bx 0 0,.bx 1 0] [(0,.box false [.d (mP p.l),.d (aI p.e)]),(1,.box false [.d (aI k),.d (.str []),.d (aI 0),.nl])] (cdH (cmdP f k p).2 (cmdP f k p).1) (.tup []):=by
 unfold cdH;refine oX func286 rfl ntmps286 results286 λP X a=>?_;refine bI (ι:=SPS) (λ⟨s,q⟩=>bB [(0,.bx 0 0),(1,.bx 1 0)]) (λ⟨s,q⟩=>aK [(0,.box false [.d (mP q.l),.d (aI q.e)]),(1,.box false [.d (aI k),.d (.str s),.d (aI 0),.nl])]) (λ⟨s,q⟩=>qL k p=(s,q)) ?_ λ⟨s,q⟩ c=>?_
 .apply aE;simp;apply aY;refine bI (ι:=BC) (λ⟨b⟩=>bB [(0,.bx 0 0),(1,.bx 1 0),(7,.d (aI k)),(13,.d (.bool b))]) (λ⟨b⟩=>aK [(0,.box false [.d (mP p.l),.d (aI p.e)]),(1,.box false [.d (aI k),.d (.str []),.d (aI 0),.nl])]) (λ⟨b⟩=>b=true↔(k=19\/k=20)) ?_ λ⟨b⟩ A=>?_
  .apply bF;simp;refine⟨λH=>?_,λH=>?_⟩
   .apply aG;simp;refine Xv.mk ⟨decide (k=19)⟩ (aA a [0,1,7,13] [(0,0),(1,1)]) ?_;simp[H]
   .apply aJ;simp;refine Xv.mk ⟨decide (k=20)⟩ (aA a [0,1,7,13] [(0,0),(1,1)]) ?_;simp only[decide_eq_true_eq];omega
  .apply aM;simp;refine⟨λE=>?_,λE=>?_⟩
   .have C:=A.1 E;have t:=AO p B;refine bH (oh 18 (dU (localP p).2) (.d (.str (localP p).1))) ?_;simp;refine⟨t,?_⟩;refine Xv.mk ⟨(localP p).1,(localP p).2⟩ (aA a [0,1] [(0,0),(1,1)]) ?_;unfold qL;rw[if_pos C]
   .have C:¬(k=19\/k=20):=λq=>by simp[A.2 q]at E
    refine bI (ι:=BC) (λ⟨b⟩=>bB [(0,.bx 0 0),(1,.bx 1 0),(7,.d (aI k)),(21,.d (.bool b))]) (λ⟨b⟩=>aK [(0,.box false [.d (mP p.l),.d (aI p.e)]),(1,.box false [.d (aI k),.d (.str []),.d (aI 0),.nl])]) (λ⟨b⟩=>b=true↔(k=21\/k=25\/k=24)) ?_ λ⟨b⟩ z=>?_
    .apply bF;simp;refine⟨λI=>?_,λI=>?_⟩
     .apply aG;simp;refine Xv.mk ⟨decide (k=21)⟩ (aA a [0,1,7,21] [(0,0),(1,1)]) ?_;simp[I]
     .apply bF;simp;refine⟨λJ=>?_,λJ=>?_⟩
      .apply aG;simp;refine Xv.mk ⟨decide (k=25)⟩ (aA a [0,1,7,21] [(0,0),(1,1)]) ?_;simp[J]
      .apply aJ;simp;refine Xv.mk ⟨decide (k=24)⟩ (aA a [0,1,7,21] [(0,0),(1,1)]) ?_;simp only[decide_eq_true_eq];omega
    .apply aM;simp;refine⟨λD=>?_,λD=>?_⟩
     .have q1:=z.1 D;apply aG;simp;refine Xv.mk ⟨[],p⟩ (aA a [0,1] [(0,0),(1,1)]) ?_;unfold qL;rw[if_neg C,if_pos q1]
     .have q1:¬(k=21\/k=25\/k=24):=λq=>by simp[z.2 q]at D
      have F:=AN p;refine bH (oh 10 (dU (nameP p).2) (.d (.str (nameP p).1))) ?_;simp;refine⟨F,?_⟩;refine Xv.mk ⟨(nameP p).1,(nameP p).2⟩ (aA a [0,1] [(0,0),(1,1)]) ?_;unfold qL;rw[if_neg C,if_neg q1]
 .apply aE;simp;apply aY;refine bI (ι:=BC) (λ⟨b⟩=>bB [(0,.bx 0 0),(1,.bx 1 0),(28,.d (aI k)),(29,.d (.bool b))]) (λ⟨b⟩=>aK [(0,.box false [.d (mP q.l),.d (aI q.e)]),(1,.box false [.d (aI k),.d (.str s),.d (aI 0),.nl])]) (λ⟨b⟩=>b=true↔(k=15\/k=22\/k=24)) ?_ λ⟨b⟩ i=>?_
  .apply bF;simp;refine⟨λK=>?_,λK=>?_⟩
   .apply aG;simp;refine Xv.mk ⟨decide (k=15)⟩ (aA a [0,1,28,29] [(0,0),(1,1)]) ?_;simp[K]
   .apply bF;simp;refine⟨λv=>?_,λv=>?_⟩
    .apply aG;simp;refine Xv.mk ⟨decide (k=22)⟩ (aA a [0,1,28,29] [(0,0),(1,1)]) ?_;simp[v]
    .apply aJ;simp;refine Xv.mk ⟨decide (k=24)⟩ (aA a [0,1,28,29] [(0,0),(1,1)]) ?_;simp only[decide_eq_true_eq];omega
  .apply aM;simp;refine⟨λm=>?_,λm=>?_⟩
   .have d:=i.1 m;have g:=yK (k:=k) B;rw[c]at g;have N:=L.ok q (by have:=g.1;simp only at this;omega) g.2;refine bH (oh 35 (dU (f q).2) (.d (f q).1.d)) ?_;simp;refine⟨by simpa using N,?_⟩;have e:=UW (ex:=f) (p:=p) d;rw[c]at e;refine iO.trans (cB 1 [36] (fz:=false) (cs:=[.d (aI k),.d (.str s),.d (aI 0),.ow 36 0 1]) (ds:=[aI k,.str s,aI 0,.sl [(f q).1.d]]) bA bA bA (by simp[bJ.mut])) ?_;simp;exact aA a [] [(0,0),(1,1)] (hH:=by simp[e])
   .have d:¬(k=15\/k=22\/k=24):=λq=>by simp[i.2 q]at m
    refine bI (ι:=BC) (λ⟨b⟩=>bB [(0,.bx 0 0),(1,.bx 1 0),(28,.d (aI k)),(39,.d (.bool b))]) (λ⟨b⟩=>aK [(0,.box false [.d (mP q.l),.d (aI q.e)]),(1,.box false [.d (aI k),.d (.str s),.d (aI 0),.nl])]) (λ⟨b⟩=>b=true↔(k=16\/k=23)) ?_ λ⟨b⟩ j=>?_
    .apply bF;simp;refine⟨λw=>?_,λw=>?_⟩
     .apply aG;simp;refine Xv.mk ⟨decide (k=16)⟩ (aA a [0,1,28,39] [(0,0),(1,1)]) ?_;simp[w]
     .apply aJ;simp;refine Xv.mk ⟨decide (k=23)⟩ (aA a [0,1,28,39] [(0,0),(1,1)]) ?_;simp only[decide_eq_true_eq];omega
    .apply aM;simp;refine⟨λo=>?_,λo=>?_⟩
     .have h:=j.1 o;have g:=yK (k:=k) B;rw[c]at g;have t:=AO q g.2;refine bH (oh 44 (dU (localP q).2) (.d (.str (localP q).1))) ?_;simp;refine⟨t,?_⟩;have e:=PJ (ex:=f) (p:=p) d h;rw[c]at e;refine iO.trans (cB 1 [46] (fz:=false) (cs:=[.d (aI k),.d (.str s),.d (aI 0),.ow 46 0 1]) (ds:=[aI k,.str s,aI 0,.sl [(Nd.mk 33 (localP q).1 0 []).d]]) bA bA bA (by simp[bJ.mut])) ?_;simp;exact aA a [] [(0,0),(1,1)] (hH:=by simp[e])
     .have h:¬(k=16\/k=23):=λq=>by simp[j.2 q]at o
      refine bI (ι:=BC) (λ⟨b⟩=>bB [(0,.bx 0 0),(1,.bx 1 0),(28,.d (aI k)),(49,.d (.bool b))]) (λ⟨b⟩=>aK [(0,.box false [.d (mP q.l),.d (aI q.e)]),(1,.box false [.d (aI k),.d (.str s),.d (aI 0),.nl])]) (λ⟨b⟩=>b=true↔(k=19\/k=21\/k=25)) ?_ λ⟨b⟩ l=>?_
      .apply bF;simp;refine⟨λx=>?_,λx=>?_⟩
       .apply aG;simp;refine Xv.mk ⟨decide (k=19)⟩ (aA a [0,1,28,49] [(0,0),(1,1)]) ?_;simp[x]
       .apply bF;simp;refine⟨λy=>?_,λy=>?_⟩
        .apply aG;simp;refine Xv.mk ⟨decide (k=21)⟩ (aA a [0,1,28,49] [(0,0),(1,1)]) ?_;simp[y]
        .apply aJ;simp;refine Xv.mk ⟨decide (k=25)⟩ (aA a [0,1,28,49] [(0,0),(1,1)]) ?_;simp only[decide_eq_true_eq];omega
      .apply aM;simp;refine⟨λr=>?_,λr=>?_⟩
       .have u:=l.1 r;have g:=yK (k:=k) B;rw[c]at g;have G:=qK q k g.2 M;refine bH (oh 59 (dU (numeralP k q).2) (.d (aI (numeralP k q).1))) ?_;simp;refine⟨G,?_⟩;have e:=PK (ex:=f) (p:=p) d h u;rw[c]at e;refine iO.trans (cB 1 [] (fz:=false) (cs:=[.d (aI k),.d (.str s),.d (aI (numeralP k q).1),.nl]) (ds:=[aI k,.str s,aI (numeralP k q).1,.sl []]) bA bA bA (by simp[bJ.mut])) ?_;simp;exact aA a [] [(0,0),(1,1)] (hH:=by simp[e])
       .have u:¬(k=19\/k=21\/k=25):=λq=>by simp[l.2 q]at r
        apply aG;simp;have e:=Gu (ex:=f) (p:=p) d h u;rw[c]at e;refine iO.trans (cB 1 [] (fz:=false) (cs:=[.d (aI k),.d (.str s),.d (aI 0),.nl]) (ds:=[aI k,.str s,aI 0,.sl []]) bA bA bA (by simp[bJ.mut])) ?_;simp;exact aA a [] [(0,0),(1,1)] (hH:=by simp[e])
end
theorem zX{α:Type}(q:α->Bool)(d:α):∀l:List α,(D8 l.length).find? (λi=>q (l.getD i d))=l.findIdx? q
 |[]=>rfl
 |x::l=>by
  have a:=zX q d l;rw[B1,List.range_succ_eq_map,F4,E7];have e:(x::l).getD 0 d=x:=rfl;rw[e];cases h:q x with
  |true=>simp
  |false=>
   simp only[List.find?_map];rw[<-a];rfl
theorem XR{s:aV}(h:¬s=[]):kindP s=oY (λx=>decide (s=x)) wordsL:=by
 unfold kindP wordI oY;rw[if_neg h];have e:=zX (λx=>decide (s=x)) [] wordsL;rw[show wordsL.length=26 from rfl]at e;rw[<-e];have a:(λi=>decide (wordsL.getD i []=s))=λi=>decide (s=wordsL.getD i []):=by funext i;rw[decide_eq_decide];exact eq_comm
 rw[a];rfl
theorem Kc{s:aV}(h:s=[]):kindP s= -1:=by unfold kindP;rw[if_pos h]
theorem mM{p:PS}(h:0<=kindP p.peek):p.is p.peek=true:=nK.2 ⟨λe=>by rw[Kc e]at h;omega,rfl⟩
theorem HR{ex bl:PS->Nd×PS}{p:PS}{k:Int}(b:kindP p.peek=k)(h:k=11)(a:(bl (ex (p.took p.peek)).2).2.is sElse=true):
 stmtB ex bl p=(.mk k [] 0 [(ex (p.took p.peek)).1,(bl (ex (p.took p.peek)).2).1,(bl ((bl (ex (p.took p.peek)).2).2.took sElse)).1],(bl ((bl (ex (p.took p.peek)).2).2.took sElse)).2):=by
 subst b;rw[dI a];rw[dI (mM aD)]at a|-;unfold stmtB;simp only[];rw[if_pos aD,if_pos ⟨h,a⟩]
theorem UX{ex bl:PS->Nd×PS}{p:PS}{k:Int}(b:kindP p.peek=k)(h:k=11\/k=12)(a:k=11->(bl (ex (p.took p.peek)).2).2.is sElse=false):
 stmtB ex bl p=(.mk k [] 0 [(ex (p.took p.peek)).1,(bl (ex (p.took p.peek)).2).1],(bl (ex (p.took p.peek)).2).2):=by
 subst b;rw[dI (mM aD)]at a|-;unfold stmtB;simp only[];rw[if_pos h,if_neg (λq=>by rw[a q.1]at q;exact absurd q.2 bA)]
theorem MP{a b:PS->Nd×PS}{p:PS}{k:Int}(c:kindP p.peek=k)(h:12<k):stmtB a b p=((cmdP a k (p.took p.peek)).1,(cmdP a k (p.took p.peek)).2.need [59]):=by
 subst c;rw[dI (mM aD)];unfold stmtB;simp only[];rw[if_neg aD,if_pos h]
theorem Eu{a b:PS->Nd×PS}{p:PS}{k:Int}(e:kindP p.peek=k)(c:¬(k=11\/k=12))(h:¬12<k)(d:p.peek.take 1=[36]):stmtB a b p=(.mk 9 (localP p).1 0 [(a ((localP p).2.need [61])).1],(a ((localP p).2.need [61])).2.need [59]):=by
 subst e;unfold stmtB;simp only[];rw[if_neg c,if_neg h];rw[(qJ d).1];rfl
theorem Ev{a c:PS->Nd×PS}{p:PS}{k:Int}(f:kindP p.peek=k)(d:¬(k=11\/k=12))(h:¬12<k)(b:¬p.peek.take 1=[36]):stmtB a c p=(.mk 10 [] 0 [(placeP p).1,(a ((placeP p).2.need [61])).1],(a ((placeP p).2.need [61])).2.need [59]):=by
 subst f;unfold stmtB;simp only[];rw[if_neg d,if_neg h];split
 .rename_i r e;rw[e]at b;exact absurd rfl b
 .rfl
theorem kE{p:PS}{s:aV}:(p.need s).l.length<=p.l.length:=by
 unfold PS.need;split
 .exact eN
 .rw[qE];exact A7 _
theorem MQ{m:Nat}{a c:PS->Nd×PS}(x:Stk a)(N:Stk c)(n:Rt (m+1) isExprK a)(w:Rt m isBlockK c):ZD (m+1) (stmtB a c):=λp M h _=>by
 by_cases l:(stmtB a c p).2.e=0
 .right;obtain⟨k,f⟩:∃k,kindP p.peek=k:=⟨_,rfl⟩;by_cases r:k=11\/k=12
  .have b:=mM (p:=p) aD;have g:=iH b;rw[<-dI b]at g;have o:=eI (s:=p.peek) h;obtain⟨v,C,_⟩:=n (p.took p.peek) aD o;obtain⟨L,A,_⟩:=w (a (p.took p.peek)).2 aD C;by_cases i:k=11/\(c (a (p.took p.peek)).2).2.is sElse=true
   .rw[HR f i.1 i.2];have E:=iH i.2;rw[<-dI i.2]at E;obtain⟨B,_,_⟩:=w ((c (a (p.took p.peek)).2).2.took sElse) aD (eI A);show(c ((c (a (p.took p.peek)).2).2.took sElse)).2.l.length<p.l.length;omega
   .rw[UX f r (λq=>by
     cases z:(c (a (p.took p.peek)).2).2.is sElse with
     |false=>rfl
     |true=>exact absurd ⟨q,z⟩ i)]
    show(c (a (p.took p.peek)).2).2.l.length<p.l.length;omega
  .by_cases t:12<k
   .have b:=mM (p:=p) aD;have g:=iH b;rw[<-dI b]at g;have o:=eI (s:=p.peek) h;obtain⟨B,_,_⟩:=Ps (m:=m+1) x n (k:=k) (f▸zR (s:=p.peek) aD) (p.took p.peek) aD o;rw[MP f t];have:=kE (p:=(cmdP a k (p.took p.peek)).2) (s:=[59]);show((cmdP a k (p.took p.peek)).2.need [59]).l.length<p.l.length;omega
   .by_cases j:p.peek.take 1=[36]
    .obtain⟨O,D⟩:=qJ j;have b:p.is p.peek=true:=nK.2 ⟨λe=>(by rw[e]at j;cases j),rfl⟩;have g:=iH b;rw[<-dI b]at g;rw[Eu f r t j,D];have F:=kE (p:=p.took p.peek) (s:=[61]);obtain⟨v,_,_⟩:=n ((p.took p.peek).need [61]) aD (cK (eI h)).2;have G:=kE (p:=(a ((p.took p.peek).need [61])).2) (s:=[59]);show((a ((p.took p.peek).need [61])).2.need [59]).l.length<p.l.length;omega
    .rw[Ev f r t j]at l|-;have l:((a ((placeP p).2.need [61])).2.need [59]).e=0:=l;have u:=x _ (need_e l).2;have d:=(need_e u).2;have S:(placeP p).2.l.length<p.l.length:=by
      unfold placeP at d|-;have y:(nameP p).2.e=0->(nameP p).2.l.length<p.l.length:=λz=>by
       cases q:isNameB p.peek with
       |false=>rw[wC q]at z;exact absurd z (fail_e bG)
       |true=>
        have b:p.is p.peek=true:=nK.2 ⟨λe=>(by rw[e]at q;cases q),rfl⟩;have g:=iH b;rw[AM q,dI b];simp only;omega
      have H:=dY h;split at d
      .rename_i z;rw[if_pos z];have J:=nameP_stk _ d;have K:(nameP p).2.e=0:=J;have Q:=(dY (p:=(nameP p).2.skip) (dO H.2.1)).1;have P:=eN (p:=(nameP p).2);have:=y K;simp only;omega
      .rename_i z;rw[if_neg z];exact y d
     have F:=kE (p:=(placeP p).2) (s:=[61]);have I:=(sK (p.l.length+1) p (B5 _) h).2.1;obtain⟨v,_,_⟩:=n ((placeP p).2.need [61]) aD (cK I).2;have G:=kE (p:=(a ((placeP p).2.need [61])).2) (s:=[59]);show((a ((placeP p).2.need [61])).2.need [59]).l.length<p.l.length;omega
 .exact .inl l
section
attribute[local simp] aR bK bE aO aL aZ aP
attribute[local simp] kJ.cond Nd.d_eq nd_t nd_dr nd_td ndsD aU bO mP dU dH
theorem Cu(k:IntKind)(n:Int):(Value.int k n).oneCell'=true:=rfl
theorem Cv(x:ByteArray):(Value.string x).oneCell'=true:=rfl
theorem Cw(x:Option Addr)(a b:Nat):(Value.slice x a b).oneCell'=true:=rfl
theorem Kd(a b c d:Value):(∀(i:Nat) (x:i<4),([a,b,c,d][i]'(x)).oneCell'=true)↔(a.oneCell'=true/\b.oneCell'=true/\c.oneCell'=true/\d.oneCell'=true):=by
 constructor
 .intro h;exact⟨h 0 bG,h 1 bG,h 2 bG,h 3 bG⟩
 .rintro⟨e,f,g,j⟩ i k
  match i,k with
  |0,_=>exact e
  |1,_=>exact f
  |2,_=>exact g
  |3,_=>exact j
attribute[local simp] mI Cu Cv Cw Kd
theorem RK{c:Prop}[Decidable c]{f:Nat->bJ}{a b:PS}{x:Nat}(h:f 0=.box false [.d (.sl (b.l.map Tk.d)),.d (aI b.e)]):
 cD f (if c then [(0,.box false [.d (.sl (a.l.map Tk.d)),.d (aI a.e)])]else []) x=if x=0 then .box false [.d (.sl ((if c then a else b).l.map Tk.d)),.d (aI (if c then a else b).e)]else f x:=by
 by_cases d:c
 .simp only[d,if_true,cD,cQ]
 .simp only[d,if_false,cD];split
  .rename_i e;rw[e];exact h
  .rfl
structure KC where
 k:Int
structure StS where
 x:Nd
 q:PS
theorem MR(p:PS)(n:Nat)(a c:PS->Nd×PS)(r:jP (n+1) 285 a)(y:jP n 160 c)(U:p.l.length<n+1)(l:cF p.l):mH prog 235 [.bx 0 0] (dU p) (dU (stmtB a c p).2) (.d (stmtB a c p).1.d):=by
 unfold dU;refine lE func235 rfl ntmps235 results235 λY X i=>?_;apply aE;simp;refine dF (oh 7 (dU p) (.d (.str p.peek))) ?_;simp;refine⟨mL p,?_⟩;apply aE;simp;refine bI (ι:=KC) (λ⟨k⟩=>bB [(0,.bx 0 0),(2,.bx 2 0),(3,.d (.str p.peek)),(4,.d (aI k))]) (λ⟨k⟩=>aK [(0,.box false [.d (mP p.l),.d (aI p.e)]),(2,.box false [.d (aI 0),.d (.str []),.d (aI 0),.nl])]) (λ⟨k⟩=>kindP p.peek=k) ?_ λ⟨k⟩ d=>?_
 .apply bF;simp;refine⟨λw=>?_,λw=>?_⟩
  .have I:=rR wordsL p.peek;have q2:=nJ;rw[<-XR w]at I;refine bH (og 12 (.plain ⟨.d (aI (kindP p.peek)),true⟩)) ?_;simp[zU];refine⟨⟨aD,I⟩,?_⟩;refine Xv.mk ⟨kindP p.peek⟩ (aA i [0,2,3,4] [(0,0),(2,2)]) ?_;rfl
  .apply aG;simp;refine Xv.mk ⟨-1⟩ (aA i [0,2,3,4] [(0,0),(2,2)]) ?_;exact Kc w
 .apply aE;simp;refine bI (ι:=StS) (λ⟨x,q⟩=>bB [(0,.bx 0 0),(2,.bx 2 0),(5,.bx 5 0)]) (λ⟨x,q⟩=>aK [(0,.box false [.d (mP q.l),.d (aI q.e)]),(2,.box false [.d (aI 0),.d (.str []),.d (aI 0),.nl]),(5,.box false [.d (aI x.kind),.d (.str x.text),.d (aI x.n),.d (ndsD x.kids)])]) (λ⟨x,q⟩=>stmtB a c p=(x,q.need [59])) ?_ λ⟨x,q⟩ h=>?_
  .apply aY;apply bF;simp;refine⟨λg=>?_,λQ S=>?_⟩
   .apply aF;have t:=mM (p:=p) aD;have G:=iH t;rw[<-dI t]at G;have u:=eI (s:=p.peek) l;refine bH (oh 39 (dU (p.took p.peek)) (.d (.bool (p.is p.peek)))) ?_;simp;refine⟨kD p p.peek,?_⟩;refine lB (fz:=false) (cs:=[.d (aI k),.d (.str []),.d (aI 0),.nl]) 5 3 1048 4 bG ⟨bA,bA,bA,?_⟩;simp;apply aF;have N:=r.ok (p.took p.peek) aD u;have J:=r.le (p.took p.peek) aD u;have M:=y.ok (a (p.took p.peek)).2 aD J.2;have P:=y.le (a (p.took p.peek)).2 aD J.2;refine fF.rd [[0,47],[0,47],[47],[47],[0,47],[47],[0,47],[0],[],[5],[5],[0,5,47,48,1048],[5],[5],[48],[48]] [[],[],[],[0],[],[0],[],[47],[48,1048],[],[48],[],[],[48],[],[5]] (λ|43=>some (.gen ⟨[(0,0)],[],[],dU (a (p.took p.peek)).2,.d (a (p.took p.peek)).1.d⟩)|45=>some (.gen ⟨[(0,0)],[],[],dU (c (a (p.took p.peek)).2).2,.d (c (a (p.took p.peek)).2).1.d⟩)|_=>none) ?_;simp;refine⟨⟨⟨by simpa using N,by simpa using M⟩,bG⟩,?_⟩;apply fL;have O:=kD (c (a (p.took p.peek)).2).2 sElse;refine bH (oh 57 (dU ((c (a (p.took p.peek)).2).2.took sElse)) (.d (.bool ((c (a (p.took p.peek)).2).2.is sElse)))) ?_;simp[RK (b:=(c (a (p.took p.peek)).2).2)];refine⟨λ_=>O,?_⟩;apply aM;simp;refine⟨λm H=>?_,λm=>?_⟩
    .simp only[m,if_true];have L:=eI (s:=sElse) P.2;have W:((c (a (p.took p.peek)).2).2.took sElse).l.length<=(c (a (p.took p.peek)).2).2.l.length:=by rw[dI H];exact eN
     have A:=y.ok ((c (a (p.took p.peek)).2).2.took sElse) aD L;refine fF.rd [[0,64],[0,64],[64],[64],[0,64],[0],[],[5],[5],[65],[65]] [[],[],[],[0],[],[64],[65,48],[],[65],[],[5]] (oh 62 (dU (c ((c (a (p.took p.peek)).2).2.took sElse)).2) (.d (c ((c (a (p.took p.peek)).2).2.took sElse)).1.d)) ?_;simp;refine⟨by simpa using A,?_⟩;apply aE;simp;apply aH;simp;have e:=HR (ex:=a) (bl:=c) d m H;refine cP (x:=(stmtB a c p).1.d) (by simp[e,m]) ?_;simp;exact aA i [0] [(0,0)] (hH:=by simp[e])
    .have K:(if k=11 then(c (a (p.took p.peek)).2).2.took sElse else(c (a (p.took p.peek)).2).2)=(c (a (p.took p.peek)).2).2:=by
      split
      .rename_i z;exact qI (by simp[m z])
      .rfl
     simp only[K];apply aG;simp;apply aE;simp;apply aH;simp;have e:=UX (ex:=a) (bl:=c) d g m;refine cP (x:=(stmtB a c p).1.d) (by simp[e]) ?_;simp;exact aA i [0] [(0,0)] (hH:=by simp[e])
   .apply bF;simp;refine⟨λo=>?_,λo=>?_⟩
    .apply aF;have t:=mM (p:=p) (by have:=d;simp only at this;omega);have G:=iH t;rw[<-dI t]at G;have u:=eI (s:=p.peek) l;refine bH (oh 74 (dU (p.took p.peek)) (.d (.bool (p.is p.peek)))) ?_;simp;refine⟨kD p p.peek,?_⟩;have V:=zR (s:=p.peek) (by have:=d;simp only at this;omega);have B:=MO (p.took p.peek) (n+1) a k (by have:=d;simp only at this;omega) r aD u;refine bH (og 76 (.gen ⟨[(0,0),(5,1)],[],[],cdH (cmdP a k (p.took p.peek)).2 (cmdP a k (p.took p.peek)).1,.tup []⟩)) ?_;simp[cdH];refine⟨by simpa [cdH]using B,?_⟩;refine Xv.mk ⟨(cmdP a k (p.took p.peek)).1,(cmdP a k (p.took p.peek)).2⟩ (aA i [0,2,5] [(0,0),(2,2),(5,5)]) ?_;exact MP d o
    .apply aF;have D:=pH p.peek [36] (by have:=rB l;omega) bG;refine bH (og 79 (.plain ⟨.d (.bool (decide (p.peek.take 1=[36]))),true⟩)) ?_;simp;refine⟨D,?_⟩;apply aM;simp;refine⟨λj=>?_,λj=>?_⟩
     .apply aF;have C:=AO p l;have gl:=gD l;refine bH (oh 81 (dU (localP p).2) (.d (.str (localP p).1))) ?_;simp;refine⟨C,?_⟩;apply aF;have f:=kX (localP p).2 [61];have v:=cK (s:=[61]) gl.2.1;refine bH (oh 84 (dU ((localP p).2.need [61])) (.tup [])) ?_;simp;refine⟨f,?_⟩;have F:=r.ok ((localP p).2.need [61]) (by have:=gl.1;omega) v.2;refine bH (oh 86 (dU (a ((localP p).2.need [61])).2) (.d (a ((localP p).2.need [61])).1.d)) ?_;simp;refine⟨by simpa using F,?_⟩;refine iF (cB 5 [87] (fz:=false) (cs:=[.d (aI 9),.d (.str (localP p).1),.d (aI 0),.ow 87 0 1]) (ds:=[aI 9,.str (localP p).1,aI 0,.sl [(a ((localP p).2.need [61])).1.d]]) bA bA bA (by simp[bJ.mut])) ?_;simp;refine Xv.mk ⟨.mk 9 (localP p).1 0 [(a ((localP p).2.need [61])).1],(a ((localP p).2.need [61])).2⟩ (aA i [0,2,5] [(0,0),(2,2),(5,5)]) ?_;exact Eu d aD aD j
     .apply aF;have E:=JV p l;have gl:=sK (p.l.length+1) p (B5 _) l;refine bH (oh 16 (dU (placeP p).2) (.d (placeP p).1.d)) ?_;simp;refine⟨by simpa using E,?_⟩;apply aF;have f:=kX (placeP p).2 [61];have v:=cK (s:=[61]) gl.2.1;refine bH (oh 20 (dU ((placeP p).2.need [61])) (.tup [])) ?_;simp;refine⟨f,?_⟩;have F:=r.ok ((placeP p).2.need [61]) (by have:=gl.1;omega) v.2;refine fF.rd [[0,26],[0,26],[26],[26],[0,26],[0],[],[5],[5],[27],[27]] [[],[],[],[0],[],[26],[27,17],[],[27],[],[5]] (oh 24 (dU (a ((placeP p).2.need [61])).2) (.d (a ((placeP p).2.need [61])).1.d)) ?_;simp;refine⟨by simpa using F,?_⟩;refine iF (cB 5 [27] (fz:=false) (cs:=[.d (aI 10),.d (.str []),.d (aI 0),.ow 27 0 2]) (ds:=[aI 10,.str [],aI 0,.sl [(placeP p).1.d,(a ((placeP p).2.need [61])).1.d]]) bA bA bA (by simp[bJ.mut])) ?_;simp;refine Xv.mk ⟨.mk 10 [] 0 [(placeP p).1,(a ((placeP p).2.need [61])).1],(a ((placeP p).2.need [61])).2⟩ (aA i [0,2,5] [(0,0),(2,2),(5,5)]) ?_;exact Ev d aD aD j
  .apply aF;have f:=kX q [59];refine bH (oh 90 (dU (q.need [59])) (.tup [])) ?_;simp;refine⟨f,?_⟩;apply aE;simp;apply aH;simp;exact aA i [0] [(0,0)] (by simp[h]) (by simp[h])
end
section
attribute[local simp] aR bK bE aO aL aZ aP
attribute[local simp] kJ.cond Nd.d_eq nd_t nd_dr nd_td ndsD aU bO dH mI Cu Cv Cw Kd Int.add_assoc
def jB(L:List Int)(i:Nat):List (Nat×bJ):=[(0,.box false [.d (.sl (L.map aI)),.d (aI i)])]
def Iy(L:List Int):Prop:=∀n∈L, -9223372036854775808<=n/\n<=9223372036854775807
attribute[local simp] jB
theorem bY(l:List Int)(i m:Int)(h:0<m):0<=dM l i m/\dM l i m<m:=by
 unfold dM;split
 .omega
 .exact dN _ _ h
theorem fM(L:List Int)(i:Nat)(m:Int)(b:Iy L)(f:i<=3000000)(d:m≠0):mH prog 221 [.bx 0 0,.d (aI m)] (jB L i) (jB L (i+1)) (.d (aI (dM L i m))):=by
 unfold jB;refine nE func221 rfl ntmps221 results221 λg X e=>?_;apply aE;simp;apply aE;simp;refine⟨aD,?_⟩;apply aF;have c:=Jz L i m b d;have a:(i:Int)+1-1=i:=aD;refine fF.rd [] [[],[],[],[],[],[],[],[],[],[],[22]] (og 22 (.plain ⟨.d (aI (dM L i m)),true⟩)) ?_;simp[a];refine⟨⟨aD,c⟩,?_⟩;apply aH;simp;exact aA e [4] [(0,0)]
theorem XS{L:List Int}{i:Nat}:(callL.map DV.str)[(dM L i 8).toNat]?.getD default=.str (callM L i):=by
 have h:=bY L i 8 bG;have a:(dM L i 8).toNat<callL.length:=by show _<8;omega
 unfold callM;rw[C0,A1 a];simp[A0,a]
theorem ZE{L:List Int}{i:Nat}:(ownL.map DV.str)[(dM L i 4).toNat]?.getD default=.str (ownM L i):=by
 have h:=bY L i 4 bG;have a:(dM L i 4).toNat<ownL.length:=by show _<4;omega
 unfold ownM;rw[C0,A1 a];simp[A0,a]
theorem ZF{L:List Int}{i:Nat}:(numsM.map aI)[(dM L i 6).toNat]?.getD default=aI (numsM.getD (dM L i 6).toNat 0):=by
 have h:=bY L i 6 bG;have a:(dM L i 6).toNat<numsM.length:=by show _<6;omega
 rw[C0,A1 a];simp[A0,a]
theorem jQ(L:List Int)(i:Nat)(b:Iy L)(d:i<=3000000):mH prog 222 [.bx 0 0] (jB L i) (jB L (i+1)) (.d (.str (callM L i))):=by
 unfold jB;refine nE func222 rfl ntmps222 results222 λg X e=>?_;apply aE;simp;apply aF;have c:=fM L i 8 b d bG;have f:=bY L i 8 bG;have a:=XS (L:=L) (i:=i);simp[callL]at a;refine bH (oh 5 (jB L (i+1)) (.d (aI (dM L i 8)))) ?_;simp[a];refine⟨⟨⟨⟨bG,by simpa using c⟩,aD⟩,aD⟩,?_⟩;apply aH;simp;exact aA e [2] [(0,0)]
theorem AQ(L:List Int)(i:Nat)(b:Iy L)(d:i<=3000000):mH prog 275 [.bx 0 0] (jB L i) (jB L (i+1)) (.d (.str (ownM L i))):=by
 unfold jB;refine nE func275 rfl ntmps275 results275 λg X e=>?_;apply aE;simp;apply aF;have c:=fM L i 4 b d bG;have f:=bY L i 4 bG;have a:=ZE (L:=L) (i:=i);simp[ownL]at a;refine bH (oh 5 (jB L (i+1)) (.d (aI (dM L i 4)))) ?_;simp[a];refine⟨⟨⟨⟨bG,by simpa using c⟩,aD⟩,aD⟩,?_⟩;apply aH;simp;exact aA e [2] [(0,0)]
theorem nL(L:List Int)(i:Nat):(callM L i).length<=16:=by
 have h:=bY L i 8 bG;unfold callM;have:∀k:Nat,(callL.getD k []).length<=16:=λk=>by
  rw[A0];cases e:callL[k]? with
  |none=>simp
  |some w=>
   have:=B2 e;exact(by decide:∀w∈callL,w.length<=16) w this
 exact this _
theorem UY(L:List Int)(i:Nat)(a:Iy L)(h:i<=2000000):mH prog 277 [.bx 0 0] (jB L i) (jB L (placeM L i).2) (.d (placeM L i).1.d):=by
 unfold jB;refine lE func277 rfl ntmps277 results277 λl X f=>?_;apply aE;simp;apply fL;have g:=fM L i 3 a aD bG;refine bH (oh 5 (jB L (i+1)) (.d (aI (dM L i 3)))) ?_;simp;refine⟨by simpa using g,?_⟩;apply aM;simp;refine⟨λd=>?_,λd=>?_⟩
 .apply aF;have b:=jQ L (i+1) a aD;refine bH (oh 8 (jB L (i+1+1)) (.d (.str (callM L (i+1))))) ?_;simp;refine⟨by simpa using b,?_⟩;apply aH;simp;have e:placeM L i=(.mk 34 (callM L (i+1)) 0 [],i+2):=by unfold placeM;rw[if_pos d]
  refine cP (x:=(placeM L i).1.d) (by simp[e]) ?_;simp;exact aA f [0] [(0,0)] (hH:=by simp[e])
 .apply aG;simp;apply aF;have b:=jQ L (i+1) a aD;refine bH (oh 11 (jB L (i+1+1)) (.d (.str (callM L (i+1))))) ?_;simp;refine⟨by simpa using b,?_⟩;apply aF;have c:=jQ L (i+2) a aD;have j:=nL L (i+1);have k:=nL L (i+2);refine bH (oh 15 (jB L (i+2+1)) (.d (.str (callM L (i+2))))) ?_;simp;refine⟨⟨⟨aD,by simpa using c⟩,aD⟩,?_⟩;apply aH;simp;have e:placeM L i=(.mk 35 (callM L (i+1)++46::callM L (i+2)) 0 [],i+3):=by unfold placeM;rw[if_neg aD]
  refine cP (x:=(placeM L i).1.d) (by simp[e]) ?_;simp;exact aA f [0] [(0,0)] (hH:=by simp[e])
end
def Wt(x:PS->Nd×PS):Prop:=∀p:PS,cF p.l->weighN (x p).1+41*(x p).2.l.length<=41*p.l.length+40/\cF (x p).2.l
theorem Ew:Wt placeP:=λp h=>by
 have a:=dY h;have c:=tR h;unfold placeP;split
 .have b:=dY (dO a.2.1);have t2:=tR (p:=(nameP p).2.skip) (dO a.2.1);have s:=eN (p:=(nameP p).2);refine⟨?_,b.2.1⟩;simp only[weighN,weighL,A2,B1];omega
 .refine⟨?_,a.2.1⟩;simp only[weighN,weighL];omega
theorem XT{b:PS->Nd×PS}(c:Wt b):Wt (factP b):=λp h=>by
 unfold factP;split
 .have a:=c p.skip (dO h);have s:=eN (p:=p);have n:=kE (p:=(b p.skip).2) (s:=[41]);exact⟨by simp only;omega,(cK a.2).2⟩
 .split
  .have s:=eN (p:=p);exact⟨by simp only[weighN,weighL,A5];omega,dO h⟩
  .split
   .split
    .have a:=iR (k:=32) h;exact⟨by simp only[weighN,weighL,A5];omega,a.2.1⟩
    .split
     .have a:=gD h;have t:(localP p).1.length<=17:=by
       by_cases q:p.peek.take 1=[36]
       .rw[(qJ q).2];have:=rB h;simp only[A8];omega
       .rw[sR q];simp
      exact⟨by simp only[weighN,weighL];omega,a.2.1⟩
     .exact Ew p h
   .exact Ew p h
theorem Gv{lv:Int}{x:PS->Nd×PS}(b:Wt x)(B:Nat):∀(f:Nat) (n:Nd) (p:PS),cF p.l->weighN n+41*p.l.length<=B->weighN (chainF lv x f n p).1+41*(chainF lv x f n p).2.l.length<=B/\cF (chainF lv x f n p).2.l
 |0,_,_,h,hn=>⟨hn,h⟩
 |f+1,n,p,h,hn=>by
  have o:=xX (lv:=lv) h;unfold chainF;split
  .exact⟨hn,h⟩
  .split
   .exact⟨by simp only;omega,o.2⟩
   .rename_i q;have c:=Db (lv:=lv) (q:=p) aD;have a:=b (opP lv p).2 o.2;refine Gv b B f _ _ a.2 ?_;simp only[weighN,weighL,A5];omega
theorem Gw{lv:Int}{x:PS->Nd×PS}(a:Wt x):Wt (chainP lv x):=λp h=>Gv a _ _ _ _ (a p h).2 (a p h).1
theorem UZ{a:PS->Nd×PS}(b:Wt a):Wt (sumP a):=Gw (Gw (XT b))
theorem Va{c:PS->Nd×PS}(d:Wt c):Wt (exprB c):=λp h=>by
 have a:=UZ d p h;have o:=xX (lv:=1) a.2;by_cases q:0<=(opP 1 (sumP c p).2).1
 .have e:=Db q;have b:=UZ d (opP 1 (sumP c p).2).2 o.2;rw[Gs q];refine⟨?_,b.2⟩;simp only[weighN,weighL,A5];omega
 .rw[Gt aD];exact⟨by simp only;omega,o.2⟩
theorem Ke:∀f,Wt (exprP false f)
 |0=>λp h=>⟨by
   have:weighN (default:Nd)<=40:=bG;show weighN default+41*p.l.length<=_;omega,h⟩
 |f+1=>λp h=>by
  rw[exprP,if_neg bA];exact Va (Ke f) p h
def Ws(n:Nat)(x:PS->Nd×PS):Prop:=∀p:PS,p.l.length<n->cF p.l->weighN (x p).1+240*(x p).2.l.length<=240*p.l.length+90/\cF (x p).2.l/\((x p).2.e=0->weighN (x p).1+240*(x p).2.l.length<=240*p.l.length)
def Wb(n:Nat)(x:PS->Nd×PS):Prop:=∀p:PS,p.l.length<n->cF p.l->weighN (x p).1+240*(x p).2.l.length<=240*p.l.length+91/\cF (x p).2.l
theorem tS(a b:List Nd):weighL (a++b)=weighL a+weighL b:=by
 induction a with
 |nil=>simp[weighL]
 |cons x a ih=>simp only[C8,weighL,ih];omega
theorem Gx{m:Nat}{d:PS->Nd×PS}(e:Ws m d)(B:Nat):∀(f:Nat) (c:List Nd) (p:PS),p.l.length<m->cF p.l->weighL c+240*p.l.length<=B+90->(p.e=0->weighL c+240*p.l.length<=B)->
 weighL (stmtsF d f c p).1+240*(stmtsF d f c p).2.l.length<=B+90/\cF (stmtsF d f c p).2.l
 |0,_,_,_,h,h1,_=>⟨h1,h⟩
 |f+1,c,p,hm,h,h1,h2=>by
  unfold stmtsF;split
  .exact⟨h1,h⟩
  .rename_i q;have g:p.e=0:=C2 λz=>q (.inl z);have a:=e p hm h;have b:=h2 g;refine Gx e B f _ _ (by have:=a.1;omega) a.2.1 ?_ λz=>?_
   .rw[tS];simp only[weighL];have:=a.1;omega
   .rw[tS];simp only[weighL];have:=a.2.2 z;omega
theorem Gy{m:Nat}{b:PS->Nd×PS}(c:Ws m b):Wb m (blockB b):=λp d h=>by
 have n:=kE (p:=p) (s:=[123]);have g:=(cK (s:=[123]) h).2;unfold blockB;simp only[];have a:=Gx c (240*(p.need [123]).l.length) ((p.need [123]).l.length+1) [] (p.need [123]) aD g (by simp only[weighL];omega) (λ_=>by simp only[weighL];omega);have m:=kE (p:=(stmtsF b ((p.need [123]).l.length+1) [] (p.need [123])).2) (s:=[125]);refine⟨?_,(cK a.2).2⟩;simp only[weighN,A5];have:=a.1;omega
theorem XU{c:PS->Nd×PS}(g:Wt c){k:Int}:∀p:PS,cF p.l->weighN (cmdP c k p).1+240*(cmdP c k p).2.l.length<=240*p.l.length+90/\cF (cmdP c k p).2.l:=λp h=>by
 have a:=yK (k:=k) h;have t:(qL k p).1.length<=17:=by
  unfold qL;split
  .by_cases q:p.peek.take 1=[36]
   .rw[(qJ q).2];have:=rB h;simp only[A8];omega
   .rw[sR q];simp
  .split
   .simp
   .exact tR h
 by_cases d:k=15\/k=22\/k=24
 .rw[UW d];have b:=g (qL k p).2 a.2;refine⟨?_,b.2⟩;simp only[weighN,weighL];omega
 .by_cases e:k=16\/k=23
  .rw[PJ d e];have b:=gD a.2;have t2:(localP (qL k p).2).1.length<=17:=by
    by_cases q:(qL k p).2.peek.take 1=[36]
    .rw[(qJ q).2];have:=rB a.2;simp only[A8];omega
    .rw[sR q];simp
   refine⟨?_,b.2.1⟩;simp only[weighN,weighL];omega
  .by_cases f:k=19\/k=21\/k=25
   .rw[PK d e f];have b:=iR (k:=k) a.2;refine⟨?_,b.2.1⟩;simp only[weighN,weighL];omega
   .rw[Gu d e f];refine⟨?_,a.2⟩;simp only[weighN,weighL];omega
theorem MS{p:PS}(h:cF p.l)(a:(placeP p).2.e=0):(placeP p).2.l.length<p.l.length:=by
 unfold placeP at a|-;have c:(nameP p).2.e=0->(nameP p).2.l.length<p.l.length:=λz=>by
  cases q:isNameB p.peek with
  |false=>rw[wC q]at z;exact absurd z (fail_e bG)
  |true=>
   have b:p.is p.peek=true:=nK.2 ⟨λe=>(by rw[e]at q;cases q),rfl⟩;have k:=iH b;rw[AM q,dI b];simp only;omega
 have d:=dY h;split at a
 .rename_i z;rw[if_pos z];have f:(nameP p).2.skip.e=0:=nameP_stk _ a;have g:(nameP p).2.e=0:=f;have j:=(dY (p:=(nameP p).2.skip) (dO d.2.1)).1;have i:=eN (p:=(nameP p).2);have:=c g;simp only;omega
 .rename_i z;rw[if_neg z];exact c a
theorem Vb{m:Nat}{b f:PS->Nd×PS}(y:Stk b)(o:Wt b)(x:Wb m f):Ws (m+1) (stmtB b f):=λp E h=>by
 obtain⟨k,j⟩:∃k,kindP p.peek=k:=⟨_,rfl⟩;by_cases v:k=11\/k=12
 .have c:=mM (p:=p) aD;have l:=iH c;rw[<-dI c]at l;have d:=o (p.took p.peek) (eI h);have r:=x (b (p.took p.peek)).2 (by have:=d.1;omega) d.2;by_cases g:k=11/\(f (b (p.took p.peek)).2).2.is sElse=true
  .rw[HR j g.1 g.2];have B:=iH g.2;rw[<-dI g.2]at B;have u:=x ((f (b (p.took p.peek)).2).2.took sElse) (by have:=d.1;have:=r.1;omega) (eI r.2);refine⟨?_,u.2,λ_=>?_⟩<;>(simp only[weighN,weighL,A5];omega)
  .rw[UX j v (λq=>by
    cases z:(f (b (p.took p.peek)).2).2.is sElse with
    |false=>rfl
    |true=>exact absurd ⟨q,z⟩ g)]
   refine⟨?_,r.2,λ_=>?_⟩<;>(simp only[weighN,weighL,A5];omega)
 .by_cases w:12<k
  .have c:=mM (p:=p) aD;have l:=iH c;rw[<-dI c]at l;have u:=XU o (k:=k) (p.took p.peek) (eI h);rw[MP j w];have n:=kE (p:=(cmdP b k (p.took p.peek)).2) (s:=[59]);refine⟨?_,(cK u.2).2,λ_=>?_⟩<;>(simp only;omega)
  .by_cases i:p.peek.take 1=[36]
   .obtain⟨F,A⟩:=qJ i;have c:p.is p.peek=true:=nK.2 ⟨λe=>(by rw[e]at i;cases i),rfl⟩;have l:=iH c;rw[<-dI c]at l;have t:=rB h;rw[Eu j v w i,A];have C:=kE (p:=p.took p.peek) (s:=[61]);have d:=o ((p.took p.peek).need [61]) (cK (eI h)).2;have D:=kE (p:=(b ((p.took p.peek).need [61])).2) (s:=[59]);refine⟨?_,(cK d.2).2,λ_=>?_⟩<;>(simp only[weighN,weighL,A8];omega)
   .rw[Ev j v w i];have a:=Ew p h;have G:=(sK (p.l.length+1) p (B5 _) h).1;have C:=kE (p:=(placeP p).2) (s:=[61]);have d:=o ((placeP p).2.need [61]) (cK a.2).2;have D:=kE (p:=(b ((placeP p).2.need [61])).2) (s:=[59]);refine⟨?_,(cK d.2).2,λz=>?_⟩
    .simp only[weighN,weighL,A5];omega
    .have z:((b ((placeP p).2.need [61])).2.need [59]).e=0:=z;have H:=MS h (need_e (y _ (need_e z).2)).2;simp only[weighN,weighL,A5];omega
theorem Kf:∀f,Ws f (stmtP false f)
 |0=>λp a _=>absurd a (E2 _)
 |f+1=>Vb (exprO_stk false) (λp h=>Ke _ p h) (Gy (Kf f))
theorem RL{p:PS}(z:(nameP p).2.e=0):(nameP p).2.l.length<p.l.length:=by
 cases q:isNameB p.peek with
 |false=>rw[wC q]at z;exact absurd z (fail_e bG)
 |true=>
  have a:p.is p.peek=true:=nK.2 ⟨λe=>(by rw[e]at q;cases q),rfl⟩;have b:=iH a;rw[AM q,dI a];simp only;omega
theorem Gz(B:Nat):∀(f:Nat) (c:List Nd) (p:PS),cF p.l->weighL c+240*p.l.length<=B+90->(p.e=0->weighL c+240*p.l.length<=B)->
 weighL (itemsF f c p).1+240*(itemsF f c p).2.l.length<=B+90/\cF (itemsF f c p).2.l
 |0,_,_,h,h1,_=>⟨h1,h⟩
 |f+1,c,p,h,h1,h2=>by
  unfold itemsF;split
  .exact⟨h1,h⟩
  .rename_i q;have d:p.e=0:=C2 λz=>q (.inl z);have b:=h2 d;have a:=dY h;have t:=tR h;have e:=cK (s:=[61]) a.2.1;have v:=AD e.2;have g:=cK (s:=[59]) v.2.1;simp only[];refine Gz B f _ _ g.2 ?_ λz=>?_
   .rw[tS];simp only[weighN,weighL];omega
   .have i:=numberP_stk _ (need_e z).2;have j:=RL (need_e i).2;rw[tS];simp only[weighN,weighL];omega
theorem MT{p:PS}(h:cF p.l):weighN (defP false p).1<=240*p.l.length+300:=by
 have s:=eN (p:=p);have a:=dY (dO h);have t:=tR (dO h);unfold defP;simp only[];split
 .simp only[weighN,weighL,A5];omega
 .split
  .have b:=Gy (Kf ((nameP p.skip).2.l.length+1)) (nameP p.skip).2 (B5 _) a.2.1;have d:weighN (blockP false ((nameP p.skip).2.l.length+1) (nameP p.skip).2).1<=240*(nameP p.skip).2.l.length+91:=by
    have:=b.1;show weighN (blockB (stmtP false ((nameP p.skip).2.l.length+1)) (nameP p.skip).2).1<=_;omega
   simp only[weighN,weighL];omega
  .split
   .have c:=cK (s:=[123]) a.2.1;have i:=Gz (240*((nameP p.skip).2.need [123]).l.length) (((nameP p.skip).2.need [123]).l.length+1) [] ((nameP p.skip).2.need [123]) c.2 (by simp only[weighL];omega) (λ_=>by simp only[weighL];omega);have e:=i.1;simp only[weighN];omega
   .split
    .simp only[weighN,weighL];omega
    .split
     .simp only[weighN,weighL];omega
     .simp only[weighN,weighL];omega
theorem nM:∀(f:Nat) (s:aV) (i:Int),(scanF f s i).1.length<=f
 |0,_,_=>A7 _
 |f+1,s,i=>by
  unfold scanF;split
  .simp
  .split
   .have:=nM f (by assumption) (i+1);omega
   .split
    .simp
    .simp only[B1];exact Nat.succ_le_succ (nM f _ _)
theorem Cx{s:aV}(d:s.length<=1024):weighN (defP false ⟨(scanS s).1,0⟩).1<=1000000000:=by
 have a:(scanS s).1.length<=s.length:=nM _ _ _;have b:=MT (p:=⟨(scanS s).1,0⟩) (lD _ _ _);have c:(PS.mk (scanS s).1 0).l.length=(scanS s).1.length:=rfl;omega
section
attribute[local simp] aR bK bE aO aL aZ aP
attribute[local simp] kJ.cond Nd.d_eq nd_t nd_dr nd_td ndsD aU
theorem Kg(T:List Tk)(l:List Int):spacedTo T l 0=[]:=rfl
attribute[local simp] Kg
def XV(out w:aV)(k:Int)(i:Nat):Bool:=
 decide (k<3)||(match out.getLast? with
  |none=>false
  |some c=>(firstIs letterB w||firstIs digitB w)&&decide (c≠32)&&decide (c≠10)&& !signB c)||(decide (0<i)&&(decide (w=[61])||decide (w=[61,61])))
theorem rC(T:List Tk)(l:List Int)(i:Nat):spacedTo T l (i+1)=(if XV (spacedTo T l i) (T.getD i default).text (dM l i 6) i=true then spacedTo T l i++sepsL.getD ((dM l i 6).tmod 3).toNat []else spacedTo T l i)++(T.getD i default).text:=rfl
theorem Vc{m:Int}(a:0<=m)(b:m<3):([DV.str [32],DV.str [10],DV.str [32,32,10,32]]:List DV)[m.toNat]?.getD default=.str (sepsL.getD m.toNat []):=by
 have:m=0\/m=1\/m=2:=aD;rcases this with rfl|rfl|rfl<;>rfl
theorem HS{a w:aV}{k:Int}{i:Nat}{d:UInt8}(b:a[a.length-1]?.getD 0=d):XV a w k i=true↔((k<3\/(((0<a.length/\(firstIs letterB w=true\/firstIs digitB w=true))/\¬(d.toNat:Int)=32)/\¬(d.toNat:Int)=10)/\¬d∈signs)\/0<i/\(w=[61]\/w=[61,61])):=by
 unfold XV;rw[List.getLast?_eq_getElem?];cases e:a[a.length-1]? with
 |none=>
  have f:¬0<a.length:=λq=>by rw[A1 aD]at e;cases e
  simp[f]
 |some c=>
  rw[e]at b;have b:c=d:=b;subst b;have f:0<a.length:=by
   have:=(List.getElem?_eq_some_iff.1 e).1;omega
  have g:(c.toNat:Int)=32↔c=32:=by rw[<-C9];have:(32:UInt8).toNat=32:=rfl;omega
  have h:(c.toNat:Int)=10↔c=10:=by rw[<-C9];have:(10:UInt8).toNat=10:=rfl;omega
  simp[f,g,h,signB]
theorem tT(T:List Tk)(l:List Int)(b:Nat)(a:∀t∈T,t.text.length<=b):∀i,(spacedTo T l i).length<=i*(b+4)
 |0=>by simp[spacedTo]
 |i+1=>by
  have g:=tT T l b a i;have c:∀k:Nat,(sepsL.getD k []).length<=4:=λk=>by
   rw[A0];cases e:sepsL[k]? with
   |none=>simp
   |some w=>exact(by decide:∀w∈sepsL,w.length<=4) w (B2 e)
  have f:(T.getD i default).text.length<=b:=by
   rw[A0];cases e:T[i]? with
   |none=>exact D5 _
   |some w=>exact a w (B2 e)
  have d:=c ((dM l i 6).tmod 3).toNat;rw[Nat.succ_mul,rC,A2];cases XV (spacedTo T l i) (T.getD i default).text (dM l i 6) i
  .simp only[Bool.false_eq_true,if_false];omega
  .rw[if_pos rfl,A2];omega
theorem Ey(s:aV)(l:List Int)(hs:s.length<=100000000)(hl:∀n∈l, -9223372036854775808<=n/\n<=9223372036854775807):Ok prog 40 [.str s,.sl (l.map aI)] ⟨.d (.str (spacedS s l)),true⟩:=by
 refine bU func40 rfl ntmps40 results40 λw0 X G=>?_;obtain⟨T,j⟩:∃T,(scanS s).1=T:=⟨_,rfl⟩;have E:∀t∈T,InT s t:=λt J=>JQ (j▸J);have a0:T.length<=s.length:=by rw[<-j];exact nM _ _ _
 have D:cF T:=by rw[<-j];exact lD _ _ _
 have q:∀t∈T,t.text.length<=17:=λt J=>HO (D t J);apply aE;simp;apply aF;have r:=JR s aD;rw[j]at r;refine bH (og 14 (.plain ⟨.tup [.d (.sl (T.map Tk.r)),.d (aI (scanS s).2)],true⟩)) ?_;simp[bM];refine⟨r,?_⟩;apply aE;simp;apply eT;simp;apply aY;refine bC (ι:=Nat) (λi=>bB [(0,.d (.str s)),(1,.d (.sl (l.map aI))),(5,.d (.sl (T.map Tk.r))),(7,.d (.str (spacedTo T l i))),(8,.d (aI i))]) (λi=>aK []) (λi=>i<=T.length) (λi=>T.length-i) 0 (aA G [0,1,5,7,8] []) ((D5 _)) λi Y=>?_;apply aF;apply bF;simp;refine⟨λS=>?_,λS=>?_⟩
 .apply aG;simp;apply eE;apply aF;have M:i<T.length:=aD;obtain⟨t,K⟩:∃t,T[i]=t:=⟨_,rfl⟩;have m:T[i]? =some t:=by rw[A1 M,K]
  have p:t∈T:=B2 m;obtain⟨a,V,W,B⟩:=E t p;refine fF.rd [] [] (λ_=>none) ?_;simp[m,Tk.r,V,PD,B];refine⟨⟨M,aD,aD⟩,?_⟩;apply aF;have U:=Jz l i 6 hl bG;refine bH (og 37 (.plain ⟨.d (aI (dM l i 6)),true⟩)) ?_;simp;refine⟨U,?_⟩;apply aF;obtain⟨c,f⟩:∃c,spacedTo T l i=c:=⟨_,rfl⟩;have F:=tT T l 17 q i;rw[f]at F;have N:i*(17+4)<=100000000*(17+4):=Nat.mul_le_mul_right _ aD;obtain⟨d,C⟩:∃d,c[c.length-1]?.getD 0=d:=⟨_,rfl⟩;have x:=tP t.text 0 aD;have y:=yH t.text 0 aD;have z:=JP d;have O:0<c.length↔c≠[]:=A9;refine bH (λ|43=>some<| .plain ⟨.d (.bool (firstIs letterB t.text)),true⟩|46=>some<| .plain ⟨.d (.bool (firstIs digitB t.text)),true⟩|71=>some<| .plain ⟨.d (.bool (decide (d∈signs))),true⟩|_=>none) ?_;simp[f,C];refine⟨by(repeat' with_reducible apply And.intro)<;>intros<;>first|(with_reducible exact z)|omega|(simpa using x)|(simpa using y)|(constructor<;>first|omega|assumption),?_⟩;apply eT;simp;refine⟨by(repeat' with_reducible apply And.intro)<;>intros<;>((repeat' with_reducible apply And.intro)<;>first|assumption|grind),?_⟩;apply aM;simp;refine⟨λg=>?_,λg1 P Q=>?_⟩
  .have A:=(HS C).2 g;have o:T.getD i default=t:=by rw[A0,m];rfl
   have b:=rC T l i;rw[f,o,if_pos A]at b;have Z:=bY l i 6 bG;have k:0<=(dM l i 6).tmod 3/\(dM l i 6).tmod 3<3:=by rw[C1 Z.1];omega
   have u:=Vc k.1 k.2;have H:(sepsL.getD ((dM l i 6).tmod 3).toNat []).length<=4:=by
    rw[A0];cases e:sepsL[((dM l i 6).tmod 3).toNat]? with
    |none=>simp
    |some w=>exact(by decide:∀w∈sepsL,w.length<=4) w (B2 e)
   obtain⟨v,I⟩:∃v,sepsL.getD ((dM l i 6).tmod 3).toNat []=v:=⟨_,rfl⟩;rw[I]at u H b;apply aJ;simp[u];refine⟨⟨⟨⟨bG,k⟩,k.2⟩,aD⟩,?_⟩;have L:=q t p;apply aJ;simp[A2];refine⟨aD,?_⟩;apply aJ;simp;refine⟨aD,?_⟩;refine Oe.mk (i+1) (aA G [0,1,5,7,8] [] (by simp[b])) ?_ ?_
   .omega
   .omega
  .have A:XV c t.text (dM l i 6) i=false:=by
    cases e:XV c t.text (dM l i 6) i with
    |false=>rfl
    |true=>
     rcases(HS C).1 e with(h|h)|h
     .omega
     .exact absurd (P h.1.1.1.1 h.1.1.1.2 h.1.1.2 h.1.2) h.2
     .exact absurd h.2 (not_or.2 (Q h.1))
   have o:T.getD i default=t:=(by rw[A0,m];rfl);have b:=rC T l i;rw[f,o,if_neg (by simp[A])]at b;apply aG;simp;have L:=q t p;apply aJ;simp[A2];refine⟨aD,?_⟩;apply aJ;simp;refine⟨aD,?_⟩;refine Oe.mk (i+1) (aA G [0,1,5,7,8] [] (by simp[b])) ?_ ?_
   .omega
   .omega
 .apply bQ;simp;apply aE;simp;apply aH;simp;rw[show i=T.length by omega];unfold spacedS;rw[j]
theorem MU(s:aV)(l:List Int):(spacedS s l).length<=21*s.length:=by
 have a:cF (scanS s).1:=lD _ _ _;have h:=tT (scanS s).1 l 17 (λt b=>HO (a t b)) (scanS s).1.length;have c:(scanS s).1.length<=s.length:=nM _ _ _;unfold spacedS;omega
end
theorem MV{t s:aV}(A:tM t){d:UInt8}(o:t[t.length-1]?.getD 0=d)(w:d∈signs)(z:∀c r,s=c::r->c≠61):nextN (t++s)=t.length:=by
 obtain⟨v,a⟩:=A;have B:∀c∈signs,letterB c=false/\digitB c=false/\c≠36:=bG;obtain⟨n,j,i⟩:=B d w;cases t with
 |nil=>exact absurd rfl v
 |cons c r=>
  have b:d∈c::r:=by
   have g:(c::r).length-1<(c::r).length:=(by rw[B1];omega);rw[A1 g,B6]at o;rw[<-o];exact B4 g
  rw[iI]at a;rw[C8,iI];by_cases q1:letterB c=true
  .rw[if_pos q1]at a;obtain⟨q,C,e,_,h,_⟩:=jZ (s:=c::r) (by rw[a];simp);have:=lW (p:=λc=>letterB c||digitB c) (t:=c::r) (by rw[<-h];exact a) d b;rw[n,j]at this;cases this
  .rw[if_neg q1]at a|-;by_cases q2:c=36
   .rw[if_pos q2]at a;by_cases q3:0<wordN r
    .rw[if_pos q3]at a;obtain⟨q,C,e,_,h,_⟩:=jZ q3;have y:=lW (p:=λc=>letterB c||digitB c) (t:=r) (by rw[<-h];simpa using a);rcases E5.1 b with k|k
     .exact absurd (k.trans q2) i
     .have:=y d k;rw[n,j]at this;cases this
    .rw[if_neg q3]at a;simp at a
   .rw[if_neg q2]at a|-;by_cases q3:digitB c=true
    .rw[if_pos q3]at a;by_cases f:runP digitB (c::r)<=3
     .rw[if_pos f]at a;have:=lW a d b;rw[j]at this;cases this
     .rw[if_neg f]at a;simp at a
    .rw[if_neg q3]at a|-;by_cases f:(c::r).take 2=[60,61]\/(c::r).take 2=[61,61]
     .rw[if_pos f]at a;have x:r.length=1:=by simpa using a.symm
      have e:(c::(r++s)).take 2=(c::r).take 2:=by
       cases r with
       |nil=>simp at x
       |cons d u=>simp
      rw[e,if_pos f];exact a
     .rw[if_neg f]at a;by_cases m:c∈signs
      .rw[if_pos m]at a;have h:r=[]:=by simpa using a.symm
       subst h;have l:¬((c::([]++s)).take 2=[60,61]\/(c::([]++s)).take 2=[61,61]):=by
        cases s with
        |nil=>simp
        |cons e u=>
         have:=z e u rfl;simp[this]
       rw[if_neg l,if_pos m];rfl
      .rw[if_neg m]at a;simp at a
def GA(T:List Tk)(l:List Int)(j:Nat):aV:=if XV (spacedTo T l j) (T.getD j default).text (dM l j 6) j=true then sepsL.getD ((dM l j 6).tmod 3).toNat []else []
def AR(T:List Tk)(l:List Int):Nat->Nat->aV
 |_,0=>[]
 |j,m+1=>GA T l j++((T.getD j default).text++AR T l (j+1) m)
theorem zY(T:List Tk)(l:List Int)(j:Nat):spacedTo T l (j+1)=spacedTo T l j++(GA T l j++(T.getD j default).text):=by
 rw[rC];unfold GA;split
 .rw[C6]
 .rfl
theorem Cy(T:List Tk)(l:List Int):∀(m j:Nat),spacedTo T l (j+m)=spacedTo T l j++AR T l j m
 |0,j=>by simp[AR]
 |m+1,j=>by
  have:=Cy T l m (j+1);rw[show j+(m+1)=j+1+m by omega,this,zY,AR];simp
theorem XW{T:List Tk}{l:List Int}{j:Nat}{s:aV}{a:List aV}(h:pB s a):pB (GA T l j++s) a:=by
 unfold GA;split
 .have b:=bY l j 6 bG;have c:0<=(dM l j 6).tmod 3/\(dM l j 6).tmod 3<3:=by rw[C1 b.1];omega
  have:(dM l j 6).tmod 3=0\/(dM l j 6).tmod 3=1\/(dM l j 6).tmod 3=2:=aD;rcases this with e|e|e<;>rw[e]
  .exact .blank (.inl rfl) h
  .exact .blank (.inr rfl) h
  .exact .blank (.inl rfl) (.blank (.inl rfl) (.blank (.inr rfl) (.blank (.inl rfl) h)))
 .exact h
theorem Vd{t:aV}(w:tM t){d:UInt8}(g:t[t.length-1]?.getD 0=d):letterB d=true\/digitB d=true\/d∈signs:=by
 obtain⟨o,a⟩:=w;cases t with
 |nil=>exact absurd rfl o
 |cons c r=>
  have b:d∈c::r:=by
   have f:(c::r).length-1<(c::r).length:=(by rw[B1];omega);rw[A1 f,B6]at g;rw[<-g];exact B4 f
  rw[iI]at a;by_cases q1:letterB c=true
  .rw[if_pos q1]at a;obtain⟨i,k,e,_,j,_⟩:=jZ (s:=c::r) (by rw[a];simp);have:=lW (p:=λc=>letterB c||digitB c) (t:=c::r) (by rw[<-j];exact a) d b;rcases F5 _ _▸this with e|e
   .exact .inl e
   .exact .inr (.inl e)
  .rw[if_neg q1]at a;by_cases q2:c=36
   .rw[if_pos q2]at a;by_cases q3:0<wordN r
    .rw[if_pos q3]at a;obtain⟨i,k,e,_,j,_⟩:=jZ q3;have v:=lW (p:=λc=>letterB c||digitB c) (t:=r) (by rw[<-j];simpa using a);have l:d∈r:=by
      subst e;rw[show(c::i::k).length-1=(i::k).length-1+1 by simp,List.getElem?_cons_succ]at g;have f:(i::k).length-1<(i::k).length:=by rw[B1];omega
      rw[A1 f,B6]at g;rw[<-g];exact B4 f
     rcases F5 _ _▸v d l with e|e
     .exact .inl e
     .exact .inr (.inl e)
    .rw[if_neg q3]at a;simp at a
   .rw[if_neg q2]at a;by_cases q3:digitB c=true
    .rw[if_pos q3]at a;by_cases h:runP digitB (c::r)<=3
     .rw[if_pos h]at a;exact .inr (.inl (lW a d b))
     .rw[if_neg h]at a;simp at a
    .rw[if_neg q3]at a;by_cases h:(c::r).take 2=[60,61]\/(c::r).take 2=[61,61]
     .rw[if_pos h]at a;have u:r.length=1:=by simpa using a.symm
      obtain⟨e,rfl⟩:=D9.1 u;have m:d=e:=by rw[<-g];rfl
      have:e=61:=by rcases h with q|q<;>simp at q<;>exact q.2
      rw[m,this];exact .inr (.inr bG)
     .rw[if_neg h]at a;by_cases n:c∈signs
      .rw[if_pos n]at a;have j:r=[]:=by simpa using a.symm
       subst j;have m:d=c:=by rw[<-g];rfl
       rw[m];exact .inr (.inr n)
      .rw[if_neg n]at a;simp at a
theorem XX{r:aV}(f:tM (61::r)):(61::r:aV)=[61]\/(61::r:aV)=[61,61]:=by
 obtain⟨_,a⟩:=f;rw[iI,if_neg bG,if_neg bG,if_neg bG]at a;by_cases b:(61::r).take 2=[60,61]\/(61::r).take 2=[61,61]
 .rw[if_pos b]at a;have c:r.length=1:=by simpa using a.symm
  obtain⟨e,rfl⟩:=D9.1 c;rcases b with q|q<;>simp at q
  subst q;exact .inr rfl
 .rw[if_neg b,if_pos bG]at a;have d:r=[]:=by simpa using a.symm
  subst d;exact .inl rfl
theorem MW{T:List Tk}(hT:cF T)(l:List Int){j m:Nat}(C:j+1+m<=T.length):nextN ((T.getD j default).text++AR T l (j+1) m)=(T.getD j default).text.length:=by
 have t:∀i,i<T.length->tM (T.getD i default).text:=λi v=>by
  rw[A0,A1 v,B6];exact hT _ (B4 v)
 have a:=t j aD;cases m with
 |zero=>exact xZ a rfl
 |succ m=>
  have p:=t (j+1) aD;have g:(spacedTo T l (j+1))[(spacedTo T l (j+1)).length-1]?.getD 0=(T.getD j default).text[(T.getD j default).text.length-1]?.getD 0:=by
   have A:0<(T.getD j default).text.length:=A9.2 a.1;rw[zY,<-C6,D2 (by rw[A2 (bs:=(T.getD j default).text)];omega)];congr 2;rw[A2 (bs:=(T.getD j default).text)];omega
  have b:0<(spacedTo T l (j+1)).length:=by
   have A:0<(T.getD j default).text.length:=A9.2 a.1;rw[zY];simp only[A2];omega
  rw[AR];unfold GA;cases y:XV (spacedTo T l (j+1)) (T.getD (j+1) default).text (dM l ((j+1:Nat):Int) 6) (j+1)with
  |true=>
   rw[if_pos rfl];refine xZ a ?_;have z:=bY l ((j+1:Nat):Int) 6 bG;have:(dM l ((j+1:Nat):Int) 6).tmod 3=0\/(dM l ((j+1:Nat):Int) 6).tmod 3=1\/(dM l ((j+1:Nat):Int) 6).tmod 3=2:=by rw[C1 z.1];omega
   rcases this with e|e|e<;>rw[e]<;>rfl
  |false=>
   rw[if_neg bG,F6];have f:¬XV (spacedTo T l (j+1)) (T.getD (j+1) default).text (dM l ((j+1:Nat):Int) 6) (j+1)=true:=by rw[y];decide
   rw[HS g]at f;obtain⟨c,u,e⟩:∃c u,(T.getD (j+1) default).text=c::u:=by
    cases h:(T.getD (j+1) default).text with
    |nil=>exact absurd h p.1
    |cons c u=>exact⟨c,u,rfl⟩
   rw[e]at p f|-;have s:c≠61:=λh=>by
    subst h;exact f (.inr ⟨aD,XX p⟩)
   by_cases k:letterB c=true\/digitB c=true
   .refine MV a rfl ?_ λB D r=>?_
    .rcases G3 ((T.getD j default).text[(T.getD j default).text.length-1]?.getD 0∈signs)with o|o
     .exact o
     .have n:∀d:UInt8,(letterB d=true\/digitB d=true\/d∈signs)->¬(d.toNat:Int)=32/\¬(d.toNat:Int)=10:=λd h=>by
       refine⟨λq=>?_,λq=>?_⟩
       .have:d=32:=C9.1 (by simpa using F9.1 q);subst this;revert h;decide
       .have:d=10:=C9.1 (by simpa using F9.1 q);subst this;revert h;decide
      have:=n _ (Vd a rfl);exact absurd (.inl (.inr ⟨⟨⟨⟨b,k⟩,this.1⟩,this.2⟩,o⟩)) f
    .rw[C8]at r;injection r with e1 e2
     rw[<-e1];exact s
   .refine xZ a ?_;rw[C8];have w:letterB c=false:=by cases h:letterB c with|true=>exact absurd (.inl h) k|false=>rfl
    have x:digitB c=false:=by cases h:digitB c with|true=>exact absurd (.inr h) k|false=>rfl
    simp[AF,w,x,s]
theorem Kh{T:List Tk}(hT:cF T)(l:List Int):∀(m j:Nat),j+m<=T.length->pB (AR T l j m) (((T.drop j).take m).map Tk.text)
 |0,j,_=>by simpa [AR]using pB.nil
 |m+1,j,h=>by
  rw[AR];refine XW ?_;have a:j<T.length:=aD;have e:T.drop j=T.getD j default::T.drop (j+1):=by
   rw[List.drop_eq_getElem_cons a,A0,A1 a,B6]
  rw[e,List.take_succ_cons,E6];have b:tM (T.getD j default).text:=by
   rw[A0,A1 a,B6];exact hT _ (B4 a)
  exact .tok b.1 (MW hT l aD) (Kh hT l m (j+1) aD)
theorem MX(s:aV)(l:List Int)(h:cF (scanS s).1):pB (spacedS s l) ((scanS s).1.map Tk.text):=by
 have:=Kh h l (scanS s).1.length 0 aD;rw[List.drop_zero,List.take_length]at this;unfold spacedS;have e:=Cy (scanS s).1 l (scanS s).1.length 0;rw[Nat.zero_add,Kg,F6]at e;rw[e];exact this
def er(p:PS):PS:=⟨p.l.map λt=>⟨t.text,0⟩,p.e⟩
def Cm{α:Type}(x:PS->α×PS):Prop:=∀p,x (er p)=((x p).1,er (x p).2)
theorem Cm.a{α:Type}{x:PS->α×PS}(h:Cm x)(p:PS):(x (er p)).1=(x p).1:=by rw[h p]
theorem Cm.b{α:Type}{x:PS->α×PS}(h:Cm x)(p:PS):(x (er p)).2=er (x p).2:=by rw[h p]
theorem XY(p:PS):(er p).e=p.e:=rfl
theorem Ez(p:PS):(er p).l.length=p.l.length:=List.length_map _
theorem nS(p:PS):(er p).peek=p.peek:=by
 unfold PS.peek er;cases p.l<;>rfl
theorem GB(p:PS)(s:aV):(er p).is s=p.is s:=by unfold PS.is;rw[nS]
theorem nT(p:PS):(er p).skip=er p.skip:=by unfold PS.skip er;simp
theorem yL(p:PS)(e:Int):(er p).fail e=er (p.fail e):=by
 unfold PS.fail;by_cases h:p.e=0
 .rw[if_pos h,if_pos (show(er p).e=0 from h)];rfl
 .rw[if_neg h,if_neg (show¬(er p).e=0 from h)]
theorem AS(p:PS)(s:aV):(er p).need s=er (p.need s):=by
 unfold PS.need;rw[GB,nT,yL];split<;>rfl
theorem eV{α:Type}{c:Prop}[Decidable c]{A B a b:α×PS}(d:A=(a.1,er a.2))(e:B=(b.1,er b.2)):(if c then A else B)=((if c then a else b).1,er (if c then a else b).2):=by
 split
 .exact d
 .exact e
theorem pI:Cm nameP:=λp=>by unfold nameP;rw[nS,nT,yL];exact eV rfl rfl
theorem qM:Cm localP:=λp=>by
 unfold localP;rw[nS,nT,yL];split<;>rfl
theorem iJ(k:Int):Cm (numeralP k):=λp=>by
 unfold numeralP;rw[nS,nT,yL,yL];split
 .rfl
 .exact eV (eV rfl rfl) rfl
theorem yM:Cm numberP:=λp=>by
 unfold numberP;rw[GB,nT,(iJ 0).a,(iJ 0).b,iJ 0 p];exact eV rfl rfl
theorem AT:Cm placeP:=λp=>by
 unfold placeP;rw[pI.a,pI.b,GB,nT,pI.a,pI.b];exact eV rfl rfl
theorem PL(a:Int):Cm (opP a):=λp=>by
 unfold opP;rw[nS,nT];split<;>rfl
theorem GC{x:PS->Nd×PS}(h:Cm x)(a:Int):∀(f:Nat) (n:Nd),Cm (chainF a x f n)
 |0,n=>λp=>rfl
 |f+1,n=>λp=>by
  unfold chainF;rw[XY,(PL a).a,(PL a).b,h.a,h.b,GC h a f _ _];exact eV rfl (eV rfl rfl)
theorem Ki{x:PS->Nd×PS}(h:Cm x)(a:Int):Cm (chainP a x):=λp=>by
 unfold chainP;rw[h.a,h.b,Ez];exact GC h a _ _ _
theorem XZ{x:PS->Nd×PS}(h:Cm x):Cm (factP x):=λp=>by
 unfold factP;rw[GB,GB,nS,nT,h.a,h.b,AS];refine eV rfl (eV rfl ?_);split
 .rw[(iJ 32).a,(iJ 32).b,qM.a,qM.b,AT];exact eV rfl (eV rfl rfl)
 .exact AT p
theorem Ve{x:PS->Nd×PS}(h:Cm x):Cm (exprB x):=λp=>by
 have a:Cm (sumP x):=Ki (Ki (XZ h) 3) 2;unfold exprB;simp only[a.a,a.b,(PL 1).a,(PL 1).b];exact eV rfl rfl
theorem PM(r:Bool):∀f:Nat,Cm (exprP r f)
 |0=>λp=>rfl
 |f+1=>λp=>by
  unfold exprP;rw[XY,Ve (PM r f) p];exact eV rfl rfl
theorem EA{x:PS->Nd×PS}(h:Cm x):∀(f:Nat) (a:List Nd),Cm (stmtsF x f a)
 |0,a=>λp=>rfl
 |f+1,a=>λp=>by
  unfold stmtsF;rw[XY,nS,h.a,h.b,EA h f _ _];exact eV rfl rfl
theorem Kj{x:PS->Nd×PS}(h:Cm x):Cm (blockB x):=λp=>by
 unfold blockB;simp only[AS,Ez,(EA h _ _).a,(EA h _ _).b]
theorem Vf{x:PS->Nd×PS}(h:Cm x)(k:Int):Cm (cmdP x k):=λp=>by
 have a:(if k=19\/k=20 then localP (er p)else if k=21\/k=25\/k=24 then([],er p)else nameP (er p))=
  ((if k=19\/k=20 then localP p else if k=21\/k=25\/k=24 then([],p)else nameP p).1,er (if k=19\/k=20 then localP p else if k=21\/k=25\/k=24 then([],p)else nameP p).2):=
  eV (qM p) (eV rfl (pI p))
 unfold cmdP;simp only[a,h.a,h.b,qM.a,qM.b,(iJ k).a,(iJ k).b];exact eV rfl (eV rfl (eV rfl rfl))
theorem Vg{x y:PS->Nd×PS}(h:Cm x)(g:Cm y):Cm (stmtB x y):=λp=>by
 unfold stmtB;simp only[nS,nT,h.a,h.b,g.a,g.b,GB,(Vf h _).a,(Vf h _).b,AS,qM.a,qM.b,AT.a,AT.b];refine eV (eV rfl rfl) (eV rfl ?_);split<;>rfl
theorem PN(r:Bool):∀f:Nat,Cm (stmtP r f)
 |0=>λp=>rfl
 |f+1=>λp=>by
  unfold stmtP;exact Vg (x:=λq=>exprP r (q.l.length+1) q) (λq=>by simp only[Ez];exact PM r _ q) (Kj (PN r f)) p
theorem EB:∀(f:Nat) (a:List Nd),Cm (itemsF f a)
 |0,a=>λp=>rfl
 |f+1,a=>λp=>by
  unfold itemsF;simp only[XY,nS,pI.a,pI.b,AS,yM.a,yM.b];rw[EB f _ _];exact eV rfl rfl
theorem GD(r:Bool)(f:Nat):Cm (blockP r f):=Kj (PN r f)
theorem Vh(r:Bool):Cm (defP r):=λp=>by
 unfold defP;simp only[nS,nT,yL,pI.a,pI.b,Ez,(GD r _).a,(GD r _).b,AS,(EB _ _).a,(EB _ _).b,yM.a,yM.b,(iJ 2).a,(iJ 2).b];exact eV rfl (eV rfl (eV rfl (eV rfl (eV rfl rfl))))
theorem RM(r:Bool){a b:List Tk}(h:a.map Tk.text=b.map Tk.text):(defP r ⟨a,0⟩).1=(defP r ⟨b,0⟩).1/\(defP r ⟨a,0⟩).2.e=(defP r ⟨b,0⟩).2.e/\(defP r ⟨a,0⟩).2.l.length=(defP r ⟨b,0⟩).2.l.length:=by
 have e:er ⟨a,0⟩=er ⟨b,0⟩:=by
  unfold er;have:∀l:List Tk,(l.map λt=>(⟨t.text,0⟩:Tk))=(l.map Tk.text).map λs=>⟨s,0⟩:=λl=>by rw[D0];rfl
  simp only[this,h]
 have c:=Vh r ⟨a,0⟩;rw[e,Vh r ⟨b,0⟩]at c;injection c with h2 h3
 refine⟨h2.symm,?_,?_⟩
 .have:=congrArg PS.e h3;exact this.symm
 .have:=congrArg (λq:PS=>q.l.length) h3;simpa only[Ez]using this.symm
theorem EC{s:aV}(h:(parseS s).2.2=0):s.length<=1024/\(defP false ⟨(scanS s).1,0⟩).2.l=[]/\(defP false ⟨(scanS s).1,0⟩).2.e=0/\validB (parseS s).1=true/\parseS s=((defP false ⟨(scanS s).1,0⟩).1,0,0):=by
 unfold parseS at h|-;by_cases a:1024<s.length
 .rw[if_pos a]at h;exact absurd h bG
 rw[if_neg a]at h|-;simp only at h|-;split at h
 .split at h
  .rename_i q;exact absurd h q
  .exact absurd h (show¬(2:Int)=0 by decide)
 .rename_i q;split at h
  .exact absurd h (show¬(2:Int)=0 by decide)
  .rename_i q2;split at h
   .rename_i b;rw[q,if_neg q2,if_pos b];exact⟨aD,rfl,C2 λq3=>q2 (.inl q3),b,rfl⟩
   .exact absurd h (show¬(4:Int)=0 by decide)
theorem HT{s:aV}(h:(parseS s).2.2=0)(l:List Int)(r:(spacedS s l).length<=1024):parseS (spacedS s l)=parseS s:=by
 obtain⟨p,g,i,c,j⟩:=EC h;have m:=Jx (MX s l (lD _ _ _)) (spacedS s l).length 0 (A7 _);obtain⟨n,o⟩:=m;obtain⟨d,e,f⟩:=RM false (a:=(scanS (spacedS s l)).1) (b:=(scanS s).1) n;have k:(defP false ⟨(scanS (spacedS s l)).1,0⟩).2.l=[]:=List.length_eq_zero_iff.1 (by rw[f,g];rfl);rw[j]at c|-;unfold parseS;rw[if_neg aD];simp only;rw[k,d,e,i];simp only;rw[if_neg,if_pos c];rintro(q|q)
 .exact q rfl
 .unfold scanS at q;rw[o]at q;omega
def fR(x:BitVec 32):DV:=.int .u32 (x.toNat:Int)
theorem ZG(n:Int):IntKind.u32.wrap n=n%4294967296:=by
 unfold IntKind.wrap;simp[IntKind.bits,IntKind.signed]
theorem tU(n:Nat):IntKind.u32.wrap (n:Int)=((n%4294967296:Nat):Int):=by rw[ZG];omega
theorem sS(x:BitVec 32):IntKind.u32.wrap (x.toNat:Int)=(x.toNat:Int):=by
 rw[tU];have:=x.isLt;omega
theorem aAE(x y:BitVec 32):IntKind.u32.wrap ((x.toNat:Int)+(y.toNat:Int))=((x+y).toNat:Int):=by
 rw[F1,show(x.toNat:Int)+(y.toNat:Int)=((x.toNat+y.toNat:Nat):Int)by omega,tU]
theorem Kk(x:BitVec 32):A3 32 (x.toNat:Int)=x:=by
 apply BitVec.eq_of_toNat_eq;rw[BitVec.toNat_ofInt];have:=x.isLt;omega
theorem aAF(x y:BitVec 32):IntKind.u32.wrap ((A3 32 (x.toNat:Int)&&&A3 32 (y.toNat:Int)).toNat:Int)=((x&&&y).toNat:Int):=by rw[Kk,Kk,sS]
theorem aBn(x y:BitVec 32):IntKind.u32.wrap ((A3 32 (x.toNat:Int)|||A3 32 (y.toNat:Int)).toNat:Int)=((x|||y).toNat:Int):=by rw[Kk,Kk,sS]
theorem aAG(x y:BitVec 32):IntKind.u32.wrap ((A3 32 (x.toNat:Int)^^^A3 32 (y.toNat:Int)).toNat:Int)=((x^^^y).toNat:Int):=by rw[Kk,Kk,sS]
theorem aAH(x:BitVec 32):IntKind.u32.wrap ((A3 32 IntKind.u32.max^^^A3 32 (x.toNat:Int)).toNat:Int)=((~~~x).toNat:Int):=by
 have e:A3 32 IntKind.u32.max=F8 32:=bG;rw[e,Kk,BitVec.allOnes_xor,sS]
theorem ZH(x:BitVec 32):IntKind.u32.wrap ((A3 32 (x.toNat:Int)^^^A3 32 4294967295).toNat:Int)=((~~~x).toNat:Int):=by
 have e:A3 32 4294967295=F8 32:=bG;rw[e,Kk,BitVec.xor_allOnes,sS]
theorem YS(x:BitVec 32)(k:Nat)(a:k<=32):IntKind.u32.wrap ((x.toNat:Int)*2^k)=((x<<<k).toNat:Int):=by
 rw[BitVec.toNat_shiftLeft,Nat.shiftLeft_eq,show(x.toNat:Int)*2^k=((x.toNat*2^k:Nat):Int)by simp,tU]
theorem YT(x:BitVec 32)(k:Nat):(x.toNat:Int).fdiv (2^k)=((x>>>k).toNat:Int):=by
 rw[BitVec.toNat_ushiftRight,Nat.shiftRight_eq_div_pow,show(2:Int)^k=((2^k:Nat):Int)by simp,D3 _ (E8 _),F2]
def Kl(b:UInt8):BitVec 32:=BitVec.ofNat 32 b.toNat
theorem ZI(b:UInt8):IntKind.u32.wrap (b.toNat:Int)=((Kl b).toNat:Int):=by
 rw[tU];unfold Kl;rw[BitVec.toNat_ofNat]
theorem aAI(x:BitVec 32):IntKind.u8.wrap (x.toNat:Int)=((B0 x.toNat).toNat:Int):=by
 unfold IntKind.wrap;simp[IntKind.bits,IntKind.signed,E9]
def GE(x:BitVec 32)(k:Nat):BitVec 32:=x>>>k|||x<<<(32-k)
theorem Vi(x:BitVec 32)(k:Nat):x<<<(32-k)|||x>>>k=GE x k:=BitVec.or_comm _ _
structure H8 where
 (a b c d e f g h:BitVec 32)
def KS:List (BitVec 32):=[
 0x428a2f98,0x71374491,0xb5c0fbcf,0xe9b5dba5,0x3956c25b,0x59f111f1,0x923f82a4,0xab1c5ed5,
 0xd807aa98,0x12835b01,0x243185be,0x550c7dc3,0x72be5d74,0x80deb1fe,0x9bdc06a7,0xc19bf174,
 0xe49b69c1,0xefbe4786,0x0fc19dc6,0x240ca1cc,0x2de92c6f,0x4a7484aa,0x5cb0a9dc,0x76f988da,
 0x983e5152,0xa831c66d,0xb00327c8,0xbf597fc7,0xc6e00bf3,0xd5a79147,0x06ca6351,0x14292967,
 0x27b70a85,0x2e1b2138,0x4d2c6dfc,0x53380d13,0x650a7354,0x766a0abb,0x81c2c92e,0x92722c85,
 0xa2bfe8a1,0xa81a664b,0xc24b8b70,0xc76c51a3,0xd192e819,0xd6990624,0xf40e3585,0x106aa070,
 0x19a4c116,0x1e376c08,0x2748774c,0x34b0bcb5,0x391c0cb3,0x4ed8aa4a,0x5b9cca4f,0x682e6ff3,
 0x748f82ee,0x78a5636f,0x84c87814,0x8cc70208,0x90befffa,0xa4506ceb,0xbef9a3f7,0xc67178f2]
def ZJ(x:BitVec 32):BitVec 32:=GE x 7^^^GE x 18^^^x>>>3
def ZK(x:BitVec 32):BitVec 32:=GE x 17^^^GE x 19^^^x>>>10
def MY(x:BitVec 32)(i j k:Nat):BitVec 32:=GE x i^^^GE x j^^^GE x k
def ZL(s:H8)(k w:BitVec 32):H8:=
 ⟨s.h+MY s.e 6 11 25+((s.e&&&s.f)^^^(~~~s.e&&&s.g))+k+w+(MY s.a 2 13 22+((s.a&&&s.b)^^^(s.a&&&s.c)^^^(s.b&&&s.c))),s.a,s.b,s.c,
  s.d+(s.h+MY s.e 6 11 25+((s.e&&&s.f)^^^(~~~s.e&&&s.g))+k+w),s.e,s.f,s.g⟩
def wd(ws:List (BitVec 32))(t:Nat):BitVec 32:=ws.getD t 0
def MZ(b:List UInt8)(t:Nat):BitVec 32:=Kl (b.getD (4*t) 0)<<<24|||Kl (b.getD (4*t+1) 0)<<<16|||Kl (b.getD (4*t+2) 0)<<<8|||Kl (b.getD (4*t+3) 0)
def eX(b:List UInt8):Nat->List (BitVec 32)
 |0=>[]
 |t+1=>eX b t++[if t<16 then MZ b t else wd (eX b t) (t-16)+ZJ (wd (eX b t) (t-15))+wd (eX b t) (t-7)+ZK (wd (eX b t) (t-2))]
theorem gU(b:List UInt8):∀t,(eX b t).length=t
 |0=>rfl
 |t+1=>by simp[eX,gU b t]
theorem RN(p q r s:UInt8):(((0<<<8|||Kl p)<<<8|||Kl q)<<<8|||Kl r)<<<8|||Kl s=Kl p<<<24|||Kl q<<<16|||Kl r<<<8|||Kl s:=by
 simp[BitVec.shiftLeft_or_distrib,<-BitVec.shiftLeft_add]
def HU(s:H8)(ks ws:List (BitVec 32)):Nat->H8
 |0=>s
 |t+1=>ZL (HU s ks ws t) (ks.getD t 0) (wd ws t)
def H8.add(s r:H8):H8:=⟨s.a+r.a,s.b+r.b,s.c+r.c,s.d+r.d,s.e+r.e,s.f+r.f,s.g+r.g,s.h+r.h⟩
def comp(s:H8)(b:List UInt8):H8:=s.add (HU s KS (eX b 64) 64)
def Km(s:H8)(m:List UInt8):Nat->H8
 |0=>s
 |n+1=>comp (Km s m n) ((m.drop (64*n)).take 64)
theorem HV(s:H8)(m x:List UInt8):∀n,64*n<=m.length->Km s (m++x) n=Km s m n
 |0,_=>rfl
 |n+1,h=>by
  rw[Km,Km,HV s m x n aD,B7 aD,B8 (by rw[A8];omega)]
structure gV where
 (s:H8)(B:List UInt8)(n:Nat)
def gL(st:gV)(x:List UInt8):Nat:=min x.length (64-st.n%64)
def uJ(st:gV)(x:List UInt8):gV:=
 ⟨if st.n%64+gL st x=64 then comp st.s (bE (st.n%64) st.B (x.take (64-st.n%64)))else st.s,bE (st.n%64) st.B (x.take (64-st.n%64)),st.n+gL st x⟩
def CO:Nat->gV->List UInt8->gV
 |0,st,_=>st
 |f+1,st,x=>if x=[]then st else CO f (uJ st x) (x.drop (gL st x))
def iv:H8:=⟨0x6a09e667,0xbb67ae85,0x3c6ef372,0xa54ff53a,0x510e527f,0x9b05688c,0x1f83d9ab,0x5be0cd19⟩
def wE(m:List UInt8)(st:gV):Prop:=st.B.length=64/\st.n=m.length/\st.s=Km iv m (m.length / 64)/\st.B.take (m.length%64)=m.drop (64*(m.length / 64))
def tV:gV:=⟨iv,A6 64 0,0⟩
theorem Ko:wE [] tV:=⟨rfl,rfl,rfl,rfl⟩
theorem wE.step{m:List UInt8}{st:gV}(h:wE m st)(x:List UInt8):wE (m++x.take (gL st x)) (uJ st x):=by
 obtain⟨v,g,i,k⟩:=h;obtain⟨r,e⟩:∃r,r=m.length%64:=⟨_,rfl⟩;obtain⟨q,n⟩:∃q,q=m.length / 64:=⟨_,rfl⟩;have t:m.length=64*q+r:=aD;have o:r<64:=aD;rw[<-e,<-n]at k;rw[<-n]at i;have p:x.take (64-r)=x.take (gL st x):=by
  unfold gL;rw[g,<-e,List.take_eq_take_iff];omega
 have l:gL st x=(x.take (gL st x)).length:=by rw[C7];unfold gL;omega
 have j:r+gL st x<=64:=by unfold gL;rw[g,<-e];omega
 unfold uJ;rw[g,<-e,p];obtain⟨y,u⟩:∃y,y=x.take (gL st x):=⟨_,rfl⟩;rw[<-u]at l|-;rw[l]at j|-;have s:(bE r st.B y).length=64:=by unfold bE;simp;omega
 have a:(bE r st.B y).take 64=bE r st.B y:=A4 aD;have c:(bE r st.B y).take (r+y.length)=(m++y).drop (64*q):=by
  unfold bE;rw[B7 aD,<-k,B8 kH,A4 kH]
 refine⟨s,bA,?_,?_⟩
 .simp only[A2];by_cases d:r+y.length=64
  .have b:(m.length+y.length) / 64=q+1:=aD;rw[if_pos d,b,Km,HV _ _ _ _ aD,i,<-c,d,a,a]
  .have b:(m.length+y.length) / 64=q:=aD;rw[if_neg d,b,HV _ _ _ _ aD,i]
 .simp only[A2];by_cases d:r+y.length=64
  .have b:(m.length+y.length) / 64=q+1:=aD;have f:(m.length+y.length)%64=0:=aD;rw[b,f,List.take_zero,E0 (by rw[A2];omega)]
  .have b:(m.length+y.length) / 64=q:=aD;have f:(m.length+y.length)%64=r+y.length:=aD;rw[b,f,c]
theorem wF{st:gV}{x:List UInt8}(h:x≠[]):0<gL st x:=by
 unfold gL;have:=A9.2 h;omega
theorem wE.adds:∀(f:Nat) {m:List UInt8} {st:gV} (_:wE m st) (x:List UInt8),x.length<=f->wE (m++x) (CO f st x)
 |0,m,st,h,x,hx=>by
  have:x=[]:=B9 aD;subst this;simpa [CO]using h
 |f+1,m,st,h,x,hx=>by
  unfold CO;split
  .rename_i e;subst e;simpa using h
  .rename_i e;have a:=wE.adds f (h.step x) (x.drop (gL st x)) (by rw[A8];have:=wF (st:=st) e;omega)
   rwa[C6,List.take_append_drop]at a
def Vj(n:Nat):List UInt8:=(D8 8).map λi=>B0 (n / 256^(7-i))
def AU(n:Nat):List UInt8:=128::A6 ((119-n%64)%64) 0++Vj (8*n)
def qN(s:H8):List UInt8:=[s.a,s.b,s.c,s.d,s.e,s.f,s.g,s.h].flatMap λ(x:BitVec 32)=>[B0 (x>>>24).toNat,B0 (x>>>16).toNat,B0 (x>>>8).toNat,B0 x.toNat]
def HW(m:List UInt8):List UInt8:=qN (Km iv (m++AU m.length) ((m++AU m.length).length / 64))
theorem wE.sum{m:List UInt8}{a:gV}(h:wE m a)(f:Nat)(c:(AU m.length).length<=f):qN (CO f a (AU a.n)).s=HW m:=by
 obtain⟨_,b,_,_⟩:=id h;have:=(h.adds f (AU m.length) c).2.2.1;rw[b,this,HW]
def gW:Nat->Nat->List Nat
 |0,_=>[]
 |f+1,m=>if m=0 then []else m%256::gW f (m / 256)
theorem Kp:∀(f m:Nat),(gW f m).length<=f
 |0,_=>A7 _
 |f+1,m=>by
  unfold gW;split
  .simp
  .have:=Kp f (m / 256);simp only[B1];omega
theorem HX:∀(f m:Nat),∀d∈gW f m,d<256
 |0,_,d,h=>by cases h
 |f+1,m,d,h=>by
  unfold gW at h;split at h
  .cases h
  .rcases E5.1 h with rfl|h
   .omega
   .exact HX f _ d h
def uO(n:Int):Nat:=(if n<0 then -1-n else n).toNat
def yZ(n:Int):List Nat:=(if n<0 then 127-(gW 8 (uO n)).length else 128+(gW 8 (uO n)).length)::(gW 8 (uO n)).reverse.map λd=>if n<0 then 255-d else d
def Vk(n:Int):Prop:= -9223372036854775808<=n/\n<=9223372036854775807
theorem PO{n:Int}(h:Vk n):uO n<256^8:=by
 obtain⟨a,b⟩:=h;unfold uO;split<;>omega
theorem aAJ{n:Nat}(h:n<=9223372036854775807):Vk (n:Int):=⟨aD,aD⟩
def wG(s:List UInt8):List Nat:=yZ s.length++s.map UInt8.toNat
def pJ(b:UInt8):DV:=.int .u8 (b.toNat:Int)
def HY(s:H8):List DV:=[fR s.a,fR s.b,fR s.c,fR s.d,fR s.e,fR s.f,fR s.g,fR s.h]
def kI(st:gV):List DV:=HY st.s++(st.B.map pJ++[.int .u64 (st.n:Int)])
def Fn(s:H8):List LV:=(HY s).map .d
def dJ(st:gV):List LV:=(kI st).map .d
def wL(ws:List (BitVec 32)):List LV:=ws.map λx=>.d (fR x)
def wD(ws:List (BitVec 32)):List DV:=ws.map fR
theorem Vl(a:List (BitVec 32)):wL a=(wD a).map .d:=by simp[wL,wD]
theorem wH(a:List (BitVec 32)):(wL a).length=a.length:=by simp[wL]
theorem kS:∀l:List DV,zJ (l.map .d)=some l
 |[]=>rfl
 |x::l=>by simp[zJ,kS l]
theorem HZ(s:H8):(HY s).length=8:=rfl
theorem pS{st:gV}(h:st.B.length=64):(kI st).length=73:=by simp[kI,HY,h]
theorem gE{st:gV}(h:st.B.length=64):(dJ st).length=73:=by simp[dJ,pS h]
theorem Na{st:gV}(h:st.B.length=64):(dJ st)[72]? =some (.d (.int .u64 (st.n:Int))):=by
 simp[dJ,kI,HY,h]
theorem ZM{a:gV}(h:a.B.length=64){i:Nat}(b:i<64):(dJ a)[8+i]? =some (.d (pJ (a.B.getD i 0))):=by
 have e:(dJ a)[8+i]? =((a.B.map pJ++[DV.int .u64 (a.n:Int)]).map LV.d)[i]? :=by
  unfold dJ kI;rw[C4,D2 (by simp[HY])];simp[HY]
 rw[e,C4,C3 (by simp[h,b])];simp[A1 (show i<a.B.length by omega)]
theorem ZN(a:gV):(dJ a).take 8=Fn a.s:=by
 unfold dJ kI Fn;rw[C4,List.take_left' (by simp[HY])]
theorem AV{a:gV}(h:a.B.length=64):(dJ a).take 73=dJ a:=A4 (by rw[gE h];exact A7 _)
theorem wI{α:Type}{A B new:List α}{k n:Nat}(a:A.length=k):bE (k+n) (A++B) new=A++bE n B new:=by
 unfold bE;rw[List.take_append,List.drop_append,a,Nat.add_sub_cancel_left,A4 aD,show k+n+new.length-k=n+new.length by omega,E0 aD];simp
theorem sT{α β:Type}(f:α->β)(n:Nat)(A B:List α):bE n (A.map f) (B.map f)=(bE n A B).map f:=by simp[bE]
theorem GF{α:Type}{A B a:List α}{n:Nat}(h:n+a.length<=A.length):bE n (A++B) a=bE n A a++B:=by
 unfold bE;rw[B8 aD,B7 aD];simp
theorem BM{α:Type}{A a:List α}{n:Nat}(h:n+a.length<=A.length):(bE n A a).length=A.length:=by
 simp[bE];omega
theorem RO(y:List UInt8):tB y=(y.map pJ).map .d:=by simp[tB,pJ]
theorem RP{st:gV}(h:st.B.length=64){k:Nat}{y:List UInt8}(a:k+y.length<=64):bE (8+k) (dJ st) (tB y)=dJ ⟨st.s,bE k st.B y,st.n⟩:=by
 rw[RO];unfold dJ kI;rw[sT,wI (HZ _),GF (by simp[h];omega),sT]
theorem RQ{st:gV}(h:st.B.length=64)(n:Nat):bE 72 (dJ st) [.d (.int .u64 (n:Int))]=dJ ⟨st.s,st.B,n⟩:=by
 rw[show [LV.d (.int .u64 (n:Int))]=[DV.int .u64 (n:Int)].map LV.d by rfl];unfold dJ kI;rw[sT,show 72=8+64 by rfl,wI (HZ _),show 64=64+0 by rfl,wI (by simp[h])];simp[bE]
theorem RR(a:gV)(s:H8):bE 0 (dJ a) (Fn s)=dJ ⟨s,a.B,a.n⟩:=by
 unfold dJ kI Fn;rw[sT,GF (by simp[HY])];simp[bE,HY]
theorem lX(a:List TK)(b:Bool)(x y:BitVec 32):aR a b .add (.d (fR x)) (.d (fR y))=.plain (.d (fR (x+y))):=by
 simp[aR,fR,aAE, -F1]
theorem lY(a:List TK)(b:Bool)(x y:BitVec 32):aR a b .and (.d (fR x)) (.d (fR y))=.plain (.d (fR (x&&&y))):=congrArg (λz=>kJ.plain (LV.d (.int .u32 z))) (aAF x y)
theorem oG(a:List TK)(b:Bool)(x y:BitVec 32):aR a b .or (.d (fR x)) (.d (fR y))=.plain (.d (fR (x|||y))):=congrArg (λz=>kJ.plain (LV.d (.int .u32 z))) (aBn x y)
theorem lZ(a:List TK)(b:Bool)(x y:BitVec 32):aR a b .xor (.d (fR x)) (.d (fR y))=.plain (.d (fR (x^^^y))):=congrArg (λz=>kJ.plain (LV.d (.int .u32 z))) (aAG x y)
theorem jR(a:List TK)(b:Bool)(x:BitVec 32):aR a b .xor (.d (fR x)) (.d (.int .u32 4294967295))=.plain (.d (fR (~~~x))):=congrArg (λz=>kJ.plain (LV.d (.int .u32 z))) (ZH x)
theorem oH(x:BitVec 32):bK .xor (.d (fR x))=.plain (.d (fR (~~~x))):=congrArg (λz=>kJ.plain (LV.d (.int .u32 z))) (aAH x)
theorem RS(x:BitVec 32)(k:Nat):IntKind.u32.wrap ((x.toNat:Int)*2^min k 32)=((x<<<k).toNat:Int):=by
 rcases G0 k 32 with h|h
 .rw[F7 h,YS x k h]
 .rw[F3 h,YS x 32 (A7 _),D6 h,D6 (A7 _)]
theorem RT(x:BitVec 32)(k:Nat):(x.toNat:Int).fdiv (2^min k 32)=((x>>>k).toNat:Int):=by
 rcases G0 k 32 with h|h
 .rw[F7 h,YT x k]
 .rw[F3 h,YT x 32,D4 h,D4 (A7 _)]
theorem mC(a:List TK)(b:Bool)(x:BitVec 32)(k:IntKind)(n:Int):aR a b .shl (.d (fR x)) (.d (.int k n))=.cond (.d (fR (x<<<n.toNat))) (0<=n):=congrArg (λz=>kJ.cond (LV.d (.int .u32 z)) (0<=n)) (RS x n.toNat)
theorem mD(a:List TK)(b:Bool)(x:BitVec 32)(k:IntKind)(n:Int):aR a b .shr (.d (fR x)) (.d (.int k n))=.cond (.d (fR (x>>>n.toNat))) (0<=n):=congrArg (λz=>kJ.cond (LV.d (.int .u32 z)) (0<=n)) (RT x n.toNat)
def byW(x:BitVec 32):UInt8:=B0 x.toNat
theorem rD(T:TypeId->cW)(H:Nat->bJ){s t:TypeId}(a:(T s).k=.int .u32)(b:(T t).k=.int .u8)(x:BitVec 32):aO T H s t (.d (fR x))=.plain (.d (pJ (byW x))):=by
 simp only[aO,a,b,fR,pJ,byW,aAI]
theorem oI(T:TypeId->cW)(H:Nat->bJ){s t:TypeId}(a:(T s).k=.int .u8)(c:(T t).k=.int .u32)(b:UInt8):aO T H s t (.d (pJ b))=.plain (.d (fR (Kl b))):=by
 simp only[aO,a,c,fR,pJ,ZI]
theorem oJ(x:BitVec 32):dT (.d (fR x))=[.d (fR x)]:=rfl
theorem oK(x:BitVec 32):aQ (fR x)=[fR x]:=rfl
theorem oL(x:UInt8):dT (.d (pJ x))=[.d (pJ x)]:=rfl
theorem oM(x:UInt8):aQ (pJ x)=[pJ x]:=rfl
theorem sU(x:UInt8):rO (pJ x)=x:=by simp[rO,pJ]
theorem aAL(l:List UInt8):(l.map pJ).map rO=l:=by
 rw[D0,show rO∘pJ=id from funext sU,List.map_id]
theorem aAM:∀k:Nat,k<32->0<k->IntKind.u64.wrap (((IntKind.u64.wrap (-(k:Int))%2^IntKind.u64.bits).toNat&&&31%2^IntKind.u64.bits:Nat):Int)=((32-k:Nat):Int):=bG
theorem sV{n:Nat}(h:n<18446744073709551616):IntKind.u64.wrap (n:Int)=(n:Int):=by
 unfold IntKind.wrap;simp[IntKind.bits,IntKind.signed];omega
theorem GG{n:Nat}(h:n<9223372036854775808):IntKind.i64.wrap (n:Int)=(n:Int):=by
 unfold IntKind.wrap;simp[IntKind.bits,IntKind.signed];omega
theorem Vm{st:gV}(h:st.B.length=64)(x:List UInt8):(uJ st x).B.length=64:=by
 unfold uJ;rw[BM (by rw[C7,h];have:=Nat.mod_lt st.n (show 0<64 by decide);omega),h]
theorem Kq:∀(f g:Nat) (st:gV) (x:List UInt8),x.length<=f->x.length<=g->CO f st x=CO g st x
 |0,0,_,_,_,_=>rfl
 |0,g+1,st,x,h,_=>by have:x=[]:=B9 aD;subst this;simp[CO]
 |f+1,0,st,x,_,h=>by have:x=[]:=B9 aD;subst this;simp[CO]
 |f+1,g+1,st,x,h1,h2=>by
  unfold CO;split
  .rfl
  .rename_i e;have:=wF (st:=st) e;exact Kq f g _ _ (by rw[A8];omega) (by rw[A8];omega)
def wJ(st:gV)(x:List UInt8):gV:=CO x.length st x
theorem Vn(st:gV):wJ st []=st:=rfl
theorem GH{st:gV}{x:List UInt8}(h:x≠[]):wJ (uJ st x) (x.drop (gL st x))=wJ st x:=by
 unfold wJ;obtain⟨f,a⟩:∃f,x.length=f+1:=⟨x.length-1,by have:=A9.2 h;omega⟩;rw[a,CO,if_neg h];exact Kq _ _ _ _ (A7 _) (by rw[A8];have:=wF (st:=st) h;omega)
theorem zZ{m:List UInt8}{a:gV}(h:wE m a)(x:List UInt8):wE (m++x) (wJ a x):=h.adds _ x (A7 _)
theorem wE.hash{m:List UInt8}{a:gV}(h:wE m a):qN (wJ a (AU a.n)).s=HW m:=by
 obtain⟨_,b,_,_⟩:=id h;exact h.sum _ (by rw[b];exact A7 _)
def toS(l:List Nat):List UInt8:=l.map B0
def Nb(tag:Nat)(parts:List (List UInt8)):List UInt8:=B0 tag::parts.flatMap λp=>toS (wG p)
def RU(tag:Nat)(parts:List (List UInt8)):List UInt8:=(HW (Nb tag parts)).take 16
def jD(l:List UInt8):List DV:=l.map pJ
theorem sW(s:H8):(qN s).length=32:=by simp[qN]
theorem Ia(m:List UInt8):(HW m).length=32:=sW _
theorem Dc(b:Nat)(a:List (List UInt8)):(RU b a).length=16:=by simp[RU,Ia]
section
attribute[local simp] aR bK bE aO
attribute[local simp] kJ.cond
def bD(x:Nat):DV:=.int .u8 (x:Int)
theorem Kr{x:Int}(a:0<=x)(h:x<256):IntKind.u8.wrap x=x:=by
 unfold IntKind.wrap;simp[IntKind.bits,IntKind.signed];omega
def CP(hd:Nat)(L:List Nat)(j:Nat):List DV:=(hd::L.take j).map bD
theorem GI{hd:Nat}{L:List Nat}:CP hd L 0=[bD hd]:=rfl
theorem wK{hd:Nat}{L:List Nat}{j:Nat}(a:j<=L.length):(CP hd L j).length=j+1:=by simp[CP];omega
theorem yN{hd:Nat}{L:List Nat}{j:Nat}(a:j<=L.length):(CP hd L j).take (j+1)=CP hd L j:=A4 (by rw[wK a];exact A7 _)
theorem GJ{hd:Nat}{L:List Nat}{j:Nat}(a:j<L.length):CP hd L (j+1)=CP hd L j++[bD L[j]]:=by
 unfold CP;rw[<-B3 a,E6,E6,C4];rfl
theorem Ks{hd:Nat}{L:List Nat}{j:Nat}(a:L.length<=j):CP hd L j=(hd::L).map bD:=by rw[CP,A4 a]
theorem Kt(n:Int):(yZ n).length<=9:=by
 have:=Kp 8 (uO n);unfold yZ;simp;omega
end
def qO(B:List UInt8)(t:Nat):List LV:=wL (eX B t++A6 (64-t) 0)
def ED(B:List UInt8)(t:Nat):Nat->BitVec 32
 |0=>0
 |j+1=>ED B t j<<<8|||Kl (B.getD (4*t+j) 0)
def AW(B:List UInt8)(t j:Nat):List LV:=wL (eX B t++(ED B t j::A6 (63-t) 0))
theorem Vo(B:List UInt8)(t:Nat):ED B t 4=MZ B t:=by
 simp only[ED,F0];exact RN _ _ _ _
theorem RW(B:List UInt8):qO B 0=A6 64 (.d (fR 0)):=by simp[qO,eX,wL]
theorem EE(B:List UInt8){t:Nat}(h:t<=64):(qO B t).length=64:=by simp[qO,wH,gU];omega
theorem Vp(B:List UInt8){t j:Nat}(h:t<64):(AW B t j).length=64:=by simp[AW,wH,gU];omega
theorem GK(B:List UInt8){t:Nat}(h:t<64):AW B t 0=qO B t:=by
 unfold AW qO ED;rw[show 64-t=63-t+1 by omega,E4]
theorem Ku(B:List UInt8){t:Nat}(h:t<16):eX B (t+1)=eX B t++[MZ B t]:=by rw[eX,if_pos h]
theorem Nc(B:List UInt8){t:Nat}(h:¬t<16):eX B (t+1)=eX B t++[wd (eX B t) (t-16)+ZJ (wd (eX B t) (t-15))+wd (eX B t) (t-7)+ZK (wd (eX B t) (t-2))]:=by rw[eX,if_neg h]
theorem Vq(B:List UInt8){t:Nat}(h:t<16):AW B t 4=qO B (t+1):=by
 unfold AW qO;rw[Vo,Ku B h,show 64-(t+1)=63-t by omega];simp
theorem Nf(a:List (BitVec 32)){i:Nat}(h:i<a.length):(wL a)[i]? =some (.d (fR (a.getD i 0))):=by
 unfold wL;rw[C0,A1 h,A0,A1 h];rfl
theorem Vr(A B:List (BitVec 32)):wL (A++B)=wL A++wL B:=by simp[wL]
theorem Vs(A B:List (BitVec 32))(x y:BitVec 32){t:Nat}(h:A.length=t):bE t (wL (A++(x::B))) [.d (fR y)]=wL (A++(y::B)):=by
 have e:=wI (A:=wL A) (B:=wL (x::B)) (new:=[LV.d (fR y)]) (k:=t) (n:=0) (by rw[wH,h]);rw[Vr,Vr];rw[F0]at e;rw[e];rfl
theorem Vt(B:List UInt8){t j:Nat}:(AW B t j)[t]? =some (.d (fR (ED B t j))):=by
 unfold AW;rw[Nf _ (by simp[gU])];simp[gU]
theorem Vu(B:List UInt8){t j:Nat}:bE t (AW B t j) [.d (fR (ED B t j<<<8|||Kl (B.getD (4*t+j) 0)))]=AW B t (j+1):=Vs _ _ _ _ (gU B t)
theorem AX(B:List UInt8){t i:Nat}(h:i<t):(qO B t)[i]? =some (.d (fR (wd (eX B t) i))):=by
 unfold qO;rw[Nf _ (by simp[gU];omega)];unfold wd;rw[A0,A0,C3 (by rw[gU];exact h)]
theorem Vv(B:List UInt8){t:Nat}(h:t<64)(y:BitVec 32)(e:eX B (t+1)=eX B t++[y]):bE t (qO B t) [.d (fR y)]=qO B (t+1):=by
 rw[<-GK B h];unfold AW;rw[Vs _ _ _ _ (gU B t)];unfold qO;rw[e,show 64-(t+1)=63-t by omega];simp
theorem Vw(B:List UInt8):qO B 64=wL (eX B 64):=by simp[qO]
theorem Vx(a:List (BitVec 32)){n:Nat}(h:a.length<=n):(wL a).take n=wL a:=A4 (by rw[wH];exact h)
theorem ZO(a:List (BitVec 32)):(wD a).length=a.length:=by simp[wD]
theorem ZP(a:List (BitVec 32)){i:Nat}(h:i<a.length):(wD a)[i]? =some (fR (a.getD i 0)):=by
 unfold wD;rw[C0,A1 h,A0,A1 h];rfl
def pK(op:BinOp)(k:IntKind)(a:Int)(k':IntKind)(b:Int):kJ:=
 match op with
 | .add=>if k=k' then(if k=.i64 then .cond (.d (.int k (a+b))) (-9223372036854775808<=a+b/\a+b<=9223372036854775807)else .plain (.d (.int k (k.wrap (a+b)))))else .fail
 | .sub=>if k=k' then(if k=.i64 then .cond (.d (.int k (a-b))) (-9223372036854775808<=a-b/\a-b<=9223372036854775807)else .plain (.d (.int k (k.wrap (a-b)))))else .fail
 | .mul=>if k=k' then(if k=.i64 then .cond (.d (.int k (a*b))) (-9223372036854775808<=a*b/\a*b<=9223372036854775807)else .plain (.d (.int k (k.wrap (a*b)))))else .fail
 | .quo=>if k=k' then(if k=.i64 then .cond (.d (.int k (a.tdiv b))) (b≠0/\ -9223372036854775808<=a.tdiv b/\a.tdiv b<=9223372036854775807)else .cond (.d (.int k (k.wrap (a.tdiv b)))) (b≠0))else .fail
 | .rem=>if k=k' then .cond (.d (.int k (a.tmod b))) (b≠0)else .fail
 | .lss=>if k=k' then .plain (.d (.bool (decide (a<b))))else .fail
 | .leq=>if k=k' then .plain (.d (.bool (decide (a<=b))))else .fail
 | .gtr=>if k=k' then .plain (.d (.bool (decide (a>b))))else .fail
 | .geq=>if k=k' then .plain (.d (.bool (decide (a>=b))))else .fail
 | .eql=>if k=k' then .plain (.d (.bool (decide (a=b))))else .fail
 | .neq=>if k=k' then .plain (.d (.bool (!decide (a=b))))else .fail
 | .shl=>.cond (.d (.int k (k.wrap (a*2^min b.toNat k.bits)))) (0<=b)
 | .shr=>.cond (.d (.int k (a.fdiv (2^min b.toNat k.bits)))) (0<=b)
 | .and=>if k=k' then .plain (.d (.int k (k.wrap (A3 k.bits a&&&A3 k.bits b).toNat)))else .fail
 | .or=>if k=k' then .plain (.d (.int k (k.wrap (A3 k.bits a|||A3 k.bits b).toNat)))else .fail
 | .xor=>if k=k' then .plain (.d (.int k (k.wrap (A3 k.bits a^^^A3 k.bits b).toNat)))else .fail
 |_=>.fail
theorem rE(c:List TK)(f:Bool)(e:BinOp)(k d:IntKind)(a b:Int):aR c f e (.d (.int k a)) (.d (.int d b))=pK e k a d b:=rfl
theorem oN(c:List TK)(d:Bool)(a b:List UInt8):aR c d .neq (.d (.str a)) (.d (.str b))=.plain (.d (.bool (!(a==b)))):=rfl
theorem wM(n:Int):bK .neg (.d (.int .i64 n))=.cond (.d (.int .i64 (0-n))) (-9223372036854775808<=0-n/\0-n<=9223372036854775807):=rfl
theorem oO(T:TypeId->cW)(H:Nat->bJ){s t:TypeId}{d a:IntKind}(b:(T s).k=.int d)(c:(T t).k=.int a)(k:IntKind)(n:Int):aO T H s t (.d (.int k n))=.plain (.d (.int a (a.wrap n))):=by
 simp only[aO,b,c]
theorem oP(T:TypeId->cW)(H:Nat->bJ){s t e:TypeId}(a:(T s).k=.slice e)(b:(T t).k=.str)(c:(T e).k=.int .u8)(x:LV):aO T H s t x=match rN H x with|some ys=>.cond (.d (.str (ys.map rO))) (∀y∈ys,∃n,y=.int .u8 n)|none=>.fail:=by
 simp only[aO,a,b,c];cases rN H x<;>rfl
theorem iA(T:TypeId->cW)(H:Nat->bJ){s t e:TypeId}(a:(T s).k=.str)(b:(T t).k=.slice e)(c:(T e).k=.int .u8)(l:List UInt8):aO T H s t (.d (.str l))=.cond (.d (.sl (l.map pJ))) (l.length<=1099511627776):=by
 simp only[aO,a,b,c];rfl
theorem Ng(B:List UInt8):qO B 0=A6 64 (.d (.int .u32 0)):=RW B
theorem Nh{l:List LV}{i:Nat}{x:LV}(e:l[i]? =some x)(h:i<l.length):l[i]'h=x:=by
 rw[A1 h]at e;exact Option.some.inj e
theorem Vy(s:gV):∀c∈kI s,∃k n,c=.int k n:=λc a=>by
 simp only[kI,HY,List.mem_append,E5,List.not_mem_nil,or_false,G1]at a;rcases a with(h|h|h|h|h|h|h|h)|⟨b,_,h⟩|h
 all_goals first|exact⟨_,_,h⟩|exact⟨_,_,h.symm⟩
theorem Ib(l:List UInt8):∀c∈jD l,∃k n,c=.int k n:=λc a=>by
 obtain⟨b,_,h⟩:=G1.1 a;exact⟨_,_,h.symm⟩
theorem Kv(s:List UInt8):(wG s).length=(yZ s.length).length+s.length:=by simp[wG]
theorem rF(a:List (BitVec 32)):zJ (wL a)=some (wD a):=by rw[Vl,kS]
theorem rG(s:H8):zJ (Fn s)=some (HY s):=kS _
theorem mE(s:gV):zJ (dJ s)=some (kI s):=kS _
def SM(tag:Nat)(parts:List (List UInt8)):Nat->gV
 |0=>wJ tV [B0 tag]
 |i+1=>wJ (SM tag parts i) (toS (wG (parts.getD i [])))
theorem Vz(a:Nat)(parts:List (List UInt8)){i:Nat}(h:i<parts.length):Nb a (parts.take (i+1))=Nb a (parts.take i)++toS (wG (parts.getD i [])):=by
 unfold Nb;rw[<-B3 h,List.flatMap_append,A0,A1 h];simp
theorem pT(a:Nat)(parts:List (List UInt8)):∀i,i<=parts.length->wE (Nb a (parts.take i)) (SM a parts i)
 |0,_=>zZ Ko [B0 a]
 |i+1,h=>by
  rw[Vz a parts aD];exact zZ (pT a parts i aD) _
theorem PP(l:List Nat):(toS l).length=l.length:=by simp[toS]
theorem PQ(a:Nat){k:Nat}:∀{parts:List (List UInt8)},(∀s∈parts,(wG s).length<=k)->(Nb a parts).length<=1+parts.length*k
 |[],_=>by simp[Nb]
 |s::r,h=>by
  have c:=PQ a (parts:=r) λx b=>h x (E3 _ b);have d:=h s (D1 ..);simp only[Nb,List.flatMap_cons,B1,A2,PP,Nat.add_mul]at*;omega
theorem ZQ(l:List Nat):(l.map bD).map rO=toS l:=by
 rw[D0];apply List.map_congr_left;intro x _;simp[rO,bD]
theorem wN{σ:List (Nat×Nat)}{n id k m c:Nat}:ren σ (n+1) (.sb id k m c)=match dL σ id with|some i=>.sb i k m c|none=>.junk:=rfl
theorem mF{id k m c:Nat}:dT (.sb id k m c)=[.sb id k m c]:=rfl
theorem yO(σ:List (Nat×Nat))(l:List DV):(l.map LV.d).map (ren σ 8)=l.map .d:=by
 rw[D0];rfl
theorem mN(σ:List (Nat×Nat))(s:gV):(dJ s).map (ren σ 8)=dJ s:=yO _ _
theorem rV(σ:List (Nat×Nat))(l:List (BitVec 32)):(wL l).map (ren σ 8)=wL l:=by rw[Vl,yO]
theorem oQ(σ:List (Nat×Nat))(B:List UInt8)(t:Nat):(qO B t).map (ren σ 8)=qO B t:=rV _ _
theorem oS(σ:List (Nat×Nat))(B:List UInt8)(t j:Nat):(AW B t j).map (ren σ 8)=AW B t j:=rV _ _
def vH(s:H8):List DV:=[fR s.a,fR s.b,fR s.c,fR s.d]
def eD(s:H8):List DV:=[fR s.e,fR s.f,fR s.g,fR s.h]
def vL(s:H8):List LV:=[.d (fR s.a),.d (fR s.b),.d (fR s.c),.d (fR s.d)]
def eL(s:H8):List LV:=[.d (fR s.e),.d (fR s.f),.d (fR s.g),.d (fR s.h)]
theorem wO(s:H8):zJ (vL s)=some (vH s):=kS (vH s)
theorem wP(s:H8):zJ (eL s)=some (eD s):=kS (eD s)
theorem Aa(s:H8):(vH s).map LV.d=vL s:=rfl
theorem Ab(s:H8):(eD s).map LV.d=eL s:=rfl
theorem tW(s:H8):(HY s).map LV.d=Fn s:=rfl
theorem wQ(l:List (BitVec 32)):(wD l).map LV.d=wL l:=(Vl l).symm
theorem nN(s:gV):(kI s).map LV.d=dJ s:=rfl
theorem wR(σ:List (Nat×Nat))(s:H8):(vL s).map (ren σ 8)=vL s:=yO σ (vH s)
theorem wS(σ:List (Nat×Nat))(s:H8):(eL s).map (ren σ 8)=eL s:=yO σ (eD s)
theorem rH(σ:List (Nat×Nat))(s:H8):(Fn s).map (ren σ 8)=Fn s:=yO _ _
theorem VA(s:H8):(Fn s).take 8=Fn s:=rfl
theorem aBo(s:H8):(Fn s).take 4=vL s:=rfl
theorem aBp(s:H8):((Fn s).drop 4).take 4=eL s:=rfl
theorem Dd(s:H8):(Fn s).length=8:=rfl
theorem VB(s:H8):(vL s).length=4:=rfl
theorem VC(s:H8):(eL s).length=4:=rfl
theorem eO{α:Type}{A B:List α}(h:A.length<=B.length):bE 0 A B=B:=by simp[bE,h]
def Iz(s:H8)(i:Nat):BitVec 32:=[s.a,s.b,s.c,s.d,s.e,s.f,s.g,s.h].getD i 0
def uP(s r:H8)(j:Nat):List LV:=(D8 8).map λi=>.d (fR (if i%4<j then Iz s i+Iz r i else Iz s i))
theorem oT(σ:List (Nat×Nat))(s r:H8)(j:Nat):(uP s r j).map (ren σ 8)=uP s r j:=by
 unfold uP;rw[D0];rfl
theorem RX(s r:H8):uP s r 0=Fn s:=by simp[uP,Fn,HY,C5,Iz]
theorem VD(s r:H8):uP s r 4=Fn (s.add r):=by simp[uP,Fn,HY,C5,Iz,H8.add]
theorem VE(s r:H8)(j:Nat):(uP s r j).length=8:=by simp[uP]
theorem RY{j:Nat}(h:j<4):j=0\/j=1\/j=2\/j=3:=aD
theorem VF(s r:H8){j:Nat}(h:j<4):(uP s r j)[j]? =some (.d (fR (Iz s j))):=by
 rcases RY h with rfl|rfl|rfl|rfl<;>simp[uP,C5]
theorem RZ(s r:H8){j:Nat}(h:j<4)(x:LV):(bE j (uP s r j) [x])[j+4]? =some (.d (fR (Iz s (j+4)))):=by
 rcases RY h with rfl|rfl|rfl|rfl<;>simp[uP,C5,bE]
theorem VG(s r:H8){j:Nat}(h:j<4):bE (j+4) (bE j (uP s r j) [.d (fR (Iz s j+Iz r j))]) [.d (fR (Iz s (j+4)+Iz r (j+4)))]=uP s r (j+1):=by
 rcases RY h with rfl|rfl|rfl|rfl<;>simp[uP,C5,bE]
theorem ZR(r:H8){j:Nat}(h:j<4):(vL r)[j]? =some (.d (fR (Iz r j))):=by
 rcases RY h with rfl|rfl|rfl|rfl<;>rfl
theorem ZS(r:H8){j:Nat}(h:j<4):(eL r)[j]? =some (.d (fR (Iz r (j+4)))):=by
 rcases RY h with rfl|rfl|rfl|rfl<;>rfl
theorem ZT(s:H8){i:Nat}(h:i<8):(Fn s)[i]? =some (.d (fR (Iz s i))):=by
 rcases(by omega:i=0\/i=1\/i=2\/i=3\/i=4\/i=5\/i=6\/i=7)with rfl|rfl|rfl|rfl|rfl|rfl|rfl|rfl<;>rfl
theorem ZU(a:gV){i:Nat}(h:i<8):(dJ a)[i]? =some (.d (fR (Iz a.s i))):=by
 rw[<-ZT a.s h];unfold dJ kI Fn;rw[C4,C3 (by simpa [HY]using h)]
theorem Sa(s:H8){i:Nat}(h:i<32):(qN s)[i]? =some (byW (Iz s (i / 4)>>>(24-8*(i%4)))):=by
 obtain⟨q,r,rfl,a,b⟩:∃q r,i=4*q+r/\r<4/\q<8:=⟨i / 4,i%4,aD,aD,aD⟩;rw[show(4*q+r) / 4=q by omega,show(4*q+r)%4=r by omega];rcases RY a with rfl|rfl|rfl|rfl<;>
 rcases(by omega:q=0\/q=1\/q=2\/q=3\/q=4\/q=5\/q=6\/q=7)with rfl|rfl|rfl|rfl|rfl|rfl|rfl|rfl<;>simp[qN,Iz,byW]
def tX(s:H8)(i:Nat):List LV:=(((qN s).take i++A6 (32-i) 0).map pJ).map .d
theorem EF(s:H8){i:Nat}(h:i<=32):(tX s i).length=32:=by simp[tX,sW];omega
theorem oU(σ:List (Nat×Nat))(s:H8)(i:Nat):(tX s i).map (ren σ 8)=tX s i:=yO _ _
theorem GL(s:H8):tX s 0=A6 32 (.d (pJ 0)):=by simp[tX]
theorem VH(s:H8):tX s 32=((qN s).map pJ).map .d:=by simp[tX,A4 (E1 (sW s))]
theorem VI(s:H8){i:Nat}(h:i<32):bE i (tX s i) [.d (pJ (byW (Iz s (i / 4)>>>(24-8*(i%4)))))]=tX s (i+1):=by
 have e:=Sa s h;have b:i<(qN s).length:=by rw[sW];exact h
 rw[A1 b]at e;have e:=Option.some.inj e;rw[<-e];have c:((qN s).take i).length=i:=by rw[C7,sW];omega
 have a:=wI (A:=(qN s).take i) (B:=0::A6 (31-i) 0) (new:=[(qN s)[i]]) (k:=i) (n:=0) c;rw[F0]at a;unfold tX;rw[show [LV.d (pJ (qN s)[i])]=([(qN s)[i]].map pJ).map .d by rfl,sT,sT,show 32-i=31-i+1 by omega,E4,a,<-B3 b,show 32-(i+1)=31-i by omega,C6];rfl
def AY(n i:Nat):List UInt8:=128::A6 ((119-n%64)%64) 0++(Vj (8*n)).take i
theorem EG(n:Nat):(Vj n).length=8:=by simp[Vj]
theorem GM(n:Nat):AY n 0=128::A6 ((119-n%64)%64) 0:=by simp[AY]
theorem Kw(n:Nat):AY n 8=AU n:=by simp[AY,AU,A4 (E1 (EG _))]
theorem GN(n:Nat){i:Nat}(h:i<8):AY n (i+1)=AY n i++[B0 (8*n / 256^(7-i))]:=by
 unfold AY;rw[<-B3 (by rw[EG];exact h)];simp[Vj]
theorem Kx(n:Nat){i:Nat}(h:i<=8):(AY n i).length=1+(119-n%64)%64+i:=by simp[AY,EG];omega
theorem VJ(M:Nat){i:Nat}(h:i<8):(M:Int).fdiv (2^min (56-8*(i:Int)).toNat IntKind.u64.bits)=((M / 256^(7-i):Nat):Int):=by
 show(M:Int).fdiv (2^min (56-8*(i:Int)).toNat 64)=((M / 256^(7-i):Nat):Int);have e:(2:Int)^(8*(7-i))=((256^(7-i):Nat):Int):=by
  rw[Int.pow_mul,Int.natCast_pow];rfl
 rw[show min (56-8*(i:Int)).toNat 64=8*(7-i)by omega,e,D3 _ (E8 _),F2]
theorem YU(n:Nat):DV.int .u8 (IntKind.u8.wrap (n:Int))=pJ (B0 n):=by
 unfold pJ IntKind.wrap;simp[IntKind.bits,IntKind.signed,E9]
section
attribute[local simp] lX lY oG lZ jR oH mC mD rD oI oJ oK oL oM
attribute[local simp] rE pK oN wM oO oP iA kJ.cond bO rF rG mE wO wP wN mF mN rV oQ oS wR wS rH oT oU
theorem Ac(x:BitVec 32)(k:Nat)(a:0<k)(b:k<32):Ok prog 267 [fR x,aI (-(k:Int))] ⟨.d (fR (GE x k)),true⟩:=by
 refine bU func267 rfl ntmps267 results267 λf X e=>?_;have c:=aAM k b a;have d:IntKind.u64.wrap (32-((32-k:Nat):Int))=(k:Int):=by rw[show(32:Int)-((32-k:Nat):Int)=(k:Int)by omega];exact sV aD
 apply aE;simp;apply aE;simp[c];apply aE;simp[d,Vi];apply aH;simp[fR]
theorem Ya(x:BitVec 32):Ok prog 267 [fR x,aI (-7)] ⟨.d (fR (GE x 7)),true⟩:=Ac x 7 bG bG
theorem VK(x:BitVec 32):Ok prog 267 [fR x,aI (-18)] ⟨.d (fR (GE x 18)),true⟩:=Ac x 18 bG bG
theorem VL(x:BitVec 32):Ok prog 267 [fR x,aI (-17)] ⟨.d (fR (GE x 17)),true⟩:=Ac x 17 bG bG
theorem VM(x:BitVec 32):Ok prog 267 [fR x,aI (-19)] ⟨.d (fR (GE x 19)),true⟩:=Ac x 19 bG bG
theorem VN(x:BitVec 32)(i j k:Nat)(a:0<i/\i<32)(b:0<j/\j<32)(c:0<k/\k<32):Ok prog 198 [fR x,aI i,aI j,aI k] ⟨.d (fR (MY x i j k)),true⟩:=by
 refine bU func198 rfl ntmps198 results198 λe X d=>?_;apply aE;simp;refine dF (λ|12=>some<| .plain ⟨.d (fR (GE x i)),true⟩|16=>some<| .plain ⟨.d (fR (GE x j)),true⟩|21=>some<| .plain ⟨.d (fR (GE x k)),true⟩|_=>none) ?_;simp;refine⟨⟨⟨⟨⟨⟨aD,Ac x i a.1 a.2⟩,aD⟩,Ac x j b.1 b.2⟩,aD⟩,Ac x k c.1 c.2⟩,?_⟩;apply aH;simp[fR,MY]
theorem Ky(a:gV)(w:a.B.length=64):mH prog 197 [.sb 0 8 64 64] [(0,.box false (dJ a))] [(0,.box false (dJ a))] (.d (.agg (wD (eX a.B 64)))):=by
 refine lE func197 rfl ntmps197 results197 λJ X d=>?_;have f:=gE w;apply aE;simp;apply aE;simp;apply eT;simp;apply aY;refine bC (ι:=Nat) (λt=>bB [(0,.sb 0 8 64 64),(2,.bx 2 0),(3,.bx 3 0),(11,.d (aI t))]) (λt=>aK [(0,.box false (dJ a)),(2,.box false (qO a.B 0)),(3,.box false (qO a.B t))]) (λt=>t<=64) (λt=>64-t) 0 (aA d [0,2,3,11] [(0,0),(2,2),(3,3)] (hH:=by simp[Ng])) (D5 _) λt l=>?_;apply aE;simp;apply aF;apply aM;simp;refine⟨λC=>?_,λC=>?_⟩
 .apply aG;simp;apply eE;apply aE;simp;apply fL;have g:=EE a.B l;apply aJ;simp;apply aM;simp;refine⟨λD=>?_,λD=>?_⟩
  .apply fL;have y:(4*(t:Int)).toNat=4*t:=aD;have z:(4*(t:Int)+4-4*(t:Int)).toNat=4:=aD;apply aJ;simp[y,z];refine⟨aD,?_⟩;apply aY;refine bC (ι:=Nat) (λj=>bB [(0,.sb 0 8 64 64),(2,.bx 2 0),(3,.bx 3 0),(4,.d (aI t)),(11,.d (aI t)),(22,.sb 0 (8+4*t) 4 (64-4*t)),(23,.d (aI 4)),(24,.d (aI j))]) (λj=>aK [(0,.box false (dJ a)),(2,.box false (qO a.B 0)),(3,.box false (AW a.B t j))]) (λj=>j<=4) (λj=>4-j) 0 (aA d [0,2,3,4,11,22,23,24] [(0,0),(2,2),(3,3)] (hH:=by simp[GK a.B (show t<64 by omega)])) (D5 _) λj F=>?_;apply aE;simp;apply aF;apply aM;simp;refine⟨λE=>?_,λE=>?_⟩
   .apply aG;simp;apply eE;apply aF;have x:=ZM w (i:=4*t+j) aD;rw[<-Nat.add_assoc]at x;apply aJ;simp[f,x];refine⟨aD,?_⟩;have p:=Vp a.B (t:=t) (j:=j) aD;have o:=Vt a.B (t:=t) (j:=j);have b:=Vu a.B (t:=t) (j:=j);simp only[A0]at b;apply aJ;simp[p,o];refine⟨aD,?_⟩;apply aJ;simp;refine⟨aD,?_⟩;refine Oe.mk (j+1) (aA d [0,2,3,4,11,22,23,24] [(0,0),(2,2),(3,3)] (hH:=by simp[b])) ?_ ?_
    .omega
    .omega
   .apply bQ;simp;apply bQ;simp;apply aJ;simp;refine⟨aD,?_⟩;have n:=Vq a.B (t:=t) aD;have m:j=4:=aD;subst m;refine Oe.mk (t+1) (aA d [0,2,3,11] [(0,0),(2,2),(3,3)] (hH:=by simp[n])) ?_ ?_
    .omega
    .omega
  .apply aG;simp;apply aF;have u:((t:Int)- 15).toNat=t-15:=aD;have H:((t:Int)- 2).toNat=t-2:=aD;have h:=AX a.B (t:=t) (i:=t-15) aD;have A:=AX a.B (t:=t) (i:=t-2) aD;refine fF.rd [] [] (λ_=>none) ?_;simp[g,u,H,h,A];refine⟨aD,?_⟩;refine dF (λ|47=>some<| .plain ⟨.d (fR (GE (wd (eX a.B t) (t-15)) 7)),true⟩|49=>some<| .plain ⟨.d (fR (GE (wd (eX a.B t) (t-15)) 18)),true⟩|_=>none) ?_;simp;refine⟨⟨Ya _,VK _⟩,?_⟩;refine dF (λ|55=>some<| .plain ⟨.d (fR (GE (wd (eX a.B t) (t-2)) 17)),true⟩|57=>some<| .plain ⟨.d (fR (GE (wd (eX a.B t) (t-2)) 19)),true⟩|_=>none) ?_;simp;refine⟨⟨VL _,VM _⟩,?_⟩;have v:((t:Int)- 16).toNat=t-16:=aD;have I:((t:Int)- 7).toNat=t-7:=aD;have k:=AX a.B (t:=t) (i:=t-16) aD;have B:=AX a.B (t:=t) (i:=t-7) aD;have b:=Vv a.B (show t<64 by omega) _ (Nc a.B (t:=t) aD);simp only[ZJ,ZK]at b;refine fF.rd [] [[],[],[],[],[],[],[],[],[],[],[],[],[],[],[],[3]] (λ_=>none) ?_;simp[g,v,I,k,B];refine⟨aD,?_⟩;apply aJ;simp;refine⟨aD,?_⟩;refine Oe.mk (t+1) (aA d [0,2,3,11] [(0,0),(2,2),(3,3)] (hH:=by simp[b])) ?_ ?_
   .omega
   .omega
 .apply bQ;simp;apply aF;have G:t=64:=aD;subst G;have e:=EE a.B (t:=0) aD;have c:=gU a.B 64;have r:List.take 64 (qO a.B 64)=wL (eX a.B 64):=by rw[Vw,Vx _ (E1 c)]
  have q:bE 0 (qO a.B 0) (wL (eX a.B 64))=wL (eX a.B 64):=eO (by rw[wH,c,e];exact A7 _);apply aJ;simp[r,wQ,q,e,EE,wH,c];apply aH;have s:=Vx (eX a.B 64) (E1 c);simp[s,wH,c];exact aA d [0] [(0,0)]
end
end Go.Eng
