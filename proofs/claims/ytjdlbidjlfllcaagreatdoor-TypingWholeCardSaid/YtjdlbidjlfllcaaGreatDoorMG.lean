/- Part 7 of the proof. No condition. -/
import Derived.Test.YtjdlbidjlfllcaaGreatDoorMF
open Go.Proofs
set_option linter.unusedVariables false
set_option linter.unusedSimpArgs false
set_option maxRecDepth 20000
set_option maxHeartbeats 4000000
namespace Go.Eng
section
attribute[local simp] hZ.cond Nd.d_eq nd_t nd_dr nd_td ndsD aO bH jQ cS cI
theorem xZ{c:UInt8}(h:digitB c=true):Lib.digitVal c=some (c.toNat-48)/\48<=c.toNat/\c.toNat<=57:=by
 rw[xP]at h;simp only[Bool.and_eq_true,decide_eq_true_eq]at h;have h1:48<=c.toNat:=by omega
 have h2:c.toNat<=57:=by omega
 exact⟨by unfold Lib.digitVal;rw[if_pos ⟨h1,h2⟩],h1,h2⟩
theorem BD:∀(s:aJ) (acc:Nat),(∀c∈s,digitB c=true)->∃m:Nat,Lib.decFrom acc s=some m/\(m:Int)=s.foldl (λn c=>10*n+((c.toNat:Int)- 48)) (acc:Int)
 |[],acc,_=>⟨acc,rfl,rfl⟩
 |c::r,acc,h=>by
  obtain⟨h1,h2,h3⟩:=xZ (h c (List.mem_cons_self ..));obtain⟨m,e1,e2⟩:=BD r (acc*10+(c.toNat-48)) λx hx=>h x (List.mem_cons_of_mem _ hx);refine⟨m,?_,?_⟩
  ·unfold Lib.decFrom;rw[h1];exact e1
  ·rw[e2,List.foldl_cons];congr 1;omega
theorem GO{s:aJ}(h0:s≠[])(h:∀c∈s,digitB c=true):Lib.atoi s=some (valS s):=by
 cases s with
 |nil=>exact absurd rfl h0
 |cons c r=>
  obtain⟨m,e1,e2⟩:=BD (c::r) 0 h;obtain⟨_,d1,d2⟩:=xZ (h c (List.mem_cons_self ..));have n1:¬(c==45)=true:=λq=>(by have e:c=45:=(by simpa using q);subst e;exact absurd d1 (by decide));have n2:¬(c==43)=true:=λq=>(by have e:c=43:=(by simpa using q);subst e;exact absurd d1 (by decide));show(if(c==45)=true then(Lib.decNat r).map (λm:Nat=> -(m:Int))else if(c==43)=true then(Lib.decNat r).map (λm:Nat=>(m:Int))else(Lib.decNat (c::r)).map (λm:Nat=>(m:Int)))=some (valS (c::r));rw[if_neg n1,if_neg n2];unfold Lib.decNat;rw[if_neg (by simp),e1,Option.map_some,e2];rfl
theorem BE{s:aJ}(h:xI s)(hd:digitB (s[0]?.getD 0)=true):s.length<=3/\∀c∈s,digitB c=true:=by
 obtain⟨h0,h1⟩:=h;cases s with
 |nil=>exact absurd rfl h0
 |cons c r=>
  have hd:digitB c=true:=hd;obtain⟨_,d1,d2⟩:=xZ hd;have nl:¬letterB c=true:=λq=>by
   rw[uJ]at q;simp only[Bool.and_eq_true,decide_eq_true_eq]at q;omega
  have n36:¬c=36:=λq=>by subst q;exact absurd d1 (by decide)
  rw[jG,if_neg nl,if_neg n36,if_pos hd]at h1;by_cases q:runP digitB (c::r)<=3
  ·rw[if_pos q]at h1;refine⟨by omega,λx hx=>?_⟩;obtain⟨i,hi,rfl⟩:=List.getElem_of_mem hx;exact runP_all hi (by omega)
  ·rw[if_neg q]at h1;simp at h1
theorem Se{s:aJ}(h:xI s):s.length<=17:=by
 obtain⟨h0,h1⟩:=h;cases s with
 |nil=>simp
 |cons c r=>
  rw[<-h1,jG];have hw:∀t:aJ,wordN t<=16:=λt=>by
   rcases Nat.eq_zero_or_pos (wordN t)with q|q
   ·omega
   ·obtain⟨_,_,_,_,_,q2⟩:=oO q;exact q2
  have a1:=hw (c::r);have a2:=hw r;repeat' split
  all_goals omega
theorem jI{p:PS}(h:bB p.l):p.peek.length<=17:=by
 by_cases q:p.peek=[]
 ·rw[q];simp
 ·exact Se (oQ h q)
theorem Sf(s:aJ)(n:Int)(hl:s.length<=18)(h:Lib.atoi s=some n):Ok Tryz.prog 163 [.str s] ⟨.tup [.d (aH n),.d (.val .nilIface)],true⟩:=by
 refine⟨⟨_,Tryz.func163,by kernel_rfl,rfl⟩,λw X vs hX hr=>?_⟩
 match vs,hr.1 with
 |[u],_=>
  have h1:=hr.2 0 _ _ rfl rfl;cases h1;refine(Go.Proofs.Any.strconv_Atoi Tryz.atoiLay ⟨s.toArray⟩ n (by simpa [ByteArray.size]using hl) (by simpa using h) w).mono ?_;rintro e w' ⟨rfl,t,rfl⟩;refine⟨_,rfl,?_,?_⟩
  ·refine⟨by unfold Lib.bytesWorld World.freeze;split<;>rfl,by unfold Lib.bytesWorld World.freeze;split<;>rfl,by unfold Lib.bytesWorld World.freeze;split<;>rfl,by rw[Lib.bytesWorld_size];omega,λk hk=>Lib.bytesWorld_at_old _ _ _ k hk,?_⟩;unfold Lib.bytesWorld World.freeze;split<;>exact Nat.le_succ w.drawn
  ·refine⟨[.int .i64 n,.nilIface],λ_=>none,rfl,rfl,λ_ _ _ q=>(by cases q),λi r v hi hv=>?_⟩
   match i,hi with
   |0,hi=>cases hi;cases hv;exact .int _ _
   |1,hi=>cases hi;cases hv;exact .val _ rfl
theorem Cp(s t:aJ)(hl:s.length<=9223372036854775807)(ht:t.length<=9223372036854775807):Ok Tryz.prog 227 [.str s,.str t] ⟨.tup [.d (.str (if s.take t.length=t then s.drop t.length else s)),.d (.bool (decide (s.take t.length=t)))],true⟩:=by
 refine Ok.two Tryz.func227 (by kernel_rfl) (c:=_) rfl Tryz.ntmps227 (by simp) Tryz.results227 rfl λw0 X hp=>?_;refine aA ?_;simp;refine aD ?_;refine aD ?_;have h:=tU s t hl ht;refine eO.ro hT hW (λ|8=>some<| .plain ⟨.d (.bool (decide (s.take t.length=t))),true⟩|_=>none) ?_;simp;refine⟨h,?_⟩;refine aC ?_;simp;refine⟨λh1=>?_,λh1=>?_⟩
 ·refine aA ?_;simp;refine aF ?_;simp;exact⟨λq=>absurd q h1,h1⟩
 ·refine aE ?_;simp;refine aD ?_;have hle:t.length<=s.length:=by have e:=congrArg List.length h1;rw[List.length_take]at e;omega
  refine aM ?_;simp;refine⟨by omega,?_⟩;refine aF ?_;simp;exact⟨λq=>absurd h1 q,h1⟩
theorem EO(s t:aJ)(hl:s.length<=9223372036854775807)(ht:t.length<=9223372036854775807):Ok Tryz.prog 209 [.str s,.str t] ⟨.tup [.d (.str (if s.take t.length=t then s.drop t.length else s)),.d (.bool (decide (s.take t.length=t)))],true⟩:=by
 refine Ok.two Tryz.func209 (by kernel_rfl) (c:=_) rfl Tryz.ntmps209 (by simp) Tryz.results209 rfl λw0 X hp=>?_;refine aA ?_;simp;refine aD ?_;have h:=Cp s t hl ht;refine eO.ro hT hW (λ|8=>some<| .plain ⟨.tup [.d (.str (if s.take t.length=t then s.drop t.length else s)),.d (.bool (decide (s.take t.length=t)))],true⟩|_=>none) ?_;simp[aR];refine⟨h,?_⟩;refine aF ?_;simp
theorem gX{p:PS}(h:p.peek.take 1=[36]):p.peek=36::p.peek.drop 1/\localP p=(p.peek.drop 1,p.took p.peek):=by
 cases e:p.peek with
 |nil=>rw[e]at h;cases h
 |cons c r=>
  rw[e]at h;have hc:c=36:=by simpa using h
  subst hc;have hi:p.is (36::r)=true:=dO.2 ⟨by simp,e⟩;refine⟨rfl,?_⟩;rw[bQ hi];unfold localP;rw[e];rfl
theorem kI{p:PS}(h:¬p.peek.take 1=[36]):localP p=([],p.fail 2):=by
 unfold localP;split
 ·rename_i r e;rw[e]at h;exact absurd rfl h
 ·rfl
theorem EP{k:Int}{p:PS}(h:p.peek=[]\/digitB (p.peek[0]?.getD 0)=false):numeralP k p=(0,p.fail 2):=by
 unfold numeralP;split
 ·rfl
 ·rename_i c r e;rw[e]at h;rcases h with h|h
  ·cases h
  ·have h:digitB c=false:=h;rw[if_neg (by simp[h])]
theorem EQ{k:Int}{p:PS}(h0:¬p.peek=[])(h1:digitB (p.peek[0]?.getD 0)=true)(h2:valS p.peek<loAt k\/hiAt k<valS p.peek):numeralP k p=(0,p.fail 5):=by
 unfold numeralP;split
 ·rename_i e;exact absurd e h0
 ·rename_i c r e;rw[e]at h1 h2;have h1:digitB c=true:=h1;rw[if_pos h1,if_pos h2]
theorem Jp{k:Int}{p:PS}(h0:¬p.peek=[])(h1:digitB (p.peek[0]?.getD 0)=true)(h2:¬(valS p.peek<loAt k\/hiAt k<valS p.peek)):numeralP k p=(valS p.peek,p.took p.peek):=by
 have hi:p.is p.peek=true:=dO.2 ⟨h0,rfl⟩;rw[bQ hi];unfold numeralP;split
 ·rename_i e;exact absurd e h0
 ·rename_i c r e;rw[e]at h1 h2;have h1:digitB c=true:=h1;rw[if_pos h1,if_neg h2,e]
theorem wH(p:PS)(hg:bB p.l):jA Tryz.prog 184 [.bx 0 0] (cS p) (cS (localP p).2) (.d (.str (localP p).1)):=by
 unfold cS;refine iI Tryz.func184 rfl Tryz.ntmps184 Tryz.results184 λw0 X hp=>?_;refine aA ?_;simp;refine aD ?_;have hk:=jI hg;have hc:=EO p.peek [36] (by omega) (by decide);refine eO.ro hT hW (λ|7=>some (.gen ⟨[(0,0)],[],[],cS p,.d (.str p.peek)⟩)|8=>some<| .plain ⟨.tup [.d (.str (if p.peek.take 1=[36]then p.peek.drop 1 else p.peek)),.d (.bool (decide (p.peek.take 1=[36])))],true⟩|_=>none) ?_;simp[aR];refine⟨⟨jH p,by simpa using hc⟩,?_⟩;refine aD ?_;refine aA ?_;simp;refine aC ?_;simp;refine⟨λh2=>?_,λh2=>?_⟩
 ·refine aX hT hW (λ|14=>some (.gen ⟨[(0,0)],[],[],cS (p.fail 2),.tup []⟩)|_=>none) ?_;simp;refine⟨tG p 2,?_⟩;refine aA ?_;simp;refine aF ?_;simp;exact aB hp [2] [(0,0)] (by simp[kI h2]) (by simp[kI h2])
 ·refine aE ?_;simp;refine aD ?_;obtain⟨e1,e2⟩:=gX h2;have e3:36::p.peek.tail=p.peek:=by rw[<-List.drop_one];exact e1.symm
  have ht:=gP p p.peek;have hl3:=congrArg List.length e3;refine eO.ro hT hW (λ|18=>some (.gen ⟨[(0,0)],[],[],cS (p.took p.peek),.d (.bool (p.is p.peek))⟩)|_=>none) ?_;simp[h2];refine⟨⟨by simp at hl3;omega,by rw[e3];exact ht⟩,?_⟩;refine aA ?_;simp;refine aF ?_;simp;exact aB hp [2] [(0,0)] (by simp[h2,e2]) (by simp[e2])
theorem mZ(p:PS)(k:Int)(hg:bB p.l)(hk:0<=k/\k<37):jA Tryz.prog 128 [.bx 0 0,.d (aH k)] (cS p) (cS (numeralP k p).2) (.d (aH (numeralP k p).1)):=by
 unfold cS;refine iI Tryz.func128 rfl Tryz.ntmps128 Tryz.results128 λw0 X hp=>?_;refine aA ?_;simp;refine aX hT hW (λ|9=>some (.gen ⟨[(0,0)],[],[],cS p,.d (.str p.peek)⟩)|_=>none) ?_;simp;refine⟨jH p,?_⟩;refine aD ?_;refine aD ?_;have hd:=rN (p.peek[0]?.getD 0);refine eO.ro hT hW (λ|15=>some<| .plain ⟨.d (.bool (digitB (p.peek[0]?.getD 0))),true⟩|_=>none) ?_;simp;refine⟨⟨λh=>List.length_pos_iff.2 h,λ_=>hd⟩,?_⟩;refine aC ?_;simp;refine⟨λg=>?_,λg1 g2=>?_⟩
 ·refine aX hT hW (λ|19=>some (.gen ⟨[(0,0)],[],[],cS (p.fail 2),.tup []⟩)|_=>none) ?_;simp;refine⟨tG p 2,?_⟩;refine aA ?_;simp;refine aF ?_;simp;have e:=EP (k:=k) g;exact aB hp [4] [(0,0)] (by simp[e]) (by simp[e])
 ·refine aE ?_;simp;refine aD ?_;obtain⟨hl,hds⟩:=BE (oQ hg g1) g2;have ha:=Sf p.peek (valS p.peek) (by omega) (GO g1 hds);refine eO.ro hT hW (λ|22=>some<| .plain ⟨.tup [.d (aH (valS p.peek)),.d (.val .nilIface)],true⟩|_=>none) ?_;simp[aR];refine⟨ha,?_⟩;refine aD ?_;refine aD ?_;have hg1:=GB hk;have hg2:=GC hk;have hg3:=Dk;refine aM ?_;simp[hg1,hg2];refine⟨⟨⟨⟨hk,by omega⟩,λ_=>hk⟩,λ_=>by omega⟩,?_⟩;refine aC ?_;simp;refine⟨λb=>?_,λb1 b2=>?_⟩
  ·refine aX hT hW (λ|40=>some (.gen ⟨[(0,0)],[],[],cS (p.fail 5),.tup []⟩)|_=>none) ?_;simp;refine⟨tG p 5,?_⟩;refine aA ?_;simp;refine aF ?_;simp;have e:=EQ (k:=k) g1 g2 b;exact aB hp [4] [(0,0)] (by simp[e]) (by simp[e])
  ·refine aE ?_;simp;refine aX hT hW (λ|43=>some (.gen ⟨[(0,0)],[],[],cS (p.took p.peek),.d (.bool (p.is p.peek))⟩)|_=>none) ?_;simp;refine⟨gP p p.peek,?_⟩;refine aA ?_;simp;refine aF ?_;simp;have e:=Jp (k:=k) g1 g2 (by omega);exact aB hp [4] [(0,0)] (by simp[e]) (by simp[e])
theorem MR{k:Int}{p:PS}(h:bB p.l)(hk:loAt k<=0/\0<=hiAt k/\ -999<=loAt k/\hiAt k<=999): -999<=(numeralP k p).1/\(numeralP k p).1<=999:=by
 by_cases q1:p.peek=[]\/digitB (p.peek[0]?.getD 0)=false
 ·rw[EP q1];simp
 ·have q2:¬p.peek=[]:=λe=>q1 (.inl e);have q3:digitB (p.peek[0]?.getD 0)=true:=by
   cases e:digitB (p.peek[0]?.getD 0)with
   |true=>rfl
   |false=>exact absurd (.inr e) q1
  by_cases q4:valS p.peek<loAt k\/hiAt k<valS p.peek
  ·rw[EQ q2 q3 q4];simp
  ·rw[Jp q2 q3 q4];simp only;omega
theorem Jq{p:PS}(h:p.is [45]=true):numberP p=(-(numeralP 0 (p.took [45])).1,(numeralP 0 (p.took [45])).2):=by
 rw[bQ h];unfold numberP;rw[if_pos h]
theorem Jr{p:PS}(h:p.is [45]=false):numberP p=numeralP 0 (p.took [45]):=by
 have h':¬p.is [45]=true:=by simp[h]
 rw[fB h'];unfold numberP;rw[if_neg h']
theorem dC{p:PS}{s:aJ}(h:bB p.l):bB (p.took s).l:=by
 unfold PS.took;split
 ·exact cN h
 ·exact h
theorem Dw(p:PS)(hg:bB p.l):jA Tryz.prog 127 [.bx 0 0] (cS p) (cS (numberP p).2) (.d (aH (numberP p).1)):=by
 unfold cS;refine iI Tryz.func127 rfl Tryz.ntmps127 Tryz.results127 λw0 X hp=>?_;refine aA ?_;simp;refine aD ?_;refine aX hT hW (λ|4=>some (.gen ⟨[(0,0)],[],[],cS (p.took [45]),.d (.bool (p.is [45]))⟩)|_=>none) ?_;simp;refine⟨gP p [45],?_⟩;refine aC ?_;simp;refine⟨λh1=>?_,λh1=>?_⟩
 ·refine aD ?_;have hn:=mZ (p.took [45]) 0 (dC hg) (by decide);have hr:=MR (k:=0) (dC (s:=[45]) hg) (by decide);refine eO.ro hT hW (λ|6=>some (.gen ⟨[(0,0)],[],[],cS (numeralP 0 (p.took [45])).2,.d (aH (numeralP 0 (p.took [45])).1)⟩)|_=>none) ?_;simp;refine⟨⟨hn,by omega⟩,?_⟩;refine aF ?_;simp;have e:=Jq h1;exact aB hp [2] [(0,0)] (by simp[e]) (by simp[e])
 ·refine aE ?_;simp;refine aD ?_;have hn:=mZ (p.took [45]) 0 (dC hg) (by decide);refine eO.ro hT hW (λ|9=>some (.gen ⟨[(0,0)],[],[],cS (numeralP 0 (p.took [45])).2,.d (aH (numeralP 0 (p.took [45])).1)⟩)|_=>none) ?_;simp;refine⟨hn,?_⟩;refine aF ?_;simp;have e:=Jr h1;exact aB hp [2] [(0,0)] (by simp[e]) (by simp[e])
end
section
attribute[local simp] hZ.cond Nd.d_eq nd_t nd_dr nd_td ndsD aO bH cI
def dH(s:aJ)(T:List Tk)(p:PS):List (Nat×aP):=[(0,.box false [.d (.str s),.d (.sl (T.map Tk.r)),.d (aH ((T.length:Int)- p.l.length)),.d (.bool (!decide (p.e=0))),.d (.bool (decide (p.e=5)))])]
attribute[local simp] dH
structure zE(s:aJ)(T:List Tk):Prop where
 hs:s.length<=1024
 ht:T.length<=1024
 hi:∀t∈T,WJ s t
 hg:bB T
structure iY(T:List Tk)(p:PS):Prop where
 suf:p.l<:+T
 err:p.e=0\/p.e=2\/p.e=5
theorem iY.le{T:List Tk}{p:PS}(h:iY T p):p.l.length<=T.length:=h.suf.length_le
theorem iY.good{s:aJ}{T:List Tk}{p:PS}(h:iY T p)(c:zE s T):bB p.l:=λt ht=>c.hg t (h.suf.mem ht)
theorem iY.fail{T:List Tk}{p:PS}{e:Int}(h:iY T p)(he:e=2\/e=5):iY T (p.fail e):=by
 refine⟨by rw[lD];exact h.suf,?_⟩;unfold PS.fail;split
 ·exact .inr he
 ·exact h.err
theorem iY.skip{T:List Tk}{p:PS}(h:iY T p):iY T p.skip:=⟨(List.tail_suffix _).trans h.suf,h.err⟩
theorem iY.took{T:List Tk}{p:PS}{w:aJ}(h:iY T p):iY T (p.took w):=by
 unfold PS.took;split
 ·exact h.skip
 ·exact h
theorem iY.need{T:List Tk}{p:PS}{w:aJ}(h:iY T p):iY T (p.need w):=by
 unfold PS.need;split
 ·exact h.skip
 ·exact h.fail (.inl rfl)
theorem iY.name{T:List Tk}{p:PS}(h:iY T p):iY T (nameP p).2:=by
 unfold nameP;split
 ·exact h.skip
 ·exact h.fail (.inl rfl)
theorem iY.local{T:List Tk}{p:PS}(h:iY T p):iY T (localP p).2:=by
 unfold localP;split
 ·exact h.skip
 ·exact h.fail (.inl rfl)
theorem iY.numeral{T:List Tk}{p:PS}{k:Int}(h:iY T p):iY T (numeralP k p).2:=by
 unfold numeralP;split
 ·exact h.fail (.inl rfl)
 ·split
  ·split
   ·exact h.fail (.inr rfl)
   ·exact h.skip
  ·exact h.fail (.inl rfl)
theorem iY.number{T:List Tk}{p:PS}(h:iY T p):iY T (numberP p).2:=by
 unfold numberP;split
 ·exact h.skip.numeral
 ·exact h.numeral
theorem iY.place{T:List Tk}{p:PS}(h:iY T p):iY T (placeP p).2:=by
 unfold placeP;split
 ·exact h.name.skip.name
 ·exact h.name
theorem iY.at{T:List Tk}{p:PS}{t:Tk}{r:List Tk}(h:iY T p)(hl:p.l=t::r):∃n:Nat,(T.length:Int)- p.l.length=n/\n<T.length/\T[n]? =some t/\t∈T:=by
 obtain⟨T0,rfl⟩:=h.suf;refine⟨T0.length,by simp,?_,?_,?_⟩
 ·rw[hl];simp
 ·rw[hl];simp
 ·rw[hl];simp
theorem jJ(s:aJ)(T:List Tk)(p:PS)(c:zE s T)(f:iY T p):jA Tryz.prog 136 [.bx 0 0] (dH s T p) (dH s T p) (.d (.str p.peek)):=by
 unfold dH;have hle:=f.le;refine iI Tryz.func136 rfl Tryz.ntmps136 Tryz.results136 λw0 X hp=>?_;refine aA ?_;simp;refine aD ?_;refine aD ?_;refine eO.rd [] [] (λ_=>none) ?_;simp;refine aC ?_;simp;refine⟨λg=>?_,λg1 g2=>?_⟩
 ·refine aA ?_;simp;refine aF ?_;simp;have e:p.peek=[]:=xY (g.imp id λz=>List.eq_nil_of_length_eq_zero (by omega));exact aB hp [2] [(0,0)] (by simp[e])
 ·refine aE ?_;simp;refine aD ?_;obtain⟨t,r,htr⟩:=List.exists_cons_of_ne_nil (l:=p.l) (λe=>by rw[e]at g2;simp at g2);obtain⟨n,hn,hnl,hn2,hm⟩:=f.at htr;obtain⟨a,ha,hal,hat⟩:=c.hi t hm;refine dT (yV [0] [(0,0)] (by decide) (by decide) (by simp[hp])) ?_;simp;refine eO.rd [] [] (λ_=>none) ?_;simp[hn,hn2,Tk.r,ha];refine⟨⟨hnl,by omega,by omega⟩,?_⟩;refine aF ?_;simp;exact aB hp [2] [(0,0)] (by simp[Dv g1 htr,KP,hat])
theorem wI{p:PS}:((p.fail 2).e=0)=False:=eq_false (fail_e (by decide))
theorem wJ{p:PS}:((p.fail 5).e=0)=False:=eq_false (fail_e (by decide))
theorem wK{p:PS}:((p.fail 2).e=5)=(p.e=5):=by
 unfold PS.fail;split
 ·rename_i h;simp[h]
 ·rfl
theorem Sg{p:PS}(h:p.e=0):((p.fail 5).e=5)=True:=by unfold PS.fail;rw[if_pos h];simp
theorem ER{p:PS}:p.skip.e=p.e:=rfl
attribute[local simp] wI wJ wK lD ER
theorem qC{T:List Tk}{p:PS}(h:p.peek≠[]):(T.length:Int)- p.skip.l.length=(T.length:Int)- p.l.length+1:=by
 have:=oP h;omega
theorem PX{p:PS}(h:p.peek≠[]):p.e=0:=Classical.byContradiction λq=>h (xY (.inl q))
theorem iY.pos{T:List Tk}{p:PS}(f:iY T p)(h:p.peek≠[]):0<=(T.length:Int)- p.l.length/\(T.length:Int)- p.l.length<T.length:=by
 have:=oP h;have:=f.le;omega
theorem uU(s:aJ)(T:List Tk)(p:PS)(c:zE s T)(f:iY T p)(w:aJ)(hw:w≠[]):jA Tryz.prog 172 [.bx 0 0,.d (.str w)] (dH s T p) (dH s T (p.took w)) (.d (.bool (p.is w))):=by
 unfold dH;have hle:=f.le;have htt:=c.ht;refine iI Tryz.func172 rfl Tryz.ntmps172 Tryz.results172 λw0 X hp=>?_;refine aA ?_;simp;refine aD ?_;refine aX hT hW (λ|6=>some (.gen ⟨[(0,0)],[],[],dH s T p,.d (.str p.peek)⟩)|_=>none) ?_;simp;refine⟨jJ s T p c f,?_⟩;refine aC ?_;simp;refine⟨λh1=>?_,λh1=>?_⟩
 ·refine aA ?_;simp;refine aF ?_;simp;have hn:¬p.is w=true:=λq=>h1 (dO.1 q).2;exact aB hp [4] [(0,0)] (by simp[hn]) (by simp[fB hn])
 ·refine aE ?_;simp;refine aD ?_;have h1':p.peek≠[]:=λe=>hw (by rw[<-h1,e]);have hsk:=qC (T:=T) h1';have hps:=f.pos h1';refine aM ?_;simp;refine⟨by omega,?_⟩;refine aA ?_;simp;refine aF ?_;simp;have hn:p.is w=true:=dO.2 ⟨hw,h1⟩;exact aB hp [4] [(0,0)] (by simp[hn]) (by simp[bQ hn,hsk])
theorem oY(s:aJ)(T:List Tk)(p:PS)(c:zE s T)(f:iY T p)(w:aJ)(hw:w≠[]):jA Tryz.prog 138 [.bx 0 0,.d (.str w)] (dH s T p) (dH s T (p.need w)) (.tup []):=by
 unfold dH;refine pU Tryz.func138 rfl Tryz.ntmps138 Tryz.results138 λw0 X hp=>?_;refine aX hT hW (λ|6=>some (.gen ⟨[(0,0)],[],[],dH s T (p.took w),.d (.bool (p.is w))⟩)|_=>none) ?_;simp;refine⟨uU s T p c f w hw,?_⟩;refine aC ?_;simp;refine⟨λh0=>?_,λh0=>?_⟩
 ·have en:=GN h0;refine aM ?_;simp;exact aB hp [] [(0,0)] (hH:=by simp[en])
 ·have en:=EN h0;refine aE ?_;simp;exact aB hp [] [(0,0)] (hH:=by simp[en])
theorem rR(s:aJ)(T:List Tk)(p:PS)(c:zE s T)(f:iY T p):jA Tryz.prog 137 [.bx 0 0] (dH s T p) (dH s T (nameP p).2) (.d (.str (nameP p).1)):=by
 unfold dH;have hle:=f.le;have htt:=c.ht;have htl:=jI (f.good c);refine iI Tryz.func137 rfl Tryz.ntmps137 Tryz.results137 λw0 X hp=>?_;refine aA ?_;simp;refine aX hT hW (λ|5=>some (.gen ⟨[(0,0)],[],[],dH s T p,.d (.str p.peek)⟩)|_=>none) ?_;simp;refine⟨jJ s T p c f,?_⟩;refine aD ?_;refine aX hT hW (λ|7=>some<| .plain ⟨.d (.bool (isNameB p.peek)),true⟩|_=>none) ?_;simp;refine⟨Jm p.peek (by omega),?_⟩;refine aC ?_;simp;refine⟨λh2=>?_,λh2=>?_⟩
 ·refine aA ?_;simp;refine aA ?_;simp;refine aF ?_;simp;exact aB hp [2] [(0,0)] (by simp[mY h2]) (by simp[mY h2])
 ·refine aE ?_;simp;refine aD ?_;have h1':p.peek≠[]:=λe=>by rw[e]at h2;cases h2
  have hsk:=qC (T:=T) h1';have hps:=f.pos h1';have hn:p.is p.peek=true:=dO.2 ⟨h1',rfl⟩;refine aM ?_;simp;refine⟨by omega,?_⟩;refine aA ?_;simp;refine aF ?_;simp;exact aB hp [2] [(0,0)] (by simp[qB h2]) (by simp[qB h2,bQ hn,hsk])
theorem Sh{s:aJ}(h:∀c∈s,digitB c=true):0<=valS s:=by
 obtain⟨m,_,e⟩:=BD s 0 h;unfold valS;have e':(m:Int)=s.foldl (λn c=>10*n+((c.toNat:Int)- 48)) 0:=e;omega
theorem MS{p:PS}(hg:bB p.l)(h:p.peek.take 1=[36]):2<=p.peek.length:=by
 have hn:p.peek≠[]:=λe=>(by rw[e]at h;cases h);obtain⟨_,ht⟩:=oQ hg hn;obtain⟨e1,_⟩:=gX h;rw[e1,jG,if_neg (by decide),if_pos rfl]at ht;rw[e1];split at ht
 ·rename_i z;have:=vR (p.peek.drop 1);rw[List.length_cons]at ht|-;omega
 ·simp at ht
theorem Uk{w:aJ}:w.take 1=[36]↔(1<=w.length/\(((w[0]?.getD 0).toNat:Int))=36):=by
 cases w with
 |nil=>simp
 |cons c r=>
  have:=SX (c:=c);simp[this]
theorem oZ(s:aJ)(T:List Tk)(p:PS)(c:zE s T)(f:iY T p):jA Tryz.prog 221 [.bx 0 0] (dH s T p) (dH s T (localP p).2) (.d (.str (localP p).1)):=by
 unfold dH;have hle:=f.le;have htt:=c.ht;have hll:=MS (f.good c);refine iI Tryz.func221 rfl Tryz.ntmps221 Tryz.results221 λw0 X hp=>?_;refine aA ?_;simp;refine aX hT hW (λ|5=>some (.gen ⟨[(0,0)],[],[],dH s T p,.d (.str p.peek)⟩)|_=>none) ?_;simp;refine⟨jJ s T p c f,?_⟩;refine aD ?_;refine aA ?_;simp;refine⟨λh=>by omega,?_⟩;refine aC ?_;simp;refine⟨λg=>?_,λg1 g2=>?_⟩
 ·have g':¬p.peek.take 1=[36]:=λq=>by have:=hll q;have:=(Uk.1 q).2;omega
  refine aA ?_;simp;refine aA ?_;simp;refine aF ?_;simp;exact aB hp [2] [(0,0)] (by simp[kI g']) (by simp[kI g'])
 ·have g':p.peek.take 1=[36]:=Uk.2 ⟨by omega,g2⟩;refine aE ?_;simp;refine aD ?_;have h1':p.peek≠[]:=λe=>by rw[e]at g';cases g'
  have hsk:=qC (T:=T) h1';have hps:=f.pos h1';have hn:p.is p.peek=true:=dO.2 ⟨h1',rfl⟩;refine aM ?_;simp;refine⟨by omega,?_⟩;refine aA ?_;simp;refine⟨by omega,?_⟩;refine aF ?_;simp;exact aB hp [2] [(0,0)] (by simp[(gX g').2]) (by simp[(gX g').2,bQ hn,hsk])
theorem nT(s:aJ)(T:List Tk)(p:PS)(c:zE s T)(f:iY T p)(k lo hi:Int)(hlo:loAt k=lo\/(loAt k<=0/\lo=0))(hhi:hiAt k=hi):jA Tryz.prog 140 [.bx 0 0,.d (aH lo),.d (aH hi)] (dH s T p) (dH s T (numeralP k p).2) (.d (aH (numeralP k p).1)):=by
 unfold dH;have hle:=f.le;have htt:=c.ht;have htl:=jI (f.good c);refine iI Tryz.func140 rfl Tryz.ntmps140 Tryz.results140 λw0 X hp=>?_;refine aA ?_;simp;refine aX hT hW (λ|10=>some (.gen ⟨[(0,0)],[],[],dH s T p,.d (.str p.peek)⟩)|_=>none) ?_;simp;refine⟨jJ s T p c f,?_⟩;refine aD ?_;refine aD ?_;have hd:=Dr p.peek 0 (by omega);refine eO.ro hT hW (λ|12=>some<| .plain ⟨.d (.bool (firstIs digitB p.peek)),true⟩|_=>none) ?_;simp;refine⟨by simpa using hd,?_⟩;refine aC ?_;simp;refine⟨λh2=>?_,λh2=>?_⟩
 ·have g:p.peek=[]\/digitB (p.peek[0]?.getD 0)=false:=by cases e:p.peek with|nil=>exact .inl rfl|cons a r=>rw[e]at h2;exact .inr h2
  refine aA ?_;simp;refine aA ?_;simp;refine aF ?_;simp;have e:=EP (k:=k) g;exact aB hp [6] [(0,0)] (by simp[e]) (by simp[e])
 ·have g1:¬p.peek=[]:=λe=>by rw[e]at h2;cases h2
  have g2:digitB (p.peek[0]?.getD 0)=true:=by cases e:p.peek with|nil=>exact absurd e g1|cons a r=>rw[e]at h2;exact h2
  refine aE ?_;simp;refine aD ?_;obtain⟨hl,hds⟩:=BE (oQ (f.good c) g1) g2;have hc:=MO p.peek hl;have hv0:=Sh hds;refine eO.ro hT hW (λ|18=>some<| .plain ⟨.d (aH (valS p.peek)),true⟩|_=>none) ?_;simp;refine⟨hc,?_⟩;refine aD ?_;refine aA ?_;simp;refine aC ?_;simp;refine⟨λb=>?_,λb1 b2=>?_⟩
  ·refine aA ?_;simp;refine aA ?_;simp;refine aA ?_;simp;refine aF ?_;simp;have e:=EQ (k:=k) g1 g2 (by omega);exact aB hp [6] [(0,0)] (by simp[e]) (by simp[e,Sg (PX g1)])
  ·refine aE ?_;simp;refine aD ?_;have hsk:=qC (T:=T) g1;have hps:=f.pos g1;have hn:p.is p.peek=true:=dO.2 ⟨g1,rfl⟩;refine aM ?_;simp;refine⟨by omega,?_⟩;refine aA ?_;simp;refine aF ?_;simp;have e:=Jp (k:=k) g1 g2 (by omega);exact aB hp [6] [(0,0)] (by simp[e]) (by simp[e,bQ hn,hsk])
end
section
attribute[local simp] hZ.cond Nd.d_eq nd_t nd_dr nd_td ndsD aO bH jQ cS cI
theorem Dx{p:PS}(h:(nameP p).2.is [46]=true):placeP p=(.mk 35 ((nameP p).1++46::(nameP ((nameP p).2.took [46])).1) 0 [],(nameP ((nameP p).2.took [46])).2):=by
 rw[bQ h];unfold placeP;rw[if_pos h]
theorem zF{p:PS}(h:(nameP p).2.is [46]=false):placeP p=(.mk 34 (nameP p).1 0 [],(nameP p).2.took [46]):=by
 have h':¬(nameP p).2.is [46]=true:=by simp[h]
 rw[fB h'];unfold placeP;rw[if_neg h']
theorem lV{p:PS}(h:bB p.l):(nameP p).1.length<=17:=by
 unfold nameP;split
 ·exact jI h
 ·simp
theorem GP(p:PS)(hg:bB p.l):jA Tryz.prog 185 [.bx 0 0] (cS p) (cS (placeP p).2) (.d (placeP p).1.d):=by
 unfold cS;refine fK Tryz.func185 rfl Tryz.ntmps185 Tryz.results185 λw0 X hp=>?_;refine aA ?_;simp;refine aX hT hW (λ|5=>some (.gen ⟨[(0,0)],[],[],cS (nameP p).2,.d (.str (nameP p).1)⟩)|_=>none) ?_;simp;refine⟨wG p,?_⟩;refine aD ?_;refine aX hT hW (λ|8=>some (.gen ⟨[(0,0)],[],[],cS ((nameP p).2.took [46]),.d (.bool ((nameP p).2.is [46]))⟩)|_=>none) ?_;simp;refine⟨gP (nameP p).2 [46],?_⟩;refine aC ?_;simp;refine⟨λh2=>?_,λh2=>?_⟩
 ·have l1:=lV hg;have l2:=lV (p:=(nameP p).2.took [46]) (dC (cP hg).2.1);refine eO.rd [[0],[0],[0]] [[],[],[],[],[0],[],[],[3]] (λ|13=>some (.gen ⟨[(0,0)],[],[],cS (nameP ((nameP p).2.took [46])).2,.d (.str (nameP ((nameP p).2.took [46])).1)⟩)|_=>none) ?_;simp;refine⟨⟨⟨by omega,wG _⟩,by omega⟩,?_⟩;refine aA ?_;simp;refine aF ?_;simp;have e:=Dx h2;refine aU (x:=(placeP p).1.d) (by simp[e]) ?_;simp;exact aB hp [0] [(0,0)] (hH:=by simp[e])
 ·refine aE ?_;simp;refine aA ?_;simp;refine aF ?_;simp;have e:=zF h2;refine aU (x:=(placeP p).1.d) (by simp[e]) ?_;simp;exact aB hp [0] [(0,0)] (hH:=by simp[e])
def UD(o:aJ×Int):DV:=.agg [.str o.1,aH o.2]
theorem Js:iA 6 2 yH=opsL.map UD:=by kernel_rfl
def Si(p:PS)(lv:Int):List (Nat×aP):=[(0,.box false [.d (jQ p.l),.d (aH p.e)]),(1,.box false [.d (aH lv)]),(2,.box false [.bx 0 0])]
def Sj(p:PS)(lv:Int)(o:aJ×Int):Bool:=decide (o.2=lv)&&decide (o.1=p.peek)
attribute[local simp] Si UD
theorem TM(p:PS)(lv:Int)(o:aJ×Int):jA Tryz.prog 226 [.d (UD o),.bx 1 0,.bx 2 0] (Si p lv) (Si p lv) (.d (.bool (Sj p lv o))):=by
 unfold Si;refine iI Tryz.func226 rfl Tryz.ntmps226 Tryz.results226 λw0 X hp=>?_;refine aA ?_;simp;refine aD ?_;refine eO.rd [[],[],[],[],[],[0],[0]] [[],[],[],[],[],[],[],[],[0]] (λ|13=>some (.gen ⟨[(0,0)],[],[],cS p,.d (.str p.peek)⟩)|_=>none) ?_;simp;refine⟨λ_=>jH p,?_⟩;refine aF ?_;simp;by_cases hq:o.2=lv
 ·exact aB hp [4] [(0,0),(1,1),(2,2)] (by simp[hq,Sj,Bool.beq_eq_decide_eq]) (by simp[hq])
 ·exact aB hp [4] [(0,0),(1,1),(2,2)] (by simp[hq,Sj]) (by simp[hq])
theorem Jt(p:PS)(lv:Int)(l:List (aJ×Int)):jA Tryz.prog 225 [.d (.sl (l.map UD)),.fn 226 [.bx 1 0,.bx 2 0]] (Si p lv) (Si p lv) (.d (aH (lE (Sj p lv) l))):=by
 unfold Si;refine iI Tryz.func225 rfl Tryz.ntmps225 Tryz.results225 λw0 X hp=>?_;refine eO.len (t:=0) rfl λhlen=>?_;simp at hlen;refine aA ?_;simp;refine aD ?_;refine aA ?_;simp;refine aL ?_;refine aS (ι:=Nat) (λi=>aQ [(0,.d (.sl (l.map UD))),(1,.fn 226 [.bx 1 0,.bx 2 0]),(7,.d (aH l.length)),(8,.d (aH i))]) (λi=>aG [(0,.box false [.d (jQ p.l),.d (aH p.e)]),(1,.box false [.d (aH lv)]),(2,.box false [.bx 0 0])]) (λi=>i<=l.length/\Rg (Sj p lv) l i) (λi=>l.length-i) 0 (aB hp [0,1,7,8] [(0,0),(1,1),(2,2)]) (⟨Nat.zero_le _,Rg.zero⟩) λi hi2=>?_;refine aA ?_;simp;refine aD ?_;refine aC ?_;simp;refine⟨λh2=>?_,λh2=>?_⟩
 ·refine aE ?_;simp;refine aD ?_;refine aL ?_;refine aA ?_;simp;refine aD ?_;have h2':i<l.length:=by omega
  have ho:=TM p lv l[i];refine eO.ro hT hW (λ|16=>some (.gen ⟨[(0,0),(1,1),(2,2)],[],[],Si p lv,.d (.bool (Sj p lv l[i]))⟩)|_=>none) ?_;simp[h2',dE];refine⟨ho,?_⟩;refine aC ?_;simp;refine⟨λh4=>?_,λh4=>?_⟩
  ·refine aA ?_;simp;refine aF ?_;simp;exact aB hp [4] [(0,0),(1,1),(2,2)] (by simp[sX (hi2.2.found h2 h4)])
  ·refine aE ?_;simp;refine aM ?_;simp;refine⟨by omega,?_⟩;refine Ks.mk (i+1) (aB hp [0,1,7,8] [(0,0),(1,1),(2,2)]) ?_ ?_
   ·exact⟨h2,hi2.2.succ h2 h4⟩
   ·omega
 ·refine bT ?_;simp;refine aA ?_;simp;refine aF ?_;simp;exact aB hp [4] [(0,0),(1,1),(2,2)] (by simp[sY (hi2.2.none (by omega))])
theorem PY(q:aJ×Int->Bool):(List.range 6).find? (λi=>q (opsL.getD i ([],0)))=opsL.findIdx? q:=by
 rw[show List.range 6=[0,1,2,3,4,5] from rfl];unfold opsL;simp only[List.find?_cons,List.findIdx?_cons,List.getD_cons_zero,List.getD_cons_succ,List.find?_nil,List.findIdx?_nil];cases q ([60],1)<;>cases q ([60,61],1)<;>cases q ([61,61],1)<;>cases q ([43],2)<;>cases q ([45],2)<;>cases q ([42],3)<;>rfl
theorem KQ(p:PS)(lv:Int):opI lv p.peek=lE (Sj p lv) opsL:=by
 unfold opI lE;rw[<-PY (Sj p lv)];rfl
def Sk(l:List (aJ×Int)):List DV:=l.flatMap λo=>[.str o.1,aH o.2]
theorem PZ:yH=Sk opsL:=by kernel_rfl
theorem KR:∀(l:List (aJ×Int)) (k:Nat) (h:k<l.length),(Sk l)[k*2]?.getD default=.str l[k].1
 |o::l,0,_=>rfl
 |o::l,k+1,h=>by
  have ih:=KR l k (by simpa using h);have e:Sk (o::l)=.str o.1::aH o.2::Sk l:=rfl;rw[e,show(k+1)*2=k*2+1+1 by omega];exact ih
theorem qD{p:PS}{lv:Int}(h:0<=opI lv p.peek):yH[(opI lv p.peek).toNat*2]?.getD default=.str p.peek/\p.is p.peek=true/\opI lv p.peek<6:=by
 rw[KQ]at h|-;unfold lE at h|-;split at h
 ·rename_i i hi;obtain⟨h1,h2,_⟩:=List.findIdx?_eq_some_iff_getElem.1 hi;simp only[Sj,Bool.and_eq_true,decide_eq_true_eq]at h2;have hne:∀o∈opsL,o.1≠[]:=by decide
  have hn:=hne _ (List.getElem_mem h1);rw[PZ,Int.toNat_natCast,KR opsL i h1,h2.2];rw[h2.2]at hn;have:i<6:=h1;exact⟨rfl,dO.2 ⟨hn,rfl⟩,by omega⟩
 ·omega
theorem uV{p:PS}{lv:Int}(h:0<=opI lv p.peek):opP lv p=(opI lv p.peek,p.took p.peek):=by
 rw[bQ (qD h).2.1];unfold opP;rw[if_pos h]
theorem Dy{p:PS}{lv:Int}(h:opI lv p.peek<0):opP lv p=(opI lv p.peek,p):=by
 unfold opP;rw[if_neg (by omega)]
theorem wL(p:PS)(lv:Int):jA Tryz.prog 208 [.bx 0 0,.d (aH lv)] (cS p) (cS (opP lv p).2) (.d (aH (opP lv p).1)):=by
 unfold cS;refine iI Tryz.func208 rfl Tryz.ntmps208 Tryz.results208 λw0 X hp=>?_;refine aA ?_;simp;refine aD ?_;have ho:=Jt p lv opsL;have hgl:=xM;rw[<-KQ]at ho;refine eO.ro hT hW (λ|8=>some (.gen ⟨[(0,0),(3,1),(2,2)],[],[],Si p lv,.d (aH (opI lv p.peek))⟩)|_=>none) ?_;simp[Js];refine⟨⟨by omega,ho⟩,?_⟩;refine aD ?_;refine aA ?_;simp;refine aC ?_;simp;refine⟨λh2=>?_,λh2=>?_⟩
 ·have eo:=uV h2;obtain⟨s1,s2,s3⟩:=qD h2;refine eO.rd [] [[],[],[],[],[],[0]] (λ|16=>some (.gen ⟨[(0,0)],[],[],cS (p.took p.peek),.d (.bool (p.is p.peek))⟩)|_=>none) ?_;simp[s1];refine⟨⟨⟨⟨h2,s3⟩,by omega⟩,gP p p.peek⟩,?_⟩;refine aA ?_;simp;refine aF ?_;simp;exact aB hp [4] [(0,0)] (by simp[eo]) (by simp[eo])
 ·have eo:=Dy h2;refine aE ?_;simp;refine aA ?_;simp;refine aF ?_;simp;exact aB hp [4] [(0,0)] (by simp[eo]) (by simp[eo])
end
section
attribute[local simp] hZ.cond Nd.d_eq nd_t nd_dr nd_td ndsD aO bH jQ cS cI
structure jT(n:Nat)(g:FuncId)(x:PS->Nd×PS):Prop where
 ok:∀q:PS,q.l.length<n->bB q.l->jA Tryz.prog g [.bx 0 0] (cS q) (cS (x q).2) (.d (x q).1.d)
 le:∀q:PS,q.l.length<n->bB q.l->(x q).2.l.length<=q.l.length/\bB (x q).2.l
structure Vi where
 f:Nat
 n:Nd
 q:PS
theorem Dz{lv:Int}{x:PS->Nd×PS}{f:Nat}{n:Nd}{q:PS}(hf:q.l.length<f)(h:¬q.e=0):chainF lv x f n q=(n,q):=by
 obtain⟨k,rfl⟩:∃k,f=k+1:=⟨f-1,by omega⟩;rw[chainF,if_pos h]
theorem BF{lv:Int}{x:PS->Nd×PS}{f:Nat}{n:Nd}{q:PS}(hf:q.l.length<f)(h:q.e=0)(ho:(opP lv q).1<0):chainF lv x f n q=(n,(opP lv q).2):=by
 obtain⟨k,rfl⟩:∃k,f=k+1:=⟨f-1,by omega⟩;rw[chainF,if_neg (by simp[h]),if_pos ho]
theorem GQ{lv:Int}{x:PS->Nd×PS}{f:Nat}{n:Nd}{q:PS}(hf:q.l.length<f)(h:q.e=0)(ho:0<=(opP lv q).1):
 chainF lv x f n q=chainF lv x (f-1) (.mk (26+(opP lv q).1) [] 0 [n,(x (opP lv q).2).1]) (x (opP lv q).2).2:=by
 obtain⟨k,rfl⟩:∃k,f=k+1:=⟨f-1,by omega⟩;rw[chainF,if_neg (by simp[h]),if_neg (by omega)];rfl
theorem Ak{lv:Int}{q:PS}(ho:0<=(opP lv q).1):(opP lv q).2.l.length+1=q.l.length/\(opP lv q).1<=5:=by
 have h:0<=opI lv q.peek:=ho;obtain⟨_,h2,h3⟩:=qD h;rw[uV h,bQ h2];exact⟨eS h2,by simp only;omega⟩
theorem GR(p:PS)(lv:Int)(x:PS->Nd×PS)(g:FuncId)(m:Nat)(hx:jT m g x)(hm:p.l.length<m)(hg:bB p.l):jA Tryz.prog 223 [.bx 0 0,.d (aH lv),.bm g [.bx 0 0]] (cS p) (cS (chainP lv x p).2) (.d (chainP lv x p).1.d):=by
 unfold cS;refine fK Tryz.func223 rfl Tryz.ntmps223 Tryz.results223 λw0 X hp=>?_;refine aA ?_;simp;refine aD ?_;have h1:=hx.ok p hm hg;refine eO.ro hT hW (λ|10=>some (.gen ⟨[(0,0)],[],[],cS (x p).2,.d (x p).1.d⟩)|_=>none) ?_;simp[dE];refine⟨by simpa using h1,?_⟩;refine aD ?_;refine aL ?_;refine aS (ι:=Vi) (λ⟨f,n,q⟩=>aQ [(0,.bx 0 0),(1,.d (aH lv)),(2,.bm g [.bx 0 0]),(6,.bx 6 0),(7,.bx 7 0)]) (λ⟨f,n,q⟩=>aG [(0,.box false [.d (jQ q.l),.d (aH q.e)]),(6,.box false [.d (aH 0),.d (.str []),.d (aH 0),.nl]),(7,.box false [.d (aH n.kind),.d (.str n.text),.d (aH n.n),.d (ndsD n.kids)])]) (λ⟨f,n,q⟩=>q.l.length<f/\bB q.l/\q.l.length<=p.l.length/\chainP lv x p=chainF lv x f n q) (λ⟨f,n,q⟩=>q.l.length) ⟨(x p).2.l.length+1,(x p).1,(x p).2⟩ (aB hp [0,1,2,6,7] [(0,0),(6,6),(7,7)]) (⟨Nat.lt_succ_self _,(hx.le p hm hg).2,(hx.le p hm hg).1,rfl⟩) λ⟨f,n,q⟩ hi2=>?_;refine aD ?_;refine aA ?_;simp;refine aC ?_;simp;refine⟨λh2=>?_,λh2=>?_⟩
 ·refine aE ?_;simp;refine aL ?_;refine aD ?_;have ho:=wL q lv;refine eO.ro hT hW (λ|18=>some (.gen ⟨[(0,0)],[],[],cS (opP lv q).2,.d (aH (opP lv q).1)⟩)|_=>none) ?_;simp;refine⟨ho,?_⟩;refine aD ?_;refine aA ?_;simp;refine aC ?_;simp;refine⟨λh4=>?_,λh4=>?_⟩
  ·refine bT ?_;simp;refine aA ?_;simp;refine aF ?_;simp;have e:chainP lv x p=(n,(opP lv q).2):=by rw[hi2.2.2.2];exact BF hi2.1 h2 h4
   exact aB hp [0] [(0,0)] (by simp[e]) (by simp[e])
  ·refine aE ?_;simp;obtain⟨ol,or⟩:=Ak h4;have gg:=sV (lv:=lv) hi2.2.1;have hc:=hx.ok (opP lv q).2 (by omega) gg.2;refine eO.rd [[0,26],[0,26],[0]] [[],[],[],[],[0],[26],[],[7]] (λ|25=>some (.gen ⟨[(0,0)],[],[],cS (x (opP lv q).2).2,.d (x (opP lv q).2).1.d⟩)|_=>none) ?_;simp[dE];refine⟨⟨⟨⟨by omega,by omega⟩,by simpa using hc⟩,by decide⟩,?_⟩;refine uC (dK 7 [26] (fz:=false) (cs:=[.d (aH (26+(opP lv q).1)),.d (.str []),.d (aH 0),.ow 26 0 2]) (ds:=[aH (26+(opP lv q).1),.str [],aH 0,.sl [n.d,(x (opP lv q).2).1.d]]) (by simp) (by simp) (by simp) (by simp[aP.mut])) ?_;simp;refine Ks.mk ⟨f-1,.mk (26+(opP lv q).1) [] 0 [n,(x (opP lv q).2).1],(x (opP lv q).2).2⟩ (aB hp [0,1,2,6,7] [(0,0),(6,6),(7,7)]) ?_ ?_
   ·have le:=hx.le (opP lv q).2 (by omega) gg.2;have i1:=hi2.1;have i3:=hi2.2.2.1;refine⟨?_,le.2,?_,?_⟩
    ·show(x (opP lv q).2).2.l.length<f-1;omega
    ·show(x (opP lv q).2).2.l.length<=p.l.length;omega
    ·rw[hi2.2.2.2];exact GQ hi2.1 h2 h4
   ·have le:=hx.le (opP lv q).2 (by omega) gg.2;show(x (opP lv q).2).2.l.length<q.l.length;omega
 ·refine bT ?_;simp;refine aA ?_;simp;refine aF ?_;simp;have e:chainP lv x p=(n,q):=by rw[hi2.2.2.2];exact Dz hi2.1 h2
  exact aB hp [0] [(0,0)] (by simp[e]) (by simp[e])
end
section
attribute[local simp] hZ.cond Nd.d_eq nd_t nd_dr nd_td ndsD aO bH jQ cS cI
theorem zG{ex:PS->Nd×PS}{p:PS}(h:p.is [40]=true):factP ex p=((ex (p.took [40])).1,(ex (p.took [40])).2.need [41]):=by
 rw[bQ h];unfold factP;rw[if_pos h]
theorem BG{ex:PS->Nd×PS}{p:PS}(h1:p.is [40]=false)(h2:p.is sKind=true):factP ex p=(.mk 36 [] 0 [],p.took sKind):=by
 rw[bQ h2];unfold factP;rw[if_neg (by simp[h1]),if_pos h2]
theorem zH{ex:PS->Nd×PS}{p:PS}(h1:p.is [40]=false)(h2:p.is sKind=false)(h3:¬p.peek=[])(h4:digitB (p.peek[0]?.getD 0)=true):factP ex p=(.mk 32 [] (numeralP 32 p).1 [],(numeralP 32 p).2):=by
 unfold factP;rw[if_neg (by simp[h1]),if_neg (by simp[h2])];cases e:p.peek with
 |nil=>exact absurd e h3
 |cons c r=>
  rw[e]at h4;have h4:digitB c=true:=h4;simp only[h4,if_true]
theorem zI{ex:PS->Nd×PS}{p:PS}(h1:p.is [40]=false)(h2:p.is sKind=false)(h3:¬p.peek=[]->digitB (p.peek[0]?.getD 0)=false)(h4:p.peek.take 1=[36]):factP ex p=(.mk 33 (localP p).1 0 [],(localP p).2):=by
 unfold factP;rw[if_neg (by simp[h1]),if_neg (by simp[h2])];cases e:p.peek with
 |nil=>rw[e]at h4;cases h4
 |cons c r=>
  rw[e]at h3 h4;have h3:digitB c=false:=h3 (by simp);have h4:c=36:=by simpa using h4
  simp[h4];decide
theorem zJ{ex:PS->Nd×PS}{p:PS}(h1:p.is [40]=false)(h2:p.is sKind=false)(h3:¬p.peek=[]->digitB (p.peek[0]?.getD 0)=false)(h4:¬p.peek.take 1=[36]):factP ex p=placeP p:=by
 unfold factP;rw[if_neg (by simp[h1]),if_neg (by simp[h2])];cases e:p.peek with
 |nil=>rfl
 |cons c r=>
  rw[e]at h3 h4;have h3:digitB c=false:=h3 (by simp);have h4:¬c=36:=by simpa using h4
  simp[h3,h4]
theorem Sl(p:PS)(n:Nat)(ex:PS->Nd×PS)(hE:jT n 182 ex)(hn:p.l.length<n+1)(hg:bB p.l):jA Tryz.prog 238 [.bx 0 0] (cS p) (cS (factP ex p).2) (.d (factP ex p).1.d):=by
 unfold cS;refine fK Tryz.func238 rfl Tryz.ntmps238 Tryz.results238 λw0 X hp=>?_;refine aA ?_;simp;refine aX hT hW (λ|6=>some (.gen ⟨[(0,0)],[],[],cS p,.d (.str p.peek)⟩)|_=>none) ?_;simp;refine⟨jH p,?_⟩;refine aD ?_;refine aL ?_;refine aX hT hW (λ|9=>some (.gen ⟨[(0,0)],[],[],cS (p.took [40]),.d (.bool (p.is [40]))⟩)|_=>none) ?_;simp;refine⟨gP p [40],?_⟩;refine aC ?_;simp;refine⟨λh2=>?_,λh2=>?_⟩
 ·refine aD ?_;have hl:=eS h2;rw[<-bQ h2]at hl;have hx:=hE.ok (p.took [40]) (by omega) (dC hg);refine eO.ro hT hW (λ|11=>some (.gen ⟨[(0,0)],[],[],cS (ex (p.took [40])).2,.d (ex (p.took [40])).1.d⟩)|_=>none) ?_;simp;refine⟨by simpa using hx,?_⟩;refine aD ?_;have hn4:=iD (ex (p.took [40])).2 [41];refine eO.ro hT hW (λ|13=>some (.gen ⟨[(0,0)],[],[],cS ((ex (p.took [40])).2.need [41]),.tup []⟩)|_=>none) ?_;simp;refine⟨hn4,?_⟩;refine aA ?_;simp;refine aF ?_;simp;have e:=zG (ex:=ex) h2;exact aB hp [0] [(0,0)] (by simp[e]) (by simp[e])
 ·have e2:p.took [40]=p:=fB (by simp[h2]);simp only[e2];refine aX hT hW (λ|17=>some (.gen ⟨[(0,0)],[],[],cS (p.took [107,105,110,100]),.d (.bool (p.is [107,105,110,100]))⟩)|_=>none) ?_;simp;refine⟨gP p [107,105,110,100],?_⟩;refine aC ?_;simp;refine⟨λh6=>?_,λh6=>?_⟩
  ·refine aA ?_;simp;refine aF ?_;simp;have e:=BG (ex:=ex) h2 h6;refine aU (x:=(factP ex p).1.d) (by simp[e]) ?_;simp;exact aB hp [0] [(0,0)] (hH:=by simp[e,sKind])
  ·have e6:p.took [107,105,110,100]=p:=fB (by simp[h6]);simp only[e6];refine aD ?_;have hd:=rN (p.peek[0]?.getD 0);refine eO.ro hT hW (λ|25=>some<| .plain ⟨.d (.bool (digitB (p.peek[0]?.getD 0))),true⟩|_=>none) ?_;simp;refine⟨⟨λh=>List.length_pos_iff.2 h,λ_=>hd⟩,?_⟩;refine aC ?_;simp;refine⟨λg1 g2=>?_,λg=>?_⟩
   ·refine aD ?_;have hnu:=mZ p 32 hg (by decide);refine eO.ro hT hW (λ|28=>some (.gen ⟨[(0,0)],[],[],cS (numeralP 32 p).2,.d (aH (numeralP 32 p).1)⟩)|_=>none) ?_;simp;refine⟨hnu,?_⟩;refine aF ?_;simp;have e:=zH (ex:=ex) h2 h6 g1 g2;refine aU (x:=(factP ex p).1.d) (by simp[e]) ?_;simp;exact aB hp [0] [(0,0)] (hH:=by simp[e])
   ·refine aD ?_;have hpf:=lU p.peek [36] (by have:=jI hg;omega) (by decide);refine eO.ro hT hW (λ|32=>some<| .plain ⟨.d (.bool (decide (p.peek.take 1=[36]))),true⟩|_=>none) ?_;simp;refine⟨hpf,?_⟩;refine aC ?_;simp;refine⟨λh10=>?_,λh10=>?_⟩
    ·refine aD ?_;have hlo:=wH p hg;refine eO.ro hT hW (λ|34=>some (.gen ⟨[(0,0)],[],[],cS (localP p).2,.d (.str (localP p).1)⟩)|_=>none) ?_;simp;refine⟨hlo,?_⟩;refine aF ?_;simp;have e:=zI (ex:=ex) h2 h6 g h10;refine aU (x:=(factP ex p).1.d) (by simp[e]) ?_;simp;exact aB hp [0] [(0,0)] (hH:=by simp[e])
    ·refine aE ?_;simp;refine aD ?_;have hpl:=GP p hg;refine eO.ro hT hW (λ|37=>some (.gen ⟨[(0,0)],[],[],cS (placeP p).2,.d (placeP p).1.d⟩)|_=>none) ?_;simp;refine⟨by simpa using hpl,?_⟩;refine aF ?_;simp;have e:=zJ (ex:=ex) h2 h6 g h10;exact aB hp [0] [(0,0)] (by simp[e]) (by simp[e])
theorem Rt.le{n:Nat}{cls:Int->Bool}{x:PS->Nd×PS}(h:Rt n cls x)(q:PS)(hq:q.l.length<n)(hg:bB q.l):(x q).2.l.length<=q.l.length/\bB (x q).2.l:=⟨(h q hq hg).1,(h q hq hg).2.1⟩
theorem jT.fact{n:Nat}{ex:PS->Nd×PS}(hE:jT n 182 ex)(hR:Rt n isExprK ex):jT (n+1) 238 (factP ex):=
 ⟨λq hq hg=>Sl q n ex hE hq hg,λq hq hg=>(Bh hR).le q hq hg⟩
theorem Sm(p:PS)(n:Nat)(ex:PS->Nd×PS)(hE:jT n 182 ex)(hR:Rt n isExprK ex)(hn:p.l.length<n+1)(hg:bB p.l):jA Tryz.prog 224 [.bx 0 0] (cS p) (cS (prodP ex p).2) (.d (prodP ex p).1.d):=by
 unfold cS;refine fK Tryz.func224 rfl Tryz.ntmps224 Tryz.results224 λw0 X hp=>?_;refine aA ?_;simp;refine aD ?_;have hc:=GR p 3 (factP ex) 238 (n+1) (hE.fact hR) hn hg;refine eO.ro hT hW (λ|6=>some (.gen ⟨[(0,0)],[],[],cS (prodP ex p).2,.d (prodP ex p).1.d⟩)|_=>none) ?_;simp;refine⟨by simpa [prodP]using hc,?_⟩;refine aF ?_;simp;exact aB hp [0] [(0,0)]
theorem jT.prod{n:Nat}{ex:PS->Nd×PS}(hE:jT n 182 ex)(hR:Rt n isExprK ex):jT (n+1) 224 (prodP ex):=
 ⟨λq hq hg=>Sm q n ex hE hR hq hg,λq hq hg=>(xJ (Bh hR)).le q hq hg⟩
theorem Qa(p:PS)(n:Nat)(ex:PS->Nd×PS)(hE:jT n 182 ex)(hR:Rt n isExprK ex)(hn:p.l.length<n+1)(hg:bB p.l):jA Tryz.prog 207 [.bx 0 0] (cS p) (cS (sumP ex p).2) (.d (sumP ex p).1.d):=by
 unfold cS;refine fK Tryz.func207 rfl Tryz.ntmps207 Tryz.results207 λw0 X hp=>?_;refine aA ?_;simp;refine aD ?_;have hc:=GR p 2 (prodP ex) 224 (n+1) (hE.prod hR) hn hg;refine eO.ro hT hW (λ|6=>some (.gen ⟨[(0,0)],[],[],cS (sumP ex p).2,.d (sumP ex p).1.d⟩)|_=>none) ?_;simp;refine⟨by simpa [sumP]using hc,?_⟩;refine aF ?_;simp;exact aB hp [0] [(0,0)]
theorem yA{ex:PS->Nd×PS}{p:PS}(h:0<=(opP 1 (sumP ex p).2).1):exprB ex p=(.mk (26+(opP 1 (sumP ex p).2).1) [] 0 [(sumP ex p).1,(sumP ex (opP 1 (sumP ex p).2).2).1],(sumP ex (opP 1 (sumP ex p).2).2).2):=by
 unfold exprB;simp only[];rw[if_pos h]
theorem yB{ex:PS->Nd×PS}{p:PS}(h:(opP 1 (sumP ex p).2).1<0):exprB ex p=((sumP ex p).1,(opP 1 (sumP ex p).2).2):=by
 unfold exprB;simp only[];rw[if_neg (by omega)]
theorem Ju(p:PS)(n:Nat)(ex:PS->Nd×PS)(hE:jT n 182 ex)(hR:Rt n isExprK ex)(hn:p.l.length<n+1)(hg:bB p.l):jA Tryz.prog 182 [.bx 0 0] (cS p) (cS (exprB ex p).2) (.d (exprB ex p).1.d):=by
 unfold cS;refine fK Tryz.func182 rfl Tryz.ntmps182 Tryz.results182 λw0 X hp=>?_;refine aA ?_;simp;refine aD ?_;have hc:=Qa p n ex hE hR hn hg;have hl1:=(Ez hR).le p hn hg;refine eO.ro hT hW (λ|6=>some (.gen ⟨[(0,0)],[],[],cS (sumP ex p).2,.d (sumP ex p).1.d⟩)|_=>none) ?_;simp;refine⟨by simpa using hc,?_⟩;refine aD ?_;refine aD ?_;have ho:=wL (sumP ex p).2 1;refine eO.ro hT hW (λ|8=>some (.gen ⟨[(0,0)],[],[],cS (opP 1 (sumP ex p).2).2,.d (aH (opP 1 (sumP ex p).2).1)⟩)|_=>none) ?_;simp;refine⟨ho,?_⟩;refine aA ?_;simp;refine aC ?_;simp;refine⟨λh3=>?_,λh3=>?_⟩
 ·refine aD ?_;have hol:=Ak h3;have hog:=sV (lv:=1) hl1.2;have hc4:=Qa (opP 1 (sumP ex p).2).2 n ex hE hR (by omega) hog.2;refine eO.rd [[0,16],[0,16],[0]] [[],[],[],[],[0],[16],[],[2]] (λ|15=>some (.gen ⟨[(0,0)],[],[],cS (sumP ex (opP 1 (sumP ex p).2).2).2,.d (sumP ex (opP 1 (sumP ex p).2).2).1.d⟩)|_=>none) ?_;simp;refine⟨⟨⟨⟨by omega,by omega⟩,by simpa using hc4⟩,by decide⟩,?_⟩;refine aF ?_;simp;have e:=yA h3;refine aU (x:=(exprB ex p).1.d) (by simp[e]) ?_;simp;exact aB hp [0] [(0,0)] (hH:=by simp[e])
 ·refine aE ?_;simp;refine aA ?_;simp;refine aF ?_;simp;have e:=yB h3;exact aB hp [0] [(0,0)] (by simp[e]) (by simp[e])
theorem BH:∀n:Nat,jT n 182 (exprP false n)
 |0=>⟨λq h _=>absurd h (Nat.not_lt_zero _),λq h _=>absurd h (Nat.not_lt_zero _)⟩
 |n+1=>by
  have e:∀q,exprP false (n+1) q=exprB (exprP false n) q:=λq=>by rw[exprP,if_neg (by simp)]
  refine⟨λq hq hg=>?_,λq hq hg=>(vT (n+1)).le q hq hg⟩;rw[e];exact Ju q n (exprP false n) (BH n) (vT n) hq hg
end
section
attribute[local simp] hZ.cond Nd.d_eq nd_t nd_dr nd_td ndsD aO bH jQ cS cI
theorem tH{c:Prop}[Decidable c]{f:Nat->aP}{A:aP}{x:Nat}(h:f 0=A):bI f (if c then [(0,A)]else []) x=f x:=by
 by_cases hc:c
 ·rw[if_pos hc];subst h;simp only[bI,bR];split
  ·rename_i e;rw[e]
  ·rfl
 ·rw[if_neg hc];rfl
def Jv(n:Nat)(x:PS->Nd×PS):Prop:=∀q:PS,q.l.length<n->bB q.l->q.e=0->(x q).2.e≠0\/(x q).2.l.length<q.l.length
structure Vj where
 f:Nat
 ks:List Nd
 q:PS
theorem DA{st:PS->Nd×PS}{ks:List Nd}{q:PS}(h:q.e=0->q.peek=[125]):∀f,stmtsF st f ks q=(ks,q)
 |0=>rfl
 |f+1=>by
  rw[stmtsF,if_pos];by_cases e:q.e=0
  ·exact .inr (h e)
  ·exact .inl e
theorem GS{st:PS->Nd×PS}{ks:List Nd}{q:PS}{f:Nat}(hf:q.l.length<f)(h:q.e=0)(hp:¬q.peek=[125]):stmtsF st f ks q=stmtsF st (f-1) (ks++[(st q).1]) (st q).2:=by
 obtain⟨k,rfl⟩:∃k,f=k+1:=⟨f-1,by omega⟩;rw[stmtsF,if_neg]
 ·rfl
 ·rintro(e|e)
  ·exact e h
  ·exact hp e
theorem GT(p:PS)(n:Nat)(st:PS->Nd×PS)(hS:jT n 162 st)(hE:Jv n st)(hn:p.l.length<n)(hg:bB p.l)(hb:p.l.length<=1100000):jA Tryz.prog 125 [.bx 0 0] (cS p) (cS (blockB st p).2) (.d (blockB st p).1.d):=by
 unfold cS;refine fK Tryz.func125 rfl Tryz.ntmps125 Tryz.results125 λw0 X hp=>?_;refine aA ?_;simp;refine aA ?_;simp;refine mP (fz:=false) (cs:=[.d (aH 8),.d (.str []),.d (aH 0),.nl]) 3 3 1022 4 (by decide) ⟨by simp,by simp,by simp,?_⟩;simp;refine aD ?_;have hn2:=iD p [123];have gl:=bM (s:=[123]) hg;refine eO.ro hT hW (λ|6=>some (.gen ⟨[(0,0)],[],[],cS (p.need [123]),.tup []⟩)|_=>none) ?_;simp;refine⟨hn2,?_⟩;refine aD ?_;refine aL ?_;refine aS (ι:=Vj) (λ⟨f,ks,q⟩=>aQ [(0,.bx 0 0),(2,.bx 2 0),(3,.bx 3 0)]) (λ⟨f,ks,q⟩=>aG [(0,.box false [.d (jQ q.l),.d (aH q.e)]),(2,.box false [.d (aH 0),.d (.str []),.d (aH 0),.nl]),(3,.box false [.d (aH 8),.d (.str []),.d (aH 0),.ow 1022 0 ks.length]),(1022,.row false 4 (ks.map Nd.d))]) (λ⟨f,ks,q⟩=>(q.e=0->q.l.length<f)/\bB q.l/\q.l.length<=p.l.length/\ks.length+q.l.length<=p.l.length+(if q.e=0 then 0 else 1)/\stmtsF st ((p.need [123]).l.length+1) [] (p.need [123])=stmtsF st f ks q) (λ⟨f,ks,q⟩=>2*q.l.length+(if q.e=0 then 1 else 0)) ⟨(p.need [123]).l.length+1,[],p.need [123]⟩ (aB hp [0,2,3] [(0,0),(2,2),(3,3),(1022,1022)]) (⟨λ_=>Nat.lt_succ_self _,gl.2,gl.1,by have:=gl.1;simp only[List.length_nil];omega,rfl⟩) λ⟨f,ks,q⟩ hi3=>?_;refine aD ?_;refine aD ?_;have hpk:=jH q;refine eO.ro hT hW (λ|14=>some (.gen ⟨[(0,0)],[],[],cS q,.d (.str q.peek)⟩)|_=>none) ?_;simp[tH];refine⟨λ_=>hpk,?_⟩;refine aC ?_;simp;refine⟨λg1 g2=>?_,λg=>?_⟩
 ·refine aE ?_;simp;refine aL ?_;have ha:q.l.length<=p.l.length:=hi3.2.2.1;have hk:ks.length+q.l.length<=p.l.length:=by have z:=hi3.2.2.2.1;simp only[g1,if_true]at z;omega
  have hs:=hS.ok q (by omega) hi3.2.1;have hle:=hS.le q (by omega) hi3.2.1;have heat:=hE q (by omega) hi3.2.1 g1;refine eO.rd [[0,21],[0,21]] [[],[],[],[0],[21],[22,1022],[],[3]] (λ|20=>some (.gen ⟨[(0,0)],[],[],cS (st q).2,.d (st q).1.d⟩)|_=>none) ?_;simp;refine⟨⟨by simpa using hs,by omega,by omega⟩,?_⟩;refine Ks.mk ⟨f-1,ks++[(st q).1],(st q).2⟩ (aB hp [0,2,3] [(0,0),(2,2),(3,3),(22,1022)]) ?_ ?_
  ·refine⟨λe=>?_,hle.2,?_,?_,?_⟩
   ·show(st q).2.l.length<f-1;have z:=hi3.1 g1;rcases heat with h|h
    ·exact absurd e h
    ·omega
   ·show(st q).2.l.length<=p.l.length;omega
   ·show(ks++[(st q).1]).length+(st q).2.l.length<=p.l.length+(if(st q).2.e=0 then 0 else 1);rw[List.length_append,List.length_singleton];by_cases e:(st q).2.e=0
    ·rw[if_pos e];rcases heat with h|h
     ·exact absurd e h
     ·omega
    ·rw[if_neg e];omega
   ·rw[hi3.2.2.2.2];exact GS (hi3.1 g1) g1 g2
  ·show 2*(st q).2.l.length+(if(st q).2.e=0 then 1 else 0)<2*q.l.length+(if q.e=0 then 1 else 0);rw[if_pos g1];by_cases e:(st q).2.e=0
   ·rw[if_pos e];rcases heat with h|h
    ·exact absurd e h
    ·omega
   ·rw[if_neg e];omega
 ·refine bT ?_;simp;refine aD ?_;have hn5:=iD q [125];refine eO.ro hT hW (λ|25=>some (.gen ⟨[(0,0)],[],[],cS (q.need [125]),.tup []⟩)|_=>none) ?_;simp;refine⟨hn5,?_⟩;refine aA ?_;simp;refine aF ?_;simp;have e:blockB st p=(.mk 8 [] 0 ks,q.need [125]):=by unfold blockB;simp only[];rw[hi3.2.2.2.2,DA g]
  refine aU (x:=(blockB st p).1.d) (by simp[e]) ?_;simp;exact aB hp [0] [(0,0)] (hH:=by simp[e])
end
section
attribute[local simp] hZ.cond Nd.d_eq nd_t nd_dr nd_td ndsD aO bH jQ cS cI
def cmdA(k:Int)(p:PS):aJ×PS:=if k=19\/k=20 then localP p else if k=21\/k=25\/k=24 then([],p)else nameP p
theorem pA{k:Int}{p:PS}(h:bB p.l):(cmdA k p).2.l.length<=p.l.length/\bB (cmdA k p).2.l:=by
 unfold cmdA;split
 ·exact⟨(dB h).1,(dB h).2.1⟩
 ·split
  ·exact⟨Nat.le_refl _,h⟩
  ·exact⟨(cP h).1,(cP h).2.1⟩
theorem BI{ex:PS->Nd×PS}{k:Int}{p:PS}(h:k=15\/k=22\/k=24):cmdP ex k p=(.mk k (cmdA k p).1 0 [(ex (cmdA k p).2).1],(ex (cmdA k p).2).2):=by
 unfold cmdP;simp only[];rw[if_pos h];rfl
theorem Al{ex:PS->Nd×PS}{k:Int}{p:PS}(h0:¬(k=15\/k=22\/k=24))(h:k=16\/k=23):cmdP ex k p=(.mk k (cmdA k p).1 0 [.mk 33 (localP (cmdA k p).2).1 0 []],(localP (cmdA k p).2).2):=by
 unfold cmdP;simp only[];rw[if_neg h0,if_pos h];rfl
theorem tI{ex:PS->Nd×PS}{k:Int}{p:PS}(h0:¬(k=15\/k=22\/k=24))(h1:¬(k=16\/k=23))(h:k=19\/k=21\/k=25):cmdP ex k p=(.mk k (cmdA k p).1 (numeralP k (cmdA k p).2).1 [],(numeralP k (cmdA k p).2).2):=by
 unfold cmdP;simp only[];rw[if_neg h0,if_neg h1,if_pos h];rfl
theorem pB{ex:PS->Nd×PS}{k:Int}{p:PS}(h0:¬(k=15\/k=22\/k=24))(h1:¬(k=16\/k=23))(h:¬(k=19\/k=21\/k=25)):cmdP ex k p=(.mk k (cmdA k p).1 0 [],(cmdA k p).2):=by
 unfold cmdP;simp only[];rw[if_neg h0,if_neg h1,if_neg h];rfl
def UE(p:PS)(x:Nd):List (Nat×aP):=[(0,.box false [.d (jQ p.l),.d (aH p.e)]),(1,.box false [.d (aH x.kind),.d (.str x.text),.d (aH x.n),.d (ndsD x.kids)])]
structure WK where
 s:aJ
 q:PS
theorem Jw(p:PS)(n:Nat)(ex:PS->Nd×PS)(k:Int)(hk:0<=k/\k<37)(hE:jT n 182 ex)(hn:p.l.length<n)(hg:bB p.l):jA Tryz.prog 183 [.bx 0 0,.bx 1 0] [(0,.box false [.d (jQ p.l),.d (aH p.e)]),(1,.box false [.d (aH k),.d (.str []),.d (aH 0),.nl])] (UE (cmdP ex k p).2 (cmdP ex k p).1) (.tup []):=by
 unfold UE;refine pU Tryz.func183 rfl Tryz.ntmps183 Tryz.results183 λw0 X hp=>?_;refine aZ (ι:=WK) (λ⟨s,q⟩=>aQ [(0,.bx 0 0),(1,.bx 1 0)]) (λ⟨s,q⟩=>aG [(0,.box false [.d (jQ q.l),.d (aH q.e)]),(1,.box false [.d (aH k),.d (.str s),.d (aH 0),.nl])]) (λ⟨s,q⟩=>cmdA k p=(s,q)) ?_ λ⟨s,q⟩ hc8=>?_
 ·refine aA ?_;simp;refine aL ?_;refine aZ (ι:=BC) (λ⟨b⟩=>aQ [(0,.bx 0 0),(1,.bx 1 0),(7,.d (aH k)),(13,.d (.bool b))]) (λ⟨b⟩=>aG [(0,.box false [.d (jQ p.l),.d (aH p.e)]),(1,.box false [.d (aH k),.d (.str []),.d (aH 0),.nl])]) (λ⟨b⟩=>b=true↔(k=19\/k=20)) ?_ λ⟨b⟩ hc4=>?_
  ·refine aA ?_;simp;refine aC ?_;simp;refine⟨λh2=>?_,λh2=>?_⟩
   ·refine aE ?_;simp;refine RJ.mk ⟨decide (k=19)⟩ (aB hp [0,1,7,13] [(0,0),(1,1)]) ?_;simp[h2]
   ·refine aM ?_;simp;refine RJ.mk ⟨decide (k=20)⟩ (aB hp [0,1,7,13] [(0,0),(1,1)]) ?_;simp only[decide_eq_true_eq];omega
  ·refine aC ?_;simp;refine⟨λh4=>?_,λh4=>?_⟩
   ·have q4:=hc4.1 h4;have hlo:=wH p hg;refine eO.ro hT hW (λ|18=>some (.gen ⟨[(0,0)],[],[],cS (localP p).2,.d (.str (localP p).1)⟩)|_=>none) ?_;simp;refine⟨hlo,?_⟩;refine RJ.mk ⟨(localP p).1,(localP p).2⟩ (aB hp [0,1] [(0,0),(1,1)]) ?_;unfold cmdA;rw[if_pos q4]
   ·have q4:¬(k=19\/k=20):=λq=>by simp[hc4.2 q]at h4
    refine aZ (ι:=BC) (λ⟨b⟩=>aQ [(0,.bx 0 0),(1,.bx 1 0),(7,.d (aH k)),(21,.d (.bool b))]) (λ⟨b⟩=>aG [(0,.box false [.d (jQ p.l),.d (aH p.e)]),(1,.box false [.d (aH k),.d (.str []),.d (aH 0),.nl])]) (λ⟨b⟩=>b=true↔(k=21\/k=25\/k=24)) ?_ λ⟨b⟩ hc1=>?_
    ·refine aA ?_;simp;refine aC ?_;simp;refine⟨λh5=>?_,λh5=>?_⟩
     ·refine aE ?_;simp;refine RJ.mk ⟨decide (k=21)⟩ (aB hp [0,1,7,21] [(0,0),(1,1)]) ?_;simp[h5]
     ·refine aA ?_;simp;refine aC ?_;simp;refine⟨λh6=>?_,λh6=>?_⟩
      ·refine aE ?_;simp;refine RJ.mk ⟨decide (k=25)⟩ (aB hp [0,1,7,21] [(0,0),(1,1)]) ?_;simp[h6]
      ·refine aM ?_;simp;refine RJ.mk ⟨decide (k=24)⟩ (aB hp [0,1,7,21] [(0,0),(1,1)]) ?_;simp only[decide_eq_true_eq];omega
    ·refine aC ?_;simp;refine⟨λh1=>?_,λh1=>?_⟩
     ·have q1:=hc1.1 h1;refine aE ?_;simp;refine RJ.mk ⟨[],p⟩ (aB hp [0,1] [(0,0),(1,1)]) ?_;unfold cmdA;rw[if_neg q4,if_pos q1]
     ·have q1:¬(k=21\/k=25\/k=24):=λq=>by simp[hc1.2 q]at h1
      have hna:=wG p;refine eO.ro hT hW (λ|10=>some (.gen ⟨[(0,0)],[],[],cS (nameP p).2,.d (.str (nameP p).1)⟩)|_=>none) ?_;simp;refine⟨hna,?_⟩;refine RJ.mk ⟨(nameP p).1,(nameP p).2⟩ (aB hp [0,1] [(0,0),(1,1)]) ?_;unfold cmdA;rw[if_neg q4,if_neg q1]
 ·refine aA ?_;simp;refine aL ?_;refine aZ (ι:=BC) (λ⟨b⟩=>aQ [(0,.bx 0 0),(1,.bx 1 0),(28,.d (aH k)),(29,.d (.bool b))]) (λ⟨b⟩=>aG [(0,.box false [.d (jQ q.l),.d (aH q.e)]),(1,.box false [.d (aH k),.d (.str s),.d (aH 0),.nl])]) (λ⟨b⟩=>b=true↔(k=15\/k=22\/k=24)) ?_ λ⟨b⟩ hc12=>?_
  ·refine aA ?_;simp;refine aC ?_;simp;refine⟨λh9=>?_,λh9=>?_⟩
   ·refine aE ?_;simp;refine RJ.mk ⟨decide (k=15)⟩ (aB hp [0,1,28,29] [(0,0),(1,1)]) ?_;simp[h9]
   ·refine aA ?_;simp;refine aC ?_;simp;refine⟨λh10=>?_,λh10=>?_⟩
    ·refine aE ?_;simp;refine RJ.mk ⟨decide (k=22)⟩ (aB hp [0,1,28,29] [(0,0),(1,1)]) ?_;simp[h10]
    ·refine aM ?_;simp;refine RJ.mk ⟨decide (k=24)⟩ (aB hp [0,1,28,29] [(0,0),(1,1)]) ?_;simp only[decide_eq_true_eq];omega
  ·refine aC ?_;simp;refine⟨λh12=>?_,λh12=>?_⟩
   ·have q12:=hc12.1 h12;have ga:=pA (k:=k) hg;rw[hc8]at ga;have hx:=hE.ok q (by have:=ga.1;simp only at this;omega) ga.2;refine eO.ro hT hW (λ|35=>some (.gen ⟨[(0,0)],[],[],cS (ex q).2,.d (ex q).1.d⟩)|_=>none) ?_;simp;refine⟨by simpa using hx,?_⟩;have e:=BI (ex:=ex) (p:=p) q12;rw[hc8]at e;refine fI.trans (dK 1 [36] (fz:=false) (cs:=[.d (aH k),.d (.str s),.d (aH 0),.ow 36 0 1]) (ds:=[aH k,.str s,aH 0,.sl [(ex q).1.d]]) (by simp) (by simp) (by simp) (by simp[aP.mut])) ?_;simp;exact aB hp [] [(0,0),(1,1)] (hH:=by simp[e])
   ·have q12:¬(k=15\/k=22\/k=24):=λq=>by simp[hc12.2 q]at h12
    refine aZ (ι:=BC) (λ⟨b⟩=>aQ [(0,.bx 0 0),(1,.bx 1 0),(28,.d (aH k)),(39,.d (.bool b))]) (λ⟨b⟩=>aG [(0,.box false [.d (jQ q.l),.d (aH q.e)]),(1,.box false [.d (aH k),.d (.str s),.d (aH 0),.nl])]) (λ⟨b⟩=>b=true↔(k=16\/k=23)) ?_ λ⟨b⟩ hc15=>?_
    ·refine aA ?_;simp;refine aC ?_;simp;refine⟨λh13=>?_,λh13=>?_⟩
     ·refine aE ?_;simp;refine RJ.mk ⟨decide (k=16)⟩ (aB hp [0,1,28,39] [(0,0),(1,1)]) ?_;simp[h13]
     ·refine aM ?_;simp;refine RJ.mk ⟨decide (k=23)⟩ (aB hp [0,1,28,39] [(0,0),(1,1)]) ?_;simp only[decide_eq_true_eq];omega
    ·refine aC ?_;simp;refine⟨λh15=>?_,λh15=>?_⟩
     ·have q15:=hc15.1 h15;have ga:=pA (k:=k) hg;rw[hc8]at ga;have hlo:=wH q ga.2;refine eO.ro hT hW (λ|44=>some (.gen ⟨[(0,0)],[],[],cS (localP q).2,.d (.str (localP q).1)⟩)|_=>none) ?_;simp;refine⟨hlo,?_⟩;have e:=Al (ex:=ex) (p:=p) q12 q15;rw[hc8]at e;refine fI.trans (dK 1 [46] (fz:=false) (cs:=[.d (aH k),.d (.str s),.d (aH 0),.ow 46 0 1]) (ds:=[aH k,.str s,aH 0,.sl [(Nd.mk 33 (localP q).1 0 []).d]]) (by simp) (by simp) (by simp) (by simp[aP.mut])) ?_;simp;exact aB hp [] [(0,0),(1,1)] (hH:=by simp[e])
     ·have q15:¬(k=16\/k=23):=λq=>by simp[hc15.2 q]at h15
      refine aZ (ι:=BC) (λ⟨b⟩=>aQ [(0,.bx 0 0),(1,.bx 1 0),(28,.d (aH k)),(49,.d (.bool b))]) (λ⟨b⟩=>aG [(0,.box false [.d (jQ q.l),.d (aH q.e)]),(1,.box false [.d (aH k),.d (.str s),.d (aH 0),.nl])]) (λ⟨b⟩=>b=true↔(k=19\/k=21\/k=25)) ?_ λ⟨b⟩ hc19=>?_
      ·refine aA ?_;simp;refine aC ?_;simp;refine⟨λh16=>?_,λh16=>?_⟩
       ·refine aE ?_;simp;refine RJ.mk ⟨decide (k=19)⟩ (aB hp [0,1,28,49] [(0,0),(1,1)]) ?_;simp[h16]
       ·refine aA ?_;simp;refine aC ?_;simp;refine⟨λh17=>?_,λh17=>?_⟩
        ·refine aE ?_;simp;refine RJ.mk ⟨decide (k=21)⟩ (aB hp [0,1,28,49] [(0,0),(1,1)]) ?_;simp[h17]
        ·refine aM ?_;simp;refine RJ.mk ⟨decide (k=25)⟩ (aB hp [0,1,28,49] [(0,0),(1,1)]) ?_;simp only[decide_eq_true_eq];omega
      ·refine aC ?_;simp;refine⟨λh19=>?_,λh19=>?_⟩
       ·have q19:=hc19.1 h19;have ga:=pA (k:=k) hg;rw[hc8]at ga;have hnu:=mZ q k ga.2 hk;refine eO.ro hT hW (λ|59=>some (.gen ⟨[(0,0)],[],[],cS (numeralP k q).2,.d (aH (numeralP k q).1)⟩)|_=>none) ?_;simp;refine⟨hnu,?_⟩;have e:=tI (ex:=ex) (p:=p) q12 q15 q19;rw[hc8]at e;refine fI.trans (dK 1 [] (fz:=false) (cs:=[.d (aH k),.d (.str s),.d (aH (numeralP k q).1),.nl]) (ds:=[aH k,.str s,aH (numeralP k q).1,.sl []]) (by simp) (by simp) (by simp) (by simp[aP.mut])) ?_;simp;exact aB hp [] [(0,0),(1,1)] (hH:=by simp[e])
       ·have q19:¬(k=19\/k=21\/k=25):=λq=>by simp[hc19.2 q]at h19
        refine aE ?_;simp;have e:=pB (ex:=ex) (p:=p) q12 q15 q19;rw[hc8]at e;refine fI.trans (dK 1 [] (fz:=false) (cs:=[.d (aH k),.d (.str s),.d (aH 0),.nl]) (ds:=[aH k,.str s,aH 0,.sl []]) (by simp) (by simp) (by simp) (by simp[aP.mut])) ?_;simp;exact aB hp [] [(0,0),(1,1)] (hH:=by simp[e])
end
theorem uW{α:Type}(q:α->Bool)(d:α):∀l:List α,(List.range l.length).find? (λi=>q (l.getD i d))=l.findIdx? q
 |[]=>rfl
 |x::l=>by
  have ih:=uW q d l;rw[List.length_cons,List.range_succ_eq_map,List.find?_cons,List.findIdx?_cons];have e:(x::l).getD 0 d=x:=rfl;rw[e];cases h:q x with
  |true=>simp
  |false=>
   simp only[List.find?_map];rw[<-ih];rfl
theorem Sn{s:aJ}(h:¬s=[]):kindP s=lE (λx=>decide (s=x)) wordsL:=by
 unfold kindP wordI lE;rw[if_neg h];have e:=uW (λx=>decide (s=x)) [] wordsL;rw[show wordsL.length=26 from rfl]at e;rw[<-e];have e2:(λi=>decide (wordsL.getD i []=s))=λi=>decide (s=wordsL.getD i []):=by funext i;rw[decide_eq_decide];exact eq_comm
 rw[e2];rfl
theorem wM{s:aJ}(h:s=[]):kindP s= -1:=by unfold kindP;rw[if_pos h]
theorem gY{p:PS}(h:0<=kindP p.peek):p.is p.peek=true:=dO.2 ⟨λe=>by rw[wM e]at h;omega,rfl⟩
theorem Am{ex bl:PS->Nd×PS}{p:PS}{k:Int}(hk:kindP p.peek=k)(h:k=11)(he:(bl (ex (p.took p.peek)).2).2.is sElse=true):
 stmtB ex bl p=(.mk k [] 0 [(ex (p.took p.peek)).1,(bl (ex (p.took p.peek)).2).1,(bl ((bl (ex (p.took p.peek)).2).2.took sElse)).1],(bl ((bl (ex (p.took p.peek)).2).2.took sElse)).2):=by
 subst hk;rw[bQ he];rw[bQ (gY (by omega))]at he|-;unfold stmtB;simp only[];rw[if_pos (by omega),if_pos ⟨h,he⟩]
theorem KS{ex bl:PS->Nd×PS}{p:PS}{k:Int}(hk:kindP p.peek=k)(h:k=11\/k=12)(he:k=11->(bl (ex (p.took p.peek)).2).2.is sElse=false):
 stmtB ex bl p=(.mk k [] 0 [(ex (p.took p.peek)).1,(bl (ex (p.took p.peek)).2).1],(bl (ex (p.took p.peek)).2).2):=by
 subst hk;rw[bQ (gY (by omega))]at he|-;unfold stmtB;simp only[];rw[if_pos h,if_neg (λq=>by rw[he q.1]at q;exact absurd q.2 (by simp))]
theorem ES{ex bl:PS->Nd×PS}{p:PS}{k:Int}(hk:kindP p.peek=k)(h:12<k):stmtB ex bl p=((cmdP ex k (p.took p.peek)).1,(cmdP ex k (p.took p.peek)).2.need [59]):=by
 subst hk;rw[bQ (gY (by omega))];unfold stmtB;simp only[];rw[if_neg (by omega),if_pos h]
theorem wN{ex bl:PS->Nd×PS}{p:PS}{k:Int}(hk:kindP p.peek=k)(h0:¬(k=11\/k=12))(h:¬12<k)(hd:p.peek.take 1=[36]):stmtB ex bl p=(.mk 9 (localP p).1 0 [(ex ((localP p).2.need [61])).1],(ex ((localP p).2.need [61])).2.need [59]):=by
 subst hk;unfold stmtB;simp only[];rw[if_neg h0,if_neg h];rw[(gX hd).1];rfl
theorem wO{ex bl:PS->Nd×PS}{p:PS}{k:Int}(hk:kindP p.peek=k)(h0:¬(k=11\/k=12))(h:¬12<k)(hd:¬p.peek.take 1=[36]):stmtB ex bl p=(.mk 10 [] 0 [(placeP p).1,(ex ((placeP p).2.need [61])).1],(ex ((placeP p).2.need [61])).2.need [59]):=by
 subst hk;unfold stmtB;simp only[];rw[if_neg h0,if_neg h];split
 ·rename_i r e;rw[e]at hd;exact absurd rfl hd
 ·rfl
theorem fL{p:PS}{s:aJ}:(p.need s).l.length<=p.l.length:=by
 unfold PS.need;split
 ·exact dA
 ·rw[lD];exact Nat.le_refl _
theorem BJ{m:Nat}{ex bl:PS->Nd×PS}(hs:Stk ex)(ht:Stk bl)(hx:Rt (m+1) isExprK ex)(hb:Rt m isBlockK bl):Jv (m+1) (stmtB ex bl):=λp hl h _=>by
 by_cases he:(stmtB ex bl p).2.e=0
 ·right;obtain⟨k,hk⟩:∃k,kindP p.peek=k:=⟨_,rfl⟩;by_cases h1:k=11\/k=12
  ·have ip:=gY (p:=p) (by omega);have lp:=eS ip;rw[<-bQ ip]at lp;have gp:=dC (s:=p.peek) h;obtain⟨e0,e1,_⟩:=hx (p.took p.peek) (by omega) gp;obtain⟨b0,b1,_⟩:=hb (ex (p.took p.peek)).2 (by omega) e1;by_cases h2:k=11/\(bl (ex (p.took p.peek)).2).2.is sElse=true
   ·rw[Am hk h2.1 h2.2];have l2:=eS h2.2;rw[<-bQ h2.2]at l2;obtain⟨c0,_,_⟩:=hb ((bl (ex (p.took p.peek)).2).2.took sElse) (by omega) (dC b1);show(bl ((bl (ex (p.took p.peek)).2).2.took sElse)).2.l.length<p.l.length;omega
   ·rw[KS hk h1 (λq=>by
     cases z:(bl (ex (p.took p.peek)).2).2.is sElse with
     |false=>rfl
     |true=>exact absurd ⟨q,z⟩ h2)]
    show(bl (ex (p.took p.peek)).2).2.l.length<p.l.length;omega
  ·by_cases h3:12<k
   ·have ip:=gY (p:=p) (by omega);have lp:=eS ip;rw[<-bQ ip]at lp;have gp:=dC (s:=p.peek) h;obtain⟨c0,_,_⟩:=KE (m:=m+1) hs hx (k:=k) (hk▸uH (s:=p.peek) (by omega)) (p.took p.peek) (by omega) gp;rw[ES hk h3];have:=fL (p:=(cmdP ex k (p.took p.peek)).2) (s:=[59]);show((cmdP ex k (p.took p.peek)).2.need [59]).l.length<p.l.length;omega
   ·by_cases h4:p.peek.take 1=[36]
    ·obtain⟨i1,i2⟩:=gX h4;have ip:p.is p.peek=true:=dO.2 ⟨λe=>(by rw[e]at h4;cases h4),rfl⟩;have lp:=eS ip;rw[<-bQ ip]at lp;rw[wN hk h1 h3 h4,i2];have n1:=fL (p:=p.took p.peek) (s:=[61]);obtain⟨e0,_,_⟩:=hx ((p.took p.peek).need [61]) (by omega) (bM (dC h)).2;have n2:=fL (p:=(ex ((p.took p.peek).need [61])).2) (s:=[59]);show((ex ((p.took p.peek).need [61])).2.need [59]).l.length<p.l.length;omega
    ·rw[wO hk h1 h3 h4]at he|-;have he:((ex ((placeP p).2.need [61])).2.need [59]).e=0:=he;have he2:=hs _ (need_e he).2;have he3:=(need_e he2).2;have pl:(placeP p).2.l.length<p.l.length:=by
      unfold placeP at he3|-;have nm:(nameP p).2.e=0->(nameP p).2.l.length<p.l.length:=λz=>by
       cases q:isNameB p.peek with
       |false=>rw[mY q]at z;exact absurd z (fail_e (by decide))
       |true=>
        have ip:p.is p.peek=true:=dO.2 ⟨λe=>(by rw[e]at q;cases q),rfl⟩;have lp:=eS ip;rw[qB q,bQ ip];simp only;omega
      have ng:=cP h;split at he3
      ·rename_i z;rw[if_pos z];have z2:=nameP_stk _ he3;have z3:(nameP p).2.e=0:=z2;have ll:=(cP (p:=(nameP p).2.skip) (cN ng.2.1)).1;have l3:=dA (p:=(nameP p).2);have:=nm z3;simp only;omega
      ·rename_i z;rw[if_neg z];exact nm he3
     have n1:=fL (p:=(placeP p).2) (s:=[61]);have pg:=(iW (p.l.length+1) p (Nat.lt_succ_self _) h).2.1;obtain⟨e0,_,_⟩:=hx ((placeP p).2.need [61]) (by omega) (bM pg).2;have n2:=fL (p:=(ex ((placeP p).2.need [61])).2) (s:=[59]);show((ex ((placeP p).2.need [61])).2.need [59]).l.length<p.l.length;omega
 ·exact .inl he
section
attribute[local simp] hZ.cond Nd.d_eq nd_t nd_dr nd_td ndsD aO bH cI dH wI wJ wK lD ER
def Fs(T:List Tk)(n:Nat)(x:PS->Nd×PS):Prop:=∀q:PS,q.l.length<n->iY T q->iY T (x q).2/\(x q).2.l.length<=q.l.length
theorem iY.goodT{T:List Tk}{q:PS}(f:iY T q)(hg:bB T):bB q.l:=λt ht=>hg t (f.suf.mem ht)
theorem nA{p:PS}{w:aJ}(h:p.is w=true):(p.took w).l.length+1=p.l.length:=by rw[bQ h];exact eS h
theorem ET{p:PS}{w:aJ}:(p.took w).l.length<=p.l.length:=by
 unfold PS.took;split
 ·exact dA
 ·exact Nat.le_refl _
theorem Fs.place{T:List Tk}(hg:bB T)(n:Nat):Fs T n placeP:=λq h f=>⟨f.place,(iW n q h (f.goodT hg)).1⟩
theorem Fs.chainF{T:List Tk}{m:Nat}{lv:Int}{x:PS->Nd×PS}(hx:Fs T m x):∀(f:Nat) (n:Nd) (p:PS),p.l.length<m->iY T p->iY T (chainF lv x f n p).2/\(chainF lv x f n p).2.l.length<=p.l.length
 |0,_,p,_,hf=>⟨hf,Nat.le_refl _⟩
 |f+1,n,p,hm,hf=>by
  rw[Go.Eng.chainF];split
  ·exact⟨hf,Nat.le_refl _⟩
  ·split
   ·rename_i h;rw[Dy h];exact⟨hf,Nat.le_refl _⟩
   ·rename_i h;have h':0<=opI lv p.peek:=by have:¬opI lv p.peek<0:=h;omega
    rw[uV h'];have l1:=nA (qD h').2.1;obtain⟨a1,a2⟩:=hx (p.took p.peek) (by omega) hf.took;obtain⟨b1,b2⟩:=Fs.chainF (lv:=lv) hx f (.mk (26+(opI lv p.peek)) [] 0 [n,(x (p.took p.peek)).1]) (x (p.took p.peek)).2 (by omega) a1;exact⟨b1,Nat.le_trans b2 (by omega)⟩
theorem wP{T:List Tk}{m:Nat}{lv:Int}{x:PS->Nd×PS}(hx:Fs T m x):Fs T m (chainP lv x):=λq h f=>by
 obtain⟨a1,a2⟩:=hx q h f;obtain⟨b1,b2⟩:=Fs.chainF (lv:=lv) hx ((x q).2.l.length+1) (x q).1 (x q).2 (by omega) a1;exact⟨b1,by unfold chainP;omega⟩
theorem Fs.fact{T:List Tk}(hg:bB T){n:Nat}{ex:PS->Nd×PS}(hx:Fs T n ex):Fs T (n+1) (factP ex):=λq h f=>by
 have gq:=f.goodT hg;unfold factP;split
 ·rename_i z;have hl:=eS z;obtain⟨a1,a2⟩:=hx q.skip (by omega) f.skip;exact⟨a1.need,by have:=fL (p:=(ex q.skip).2) (s:=[41]);simp only;omega⟩
 ·split
  ·exact⟨f.skip,dA⟩
  ·split
   ·split
    ·exact⟨f.numeral,(dZ gq).1⟩
    ·split
     ·exact⟨f.local,(dB gq).1⟩
     ·exact Fs.place hg (n+1) q h f
   ·exact Fs.place hg (n+1) q h f
theorem Fs.exprB{T:List Tk}(hg:bB T){n:Nat}{ex:PS->Nd×PS}(hx:Fs T n ex):Fs T (n+1) (exprB ex):=λq h f=>by
 have hs:Fs T (n+1) (sumP ex):=wP (wP (Fs.fact hg hx));obtain⟨a1,a2⟩:=hs q h f;unfold Go.Eng.exprB;simp only[];by_cases z:0<=opI 1 (sumP ex q).2.peek
 ·rw[if_pos (show 0<=(opP 1 (sumP ex q).2).1 from z),uV z];have l1:=nA (qD z).2.1;obtain⟨b1,b2⟩:=hs ((sumP ex q).2.took (sumP ex q).2.peek) (by omega) a1.took;exact⟨b1,by simp only;omega⟩
 ·rw[if_neg (show¬0<=(opP 1 (sumP ex q).2).1 from z),Dy (by omega)];exact⟨a1,a2⟩
theorem EU{T:List Tk}(hg:bB T):∀n,Fs T n (exprP true n)
 |0=>λq h _=>absurd h (Nat.not_lt_zero _)
 |n+1=>λq h f=>by
  rw[exprP];split
  ·exact⟨f,Nat.le_refl _⟩
  ·exact Fs.exprB hg (EU hg n) q h f
structure RR(s:aJ)(T:List Tk)(n:Nat)(g:FuncId)(x:PS->Nd×PS):Prop where
 ok:∀q:PS,q.l.length<n->iY T q->jA Tryz.prog g [.bx 0 0] (dH s T q) (dH s T (x q).2) (.d (x q).1.d)
 fs:Fs T n x
theorem SZ(s:aJ):opI 3 s=if s=[42]then 5 else -1:=by
 by_cases h:s=[42]
 ·subst h;rfl
 ·rw[if_neg h];simp[opI,opsL,List.range,List.range.loop,Ne.symm h,h]
theorem Qb(s:aJ):opI 2 s=if s=[43]then 3 else if s=[45]then 4 else -1:=by
 by_cases h:s=[43]
 ·subst h;rfl
 ·rw[if_neg h];by_cases h2:s=[45]
  ·subst h2;rfl
  ·rw[if_neg h2];have a:=Ne.symm h;have b:=Ne.symm h2;simp[opI,opsL,List.range,List.range.loop,a,b]
theorem UF(s:aJ):opI 1 s=if s=[60]then 0 else if s=[60,61]then 1 else if s=[61,61]then 2 else -1:=by
 by_cases h:s=[60]
 ·subst h;rfl
 ·rw[if_neg h];by_cases h2:s=[60,61]
  ·subst h2;rfl
  ·rw[if_neg h2];by_cases h3:s=[61,61]
   ·subst h3;rfl
   ·rw[if_neg h3];have a:=Ne.symm h;have b:=Ne.symm h2;have c:=Ne.symm h3;simp[opI,opsL,List.range,List.range.loop,a,b,c]
theorem DB{lv:Int}{x:PS->Nd×PS}{f:Nat}{n:Nd}{q:PS}(hf:q.l.length<f)(h:opI lv q.peek<0):chainF lv x f n q=(n,q):=by
 by_cases e:q.e=0
 ·rw[BF hf e h,Dy h]
 ·exact Dz hf e
theorem GU{lv:Int}{x:PS->Nd×PS}{f:Nat}{n:Nd}{q:PS}(hf:q.l.length<f)(h:0<=opI lv q.peek):
 chainF lv x f n q=chainF lv x (f-1) (.mk (26+opI lv q.peek) [] 0 [n,(x (q.took q.peek)).1]) (x (q.took q.peek)).2:=by
 have hn:q.peek≠[]:=(dO.1 (qD h).2.1).1;rw[GQ hf (PX hn) h,uV h]
theorem So(w:aJ):firstIs digitB w=true↔(¬w=[]/\digitB (w[0]?.getD 0)=true):=by
 cases w with
 |nil=>simp[firstIs]
 |cons c r=>simp[firstIs]
theorem DC(s:aJ)(T:List Tk)(p:PS)(c:zE s T)(f:iY T p):jA Tryz.prog 237 [.bx 0 0] (dH s T p) (dH s T (placeP p).2) (.d (placeP p).1.d):=by
 unfold dH;refine fK Tryz.func237 rfl Tryz.ntmps237 Tryz.results237 λw0 X hp=>?_;refine aA ?_;simp;refine aX hT hW (λ|5=>some (.gen ⟨[(0,0)],[],[],dH s T (nameP p).2,.d (.str (nameP p).1)⟩)|_=>none) ?_;simp;refine⟨rR s T p c f,?_⟩;refine aD ?_;refine aX hT hW (λ|8=>some (.gen ⟨[(0,0)],[],[],dH s T ((nameP p).2.took [46]),.d (.bool ((nameP p).2.is [46]))⟩)|_=>none) ?_;simp;refine⟨uU s T (nameP p).2 c f.name [46] (by simp),?_⟩;refine aC ?_;simp;refine⟨λh2=>?_,λh2=>?_⟩
 ·refine aA ?_;simp;have l1:=lV (f.good c);have l2:=lV (p:=(nameP p).2.took [46]) (f.name.took.good c);refine eO.rd [[0],[0],[0]] [[],[],[],[],[0],[],[],[3]] (λ|14=>some (.gen ⟨[(0,0)],[],[],dH s T (nameP ((nameP p).2.took [46])).2,.d (.str (nameP ((nameP p).2.took [46])).1)⟩)|_=>none) ?_;simp;refine⟨⟨⟨by omega,rR s T _ c f.name.took⟩,by omega⟩,?_⟩;refine aA ?_;simp;refine aF ?_;simp;have e:=Dx h2;refine aU (x:=(placeP p).1.d) (by simp[e]) ?_;simp;exact aB hp [0] [(0,0)] (hH:=by simp[e])
 ·refine aE ?_;simp;refine aA ?_;simp;refine aF ?_;simp;have e:=zF h2;refine aU (x:=(placeP p).1.d) (by simp[e]) ?_;simp;exact aB hp [0] [(0,0)] (hH:=by simp[e])
theorem Qc(s:aJ)(T:List Tk)(c:zE s T)(p:PS)(n:Nat)(ex:PS->Nd×PS)(hE:RR s T n 219 ex)(hn:p.l.length<n+1)(f:iY T p):jA Tryz.prog 249 [.bx 0 0] (dH s T p) (dH s T (factP ex p).2) (.d (factP ex p).1.d):=by
 unfold dH;have hg:=f.good c;have htl:=jI hg;refine fK Tryz.func249 rfl Tryz.ntmps249 Tryz.results249 λw0 X hp=>?_;refine aA ?_;simp;refine aD ?_;refine aX hT hW (λ|6=>some (.gen ⟨[(0,0)],[],[],dH s T (p.took [40]),.d (.bool (p.is [40]))⟩)|_=>none) ?_;simp;refine⟨uU s T p c f [40] (by simp),?_⟩;refine aC ?_;simp;refine⟨λh1=>?_,λh1=>?_⟩
 ·refine aD ?_;have hl:=nA h1;have hx:=hE.ok (p.took [40]) (by omega) f.took;have fx:=(hE.fs (p.took [40]) (by omega) f.took).1;refine eO.ro hT hW (λ|8=>some (.gen ⟨[(0,0)],[],[],dH s T (ex (p.took [40])).2,.d (ex (p.took [40])).1.d⟩)|_=>none) ?_;simp;refine⟨by simpa using hx,?_⟩;refine aD ?_;have hn4:=oY s T (ex (p.took [40])).2 c fx [41] (by simp);refine eO.ro hT hW (λ|10=>some (.gen ⟨[(0,0)],[],[],dH s T ((ex (p.took [40])).2.need [41]),.tup []⟩)|_=>none) ?_;simp;refine⟨hn4,?_⟩;refine aA ?_;simp;refine aF ?_;simp;have e:=zG (ex:=ex) h1;exact aB hp [0] [(0,0)] (by simp[e]) (by simp[e])
 ·have e2:p.took [40]=p:=fB (by simp[h1]);simp only[e2];refine aE ?_;simp;refine aD ?_;refine aX hT hW (λ|13=>some (.gen ⟨[(0,0)],[],[],dH s T (p.took [107,105,110,100]),.d (.bool (p.is [107,105,110,100]))⟩)|_=>none) ?_;simp;refine⟨uU s T p c f [107,105,110,100] (by simp),?_⟩;refine aC ?_;simp;refine⟨λh5=>?_,λh5=>?_⟩
  ·refine aA ?_;simp;refine aF ?_;simp;have e:=BG (ex:=ex) h1 h5;refine aU (x:=(factP ex p).1.d) (by simp[e]) ?_;simp;exact aB hp [0] [(0,0)] (hH:=by simp[e,sKind])
  ·have e6:p.took [107,105,110,100]=p:=fB (by simp[h5]);simp only[e6];refine aE ?_;simp;refine aX hT hW (λ|16=>some (.gen ⟨[(0,0)],[],[],dH s T p,.d (.str p.peek)⟩)|_=>none) ?_;simp;refine⟨jJ s T p c f,?_⟩;refine aD ?_;refine aD ?_;have hd:=Dr p.peek 0 (by omega);refine eO.ro hT hW (λ|18=>some<| .plain ⟨.d (.bool (firstIs digitB p.peek)),true⟩|_=>none) ?_;simp;refine⟨by simpa using hd,?_⟩;refine aC ?_;simp;refine⟨λh8=>?_,λh8=>?_⟩
   ·refine aD ?_;have hnu:=nT s T p c f 32 0 999 (.inl rfl) rfl;refine eO.ro hT hW (λ|20=>some (.gen ⟨[(0,0)],[],[],dH s T (numeralP 32 p).2,.d (aH (numeralP 32 p).1)⟩)|_=>none) ?_;simp;refine⟨hnu,?_⟩;refine aF ?_;simp;have e:=zH (ex:=ex) h1 h5 ((So _).1 h8).1 ((So _).1 h8).2;refine aU (x:=(factP ex p).1.d) (by simp[e]) ?_;simp;exact aB hp [0] [(0,0)] (hH:=by simp[e])
   ·refine aE ?_;simp;refine aD ?_;refine aA ?_;simp;refine aC ?_;simp;refine⟨λg1 g2=>?_,λg=>?_⟩
    ·refine aD ?_;have hlo:=oZ s T p c f;refine eO.ro hT hW (λ|31=>some (.gen ⟨[(0,0)],[],[],dH s T (localP p).2,.d (.str (localP p).1)⟩)|_=>none) ?_;simp;refine⟨hlo,?_⟩;refine aF ?_;simp;have g8:¬p.peek=[]->digitB (p.peek[0]?.getD 0)=false:=λa=>by
      cases e:digitB (p.peek[0]?.getD 0)with
      |false=>rfl
      |true=>rw[(So _).2 ⟨a,e⟩]at h8;cases h8
     have e:=zI (ex:=ex) h1 h5 g8 (Uk.2 ⟨by omega,g2⟩);refine aU (x:=(factP ex p).1.d) (by simp[e]) ?_;simp;exact aB hp [0] [(0,0)] (hH:=by simp[e])
    ·refine aE ?_;simp;refine aD ?_;have hpl:=DC s T p c f;refine eO.ro hT hW (λ|34=>some (.gen ⟨[(0,0)],[],[],dH s T (placeP p).2,.d (placeP p).1.d⟩)|_=>none) ?_;simp;refine⟨by simpa using hpl,?_⟩;refine aF ?_;simp;have g8:¬p.peek=[]->digitB (p.peek[0]?.getD 0)=false:=λa=>by
      cases e:digitB (p.peek[0]?.getD 0)with
      |false=>rfl
      |true=>rw[(So _).2 ⟨a,e⟩]at h8;cases h8
     have e:=zJ (ex:=ex) h1 h5 g8 (λz=>by have:=Uk.1 z;have:=g (by omega);omega);exact aB hp [0] [(0,0)] (by simp[e]) (by simp[e])
theorem RR.fact{s:aJ}{T:List Tk}(c:zE s T){n:Nat}{ex:PS->Nd×PS}(hE:RR s T n 219 ex):RR s T (n+1) 249 (factP ex):=
 ⟨λq hq f=>Qc s T c q n ex hE hq f,Fs.fact c.hg hE.fs⟩
theorem Qd(s:aJ)(T:List Tk)(c:zE s T)(p:PS)(n:Nat)(x:PS->Nd×PS)(hE:RR s T n 249 x)(hn:p.l.length<n)(f:iY T p):jA Tryz.prog 246 [.bx 0 0] (dH s T p) (dH s T (chainP 3 x p).2) (.d (chainP 3 x p).1.d):=by
 unfold dH;refine fK Tryz.func246 rfl Tryz.ntmps246 Tryz.results246 λw0 X hp=>?_;refine aA ?_;simp;refine aD ?_;have hx:=hE.ok p hn f;have fx:=hE.fs p hn f;refine eO.ro hT hW (λ|5=>some (.gen ⟨[(0,0)],[],[],dH s T (x p).2,.d (x p).1.d⟩)|_=>none) ?_;simp;refine⟨by simpa using hx,?_⟩;refine aD ?_;refine aL ?_;refine aS (ι:=Vi) (λ⟨f,n,q⟩=>aQ [(0,.bx 0 0),(2,.bx 2 0),(3,.bx 3 0)]) (λ⟨f,n,q⟩=>aG [(0,.box false [.d (.str s),.d (.sl (T.map Tk.r)),.d (aH ((T.length:Int)- q.l.length)),.d (.bool (!decide (q.e=0))),.d (.bool (decide (q.e=5)))]),(2,.box false [.d (aH 0),.d (.str []),.d (aH 0),.nl]),(3,.box false [.d (aH n.kind),.d (.str n.text),.d (aH n.n),.d (ndsD n.kids)])]) (λ⟨f,n,q⟩=>q.l.length<f/\iY T q/\q.l.length<=p.l.length/\chainP 3 x p=chainF 3 x f n q) (λ⟨f,n,q⟩=>q.l.length) ⟨(x p).2.l.length+1,(x p).1,(x p).2⟩ (aB hp [0,2,3] [(0,0),(2,2),(3,3)]) (⟨Nat.lt_succ_self _,fx.1,fx.2,rfl⟩) λ⟨f,n,q⟩ hi2=>?_;refine aD ?_;refine aD ?_;have hi:=uU s T q c hi2.2.1 [42] (by simp);refine eO.ro hT hW (λ|7=>some (.gen ⟨[(0,0)],[],[],dH s T (q.took [42]),.d (.bool (q.is [42]))⟩)|_=>none) ?_;simp;refine⟨hi,?_⟩;refine aC ?_;simp;refine⟨λh2=>?_,λh2=>?_⟩
 ·refine aE ?_;simp;refine aL ?_;have hl:=nA h2;have hpk:=(dO.1 h2).2;have i3:=hi2.2.2.1;have hx3:=hE.ok (q.took [42]) (by omega) hi2.2.1.took;have fx3:=hE.fs (q.took [42]) (by omega) hi2.2.1.took;refine eO.rd [[0]] [[],[],[0],[11],[],[3]] (λ|10=>some (.gen ⟨[(0,0)],[],[],dH s T (x (q.took [42])).2,.d (x (q.took [42])).1.d⟩)|_=>none) ?_;simp;refine⟨⟨by simpa using hx3,by decide⟩,?_⟩;refine uC (dK 3 [11] (fz:=false) (cs:=[.d (aH 31),.d (.str []),.d (aH 0),.ow 11 0 2]) (ds:=[aH 31,.str [],aH 0,.sl [n.d,(x (q.took [42])).1.d]]) (by simp) (by simp) (by simp) (by simp[aP.mut])) ?_;simp;refine Ks.mk ⟨f-1,.mk 31 [] 0 [n,(x (q.took [42])).1],(x (q.took [42])).2⟩ (aB hp [0,2,3] [(0,0),(2,2),(3,3)]) ?_ ?_
  ·have i1:=hi2.1;have i3:=hi2.2.2.1;refine⟨?_,fx3.1,?_,?_⟩
   ·show(x (q.took [42])).2.l.length<f-1;have:=fx3.2;omega
   ·show(x (q.took [42])).2.l.length<=p.l.length;have:=fx3.2;omega
   ·rw[hi2.2.2.2,GU hi2.1 (by rw[SZ,hpk];decide),hpk];rfl
  ·have:=fx3.2;show(x (q.took [42])).2.l.length<q.l.length;omega
 ·have e2:q.took [42]=q:=fB (by simp[h2]);simp only[e2];refine bT ?_;simp;refine aA ?_;simp;refine aF ?_;simp;have hno:opI 3 q.peek<0:=by
   rw[SZ,if_neg (λz=>by rw[dO.2 ⟨by simp,z⟩]at h2;cases h2)];decide
  have e:chainP 3 x p=(n,q):=by rw[hi2.2.2.2];exact DB hi2.1 hno
  exact aB hp [0] [(0,0)] (by simp[e]) (by simp[e])
theorem MT{c:Prop}[Decidable c]{f:Nat->aP}{A:aP}{x:Nat}(h:f 0=A):bI f (if c then []else [(0,A)]) x=f x:=by
 by_cases hc:c
 ·rw[if_pos hc];rfl
 ·rw[if_neg hc];subst h;simp only[bI,bR];split
  ·rename_i e;rw[e]
  ·rfl
theorem RR.prod{s:aJ}{T:List Tk}(c:zE s T){n:Nat}{x:PS->Nd×PS}(hE:RR s T n 249 x):RR s T n 246 (chainP 3 x):=
 ⟨λq hq f=>Qd s T c q n x hE hq f,wP hE.fs⟩
structure Vo where
 k:Int
theorem KT{q:aJ}:(q=[43]\/q=[45])↔0<=opI 2 q:=by
 rw[Qb];by_cases h:q=[43]
 ·simp[h]
 ·by_cases h2:q=[45]
  ·simp[h2]
  ·simp[h,h2]
theorem Sp(s:aJ)(T:List Tk)(c:zE s T)(p:PS)(n:Nat)(x:PS->Nd×PS)(hE:RR s T n 246 x)(hn:p.l.length<n)(f:iY T p):jA Tryz.prog 236 [.bx 0 0] (dH s T p) (dH s T (chainP 2 x p).2) (.d (chainP 2 x p).1.d):=by
 unfold dH;have htl:=c.ht;refine fK Tryz.func236 rfl Tryz.ntmps236 Tryz.results236 λw0 X hp=>?_;refine aA ?_;simp;refine aD ?_;have hx:=hE.ok p hn f;have fx:=hE.fs p hn f;refine eO.ro hT hW (λ|6=>some (.gen ⟨[(0,0)],[],[],dH s T (x p).2,.d (x p).1.d⟩)|_=>none) ?_;simp;refine⟨by simpa using hx,?_⟩;refine aD ?_;refine aL ?_;refine aS (ι:=Vi) (λ⟨f,n,q⟩=>aQ [(0,.bx 0 0),(2,.bx 2 0),(3,.bx 3 0)]) (λ⟨f,n,q⟩=>aG [(0,.box false [.d (.str s),.d (.sl (T.map Tk.r)),.d (aH ((T.length:Int)- q.l.length)),.d (.bool (!decide (q.e=0))),.d (.bool (decide (q.e=5)))]),(2,.box false [.d (aH 0),.d (.str []),.d (aH 0),.nl]),(3,.box false [.d (aH n.kind),.d (.str n.text),.d (aH n.n),.d (ndsD n.kids)])]) (λ⟨f,n,q⟩=>q.l.length<f/\iY T q/\q.l.length<=p.l.length/\chainP 2 x p=chainF 2 x f n q) (λ⟨f,n,q⟩=>q.l.length) ⟨(x p).2.l.length+1,(x p).1,(x p).2⟩ (aB hp [0,2,3] [(0,0),(2,2),(3,3)]) (⟨Nat.lt_succ_self _,fx.1,fx.2,rfl⟩) λ⟨f,n,q⟩ hi2=>?_;refine aD ?_;refine aD ?_;have hk:=jJ s T q c hi2.2.1;refine eO.ro hT hW (λ|8=>some (.gen ⟨[(0,0)],[],[],dH s T q,.d (.str q.peek)⟩)|12=>some (.gen ⟨[(0,0)],[],[],dH s T q,.d (.str q.peek)⟩)|_=>none) ?_;simp[MT];refine⟨⟨hk,λ_=>hk⟩,?_⟩;refine aC ?_;simp;refine⟨λg=>?_,λg1 g2=>?_⟩
 ·have hop:=KT.1 g;have his:=(qD hop).2.1;have hne:=(dO.1 his).1;have hl:=nA his;have hsk:=qC (T:=T) hne;have hps:=hi2.2.1.pos hne;have i3:=hi2.2.2.1;have hx3:=hE.ok (q.took q.peek) (by omega) hi2.2.1.took;have fx3:=hE.fs (q.took q.peek) (by omega) hi2.2.1.took;refine aE ?_;simp;refine aL ?_;refine aA ?_;simp;refine aZ (ι:=Vo) (λ⟨k⟩=>aQ [(0,.bx 0 0),(2,.bx 2 0),(3,.bx 3 0),(4,.d (aH k))]) (λ⟨k⟩=>aG [(0,.box false [.d (.str s),.d (.sl (T.map Tk.r)),.d (aH ((T.length:Int)- q.l.length)),.d (.bool (!decide (q.e=0))),.d (.bool (decide (q.e=5)))]),(2,.box false [.d (aH 0),.d (.str []),.d (aH 0),.nl]),(3,.box false [.d (aH n.kind),.d (.str n.text),.d (aH n.n),.d (ndsD n.kids)])]) (λ⟨k⟩=>k=26+opI 2 q.peek) ?_ λ⟨k⟩ hc6=>?_
  ·refine aD ?_;have hk4:=jJ s T q c hi2.2.1;refine eO.ro hT hW (λ|16=>some (.gen ⟨[(0,0)],[],[],dH s T q,.d (.str q.peek)⟩)|_=>none) ?_;simp;refine⟨hk4,?_⟩;refine aC ?_;simp;refine⟨λh4=>?_,λh4=>?_⟩
   ·refine aM ?_;simp;refine RJ.mk ⟨30⟩ (aB hp [0,2,3,4] [(0,0),(2,2),(3,3)]) ?_;rw[Qb,h4];decide
   ·refine aE ?_;simp;refine RJ.mk ⟨29⟩ (aB hp [0,2,3,4] [(0,0),(2,2),(3,3)]) ?_;rw[Qb,if_pos (g.resolve_right h4)];decide
  ·refine aA ?_;simp;refine⟨by omega,?_⟩;simp only[<-hsk];refine eO.rd [[0,29],[0]] [[],[],[],[0],[29],[],[3]] (λ|28=>some (.gen ⟨[(0,0)],[],[],dH s T (x (q.took q.peek)).2,.d (x (q.took q.peek)).1.d⟩)|_=>none) ?_;simp;refine⟨⟨by simpa [bQ his]using hx3,by decide⟩,?_⟩;simp only[hc6];refine uC (dK 3 [29] (fz:=false) (cs:=[.d (aH (26+opI 2 q.peek)),.d (.str []),.d (aH 0),.ow 29 0 2]) (ds:=[aH (26+opI 2 q.peek),.str [],aH 0,.sl [n.d,(x (q.took q.peek)).1.d]]) (by simp) (by simp) (by simp) (by simp[aP.mut])) ?_;simp;refine Ks.mk ⟨f-1,.mk (26+opI 2 q.peek) [] 0 [n,(x (q.took q.peek)).1],(x (q.took q.peek)).2⟩ (aB hp [0,2,3] [(0,0),(2,2),(3,3)]) ?_ ?_
   ·have i1:=hi2.1;have i3:=hi2.2.2.1;have:=fx3.2;refine⟨?_,fx3.1,?_,?_⟩
    ·show(x (q.took q.peek)).2.l.length<f-1;omega
    ·show(x (q.took q.peek)).2.l.length<=p.l.length;omega
    ·rw[hi2.2.2.2,GU hi2.1 hop]
   ·have:=fx3.2;show(x (q.took q.peek)).2.l.length<q.l.length;omega
 ·refine bT ?_;simp;refine aA ?_;simp;refine aF ?_;simp;have hno:opI 2 q.peek<0:=by
   have z:¬0<=opI 2 q.peek:=λz=>(KT.2 z).elim g1 g2;omega
  have e:chainP 2 x p=(n,q):=by rw[hi2.2.2.2];exact DB hi2.1 hno
  exact aB hp [0] [(0,0)] (by simp[e]) (by simp[e])
theorem RR.sum{s:aJ}{T:List Tk}(c:zE s T){n:Nat}{x:PS->Nd×PS}(hE:RR s T n 246 x):RR s T n 236 (chainP 2 x):=
 ⟨λq hq f=>Sp s T c q n x hE hq f,wP hE.fs⟩
def uX:List aJ:=[[60],[60,61],[61,61]]
theorem KU{i:Nat}(h:i<3):uX[i]?.getD []≠[]:=by
 match i,h with
 |0,_=>decide
 |1,_=>decide
 |2,_=>decide
theorem TN{w:aJ}{i:Nat}(h:i<3)(hw:w=uX[i]?.getD []):opI 1 w=i:=by
 subst hw
 match i,h with
 |0,_=>decide
 |1,_=>decide
 |2,_=>decide
theorem Qe{w:aJ}(h:∀j,j<3->w≠uX[j]?.getD []):opI 1 w<0:=by
 have a:w≠[60]:=h 0 (by decide);have b:w≠[60,61]:=h 1 (by decide);have d:w≠[61,61]:=h 2 (by decide);rw[UF,if_neg a,if_neg b,if_neg d];decide
theorem Qf(i:Nat)(h:i<3):([DV.str [60],DV.str [60,61],DV.str [61,61]]:List DV)[i]?.getD default=.str (uX[i]?.getD []):=by
 match i,h with
 |0,_=>rfl
 |1,_=>rfl
 |2,_=>rfl
theorem GV(s:aJ)(T:List Tk)(c:zE s T)(p:PS)(n:Nat)(ex:PS->Nd×PS)(hE:RR s T n 236 (sumP ex))(hn:p.l.length<n)(f:iY T p):jA Tryz.prog 219 [.bx 0 0] (dH s T p) (dH s T (if p.e=0 then exprB ex p else(zeroNd,p)).2) (.d (if p.e=0 then exprB ex p else(zeroNd,p)).1.d):=by
 unfold dH;refine fK Tryz.func219 rfl Tryz.ntmps219 Tryz.results219 λw0 X hp=>?_;refine aA ?_;simp;refine aD ?_;refine aA ?_;simp;refine aC ?_;simp;refine⟨λh1=>?_,λh1=>?_⟩
 ·refine aA ?_;simp;refine aF ?_;simp;have e:(if p.e=0 then exprB ex p else(zeroNd,p))=(zeroNd,p):=if_neg h1;rw[e];refine aU (x:=zeroNd.d) (by simp[zeroNd]) ?_;simp;exact aB hp [0] [(0,0)]
 ·refine aE ?_;simp;refine aD ?_;have hx:=hE.ok p hn f;have fx:=hE.fs p hn f;refine eO.ro hT hW (λ|12=>some (.gen ⟨[(0,0)],[],[],dH s T (sumP ex p).2,.d (sumP ex p).1.d⟩)|_=>none) ?_;simp;refine⟨by simpa using hx,?_⟩;refine aA ?_;simp;refine⟨by decide,?_⟩;refine aD ?_;refine aA ?_;simp;refine aL ?_;refine aS (ι:=Nat) (λi=>aQ [(0,.bx 0 0),(2,.bx 2 0),(3,.bx 3 0),(4,.ow 13 0 3),(5,.d (aH i))]) (λi=>aG [(0,.box false [.d (.str s),.d (.sl (T.map Tk.r)),.d (aH ((T.length:Int)-(sumP ex p).2.l.length)),.d (.bool (!decide ((sumP ex p).2.e=0))),.d (.bool (decide ((sumP ex p).2.e=5)))]),(2,.box false [.d (aH 0),.d (.str []),.d (aH 0),.nl]),(3,.box false [.d (aH (sumP ex p).1.kind),.d (.str (sumP ex p).1.text),.d (aH (sumP ex p).1.n),.d (ndsD (sumP ex p).1.kids)]),(13,.row false 1 [.str [60],.str [60,61],.str [61,61]])]) (λi=>i<=3/\∀j,j<i->(sumP ex p).2.peek≠uX[j]?.getD []) (λi=>3-i) 0 (aB hp [0,2,3,4,5] [(0,0),(2,2),(3,3),(13,13)]) (⟨Nat.zero_le _,λj h=>absurd h (Nat.not_lt_zero j)⟩) λi hi6=>?_;refine aD ?_;refine aA ?_;simp;refine aC ?_;simp;refine⟨λh6=>?_,λh6=>?_⟩
  ·refine aE ?_;simp;refine aD ?_;refine aL ?_;refine aD ?_;have hi3:i<3:=by omega
   have hi:=uU s T (sumP ex p).2 c fx.1 (uX[i]?.getD []) (KU hi3);refine eO.ro hT hW (λ|23=>some (.gen ⟨[(0,0)],[],[],dH s T ((sumP ex p).2.took (uX[i]?.getD [])),.d (.bool ((sumP ex p).2.is (uX[i]?.getD [])))⟩)|_=>none) ?_;simp[Qf i hi3];refine⟨⟨by omega,hi⟩,?_⟩;refine aC ?_;simp;refine⟨λh8=>?_,λh8=>?_⟩
   ·refine aD ?_;have hpk:=(dO.1 h8).2;have hop:=TN hi3 hpk;have hl:=nA h8;have hx9:=hE.ok ((sumP ex p).2.took (uX[i]?.getD [])) (by have:=fx.2;omega) fx.1.took;refine eO.rd [[0,29],[0,29],[0]] [[],[],[],[],[0],[29],[],[2]] (λ|28=>some (.gen ⟨[(0,0)],[],[],dH s T (sumP ex ((sumP ex p).2.took (uX[i]?.getD []))).2,.d (sumP ex ((sumP ex p).2.took (uX[i]?.getD []))).1.d⟩)|_=>none) ?_;simp;refine⟨⟨⟨by omega,by simpa using hx9⟩,by decide⟩,?_⟩;refine aF ?_;simp;have e:(if p.e=0 then exprB ex p else(zeroNd,p))=exprB ex p:=if_pos h1;have e2:exprB ex p=(.mk (26+(i:Int)) [] 0 [(sumP ex p).1,(sumP ex ((sumP ex p).2.took (uX[i]?.getD []))).1],(sumP ex ((sumP ex p).2.took (uX[i]?.getD []))).2):=by
     rw[yA (by rw[uV (by omega)];show 0<=opI 1 _;omega),uV (by omega),hop,hpk]
    rw[e,e2];refine aU (x:=(Nd.mk (26+(i:Int)) [] 0 [(sumP ex p).1,(sumP ex ((sumP ex p).2.took (uX[i]?.getD []))).1]).d) (by simp) ?_;simp;exact aB hp [0] [(0,0)]
   ·have e2:(sumP ex p).2.took (uX[i]?.getD [])=(sumP ex p).2:=fB (by simp[h8]);simp only[e2];refine aE ?_;simp;refine aM ?_;simp;refine⟨by omega,?_⟩;refine Ks.mk (i+1) (aB hp [0,2,3,4,5] [(0,0),(2,2),(3,3),(13,13)]) ?_ ?_
    ·refine⟨by omega,λj hj=>?_⟩;by_cases e:j=i
     ·subst e;exact λz=>by rw[dO.2 ⟨KU hi3,z⟩]at h8;cases h8
     ·exact hi6.2 j (by omega)
    ·omega
  ·refine bT ?_;simp;refine aA ?_;simp;refine aF ?_;simp;have e:(if p.e=0 then exprB ex p else(zeroNd,p))=exprB ex p:=if_pos h1;have hno:=Qe (w:=(sumP ex p).2.peek) (λj hj=>hi6.2 j (by omega));have e2:exprB ex p=((sumP ex p).1,(sumP ex p).2):=by rw[yB (by rw[Dy hno];exact hno),Dy hno]
   rw[e,e2];exact aB hp [0] [(0,0)]
theorem KV{s:aJ}{T:List Tk}(c:zE s T):∀n:Nat,RR s T n 219 (exprP true n)
 |0=>⟨λq h _=>absurd h (Nat.not_lt_zero _),λq h _=>absurd h (Nat.not_lt_zero _)⟩
 |n+1=>by
  have e:∀q,exprP true (n+1) q=if q.e=0 then exprB (exprP true n) q else(zeroNd,q):=λq=>by
   rw[exprP];by_cases h:q.e=0
   ·rw[if_neg (by simp[h]),if_pos h]
   ·rw[if_pos ⟨rfl,h⟩,if_neg h]
  refine⟨λq hq f=>?_,EU c.hg (n+1)⟩;rw[e];exact GV s T c q (n+1) (exprP true n) (((KV c n).fact c).prod c |>.sum c) hq f
end
section
attribute[local simp] hZ.cond Nd.d_eq nd_t nd_dr nd_td ndsD aO bH jQ cS cI
theorem zK(k:IntKind)(n:Int):(Value.int k n).oneCell'=true:=rfl
theorem zL(x:ByteArray):(Value.string x).oneCell'=true:=rfl
theorem zM(x:Option Addr)(a b:Nat):(Value.slice x a b).oneCell'=true:=rfl
theorem GW(a b c d:Value):(∀(i:Nat) (x:i<4),([a,b,c,d][i]'(x)).oneCell'=true)↔(a.oneCell'=true/\b.oneCell'=true/\c.oneCell'=true/\d.oneCell'=true):=by
 constructor
 ·intro h;exact⟨h 0 (by decide),h 1 (by decide),h 2 (by decide),h 3 (by decide)⟩
 ·rintro⟨h1,h2,h3,h4⟩ i hi
  match i,hi with
  |0,_=>exact h1
  |1,_=>exact h2
  |2,_=>exact h3
  |3,_=>exact h4
attribute[local simp] iZ zK zL zM GW
theorem MU{c:Prop}[Decidable c]{f:Nat->aP}{a b:PS}{x:Nat}(h:f 0=.box false [.d (.sl (b.l.map Tk.d)),.d (aH b.e)]):
 bI f (if c then [(0,.box false [.d (.sl (a.l.map Tk.d)),.d (aH a.e)])]else []) x=if x=0 then .box false [.d (.sl ((if c then a else b).l.map Tk.d)),.d (aH (if c then a else b).e)]else f x:=by
 by_cases hc:c
 ·simp only[hc,if_true,bI,bR]
 ·simp only[hc,if_false,bI];split
  ·rename_i e;rw[e];exact h
  ·rfl
structure KC where
 k:Int
structure WL where
 x:Nd
 q:PS
theorem Jx(p:PS)(n:Nat)(ex bl:PS->Nd×PS)(hE:jT (n+1) 182 ex)(hB:jT n 125 bl)(hn:p.l.length<n+1)(hg:bB p.l):jA Tryz.prog 162 [.bx 0 0] (cS p) (cS (stmtB ex bl p).2) (.d (stmtB ex bl p).1.d):=by
 unfold cS;refine fK Tryz.func162 rfl Tryz.ntmps162 Tryz.results162 λw0 X hp=>?_;refine aA ?_;simp;refine aX hT hW (λ|7=>some (.gen ⟨[(0,0)],[],[],cS p,.d (.str p.peek)⟩)|_=>none) ?_;simp;refine⟨jH p,?_⟩;refine aA ?_;simp;refine aZ (ι:=KC) (λ⟨k⟩=>aQ [(0,.bx 0 0),(2,.bx 2 0),(3,.d (.str p.peek)),(4,.d (aH k))]) (λ⟨k⟩=>aG [(0,.box false [.d (jQ p.l),.d (aH p.e)]),(2,.box false [.d (aH 0),.d (.str []),.d (aH 0),.nl])]) (λ⟨k⟩=>kindP p.peek=k) ?_ λ⟨k⟩ hc5=>?_
 ·refine aA ?_;simp;refine aC ?_;simp;refine⟨λh3=>?_,λh3=>?_⟩
  ·have hi:=nX wordsL p.peek;have q2:=mD;rw[<-Sn h3]at hi;refine eO.ro hT hW (λ|12=>some<| .plain ⟨.d (aH (kindP p.peek)),true⟩|_=>none) ?_;simp[uK];refine⟨⟨by omega,hi⟩,?_⟩;refine RJ.mk ⟨kindP p.peek⟩ (aB hp [0,2,3,4] [(0,0),(2,2)]) ?_;rfl
  ·refine aE ?_;simp;refine RJ.mk ⟨-1⟩ (aB hp [0,2,3,4] [(0,0),(2,2)]) ?_;exact wM h3
 ·refine aA ?_;simp;refine aZ (ι:=WL) (λ⟨x,q⟩=>aQ [(0,.bx 0 0),(2,.bx 2 0),(5,.bx 5 0)]) (λ⟨x,q⟩=>aG [(0,.box false [.d (jQ q.l),.d (aH q.e)]),(2,.box false [.d (aH 0),.d (.str []),.d (aH 0),.nl]),(5,.box false [.d (aH x.kind),.d (.str x.text),.d (aH x.n),.d (ndsD x.kids)])]) (λ⟨x,q⟩=>stmtB ex bl p=(x,q.need [59])) ?_ λ⟨x,q⟩ hc22=>?_
  ·refine aL ?_;refine aA ?_;simp;refine aC ?_;simp;refine⟨λg=>?_,λg1 g2=>?_⟩
   ·refine aD ?_;have ip:=gY (p:=p) (by omega);have lp:=eS ip;rw[<-bQ ip]at lp;have gp:=dC (s:=p.peek) hg;refine eO.ro hT hW (λ|39=>some (.gen ⟨[(0,0)],[],[],cS (p.took p.peek),.d (.bool (p.is p.peek))⟩)|_=>none) ?_;simp;refine⟨gP p p.peek,?_⟩;refine mP (fz:=false) (cs:=[.d (aH k),.d (.str []),.d (aH 0),.nl]) 5 3 1048 4 (by decide) ⟨by simp,by simp,by simp,?_⟩;simp;refine aD ?_;have he:=hE.ok (p.took p.peek) (by omega) gp;have le:=hE.le (p.took p.peek) (by omega) gp;have hb:=hB.ok (ex (p.took p.peek)).2 (by omega) le.2;have lb:=hB.le (ex (p.took p.peek)).2 (by omega) le.2;refine eO.rd [[0,47],[0,47],[47],[47],[0,47],[47],[0,47],[0],[],[5],[5],[0,5,47,48,1048],[5],[5],[48],[48]] [[],[],[],[0],[],[0],[],[47],[48,1048],[],[48],[],[],[48],[],[5]] (λ|43=>some (.gen ⟨[(0,0)],[],[],cS (ex (p.took p.peek)).2,.d (ex (p.took p.peek)).1.d⟩)|45=>some (.gen ⟨[(0,0)],[],[],cS (bl (ex (p.took p.peek)).2).2,.d (bl (ex (p.took p.peek)).2).1.d⟩)|_=>none) ?_;simp;refine⟨⟨⟨by simpa using he,by simpa using hb⟩,by decide⟩,?_⟩;refine aD ?_;refine aD ?_;have ht:=gP (bl (ex (p.took p.peek)).2).2 sElse;refine eO.ro hT hW (λ|57=>some (.gen ⟨[(0,0)],[],[],cS ((bl (ex (p.took p.peek)).2).2.took sElse),.d (.bool ((bl (ex (p.took p.peek)).2).2.is sElse))⟩)|_=>none) ?_;simp[MU (b:=(bl (ex (p.took p.peek)).2).2)];refine⟨λ_=>ht,?_⟩;refine aC ?_;simp;refine⟨λg3 g4=>?_,λg3=>?_⟩
    ·simp only[g3,if_true];have gt:=dC (s:=sElse) lb.2;have lt:((bl (ex (p.took p.peek)).2).2.took sElse).l.length<=(bl (ex (p.took p.peek)).2).2.l.length:=by rw[bQ g4];exact dA
     have hb2:=hB.ok ((bl (ex (p.took p.peek)).2).2.took sElse) (by omega) gt;refine eO.rd [[0,64],[0,64],[64],[64],[0,64],[0],[],[5],[5],[65],[65]] [[],[],[],[0],[],[64],[65,48],[],[65],[],[5]] (λ|62=>some (.gen ⟨[(0,0)],[],[],cS (bl ((bl (ex (p.took p.peek)).2).2.took sElse)).2,.d (bl ((bl (ex (p.took p.peek)).2).2.took sElse)).1.d⟩)|_=>none) ?_;simp;refine⟨by simpa using hb2,?_⟩;refine aA ?_;simp;refine aF ?_;simp;have e:=Am (ex:=ex) (bl:=bl) hc5 g3 g4;refine aU (x:=(stmtB ex bl p).1.d) (by simp[e,g3]) ?_;simp;exact aB hp [0] [(0,0)] (hH:=by simp[e])
    ·have eq:(if k=11 then(bl (ex (p.took p.peek)).2).2.took sElse else(bl (ex (p.took p.peek)).2).2)=(bl (ex (p.took p.peek)).2).2:=by
      split
      ·rename_i z;exact fB (by simp[g3 z])
      ·rfl
     simp only[eq];refine aE ?_;simp;refine aA ?_;simp;refine aF ?_;simp;have e:=KS (ex:=ex) (bl:=bl) hc5 g g3;refine aU (x:=(stmtB ex bl p).1.d) (by simp[e]) ?_;simp;exact aB hp [0] [(0,0)] (hH:=by simp[e])
   ·refine aA ?_;simp;refine aC ?_;simp;refine⟨λh15=>?_,λh15=>?_⟩
    ·refine aD ?_;have ip:=gY (p:=p) (by have:=hc5;simp only at this;omega);have lp:=eS ip;rw[<-bQ ip]at lp;have gp:=dC (s:=p.peek) hg;refine eO.ro hT hW (λ|74=>some (.gen ⟨[(0,0)],[],[],cS (p.took p.peek),.d (.bool (p.is p.peek))⟩)|_=>none) ?_;simp;refine⟨gP p p.peek,?_⟩;have kr:=uH (s:=p.peek) (by have:=hc5;simp only at this;omega);have hcm:=Jw (p.took p.peek) (n+1) ex k (by have:=hc5;simp only at this;omega) hE (by omega) gp;refine eO.ro hT hW (λ|76=>some (.gen ⟨[(0,0),(5,1)],[],[],UE (cmdP ex k (p.took p.peek)).2 (cmdP ex k (p.took p.peek)).1,.tup []⟩)|_=>none) ?_;simp[UE];refine⟨by simpa [UE]using hcm,?_⟩;refine RJ.mk ⟨(cmdP ex k (p.took p.peek)).1,(cmdP ex k (p.took p.peek)).2⟩ (aB hp [0,2,5] [(0,0),(2,2),(5,5)]) ?_;exact ES hc5 h15
    ·refine aD ?_;have hpf:=lU p.peek [36] (by have:=jI hg;omega) (by decide);refine eO.ro hT hW (λ|79=>some<| .plain ⟨.d (.bool (decide (p.peek.take 1=[36]))),true⟩|_=>none) ?_;simp;refine⟨hpf,?_⟩;refine aC ?_;simp;refine⟨λh18=>?_,λh18=>?_⟩
     ·refine aD ?_;have hlo:=wH p hg;have gl:=dB hg;refine eO.ro hT hW (λ|81=>some (.gen ⟨[(0,0)],[],[],cS (localP p).2,.d (.str (localP p).1)⟩)|_=>none) ?_;simp;refine⟨hlo,?_⟩;refine aD ?_;have hne:=iD (localP p).2 [61];have gn:=bM (s:=[61]) gl.2.1;refine eO.ro hT hW (λ|84=>some (.gen ⟨[(0,0)],[],[],cS ((localP p).2.need [61]),.tup []⟩)|_=>none) ?_;simp;refine⟨hne,?_⟩;have hx:=hE.ok ((localP p).2.need [61]) (by have:=gl.1;omega) gn.2;refine eO.ro hT hW (λ|86=>some (.gen ⟨[(0,0)],[],[],cS (ex ((localP p).2.need [61])).2,.d (ex ((localP p).2.need [61])).1.d⟩)|_=>none) ?_;simp;refine⟨by simpa using hx,?_⟩;refine OY (dK 5 [87] (fz:=false) (cs:=[.d (aH 9),.d (.str (localP p).1),.d (aH 0),.ow 87 0 1]) (ds:=[aH 9,.str (localP p).1,aH 0,.sl [(ex ((localP p).2.need [61])).1.d]]) (by simp) (by simp) (by simp) (by simp[aP.mut])) ?_;simp;refine RJ.mk ⟨.mk 9 (localP p).1 0 [(ex ((localP p).2.need [61])).1],(ex ((localP p).2.need [61])).2⟩ (aB hp [0,2,5] [(0,0),(2,2),(5,5)]) ?_;exact wN hc5 (by omega) (by omega) h18
     ·refine aD ?_;have hpl:=GP p hg;have gl:=iW (p.l.length+1) p (Nat.lt_succ_self _) hg;refine eO.ro hT hW (λ|16=>some (.gen ⟨[(0,0)],[],[],cS (placeP p).2,.d (placeP p).1.d⟩)|_=>none) ?_;simp;refine⟨by simpa using hpl,?_⟩;refine aD ?_;have hne:=iD (placeP p).2 [61];have gn:=bM (s:=[61]) gl.2.1;refine eO.ro hT hW (λ|20=>some (.gen ⟨[(0,0)],[],[],cS ((placeP p).2.need [61]),.tup []⟩)|_=>none) ?_;simp;refine⟨hne,?_⟩;have hx:=hE.ok ((placeP p).2.need [61]) (by have:=gl.1;omega) gn.2;refine eO.rd [[0,26],[0,26],[26],[26],[0,26],[0],[],[5],[5],[27],[27]] [[],[],[],[0],[],[26],[27,17],[],[27],[],[5]] (λ|24=>some (.gen ⟨[(0,0)],[],[],cS (ex ((placeP p).2.need [61])).2,.d (ex ((placeP p).2.need [61])).1.d⟩)|_=>none) ?_;simp;refine⟨by simpa using hx,?_⟩;refine OY (dK 5 [27] (fz:=false) (cs:=[.d (aH 10),.d (.str []),.d (aH 0),.ow 27 0 2]) (ds:=[aH 10,.str [],aH 0,.sl [(placeP p).1.d,(ex ((placeP p).2.need [61])).1.d]]) (by simp) (by simp) (by simp) (by simp[aP.mut])) ?_;simp;refine RJ.mk ⟨.mk 10 [] 0 [(placeP p).1,(ex ((placeP p).2.need [61])).1],(ex ((placeP p).2.need [61])).2⟩ (aB hp [0,2,5] [(0,0),(2,2),(5,5)]) ?_;exact wO hc5 (by omega) (by omega) h18
  ·refine aD ?_;have hne:=iD q [59];refine eO.ro hT hW (λ|90=>some (.gen ⟨[(0,0)],[],[],cS (q.need [59]),.tup []⟩)|_=>none) ?_;simp;refine⟨hne,?_⟩;refine aA ?_;simp;refine aF ?_;simp;exact aB hp [0] [(0,0)] (by simp[hc22]) (by simp[hc22])
end
section
attribute[local simp] hZ.cond Nd.d_eq nd_t nd_dr nd_td ndsD aO bH cI dH wI wJ wK lD ER
theorem Fs.need{T:List Tk}{p:PS}(f:iY T p)(w:aJ):iY T (p.need w)/\(p.need w).l.length<=p.l.length:=⟨f.need,fL⟩
theorem GX{T:List Tk}{m:Nat}{st:PS->Nd×PS}(hs:Fs T m st):∀(f:Nat) (ks:List Nd) (p:PS),p.l.length<m->iY T p->iY T (stmtsF st f ks p).2/\(stmtsF st f ks p).2.l.length<=p.l.length
 |0,_,p,_,hf=>⟨hf,Nat.le_refl _⟩
 |f+1,ks,p,hm,hf=>by
  rw[stmtsF];split
  ·exact⟨hf,Nat.le_refl _⟩
  ·obtain⟨a1,a2⟩:=hs p hm hf;obtain⟨b1,b2⟩:=GX hs f (ks++[(st p).1]) (st p).2 (by omega) a1;exact⟨b1,Nat.le_trans b2 a2⟩
theorem Fs.block{T:List Tk}{m:Nat}{st:PS->Nd×PS}(hs:Fs T m st):Fs T m (blockB st):=λp hm hf=>by
 obtain⟨a1,a2⟩:=Fs.need hf [123];obtain⟨b1,b2⟩:=GX hs ((p.need [123]).l.length+1) [] (p.need [123]) (by omega) a1;obtain⟨c1,c2⟩:=Fs.need b1 [125];exact⟨c1,Nat.le_trans c2 (Nat.le_trans b2 a2)⟩
theorem Qg{T:List Tk}(hg:bB T)(m:Nat):Fs T m λq=>exprP true (q.l.length+1) q:=λq _ f=>EU hg (q.l.length+1) q (Nat.lt_succ_self _) f
theorem Qh{s:aJ}{T:List Tk}(c:zE s T)(m:Nat):RR s T m 219 λq=>exprP true (q.l.length+1) q:=
 ⟨λq _ f=>(KV c (q.l.length+1)).ok q (Nat.lt_succ_self _) f,Qg c.hg m⟩
def yC(ex:PS->Nd×PS)(p:PS):Nd×PS:=
 if p.peek.take 1=[36]then(.mk 9 (localP p).1 0 [(ex ((localP p).2.need [61])).1],(ex ((localP p).2.need [61])).2)
 else(.mk 10 [] 0 [(placeP p).1,(ex ((placeP p).2.need [61])).1],(ex ((placeP p).2.need [61])).2)
def MV(ex bl:PS->Nd×PS)(k:Int)(p:PS):Nd×PS:=
 if k=11/\(bl (ex (p.took p.peek)).2).2.is sElse=true then
  (.mk k [] 0 [(ex (p.took p.peek)).1,(bl (ex (p.took p.peek)).2).1,(bl ((bl (ex (p.took p.peek)).2).2.took sElse)).1],(bl ((bl (ex (p.took p.peek)).2).2.took sElse)).2)
 else(.mk k [] 0 [(ex (p.took p.peek)).1,(bl (ex (p.took p.peek)).2).1],(bl (ex (p.took p.peek)).2).2)
theorem MW(s:aJ)(T:List Tk)(c:zE s T)(p:PS)(n:Nat)(st:PS->Nd×PS)(hS:RR s T n 174 st)(hE:Jv n st)(hn:p.l.length<n)(f:iY T p):jA Tryz.prog 141 [.bx 0 0] (dH s T p) (dH s T (blockB st p).2) (.d (blockB st p).1.d):=by
 unfold dH;have htt:=c.ht;have hpT:=f.le;refine fK Tryz.func141 rfl Tryz.ntmps141 Tryz.results141 λw0 X hp=>?_;refine aA ?_;simp;refine aA ?_;simp;refine mP (fz:=false) (cs:=[.d (aH 8),.d (.str []),.d (aH 0),.nl]) 3 3 1022 4 (by decide) ⟨by simp,by simp,by simp,?_⟩;simp;refine aD ?_;have hn2:=oY s T p c f [123] (by simp);have gl:=Fs.need f [123];refine eO.ro hT hW (λ|6=>some (.gen ⟨[(0,0)],[],[],dH s T (p.need [123]),.tup []⟩)|_=>none) ?_;simp;refine⟨hn2,?_⟩;refine aD ?_;refine aL ?_;refine aS (ι:=Vj) (λ⟨f,ks,q⟩=>aQ [(0,.bx 0 0),(2,.bx 2 0),(3,.bx 3 0)]) (λ⟨f,ks,q⟩=>aG [(0,.box false [.d (.str s),.d (.sl (T.map Tk.r)),.d (aH ((T.length:Int)- q.l.length)),.d (.bool (!decide (q.e=0))),.d (.bool (decide (q.e=5)))]),(2,.box false [.d (aH 0),.d (.str []),.d (aH 0),.nl]),(3,.box false [.d (aH 8),.d (.str []),.d (aH 0),.ow 1022 0 ks.length]),(1022,.row false 4 (ks.map Nd.d))]) (λ⟨f,ks,q⟩=>(q.e=0->q.l.length<f)/\iY T q/\q.l.length<=p.l.length/\ks.length+q.l.length<=p.l.length+(if q.e=0 then 0 else 1)/\stmtsF st ((p.need [123]).l.length+1) [] (p.need [123])=stmtsF st f ks q) (λ⟨f,ks,q⟩=>2*q.l.length+(if q.e=0 then 1 else 0)) ⟨(p.need [123]).l.length+1,[],p.need [123]⟩ (aB hp [0,2,3] [(0,0),(2,2),(3,3),(1022,1022)]) (⟨λ_=>Nat.lt_succ_self _,gl.1,gl.2,by have:=gl.2;simp only[List.length_nil];omega,rfl⟩) λ⟨f,ks,q⟩ hi3=>?_;refine aD ?_;refine aD ?_;have hpk:=jJ s T q c hi3.2.1;refine eO.ro hT hW (λ|14=>some (.gen ⟨[(0,0)],[],[],dH s T q,.d (.str q.peek)⟩)|_=>none) ?_;simp[tH];refine⟨λ_=>hpk,?_⟩;refine aC ?_;simp;refine⟨λg1 g2=>?_,λg=>?_⟩
 ·refine aE ?_;simp;refine aL ?_;have ha:q.l.length<=p.l.length:=hi3.2.2.1;have hk:ks.length+q.l.length<=p.l.length:=by have z:=hi3.2.2.2.1;simp only[g1,if_true]at z;omega
  have hs:=hS.ok q (by omega) hi3.2.1;have hle:=hS.fs q (by omega) hi3.2.1;have heat:=hE q (by omega) (hi3.2.1.good c) g1;refine eO.rd [[0,21],[0,21]] [[],[],[],[0],[21],[22,1022],[],[3]] (λ|20=>some (.gen ⟨[(0,0)],[],[],dH s T (st q).2,.d (st q).1.d⟩)|_=>none) ?_;simp;refine⟨⟨by simpa using hs,by omega,by omega⟩,?_⟩;refine Ks.mk ⟨f-1,ks++[(st q).1],(st q).2⟩ (aB hp [0,2,3] [(0,0),(2,2),(3,3),(22,1022)]) ?_ ?_
  ·refine⟨λe=>?_,hle.1,?_,?_,?_⟩
   ·show(st q).2.l.length<f-1;have z:=hi3.1 g1;rcases heat with h|h
    ·exact absurd e h
    ·omega
   ·show(st q).2.l.length<=p.l.length;omega
   ·show(ks++[(st q).1]).length+(st q).2.l.length<=p.l.length+(if(st q).2.e=0 then 0 else 1);rw[List.length_append,List.length_singleton];by_cases e:(st q).2.e=0
    ·rw[if_pos e];rcases heat with h|h
     ·exact absurd e h
     ·omega
    ·rw[if_neg e];omega
   ·rw[hi3.2.2.2.2];exact GS (hi3.1 g1) g1 g2
  ·show 2*(st q).2.l.length+(if(st q).2.e=0 then 1 else 0)<2*q.l.length+(if q.e=0 then 1 else 0);rw[if_pos g1];by_cases e:(st q).2.e=0
   ·rw[if_pos e];rcases heat with h|h
    ·exact absurd e h
    ·omega
   ·rw[if_neg e];omega
 ·refine bT ?_;simp;refine aD ?_;have hn5:=oY s T q c hi3.2.1 [125] (by simp);refine eO.ro hT hW (λ|25=>some (.gen ⟨[(0,0)],[],[],dH s T (q.need [125]),.tup []⟩)|_=>none) ?_;simp;refine⟨hn5,?_⟩;refine aA ?_;simp;refine aF ?_;simp;have e:blockB st p=(.mk 8 [] 0 ks,q.need [125]):=by unfold blockB;simp only[];rw[hi3.2.2.2.2,DA g]
  refine aU (x:=(blockB st p).1.d) (by simp[e]) ?_;simp;exact aB hp [0] [(0,0)] (hH:=by simp[e])
theorem RR.block{s:aJ}{T:List Tk}(c:zE s T){n:Nat}{st:PS->Nd×PS}(hS:RR s T n 174 st)(hE:Jv n st):RR s T n 141 (blockB st):=
 ⟨λq hq f=>MW s T c q n st hS hE hq f,Fs.block hS.fs⟩
theorem Jy(s:aJ)(T:List Tk)(c:zE s T)(p:PS)(w:aJ)(hw:p.peek=w)(n:Nat)(ex:PS->Nd×PS)(hE:RR s T n 219 ex)(hn:p.l.length<n)(f:iY T p):jA Tryz.prog 220 [.bx 0 0,.d (.str w)] (dH s T p) (dH s T (yC ex p).2) (.d (yC ex p).1.d):=by
 unfold dH;have gp:=f.good c;refine fK Tryz.func220 rfl Tryz.ntmps220 Tryz.results220 λw0 X hp=>?_;refine aA ?_;simp;refine aD ?_;refine aA ?_;simp;refine aC ?_;simp;refine⟨λg1 g2=>?_,λg=>?_⟩
 ·have gd:p.peek.take 1=[36]:=Uk.2 ⟨by rw[hw];omega,by rw[hw];exact g2⟩;refine aD ?_;have hlo:=oZ s T p c f;have gl:=(dB gp).1;refine eO.ro hT hW (λ|16=>some (.gen ⟨[(0,0)],[],[],dH s T (localP p).2,.d (.str (localP p).1)⟩)|_=>none) ?_;simp;refine⟨hlo,?_⟩;refine aD ?_;have hne:=oY s T (localP p).2 c f.local [61] (by simp);have gn:=Fs.need f.local [61];refine eO.ro hT hW (λ|19=>some (.gen ⟨[(0,0)],[],[],dH s T ((localP p).2.need [61]),.tup []⟩)|_=>none) ?_;simp;refine⟨hne,?_⟩;refine aD ?_;have hx:=hE.ok ((localP p).2.need [61]) (by omega) gn.1;refine eO.rd [[0,24],[0,24]] [[],[],[],[0],[24],[25],[],[5]] (λ|23=>some (.gen ⟨[(0,0)],[],[],dH s T (ex ((localP p).2.need [61])).2,.d (ex ((localP p).2.need [61])).1.d⟩)|_=>none) ?_;simp;refine⟨by simpa using hx,?_⟩;refine aA ?_;simp;refine aF ?_;simp;have e:yC ex p=(.mk 9 (localP p).1 0 [(ex ((localP p).2.need [61])).1],(ex ((localP p).2.need [61])).2):=if_pos gd;refine aU (x:=(yC ex p).1.d) (by simp[e]) ?_;simp;exact aB hp [0] [(0,0)] (hH:=by simp[e])
 ·have gd:¬p.peek.take 1=[36]:=λz=>by have y:=Uk.1 z;rw[hw]at y;have:=g (by omega);omega
  refine aE ?_;simp;refine aA ?_;simp;refine aD ?_;have hpl:=DC s T p c f;have gl:=(iW (p.l.length+1) p (Nat.lt_succ_self _) gp).1;refine eO.rd [[0,33],[0,33]] [[],[],[],[0],[33],[34],[],[6]] (λ|32=>some (.gen ⟨[(0,0)],[],[],dH s T (placeP p).2,.d (placeP p).1.d⟩)|_=>none) ?_;simp;refine⟨by simpa using hpl,?_⟩;refine aD ?_;have hne:=oY s T (placeP p).2 c f.place [61] (by simp);have gn:=Fs.need f.place [61];refine eO.ro hT hW (λ|37=>some (.gen ⟨[(0,0)],[],[],dH s T ((placeP p).2.need [61]),.tup []⟩)|_=>none) ?_;simp;refine⟨hne,?_⟩;refine aD ?_;have hx:=hE.ok ((placeP p).2.need [61]) (by omega) gn.1;refine eO.rd [[0,42],[0,42]] [[],[],[],[0],[42],[43,34],[],[6]] (λ|41=>some (.gen ⟨[(0,0)],[],[],dH s T (ex ((placeP p).2.need [61])).2,.d (ex ((placeP p).2.need [61])).1.d⟩)|_=>none) ?_;simp;refine⟨by simpa using hx,?_⟩;refine aA ?_;simp;refine aF ?_;simp;have e:yC ex p=(.mk 10 [] 0 [(placeP p).1,(ex ((placeP p).2.need [61])).1],(ex ((placeP p).2.need [61])).2):=if_neg gd;refine aU (x:=(yC ex p).1.d) (by simp[e]) ?_;simp;exact aB hp [0] [(0,0)] (hH:=by simp[e])
end
section
attribute[local simp] hZ.cond Nd.d_eq nd_t nd_dr nd_td ndsD aO bH cI dH wI wJ wK lD ER
theorem MX{s:aJ}{T:List Tk}{c:Prop}[Decidable c]{f:Nat->aP}{a b:PS}{x:Nat}(h:f 0=.box false [.d (.str s),.d (.sl (T.map Tk.r)),.d (aH ((T.length:Int)- b.l.length)),.d (.bool (!decide (b.e=0))),.d (.bool (decide (b.e=5)))]):
 bI f (if c then [(0,.box false [.d (.str s),.d (.sl (T.map Tk.r)),.d (aH ((T.length:Int)- a.l.length)),.d (.bool (!decide (a.e=0))),.d (.bool (decide (a.e=5)))])]else []) x=
  if x=0 then .box false [.d (.str s),.d (.sl (T.map Tk.r)),.d (aH ((T.length:Int)-(if c then a else b).l.length)),.d (.bool (!decide ((if c then a else b).e=0))),.d (.bool (decide ((if c then a else b).e=5)))]else f x:=by
 by_cases hc:c
 ·simp only[hc,if_true,bI,bR]
 ·simp only[hc,if_false,bI];split
  ·rename_i e;rw[e];exact h
  ·rfl
def Qi:aJ:=[119,104,105,108,101]
theorem Sq{ex bl:PS->Nd×PS}{k:Int}{p:PS}(hs:p.took p.peek=p.skip)(h:k=11)(he:(bl (ex p.skip).2).2.is sElse=true):
 MV ex bl k p=(.mk k [] 0 [(ex p.skip).1,(bl (ex p.skip).2).1,(bl ((bl (ex p.skip).2).2.took sElse)).1],(bl ((bl (ex p.skip).2).2.took sElse)).2):=by
 unfold MV;rw[hs,if_pos ⟨h,he⟩]
theorem TO{ex bl:PS->Nd×PS}{k:Int}{p:PS}(hs:p.took p.peek=p.skip)(he:k=11->(bl (ex p.skip).2).2.is sElse=false):
 MV ex bl k p=(.mk k [] 0 [(ex p.skip).1,(bl (ex p.skip).2).1],(bl (ex p.skip).2).2):=by
 unfold MV;rw[hs,if_neg (λz=>by rw[he z.1]at z;exact absurd z.2 (by simp))]
theorem Jz(s:aJ)(T:List Tk)(c:zE s T)(p:PS)(w:aJ)(k:Int)(hk:k=11\/k=12)(hw:w=Qi↔k=12)(hpk:p.peek≠[])(n:Nat)(ex bl:PS->Nd×PS)(hE:RR s T (n+1) 219 ex)(hB:RR s T n 141 bl)(hn:p.l.length<n+1)(f:iY T p):jA Tryz.prog 203 [.bx 0 0,.d (.str w)] (dH s T p) (dH s T (MV ex bl k p).2) (.d (MV ex bl k p).1.d):=by
 unfold dH;have htt:=c.ht;have hsk:=qC (T:=T) hpk;have hps:=f.pos hpk;have htk:p.took p.peek=p.skip:=bQ (dO.2 ⟨hpk,rfl⟩);have hl:=oP hpk;have fx:=hE.fs p.skip (by omega) f.skip;have fb:=hB.fs (ex p.skip).2 (by omega) fx.1;refine fK Tryz.func203 rfl Tryz.ntmps203 Tryz.results203 λw0 X hp=>?_;refine aA ?_;simp;refine aA ?_;simp;refine⟨by omega,?_⟩;simp only[<-hsk];refine aA ?_;simp;refine aZ (ι:=Vo) (λ⟨j⟩=>aQ [(0,.bx 0 0),(4,.bx 4 0),(5,.bx 5 0)]) (λ⟨j⟩=>aG [(0,.box false [.d (.str s),.d (.sl (T.map Tk.r)),.d (aH ((T.length:Int)- p.skip.l.length)),.d (.bool (!decide (p.e=0))),.d (.bool (decide (p.e=5)))]),(4,.box false [.d (aH 0),.d (.str []),.d (aH 0),.nl]),(5,.box false [.d (aH j),.d (.str []),.d (aH 0),.nl])]) (λ⟨j⟩=>k=j) ?_ λ⟨j⟩ hc5=>?_
 ·refine aA ?_;simp;refine aC ?_;simp;refine⟨λh3=>?_,λh3=>?_⟩
  ·have ek:k=12:=hw.1 h3;refine aM ?_;simp;refine RJ.mk ⟨12⟩ (aB hp [0,4,5] [(0,0),(4,4),(5,5)]) ?_;exact ek
  ·have ek:k=11:=hk.resolve_right λz=>h3 (hw.2 z);refine aE ?_;simp;refine RJ.mk ⟨11⟩ (aB hp [0,4,5] [(0,0),(4,4),(5,5)]) ?_;exact ek
 ·refine aD ?_;have hj:k=j:=hc5;subst hj;have he:=hE.ok p.skip (by omega) f.skip;rw[Nd.d_eq]at he;refine eO.rd [[0,21],[0,21]] [[],[],[],[0],[21],[22],[],[5]] (λ|20=>some (.gen ⟨[(0,0)],[],[],dH s T (ex p.skip).2,.d (ex p.skip).1.d⟩)|_=>none) ?_;simp;refine⟨he,?_⟩;refine aD ?_;have hb:=hB.ok (ex p.skip).2 (by omega) fx.1;refine eO.rd [[0,28],[0,28]] [[],[],[],[0],[28],[29,22],[],[5]] (λ|27=>some (.gen ⟨[(0,0)],[],[],dH s T (bl (ex p.skip).2).2,.d (bl (ex p.skip).2).1.d⟩)|_=>none) ?_;simp;refine⟨by simpa using hb,?_⟩;refine aD ?_;refine aD ?_;have ht:=uU s T (bl (ex p.skip).2).2 c fb.1 sElse (by decide);refine eO.ro hT hW (λ|36=>some (.gen ⟨[(0,0)],[],[],dH s T ((bl (ex p.skip).2).2.took sElse),.d (.bool ((bl (ex p.skip).2).2.is sElse))⟩)|_=>none) ?_;simp[MX (b:=(bl (ex p.skip).2).2)];refine⟨λ_=>ht,?_⟩;refine aC ?_;simp;refine⟨λg3 g4=>?_,λg3=>?_⟩
  ·simp only[g3,if_true];have lt:((bl (ex p.skip).2).2.took sElse).l.length<=(bl (ex p.skip).2).2.l.length:=ET;have hb2:=hB.ok ((bl (ex p.skip).2).2.took sElse) (by omega) fb.1.took;refine eO.rd [[0,42],[0,42]] [[],[],[],[0],[42],[43,29],[],[5]] (λ|41=>some (.gen ⟨[(0,0)],[],[],dH s T (bl ((bl (ex p.skip).2).2.took sElse)).2,.d (bl ((bl (ex p.skip).2).2.took sElse)).1.d⟩)|_=>none) ?_;simp;refine⟨by simpa using hb2,?_⟩;refine aA ?_;simp;refine aF ?_;simp;subst g3;have e:=Sq (ex:=ex) (bl:=bl) htk rfl g4;refine aU (x:=(MV ex bl 11 p).1.d) (by simp[e]) ?_;simp;exact aB hp [0] [(0,0)] (hH:=by simp[e])
  ·have eq:(if k=11 then(bl (ex p.skip).2).2.took sElse else(bl (ex p.skip).2).2)=(bl (ex p.skip).2).2:=by
    split
    ·rename_i z;exact fB (by simp[g3 z])
    ·rfl
   simp only[eq];refine aE ?_;simp;refine aA ?_;simp;refine aF ?_;simp;have e:=TO (ex:=ex) (bl:=bl) htk g3;refine aU (x:=(MV ex bl k p).1.d) (by simp[e]) ?_;simp;exact aB hp [0] [(0,0)] (hH:=by simp[e])
def nC(ex:PS->Nd×PS)(p:PS):Nd×PS:=if 12<kindP p.peek then cmdP ex (kindP p.peek) (p.took p.peek)else yC ex p
theorem EV{w:aJ}(h:0<=kindP w):wordAt (kindP w)=w/\kindP w<26:=by
 unfold kindP wordI at h|-;split at h
 ·omega
 ·rename_i hw;rw[if_neg hw];cases e:(List.range 26).find? (λi=>decide (wordsL.getD i []=w))with
  |none=>rw[e]at h;simp at h
  |some i=>
   have h1:=List.find?_some e;have h2:=List.mem_range.1 (List.mem_of_find?_eq_some e);simp only[decide_eq_true_eq]at h1;exact⟨h1,by simp only;omega⟩
theorem yD{k:Int}{p:PS}(h:¬(k=19\/k=20))(h2:¬(k=21\/k=25\/k=24)):cmdA k p=nameP p:=by unfold cmdA;rw[if_neg h,if_neg h2]
theorem GY{k:Int}{p:PS}(h:k=19\/k=20):cmdA k p=localP p:=by unfold cmdA;rw[if_pos h]
theorem yE{k:Int}{p:PS}(h:k=21\/k=25\/k=24):cmdA k p=([],p):=by unfold cmdA;rw[if_neg (by omega),if_pos h]
theorem JA(s:aJ)(T:List Tk)(c:zE s T)(p:PS)(w:aJ)(hw:p.peek=w)(n:Nat)(ex:PS->Nd×PS)(hE:RR s T n 219 ex)(hn:p.l.length<n)(f:iY T p):jA Tryz.prog 204 [.bx 0 0,.d (.str w)] (dH s T p) (dH s T (nC ex p).2) (.d (nC ex p).1.d):=by
 unfold dH;have htt:=c.ht;have hst:=Jk;have q2:=mD;refine fK Tryz.func204 rfl Tryz.ntmps204 Tryz.results204 λw0 X hp=>?_;refine aA ?_;simp;refine aA ?_;simp;refine aZ (ι:=Nat) (λi=>aQ [(0,.bx 0 0),(1,.d (.str w)),(4,.bx 4 0),(5,.d (aH (i:Int)))]) (λi=>aG [(0,.box false [.d (.str s),.d (.sl (T.map Tk.r)),.d (aH ((T.length:Int)- p.l.length)),.d (.bool (!decide (p.e=0))),.d (.bool (decide (p.e=5)))]),(4,.box false [.d (aH 0),.d (.str []),.d (aH 0),.nl])]) (λi=>13<=i/\i<=26/\(∀j:Nat,13<=j->j<i->wordAt (j:Int)≠w)/\((i:Int)<26->wordAt (i:Int)=w)) ?_ λi hc4=>?_
 ·refine aL ?_;refine aS (ι:=Nat) (λi=>aQ [(0,.bx 0 0),(1,.d (.str w)),(4,.bx 4 0),(5,.d (aH (i:Int)))]) (λi=>aG [(0,.box false [.d (.str s),.d (.sl (T.map Tk.r)),.d (aH ((T.length:Int)- p.l.length)),.d (.bool (!decide (p.e=0))),.d (.bool (decide (p.e=5)))]),(4,.box false [.d (aH 0),.d (.str []),.d (aH 0),.nl])]) (λi=>13<=i/\i<=26/\∀j:Nat,13<=j->j<i->wordAt (j:Int)≠w) (λi=>26-i) 13 (aB hp [0,1,4,5] [(0,0),(4,4)]) (⟨Nat.le_refl _,by decide,λj h1 h2=>absurd h2 (by omega)⟩) λi hi2=>?_;refine aD ?_;refine aD ?_;rcases(by have:=hi2.2.1;omega:¬(i:Int)<26\/(i:Int)<26)with h26|h26
  ·refine sN hT hW (λ_=>none) (by intro d;first|exact⟨rfl,λ_ h=>h⟩|(split<;>exact⟨rfl,λ_ h=>h⟩)) ?_;simp[h26];refine aC ?_;simp[h26];refine bT ?_;simp;refine RJ.mk i (aB hp [0,1,4,5] [(0,0),(4,4)]) ?_;exact⟨hi2.1,hi2.2.1,hi2.2.2,λz=>absurd z h26⟩
  ·have q1:=vX (k:=(i:Int)) (by omega) h26;rw[Int.toNat_natCast]at q1;refine eO.ro hT hW (λ|10=>some<| .plain ⟨.d (.sl tQ),true⟩|_=>none) ?_;simp[h26,q1];refine⟨⟨hst,by have:=hi2.2.1;omega⟩,?_⟩;refine aC ?_;simp;refine⟨λh2=>?_,λh2=>?_⟩
   ·refine aE ?_;simp;refine aL ?_;refine aM ?_;simp;refine⟨by omega,?_⟩;refine Ks.mk (i+1) (aB hp [0,1,4,5] [(0,0),(4,4)]) ?_ ?_
    ·refine⟨by omega,by omega,λj z1 z2=>?_⟩;by_cases e:j=i
     ·rw[e];exact h2
     ·exact hi2.2.2 j z1 (by omega)
    ·omega
   ·refine bT ?_;simp;refine RJ.mk i (aB hp [0,1,4,5] [(0,0),(4,4)]) ?_;exact⟨hi2.1,hi2.2.1,hi2.2.2,λ_=>h2⟩
 ·refine aD ?_;refine aA ?_;simp;refine aC ?_;simp;refine⟨λh4=>?_,λh4=>?_⟩
  ·have hlow:¬12<kindP p.peek:=λz=>by
    obtain⟨z1,z2⟩:=EV (w:=p.peek) (by omega);refine hc4.2.2.1 (kindP p.peek).toNat (by omega) (by omega) ?_;rw[Int.toNat_of_nonneg (by omega),z1,hw]
   have esm:nC ex p=yC ex p:=if_neg hlow;refine aD ?_;have ha:=Jy s T c p w hw n ex hE hn f;refine eO.ro hT hW (λ|23=>some (.gen ⟨[(0,0)],[],[],dH s T (yC ex p).2,.d (yC ex p).1.d⟩)|_=>none) ?_;simp;refine⟨by simpa using ha,?_⟩;refine aF ?_;simp;exact aB hp [0] [(0,0)] (by simp[esm]) (by simp[esm])
  ·have hi:13<=i/\i<=25:=by have:=hc4.1;have:=hc4.2.1;omega
   have hwi:=hc4.2.2.2 (by omega);have hki:kindP p.peek=(i:Int):=by rw[hw,<-hwi];exact Mp (by omega)
   have hpk:p.peek≠[]:=λe=>by rw[wM e]at hki;omega
   have hsk:=qC (T:=T) hpk;have hps:=f.pos hpk;have htk:p.took p.peek=p.skip:=bQ (dO.2 ⟨hpk,rfl⟩);have esm:nC ex p=cmdP ex (i:Int) p.skip:=by unfold nC;rw[hki,htk,if_pos (by omega)]
   have hl:=oP hpk;have fsk:=f.skip;refine aE ?_;simp;refine aA ?_;simp;refine⟨by omega,?_⟩;simp only[<-hsk];refine aA ?_;simp;refine aD ?_;refine aA ?_;simp;refine aL ?_;refine aZ (ι:=BC) (λ⟨b⟩=>aQ [(0,.bx 0 0),(4,.bx 4 0),(6,.bx 6 0),(33,.d (aH (i:Int))),(34,.d (.bool b))]) (λ⟨b⟩=>aG [(0,.box false [.d (.str s),.d (.sl (T.map Tk.r)),.d (aH ((T.length:Int)- p.skip.l.length)),.d (.bool (!decide (p.e=0))),.d (.bool (decide (p.e=5)))]),(4,.box false [.d (aH 0),.d (.str []),.d (aH 0),.nl]),(6,.box false [.d (aH (i:Int)),.d (.str []),.d (aH 0),.nl])]) (λ⟨b⟩=>b=true↔((i:Int)=13\/(i:Int)=14\/(i:Int)=17\/(i:Int)=18)) ?_ λ⟨b⟩ hc13=>?_
   ·refine aA ?_;simp;refine aC ?_;simp;refine⟨λh9=>?_,λh9=>?_⟩
    ·refine aE ?_;simp;refine RJ.mk ⟨decide ((i:Int)=13)⟩ (aB hp [0,4,6,33,34] [(0,0),(4,4),(6,6)]) ?_;simp[h9]
    ·refine aA ?_;simp;refine aC ?_;simp;refine⟨λh10=>?_,λh10=>?_⟩
     ·refine aE ?_;simp;refine RJ.mk ⟨decide ((i:Int)=14)⟩ (aB hp [0,4,6,33,34] [(0,0),(4,4),(6,6)]) ?_;simp[h10]
     ·refine aA ?_;simp;refine aC ?_;simp;refine⟨λh11=>?_,λh11=>?_⟩
      ·refine aE ?_;simp;refine RJ.mk ⟨decide ((i:Int)=17)⟩ (aB hp [0,4,6,33,34] [(0,0),(4,4),(6,6)]) ?_;simp[h11]
      ·refine aM ?_;simp;refine RJ.mk ⟨decide ((i:Int)=18)⟩ (aB hp [0,4,6,33,34] [(0,0),(4,4),(6,6)]) ?_;simp only[decide_eq_true_eq];omega
   ·refine aC ?_;simp;refine⟨λh13=>?_,λh13=>?_⟩
    ·have q13:=hc13.1 h13;have hna:=rR s T p.skip c fsk;refine eO.ro hT hW (λ|40=>some (.gen ⟨[(0,0)],[],[],dH s T (nameP p.skip).2,.d (.str (nameP p.skip).1)⟩)|_=>none) ?_;simp;refine⟨hna,?_⟩;refine aA ?_;simp;refine aF ?_;simp;have e:=pB (ex:=ex) (k:=(i:Int)) (p:=p.skip) (by omega) (by omega) (by omega);rw[yD (by omega) (by omega)]at e;refine aU (x:=(nC ex p).1.d) (by simp[esm,e]) ?_;simp;exact aB hp [0] [(0,0)] (hH:=by simp[esm,e])
    ·have q13:¬((i:Int)=13\/(i:Int)=14\/(i:Int)=17\/(i:Int)=18):=λq=>by simp[hc13.2 q]at h13
     refine aZ (ι:=BC) (λ⟨b⟩=>aQ [(0,.bx 0 0),(4,.bx 4 0),(6,.bx 6 0),(33,.d (aH (i:Int))),(42,.d (.bool b))]) (λ⟨b⟩=>aG [(0,.box false [.d (.str s),.d (.sl (T.map Tk.r)),.d (aH ((T.length:Int)- p.skip.l.length)),.d (.bool (!decide (p.e=0))),.d (.bool (decide (p.e=5)))]),(4,.box false [.d (aH 0),.d (.str []),.d (aH 0),.nl]),(6,.box false [.d (aH (i:Int)),.d (.str []),.d (aH 0),.nl])]) (λ⟨b⟩=>b=true↔((i:Int)=15\/(i:Int)=22)) ?_ λ⟨b⟩ hc16=>?_
     ·refine aA ?_;simp;refine aC ?_;simp;refine⟨λh14=>?_,λh14=>?_⟩
      ·refine aE ?_;simp;refine RJ.mk ⟨decide ((i:Int)=15)⟩ (aB hp [0,4,6,33,42] [(0,0),(4,4),(6,6)]) ?_;simp[h14]
      ·refine aM ?_;simp;refine RJ.mk ⟨decide ((i:Int)=22)⟩ (aB hp [0,4,6,33,42] [(0,0),(4,4),(6,6)]) ?_;simp only[decide_eq_true_eq];omega
     ·refine aC ?_;simp;refine⟨λh16=>?_,λh16=>?_⟩
      ·have q16:=hc16.1 h16;refine aD ?_;have hna:=rR s T p.skip c fsk;have gl:=(cP (fsk.good c)).1;refine eO.ro hT hW (λ|46=>some (.gen ⟨[(0,0)],[],[],dH s T (nameP p.skip).2,.d (.str (nameP p.skip).1)⟩)|_=>none) ?_;simp;refine⟨hna,?_⟩;have hx:=hE.ok (nameP p.skip).2 (by omega) fsk.name;refine eO.rd [[0,52],[0,52]] [[],[],[],[0],[52],[53],[],[6]] (λ|51=>some (.gen ⟨[(0,0)],[],[],dH s T (ex (nameP p.skip).2).2,.d (ex (nameP p.skip).2).1.d⟩)|_=>none) ?_;simp;refine⟨by simpa using hx,?_⟩;refine aA ?_;simp;refine aF ?_;simp;have e:=BI (ex:=ex) (k:=(i:Int)) (p:=p.skip) (by omega);rw[yD (by omega) (by omega)]at e;refine aU (x:=(nC ex p).1.d) (by simp[esm,e]) ?_;simp;exact aB hp [0] [(0,0)] (hH:=by simp[esm,e])
      ·have q16:¬((i:Int)=15\/(i:Int)=22):=λq=>by simp[hc16.2 q]at h16
       refine aZ (ι:=BC) (λ⟨b⟩=>aQ [(0,.bx 0 0),(4,.bx 4 0),(6,.bx 6 0),(33,.d (aH (i:Int))),(55,.d (.bool b))]) (λ⟨b⟩=>aG [(0,.box false [.d (.str s),.d (.sl (T.map Tk.r)),.d (aH ((T.length:Int)- p.skip.l.length)),.d (.bool (!decide (p.e=0))),.d (.bool (decide (p.e=5)))]),(4,.box false [.d (aH 0),.d (.str []),.d (aH 0),.nl]),(6,.box false [.d (aH (i:Int)),.d (.str []),.d (aH 0),.nl])]) (λ⟨b⟩=>b=true↔((i:Int)=16\/(i:Int)=23)) ?_ λ⟨b⟩ hc20=>?_
       ·refine aA ?_;simp;refine aC ?_;simp;refine⟨λh18=>?_,λh18=>?_⟩
        ·refine aE ?_;simp;refine RJ.mk ⟨decide ((i:Int)=16)⟩ (aB hp [0,4,6,33,55] [(0,0),(4,4),(6,6)]) ?_;simp[h18]
        ·refine aM ?_;simp;refine RJ.mk ⟨decide ((i:Int)=23)⟩ (aB hp [0,4,6,33,55] [(0,0),(4,4),(6,6)]) ?_;simp only[decide_eq_true_eq];omega
       ·refine aC ?_;simp;refine⟨λh20=>?_,λh20=>?_⟩
        ·have q20:=hc20.1 h20;refine aD ?_;have hna:=rR s T p.skip c fsk;refine eO.ro hT hW (λ|59=>some (.gen ⟨[(0,0)],[],[],dH s T (nameP p.skip).2,.d (.str (nameP p.skip).1)⟩)|_=>none) ?_;simp;refine⟨hna,?_⟩;have hlo:=oZ s T (nameP p.skip).2 c fsk.name;refine eO.rd [[0,66],[0,66]] [[],[],[],[0],[],[66],[67],[],[6]] (λ|64=>some (.gen ⟨[(0,0)],[],[],dH s T (localP (nameP p.skip).2).2,.d (.str (localP (nameP p.skip).2).1)⟩)|_=>none) ?_;simp;refine⟨hlo,?_⟩;refine aA ?_;simp;refine aF ?_;simp;have e:=Al (ex:=ex) (k:=(i:Int)) (p:=p.skip) (by omega) (by omega);rw[yD (by omega) (by omega)]at e;refine aU (x:=(nC ex p).1.d) (by simp[esm,e]) ?_;simp;exact aB hp [0] [(0,0)] (hH:=by simp[esm,e])
        ·have q20:¬((i:Int)=16\/(i:Int)=23):=λq=>by simp[hc20.2 q]at h20
         refine aA ?_;simp;refine aC ?_;simp;refine⟨λh22=>?_,λh22=>?_⟩
         ·refine aD ?_;have hlo:=oZ s T p.skip c fsk;refine eO.ro hT hW (λ|72=>some (.gen ⟨[(0,0)],[],[],dH s T (localP p.skip).2,.d (.str (localP p.skip).1)⟩)|_=>none) ?_;simp;refine⟨hlo,?_⟩;have hnu:=nT s T (localP p.skip).2 c fsk.local (i:Int) 2 6 (.inl (by rw[h22];rfl)) (by rw[h22];rfl);refine eO.ro hT hW (λ|75=>some (.gen ⟨[(0,0)],[],[],dH s T (numeralP (i:Int) (localP p.skip).2).2,.d (aH (numeralP (i:Int) (localP p.skip).2).1)⟩)|_=>none) ?_;simp;refine⟨hnu,?_⟩;refine aA ?_;simp;refine aF ?_;simp;have e:=tI (ex:=ex) (k:=(i:Int)) (p:=p.skip) (by omega) (by omega) (by omega);rw[GY (by omega)]at e;refine aU (x:=(nC ex p).1.d) (by simp[esm,e]) ?_;simp;exact aB hp [0] [(0,0)] (hH:=by simp[esm,e])
         ·refine aA ?_;simp;refine aC ?_;simp;refine⟨λh25=>?_,λh25=>?_⟩
          ·have hlo:=oZ s T p.skip c fsk;refine eO.ro hT hW (λ|80=>some (.gen ⟨[(0,0)],[],[],dH s T (localP p.skip).2,.d (.str (localP p.skip).1)⟩)|_=>none) ?_;simp;refine⟨hlo,?_⟩;refine aA ?_;simp;refine aF ?_;simp;have e:=pB (ex:=ex) (k:=(i:Int)) (p:=p.skip) (by omega) (by omega) (by omega);rw[GY (by omega)]at e;refine aU (x:=(nC ex p).1.d) (by simp[esm,e]) ?_;simp;exact aB hp [0] [(0,0)] (hH:=by simp[esm,e])
          ·refine aA ?_;simp;refine aC ?_;simp;refine⟨λh27=>?_,λh27=>?_⟩
           ·have hnu:=nT s T p.skip c fsk (i:Int) 1 9 (.inl (by rw[h27];rfl)) (by rw[h27];rfl);refine eO.ro hT hW (λ|85=>some (.gen ⟨[(0,0)],[],[],dH s T (numeralP (i:Int) p.skip).2,.d (aH (numeralP (i:Int) p.skip).1)⟩)|_=>none) ?_;simp;refine⟨hnu,?_⟩;refine aA ?_;simp;refine aF ?_;simp;have e:=tI (ex:=ex) (k:=(i:Int)) (p:=p.skip) (by omega) (by omega) (by omega);rw[yE (by omega)]at e;refine aU (x:=(nC ex p).1.d) (by simp[esm,e]) ?_;simp;exact aB hp [0] [(0,0)] (hH:=by simp[esm,e])
           ·refine aA ?_;simp;refine aC ?_;simp;refine⟨λh29=>?_,λh29=>?_⟩
            ·have hnu:=nT s T p.skip c fsk (i:Int) 1 99 (.inl (by rw[h29];rfl)) (by rw[h29];rfl);refine eO.ro hT hW (λ|90=>some (.gen ⟨[(0,0)],[],[],dH s T (numeralP (i:Int) p.skip).2,.d (aH (numeralP (i:Int) p.skip).1)⟩)|_=>none) ?_;simp;refine⟨hnu,?_⟩;refine aA ?_;simp;refine aF ?_;simp;have e:=tI (ex:=ex) (k:=(i:Int)) (p:=p.skip) (by omega) (by omega) (by omega);rw[yE (by omega)]at e;refine aU (x:=(nC ex p).1.d) (by simp[esm,e]) ?_;simp;exact aB hp [0] [(0,0)] (hH:=by simp[esm,e])
            ·refine aA ?_;simp;refine aC ?_;simp;refine⟨λh31=>?_,λh31=>?_⟩
             ·have hx:=hE.ok p.skip (by omega) fsk;rw[Nd.d_eq]at hx;refine eO.rd [[0,98],[0,98]] [[],[],[],[0],[98],[99],[],[6]] (λ|97=>some (.gen ⟨[(0,0)],[],[],dH s T (ex p.skip).2,.d (ex p.skip).1.d⟩)|_=>none) ?_;simp;refine⟨hx,?_⟩;refine aA ?_;simp;refine aF ?_;simp;have e:=BI (ex:=ex) (k:=(i:Int)) (p:=p.skip) (by omega);rw[yE (by omega)]at e;refine aU (x:=(nC ex p).1.d) (by simp[esm,e]) ?_;simp;exact aB hp [0] [(0,0)] (hH:=by simp[esm,e])
             ·refine aE ?_;simp;refine aA ?_;simp;refine aF ?_;exact absurd (show False by omega) id
theorem TP{T:List Tk}(hg:bB T){n:Nat}{ex:PS->Nd×PS}(hx:Fs T n ex):Fs T n (yC ex):=λp h f=>by
 have gp:=f.goodT hg;unfold yC;split
 ·obtain⟨a1,a2⟩:=Fs.need f.local [61];have l1:=(dB gp).1;obtain⟨b1,b2⟩:=hx ((localP p).2.need [61]) (by omega) a1;exact⟨b1,by simp only;omega⟩
 ·obtain⟨a1,a2⟩:=Fs.need f.place [61];have l1:=(iW (p.l.length+1) p (Nat.lt_succ_self _) gp).1;obtain⟨b1,b2⟩:=hx ((placeP p).2.need [61]) (by omega) a1;exact⟨b1,by simp only;omega⟩
theorem Fs.cmdA{T:List Tk}(hg:bB T){k:Int}{p:PS}(f:iY T p):iY T (cmdA k p).2/\(cmdA k p).2.l.length<=p.l.length:=by
 have gp:=f.goodT hg;refine⟨?_,(pA gp).1⟩;unfold Go.Eng.cmdA;split
 ·exact f.local
 ·split
  ·exact f
  ·exact f.name
theorem TQ{T:List Tk}(hg:bB T){n:Nat}{ex:PS->Nd×PS}(hx:Fs T n ex)(k:Int):Fs T n (cmdP ex k):=λp h f=>by
 obtain⟨a1,a2⟩:=Fs.cmdA (k:=k) hg f;have ga:=a1.goodT hg;by_cases h1:k=15\/k=22\/k=24
 ·rw[BI h1];obtain⟨b1,b2⟩:=hx _ (by omega) a1;exact⟨b1,by simp only;omega⟩
 ·by_cases h2:k=16\/k=23
  ·rw[Al h1 h2];have:=(dB ga).1;exact⟨a1.local,by simp only;omega⟩
  ·by_cases h3:k=19\/k=21\/k=25
   ·rw[tI h1 h2 h3];have:=(dZ (k:=k) ga).1;exact⟨a1.numeral,by simp only;omega⟩
   ·rw[pB h1 h2 h3];exact⟨a1,a2⟩
theorem Qj{T:List Tk}(hg:bB T){n:Nat}{ex:PS->Nd×PS}(hx:Fs T n ex):Fs T n (nC ex):=λp h f=>by
 unfold nC;split
 ·have l1:=ET (p:=p) (w:=p.peek);obtain⟨a1,a2⟩:=TQ hg hx (kindP p.peek) (p.took p.peek) (by omega) f.took;exact⟨a1,by omega⟩
 ·exact TP hg hx p h f
theorem KW{ex bl:PS->Nd×PS}{p:PS}(h:kindP p.peek=11\/kindP p.peek=12):stmtB ex bl p=MV ex bl (kindP p.peek) p:=by
 unfold MV;split
 ·rename_i z;exact Am rfl z.1 z.2
 ·rename_i z;refine KS rfl h λq=>?_;cases e:(bl (ex (p.took p.peek)).2).2.is sElse with
  |false=>rfl
  |true=>exact absurd ⟨q,e⟩ z
theorem GZ{ex bl:PS->Nd×PS}{p:PS}(h:¬(kindP p.peek=11\/kindP p.peek=12)):stmtB ex bl p=((nC ex p).1,(nC ex p).2.need [59]):=by
 unfold nC;by_cases h2:12<kindP p.peek
 ·rw[if_pos h2,ES rfl h2]
 ·rw[if_neg h2];unfold yC;by_cases h3:p.peek.take 1=[36]
  ·rw[if_pos h3,wN rfl h h2 h3]
  ·rw[if_neg h3,wO rfl h h2 h3]
theorem Fs.stmtB{T:List Tk}(hg:bB T){n:Nat}{ex bl:PS->Nd×PS}(hx:Fs T (n+1) ex)(hb:Fs T n bl):Fs T (n+1) (stmtB ex bl):=λp h f=>by
 by_cases hk:kindP p.peek=11\/kindP p.peek=12
 ·rw[KW hk];have l0:=nA (gY (p:=p) (by omega));obtain⟨a1,a2⟩:=hx (p.took p.peek) (by omega) f.took;obtain⟨b1,b2⟩:=hb (ex (p.took p.peek)).2 (by omega) a1;unfold MV;split
  ·have l2:=ET (p:=(bl (ex (p.took p.peek)).2).2) (w:=sElse);obtain⟨c1,c2⟩:=hb ((bl (ex (p.took p.peek)).2).2.took sElse) (by omega) b1.took;exact⟨c1,by simp only;omega⟩
  ·exact⟨b1,by simp only;omega⟩
 ·rw[GZ hk];obtain⟨a1,a2⟩:=Qj hg hx p h f;obtain⟨b1,b2⟩:=Fs.need a1 [59];exact⟨b1,by simp only;omega⟩
theorem Qk{w:aJ}:w=[105,102]↔kindP w=11:=by
 constructor
 ·rintro rfl;decide
 ·intro h;have:=(EV (w:=w) (by omega)).1;rw[h]at this;exact this.symm
theorem JB{w:aJ}:w=Qi↔kindP w=12:=by
 constructor
 ·rintro rfl;decide
 ·intro h;have:=(EV (w:=w) (by omega)).1;rw[h]at this;exact this.symm
theorem Ha(s:aJ)(T:List Tk)(c:zE s T)(p:PS)(n:Nat)(ex bl:PS->Nd×PS)(hE:RR s T (n+1) 219 ex)(hB:RR s T n 141 bl)(hn:p.l.length<n+1)(f:iY T p):jA Tryz.prog 174 [.bx 0 0] (dH s T p) (dH s T (stmtB ex bl p).2) (.d (stmtB ex bl p).1.d):=by
 unfold dH;refine fK Tryz.func174 rfl Tryz.ntmps174 Tryz.results174 λw0 X hp=>?_;refine aA ?_;simp;refine aX hT hW (λ|6=>some (.gen ⟨[(0,0)],[],[],dH s T p,.d (.str p.peek)⟩)|_=>none) ?_;simp;refine⟨jJ s T p c f,?_⟩;refine aD ?_;refine aA ?_;simp;refine aC ?_;simp;refine⟨λg=>?_,λg1 g2=>?_⟩
 ·have hk:kindP p.peek=11\/kindP p.peek=12:=g.imp Qk.1 JB.1;have es:=KW (ex:=ex) (bl:=bl) hk;have hpk:p.peek≠[]:=λe=>by rw[wM e]at hk;omega
  refine aD ?_;have hbr:=Jz s T c p p.peek (kindP p.peek) hk JB hpk n ex bl hE hB hn f;refine eO.ro hT hW (λ|15=>some (.gen ⟨[(0,0)],[],[],dH s T (MV ex bl (kindP p.peek) p).2,.d (MV ex bl (kindP p.peek) p).1.d⟩)|_=>none) ?_;simp;refine⟨by simpa using hbr,?_⟩;refine aF ?_;simp;exact aB hp [0] [(0,0)] (by simp[es]) (by simp[es])
 ·have hk:¬(kindP p.peek=11\/kindP p.peek=12):=λz=>z.elim (λy=>g1 (Qk.2 y)) (λy=>g2 (JB.2 y));have es:=GZ (ex:=ex) (bl:=bl) hk;refine aE ?_;simp;refine aD ?_;have hsm:=JA s T c p p.peek rfl (n+1) ex hE hn f;have fm:=Qj c.hg hE.fs p hn f;refine eO.ro hT hW (λ|18=>some (.gen ⟨[(0,0)],[],[],dH s T (nC ex p).2,.d (nC ex p).1.d⟩)|_=>none) ?_;simp;refine⟨by simpa using hsm,?_⟩;refine aD ?_;have hw5:=oY s T (nC ex p).2 c fm.1 [59] (by simp);refine eO.ro hT hW (λ|20=>some (.gen ⟨[(0,0)],[],[],dH s T ((nC ex p).2.need [59]),.tup []⟩)|_=>none) ?_;simp;refine⟨hw5,?_⟩;refine aA ?_;simp;refine aF ?_;simp;exact aB hp [0] [(0,0)] (by simp[es]) (by simp[es])
theorem MY(n:Nat)(q:PS):(stmtP false n q).2=(stmtP true n q).2:=(stmtP_rl n q).1
theorem JC:∀n:Nat,Jv n (stmtP false n)
 |0=>λq h _ _=>absurd h (Nat.not_lt_zero _)
 |n+1=>BJ (exprO_stk false) (blockB_stk (stmtP_stk false n)) (vU (n+1)) (oS (stmtP_stk false n) (oT n))
theorem Jv.stmtT(n:Nat):Jv n (stmtP true n):=λq h g e=>by
 rw[<-MY];exact JC n q h g e
theorem KX{s:aJ}{T:List Tk}(c:zE s T):∀n:Nat,RR s T n 174 (stmtP true n)
 |0=>⟨λq h _=>absurd h (Nat.not_lt_zero _),λq h _=>absurd h (Nat.not_lt_zero _)⟩
 |n+1=>by
  have hB:=RR.block c (KX c n) (Jv.stmtT n);have hE:=Qh c (n+1);exact⟨λq hq f=>Ha s T c q n _ _ hE hB hq f,Fs.stmtB c.hg hE.fs hB.fs⟩
theorem RR.blockT{s:aJ}{T:List Tk}(c:zE s T)(n:Nat):RR s T n 141 (blockP true n):=RR.block c (KX c n) (Jv.stmtT n)
end
end Go.Eng
