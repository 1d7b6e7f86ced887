/- Part 5 of the proof. No condition. -/
import Derived.Test.YtjdlbidjlfllcaaGreatDoorMD
import Derived.Shelf.Strconv.Itoa3
import Derived.Test.YtjdlbidjlfllcaaGreatDoorProg
import Derived.Shelf.Strings.Search1
open Go.Proofs
set_option linter.unusedVariables false
set_option linter.unusedSimpArgs false
set_option maxRecDepth 20000
set_option maxHeartbeats 4000000
namespace Go.Eng
theorem zW(p:UInt8->Bool):∀(s:aM) (n:Nat),runP p (s.take n)=min n (runP p s)
 |[],n=>by simp[runP]
 |c::r,0=>by simp[runP]
 |c::r,n+1=>by
  rw[List.take_succ_cons];unfold runP;split
  ·rw[zW p r n];omega
  ·simp
def Lo(s:aM):Prop:=s≠[]/\nextN s=s.length
theorem vP{s:aM}(h:0<wordN s):∃c r,s=c::r/\letterB c=true/\wordN s=runP (λc=>letterB c||digitB c) s/\wordN s<=16:=by
 cases s with
 |nil=>simp[wordN]at h
 |cons c r=>
  refine⟨c,r,rfl,?_⟩;unfold wordN at h|-;by_cases q:letterB c=true
  ·simp only[q,if_true]at h|-;by_cases q2:runP (λc=>letterB c||digitB c) (c::r)<=16
   ·simp only[q2,if_true,true_and]at h|-
   ·simp[q2]at h
  ·simp[q]at h
theorem yB(s:aM):wordN s<=s.length:=by
 rcases Nat.eq_zero_or_pos (wordN s)with h|h
 ·omega
 ·obtain⟨c,r,_,_,h2,_⟩:=vP h;rw[h2];exact runP_le _ _
theorem CG{s:aM}(h:0<wordN s):wordN (s.take (wordN s))=wordN s:=by
 obtain⟨c,r,rfl,h1,h2,h3⟩:=vP h;obtain⟨m,hm⟩:∃m,wordN (c::r)=m+1:=⟨wordN (c::r)- 1,by omega⟩;have e:=zW (λc=>letterB c||digitB c) (c::r) (wordN (c::r));rw[hm]at e|-;rw[List.take_succ_cons]at e|-;unfold wordN;simp only[h1,if_true];rw[e,<-h2,hm,Nat.min_self,if_pos (by omega)]
theorem uB(s:aM):nextN s<=s.length:=by
 unfold nextN;cases s with
 |nil=>simp
 |cons c r=>
  simp only;split
  ·exact yB _
  ·split
   ·split
    ·have:=yB r;simp only[List.length_cons];omega
    ·simp
   ·split
    ·split
     ·exact runP_le _ _
     ·simp
    ·split
     ·rename_i h;have:(List.take 2 (c::r)).length=2:=by rcases h with h|h<;>rw[h]<;>rfl
      rw[List.length_take]at this;omega
     ·split<;>simp
theorem Pn{s:aM}(h:0<nextN s):Lo (s.take (nextN s)):=by
 have hl:=uB s;have hlen:(s.take (nextN s)).length=nextN s:=by rw[List.length_take];omega
 refine⟨λe=>by rw[e]at hlen;simp at hlen;omega,?_⟩;rw[hlen];cases s with
 |nil=>simp[nextN]at h
 |cons c r=>
  obtain⟨m,hm⟩:∃m,nextN (c::r)=m+1:=⟨nextN (c::r)- 1,by omega⟩;rw[hm,List.take_succ_cons];have hm':=hm;unfold nextN at hm'|-;simp only at hm'|-;by_cases q1:letterB c=true
  ·rw[if_pos q1]at hm'|-;have:=CG (s:=c::r) (by omega);rw[hm',List.take_succ_cons]at this;exact this
  ·rw[if_neg q1]at hm'|-;by_cases q2:c=36
   ·rw[if_pos q2]at hm'|-;by_cases q3:0<wordN r
    ·rw[if_pos q3]at hm';have:=CG q3;have e:m=wordN r:=by omega
     rw[e,this,if_pos q3]
    ·rw[if_neg q3]at hm';omega
   ·rw[if_neg q2]at hm'|-;by_cases q3:digitB c=true
    ·rw[if_pos q3]at hm'|-;have e:=zW digitB (c::r) (m+1);rw[List.take_succ_cons]at e;by_cases q4:runP digitB (c::r)<=3
     ·rw[if_pos q4]at hm';rw[e,hm',Nat.min_self,if_pos (by omega)]
     ·rw[if_neg q4]at hm';omega
    ·rw[if_neg q3]at hm'|-;by_cases q4:List.take 2 (c::r)=[60,61]\/List.take 2 (c::r)=[61,61]
     ·rw[if_pos q4]at hm';have e:m=1:=by omega
      have e2:List.take 2 (c::List.take m r)=List.take 2 (c::r):=by rw[e];cases r<;>simp
      rw[e2,if_pos q4,e]
     ·rw[if_neg q4]at hm';by_cases q5:c∈signs
      ·rw[if_pos q5]at hm';have e:m=0:=by omega
       subst e;rw[if_neg (by simp),if_pos q5]
      ·rw[if_neg q5]at hm';omega
def bH(l:List Tk):Prop:=∀t∈l,Lo t.text
theorem gI:∀(f:Nat) (s:aM) (i:Int),bH (scanF f s i).1
 |0,_,_=>λt h=>by cases h
 |f+1,s,i=>by
  unfold scanF;split
  ·exact λt h=>by cases h
  ·split
   ·exact gI f _ _
   ·split
    ·exact λt h=>by cases h
    ·rename_i q;intro t h;rcases List.mem_cons.1 h with h|h
     ·rw[h];exact Pn (by omega)
     ·exact gI f _ _ t h
theorem Sr{s:aM}(h:Lo s)(hn:isNameB s=true):wholeB s true=true:=by
 obtain⟨h1,h2⟩:=h;cases s with
 |nil=>exact absurd rfl h1
 |cons c r=>
  have hl:letterB c=true:=by simp only[isNameB,Bool.and_eq_true]at hn;exact hn.1
  unfold nextN at h2;simp only[hl,if_true]at h2;unfold wholeB;rw[h2,hn];simp
theorem Po{r:aM}(h:Lo (36::r)):wholeB r false=true:=by
 obtain⟨_,h2⟩:=h;unfold nextN at h2;simp only[show letterB 36=false by decide,Bool.false_eq_true,if_false,if_true]at h2;split at h2
 ·rename_i q;have e:wordN r=r.length:=by simpa using h2
  unfold wholeB;rw[e];have:r≠[]:=λe=>by rw[e]at q;simp[wordN]at q
  simp[this]
 ·simp at h2
theorem Iu{s:aM}{b:Bool}(h:wholeB s b=true):∀c∈s,letterB c=true\/digitB c=true:=by
 unfold wholeB at h;simp only[Bool.and_eq_true,decide_eq_true_eq]at h;obtain⟨⟨h1,h2⟩,_⟩:=h;have hp:0<wordN s:=by rw[h2];exact List.length_pos_iff.2 h1
 obtain⟨c,r,_,_,h3,_⟩:=vP hp;intro d hd;obtain⟨i,hi,rfl⟩:=List.mem_iff_getElem.1 hd;have:=runP_all (p:=λc=>letterB c||digitB c) hi (by rw[<-h3,h2];exact hi);simpa using this
theorem zX{c:UInt8}:∀{a:aM} (b:aM),c∉a->cutAt c (a++c::b)=some (a,b)
 |[],b,_=>by simp[cutAt]
 |d::a,b,h=>by
  have h1:d≠c:=λe=>h (by rw[e];exact List.mem_cons_self ..);rw[List.cons_append,cutAt,if_neg h1,zX b λq=>h (List.mem_cons_of_mem _ q)];rfl
theorem Iv{a b:aM}(ha:wholeB a true=true)(hb:wholeB b true=true):fieldB (a++46::b)=true:=by
 unfold fieldB;rw[zX b λh=>by rcases Iu ha _ h with q|q<;>exact absurd q (by decide)];simp[ha,hb]
def Rt(n:Nat)(cls:Int->Bool)(x:PS->Nd×PS):Prop:=∀p,p.l.length<n->bH p.l->(x p).2.l.length<=p.l.length/\bH (x p).2.l/\((x p).2.e=0->rightN (x p).1=true/\cls (x p).1.kind=true)
theorem mZ{p:PS}{e:Int}:(p.fail e).l=p.l:=by unfold PS.fail;split<;>rfl
theorem vQ{p:PS}{e:Int}(h:bH p.l):bH (p.fail e).l:=by rw[mZ];exact h
theorem cT{p:PS}(h:bH p.l):bH p.skip.l:=λt ht=>h t (List.mem_of_mem_tail ht)
theorem dP{p:PS}:p.skip.l.length<=p.l.length:=by simp[PS.skip]
theorem oL{p:PS}(h:p.peek≠[]):p.skip.l.length+1=p.l.length:=by
 unfold PS.peek at h;split at h
 ·exact absurd rfl h
 ·unfold PS.skip;cases e:p.l with
  |nil=>rw[e]at h;exact absurd rfl h
  |cons t r=>rfl
theorem fK{p:PS}{s:aM}(h:p.is s=true):p.skip.l.length+1=p.l.length:=by
 unfold PS.is at h;simp only[Bool.and_eq_true,decide_eq_true_eq]at h;exact oL (by rw[h.2];exact h.1)
theorem bT{p:PS}{s:aM}(h:bH p.l):(p.need s).l.length<=p.l.length/\bH (p.need s).l:=by
 unfold PS.need;split
 ·exact⟨dP,cT h⟩
 ·exact⟨by rw[mZ];exact Nat.le_refl _,vQ h⟩
theorem qQ{p:PS}(h:bH p.l)(hp:p.peek≠[]):Lo p.peek:=by
 unfold PS.peek at hp|-;split
 ·rename_i q;rw[if_pos q]at hp;exact absurd rfl hp
 ·rename_i q;rw[if_neg q]at hp;cases e:p.l with
  |nil=>rw[e]at hp;exact absurd rfl hp
  |cons t r=>exact h t (by rw[e];exact List.mem_cons_self ..)
theorem cO{p:PS}(h:bH p.l):(nameP p).2.l.length<=p.l.length/\bH (nameP p).2.l/\((nameP p).2.e=0->wholeB (nameP p).1 true=true):=by
 unfold nameP;split
 ·rename_i q;refine⟨dP,cT h,λ_=>Sr (qQ h λe=>?_) q⟩;rw[e]at q;cases q
 ·exact⟨by rw[mZ];exact Nat.le_refl _,vQ h,λhe=>absurd he (fail_e (by decide))⟩
theorem dR{p:PS}(h:bH p.l):(localP p).2.l.length<=p.l.length/\bH (localP p).2.l/\((localP p).2.e=0->wholeB (localP p).1 false=true):=by
 unfold localP;split
 ·rename_i r q;refine⟨dP,cT h,λ_=>Po ?_⟩;rw[<-q];exact qQ h (by rw[q];simp)
 ·exact⟨by rw[mZ];exact Nat.le_refl _,vQ h,λhe=>absurd he (fail_e (by decide))⟩
theorem eA{k:Int}{p:PS}(h:bH p.l):(numeralP k p).2.l.length<=p.l.length/\bH (numeralP k p).2.l/\((numeralP k p).2.e=0->loAt k<=(numeralP k p).1/\(numeralP k p).1<=hiAt k):=by
 have bad:∀e:Int,e≠0->(p.fail e).l.length<=p.l.length/\bH (p.fail e).l/\((p.fail e).e=0->loAt k<=0/\0<=hiAt k):=λe q=>⟨by rw[mZ];exact Nat.le_refl _,vQ h,λhe=>absurd he (fail_e q)⟩;unfold numeralP;split
 ·exact bad 2 (by decide)
 ·split
  ·split
   ·exact bad 5 (by decide)
   ·rename_i q;exact⟨dP,cT h,λ_=>⟨by simp only;omega,by simp only;omega⟩⟩
  ·exact bad 2 (by decide)
theorem nK{p:PS}(h:bH p.l):(numberP p).2.l.length<=p.l.length/\bH (numberP p).2.l/\((numberP p).2.e=0-> -999<=(numberP p).1/\(numberP p).1<=999):=by
 have hlo:loAt 0= -999:=rfl;have hhi:hiAt 0=999:=rfl;unfold numberP;split
 ·obtain⟨h0,h1,h2⟩:=eA (k:=0) (cT h);exact⟨Nat.le_trans h0 dP,h1,λhe=>by have:=h2 he;simp only;omega⟩
 ·obtain⟨h0,h1,h2⟩:=eA (k:=0) h;exact⟨h0,h1,λhe=>by have:=h2 he;omega⟩
theorem kQ(n:Nat):Rt n isPlaceK placeP:=λp _ h=>by
 obtain⟨h0,h1,h2⟩:=cO h;unfold placeP;split
 ·obtain⟨g0,h3,h4⟩:=cO (cT h1);refine⟨Nat.le_trans g0 (Nat.le_trans dP h0),h3,λhe=>⟨?_,rfl⟩⟩;have ha:=h2 (nameP_stk (nameP p).2.skip he);simp[rightN,rightL,shapedB,shapedK,kidsB,wordedB,wordedK,loAt,hiAt,boundsL,textB,Iv ha (h4 he)]
 ·refine⟨h0,h1,λhe=>⟨?_,rfl⟩⟩;simp[rightN,rightL,shapedB,shapedK,kidsB,wordedB,wordedK,loAt,hiAt,boundsL,textB,h2 he]
theorem EO(lv:Int)(s:aM): -1<=opI lv s/\opI lv s<=5:=by
 unfold opI;split
 ·rename_i i q;have:=List.mem_range.1 (List.mem_of_find?_eq_some q);omega
 ·omega
theorem vR{lv:Int}{p:PS}(h:bH p.l):(opP lv p).2.l.length<=p.l.length/\bH (opP lv p).2.l:=by
 unfold opP;simp only;split
 ·exact⟨dP,cT h⟩
 ·exact⟨Nat.le_refl _,h⟩
theorem zY{k:Int}{n m:Nd}(h0:26<=k)(h1:k<=31)(hn:rightN n=true/\isExprK n.kind=true)(hm:rightN m=true/\isExprK m.kind=true):rightN (.mk k [] 0 [n,m])=true/\isExprK (Nd.mk k [] 0 [n,m]).kind=true:=by
 have hk:k=26\/k=27\/k=28\/k=29\/k=30\/k=31:=by omega
 rcases hk with rfl|rfl|rfl|rfl|rfl|rfl<;>exact⟨by simp[rightN,rightL,shapedB,shapedK,kidsB,wordedB,wordedK,loAt,hiAt,boundsL,textB,hn.1,hm.1,hn.2,hm.2],rfl⟩
theorem EP{m:Nat}{lv:Int}{x:PS->Nd×PS}(hx:Rt m isExprK x):∀(f:Nat) (n:Nd) (p:PS),p.l.length<m->bH p.l->(p.e=0->rightN n=true/\isExprK n.kind=true)->
 (chainF lv x f n p).2.l.length<=p.l.length/\bH (chainF lv x f n p).2.l/\((chainF lv x f n p).2.e=0->rightN (chainF lv x f n p).1=true/\isExprK (chainF lv x f n p).1.kind=true)
 |0,_,_,_,h,hn=>⟨Nat.le_refl _,h,hn⟩
 |f+1,n,p,hl,h,hn=>by
  unfold chainF;split
  ·exact⟨Nat.le_refl _,h,hn⟩
  ·rename_i q;have hp:p.e=0:=by simpa using q
   obtain⟨g0,g1⟩:=vR (lv:=lv) h;split
   ·exact⟨g0,g1,λ_=>hn hp⟩
   ·rename_i q2;have hr:=EO lv p.peek;have hr2:0<=(opP lv p).1/\(opP lv p).1<=5:=⟨by omega,hr.2⟩;obtain⟨h0,h1,h2⟩:=hx _ (by omega) g1;obtain⟨k0,k1,k2⟩:=EP hx f (.mk (26+(opP lv p).1) [] 0 [n,(x (opP lv p).2).1]) _ (by omega) h1 λhe=>zY (by omega) (by omega) (hn hp) (h2 he);exact⟨by omega,k1,k2⟩
theorem zZ{m:Nat}{lv:Int}{x:PS->Nd×PS}(hx:Rt m isExprK x):Rt m isExprK (chainP lv x):=λp hl h=>by
 obtain⟨h0,h1,h2⟩:=hx p hl h;obtain⟨k0,k1,k2⟩:=EP (lv:=lv) hx ((x p).2.l.length+1) _ _ (by omega) h1 h2;exact⟨by unfold chainP;omega,k1,k2⟩
theorem oM{k:Int}(h:isPlaceK k=true):isExprK k=true:=by
 unfold isPlaceK at h;simp only[Bool.or_eq_true,decide_eq_true_eq]at h;rcases h with rfl|rfl<;>rfl
theorem CH{m:Nat}{ex:PS->Nd×PS}(hx:Rt m isExprK ex):Rt (m+1) isExprK (factP ex):=λp hl h=>by
 have hpl:=kQ (m+1) p hl h;have hpl2:(placeP p).2.l.length<=p.l.length/\bH (placeP p).2.l/\((placeP p).2.e=0->rightN (placeP p).1=true/\isExprK (placeP p).1.kind=true):=⟨hpl.1,hpl.2.1,λhe=>⟨(hpl.2.2 he).1,oM (hpl.2.2 he).2⟩⟩;unfold factP;split
 ·rename_i q;have hk:=fK q;obtain⟨h0,h1,h2⟩:=hx p.skip (by omega) (cT h);obtain⟨g0,g1⟩:=bT (s:=[41]) h1;exact⟨by simp only;omega,g1,λhe=>h2 (need_e he).2⟩
 ·split
  ·exact⟨dP,cT h,λ_=>⟨by show rightN (Nd.mk 36 [] 0 [])=true;decide,rfl⟩⟩
  ·split
   ·split
    ·obtain⟨h0,h1,h2⟩:=eA (k:=32) h;refine⟨h0,h1,λhe=>⟨?_,rfl⟩⟩;have:=h2 he;have hlo:loAt 32=0:=rfl;have hhi:hiAt 32=999:=rfl;rw[hlo,hhi]at this;simp[rightN,rightL,shapedB,shapedK,kidsB,wordedB,wordedK,hlo,hhi,textB,this]
    ·split
     ·obtain⟨h0,h1,h2⟩:=dR h;refine⟨h0,h1,λhe=>⟨?_,rfl⟩⟩;simp[rightN,rightL,shapedB,shapedK,kidsB,wordedB,wordedK,loAt,hiAt,boundsL,textB,h2 he]
     ·exact hpl2
   ·exact hpl2
theorem Gy{m:Nat}{ex:PS->Nd×PS}(hx:Rt m isExprK ex):Rt (m+1) isExprK (sumP ex):=zZ (zZ (CH hx))
theorem Ss{m:Nat}{ex:PS->Nd×PS}(hs:Stk ex)(hx:Rt m isExprK ex):Rt (m+1) isExprK (exprB ex):=λp hl h=>by
 obtain⟨h0,h1,h2⟩:=Gy hx p hl h;obtain⟨g0,g1⟩:=vR (lv:=1) h1;unfold exprB;simp only;split
 ·rename_i q;have hr:=EO 1 (sumP ex p).2.peek;have hr2:(opP 1 (sumP ex p).2).1<=5:=hr.2;obtain⟨k0,h3,h4⟩:=Gy hx _ (by omega) g1;exact⟨by simp only;omega,h3,λhe=>zY (by omega) (by omega) (h2 (opP_stk 1 _ (sumP_stk hs _ he))) (h4 he)⟩
 ·exact⟨by simp only;omega,g1,λhe=>h2 (opP_stk 1 _ he)⟩
theorem yC:∀f,Rt f isExprK (exprP false f)
 |0=>λp h=>by omega
 |f+1=>λp hl h=>by
  unfold exprP;rw[if_neg (by simp)];exact Ss (exprP_stk false f) (yC f) p hl h
theorem yD(n:Nat):Rt n isExprK λq=>exprP false (q.l.length+1) q:=λp _ h=>yC (p.l.length+1) p (by omega) h
theorem EQ{m:Nat}{st:PS->Nd×PS}(hs:Stk st)(hx:Rt m isStmtK st):∀(f:Nat) (ks:List Nd) (p:PS),p.l.length<m->bH p.l->(p.e=0->∀x∈ks,rightN x=true/\isStmtK x.kind=true)->
 (stmtsF st f ks p).2.l.length<=p.l.length/\bH (stmtsF st f ks p).2.l/\((stmtsF st f ks p).2.e=0->∀x∈(stmtsF st f ks p).1,rightN x=true/\isStmtK x.kind=true)
 |0,_,_,_,h,hn=>⟨Nat.le_refl _,h,hn⟩
 |f+1,ks,p,hl,h,hn=>by
  unfold stmtsF;split
  ·exact⟨Nat.le_refl _,h,hn⟩
  ·obtain⟨h0,h1,h2⟩:=hx p hl h;obtain⟨k0,k1,k2⟩:=EQ hs hx f (ks++[(st p).1]) _ (by omega) h1 λhe x hx=>by
    rcases List.mem_append.1 hx with hx|hx
    ·exact hn (hs p he) x hx
    ·rw[List.mem_singleton.1 hx];exact h2 he
   exact⟨by omega,k1,k2⟩
theorem uC{ks:List Nd}(h:∀x∈ks,rightN x=true/\isStmtK x.kind=true):rightN (.mk 8 [] 0 ks)=true:=
 right_mk.2 ⟨by decide,by decide,List.all_eq_true.2 λx hx=>(h x hx).2,by decide,by decide,rfl,λx hx=>(h x hx).1⟩
theorem nV{m:Nat}{st:PS->Nd×PS}(hs:Stk st)(hx:Rt m isStmtK st):Rt m isBlockK (blockB st):=λp hl h=>by
 obtain⟨g0,g1⟩:=bT (s:=[123]) h;obtain⟨k0,k1,k2⟩:=EQ hs hx ((p.need [123]).l.length+1) [] (p.need [123]) (by omega) g1 (λ_ x h=>by cases h);obtain⟨q0,q1⟩:=bT (s:=[125]) k1;unfold blockB;exact⟨by simp only;omega,q1,λhe=>⟨uC (k2 (need_e he).2),rfl⟩⟩
theorem wY{s:aM}(h:12<kindP s):13<=kindP s/\kindP s<=25:=by
 unfold kindP wordI at h|-;split
 ·rename_i q;rw[if_pos q]at h;omega
 ·rename_i q;rw[if_neg q]at h;split
  ·rename_i i e;rw[e]at h;have:=List.mem_range.1 (List.mem_of_find?_eq_some e);simp only at h;omega
  ·rename_i e;rw[e]at h;simp only at h;omega
theorem Ns{m:Nat}{ex:PS->Nd×PS}(hs:Stk ex)(hx:Rt m isExprK ex){k:Int}(hk:13<=k/\k<=25):Rt m isStmtK (cmdP ex k):=λp hl h=>by
 have ha:(if k=19\/k=20 then localP p else if k=21\/k=25\/k=24 then([],p)else nameP p).2.l.length<=p.l.length/\bH (if k=19\/k=20 then localP p else if k=21\/k=25\/k=24 then([],p)else nameP p).2.l/\
  ((if k=19\/k=20 then localP p else if k=21\/k=25\/k=24 then([],p)else nameP p).2.e=0->textB k (if k=19\/k=20 then localP p else if k=21\/k=25\/k=24 then([],p)else nameP p).1=true):=by
  split
  ·rename_i q;obtain⟨h0,h1,h2⟩:=dR h;exact⟨h0,h1,λhe=>by rcases q with rfl|rfl<;>simp[textB,h2 he]⟩
  ·split
   ·rename_i q;exact⟨Nat.le_refl _,h,λ_=>by rcases q with rfl|rfl|rfl<;>rfl⟩
   ·rename_i q1 q2;obtain⟨h0,h1,h2⟩:=cO h;exact⟨h0,h1,λhe=>by unfold textB;rw[if_neg (by omega),if_neg (by omega),if_neg (by omega)];exact h2 he⟩
 unfold cmdP;generalize(if k=19\/k=20 then localP p else if k=21\/k=25\/k=24 then([],p)else nameP p)=a at ha;obtain⟨a0,a1,a2⟩:=ha;simp only;have lo:∀{n:Int},(k=19\/k=21\/k=25->loAt k<=n/\n<=hiAt k)->(¬(k=19\/k=21\/k=25)->n=0)->loAt k<=n/\n<=hiAt k:=λ{n} h1 h2=>by
  by_cases q:k=19\/k=21\/k=25
  ·exact h1 q
  ·rw[h2 q];have:k=13\/k=14\/k=15\/k=16\/k=17\/k=18\/k=20\/k=22\/k=23\/k=24:=by omega
   rcases this with rfl|rfl|rfl|rfl|rfl|rfl|rfl|rfl|rfl|rfl<;>decide
 have mk:∀{t:aM} {n:Int} {ks:List Nd},textB k t=true->loAt k<=n/\n<=hiAt k->shapedK k ks=true->(∀x∈ks,rightN x=true)->rightN (.mk k t n ks)=true/\isStmtK (Nd.mk k t n ks).kind=true:=λ{t n ks} h1 h2 h3 h4=>by
  exact⟨right_mk.2 ⟨by omega,by omega,h3,h2.1,h2.2,h1,h4⟩,show isStmtK k=true from isStmtK_iff.2 (by omega)⟩
 split
 ·rename_i q;obtain⟨h0,h1,h2⟩:=hx a.2 (by omega) a1;refine⟨by simp only;omega,h1,λhe=>mk (a2 (hs _ he)) (lo (by omega) λ_=>rfl) ?_ λx hx=>by rw[List.mem_singleton.1 hx];exact(h2 he).1⟩;rcases q with rfl|rfl|rfl<;>simp[shapedK,kidsB,(h2 he).2]
 ·split
  ·rename_i q;obtain⟨h0,h1,h2⟩:=dR a1;refine⟨by simp only;omega,h1,λhe=>mk (a2 (localP_stk _ he)) (lo (by omega) λ_=>rfl) ?_ λx hx=>?_⟩
   ·rcases q with rfl|rfl<;>simp[shapedK,kidsB,isLocalK]
   ·rw[List.mem_singleton.1 hx];simp[rightN,rightL,shapedB,shapedK,kidsB,wordedB,wordedK,loAt,hiAt,boundsL,textB,h2 he]
  ·split
   ·rename_i q;obtain⟨h0,h1,h2⟩:=eA (k:=k) a1;refine⟨by simp only;omega,h1,λhe=>mk (a2 (numeralP_stk _ _ he)) (h2 he) ?_ λx hx=>by cases hx⟩;rcases q with rfl|rfl|rfl<;>rfl
   ·rename_i q1 q2 q3;refine⟨a0,a1,λhe=>mk (a2 he) (lo (λq=>absurd q q3) λ_=>rfl) ?_ λx hx=>by cases hx⟩;have:k=13\/k=14\/k=17\/k=18\/k=20:=by omega
    rcases this with rfl|rfl|rfl|rfl|rfl<;>rfl
theorem St{m:Nat}{ex bl:PS->Nd×PS}(hs:Stk ex)(ht:Stk bl)(hx:Rt (m+1) isExprK ex)(hb:Rt m isBlockK bl):Rt (m+1) isStmtK (stmtB ex bl):=λp hl h=>by
 unfold stmtB;simp only;split
 ·rename_i q;have hk:p.skip.l.length+1=p.l.length:=oL λe=>by rw[e]at q;simp[kindP]at q
  obtain⟨a0,a1,a2⟩:=hx p.skip (by omega) (cT h);obtain⟨b0,b1,b2⟩:=hb (ex p.skip).2 (by omega) a1;split
  ·rename_i q2;have hk2:=fK q2.2;obtain⟨c0,c1,c2⟩:=hb (bl (ex p.skip).2).2.skip (by omega) (cT b1);refine⟨by simp only;omega,c1,λhe=>?_⟩;have e2:=ht _ he;have e1:=ht (ex p.skip).2 e2;rw[q2.1];exact⟨by simp[rightN,rightL,shapedB,shapedK,kidsB,wordedB,wordedK,loAt,hiAt,boundsL,textB,(a2 e1).1,(a2 e1).2,(b2 e2).1,(b2 e2).2,(c2 he).1,(c2 he).2],rfl⟩
  ·refine⟨by simp only;omega,b1,λhe=>?_⟩;have e1:=ht _ he;rcases q with q|q<;>rw[q]<;>exact⟨by simp[rightN,rightL,shapedB,shapedK,kidsB,wordedB,wordedK,loAt,hiAt,boundsL,textB,(a2 e1).1,(a2 e1).2,(b2 he).1,(b2 he).2],rfl⟩
 ·split
  ·rename_i q;obtain⟨a0,a1,a2⟩:=Ns hs hx (wY q) p.skip (by have:=dP (p:=p);omega) (cT h);obtain⟨b0,b1⟩:=bT (s:=[59]) a1;have:=dP (p:=p);exact⟨by simp only;omega,b1,λhe=>a2 (need_e he).2⟩
  ·split
   ·obtain⟨a0,a1,a2⟩:=dR h;obtain⟨b0,b1⟩:=bT (s:=[61]) a1;obtain⟨c0,c1,c2⟩:=hx ((localP p).2.need [61]) (by omega) b1;obtain⟨d0,d1⟩:=bT (s:=[59]) c1;refine⟨by simp only;omega,d1,λhe=>?_⟩;have e2:=(need_e he).2;have e1:=(need_e (hs _ e2)).2;exact⟨by simp[rightN,rightL,shapedB,shapedK,kidsB,wordedB,wordedK,loAt,hiAt,boundsL,textB,a2 e1,(c2 e2).1,(c2 e2).2],rfl⟩
   ·obtain⟨a0,a1,a2⟩:=kQ (m+1) p hl h;obtain⟨b0,b1⟩:=bT (s:=[61]) a1;obtain⟨c0,c1,c2⟩:=hx ((placeP p).2.need [61]) (by omega) b1;obtain⟨d0,d1⟩:=bT (s:=[59]) c1;refine⟨by simp only;omega,d1,λhe=>?_⟩;have e2:=(need_e he).2;have e1:=(need_e (hs _ e2)).2;exact⟨by simp[rightN,rightL,shapedB,shapedK,kidsB,wordedB,wordedK,loAt,hiAt,boundsL,textB,(a2 e1).1,(a2 e1).2,(c2 e2).1,(c2 e2).2],rfl⟩
theorem oN:∀f,Rt f isStmtK (stmtP false f)
 |0=>λp h=>by omega
 |f+1=>λp hl h=>St (exprO_stk false) (blockB_stk (stmtP_stk false f)) (yD (f+1)) (nV (stmtP_stk false f) (oN f)) p hl h
theorem ER:∀(f:Nat) (ks:List Nd) (p:PS),bH p.l->(p.e=0->∀x∈ks,rightN x=true/\isItemK x.kind=true)->
 (itemsF f ks p).2.l.length<=p.l.length/\bH (itemsF f ks p).2.l/\((itemsF f ks p).2.e=0->∀x∈(itemsF f ks p).1,rightN x=true/\isItemK x.kind=true)
 |0,_,_,h,hn=>⟨Nat.le_refl _,h,hn⟩
 |f+1,ks,p,h,hn=>by
  unfold itemsF;split
  ·exact⟨Nat.le_refl _,h,hn⟩
  ·obtain⟨a0,a1,a2⟩:=cO h;obtain⟨b0,b1⟩:=bT (s:=[61]) a1;obtain⟨c0,c1,c2⟩:=nK b1;obtain⟨d0,d1⟩:=bT (s:=[59]) c1;obtain⟨k0,k1,k2⟩:=ER f (ks++[.mk 7 (nameP p).1 (numberP ((nameP p).2.need [61])).1 []]) _ d1 λhe x hx=>by
    have e3:=(need_e he).2;have e2:=(need_e (numberP_stk _ e3)).2;have e1:=nameP_stk _ e2;rcases List.mem_append.1 hx with hx|hx
    ·exact hn e1 x hx
    ·rw[List.mem_singleton.1 hx];have:=c2 e3;exact⟨by simp[rightN,rightL,shapedB,shapedK,kidsB,wordedB,wordedK,loAt,hiAt,boundsL,textB,a2 e2,this],rfl⟩
   exact⟨by simp only;omega,k1,k2⟩
theorem CI{p:PS}(h:bH p.l)(he:(defP false p).2.e=0):rightN (defP false p).1=true/\0<=(defP false p).1.kind/\(defP false p).1.kind<=6:=by
 unfold defP at he|-;simp only at he|-;generalize hk:defKind p.peek=k at he|-;have hk6:k<=6:=by
  rw[<-hk];unfold defKind;split
  ·omega
  ·split
   ·rename_i i e;have:=List.mem_range.1 (List.mem_of_find?_eq_some e);omega
   ·omega
 obtain⟨a0,a1,a2⟩:=cO (cT h);by_cases q:k<0
 ·rw[if_pos q]at he;exact absurd he (fail_e (by decide))
 ·rw[if_neg q]at he|-;by_cases q1:k=5\/k=6
  ·rw[if_pos q1]at he|-;obtain⟨b0,b1,b2⟩:=nV (stmtP_stk false ((nameP p.skip).2.l.length+1)) (oN ((nameP p.skip).2.l.length+1)) (nameP p.skip).2 (by omega) a1;have e1:=blockB_stk (stmtP_stk false ((nameP p.skip).2.l.length+1)) _ he;refine⟨?_,by simp only[dM];omega,by simp only[dM];omega⟩;rcases q1 with rfl|rfl<;>simp[rightN,rightL,shapedB,shapedK,kidsB,wordedB,wordedK,loAt,hiAt,boundsL,textB,a2 e1,(b2 he).1,(b2 he).2,blockP]
  ·rw[if_neg q1]at he|-;by_cases q2:k=1
   ·rw[if_pos q2]at he|-;obtain⟨b0,b1⟩:=bT (s:=[123]) a1;obtain⟨c0,c1,c2⟩:=ER (((nameP p.skip).2.need [123]).l.length+1) [] _ b1 (λ_ x h=>by cases h);have e3:=(need_e he).2;have e2:=(need_e (itemsF_stk _ _ _ e3)).2;refine⟨?_,by simp only[dM];omega,by simp only[dM];omega⟩;subst q2;exact right_mk.2 ⟨by decide,by decide,List.all_eq_true.2 λx hx=>(c2 e3 x hx).2,by decide,by decide,a2 e2,λx hx=>(c2 e3 x hx).1⟩
   ·rw[if_neg q2]at he|-;by_cases q3:k=0
    ·rw[if_pos q3]at he|-;obtain⟨b0,b1⟩:=bT (s:=[61]) a1;obtain⟨c0,c1,c2⟩:=nK b1;have e3:=(need_e he).2;have e2:=(need_e (numberP_stk _ e3)).2;have:=c2 e3;subst q3;exact⟨by simp[rightN,rightL,shapedB,shapedK,kidsB,wordedB,wordedK,loAt,hiAt,boundsL,textB,a2 e2,this],by simp,by simp⟩
    ·rw[if_neg q3]at he|-;by_cases q4:k=2
     ·rw[if_pos q4]at he|-;obtain⟨c0,c1,c2⟩:=eA (k:=2) a1;have e3:=(need_e he).2;have e2:=numeralP_stk 2 _ e3;have:=c2 e3;have hlo:loAt 2=0:=rfl;have hhi:hiAt 2=3:=rfl;rw[hlo,hhi]at this;subst q4;exact⟨by simp[rightN,rightL,shapedB,shapedK,kidsB,wordedB,wordedK,hlo,hhi,textB,a2 e2,this],by simp,by simp⟩
     ·rw[if_neg q4]at he|-;have e2:=(need_e he).2;have:k=3\/k=4:=by omega
      rcases this with rfl|rfl<;>exact⟨by simp[rightN,rightL,shapedB,shapedK,kidsB,wordedB,wordedK,loAt,hiAt,boundsL,textB,a2 e2],by simp,by simp⟩
def kB(s:aM):Nd×Int×Int:=
 if 1024<s.length then(zeroNd,1024,4)else
 let t:=scanS s
 let r:=defP true ⟨t.1,0⟩
 match r.2.l with
 |x::_=>(zeroNd,x.at_,if r.2.e≠0 then r.2.e else 2)
 |[]=>if r.2.e≠0\/t.2<s.length then(zeroNd,t.2,2)else if 24<depthN r.1\/1024<(textT r.1).length then(zeroNd,0,4)else(r.1,0,0)
theorem Su(s:aM):kB s=parseS s:=by
 unfold kB parseS;split
 ·rfl
 ·simp only;obtain⟨h1,h2⟩:=defP_rl ⟨(scanS s).1,0⟩;rw[<-h1];cases e:(defP false ⟨(scanS s).1,0⟩).2.l with
  |cons x t=>rfl
  |nil=>
   simp only;by_cases q:(defP false ⟨(scanS s).1,0⟩).2.e≠0\/(scanS s).2<s.length
   ·rw[if_pos q,if_pos q]
   ·rw[if_neg q,if_neg q];have he:(defP false ⟨(scanS s).1,0⟩).2.e=0:=by
     rcases Int.lt_trichotomy (defP false ⟨(scanS s).1,0⟩).2.e 0 with h|h|h
     ·exact absurd (Or.inl (by omega)) q
     ·exact h
     ·exact absurd (Or.inl (by omega)) q
    rw[<-h2 he];obtain⟨r1,r2,r3⟩:=CI (p:=⟨(scanS s).1,0⟩) (gI _ _ _) he;generalize(defP false ⟨(scanS s).1,0⟩).1=x at*;have hv:validB x=(decide (depthN x<=24)&&decide ((textT x).length<=1024)):=by
     unfold validB;rw[decide_eq_true r2,decide_eq_true r3,r1];simp
    rw[hv];by_cases a:depthN x<=24
    ·by_cases b:(textT x).length<=1024
     ·rw[if_neg (by omega),if_pos (by simp[a,b])]
     ·rw[if_pos (by omega),if_neg (by simp[b])]
    ·rw[if_pos (by omega),if_neg (by simp[a])]
theorem Iw{c:UInt8}:∀{t a b:aM},cutAt c t=some (a,b)->t=a++c::b
 |[],_,_,h=>by simp[cutAt]at h
 |d::r,a,b,h=>by
  unfold cutAt at h;split at h
  ·rename_i e;simp only[Option.some.injEq,Prod.mk.injEq]at h;rw[<-h.1,<-h.2,e];rfl
  ·cases q:cutAt c r with
   |none=>rw[q]at h;cases h
   |some p=>
    obtain⟨a',b'⟩:=p;rw[q]at h;simp only[Option.map_some,Option.some.injEq,Prod.mk.injEq]at h;rw[<-h.1,<-h.2,Iw q];rfl
theorem rW{x:Nd}(hr:rightN x=true)(he:isExprK x.kind=true):
 (x.kind=32/\0<=x.n/\x.n<=999/\x=.mk 32 [] x.n [])\/(x=.mk 33 x.text 0 []/\wholeB x.text false=true)\/x=.mk 36 [] 0 []\/(x=.mk 34 x.text 0 []/\wholeB x.text true=true)\/(x=.mk 35 x.text 0 []/\fieldB x.text=true)\/
   ∃k a b,26<=k/\k<=31/\x=.mk k [] 0 [a,b]/\rightN a=true/\isExprK a.kind=true/\rightN b=true/\isExprK b.kind=true:=by
 obtain⟨k,t,n,ks⟩:=x;have he:26<=k/\k<=36:=isExprK_iff.1 he;obtain⟨_,_,hs,w1,w2,w3,hk⟩:=right_mk.1 hr;have none:shapedK k ks=kidsB ks []->ks=[]:=λe=>by
  rw[e]at hs;cases ks with
  |nil=>rfl
  |cons _ _=>cases hs
 by_cases hb:k<=31
 ·right;right;right;right;right;have hks:kidsB ks [isExprK,isExprK]=true:=by
   unfold shapedK at hs;rw[if_neg (by omega),if_neg (by omega),if_neg (by omega),if_neg (by omega),if_neg (by omega),if_neg (by omega),if_neg (by omega),if_neg (by omega),if_pos (by omega)]at hs;exact hs
  have hz:loAt k=0/\hiAt k=0:=by
   have:k=26\/k=27\/k=28\/k=29\/k=30\/k=31:=(by omega);rcases this with rfl|rfl|rfl|rfl|rfl|rfl<;>exact⟨rfl,rfl⟩
  have ht:t=[]:=by
   unfold textB at w3;rw[if_neg (by omega),if_neg (by omega),if_pos (by omega)]at w3;simpa using w3
  match ks,hks,hk with
  |[a,b],hks,hk=>
   simp only[kidsB,Bool.and_true,Bool.and_eq_true]at hks;exact⟨k,a,b,by omega,by omega,by rw[ht,show n=0 by omega],hk a (by simp),hks.1,hk b (by simp),hks.2⟩
  |[],hks,_=>cases hks
  |[_],hks,_=>simp[kidsB]at hks
  |_::_::_::_,hks,_=>simp[kidsB]at hks
 ·have:k=32\/k=33\/k=34\/k=35\/k=36:=by omega
  rcases this with rfl|rfl|rfl|rfl|rfl
  ·left;have e:=none rfl;have hz:loAt 32=0/\hiAt 32=999:=⟨rfl,rfl⟩;have ht:t=[]:=by simpa [textB]using w3
   subst e;subst ht;exact⟨rfl,by simp only[vO];omega,by simp only[vO];omega,rfl⟩
  ·right;left;have e:=none rfl;have hz:loAt 33=0/\hiAt 33=0:=⟨rfl,rfl⟩;subst e;exact⟨by rw[show n=0 by omega];rfl,by simpa [textB]using w3⟩
  ·right;right;right;left;have e:=none rfl;have hz:loAt 34=0/\hiAt 34=0:=⟨rfl,rfl⟩;subst e;exact⟨by rw[show n=0 by omega];rfl,by simpa [textB]using w3⟩
  ·right;right;right;right;left;have e:=none rfl;have hz:loAt 35=0/\hiAt 35=0:=⟨rfl,rfl⟩;subst e;exact⟨by rw[show n=0 by omega];rfl,by simpa [textB]using w3⟩
  ·right;right;left;have e:=none rfl;have hz:loAt 36=0/\hiAt 36=0:=⟨rfl,rfl⟩;have ht:t=[]:=by simpa [textB]using w3
   subst e;subst ht;rw[show n=0 by omega]
theorem ES{k:Int}{a b:Nd}(h0:26<=k)(h1:k<=31):exprT (.mk k [] 0 [a,b])=paren (decide (lvlN a.kind<(if levelAt k=1 then 2 else levelAt k))) (exprT a)++32::(signAt k++32::paren (decide (lvlN b.kind<levelAt k+1)) (exprT b)):=by
 rw[exprT,if_neg (by omega),if_neg (by omega),if_neg (by omega),if_neg (by omega)]
theorem Pp{k:Int}(h0:26<=k)(h1:k<=31):opI (levelAt k) (signAt k)=k-26/\(levelAt k=1\/levelAt k=2\/levelAt k=3)/\(∀lv:Int,(lv=1\/lv=2\/lv=3)->lv≠levelAt k->opI lv (signAt k)<0)/\signAt k≠[46]/\lvlN k=levelAt k:=by
 have:k=26\/k=27\/k=28\/k=29\/k=30\/k=31:=by omega
 rcases this with rfl|rfl|rfl|rfl|rfl|rfl<;>exact⟨by decide,by decide,λlv h hn=>by rcases h with rfl|rfl|rfl<;>first|exact absurd rfl hn|decide,by decide,by decide⟩
theorem ET{k:Int}(t:aM)(n:Int)(ks:List Nd)(h:13<=k):stmtT (.mk k t n ks)=wordAt k++midT k t++withN n++withE ks++[59]:=by
 unfold stmtT;rw[if_neg (by omega),if_neg (by omega),if_neg (by omega)]
def iI(x:Nd):Prop:=∃ks,x=.mk 8 [] 0 ks/\∀y∈ks,rightN y=true/\isStmtK y.kind=true
theorem fZ{x:Nd}(hr:rightN x=true)(hk:isBlockK x.kind=true):iI x:=by
 obtain⟨k,t,n,ks⟩:=x;have hk:k=8:=of_decide_eq_true (show decide (k=8)=true from hk);subst hk;obtain⟨_,_,hs,w1,w2,w3,hk⟩:=right_mk.1 hr;have hz:loAt 8=0/\hiAt 8=0:=⟨rfl,rfl⟩;have ht:t=[]:=by simpa [textB]using w3
 refine⟨ks,by rw[ht,show n=0 by omega],λy hy=>⟨hk y hy,?_⟩⟩;exact List.all_eq_true.1 (show(ks.all λy=>isStmtK y.kind)=true from hs) y hy
def Lp(k:Int)(t:aM)(n:Int)(ks:List Nd):Prop:=
 ((k=13\/k=14\/k=17\/k=18)/\wholeB t true=true/\n=0/\ks=[])\/
 ((k=15\/k=22)/\wholeB t true=true/\n=0/\∃e,ks=[e]/\rightN e=true/\isExprK e.kind=true)\/
 ((k=16\/k=23)/\wholeB t true=true/\n=0/\∃u,ks=[.mk 33 u 0 []]/\wholeB u false=true)\/
 (k=19/\wholeB t false=true/\2<=n/\n<=6/\ks=[])\/(k=20/\wholeB t false=true/\n=0/\ks=[])\/
 ((k=21/\n<=9\/k=25/\n<=99)/\t=[]/\1<=n/\ks=[])\/(k=24/\t=[]/\n=0/\∃e,ks=[e]/\rightN e=true/\isExprK e.kind=true)
theorem mR{f:Int->Bool}:∀{ks:List Nd},kidsB ks [f]=true->∃a,ks=[a]/\f a.kind=true
 |[a],h=>⟨a,rfl,by simpa [kidsB]using h⟩
 |[],h=>by cases h
 |_::_::_,h=>by simp[kidsB]at h
theorem yE{f g:Int->Bool}:∀{ks:List Nd},kidsB ks [f,g]=true->∃a b,ks=[a,b]/\f a.kind=true/\g b.kind=true
 |[a,b],h=>⟨a,b,rfl,by simpa [kidsB]using h⟩
 |[],h=>by cases h
 |[_],h=>by simp[kidsB]at h
 |_::_::_::_,h=>by simp[kidsB]at h
theorem Lq{f g e:Int->Bool}:∀{ks:List Nd},kidsB ks [f,g,e]=true->∃a b c,ks=[a,b,c]/\f a.kind=true/\g b.kind=true/\e c.kind=true
 |[a,b,c],h=>⟨a,b,c,rfl,by simpa [kidsB]using h⟩
 |[],h=>by cases h
 |[_],h=>by simp[kidsB]at h
 |[_,_],h=>by simp[kidsB]at h
 |_::_::_::_::_,h=>by simp[kidsB]at h
theorem eV:∀{ks:List Nd},kidsB ks []=true->ks=[]
 |[],_=>rfl
 |_::_,h=>by cases h
theorem CJ{x:Nd}(hr:rightN x=true)(hk:isStmtK x.kind=true):
 (∃t e,x=.mk 9 t 0 [e]/\wholeB t false=true/\rightN e=true/\isExprK e.kind=true)\/
 (∃p e,x=.mk 10 [] 0 [p,e]/\rightN p=true/\isPlaceK p.kind=true/\rightN e=true/\isExprK e.kind=true)\/
 (∃k e b,(k=11\/k=12)/\x=.mk k [] 0 [e,b]/\rightN e=true/\isExprK e.kind=true/\rightN b=true/\isBlockK b.kind=true)\/
 (∃e b c,x=.mk 11 [] 0 [e,b,c]/\rightN e=true/\isExprK e.kind=true/\rightN b=true/\isBlockK b.kind=true/\rightN c=true/\isBlockK c.kind=true)\/
 (∃k t n ks,13<=k/\k<=25/\x=.mk k t n ks/\Lp k t n ks):=by
 obtain⟨k,t,n,ks⟩:=x;have hk:9<=k/\k<=25:=isStmtK_iff.1 hk;obtain⟨_,_,hs,w1,w2,w3,hk'⟩:=right_mk.1 hr;have hcase:k=9\/k=10\/k=11\/k=12\/k=13\/k=14\/k=15\/k=16\/k=17\/k=18\/k=19\/k=20\/k=21\/k=22\/k=23\/k=24\/k=25:=by omega
 rcases hcase with rfl|rfl|rfl|rfl|rfl|rfl|rfl|rfl|rfl|rfl|rfl|rfl|rfl|rfl|rfl|rfl|rfl
 ·obtain⟨e,rfl,he⟩:=mR (f:=isExprK) hs;have hz:loAt 9=0/\hiAt 9=0:=⟨rfl,rfl⟩;exact .inl ⟨t,e,by rw[show n=0 by omega],w3,hk' e (by simp),he⟩
 ·obtain⟨p,e,rfl,hp,he⟩:=yE (f:=isPlaceK) (g:=isExprK) hs;have hz:loAt 10=0/\hiAt 10=0:=⟨rfl,rfl⟩;have ht:t=[]:=by simpa [textB]using w3
  exact .inr (.inl ⟨p,e,by rw[ht,show n=0 by omega],hk' p (by simp),hp,hk' e (by simp),he⟩)
 ·have hz:loAt 11=0/\hiAt 11=0:=⟨rfl,rfl⟩;have ht:t=[]:=by simpa [textB]using w3
  have hs:(kidsB ks [isExprK,isBlockK]||kidsB ks [isExprK,isBlockK,isBlockK])=true:=hs;rw[Bool.or_eq_true]at hs;rcases hs with hs|hs
  ·obtain⟨e,b,rfl,he,hb⟩:=yE hs;exact .inr (.inr (.inl ⟨11,e,b,.inl rfl,by rw[ht,show n=0 by omega],hk' e (by simp),he,hk' b (by simp),hb⟩))
  ·obtain⟨e,b,c,rfl,he,hb,hc⟩:=Lq hs;exact .inr (.inr (.inr (.inl ⟨e,b,c,by rw[ht,show n=0 by omega],hk' e (by simp),he,hk' b (by simp),hb,hk' c (by simp),hc⟩)))
 ·have hz:loAt 12=0/\hiAt 12=0:=⟨rfl,rfl⟩;have ht:t=[]:=by simpa [textB]using w3
  obtain⟨e,b,rfl,he,hb⟩:=yE (f:=isExprK) (g:=isBlockK) hs;exact .inr (.inr (.inl ⟨12,e,b,.inr rfl,by rw[ht,show n=0 by omega],hk' e (by simp),he,hk' b (by simp),hb⟩))
 all_goals refine .inr (.inr (.inr (.inr ⟨_,t,n,ks,by decide,by decide,rfl,?_⟩)))
 ·have hz:loAt 13=0/\hiAt 13=0:=⟨rfl,rfl⟩;exact .inl ⟨by omega,w3,by omega,eV hs⟩
 ·have hz:loAt 14=0/\hiAt 14=0:=⟨rfl,rfl⟩;exact .inl ⟨by omega,w3,by omega,eV hs⟩
 ·have hz:loAt 15=0/\hiAt 15=0:=⟨rfl,rfl⟩;obtain⟨e,rfl,he⟩:=mR (f:=isExprK) hs;exact .inr (.inl ⟨by omega,w3,by omega,e,rfl,hk' e (by simp),he⟩)
 ·have hz:loAt 16=0/\hiAt 16=0:=⟨rfl,rfl⟩;obtain⟨e,rfl,he⟩:=mR (f:=isLocalK) hs;refine .inr (.inr (.inl ⟨by omega,w3,by omega,?_⟩));have he':e.kind=33:=by simpa [isLocalK]using he
  rcases rW (hk' e (by simp)) (by rw[he'];rfl)with⟨g1,_⟩|⟨g1,g2⟩|g1|⟨g1,_⟩|⟨g1,_⟩|⟨k',a,b,g1,g2,g3,_⟩
  ·omega
  ·exact⟨e.text,by rw[<-g1],g2⟩
  ·rw[g1]at he';cases he'
  ·rw[g1]at he';cases he'
  ·rw[g1]at he';cases he'
  ·rw[g3]at he';simp only[dM]at he';omega
 ·have hz:loAt 17=0/\hiAt 17=0:=⟨rfl,rfl⟩;exact .inl ⟨by omega,w3,by omega,eV hs⟩
 ·have hz:loAt 18=0/\hiAt 18=0:=⟨rfl,rfl⟩;exact .inl ⟨by omega,w3,by omega,eV hs⟩
 ·have hz:loAt 19=2/\hiAt 19=6:=⟨rfl,rfl⟩;exact .inr (.inr (.inr (.inl ⟨rfl,w3,by omega,by omega,eV hs⟩)))
 ·have hz:loAt 20=0/\hiAt 20=0:=⟨rfl,rfl⟩;exact .inr (.inr (.inr (.inr (.inl ⟨rfl,w3,by omega,eV hs⟩))))
 ·have hz:loAt 21=1/\hiAt 21=9:=⟨rfl,rfl⟩;exact .inr (.inr (.inr (.inr (.inr (.inl ⟨.inl ⟨rfl,by omega⟩,by simpa [textB]using w3,by omega,eV hs⟩)))))
 ·have hz:loAt 22=0/\hiAt 22=0:=⟨rfl,rfl⟩;obtain⟨e,rfl,he⟩:=mR (f:=isExprK) hs;exact .inr (.inl ⟨by omega,w3,by omega,e,rfl,hk' e (by simp),he⟩)
 ·have hz:loAt 23=0/\hiAt 23=0:=⟨rfl,rfl⟩;obtain⟨e,rfl,he⟩:=mR (f:=isLocalK) hs;refine .inr (.inr (.inl ⟨by omega,w3,by omega,?_⟩));have he':e.kind=33:=by simpa [isLocalK]using he
  rcases rW (hk' e (by simp)) (by rw[he'];rfl)with⟨g1,_⟩|⟨g1,g2⟩|g1|⟨g1,_⟩|⟨g1,_⟩|⟨k',a,b,g1,g2,g3,_⟩
  ·omega
  ·exact⟨e.text,by rw[<-g1],g2⟩
  ·rw[g1]at he';cases he'
  ·rw[g1]at he';cases he'
  ·rw[g1]at he';cases he'
  ·rw[g3]at he';simp only[dM]at he';omega
 ·have hz:loAt 24=0/\hiAt 24=0:=⟨rfl,rfl⟩;obtain⟨e,rfl,he⟩:=mR (f:=isExprK) hs;exact .inr (.inr (.inr (.inr (.inr (.inr ⟨rfl,by simpa [textB]using w3,by omega,e,rfl,hk' e (by simp),he⟩)))))
 ·have hz:loAt 25=1/\hiAt 25=99:=⟨rfl,rfl⟩;exact .inr (.inr (.inr (.inr (.inr (.inl ⟨.inr ⟨rfl,by omega⟩,by simpa [textB]using w3,by omega,eV hs⟩)))))
theorem vS{k:Int}{t:aM}{n:Int}{ks:List Nd}(h:Lp k t n ks):(if k=19\/k=20 then wholeB t false=true else k=21\/k=25\/k=24\/wholeB t true=true)/\0<=n/\n<=999/\∀e∈ks,rightN e=true/\isExprK e.kind=true:=by
 have loc:∀{u:aM},wholeB u false=true->rightN (.mk 33 u 0 [])=true/\isExprK (Nd.mk 33 u 0 []).kind=true:=λhu=>⟨right_mk.2 ⟨by decide,by decide,rfl,by decide,by decide,hu,λ_ h=>by cases h⟩,rfl⟩;rcases h with⟨h1,h2,h3,h4⟩|⟨h1,h2,h3,e,h4,h5,h6⟩|⟨h1,h2,h3,u,h4,h5⟩|⟨h1,h2,h3,h4,h5⟩|⟨h1,h2,h3,h4⟩|⟨h1,h2,h3,h4⟩|⟨h1,h2,h3,e,h4,h5,h6⟩
 ·refine⟨?_,by omega,by omega,λe he=>by rw[h4]at he;cases he⟩;rw[if_neg (by omega)];exact .inr (.inr (.inr h2))
 ·refine⟨?_,by omega,by omega,λy hy=>by rw[h4,List.mem_singleton]at hy;rw[hy];exact⟨h5,h6⟩⟩;rw[if_neg (by omega)];exact .inr (.inr (.inr h2))
 ·refine⟨?_,by omega,by omega,λy hy=>by rw[h4,List.mem_singleton]at hy;rw[hy];exact loc h5⟩;rw[if_neg (by omega)];exact .inr (.inr (.inr h2))
 ·refine⟨?_,by omega,by omega,λe he=>by rw[h5]at he;cases he⟩;rw[if_pos (by omega)];exact h2
 ·refine⟨?_,by omega,by omega,λe he=>by rw[h4]at he;cases he⟩;rw[if_pos (by omega)];exact h2
 ·refine⟨?_,by omega,by omega,λe he=>by rw[h4]at he;cases he⟩;rw[if_neg (by omega)];omega
 ·refine⟨?_,by omega,by omega,λy hy=>by rw[h4,List.mem_singleton]at hy;rw[hy];exact⟨h5,h6⟩⟩;rw[if_neg (by omega)];omega
def Nt(x:Nd):Prop:=∃t n,x=.mk 7 t n []/\wholeB t true=true/\ -999<=n/\n<=999
theorem Lr{x:Nd}(hr:rightN x=true)(hk:isItemK x.kind=true):Nt x:=by
 obtain⟨k,t,n,ks⟩:=x;have hk:k=7:=of_decide_eq_true (show decide (k=7)=true from hk);subst hk;obtain⟨_,_,hs,w1,w2,w3,_⟩:=right_mk.1 hr;have hz:loAt 7= -999/\hiAt 7=999:=⟨rfl,rfl⟩;exact⟨t,n,by rw[eV hs],w3,by omega,by omega⟩
def Ls(x:Nd):Prop:=wholeB x.text true=true/\(((x.kind=5\/x.kind=6)/\∃b,x=.mk x.kind x.text 0 [b]/\iI b)\/(x.kind=1/\x=.mk 1 x.text 0 x.kids/\∀y∈x.kids,Nt y)\/
 (x.kind=0/\x=.mk 0 x.text x.n []/\ -999<=x.n/\x.n<=999)\/(x.kind=2/\x=.mk 2 x.text x.n []/\0<=x.n/\x.n<=3)\/((x.kind=3\/x.kind=4)/\x=.mk x.kind x.text 0 []))
theorem vT{x:Nd}(hr:rightN x=true)(h0:0<=x.kind)(h1:x.kind<=6):Ls x:=by
 obtain⟨k,t,n,ks⟩:=x;have h0:0<=k:=h0;have h1:k<=6:=h1;obtain⟨_,_,hs,w1,w2,w3,hk⟩:=right_mk.1 hr;have hcase:k=0\/k=1\/k=2\/k=3\/k=4\/k=5\/k=6:=by omega
 refine⟨by rcases hcase with rfl|rfl|rfl|rfl|rfl|rfl|rfl<;>exact w3,?_⟩;rcases hcase with rfl|rfl|rfl|rfl|rfl|rfl|rfl
 ·have hz:loAt 0= -999/\hiAt 0=999:=⟨rfl,rfl⟩;exact .inr (.inr (.inl ⟨rfl,by rw[eV hs];rfl,by simp only[vO];omega,by simp only[vO];omega⟩))
 ·have hz:loAt 1=0/\hiAt 1=0:=⟨rfl,rfl⟩;exact .inr (.inl ⟨rfl,by rw[show n=0 by omega];rfl,λy hy=>Lr (hk y hy) (List.all_eq_true.1 (show(ks.all λy=>isItemK y.kind)=true from hs) y hy)⟩)
 ·have hz:loAt 2=0/\hiAt 2=3:=⟨rfl,rfl⟩;exact .inr (.inr (.inr (.inl ⟨rfl,by rw[eV hs];rfl,by simp only[vO];omega,by simp only[vO];omega⟩)))
 ·have hz:loAt 3=0/\hiAt 3=0:=⟨rfl,rfl⟩;exact .inr (.inr (.inr (.inr ⟨.inl rfl,by rw[eV hs,show n=0 by omega];rfl⟩)))
 ·have hz:loAt 4=0/\hiAt 4=0:=⟨rfl,rfl⟩;exact .inr (.inr (.inr (.inr ⟨.inr rfl,by rw[eV hs,show n=0 by omega];rfl⟩)))
 ·have hz:loAt 5=0/\hiAt 5=0:=⟨rfl,rfl⟩;obtain⟨b,rfl,hb⟩:=mR (f:=isBlockK) hs;exact .inl ⟨.inl rfl,b,by rw[show n=0 by omega];rfl,fZ (hk b (by simp)) hb⟩
 ·have hz:loAt 6=0/\hiAt 6=0:=⟨rfl,rfl⟩;obtain⟨b,rfl,hb⟩:=mR (f:=isBlockK) hs;exact .inl ⟨.inr rfl,b,by rw[show n=0 by omega];rfl,fZ (hk b (by simp)) hb⟩
theorem Pq{k:Int}(h:11<=k/\k<=25):kindP (wordAt k)=k:=by
 have:k=11\/k=12\/k=13\/k=14\/k=15\/k=16\/k=17\/k=18\/k=19\/k=20\/k=21\/k=22\/k=23\/k=24\/k=25:=by omega
 rcases this with rfl|rfl|rfl|rfl|rfl|rfl|rfl|rfl|rfl|rfl|rfl|rfl|rfl|rfl|rfl<;>decide
theorem Sv{k:Int}(h:0<=k/\k<=6):defKind (wordAt k)=k:=by
 have:k=0\/k=1\/k=2\/k=3\/k=4\/k=5\/k=6:=by omega
 rcases this with rfl|rfl|rfl|rfl|rfl|rfl|rfl<;>decide
end Go.Eng
namespace Go.Eng
section
variable{P:Program} {T:TypeId->eO} {N:Nat} {w0:cQ} {X:Nat->Prop} {Q:LX->dQ->dC->Prop} {env:dQ} {H:dC}
theorem Lt(hT:eZ P T)(hW:AL T){id:Nat}{l:List Oper}(h:(eG P T N l (λ_=>none) env H).ok/\Q .normal (eG P T N l (λ_=>none) env H).env (eG P T N l (λ_=>none) env H).H):
 eF P N w0 X (.region id l.toArray false) Q env H:=rM hT hW (λ_=>none) (λ_=>⟨rfl,λ_ h=>h⟩) h
theorem eF.ro(hT:eZ P T)(hW:AL T){id:Nat}{l:List Oper}(orc:Nat->Option jQ)(h:(eG P T N l orc env H).ok/\Q .normal (eG P T N l orc env H).env (eG P T N l orc env H).H)
 (hdet:∀d,tL (orc d):=by intro d;first|exact⟨rfl,λ_ h=>h⟩|(split<;>exact⟨rfl,λ_ h=>h⟩)):eF P N w0 X (.region id l.toArray false) Q env H:=rM hT hW orc hdet h
theorem Lu(hT:eZ P T)(hW:AL T){id:Nat}{l:List Oper}{y:Code}(h:(eG P T N l (λ_=>none) env H).ok/\wR (eF P N w0 X y Q) Q .normal (eG P T N l (λ_=>none) env H).env (eG P T N l (λ_=>none) env H).H):
 eF P N w0 X (.seq (.region id l.toArray false) y) Q env H:=eF.seq (Lt hT hW h)
theorem aX(hT:eZ P T)(hW:AL T){id:Nat}{l:List Oper}{y:Code}(orc:Nat->Option jQ)(h:(eG P T N l orc env H).ok/\wR (eF P N w0 X y Q) Q .normal (eG P T N l orc env H).env (eG P T N l orc env H).H)
 (hdet:∀d,tL (orc d):=by intro d;first|exact⟨rfl,λ_ h=>h⟩|(split<;>exact⟨rfl,λ_ h=>h⟩)):eF P N w0 X (.seq (.region id l.toArray false) y) Q env H:=eF.seq (eF.ro hT hW orc h hdet)
theorem aA{id:Nat}{l:List Oper}{y:Code}(h:(eG Go.Proofs.Tryz.prog Eng.T N l (λ_=>none) env H).ok/\wR (eF Go.Proofs.Tryz.prog N w0 X y Q) Q .normal (eG Go.Proofs.Tryz.prog Eng.T N l (λ_=>none) env H).env (eG Go.Proofs.Tryz.prog Eng.T N l (λ_=>none) env H).H):
 eF Go.Proofs.Tryz.prog N w0 X (.seq (.region id l.toArray false) y) Q env H:=Lu hT hW h
theorem aJ{id:Nat}{l:List Oper}(h:(eG Go.Proofs.Tryz.prog Eng.T N l (λ_=>none) env H).ok/\Q .normal (eG Go.Proofs.Tryz.prog Eng.T N l (λ_=>none) env H).env (eG Go.Proofs.Tryz.prog Eng.T N l (λ_=>none) env H).H):
 eF Go.Proofs.Tryz.prog N w0 X (.region id l.toArray false) Q env H:=Lt hT hW h
theorem aAq{id:Nat}{l:List Oper}{y z:Code}(h:(eG Go.Proofs.Tryz.prog Eng.T N l (λ_=>none) env H).ok/\wR (eF Go.Proofs.Tryz.prog N w0 X y (wR (eF Go.Proofs.Tryz.prog N w0 X z Q) Q)) (wR (eF Go.Proofs.Tryz.prog N w0 X z Q) Q) .normal (eG Go.Proofs.Tryz.prog Eng.T N l (λ_=>none) env H).env (eG Go.Proofs.Tryz.prog Eng.T N l (λ_=>none) env H).H):
 eF Go.Proofs.Tryz.prog N w0 X (.seq (.seq (.region id l.toArray false) y) z) Q env H:=eF.seq (Lu hT hW h)
theorem aAr{id:Nat}{l:List Oper}{x y:Code}{c:Operand}(h:(eG Go.Proofs.Tryz.prog Eng.T N l (λ_=>none) env H).ok/\Nc (jG (eG Go.Proofs.Tryz.prog Eng.T N l (λ_=>none) env H).env c) (eF Go.Proofs.Tryz.prog N w0 X x Q (eG Go.Proofs.Tryz.prog Eng.T N l (λ_=>none) env H).env (eG Go.Proofs.Tryz.prog Eng.T N l (λ_=>none) env H).H) (eF Go.Proofs.Tryz.prog N w0 X y Q (eG Go.Proofs.Tryz.prog Eng.T N l (λ_=>none) env H).env (eG Go.Proofs.Tryz.prog Eng.T N l (λ_=>none) env H).H)):
 eF Go.Proofs.Tryz.prog N w0 X (.seq (.region id l.toArray false) (.cond c x y)) Q env H:=Lu hT hW ⟨h.1,aC h.2⟩
abbrev aAs{id:Nat}{l:List Oper}(orc:Nat->Option jQ)(h:(eG Go.Proofs.Tryz.prog Eng.T N l orc env H).ok/\Q .normal (eG Go.Proofs.Tryz.prog Eng.T N l orc env H).env (eG Go.Proofs.Tryz.prog Eng.T N l orc env H).H)
 (hdet:∀d,tL (orc d):=by intro d;first|exact⟨rfl,λ_ h=>h⟩|(split<;>exact⟨rfl,λ_ h=>h⟩)):eF Go.Proofs.Tryz.prog N w0 X (.region id l.toArray false) Q env H:=eF.ro hT hW orc h hdet
abbrev aAt{id:Nat}{l:List Oper}{y:Code}(orc:Nat->Option jQ)(h:(eG Go.Proofs.Tryz.prog Eng.T N l orc env H).ok/\wR (eF Go.Proofs.Tryz.prog N w0 X y Q) Q .normal (eG Go.Proofs.Tryz.prog Eng.T N l orc env H).env (eG Go.Proofs.Tryz.prog Eng.T N l orc env H).H)
 (hdet:∀d,tL (orc d):=by intro d;first|exact⟨rfl,λ_ h=>h⟩|(split<;>exact⟨rfl,λ_ h=>h⟩)):eF Go.Proofs.Tryz.prog N w0 X (.seq (.region id l.toArray false) y) Q env H:=aX hT hW orc h hdet
end
section
variable{P:Program} {T:TypeId->eO} {N:Nat} {w0:cQ} {X:Nat->Prop} {Q:LX->dQ->dC->Prop} {env env':dQ} {H H':dC}
theorem aB{P':List Nat}(hp:w0.pins=P')(keep:List Nat)(σ:List (Nat×Nat))(hE:aO (keep.map λt=>(t,ren σ 8 (env t)))=env':=by simp)(hH:aI (σ.map λp=>(p.2,cH σ (H p.1)))=H':=by simp)
 (hσ:(σ.map (·.2)).Nodup:=by decide)(hσ1:(σ.map (·.1)).Nodup:=by decide)(hpin:(P'.all λid=>dG σ id==some id)=true:=by rfl):gO w0 env H env' H':=
 nI keep σ hσ hσ1 (λid hid=>by rw[hp]at hid;simpa using List.all_eq_true.1 hpin id hid) hE hH
theorem aZ{f:FuncId}{fn:Func}{c:Code}{args:List DV}{r:RV}{fresh:Bool}{n t:Nat}(hf:Go.Proofs.Tryz.prog.funcs[f]? =some fn)(hb:fn.body=some c)(hn:fn.ntmps=n)(hres:fn.results= #[.tmp t])
 (h:∀w0 X,w0.pins=[]->eF Go.Proofs.Tryz.prog n w0 X c (US t fresh r) (gF args) (aI []))(hname:(fn.name== "runtime.NumGoroutine")=false:=by kernel_rfl)(hargs:args.length<=n:=by simp)(hrt:∀rs,r≠ .tup rs:=by intro _ h;cases h):Ok Go.Proofs.Tryz.prog f args ⟨r,fresh⟩:=Ok.ret hf hname hb hn hargs hres hrt h
theorem Nu{f:FuncId}{fn:Func}{c:Code}{args:List DV}{r:RV}{fresh:Bool}{n t:Nat}{ty:TypeId}(hf:Go.Proofs.Tryz.prog.funcs[f]? =some fn)(hb:fn.body=some c)(hn:fn.ntmps=n)(hres:fn.results= #[.cell t ty])
 (h:∀w0 X,w0.pins=[]->eF Go.Proofs.Tryz.prog n w0 X c (UT Eng.T t ty fresh r) (gF args) (aI []))(hname:(fn.name== "runtime.NumGoroutine")=false:=by kernel_rfl)(hargs:args.length<=n:=by simp)(hrt:∀rs,r≠ .tup rs:=by intro _ h;cases h):Ok Go.Proofs.Tryz.prog f args ⟨r,fresh⟩:=Ok.cell hT hf hname hb hn hargs hres hrt h
theorem rX{f:FuncId}{fn:Func}{c:Code}{args:List LV}{h fin:List (Nat×aV)}{n:Nat}(hf:Go.Proofs.Tryz.prog.funcs[f]? =some fn)(hb:fn.body=some c)(hn:fn.ntmps=n)(hres:fn.results= #[])
 (hw:∀w0 X,w0.pins=h.map (·.1)->eF Go.Proofs.Tryz.prog n w0 X c (EK w0 fin) (Gp args) (aI h))(hname:(fn.name== "runtime.NumGoroutine")=false:=by kernel_rfl)(hargs:args.length<=n:=by simp):iE Go.Proofs.Tryz.prog f args h fin (.tup []):=RZ hf hname hb hn hargs hres hw
theorem gJ{f:FuncId}{fn:Func}{c:Code}{args:List LV}{h fin:List (Nat×aV)}{ret:LV}{n t:Nat}(hf:Go.Proofs.Tryz.prog.funcs[f]? =some fn)(hb:fn.body=some c)(hn:fn.ntmps=n)(hres:fn.results= #[.tmp t])
 (hw:∀w0 X,w0.pins=h.map (·.1)->eF Go.Proofs.Tryz.prog n w0 X c (Ni w0 t fin ret) (Gp args) (aI h))(hname:(fn.name== "runtime.NumGoroutine")=false:=by kernel_rfl)(hargs:args.length<=n:=by simp):iE Go.Proofs.Tryz.prog f args h fin ret:=iE.one hf hname hb hn hargs hres hw
theorem eR{f:FuncId}{fn:Func}{c:Code}{args:List LV}{h fin:List (Nat×aV)}{ret:LV}{n t:Nat}{ty:TypeId}(hf:Go.Proofs.Tryz.prog.funcs[f]? =some fn)(hb:fn.body=some c)(hn:fn.ntmps=n)(hres:fn.results= #[.cell t ty])
 (hw:∀w0 X,w0.pins=h.map (·.1)->eF Go.Proofs.Tryz.prog n w0 X c (Nk w0 Eng.T t ty fin ret) (Gp args) (aI h))(hname:(fn.name== "runtime.NumGoroutine")=false:=by kernel_rfl)(hargs:args.length<=n:=by simp):iE Go.Proofs.Tryz.prog f args h fin ret:=iE.cell hT hf hname hb hn hargs hres hw
abbrev aD{P:Program}{N:Nat}{w0:cQ}{X:Nat->Prop}{Q:LX->dQ->dC->Prop}{env:dQ}{H:dC}{x y:Code}(h:eF P N w0 X x (wR (eF P N w0 X y Q) Q) env H):=eF.seq h
abbrev aF{P:Program}{N:Nat}{w0:cQ}{X:Nat->Prop}{Q:LX->dQ->dC->Prop}{env:dQ}{H:dC}(h:Q .ret env H):eF P N w0 X .ret Q env H:=eF.ret h
abbrev aE{P:Program}{N:Nat}{w0:cQ}{X:Nat->Prop}{Q:LX->dQ->dC->Prop}{env:dQ}{H:dC}(h:Q .normal env H):eF P N w0 X .skip Q env H:=eF.skip h
abbrev bA{P:Program}{N:Nat}{w0:cQ}{X:Nat->Prop}{Q:LX->dQ->dC->Prop}{env:dQ}{H:dC}{id:Nat}(h:Q (.exit id) env H):eF P N w0 X (.exit id) Q env H:=eF.exit h
abbrev aH{P:Program}{N:Nat}{w0:cQ}{X:Nat->Prop}{Q:LX->dQ->dC->Prop}{env:dQ}{H:dC}{id:Nat}{c:Code}(h:eF P N w0 X c (tM id Q) env H):eF P N w0 X (.block id c) Q env H:=eF.block h
abbrev aAu{P:Program}{N:Nat}{w0:cQ}{X:Nat->Prop}{Q:LX->dQ->dC->Prop}{env:dQ}{H:dC}{id:Nat}{x y:Code}(h:eF P N w0 X x (tM id (wR (eF P N w0 X y Q) Q)) env H):eF P N w0 X (.seq (.block id x) y) Q env H:=eF.seq (eF.block h)
abbrev aAv{P:Program}{N:Nat}{w0:cQ}{X:Nat->Prop}{Q:LX->dQ->dC->Prop}{env:dQ}{H:dC}{x y z:Code}(h:eF P N w0 X x (wR (eF P N w0 X y (wR (eF P N w0 X z Q) Q)) (wR (eF P N w0 X z Q) Q)) env H):eF P N w0 X (.seq (.seq x y) z) Q env H:=eF.seq (eF.seq h)
def clG(l:List Oper):List (List Nat):=l.foldl (λacc o=>acc++[o.after.toList.foldl (λs e=>if Region.binds .any e then(if s.contains e.on then s else e.on::s)++((acc.getD e.on []).filter λi=> !(i==e.on||s.contains i))else s) []]) []
def YV(l:List Oper)(j:Nat):List Nat:=(clG l).getD j []
theorem eF.rd{id:Nat}{l:List Oper}(hide wr:List (List Nat))(orc:Nat->Option jQ)
 (h:(wF Go.Proofs.Tryz.prog Eng.T N l orc (lk hide) (lk wr) ⟨env,H,True⟩).ok/\Q .normal (wF Go.Proofs.Tryz.prog Eng.T N l orc (lk hide) (lk wr) ⟨env,H,True⟩).env (wF Go.Proofs.Tryz.prog Eng.T N l orc (lk hide) (lk wr) ⟨env,H,True⟩).H)
 (hA:CA l (YV l) (lk hide) (lk wr)=true:=by kernel_rfl)(hdet:∀d,tL (orc d):=by intro d;first|exact⟨rfl,λ_ h=>h⟩|(split<;>exact⟨rfl,λ_ h=>h⟩)):eF Go.Proofs.Tryz.prog N w0 X (.region id l.toArray true) Q env H:=
 KX hT hW (by kernel_rfl) (YV l) (lk hide) (lk wr) hA orc hdet h
end
end Go.Eng
namespace Go.Eng
theorem YL:Tryz.prog.follows .mixedOrders=true:=by kernel_rfl
theorem XW(a b:Nm):(decide (a.who=b.who)&&decide (a.seq=b.seq))=decide (a=b):=by
 cases a;cases b;simp[Bool.decide_and]
theorem XX(a b:Df):(a.name==b.name&&a.text==b.text)=decide (a=b):=by
 cases a;cases b;simp[Bool.beq_eq_decide_eq]
attribute[simp] eG eK hZ bO jG nH lB AM bY bQ jO.plain jO.cond jO.fail fD BS wR tM gF nD eT oJ memless Gf mI vE On XK pJ gT strip ED jK zP cD wF fM iH iA iG wE lk cH dG cK dS cE BW gD HB lN oB cF mJ eU kF gY KZ La Ig Lb OS OT OU Lc Ih Ld Ii Le OW OX Pa Pb Lf Pe Es BT mkAgg Kl Hz gS bS fP aV.live TK.isNone TK.agg TK.isBool TK.isStr TK.isStruct Op.operands Call.operands eB iD iR gR qH BU MW cZ kG iC mN tD bC frozen pP RE RG Ng OQ RI RJ RK RO Nh OR RQ RS RT RW XQ UU WQ WR WT WU WW RX RB OP KY Nm.d Df.d Ed.d YD eM jD YE RC XW XX Gs Gt YF YG XR YH YI XS XT XU Xa YJ YK XV fE fC nS WB nT kH kJ kI qJ QV TK.isInt RH RP WS OZ pI kK qI mM tC vC mF BV HA AB sV XP qG gN jH qF kE nR gZ tA kL kM fQ Gp Pf Gq Pg Ph cH RM RN WP CC Pi Sa Pc Pd Lh gB pH TK.isPtr qK cJ Sb Ij Nj RL RU WV OV OY Lg Il Se Pj
attribute[local simp] jO.cond Nd.d_eq nd_t nd_dr nd_td ndsD
structure BC where
 b:Bool
theorem Nv{a b:Nat}:(if a<b then(b:Int)else(a:Int))=((max a b:Nat):Int):=by split<;>omega
theorem kR{x:Nd}{i:Nat}(hi:i<x.kids.length):weighN x.kids[i]<weighN x:=by
 have:=weigh_mem (List.getElem_mem hi);rw[weighN_eq x];omega
theorem kC(x:Nd):x.kids.length<weighN x:=by
 have:=weigh_len (l:=x.kids);rw[weighN_eq x];omega
theorem dV(n m:Int)(h1: -9223372036854775808<=n)(h2:n<=9223372036854775807)(hm:m≠0):Ok Tryz.prog 25 [aG n,aG m] ⟨.d (aG (bE n m)),true⟩:=by
 refine aZ Tryz.func25 rfl Tryz.ntmps25 Tryz.results25 λw0 X hp=>?_;refine aA ?_;simp;refine aD ?_;refine aA ?_;simp;refine aC ?_;simp;refine⟨λh1=>?_,λh1=>?_⟩
 ·refine aJ ?_;simp;refine⟨by omega,?_⟩;refine aA ?_;simp;refine⟨hm,?_⟩;refine aF ?_;simp[bE,h1]
 ·refine aE ?_;simp;refine aA ?_;simp;refine⟨hm,?_⟩;refine aF ?_;have:¬n<0:=by omega
  simp[bE,this]
theorem Ix(l:List Int)(i m:Int)(hl:∀n∈l, -9223372036854775808<=n/\n<=9223372036854775807)(hm:m≠0):Ok Tryz.prog 53 [.sl (l.map aG),aG i,aG m] ⟨.d (aG (dH l i m)),true⟩:=by
 refine aZ Tryz.func53 rfl Tryz.ntmps53 Tryz.results53 λw0 X hp=>?_;refine aA ?_;simp;refine aD ?_;refine aD ?_;refine eF.len (t:=0) rfl λhlen=>?_;simp at hlen;refine aJ ?_;simp;refine aC ?_;simp;refine⟨λh1=>?_,λh1 h2=>?_⟩
 ·refine aA ?_;simp;refine aF ?_;simp[dH,h1]
 ·obtain⟨k,rfl⟩:=Int.eq_ofNat_of_zero_le h1;have hi':k<l.length:=by omega
  refine aE ?_;simp;refine aX hT hW (λ|20=>some<| .plain ⟨.d (aG (bE l[k] m)),true⟩|_=>none) ?_;simp[h2,hi'];refine⟨dV _ _ (hl _ (List.getElem_mem hi')).1 (hl _ (List.getElem_mem hi')).2 hm,?_⟩;refine aF ?_;simp[dH,hi'];omega
theorem Lv(x:Nd)(hw:weighN x<=1000000000)(ih:∀y∈x.kids,weighN y<=1000000000->Ok Tryz.prog 129 [y.d] ⟨.d (aG (depthN y)),true⟩):Ok Tryz.prog 129 [x.d] ⟨.d (aG (depthN x)),true⟩:=by
 refine aZ Tryz.func129 rfl Tryz.ntmps129 Tryz.results129 λw0 X hp=>?_;refine aA ?_;simp;refine aA ?_;simp;refine aD ?_;refine aA ?_;simp;refine aH ?_;refine aR (ι:=Nat) (λi=>aO [(3,.d (aG (depthL (x.kids.take i)))),(7,.d (ndsD x.kids)),(8,.d (aG x.kids.length)),(9,.d (aG i))]) (λi=>aI []) (λi=>i<=x.kids.length) (λi=>x.kids.length-i) 0 (aB hp [3,7,8,9] [] (by simp[depthL])) (Nat.zero_le _) λi hi3=>?_;refine aA ?_;simp;refine aD ?_;refine aC ?_;simp;refine⟨λh3=>?_,λh3=>?_⟩
 ·refine aE ?_;simp;refine aD ?_;refine aH ?_;refine aD ?_;have hi:i<x.kids.length:=by omega
  refine aJ ?_;simp[hi];have hk:=ih _ (List.getElem_mem hi) (by have:=kR hi;omega);refine eF.ro hT hW (λ|15=>some<| .plain ⟨.d (aG (depthN x.kids[i])),true⟩|_=>none) ?_;simp;refine⟨by simpa using hk,?_⟩;have:=kC x;refine aJ ?_;simp;refine⟨by omega,?_⟩;refine Nf.mk (i+1) (aB hp [3,7,8,9] [] (by simp[depthL_succ hi,Nv])) ?_ ?_
  ·omega
  ·omega
 ·refine bA ?_;simp;refine aD ?_;have hi:i=x.kids.length:=by omega
  subst hi;rw[List.take_length];have h1:=depth_size x;have h2:=size_weigh x;have h3:=depthN_eq x;refine aJ ?_;simp;refine⟨by omega,?_⟩;refine aF ?_;simp[h3]
theorem Sw(x:Nd)(hw:weighN x<=1000000000):Ok Tryz.prog 129 [x.d] ⟨.d (aG (depthN x)),true⟩:=by
 revert hw;exact lX (p:=λx=>weighN x<=1000000000->Ok Tryz.prog 129 [x.d] ⟨.d (aG (depthN x)),true⟩) (λk t n ks ih hw=>Lv _ hw ih) x
section
attribute[local simp] jO.cond Nd.d_eq nd_t nd_dr nd_td ndsD
def nA{α:Type}(p:α->Bool)(l:List α):Int:=match l.findIdx? p with|some i=>i|none=> -1
theorem qR{α:Type}{p:α->Bool}{l:List α}{i:Nat}(h:l.findIdx? p=some i):nA p l=i:=by simp[nA,h]
theorem qS{α:Type}{p:α->Bool}{l:List α}(h:l.findIdx? p=none):nA p l= -1:=by simp[nA,h]
theorem AV{α:Type}{p:α->Bool}{l:List α}:decide (0<=nA p l)=l.any p:=by
 unfold nA;split
 ·rename_i i hi;obtain⟨h1,h2,_⟩:=List.findIdx?_eq_some_iff_getElem.1 hi;have:l.any p=true:=Xb h1 h2;rw[this];simp
 ·rename_i hi;rw[List.findIdx?_eq_none_iff]at hi;have:l.any p=false:=by rw[List.any_eq_false];intro x hx;rw[hi x hx];simp
  rw[this];simp
theorem Gz{α:Type}{p:α->Bool}{l:List α}:0<=nA p l↔l.any p=true:=by
 rw[<-AV];simp
theorem qA(l:List aM)(n:aM):Ok Tryz.prog 120 [jD l,.str n] ⟨.d (aG (nA (λx=>decide (n=x)) l)),true⟩:=by
 refine aZ Tryz.func120 rfl Tryz.ntmps120 Tryz.results120 λw0 X hp=>?_;refine eF.len (t:=0) rfl λhlen=>?_;simp at hlen;refine aA ?_;simp;refine aD ?_;refine aA ?_;simp;refine aH ?_;refine aR (ι:=Nat) (λi=>aO [(0,.d (jD l)),(1,.d (.str n)),(7,.d (aG l.length)),(8,.d (aG i))]) (λi=>aI []) (λi=>i<=l.length/\Nq (λx=>decide (n=x)) l i) (λi=>l.length-i) 0 (aB hp [0,1,7,8] []) (⟨Nat.zero_le _,Nq.zero⟩) λi hi2=>?_;refine aA ?_;simp;refine aD ?_;refine aC ?_;simp;refine⟨λh2=>?_,λh2=>?_⟩
 ·refine aE ?_;simp;refine aD ?_;refine aH ?_;refine aA ?_;simp;refine aA ?_;simp[h2];refine aC ?_;simp;refine⟨λh4=>?_,λh4=>?_⟩
  ·refine aA ?_;simp;refine aF ?_;simp[qR (hi2.2.found h2 (by simpa using h4))]
  ·refine aE ?_;simp;refine aJ ?_;simp;refine⟨by omega,?_⟩;refine Nf.mk (i+1) (aB hp [0,1,7,8] []) ?_ ?_
   ·exact⟨h2,hi2.2.succ h2 (by simpa using h4)⟩
   ·omega
 ·refine bA ?_;simp;refine aA ?_;simp;refine aF ?_;simp[qS (hi2.2.none (by omega))]
theorem Iy(l:List aM)(n:aM):Ok Tryz.prog 104 [jD l,.str n] ⟨.d (.bool (decide (n∈l))),true⟩:=by
 refine aZ Tryz.func104 rfl Tryz.ntmps104 Tryz.results104 λw0 X hp=>?_;refine aA ?_;simp;refine aX hT hW (λ|7=>some<| .plain ⟨.d (aG (nA (λx=>decide (n=x)) l)),true⟩|_=>none) ?_;simp;refine⟨qA l n,?_⟩;refine aF ?_;simp[Gz]
theorem Lw(l:List Nd)(p:Nd->Bool)(g:FuncId)(cs:List DV)(hg:∀x∈l,Ok Tryz.prog g (x.d::cs) ⟨.d (.bool (p x)),true⟩):Ok Tryz.prog 133 [ndsD l,.fn g cs] ⟨.d (aG (nA p l)),true⟩:=by
 refine aZ Tryz.func133 rfl Tryz.ntmps133 Tryz.results133 λw0 X hp=>?_;refine eF.len (t:=0) rfl λhlen=>?_;simp at hlen;refine aA ?_;simp;refine aD ?_;refine aA ?_;simp;refine aH ?_;refine aR (ι:=Nat) (λi=>aO [(0,.d (ndsD l)),(1,.d (.fn g cs)),(7,.d (aG l.length)),(8,.d (aG i))]) (λi=>aI []) (λi=>i<=l.length/\Nq p l i) (λi=>l.length-i) 0 (aB hp [0,1,7,8] []) (⟨Nat.zero_le _,Nq.zero⟩) λi hi2=>?_;refine aA ?_;simp;refine aD ?_;refine aC ?_;simp;refine⟨λh2=>?_,λh2=>?_⟩
 ·refine aE ?_;simp;refine aD ?_;refine aH ?_;refine aA ?_;simp;refine aX hT hW (λ|16=>some<| .plain ⟨.d (.bool (p l[i])),true⟩|_=>none) ?_;simp[h2];refine⟨by simpa using hg l[i] (List.getElem_mem h2),?_⟩;refine aC ?_;simp;refine⟨λh4=>?_,λh4=>?_⟩
  ·refine aA ?_;simp;refine aF ?_;simp[qR (hi2.2.found h2 h4)]
  ·refine aE ?_;simp;refine aJ ?_;simp;refine⟨by omega,?_⟩;refine Nf.mk (i+1) (aB hp [0,1,7,8] []) ?_ ?_
   ·exact⟨h2,hi2.2.succ h2 h4⟩
   ·omega
 ·refine bA ?_;simp;refine aA ?_;simp;refine aF ?_;simp[qS (hi2.2.none (by omega))]
theorem Iz(l:List Nd)(p:Nd->Bool)(g:FuncId)(cs:List DV)(hg:∀x∈l,Ok Tryz.prog g (x.d::cs) ⟨.d (.bool (p x)),true⟩):Ok Tryz.prog 79 [ndsD l,.fn g cs] ⟨.d (.bool (l.any p)),true⟩:=by
 refine aZ Tryz.func79 rfl Tryz.ntmps79 Tryz.results79 λw0 X hp=>?_;refine aA ?_;simp;refine aX hT hW (λ|7=>some<| .plain ⟨.d (aG (nA p l)),true⟩|_=>none) ?_;simp;refine⟨by simpa using Lw l p g cs hg,?_⟩;refine aF ?_;simp[<-AV]
theorem Pr(k:Int):Ok Tryz.prog 190 [aG k] ⟨.d (.bool (isStmtK k)),true⟩:=by
 refine aZ Tryz.func190 rfl Tryz.ntmps190 Tryz.results190 λw0 X hp=>?_;refine aA ?_;simp;refine aA ?_;simp;refine aF ?_;simp[isStmtK]
theorem Ps(k:Int):Ok Tryz.prog 189 [aG k] ⟨.d (.bool (isItemK k)),true⟩:=by
 refine aZ Tryz.func189 rfl Tryz.ntmps189 Tryz.results189 λw0 X hp=>?_;refine aA ?_;simp;refine aA ?_;simp;refine aF ?_;simp[isItemK]
theorem oO(k:Int):Ok Tryz.prog 192 [aG k] ⟨.d (.bool (isBlockK k)),true⟩:=by
 refine aZ Tryz.func192 rfl Tryz.ntmps192 Tryz.results192 λw0 X hp=>?_;refine aA ?_;simp;refine aA ?_;simp;refine aF ?_;simp[isBlockK]
theorem lY(k:Int):Ok Tryz.prog 193 [aG k] ⟨.d (.bool (isExprK k)),true⟩:=by
 refine aZ Tryz.func193 rfl Tryz.ntmps193 Tryz.results193 λw0 X hp=>?_;refine aA ?_;simp;refine aA ?_;simp;refine aF ?_;simp[isExprK]
theorem Lx(k:Int):Ok Tryz.prog 194 [aG k] ⟨.d (.bool (isPlaceK k)),true⟩:=by
 refine aZ Tryz.func194 rfl Tryz.ntmps194 Tryz.results194 λw0 X hp=>?_;refine aA ?_;simp;refine aA ?_;simp;refine aF ?_;simp[isPlaceK]
theorem Ly(k:Int):Ok Tryz.prog 195 [aG k] ⟨.d (.bool (isLocalK k)),true⟩:=by
 refine aZ Tryz.func195 rfl Tryz.ntmps195 Tryz.results195 λw0 X hp=>?_;refine aA ?_;simp;refine aA ?_;simp;refine aF ?_;simp[isLocalK]
theorem Va(x:Nd)(g:FuncId)(f:Int->Bool)(hg:∀k,Ok Tryz.prog g [aG k] ⟨.d (.bool (f k)),true⟩):Ok Tryz.prog 215 [x.d,.ro [.fn g []]] ⟨.d (.bool (!f x.kind)),true⟩:=by
 refine aZ Tryz.func215 rfl Tryz.ntmps215 Tryz.results215 λw0 X hp=>?_;refine aA ?_;simp;refine aX hT hW (λ|7=>some<| .plain ⟨.d (.bool (f x.kind)),true⟩|_=>none) ?_;simp;refine⟨hg _,?_⟩;refine aF ?_;simp
theorem Sx(x:Nd)(g:FuncId)(f:Int->Bool)(hg:∀k,Ok Tryz.prog g [aG k] ⟨.d (.bool (f k)),true⟩):Ok Tryz.prog 188 [x.d,.fn g []] ⟨.d (.bool (x.kids.all λy=>f y.kind)),true⟩:=by
 refine aZ Tryz.func188 rfl Tryz.ntmps188 Tryz.results188 λw0 X hp=>?_;refine aA ?_;simp;refine aX hT hW (λ|8=>some<| .plain ⟨.d (.bool (x.kids.any λy=> !f y.kind)),true⟩|_=>none) ?_;simp;refine⟨by simpa using Iz x.kids (λy=> !f y.kind) _ _ λy _=>Va y g f hg,?_⟩;refine aF ?_;simp[List.all_eq_not_any_not]
theorem EU:∀{ks:List Nd} {fs:List (Int->Bool)},ks.length≠fs.length->kidsB ks fs=false
 |[],[],h=>absurd rfl h
 |[],_::_,_=>rfl
 |_::_,[],_=>rfl
 |x::r,f::l,h=>by rw[kidsB,EU (ks:=r) (fs:=l) (by simpa using h),Bool.and_false]
theorem CK:∀{ks:List Nd} {fs:List (Int->Bool)},ks.length=fs.length->(kidsB ks fs=true↔∀(i:Nat) (h1:i<ks.length) (h2:i<fs.length),fs[i] ks[i].kind=true)
 |[],[],_=>⟨λ_ i h=>by simp at h,λ_=>rfl⟩
 |[],_::_,h=>by simp at h
 |_::_,[],h=>by simp at h
 |x::r,f::l,h=>by
  rw[kidsB,Bool.and_eq_true,CK (ks:=r) (fs:=l) (by simpa using h)];constructor
  ·rintro⟨h1,h2⟩ i hi hj;cases i with
   |zero=>exact h1
   |succ i=>exact h2 i (by simpa using hi) (by simpa using hj)
  ·intro h;exact⟨h 0 (by simp) (by simp),λi hi hj=>h (i+1) (by simpa using hi) (by simpa using hj)⟩
structure Vb(gs:List FuncId)(fs:List (Int->Bool)):Prop where
 len:gs.length=fs.length
 ok:∀(i:Nat) (h1:i<gs.length) (h2:i<fs.length) (k:Int),Ok Tryz.prog gs[i] [aG k] ⟨.d (.bool (fs[i] k)),true⟩
def Pt(g:FuncId):DV:=.fn g []
theorem nL(x:Nd)(gs:List FuncId)(fs:List (Int->Bool))(hg:Vb gs fs)(hgl:gs.length<=100):Ok Tryz.prog 191 [x.d,.sl (gs.map Pt)] ⟨.d (.bool (kidsB x.kids fs)),true⟩:=by
 refine aZ Tryz.func191 rfl Tryz.ntmps191 Tryz.results191 λw0 X hp=>?_;have hgf:=hg.len;refine aA ?_;simp;refine aD ?_;refine aA ?_;simp;refine aC ?_;simp;refine⟨λh1=>?_,λh1=>?_⟩
 ·refine aA ?_;simp;refine aF ?_;simp;exact EU (by omega)
 ·refine aE ?_;simp;refine aD ?_;refine aD ?_;have hlen:x.kids.length=fs.length:=by omega
  have hkl:x.kids.length<=100:=by omega
  refine aJ ?_;simp;refine aH ?_;refine aR (ι:=Nat) (λi=>aO [(1,.d (.sl (gs.map Pt))),(14,.d (ndsD x.kids)),(15,.d (aG x.kids.length)),(16,.d (aG i))]) (λi=>aI []) (λi=>i<=x.kids.length/\∀(j:Nat) (h1:j<x.kids.length) (h2:j<fs.length),j<i->fs[j] x.kids[j].kind=true) (λi=>x.kids.length-i) 0 (aB hp [1,14,15,16] []) (⟨Nat.zero_le _,λj _ _ h=>absurd h (Nat.not_lt_zero _)⟩) λi hi4=>?_;refine aA ?_;simp;refine aD ?_;refine aC ?_;simp;refine⟨λh4=>?_,λh4=>?_⟩
  ·refine aE ?_;simp;refine aD ?_;refine aH ?_;refine aD ?_;have hi:i<x.kids.length:=by omega
   have hif:i<fs.length:=(by omega);have hig:i<gs.length:=(by omega);refine aJ ?_;simp[hi];refine aD ?_;have hk:=hg.ok i hig hif x.kids[i].kind;refine eF.rd [] [[],[],[],[],[],[],[27]] (λ|27=>some<| .plain ⟨.d (.bool (fs[i] x.kids[i].kind)),true⟩|_=>none) ?_;simp[hig,Pt,dS];refine⟨hk,?_⟩;refine aC ?_;simp;refine⟨λh6=>?_,λh6=>?_⟩
   ·refine aA ?_;simp;refine aF ?_;simp;rw[<-Bool.not_eq_true,CK hlen];intro h;have:=h i hi hif;simp[h6]at this
   ·refine aE ?_;simp;refine aJ ?_;simp;refine⟨by omega,?_⟩;refine Nf.mk (i+1) (aB hp [1,14,15,16] []) ?_ ?_
    ·refine⟨by omega,λj q1 q2 q3=>?_⟩;rcases Nat.lt_or_ge j i with q|q
     ·exact hi4.2 j q1 q2 q
     ·have:j=i:=(by omega);subst this;simpa using h6
    ·omega
  ·refine bA ?_;simp;refine aA ?_;simp;refine aF ?_;simp;rw[CK hlen];exact λj q1 q2=>hi4.2 j q1 q2 (by omega)
end
section
attribute[local simp] jO.cond Nd.d_eq nd_t nd_dr nd_td ndsD
theorem Vb.nil:Vb [] []:=⟨rfl,λi h=>by simp at h⟩
theorem Vb.cons{g:FuncId}{f:Int->Bool}{gs:List FuncId}{fs:List (Int->Bool)}(h:∀k,Ok Tryz.prog g [aG k] ⟨.d (.bool (f k)),true⟩)(hs:Vb gs fs):Vb (g::gs) (f::fs):=
 ⟨by simp[hs.len],λi h1 h2 k=>by
   cases i with
   |zero=>exact h k
   |succ i=>exact hs.ok i (by simpa using h1) (by simpa using h2) k⟩
theorem Pu(x:Nd):Ok Tryz.prog 164 [x.d] ⟨.d (.bool (shapedB x)),true⟩:=by
 refine aZ Tryz.func164 rfl Tryz.ntmps164 Tryz.results164 λw0 X hp=>?_;refine aA ?_;simp;refine aD ?_;refine aA ?_;simp;refine aH ?_;refine aA ?_;simp;refine aC ?_;simp;refine⟨λh2=>?_,λh2=>?_⟩
 ·refine aD ?_;have hk3:=Sx x 189 isItemK λk=>Ps k;refine eF.ro hT hW (λ|8=>some<| .plain ⟨.d (.bool (x.kids.all λy=>isItemK y.kind)),true⟩|_=>none) ?_;simp;refine⟨by simpa using hk3,?_⟩;refine aF ?_;simp;unfold shapedB shapedK;repeat(first|rw[if_pos (by omega)]|rw[if_neg (by omega)])
  try simp[hq]
 ·refine aA ?_;simp;refine aC ?_;simp;refine⟨λh4=>?_,λh4=>?_⟩
  ·refine aD ?_;have hk5:=Sx x 190 isStmtK λk=>Pr k;refine eF.ro hT hW (λ|12=>some<| .plain ⟨.d (.bool (x.kids.all λy=>isStmtK y.kind)),true⟩|_=>none) ?_;simp;refine⟨by simpa using hk5,?_⟩;refine aF ?_;simp;unfold shapedB shapedK;repeat(first|rw[if_pos (by omega)]|rw[if_neg (by omega)])
   try simp[hq]
  ·refine aP (ι:=BC) (λ⟨b⟩=>aO [(1,.bx 1 0),(4,.d (aG x.kind)),(13,.d (.bool b))]) (λ⟨b⟩=>aI [(1,.box false [.d (aG x.kind),.d (.str x.text),.d (aG x.n),.d (ndsD x.kids)])]) (λ⟨b⟩=>b=true↔(x.kind=5\/x.kind=6)) ?_ λ⟨b⟩ hc8=>?_
   ·refine aA ?_;simp;refine aC ?_;simp;refine⟨λh6=>?_,λh6=>?_⟩
    ·refine aE ?_;simp;refine UV.mk ⟨decide (x.kind=5)⟩ (aB hp [1,4,13] [(1,1)]) ?_;simp[h6]
    ·refine aJ ?_;simp;refine UV.mk ⟨decide (x.kind=6)⟩ (aB hp [1,4,13] [(1,1)]) ?_;simp only[decide_eq_true_eq];omega
   ·refine aC ?_;simp;refine⟨λh8=>?_,λh8=>?_⟩
    ·have q8:=hc8.1 h8;refine aD ?_;have hk8:=nL x [192] [isBlockK] (Vb.cons (λk=>oO k) Vb.nil) (by decide);refine eF.ro hT hW (λ|18=>some<| .plain ⟨.d (.bool (kidsB x.kids [isBlockK])),true⟩|_=>none) ?_;simp;refine⟨by simpa [Pt]using hk8,?_⟩;refine aF ?_;simp;unfold shapedB shapedK;repeat(first|rw[if_pos (by omega)]|rw[if_neg (by omega)])
     try simp[hq]
    ·have q8:¬(x.kind=5\/x.kind=6):=λq=>by simp[hc8.2 q]at h8
     refine aP (ι:=BC) (λ⟨b⟩=>aO [(1,.bx 1 0),(4,.d (aG x.kind)),(19,.d (.bool b))]) (λ⟨b⟩=>aI [(1,.box false [.d (aG x.kind),.d (.str x.text),.d (aG x.n),.d (ndsD x.kids)])]) (λ⟨b⟩=>b=true↔(x.kind=9\/x.kind=15\/x.kind=22\/x.kind=24)) ?_ λ⟨b⟩ hc13=>?_
     ·refine aA ?_;simp;refine aC ?_;simp;refine⟨λh9=>?_,λh9=>?_⟩
      ·refine aE ?_;simp;refine UV.mk ⟨decide (x.kind=9)⟩ (aB hp [1,4,19] [(1,1)]) ?_;simp[h9]
      ·refine aA ?_;simp;refine aC ?_;simp;refine⟨λh10=>?_,λh10=>?_⟩
       ·refine aE ?_;simp;refine UV.mk ⟨decide (x.kind=15)⟩ (aB hp [1,4,19] [(1,1)]) ?_;simp[h10]
       ·refine aA ?_;simp;refine aC ?_;simp;refine⟨λh11=>?_,λh11=>?_⟩
        ·refine aE ?_;simp;refine UV.mk ⟨decide (x.kind=22)⟩ (aB hp [1,4,19] [(1,1)]) ?_;simp[h11]
        ·refine aJ ?_;simp;refine UV.mk ⟨decide (x.kind=24)⟩ (aB hp [1,4,19] [(1,1)]) ?_;simp only[decide_eq_true_eq];omega
     ·refine aC ?_;simp;refine⟨λh13=>?_,λh13=>?_⟩
      ·have q13:=hc13.1 h13;refine aD ?_;have hk13:=nL x [193] [isExprK] (Vb.cons (λk=>lY k) Vb.nil) (by decide);refine eF.ro hT hW (λ|26=>some<| .plain ⟨.d (.bool (kidsB x.kids [isExprK])),true⟩|_=>none) ?_;simp;refine⟨by simpa [Pt]using hk13,?_⟩;refine aF ?_;simp;unfold shapedB shapedK;repeat(first|rw[if_pos (by omega)]|rw[if_neg (by omega)])
       try simp[hq]
      ·have q13:¬(x.kind=9\/x.kind=15\/x.kind=22\/x.kind=24):=λq=>by simp[hc13.2 q]at h13
       refine aA ?_;simp;refine aC ?_;simp;refine⟨λh14=>?_,λh14=>?_⟩
       ·refine aD ?_;have hk15:=nL x [194,193] [isPlaceK,isExprK] (Vb.cons (λk=>Lx k) (Vb.cons (λk=>lY k) Vb.nil)) (by decide);refine eF.ro hT hW (λ|31=>some<| .plain ⟨.d (.bool (kidsB x.kids [isPlaceK,isExprK])),true⟩|_=>none) ?_;simp;refine⟨⟨by decide,by simpa [Pt]using hk15⟩,?_⟩;refine aF ?_;simp;unfold shapedB shapedK;repeat(first|rw[if_pos (by omega)]|rw[if_neg (by omega)])
        try simp[hq]
       ·refine aA ?_;simp;refine aC ?_;simp;refine⟨λh16=>?_,λh16=>?_⟩
        ·refine aD ?_;have hk17:=nL x [193,192] [isExprK,isBlockK] (Vb.cons (λk=>lY k) (Vb.cons (λk=>oO k) Vb.nil)) (by decide);have hl17:=nL x [193,192,192] [isExprK,isBlockK,isBlockK] (Vb.cons (λk=>lY k) (Vb.cons (λk=>oO k) (Vb.cons (λk=>oO k) Vb.nil))) (by decide);cases hq:kidsB x.kids [isExprK,isBlockK]<;>rw[hq]at hk17
         ·refine eF.ro hT hW (λ|36=>some<| .plain ⟨.d (.bool (decide (0=1))),true⟩|40=>some<| .plain ⟨.d (.bool (kidsB x.kids [isExprK,isBlockK,isBlockK])),true⟩|_=>none) ?_;simp;refine⟨⟨⟨⟨by decide,by simpa [Pt]using hk17⟩,by decide⟩,by simpa [Pt]using hl17⟩,?_⟩;refine aF ?_;simp;unfold shapedB shapedK;repeat(first|rw[if_pos (by omega)]|rw[if_neg (by omega)])
          try simp[hq]
         ·refine eF.ro hT hW (λ|36=>some<| .plain ⟨.d (.bool (decide (1=1))),true⟩|40=>some<| .plain ⟨.d (.bool (kidsB x.kids [isExprK,isBlockK,isBlockK])),true⟩|_=>none) ?_;simp;refine⟨⟨by decide,by simpa [Pt]using hk17⟩,?_⟩;refine aF ?_;simp;unfold shapedB shapedK;repeat(first|rw[if_pos (by omega)]|rw[if_neg (by omega)])
          try simp[hq]
        ·refine aA ?_;simp;refine aC ?_;simp;refine⟨λh18=>?_,λh18=>?_⟩
         ·refine aD ?_;have hk19:=nL x [193,192] [isExprK,isBlockK] (Vb.cons (λk=>lY k) (Vb.cons (λk=>oO k) Vb.nil)) (by decide);refine eF.ro hT hW (λ|46=>some<| .plain ⟨.d (.bool (kidsB x.kids [isExprK,isBlockK])),true⟩|_=>none) ?_;simp;refine⟨⟨by decide,by simpa [Pt]using hk19⟩,?_⟩;refine aF ?_;simp;unfold shapedB shapedK;repeat(first|rw[if_pos (by omega)]|rw[if_neg (by omega)])
          try simp[hq]
         ·refine aP (ι:=BC) (λ⟨b⟩=>aO [(1,.bx 1 0),(4,.d (aG x.kind)),(47,.d (.bool b))]) (λ⟨b⟩=>aI [(1,.box false [.d (aG x.kind),.d (.str x.text),.d (aG x.n),.d (ndsD x.kids)])]) (λ⟨b⟩=>b=true↔(x.kind=16\/x.kind=23)) ?_ λ⟨b⟩ hc22=>?_
          ·refine aA ?_;simp;refine aC ?_;simp;refine⟨λh20=>?_,λh20=>?_⟩
           ·refine aE ?_;simp;refine UV.mk ⟨decide (x.kind=16)⟩ (aB hp [1,4,47] [(1,1)]) ?_;simp[h20]
           ·refine aJ ?_;simp;refine UV.mk ⟨decide (x.kind=23)⟩ (aB hp [1,4,47] [(1,1)]) ?_;simp only[decide_eq_true_eq];omega
          ·refine aC ?_;simp;refine⟨λh22=>?_,λh22=>?_⟩
           ·have q22:=hc22.1 h22;refine aD ?_;have hk22:=nL x [195] [isLocalK] (Vb.cons (λk=>Ly k) Vb.nil) (by decide);refine eF.ro hT hW (λ|52=>some<| .plain ⟨.d (.bool (kidsB x.kids [isLocalK])),true⟩|_=>none) ?_;simp;refine⟨by simpa [Pt]using hk22,?_⟩;refine aF ?_;simp;unfold shapedB shapedK;repeat(first|rw[if_pos (by omega)]|rw[if_neg (by omega)])
            try simp[hq]
           ·have q22:¬(x.kind=16\/x.kind=23):=λq=>by simp[hc22.2 q]at h22
            refine aP (ι:=BC) (λ⟨b⟩=>aO [(1,.bx 1 0),(4,.d (aG x.kind)),(53,.d (.bool b))]) (λ⟨b⟩=>aI [(1,.box false [.d (aG x.kind),.d (.str x.text),.d (aG x.n),.d (ndsD x.kids)])]) (λ⟨b⟩=>b=true↔(x.kind=26\/x.kind=27\/x.kind=28\/x.kind=29\/x.kind=30\/x.kind=31)) ?_ λ⟨b⟩ hc29=>?_
            ·refine aA ?_;simp;refine aC ?_;simp;refine⟨λh23=>?_,λh23=>?_⟩
             ·refine aE ?_;simp;refine UV.mk ⟨decide (x.kind=26)⟩ (aB hp [1,4,53] [(1,1)]) ?_;simp[h23]
             ·refine aA ?_;simp;refine aC ?_;simp;refine⟨λh24=>?_,λh24=>?_⟩
              ·refine aE ?_;simp;refine UV.mk ⟨decide (x.kind=27)⟩ (aB hp [1,4,53] [(1,1)]) ?_;simp[h24]
              ·refine aA ?_;simp;refine aC ?_;simp;refine⟨λh25=>?_,λh25=>?_⟩
               ·refine aE ?_;simp;refine UV.mk ⟨decide (x.kind=28)⟩ (aB hp [1,4,53] [(1,1)]) ?_;simp[h25]
               ·refine aA ?_;simp;refine aC ?_;simp;refine⟨λh26=>?_,λh26=>?_⟩
                ·refine aE ?_;simp;refine UV.mk ⟨decide (x.kind=29)⟩ (aB hp [1,4,53] [(1,1)]) ?_;simp[h26]
                ·refine aA ?_;simp;refine aC ?_;simp;refine⟨λh27=>?_,λh27=>?_⟩
                 ·refine aE ?_;simp;refine UV.mk ⟨decide (x.kind=30)⟩ (aB hp [1,4,53] [(1,1)]) ?_;simp[h27]
                 ·refine aJ ?_;simp;refine UV.mk ⟨decide (x.kind=31)⟩ (aB hp [1,4,53] [(1,1)]) ?_;simp only[decide_eq_true_eq];omega
            ·refine aC ?_;simp;refine⟨λh29=>?_,λh29=>?_⟩
             ·have q29:=hc29.1 h29;refine aD ?_;have hk29:=nL x [193,193] [isExprK,isExprK] (Vb.cons (λk=>lY k) (Vb.cons (λk=>lY k) Vb.nil)) (by decide);refine eF.ro hT hW (λ|62=>some<| .plain ⟨.d (.bool (kidsB x.kids [isExprK,isExprK])),true⟩|_=>none) ?_;simp;refine⟨⟨by decide,by simpa [Pt]using hk29⟩,?_⟩;refine aF ?_;simp;unfold shapedB shapedK;repeat(first|rw[if_pos (by omega)]|rw[if_neg (by omega)])
              try simp[hq]
             ·have q29:¬(x.kind=26\/x.kind=27\/x.kind=28\/x.kind=29\/x.kind=30\/x.kind=31):=λq=>by simp[hc29.2 q]at h29
              refine aE ?_;simp;refine aD ?_;have hk30:=nL x [] [] Vb.nil (by decide);refine eF.ro hT hW (λ|64=>some<| .plain ⟨.d (.bool (kidsB x.kids [])),true⟩|_=>none) ?_;simp;refine⟨by simpa [Pt]using hk30,?_⟩;refine aF ?_;simp;unfold shapedB shapedK;repeat(first|rw[if_pos (by omega)]|rw[if_neg (by omega)])
              try simp[hq]
end
section
attribute[local simp] jO.cond Nd.d_eq nd_t nd_dr nd_td ndsD
theorem Aa:AA.length=12:=rfl
theorem Sy{k:Int}(h0:26<=k)(h1:k<=31):List.take 2 (List.drop ((k-26).toNat*2) AA)=[.str (signAt k),aG (levelAt k)]:=by
 have:k=26\/k=27\/k=28\/k=29\/k=30\/k=31:=by omega
 rcases this with rfl|rfl|rfl|rfl|rfl|rfl<;>rfl
theorem Pv{k:Int}(h0:26<=k)(h1:k<=31):AA[(k-26).toNat*2+1]?.getD default=aG (levelAt k):=by
 have:k=26\/k=27\/k=28\/k=29\/k=30\/k=31:=by omega
 rcases this with rfl|rfl|rfl|rfl|rfl|rfl<;>rfl
theorem Sz(x:Nd):Ok Tryz.prog 241 [x.d] ⟨.d (aG (lvlN x.kind)),true⟩:=by
 refine aZ Tryz.func241 rfl Tryz.ntmps241 Tryz.results241 λw0 X hp=>?_;refine aA ?_;simp;refine aD ?_;refine aA ?_;simp;refine aC ?_;simp;refine⟨λg1 g2=>?_,λg=>?_⟩
 ·refine aD ?_;have q1:=Pv g1 g2;have q2:=Aa;refine aJ ?_;simp[q1];refine⟨⟨⟨by omega,by omega⟩,by omega⟩,?_⟩;refine aF ?_;simp[lvlN,g1,g2]
 ·refine aE ?_;simp;refine aA ?_;simp;refine aF ?_;simp;rw[lvlN,if_neg (by omega)]
theorem Nw(n:Nat):(decS n).length<=3:=by unfold decS;split<;>(try split)<;>simp
theorem bV(n:Int):(itoaS n).length<=4:=by
 have h1:=Nw n.natAbs;have h2:=Nw n.toNat;unfold itoaS;split
 ·simp only[List.length_cons];omega
 ·omega
theorem nW(c:Bool)(t:aM):(paren c t).length<=t.length+2:=by cases c<;>simp[paren]
theorem IA(k:Int)(h:26<=k/\k<=31):(signAt k).length<=2:=by
 have:k=26\/k=27\/k=28\/k=29\/k=30\/k=31:=by omega
 rcases this with rfl|rfl|rfl|rfl|rfl|rfl<;>decide
theorem cU(x:Nd):rightN x=true->isExprK x.kind=true->(exprT x).length<=8*weighN x:=by
 refine lX (p:=λx=>rightN x=true->isExprK x.kind=true->(exprT x).length<=8*weighN x) (λk t n ks ih=>?_) x;intro hr he;have hw:weighN (.mk k t n ks)=weighL ks+t.length+1:=by rw[weighN]
 rcases rW hr he with⟨_,_,_,h4⟩|⟨h1,_⟩|h1|⟨h1,_⟩|⟨h1,h2⟩|⟨k',a,b,h1,h2,h3,h4,h5,h6,h7⟩
 ·rw[h4];have:=bV (Nd.mk k t n ks).n;simp only[exprT,if_true,weighN];omega
 ·rw[h1];simp[exprT,weighN];omega
 ·rw[h1];simp[exprT,weighN,sKind];omega
 ·rw[h1];simp[exprT,weighN];omega
 ·rw[h1];simp[exprT,weighN];omega
 ·injection h3 with i1 i2 i3 i4
  subst i1;subst i2;subst i3;subst i4;have ha:=ih a (by simp) h4 h5;have hb:=ih b (by simp) h6 h7;have e1:=nW (decide (lvlN a.kind<(if levelAt k=1 then 2 else levelAt k))) (exprT a);have e2:=nW (decide (lvlN b.kind<levelAt k+1)) (exprT b);have e3:=IA k ⟨h1,h2⟩;rw[ES h1 h2,hw];simp only[weighL,List.length_append,List.length_cons,List.length_nil];omega
end
end Go.Eng
namespace Go.Proofs
open Go.Shelf
def Tryz.itoaLay_ren:Go.Shelf.Ren:=⟨λ|171=>168|243=>198|246=>217|283=>232|284=>233|285=>234|286=>235|129=>116|317=>242|318=>243|319=>244|320=>245|337=>247|338=>248|n=>n,λ|3=>3|9=>9|2=>2|4=>4|171=>227|0=>0|53=>165|37=>142|5=>5|173=>229|212=>237|51=>163|20=>20|213=>238|46=>107|232=>239|233=>240|n=>n,λ|17=>6|18=>7|19=>8|n=>n⟩
theorem Tryz.itoaLay:Go.Proofs.LaysM.n171 Tryz.prog Tryz.itoaLay_ren:={
 mixed:=by kernel_rfl,
 f129:=Tryz.func116.trans (congrArg some (by kernel_rfl)),
 f171:=Tryz.func168.trans (congrArg some (by kernel_rfl)),
 f243:=Tryz.func198.trans (congrArg some (by kernel_rfl)),
 f246:=Tryz.func217.trans (congrArg some (by kernel_rfl)),
 f283:=Tryz.func232.trans (congrArg some (by kernel_rfl)),
 f284:=Tryz.func233.trans (congrArg some (by kernel_rfl)),
 f285:=Tryz.func234.trans (congrArg some (by kernel_rfl)),
 f286:=Tryz.func235.trans (congrArg some (by kernel_rfl)),
 f317:=Tryz.func242.trans (congrArg some (by kernel_rfl)),
 f318:=Tryz.func243.trans (congrArg some (by kernel_rfl)),
 f319:=Tryz.func244.trans (congrArg some (by kernel_rfl)),
 f320:=Tryz.func245.trans (congrArg some (by kernel_rfl)),
 f337:=Tryz.func247.trans (congrArg some (by kernel_rfl)),
 f338:=Tryz.func248.trans (congrArg some (by kernel_rfl)),
 t0:=Tryz.underlying0,
 a0:=Tryz.isAgg0,
 z0:=Tryz.sizeOf0,
 v0:=Tryz.zeroValue0,
 t2:=Tryz.underlying2,
 a2:=Tryz.isAgg2,
 z2:=Tryz.sizeOf2,
 v2:=Tryz.zeroValue2,
 t3:=Tryz.underlying3,
 a3:=Tryz.isAgg3,
 z3:=Tryz.sizeOf3,
 v3:=Tryz.zeroValue3,
 t4:=Tryz.underlying4,
 a4:=Tryz.isAgg4,
 z4:=Tryz.sizeOf4,
 v4:=Tryz.zeroValue4,
 t5:=Tryz.underlying5,
 a5:=Tryz.isAgg5,
 z5:=Tryz.sizeOf5,
 v5:=Tryz.zeroValue5,
 t9:=Tryz.underlying9,
 a9:=Tryz.isAgg9,
 z9:=Tryz.sizeOf9,
 v9:=Tryz.zeroValue9,
 t20:=Tryz.underlying20,
 a20:=Tryz.isAgg20,
 z20:=Tryz.sizeOf20,
 v20:=Tryz.zeroValue20,
 t37:=Tryz.underlying142,
 a37:=Tryz.isAgg142,
 z37:=Tryz.sizeOf142,
 v37:=Tryz.zeroValue142,
 t46:=Tryz.underlying107,
 a46:=Tryz.isAgg107,
 z46:=Tryz.sizeOf107,
 v46:=Tryz.zeroValue107,
 t51:=Tryz.underlying163,
 a51:=Tryz.isAgg163,
 z51:=Tryz.sizeOf163,
 v51:=Tryz.zeroValue163,
 t53:=Tryz.underlying165,
 a53:=Tryz.isAgg165,
 z53:=Tryz.sizeOf165,
 v53:=Tryz.zeroValue165,
 t171:=Tryz.underlying227,
 a171:=Tryz.isAgg227,
 z171:=Tryz.sizeOf227,
 v171:=Tryz.zeroValue227,
 t173:=Tryz.underlying229,
 a173:=Tryz.isAgg229,
 z173:=Tryz.sizeOf229,
 v173:=Tryz.zeroValue229,
 t212:=Tryz.underlying237,
 a212:=Tryz.isAgg237,
 z212:=Tryz.sizeOf237,
 v212:=Tryz.zeroValue237,
 t213:=Tryz.underlying238,
 a213:=Tryz.isAgg238,
 z213:=Tryz.sizeOf238,
 t232:=Tryz.underlying239,
 a232:=Tryz.isAgg239,
 z232:=Tryz.sizeOf239,
 v232:=Tryz.zeroValue239,
 t233:=Tryz.underlying240,
 a233:=Tryz.isAgg240,
 z233:=Tryz.sizeOf240,
 v233:=Tryz.zeroValue240,
 g17:=by kernel_rfl,
 g18:=by kernel_rfl,
 g19:=by kernel_rfl,
 i0:=by kernel_rfl,
 i2:=by kernel_rfl,
 i3:=by kernel_rfl,
 i4:=by kernel_rfl,
 i5:=by kernel_rfl,
 i9:=by kernel_rfl,
 i20:=by kernel_rfl,
 i37:=by kernel_rfl,
 i46:=by kernel_rfl,
 i51:=by kernel_rfl,
 i53:=by kernel_rfl,
 i171:=by kernel_rfl,
 i173:=by kernel_rfl,
 i212:=by kernel_rfl,
 i232:=by kernel_rfl,
 i233:=by kernel_rfl,
 m17:=by kernel_rfl,
 m18:=by kernel_rfl,
 m19:=by kernel_rfl}
end Go.Proofs
namespace Go.Eng
theorem Nx{n:Nat}(h:n<1000):Lib.decDigits n=decS n:=by
 unfold decS;by_cases h1:n<10
 ·rw[if_pos h1,Lib.decDigits,dif_pos h1]
 ·rw[if_neg h1,Lib.decDigits,dif_neg h1];by_cases h2:n<100
  ·rw[if_pos h2,Lib.decDigits,dif_pos (by omega)];rfl
  ·rw[if_neg h2,Lib.decDigits,dif_neg (by omega),Lib.decDigits,dif_pos (by omega),Nat.div_div_eq_div_mul];rfl
theorem SA{n:Int}(h0: -999<=n)(h1:n<=999):Lib.itoa n=itoaS n:=by
 unfold Lib.itoa itoaS;split
 ·rw[Nx (by omega)]
 ·rw[Nx (by omega)]
theorem Pw:MV=Lib.pow10Tab.map λz=>DV.int .u64 z:=by kernel_rfl
theorem Vc{w:World}{X:Nat->Prop}(h:wP w X){name:String}(hg:Tryz.prog.globalNamed name=some 6):Lib.TabIs Tryz.prog w name .u64 Lib.pow10Tab:=by
 obtain⟨h1,arr,t,fz,h2,h3⟩:=h 6 MV rfl;unfold Lib.TabIs World.var?;rw[hg];simp only[Option.bind_some,h2,Option.some.injEq];rw[Pw]at h1 h3;cases h1 with
 |ro _ _ _ us hb hul hu1 hlt hcell hp=>
  apply Array.ext_getElem?;intro i;by_cases hi:i<arr.size
  ·have hz:i<Lib.pow10Tab.length:=by rw[h3,List.length_map]at hi;exact hi
   have hu:i<us.length:=(by rw[hul,List.length_map];exact hz);have hc:=hcell i us[i] (List.getElem?_eq_getElem hu);have hq:=hp i (.int .u64 Lib.pow10Tab[i]) us[i] (by simp[hz]) (List.getElem?_eq_getElem hu);generalize us[i]=u at hc hq;cases hq;rw[Nat.zero_add]at hc;unfold World.cell? at hc;simp[h2]at hc;rw[hc];simp[hz]
  ·rw[Array.getElem?_eq_none (by omega)];rw[h3,List.length_map]at hi;rw[List.getElem?_toArray,List.getElem?_eq_none (by simpa using hi)]
theorem yF(n:Int)(h0: -999<=n)(h1:n<=999):Ok Tryz.prog 168 [aG n] ⟨.d (.str (itoaS n)),true⟩:=by
 refine⟨⟨_,Tryz.func168,by kernel_rfl,rfl⟩,λw X vs hX hr=>?_⟩
 match vs,hr.1 with
 |[v],_=>
  have h:=hr.2 0 _ _ rfl rfl;cases h;refine(Go.Proofs.Any.strconv_Itoa Tryz.itoaLay n (by omega) (by omega) w (Vc hX.2 (by kernel_rfl))).mono ?_;rintro e w' ⟨rfl,k,os,rfl⟩;refine⟨_,rfl,⟨rfl,rfl,rfl,?_,λj hj=>Go.Sort.heap_grow_old (w.drewN k) os hj,Nat.le_add_right _ _⟩,none,?_⟩
  ·simp[Sort.grow]
  ·rw[SA h0 h1];exact .str _
section
attribute[local simp] jO.cond Nd.d_eq nd_t nd_dr nd_td ndsD
theorem SB{x:Nd}(h:x.kind=32):exprT x=itoaS x.n:=by cases x;simp only[dM]at h;subst h;unfold exprT;simp
theorem SC{x:Nd}(h:x.kind=33):exprT x=36::x.text:=by cases x;simp only[dM]at h;subst h;unfold exprT;simp
theorem SD{x:Nd}(h:x.kind=36):exprT x=sKind:=by cases x;simp only[dM]at h;subst h;unfold exprT;simp
theorem SE{x:Nd}(h:x.kind=34\/x.kind=35):exprT x=x.text:=by cases x;simp only[dM]at h;rcases h with rfl|rfl<;>(unfold exprT;simp)
theorem CL{x:Nd}(hr:rightN x=true)(he:isExprK x.kind=true):(26<=x.kind/\x.kind<=36)/\(x.kind=32->exprT x=itoaS x.n/\0<=x.n/\x.n<=999)/\(x.kind=33->exprT x=36::x.text)/\(x.kind=36->exprT x=sKind)/\
 (x.kind=34\/x.kind=35->exprT x=x.text)/\(x.kind<=31->∃a b,x.kids=[a,b]/\rightN a=true/\isExprK a.kind=true/\rightN b=true/\isExprK b.kind=true/\
   exprT x=paren (decide (lvlN a.kind<(if levelAt x.kind=1 then 2 else levelAt x.kind))) (exprT a)++32::(signAt x.kind++32::paren (decide (lvlN b.kind<levelAt x.kind+1)) (exprT b))):=by
 refine⟨isExprK_iff.1 he,λh=>⟨SB h,?_⟩,SC,SD,SE,λh=>?_⟩
 ·obtain⟨k,t,n,ks⟩:=x;have h:k=32:=h;subst h;obtain⟨_,_,_,w1,w2,_⟩:=right_mk.1 hr;exact⟨w1,w2⟩
 ·rcases rW hr he with⟨h1,_⟩|⟨h1,_⟩|h1|⟨h1,_⟩|⟨h1,_⟩|⟨k',a,b,h1,h2,h3,h4,h5,h6,h7⟩
  ·omega
  ·rw[h1]at h;exact absurd h (by simp)
  ·rw[h1]at h;exact absurd h (by simp)
  ·rw[h1]at h;exact absurd h (by simp)
  ·rw[h1]at h;exact absurd h (by simp)
  ·rw[h3];exact⟨a,b,rfl,h4,h5,h6,h7,ES h1 h2⟩
theorem EV(x:Nd)(least:Int)(hx:Ok Tryz.prog 216 [x.d] ⟨.d (.str (exprT x)),true⟩)(hl:(exprT x).length<=10000000000):Ok Tryz.prog 231 [x.d,aG least] ⟨.d (.str (paren (decide (lvlN x.kind<least)) (exprT x))),true⟩:=by
 refine aZ Tryz.func231 rfl Tryz.ntmps231 Tryz.results231 λw0 X hp=>?_;refine aA ?_;simp;refine aD ?_;refine aD ?_;have hv:=Sz x;refine eF.ro hT hW (λ|6=>some<| .plain ⟨.d (aG (lvlN x.kind)),true⟩|_=>none) ?_;simp;refine⟨by simpa using hv,?_⟩;refine aC ?_;simp;refine⟨λh1=>?_,λh1=>?_⟩
 ·refine aX hT hW (λ|10=>some<| .plain ⟨.d (.str (exprT x)),true⟩|_=>none) ?_;simp;refine⟨⟨⟨by simpa using hx,by omega⟩,by omega⟩,?_⟩;refine aF ?_;simp[paren,h1]
 ·refine aE ?_;simp;refine aX hT hW (λ|14=>some<| .plain ⟨.d (.str (exprT x)),true⟩|_=>none) ?_;simp;refine⟨by simpa using hx,?_⟩;refine aF ?_;simp[paren];intro h;omega
theorem Px(x:Nd)(hr:rightN x=true)(he:isExprK x.kind=true)(hw:weighN x<=1000000000)(ih:∀y∈x.kids,rightN y=true->isExprK y.kind=true->weighN y<=1000000000->Ok Tryz.prog 216 [y.d] ⟨.d (.str (exprT y)),true⟩):Ok Tryz.prog 216 [x.d] ⟨.d (.str (exprT x)),true⟩:=by
 refine aZ Tryz.func216 rfl Tryz.ntmps216 Tryz.results216 λw0 X hp=>?_;obtain⟨f0,f32,f33,f36,f34,f26⟩:=CL hr he;have hwx:=weighN_eq x;refine aA ?_;simp;refine aD ?_;refine aA ?_;simp;refine aH ?_;refine aA ?_;simp;refine aC ?_;simp;refine⟨λh2=>?_,λh2=>?_⟩
 ·refine aD ?_;obtain⟨q1,q2,q3⟩:=f32 h2;have hi:=yF x.n (by omega) q3;refine eF.ro hT hW (λ|11=>some<| .plain ⟨.d (.str (itoaS x.n)),true⟩|_=>none) ?_;simp;refine⟨hi,?_⟩;refine aF ?_;simp[q1]
 ·refine aA ?_;simp;refine aC ?_;simp;refine⟨λh4=>?_,λh4=>?_⟩
  ·refine aA ?_;simp;refine⟨by omega,?_⟩;refine aF ?_;simp[f33 h4]
  ·refine aA ?_;simp;refine aC ?_;simp;refine⟨λh6=>?_,λh6=>?_⟩
   ·refine aA ?_;simp;refine aF ?_;simp[f36 h6,sKind]
   ·refine aP (ι:=BC) (λ⟨b⟩=>aO [(1,.bx 1 0),(19,.d (.bool b))]) (λ⟨b⟩=>aI [(1,.box false [.d (aG x.kind),.d (.str x.text),.d (aG x.n),.d (ndsD x.kids)])]) (λ⟨b⟩=>b=true↔(x.kind=34\/x.kind=35)) ?_ λ⟨b⟩ hc10=>?_
    ·refine aA ?_;simp;refine aC ?_;simp;refine⟨λh8=>?_,λh8=>?_⟩
     ·refine aE ?_;simp;refine UV.mk ⟨decide (x.kind=34)⟩ (aB hp [1,19] [(1,1)]) ?_;simp[h8]
     ·refine aJ ?_;simp;refine UV.mk ⟨decide (x.kind=35)⟩ (aB hp [1,19] [(1,1)]) ?_;simp only[decide_eq_true_eq];omega
    ·refine aC ?_;simp;refine⟨λh10=>?_,λh10=>?_⟩
     ·have q10:=hc10.1 h10;refine aA ?_;simp;refine aF ?_;simp[f34 q10]
     ·have q10:¬(x.kind=34\/x.kind=35):=λq=>by simp[hc10.2 q]at h10
      refine aE ?_;simp;refine aD ?_;have hk31:x.kind<=31:=by omega
      obtain⟨a,b',hks,ra,ea,rb,eb,hTx⟩:=f26 hk31;have q1:=Sy (k:=x.kind) f0.1 hk31;have q2:=Aa;obtain⟨lv,hlv⟩:∃lv:Int,lv=if levelAt x.kind=1 then 2 else levelAt x.kind:=⟨_,rfl⟩;rw[<-hlv]at hTx;refine aJ ?_;simp[q1];refine⟨⟨⟨by omega,by omega⟩,by omega⟩,?_⟩;refine aA ?_;simp;refine aP (ι:=Unit) (λi=>aO [(1,.bx 1 0),(3,.bx 3 0),(4,.d (aG lv))]) (λi=>aI [(1,.box false [.d (aG x.kind),.d (.str x.text),.d (aG x.n),.d (ndsD x.kids)]),(3,.box false [.d (.str (signAt x.kind)),.d (aG (levelAt x.kind))])]) (λi=>True) ?_ λi hc15=>?_
      ·refine aA ?_;simp;refine aC ?_;simp;refine⟨λh13=>?_,λh13=>?_⟩
       ·refine aJ ?_;simp;exact(aB hp [1,3,4] [(1,1),(3,3)] (by simp[hlv,h13]))
       ·refine aE ?_;simp;exact(aB hp [1,3,4] [(1,1),(3,3)] (by simp[hlv,h13]))
      ·refine aD ?_;rw[hks]at hwx ih;simp only[weighL]at hwx;have la:=cU a ra ea;have lb:=cU b' rb eb;have pa:=nW (decide (lvlN a.kind<lv)) (exprT a);have pb:=nW (decide (lvlN b'.kind<levelAt x.kind+1)) (exprT b');have sl:=IA x.kind ⟨f0.1,hk31⟩;have ka:=EV a lv (ih a (by simp) ra ea (by omega)) (by omega);have kb:=EV b' (levelAt x.kind+1) (ih b' (by simp) rb eb (by omega)) (by omega);have lvb:=(Pp f0.1 hk31).2.1;refine eF.rd [[],[],[],[],[],[],[51],[38,51],[38,51],[51],[51],[38],[38],[38],[38],[38],[38],[38]] [[],[],[],[],[],[38],[],[],[],[],[],[],[],[],[],[],[],[],[51]] (λ|38=>some<| .plain ⟨.d (.str (paren (decide (lvlN a.kind<lv)) (exprT a))),true⟩|51=>some<| .plain ⟨.d (.str (paren (decide (lvlN b'.kind<levelAt x.kind+1)) (exprT b'))),true⟩|_=>none) ?_;simp[hks];refine⟨⟨⟨⟨⟨⟨⟨by simpa using ka,by omega⟩,by omega⟩,by omega⟩,by omega⟩,by simpa using kb⟩,by omega⟩,?_⟩;refine aF ?_;simp[hTx]
theorem yG(x:Nd):rightN x=true->isExprK x.kind=true->weighN x<=1000000000->Ok Tryz.prog 216 [x.d] ⟨.d (.str (exprT x)),true⟩:=
 lX (p:=λx=>rightN x=true->isExprK x.kind=true->weighN x<=1000000000->Ok Tryz.prog 216 [x.d] ⟨.d (.str (exprT x)),true⟩) (λ_ _ _ _ ih hr he hw=>Px _ hr he hw ih) x
end
section
attribute[local simp] jO.cond Nd.d_eq nd_t nd_dr nd_td ndsD
theorem SF:qD=wordsL.map DV.str:=rfl
theorem iW:qD.length=26:=rfl
theorem pQ{k:Int}(h0:0<=k)(h1:k<26):qD[k.toNat]?.getD default=.str (wordAt k):=by
 have hk:k.toNat<wordsL.length:=by rw[words_len];omega
 rw[SF,List.getElem?_map,List.getElem?_eq_getElem hk];simp[wordAt,List.getD_eq_getElem?_getD,hk]
theorem qT(k:Int):(wordAt k).length<=7:=by
 unfold wordAt;rw[List.getD_eq_getElem?_getD];cases e:wordsL[k.toNat]? with
 |none=>simp
 |some w=>
  have:=List.mem_of_getElem? e;have h:∀w∈wordsL,w.length<=7:=by decide
  exact h w this
theorem qB:∀(a b:List Nd),stmtsT (a++b)=stmtsT a++stmtsT b
 |[],b=>by simp[stmtsT]
 |x::a,b=>by simp[stmtsT,qB a b]
theorem AW{l:List Nd}{i:Nat}(hi:i<l.length):stmtsT (l.take (i+1))=stmtsT (l.take i)++(stmtT l[i]++[32]):=by
 rw[<-List.take_append_getElem hi,qB];simp[stmtsT]
theorem Lz{l:List Nd}{i:Nat}(hi:i<l.length):withE (l.take (i+1))=withE (l.take i)++32::exprT l[i]:=by
 unfold withE;rw[<-List.take_append_getElem hi,List.flatMap_append];simp
theorem vU{l:List Nd}(h:∀e∈l,rightN e=true/\isExprK e.kind=true):(withE l).length<=9*weighL l:=by
 induction l with
 |nil=>simp[withE]
 |cons a r ih=>
  have h1:=ih λy hy=>h y (List.mem_cons_of_mem _ hy);have h2:=cU a (h a (by simp)).1 (h a (by simp)).2;have h3:1<=weighN a:=by rw[weighN_eq];omega
  have e:withE (a::r)=32::exprT a++withE r:=by simp[withE]
  rw[e,weighL];simp only[List.length_append,List.length_cons];omega
def Py(t e:aM):aM:=36::t++32::61::32::(e++[59])
def Pz(p e:aM):aM:=p++32::61::32::(e++[59])
def Ny(w e b:aM):aM:=w++32::(e++32::b)
def EW(a c:aM):aM:=a++32::(sElse++32::c)
theorem CM{l:List Nd}(h:∀e∈l,rightN e=true/\isExprK e.kind=true)(i:Nat):(withE (l.take i)).length<=9*weighL l:=by
 have h1:=vU h;have h2:withE (l.take i)++withE (l.drop i)=withE l:=by unfold withE;rw[<-List.flatMap_append,List.take_append_drop]
 rw[<-h2,List.length_append]at h1;omega
theorem Nz{x e:Nd}(h:x.kind=9)(hk:x.kids=[e]):stmtT x=Py x.text (exprT e):=by
 cases x;simp only[dM,oK]at h hk;subst hk;subst h;simp[stmtT,Py]
theorem IB{x p e:Nd}(h:x.kind=10)(hk:x.kids=[p,e]):stmtT x=Pz (exprT p) (exprT e):=by
 cases x;simp only[dM,oK]at h hk;subst hk;subst h;simp[stmtT,Pz]
theorem EX{x e b:Nd}(h:x.kind=11\/x.kind=12)(hk:x.kids=[e,b]):stmtT x=Ny (wordAt x.kind) (exprT e) (blockT b):=by
 cases x;simp only[dM,oK]at h hk;subst hk;rcases h with rfl|rfl<;>simp[stmtT,Ny]
theorem EY{x e b c:Nd}(h:x.kind=11\/x.kind=12)(hk:x.kids=[e,b,c]):stmtT x=EW (Ny (wordAt x.kind) (exprT e) (blockT b)) (blockT c):=by
 cases x;simp only[dM,oK]at h hk;subst hk;rcases h with rfl|rfl<;>simp[stmtT,Ny,EW]
theorem NA{x:Nd}(h:13<=x.kind):stmtT x=wordAt x.kind++midT x.kind x.text++withN x.n++withE x.kids++[59]:=by
 cases x;exact ET _ _ _ h
theorem qU(x:Nd):blockT x=123::32::(stmtsT x.kids++[125]):=by cases x;unfold blockT;rfl
def Vd(x:Nd):Prop:=rightN x=true/\isExprK x.kind=true
theorem CN{x:Nd}(hr:rightN x=true)(hk:isStmtK x.kind=true):(9<=x.kind/\x.kind<=25)/\(x.kind=9->∃h0:0<x.kids.length,Vd x.kids[0]/\stmtT x=Py x.text (exprT x.kids[0]))/\
 (x.kind=10->∃(h0:0<x.kids.length) (h1:1<x.kids.length),Vd x.kids[0]/\Vd x.kids[1]/\stmtT x=Pz (exprT x.kids[0]) (exprT x.kids[1]))/\
 (x.kind=11\/x.kind=12->∃(h0:0<x.kids.length) (h1:1<x.kids.length),Vd x.kids[0]/\iI x.kids[1]/\((x.kids.length=2/\stmtT x=Ny (wordAt x.kind) (exprT x.kids[0]) (blockT x.kids[1]))\/
   ∃h2:2<x.kids.length,iI x.kids[2]/\stmtT x=EW (Ny (wordAt x.kind) (exprT x.kids[0]) (blockT x.kids[1])) (blockT x.kids[2])))/\
 (13<=x.kind->Lp x.kind x.text x.n x.kids):=by
 refine⟨isStmtK_iff.1 hk,?_⟩;rcases CJ hr hk with⟨t',e,hx,h1,h2,h3⟩|⟨p,e,hx,h1,h2,h3,h4⟩|⟨k',e,b,hk',hx,h1,h2,h3,h4⟩|⟨e,b,c,hx,h1,h2,h3,h4,h5,h6⟩|⟨k',t',n',ks',h1,h2,hx,h3⟩
 ·subst hx;exact⟨λ_=>⟨by simp,⟨h2,h3⟩,Nz rfl rfl⟩,λh=>by simp at h,λh=>by simp at h,λh=>by simp at h⟩
 ·subst hx;exact⟨λh=>by simp at h,λ_=>⟨by simp,by simp,⟨h1,oM h2⟩,⟨h3,h4⟩,IB rfl rfl⟩,λh=>by simp at h,λh=>by simp at h⟩
 ·subst hx;exact⟨λh=>by simp at h;omega,λh=>by simp at h;omega,λ_=>⟨by simp,by simp,⟨h1,h2⟩,fZ h3 h4,.inl ⟨rfl,EX hk' rfl⟩⟩,λh=>by simp at h;omega⟩
 ·subst hx;exact⟨λh=>by simp at h,λh=>by simp at h,λ_=>⟨by simp,by simp,⟨h1,h2⟩,fZ h3 h4,.inr ⟨by simp,fZ h5 h6,EY (.inl rfl) rfl⟩⟩,λh=>by simp at h⟩
 ·subst hx;exact⟨λh=>by simp at h;omega,λh=>by simp at h;omega,λh=>by simp at h;omega,λ_=>h3⟩
theorem GA(k:Int)(t:aM):(midT k t).length<=t.length+2:=by
 unfold midT;split
 ·simp
 ·split<;>simp
theorem Ab(n:Int):(withN n).length<=5:=by
 have:=bV n;unfold withN;split
 ·simp only[List.length_cons];omega
 ·simp
theorem sT{l:List Nd}(h:∀y∈l,(stmtT y).length+1<=40*weighN y)(i:Nat):(stmtsT (l.take i)).length<=40*weighL l:=by
 have key:∀l:List Nd,(∀y∈l,(stmtT y).length+1<=40*weighN y)->(stmtsT l).length<=40*weighL l:=λl=>by
  induction l with
  |nil=>intro _;simp[stmtsT]
  |cons a r ih=>
   intro h;have h1:=ih λy hy=>h y (List.mem_cons_of_mem _ hy);have h2:=h a (by simp);have h3:1<=weighN a:=by rw[weighN_eq];omega
   simp only[stmtsT,weighL,List.length_append,List.length_cons];omega
 have h1:=key l h;have h2:=qB (l.take i) (l.drop i);rw[List.take_append_drop]at h2;rw[h2,List.length_append]at h1;omega
theorem dW(x:Nd):(rightN x=true->isStmtK x.kind=true->(stmtT x).length+1<=40*weighN x)/\(iI x->(blockT x).length<=40*weighN x):=by
 refine lX (p:=λx=>(rightN x=true->isStmtK x.kind=true->(stmtT x).length+1<=40*weighN x)/\(iI x->(blockT x).length<=40*weighN x)) (λk t n ks ih=>⟨?_,?_⟩) x
 ·intro hr hk;have hw:weighN (.mk k t n ks)=weighL ks+t.length+1:=by rw[weighN]
  have hwl:=qT k;rcases CJ hr hk with⟨t',e,hx,h1,h2,h3⟩|⟨p,e,hx,h1,h2,h3,h4⟩|⟨k',e,b,hk',hx,h1,h2,h3,h4⟩|⟨e,b,c,hx,h1,h2,h3,h4,h5,h6⟩|⟨k',t',n',ks',h1,h2,hx,h3⟩
  ·injection hx with i1 i2 i3 i4
   subst i1;subst i2;subst i4;have:=cU e h2 h3;rw[Nz rfl rfl,hw];simp only[Py,weighL,List.length_append,List.length_cons,List.length_nil,Ln];omega
  ·injection hx with i1 i2 i3 i4
   subst i1;subst i4;have:=cU e h3 h4;have:=cU p h1 (oM h2);rw[IB rfl rfl,hw];simp only[Pz,weighL,List.length_append,List.length_cons,List.length_nil];omega
  ·injection hx with i1 i2 i3 i4
   subst i1;subst i4;have:=cU e h1 h2;have:=(ih b (by simp)).2 (fZ h3 h4);rw[EX (x:=.mk k t n [e,b]) hk' rfl,hw];simp only[Ny,weighL,List.length_append,List.length_cons,dM];omega
  ·injection hx with i1 i2 i3 i4
   subst i1;subst i4;have:=cU e h1 h2;have:=(ih b (by simp)).2 (fZ h3 h4);have:=(ih c (by simp)).2 (fZ h5 h6);rw[EY (.inl rfl) rfl,hw];simp only[Ny,EW,weighL,List.length_append,List.length_cons,dM,show sElse.length=4 from rfl];omega
  ·injection hx with i1 i2 i3 i4
   subst i1;subst i2;subst i3;subst i4;have:=vU (vS h3).2.2.2;have:=GA k t;have:=Ab n;rw[ET _ _ _ h1,hw];simp only[List.length_append,List.length_cons,List.length_nil];omega
 ·rintro⟨ks',hx,hy⟩;injection hx with i1 i2 i3 i4
  subst i4;have key:∀l:List Nd,(∀y∈l,(stmtT y).length+1<=40*weighN y)->(stmtsT l).length<=40*weighL l:=λl=>by
   induction l with
   |nil=>intro _;simp[stmtsT]
   |cons a r ih=>
    intro h;have h1:=ih λy hy=>h y (List.mem_cons_of_mem _ hy);have h2:=h a (by simp);have h3:1<=weighN a:=by rw[weighN_eq];omega
    simp only[stmtsT,weighL,List.length_append,List.length_cons];omega
  have:=key ks λy hyk=>(ih y hyk).1 (hy y hyk).1 (hy y hyk).2;rw[qU,weighN];simp only[oK,List.length_append,List.length_cons,List.length_nil];omega
theorem LA(x:Nd)(hb:iI x)(hw:weighN x<=1000000000)(ih:∀y∈x.kids,Ok Tryz.prog 197 [y.d] ⟨.d (.str (stmtT y)),true⟩):Ok Tryz.prog 167 [x.d] ⟨.d (.str (blockT x)),true⟩:=by
 refine aZ Tryz.func167 rfl Tryz.ntmps167 Tryz.results167 λw0 X hp=>?_;have hlen:=(dW x).2 hb;have hwx:=kC x;have hstm:∀y∈x.kids,rightN y=true/\isStmtK y.kind=true:=by obtain⟨ks,rfl,h⟩:=hb;exact h
 refine aA ?_;simp;refine aA ?_;simp;refine aD ?_;refine aA ?_;simp;refine aH ?_;refine aR (ι:=Nat) (λi=>aO [(3,.d (.str (123::32::stmtsT (x.kids.take i)))),(7,.d (ndsD x.kids)),(8,.d (aG x.kids.length)),(9,.d (aG i))]) (λi=>aI []) (λi=>i<=x.kids.length) (λi=>x.kids.length-i) 0 (aB hp [3,7,8,9] [] (by simp[stmtsT])) (Nat.zero_le _) λi hi3=>?_;refine aA ?_;simp;refine aD ?_;refine aC ?_;simp;refine⟨λh3=>?_,λh3=>?_⟩
 ·refine aE ?_;simp;refine aD ?_;refine aH ?_;refine aD ?_;have hi:i<x.kids.length:=by omega
  refine aJ ?_;simp[hi];have hk:=ih _ (List.getElem_mem hi);have hs:=hstm _ (List.getElem_mem hi);have l1:=(dW x.kids[i]).1 hs.1 hs.2;have l2:=kR hi;have l3:=sT (l:=x.kids) (λy hy=>(dW y).1 (hstm y hy).1 (hstm y hy).2) i;have l4:=weighN_eq x;refine eF.ro hT hW (λ|15=>some<| .plain ⟨.d (.str (stmtT x.kids[i])),true⟩|_=>none) ?_;simp;refine⟨⟨⟨by simpa using hk,by omega⟩,by omega⟩,?_⟩;refine aJ ?_;simp;refine⟨by omega,?_⟩;refine Nf.mk (i+1) (aB hp [3,7,8,9] [] (by simp[AW hi])) ?_ ?_
  ·omega
  ·omega
 ·refine bA ?_;simp;refine aD ?_;have hi:i=x.kids.length:=by omega
  subst hi;rw[List.take_length];rw[qU]at hlen;simp only[List.length_append,List.length_cons]at hlen;refine aJ ?_;simp;refine⟨by omega,?_⟩;refine aF ?_;simp[qU]
end
section
attribute[local simp] jO.cond Nd.d_eq nd_t nd_dr nd_td ndsD
theorem PA(x:Nd)(hr:rightN x=true)(hk:isStmtK x.kind=true)(hw:weighN x<=1000000000)(ihb:∀y∈x.kids,iI y->Ok Tryz.prog 167 [y.d] ⟨.d (.str (blockT y)),true⟩):Ok Tryz.prog 197 [x.d] ⟨.d (.str (stmtT x)),true⟩:=by
 refine aZ Tryz.func197 rfl Tryz.ntmps197 Tryz.results197 λw0 X hp=>?_;obtain⟨f0,f9,f10,f11,f13⟩:=CN hr hk;have hwx:=weighN_eq x;have hlen:=(dW x).1 hr hk;have wl:=qT x.kind;have q2:=iW;have hmem:∀(i:Nat) (hi:i<x.kids.length),weighN x.kids[i]<weighN x:=λi hi=>kR hi;refine aA ?_;simp;refine aD ?_;refine aA ?_;simp;refine aH ?_;refine aA ?_;simp;refine aC ?_;simp;refine⟨λh2=>?_,λh2=>?_⟩
 ·refine aD ?_;obtain⟨h0,k0,e0⟩:=f9 h2;have w0:=hmem 0 h0;have l0:=cU _ k0.1 k0.2;have c0:=yG _ k0.1 k0.2 (by omega);refine eF.rd [[19],[19],[19],[19]] [[],[],[],[],[],[],[],[],[19]] (λ|19=>some<| .plain ⟨.d (.str (exprT x.kids[0])),true⟩|_=>none) ?_;simp[h0];refine⟨⟨⟨⟨⟨by omega,by omega⟩,by simpa using c0⟩,by omega⟩,by omega⟩,?_⟩;refine aF ?_;simp[e0,Py]
 ·refine aA ?_;simp;refine aC ?_;simp;refine⟨λh4=>?_,λh4=>?_⟩
  ·refine aD ?_;obtain⟨h0,h1,k0,k1,e0⟩:=f10 h4;have w0:=hmem 0 h0;have w1:=hmem 1 h1;have l0:=cU _ k0.1 k0.2;have l1:=cU _ k1.1 k1.2;have c0:=yG _ k0.1 k0.2 (by omega);have c1:=yG _ k1.1 k1.2 (by omega);refine eF.rd [[],[],[],[],[],[34],[28],[28],[28],[28]] [[],[],[],[],[28],[],[],[],[],[],[34]] (λ|28=>some<| .plain ⟨.d (.str (exprT x.kids[0])),true⟩|34=>some<| .plain ⟨.d (.str (exprT x.kids[1])),true⟩|_=>none) ?_;simp[h0,h1];refine⟨by(repeat' with_reducible apply And.intro)<;>first|omega|(simpa using c0)|(simpa using c1),?_⟩;refine aF ?_;simp[e0,Pz]
  ·refine aP (ι:=BC) (λ⟨b⟩=>aO [(1,.bx 1 0),(37,.d (.bool b))]) (λ⟨b⟩=>aI [(1,.box false [.d (aG x.kind),.d (.str x.text),.d (aG x.n),.d (ndsD x.kids)])]) (λ⟨b⟩=>b=true↔(x.kind=11\/x.kind=12)) ?_ λ⟨b⟩ hc8=>?_
   ·refine aA ?_;simp;refine aC ?_;simp;refine⟨λh6=>?_,λh6=>?_⟩
    ·refine aE ?_;simp;refine UV.mk ⟨decide (x.kind=11)⟩ (aB hp [1,37] [(1,1)]) ?_;simp[h6]
    ·refine aJ ?_;simp;refine UV.mk ⟨decide (x.kind=12)⟩ (aB hp [1,37] [(1,1)]) ?_;simp only[decide_eq_true_eq];omega
   ·refine aC ?_;simp;refine⟨λh8=>?_,λh8=>?_⟩
    ·have q8:=hc8.1 h8;refine aD ?_;obtain⟨h0,h1,k0,b1,e0⟩:=f11 q8;have w0:=hmem 0 h0;have w1:=hmem 1 h1;have l0:=cU _ k0.1 k0.2;have l1:=(dW x.kids[1]).2 b1;have c0:=yG _ k0.1 k0.2 (by omega);have c1:=ihb _ (List.getElem_mem h1) b1;have q1:=pQ (k:=x.kind) (by omega) (by omega);refine eF.rd [[49,56],[49,56],[49,56],[49,56],[49,56],[],[],[],[],[],[56],[56],[49],[49],[49],[49]] [[],[],[],[],[],[],[],[],[],[49],[],[],[],[],[],[],[56]] (λ|49=>some<| .plain ⟨.d (.str (exprT x.kids[0])),true⟩|56=>some<| .plain ⟨.d (.str (blockT x.kids[1])),true⟩|_=>none) ?_;simp[h0,h1,q1];refine⟨⟨⟨⟨⟨⟨⟨⟨⟨by omega,by omega⟩,by omega⟩,by simpa using c0⟩,by omega⟩,by omega⟩,by omega⟩,by simpa using c1⟩,by omega⟩,?_⟩;refine aD ?_;refine aA ?_;simp;refine aC ?_;simp;refine⟨λh9=>?_,λh9=>?_⟩
     ·have h2':2<x.kids.length:=(by omega);rcases e0 with⟨e0,_⟩|⟨_,b2,e0⟩
      ·omega
      have w2:=hmem 2 h2';have l2:=(dW x.kids[2]).2 b2;have c2:=ihb _ (List.getElem_mem h2') b2;refine eF.ro hT hW (λ|67=>some<| .plain ⟨.d (.str (blockT x.kids[2])),true⟩|_=>none) ?_;simp[h2'];refine⟨by(repeat' with_reducible apply And.intro)<;>first|omega|(simpa using c2),?_⟩;refine aA ?_;simp;refine aF ?_;simp[e0,Ny,EW,sElse]
     ·refine aE ?_;simp;refine aA ?_;simp;refine aF ?_;rcases e0 with⟨_,e0⟩|⟨h2,_,_⟩
      ·simp[e0,Ny]
      ·omega
    ·have q8:¬(x.kind=11\/x.kind=12):=λq=>by simp[hc8.2 q]at h8
     refine aE ?_;simp;refine aD ?_;have hcm:=f13 (by omega);obtain⟨g1,g2,g3,g4⟩:=vS hcm;have e0:=NA (x:=x) (by omega);have ml:=GA x.kind x.text;have nl:=Ab x.n;have kl:=vU g4;have q1:=pQ (k:=x.kind) (by omega) (by omega);refine aJ ?_;simp[q1];refine⟨by(repeat' with_reducible apply And.intro)<;>omega,?_⟩;refine aP (ι:=Unit) (λi=>aO [(1,.bx 1 0),(4,.d (.str (wordAt x.kind++midT x.kind x.text)))]) (λi=>aI [(1,.box false [.d (aG x.kind),.d (.str x.text),.d (aG x.n),.d (ndsD x.kids)])]) (λi=>True) ?_ λi hc21=>?_
     ·refine aA ?_;simp;refine aH ?_;refine aP (ι:=BC) (λ⟨b⟩=>aO [(1,.bx 1 0),(4,.d (.str (wordAt x.kind))),(76,.d (aG x.kind)),(82,.d (.bool b))]) (λ⟨b⟩=>aI [(1,.box false [.d (aG x.kind),.d (.str x.text),.d (aG x.n),.d (ndsD x.kids)])]) (λ⟨b⟩=>b=true↔(x.kind=19\/x.kind=20)) ?_ λ⟨b⟩ hc17=>?_
      ·refine aA ?_;simp;refine aC ?_;simp;refine⟨λh15=>?_,λh15=>?_⟩
       ·refine aE ?_;simp;refine UV.mk ⟨decide (x.kind=19)⟩ (aB hp [1,4,76,82] [(1,1)]) ?_;simp[h15]
       ·refine aJ ?_;simp;refine UV.mk ⟨decide (x.kind=20)⟩ (aB hp [1,4,76,82] [(1,1)]) ?_;simp only[decide_eq_true_eq];omega
      ·refine aC ?_;simp;refine⟨λh17=>?_,λh17=>?_⟩
       ·have q17:=hc17.1 h17;refine aJ ?_;simp;refine⟨by(repeat' with_reducible apply And.intro)<;>omega,?_⟩;exact(aB hp [1,4] [(1,1)] (by simp[midT,q17]))
       ·have q17:¬(x.kind=19\/x.kind=20):=λq=>by simp[hc17.2 q]at h17
        refine aP (ι:=BC) (λ⟨b⟩=>aO [(1,.bx 1 0),(4,.d (.str (wordAt x.kind))),(76,.d (aG x.kind)),(90,.d (.bool b))]) (λ⟨b⟩=>aI [(1,.box false [.d (aG x.kind),.d (.str x.text),.d (aG x.n),.d (ndsD x.kids)])]) (λ⟨b⟩=>b=true↔(x.kind=21\/x.kind=25\/x.kind=24)) ?_ λ⟨b⟩ hc14=>?_
        ·refine aA ?_;simp;refine aC ?_;simp;refine⟨λh18=>?_,λh18=>?_⟩
         ·refine aE ?_;simp;refine UV.mk ⟨decide (x.kind=21)⟩ (aB hp [1,4,76,90] [(1,1)]) ?_;simp[h18]
         ·refine aA ?_;simp;refine aC ?_;simp;refine⟨λh19=>?_,λh19=>?_⟩
          ·refine aE ?_;simp;refine UV.mk ⟨decide (x.kind=25)⟩ (aB hp [1,4,76,90] [(1,1)]) ?_;simp[h19]
          ·refine aJ ?_;simp;refine UV.mk ⟨decide (x.kind=24)⟩ (aB hp [1,4,76,90] [(1,1)]) ?_;simp only[decide_eq_true_eq];omega
        ·refine aC ?_;simp;refine⟨λh14=>?_,λh14=>?_⟩
         ·have q14:=hc14.1 h14;refine aE ?_;simp;exact(aB hp [1,4] [(1,1)] (by simp[midT,q17,q14]))
         ·have q14:¬(x.kind=21\/x.kind=25\/x.kind=24):=λq=>by simp[hc14.2 q]at h14
          refine aJ ?_;simp;refine⟨by(repeat' with_reducible apply And.intro)<;>omega,?_⟩;exact(aB hp [1,4] [(1,1)] (by simp[midT,q17,q14]))
     ·refine aP (ι:=Unit) (λi=>aO [(1,.bx 1 0),(4,.d (.str (wordAt x.kind++(midT x.kind x.text++withN x.n))))]) (λi=>aI [(1,.box false [.d (aG x.kind),.d (.str x.text),.d (aG x.n),.d (ndsD x.kids)])]) (λi=>True) ?_ λi hc23=>?_
      ·refine aA ?_;simp;refine aC ?_;simp;refine⟨λh21=>?_,λh21=>?_⟩
       ·have ci:=yF x.n (by omega) g3;have hn:withN x.n=32::itoaS x.n:=by unfold withN;rw[if_pos h21]
        have il:=bV x.n;refine eF.ro hT hW (λ|100=>some<| .plain ⟨.d (.str (itoaS x.n)),true⟩|_=>none) ?_;simp;refine⟨by(repeat' with_reducible apply And.intro)<;>first|omega|(simpa using ci)|(simp only[List.length_append];omega),?_⟩;exact(aB hp [1,4] [(1,1)] (by simp[hn]))
       ·refine aE ?_;simp;exact(aB hp [1,4] [(1,1)] (by simp[withN,show¬0<x.n by omega]))
      ·refine aD ?_;refine aA ?_;simp;refine aH ?_;refine aR (ι:=Nat) (λi=>aO [(4,.d (.str (wordAt x.kind++(midT x.kind x.text++(withN x.n++withE (x.kids.take i)))))),(104,.d (ndsD x.kids)),(105,.d (aG x.kids.length)),(106,.d (aG i))]) (λi=>aI []) (λi=>i<=x.kids.length) (λi=>x.kids.length-i) 0 (aB hp [4,104,105,106] [] (by simp[withE])) (Nat.zero_le _) λi hi24=>?_;refine aA ?_;simp;refine aD ?_;refine aC ?_;simp;refine⟨λh24=>?_,λh24=>?_⟩
       ·refine aE ?_;simp;refine aD ?_;refine aH ?_;refine aD ?_;have hi:i<x.kids.length:=by omega
        refine aJ ?_;simp[hi];have ki:=g4 _ (List.getElem_mem hi);have wi:=hmem i hi;have li:=cU _ ki.1 ki.2;have ci:=yG _ ki.1 ki.2 (by omega);have lt:=CM g4 i;refine eF.ro hT hW (λ|112=>some<| .plain ⟨.d (.str (exprT x.kids[i])),true⟩|_=>none) ?_;simp;refine⟨by(repeat' with_reducible apply And.intro)<;>first|omega|(simpa using ci)|(simp only[List.length_append];omega),?_⟩;have:=kC x;refine aJ ?_;simp;refine⟨by omega,?_⟩;refine Nf.mk (i+1) (aB hp [4,104,105,106] [] (by simp[Lz hi])) ?_ ?_
        ·omega
        ·omega
       ·refine bA ?_;simp;refine aD ?_;have hi:i=x.kids.length:=by omega
        subst hi;rw[List.take_length];refine aJ ?_;simp;refine⟨by first|omega|(simp only[List.length_append];omega),?_⟩;refine aF ?_;simp[e0]
end
section
attribute[local simp] jO.cond Nd.d_eq nd_t nd_dr nd_td ndsD
theorem XY(x:Nd):(rightN x=true->isStmtK x.kind=true->weighN x<=1000000000->Ok Tryz.prog 197 [x.d] ⟨.d (.str (stmtT x)),true⟩)/\(iI x->weighN x<=1000000000->Ok Tryz.prog 167 [x.d] ⟨.d (.str (blockT x)),true⟩):=by
 refine lX (p:=λx=>(rightN x=true->isStmtK x.kind=true->weighN x<=1000000000->Ok Tryz.prog 197 [x.d] ⟨.d (.str (stmtT x)),true⟩)/\(iI x->weighN x<=1000000000->Ok Tryz.prog 167 [x.d] ⟨.d (.str (blockT x)),true⟩)) (λk t n ks ih=>⟨?_,?_⟩) x
 ·intro hr hk hw;have hwk:∀y∈ks,weighN y<=1000000000:=λy hy=>by have:=weigh_mem hy;rw[weighN]at hw;omega
  exact PA _ hr hk hw λy hy hb=>(ih y hy).2 hb (hwk y hy)
 ·intro hb hw;have hwk:∀y∈ks,weighN y<=1000000000:=λy hy=>by have:=weigh_mem hy;rw[weighN]at hw;omega
  obtain⟨ks',hx,hy⟩:=id hb;injection hx with i1 i2 i3 i4
  exact LA _ hb hw λy hyk=>(ih y hyk).1 (hy y (i4▸hyk)).1 (hy y (i4▸hyk)).2 (hwk y hyk)
theorem PB{x:Nd}:(itemT x).length<=9*weighN x:=by
 have:=bV x.n;rw[weighN_eq];simp only[itemT,List.length_append,List.length_cons,List.length_nil];omega
theorem oP:∀l:List Nd,(l.flatMap itemT).length<=9*weighL l
 |[]=>by simp
 |a::r=>by
  have h1:=oP r;have h2:=PB (x:=a);simp only[List.flatMap_cons,weighL,List.length_append];omega
theorem CO{l:List Nd}{i:Nat}(hi:i<l.length):(l.take (i+1)).flatMap itemT=(l.take i).flatMap itemT++itemT l[i]:=by
 rw[<-List.take_append_getElem hi,List.flatMap_append];simp
theorem uD{l:List Nd}(i:Nat):((l.take i).flatMap itemT).length<=9*weighL l:=by
 have h1:=oP l;have h2:(l.take i).flatMap itemT++(l.drop i).flatMap itemT=l.flatMap itemT:=by rw[<-List.flatMap_append,List.take_append_drop]
 rw[<-h2,List.length_append]at h1;omega
def jS(l:List Nd):aM:=l.flatMap itemT
theorem NB(x:Nd)(hd:Ls x)(hw:weighN x<=1000000000):Ok Tryz.prog 131 [x.d] ⟨.d (.str (textT x)),true⟩:=by
 refine aZ Tryz.func131 rfl Tryz.ntmps131 Tryz.results131 λw0 X hp=>?_;obtain⟨ht,hd⟩:=hd;have hwx:=weighN_eq x;have wl:=qT x.kind;have q2:=iW;have f0:0<=x.kind/\x.kind<=6:=by rcases hd with⟨h|h,_⟩|⟨h,_⟩|⟨h,_⟩|⟨h,_⟩|⟨h|h,_⟩<;>omega
 have q1:=pQ (k:=x.kind) (by omega) (by omega);have il:=bV x.n;refine aA ?_;simp;refine aD ?_;refine eF.rd [] [] (λ_=>none) ?_;simp[q1];refine⟨by(repeat' with_reducible apply And.intro)<;>omega,?_⟩;refine aD ?_;refine aA ?_;simp;refine aH ?_;refine aP (ι:=BC) (λ⟨b⟩=>aO [(1,.bx 1 0),(3,.d (.str (wordAt x.kind++32::x.text))),(15,.d (aG x.kind)),(16,.d (.bool b))]) (λ⟨b⟩=>aI [(1,.box false [.d (aG x.kind),.d (.str x.text),.d (aG x.n),.d (ndsD x.kids)])]) (λ⟨b⟩=>b=true↔(x.kind=5\/x.kind=6)) ?_ λ⟨b⟩ hc5=>?_
 ·refine aA ?_;simp;refine aC ?_;simp;refine⟨λh3=>?_,λh3=>?_⟩
  ·refine aE ?_;simp;refine UV.mk ⟨decide (x.kind=5)⟩ (aB hp [1,3,15,16] [(1,1)]) ?_;simp[h3]
  ·refine aJ ?_;simp;refine UV.mk ⟨decide (x.kind=6)⟩ (aB hp [1,3,15,16] [(1,1)]) ?_;simp only[decide_eq_true_eq];omega
 ·refine aC ?_;simp;refine⟨λh5=>?_,λh5=>?_⟩
  ·have q5:=hc5.1 h5;refine aD ?_;have hd5:∃b,x=.mk x.kind x.text 0 [b]/\iI b:=by
    rcases hd with⟨_,h⟩|⟨h,_⟩|⟨h,_⟩|⟨h,_⟩|⟨h|h,_⟩<;>first|exact h|omega
   obtain⟨c,hx,hb⟩:=hd5;have hks:x.kids=[c]:=by rw[hx];rfl
   rw[hks]at hwx;simp only[weighL]at hwx;have bl:=(dW c).2 hb;have kb:=(XY c).2 hb (by omega);refine eF.ro hT hW (λ|25=>some<| .plain ⟨.d (.str (blockT c)),true⟩|_=>none) ?_;simp[hks];refine⟨⟨⟨by omega,by simpa using kb⟩,by omega⟩,?_⟩;refine aF ?_;simp[textT,q5,hks]
  ·have q5:¬(x.kind=5\/x.kind=6):=λq=>by simp[hc5.2 q]at h5
   refine aA ?_;simp;refine aC ?_;simp;refine⟨λh6=>?_,λh6=>?_⟩
   ·refine aD ?_;have hd7:∀y∈x.kids,Nt y:=by
     rcases hd with⟨h|h,_⟩|⟨_,_,h⟩|⟨h,_⟩|⟨h,_⟩|⟨h|h,_⟩<;>first|exact h|omega
    refine aJ ?_;simp;refine⟨by omega,?_⟩;refine aD ?_;refine aA ?_;simp;refine aH ?_;refine aR (ι:=Nat) (λi=>aO [(3,.d (.str (wordAt x.kind++32::(x.text++32::123::32::jS (x.kids.take i))))),(32,.d (ndsD x.kids)),(33,.d (aG x.kids.length)),(34,.d (aG i))]) (λi=>aI []) (λi=>i<=x.kids.length) (λi=>x.kids.length-i) 0 (aB hp [3,32,33,34] [] (by simp[jS])) (Nat.zero_le _) λi hi9=>?_;refine aA ?_;simp;refine aD ?_;refine aC ?_;simp;refine⟨λh9=>?_,λh9=>?_⟩
    ·refine aE ?_;simp;refine aD ?_;refine aH ?_;refine aD ?_;have hi:i<x.kids.length:=by omega
     refine aJ ?_;simp[hi];obtain⟨t',n',hy,g1,g2,g3⟩:=hd7 _ (List.getElem_mem hi);have en:x.kids[i].n=n':=by rw[hy];rfl
     have ci:=yF x.kids[i].n (by omega) (by omega);have lt:=uD (l:=x.kids) i;have li:=bV x.kids[i].n;have wi:=kR hi;rw[weighN_eq x.kids[i]]at wi;have lo:(jS (x.kids.take i)).length<=9*weighL x.kids:=lt;refine eF.rd [[44],[44],[44],[44]] [[],[],[],[],[],[],[44]] (λ|44=>some<| .plain ⟨.d (.str (itoaS x.kids[i].n)),true⟩|_=>none) ?_;simp;refine⟨by(repeat' with_reducible apply And.intro)<;>first|omega|exact ci|(simp only[List.length_append,List.length_cons];omega),?_⟩;have:=kC x;refine aJ ?_;simp;refine⟨by omega,?_⟩;refine Nf.mk (i+1) (aB hp [3,32,33,34] [] (by simp[jS,CO hi,itemT])) ?_ ?_
     ·omega
     ·omega
    ·refine bA ?_;simp;refine aD ?_;have hi:i=x.kids.length:=by omega
     subst hi;rw[List.take_length];have lt:=oP x.kids;have lo:(jS x.kids).length<=9*weighL x.kids:=lt;refine aJ ?_;simp;refine⟨by omega,?_⟩;refine aF ?_;simp[textT,q5,h6,jS]
   ·refine aA ?_;simp;refine aC ?_;simp;refine⟨λh14=>?_,λh14=>?_⟩
    ·have hd15: -999<=x.n/\x.n<=999:=by
      rcases hd with⟨h|h,_⟩|⟨h,_⟩|⟨_,_,h⟩|⟨h,_⟩|⟨h|h,_⟩<;>omega
     have ci:=yF x.n hd15.1 hd15.2;refine eF.ro hT hW (λ|56=>some<| .plain ⟨.d (.str (itoaS x.n)),true⟩|_=>none) ?_;simp;refine⟨by(repeat' with_reducible apply And.intro)<;>first|omega|exact ci,?_⟩;refine aA ?_;simp;refine⟨by omega,?_⟩;refine aF ?_;simp[textT,q5,h6,h14]
    ·refine aA ?_;simp;refine aC ?_;simp;refine⟨λh16=>?_,λh16=>?_⟩
     ·have hd17:0<=x.n/\x.n<=3:=by
       rcases hd with⟨h|h,_⟩|⟨h,_⟩|⟨h,_⟩|⟨_,_,h⟩|⟨h|h,_⟩<;>omega
      have ci:=yF x.n (by omega) (by omega);refine eF.ro hT hW (λ|64=>some<| .plain ⟨.d (.str (itoaS x.n)),true⟩|_=>none) ?_;simp;refine⟨by(repeat' with_reducible apply And.intro)<;>first|omega|exact ci,?_⟩;refine aA ?_;simp;refine⟨by omega,?_⟩;refine aF ?_;simp[textT,q5,h6,h14,h16]
     ·refine aE ?_;simp;refine aA ?_;simp;refine⟨by omega,?_⟩;refine aF ?_;simp[textT,q5,h6,h14,h16]
end
section
attribute[local simp] jO.cond Nd.d_eq nd_t nd_dr nd_td ndsD aQ
theorem wZ(c:UInt8):letterB c=(decide (97<=(c.toNat:Int))&&decide ((c.toNat:Int)<=122)):=by
 unfold letterB;congr 1<;>(rw[decide_eq_decide,UInt8.le_iff_toNat_le];exact⟨λh=>by have:(97:UInt8).toNat=97:=rfl;have:(122:UInt8).toNat=122:=rfl;omega,λh=>by have:(97:UInt8).toNat=97:=rfl;have:(122:UInt8).toNat=122:=rfl;omega⟩)
theorem Ac(c:UInt8):digitB c=(decide (48<=(c.toNat:Int))&&decide ((c.toNat:Int)<=57)):=by
 unfold digitB;congr 1<;>(rw[decide_eq_decide,UInt8.le_iff_toNat_le];exact⟨λh=>by have:(48:UInt8).toNat=48:=rfl;have:(57:UInt8).toNat=57:=rfl;omega,λh=>by have:(48:UInt8).toNat=48:=rfl;have:(57:UInt8).toNat=57:=rfl;omega⟩)
theorem vV(c:UInt8):Ok Tryz.prog 155 [.int .u8 (c.toNat:Int)] ⟨.d (.bool (letterB c)),true⟩:=by
 refine aZ Tryz.func155 rfl Tryz.ntmps155 Tryz.results155 λw0 X hp=>?_;refine aA ?_;simp;refine aA ?_;simp;refine aF ?_;simp[wZ]
theorem uE(c:UInt8):Ok Tryz.prog 157 [.int .u8 (c.toNat:Int)] ⟨.d (.bool (digitB c)),true⟩:=by
 refine aZ Tryz.func157 rfl Tryz.ntmps157 Tryz.results157 λw0 X hp=>?_;refine aA ?_;simp;refine aA ?_;simp;refine aF ?_;simp[Ac]
theorem SG(s:aM)(p:UInt8->Bool)(g:FuncId)(hg:∀c:UInt8,Ok Tryz.prog g [.int .u8 (c.toNat:Int)] ⟨.d (.bool (p c)),true⟩)(hl:s.length<=9223372036854775807):Ok Tryz.prog 158 [.str s,.fn g []] ⟨.d (aG (runP p s)),true⟩:=by
 refine aZ Tryz.func158 rfl Tryz.ntmps158 Tryz.results158 λw0 X hp=>?_;refine aA ?_;simp;refine aA ?_;simp;refine aD ?_;refine aH ?_;refine aR (ι:=Nat) (λi=>aO [(0,.d (.str s)),(1,.d (.fn g [])),(5,.d (aG i))]) (λi=>aI []) (λi=>i<=s.length/\∀(j:Nat) (h:j<s.length),j<i->p s[j]=true) (λi=>s.length-i) 0 (aB hp [0,1,5] []) (⟨Nat.zero_le _,λj _ h=>absurd h (Nat.not_lt_zero _)⟩) λi hi2=>?_;refine aD ?_;refine aD ?_;have hc:=hg (s.getD i 0);refine eF.ro hT hW (λ|15=>some<| .plain ⟨.d (.bool (p (s.getD i 0))),true⟩|_=>none) ?_;simp[dS];refine⟨λ_=>by simpa using hc,?_⟩;refine aC ?_;simp;refine⟨λg1 g2=>?_,λg=>?_⟩
 ·refine aE ?_;simp;refine aH ?_;refine aJ ?_;simp;refine⟨by omega,?_⟩;refine Nf.mk (i+1) (aB hp [0,1,5] []) ?_ ?_
  ·refine⟨by omega,λj hj q=>?_⟩;rcases Nat.lt_or_ge j i with q'|q'
   ·exact hi2.2 j hj q'
   ·have:j=i:=(by omega);subst this;simpa [g1]using g2
  ·omega
 ·refine bA ?_;simp;refine aA ?_;simp;refine aF ?_;simp;have hr:=runP_eq (p:=p) (s:=s) hi2.1 (λj hj=>hi2.2 j (by omega) hj) (λhl=>by
   have:=g hl;simpa [hl]using this)
  omega
theorem SH(c:UInt8):Ok Tryz.prog 178 [.int .u8 (c.toNat:Int)] ⟨.d (.bool (letterB c||digitB c)),true⟩:=by
 refine aZ Tryz.func178 rfl Tryz.ntmps178 Tryz.results178 λw0 X hp=>?_;refine aA ?_;simp;refine aX hT hW (λ|4=>some<| .plain ⟨.d (.bool (letterB c)),true⟩|7=>some<| .plain ⟨.d (.bool (digitB c)),true⟩|_=>none) ?_;simp;refine⟨⟨vV c,λ_=>uE c⟩,?_⟩;refine aF ?_;simp
theorem Ad(s:aM):wordN s=if s=[]\/letterB (s[0]?.getD 0)=false then 0 else if 16<runP (λc=>letterB c||digitB c) s then 0 else runP (λc=>letterB c||digitB c) s:=by
 cases s with
 |nil=>rfl
 |cons c r=>
  have e:((c::r)[0]?.getD 0)=c:=rfl;rw[e];unfold wordN;generalize runP (λc=>letterB c||digitB c) (c::r)=n;by_cases q:letterB c=true
  ·simp only[q,if_true];by_cases h:n<=16
   ·simp[h,show¬16<n by omega]
   ·simp[h,show 16<n by omega]
  ·simp[q]
theorem GB(s:aM)(hl:s.length<=9223372036854775807):Ok Tryz.prog 156 [.str s] ⟨.d (aG (wordN s)),true⟩:=by
 refine aZ Tryz.func156 rfl Tryz.ntmps156 Tryz.results156 λw0 X hp=>?_;refine aA ?_;simp;refine aD ?_;refine aX hT hW (λ|9=>some<| .plain ⟨.d (.bool (letterB (s.getD 0 0))),true⟩|_=>none) ?_;simp;refine⟨⟨λh=>List.length_pos_iff.2 h,λ_=>vV _⟩,?_⟩;refine aC ?_;simp;refine⟨λg=>?_,λg1 g2=>?_⟩
 ·refine aA ?_;simp;refine aF ?_;simp;rw[Ad,if_pos g];rfl
 ·refine aE ?_;simp;refine aD ?_;have hr:=SG s (λc=>letterB c||digitB c) 178 (λc=>SH c) hl;refine eF.ro hT hW (λ|13=>some<| .plain ⟨.d (aG (runP (λc=>letterB c||digitB c) s)),true⟩|_=>none) ?_;simp;refine⟨by simpa using hr,?_⟩;refine aD ?_;refine aA ?_;simp;refine aC ?_;simp;refine⟨λh4=>?_,λh4=>?_⟩
  ·refine aA ?_;simp;refine aF ?_;simp;rw[Ad,if_neg,if_pos (by omega)]
   ·rfl
   intro q;rcases q with q|q
   ·exact g1 (by simpa using q)
   ·simp[q]at g2
  ·refine aE ?_;simp;refine aA ?_;simp;refine aF ?_;simp;rw[Ad,if_neg,if_neg (by omega)];intro q;rcases q with q|q
   ·exact g1 (by simpa using q)
   ·simp[q]at g2
theorem xA:List.take 26 qD=wordsL.map DV.str:=rfl
theorem IC(s:aM):Ok Tryz.prog 181 [.str s] ⟨.d (.bool (reservedB s)),true⟩:=by
 refine aZ Tryz.func181 rfl Tryz.ntmps181 Tryz.results181 λw0 X hp=>?_;refine aA ?_;simp;refine aD ?_;have hi:=Iy wordsL s;have q2:=iW;refine eF.ro hT hW (λ|12=>some<| .plain ⟨.d (.bool (decide (s∈wordsL))),true⟩|_=>none) ?_;simp[xA];refine⟨⟨λ_ _=>by omega,λ_ _=>hi⟩,?_⟩;refine aF ?_;simp;show _=(decide (s=[101,108,115,101])||decide (s=[107,105,110,100])||decide (s∈wordsL));simp only[Bool.beq_eq_decide_eq]
theorem EZ(s:aM):Ok Tryz.prog 161 [.str s] ⟨.d (.bool (isNameB s)),true⟩:=by
 refine aZ Tryz.func161 rfl Tryz.ntmps161 Tryz.results161 λw0 X hp=>?_;refine aA ?_;simp;refine aX hT hW (λ|8=>some<| .plain ⟨.d (.bool (letterB (s.getD 0 0))),true⟩|12=>some<| .plain ⟨.d (.bool (reservedB s)),true⟩|_=>none) ?_;simp;refine⟨⟨⟨λh=>List.length_pos_iff.2 h,λ_=>vV _⟩,λ_ _=>IC s⟩,?_⟩;refine aF ?_;cases s<;>simp[isNameB]
theorem yH(s:aM)(b:Bool)(hl:s.length<=9223372036854775807):Ok Tryz.prog 196 [.str s,.bool b] ⟨.d (.bool (wholeB s b)),true⟩:=by
 refine aZ Tryz.func196 rfl Tryz.ntmps196 Tryz.results196 λw0 X hp=>?_;refine aA ?_;simp;refine aX hT hW (λ|9=>some<| .plain ⟨.d (aG (wordN s)),true⟩|19=>some<| .plain ⟨.d (.bool (isNameB s)),true⟩|_=>none) ?_;simp;refine⟨⟨⟨λ_=>GB s hl,λ_ _ _=>EZ s⟩,λh1 h2 h3=>⟨⟨h1,h2⟩,h3⟩⟩,?_⟩;refine aF ?_;simp;rw[Bool.eq_iff_iff];simp[wholeB];intro _ _;omega
end
end Go.Eng
namespace Go.Proofs
open Go.Shelf
def Tryz.idxLay_ren:Go.Shelf.Ren:=⟨λ|217=>180|266=>206|n=>n,λ|9=>9|5=>5|3=>3|n=>n,λ|n=>n⟩
theorem Tryz.idxLay:Go.Proofs.Lays.n217 Tryz.prog Tryz.idxLay_ren:={
 mixed:=by kernel_rfl,
 f217:=Tryz.func180.trans (congrArg some (by kernel_rfl)),
 f266:=Tryz.func206.trans (congrArg some (by kernel_rfl)),
 t3:=Tryz.underlying3,
 a3:=Tryz.isAgg3,
 z3:=Tryz.sizeOf3,
 v3:=Tryz.zeroValue3,
 t5:=Tryz.underlying5,
 a5:=Tryz.isAgg5,
 z5:=Tryz.sizeOf5,
 v5:=Tryz.zeroValue5,
 t9:=Tryz.underlying9,
 a9:=Tryz.isAgg9,
 z9:=Tryz.sizeOf9,
 v9:=Tryz.zeroValue9}
end Go.Proofs
namespace Go.Eng
section
attribute[local simp] jO.cond Nd.d_eq nd_t nd_dr nd_td ndsD aQ
def sW(c:UInt8)(s:aM):Int:=match cutAt c s with|some q=>q.1.length|none=> -1
theorem NC(c:UInt8):∀s:aM,Lib.indexByte s c=sW c s
 |[]=>rfl
 |d::r=>by
  have ih:=NC c r;unfold Lib.indexByte sW cutAt;unfold sW at ih;by_cases h:d=c
  ·simp[h]
  ·rw[if_neg h];rw[if_neg (by simpa using h)];rw[ih];cases cutAt c r with
   |none=>simp
   |some q=>
    simp only[Option.map_some,List.length_cons];rw[if_neg (by simp)];rfl
theorem Ae{c:UInt8}{s:aM}{q:aM×aM}(h:cutAt c s=some q):s.take q.1.length=q.1/\s.drop (q.1.length+1)=q.2/\q.1.length+1+q.2.length=s.length:=by
 have e:=Iw (a:=q.1) (b:=q.2) h;rw[e];refine⟨by simp,?_,by simp;omega⟩;rw[show q.1.length+1=(q.1++[c]).length by simp,show q.1++c::q.2=(q.1++[c])++q.2 by simp,List.drop_left]
theorem yI(s:aM)(c:UInt8):Ok Tryz.prog 180 [.str s,.int .u8 (c.toNat:Int)] ⟨.d (aG (sW c s)),true⟩:=by
 refine⟨⟨_,Tryz.func180,by kernel_rfl,rfl⟩,λw X vs hX hr=>?_⟩
 match vs,hr.1 with
 |[u,v],_=>
  have h1:=hr.2 0 _ _ rfl rfl;have h2:=hr.2 1 _ _ rfl rfl;cases h1;cases h2;refine(Go.Proofs.Any.stringslite_IndexByte Tryz.idxLay ⟨s.toArray⟩ (c.toNat:Int) w).mono ?_;rintro e w' ⟨rfl,rfl⟩;refine⟨_,rfl,xP.refl _ _,none,?_⟩;have e:((c.toNat:Int).toNat.toUInt8)=c:=by simp
  rw[e];simp only[];rw[NC];exact .int _ _
theorem PC(s:aM)(c:UInt8)(hl:s.length<=9223372036854775807):Ok Tryz.prog 169 [.str s,.str [c]] ⟨.d (aG (sW c s)),true⟩:=by
 refine aZ Tryz.func169 rfl Tryz.ntmps169 Tryz.results169 λw0 X hp=>?_;refine aA ?_;simp;refine aA ?_;simp;refine aD ?_;refine aH ?_;refine aA ?_;simp;refine aC ?_;simp;refine⟨λg=>?_,λg=>?_⟩
 ·refine aA ?_;simp;refine aF ?_;simp[<-g,sW,cutAt]
 ·refine aA ?_;simp;refine aC ?_;simp;refine aD ?_;have hi:=yI s c;refine eF.ro hT hW (λ|30=>some<| .plain ⟨.d (aG (sW c s)),true⟩|_=>none) ?_;simp;refine⟨hi,?_⟩;refine aF ?_;simp
def pC(c:UInt8)(s:aM):aM:=match cutAt c s with|some q=>q.1|none=>s
def pD(c:UInt8)(s:aM):aM:=match cutAt c s with|some q=>q.2|none=>[]
def yJ(c:UInt8)(s:aM):Bool:=(cutAt c s).isSome
theorem Ve(s:aM)(c:UInt8)(hl:s.length<=9223372036854775807):Ok Tryz.prog 132 [.str s,.str [c]] ⟨.tup [.d (.str (pC c s)),.d (.str (pD c s)),.d (.bool (yJ c s))],true⟩:=by
 refine vN hT Tryz.func132 (by kernel_rfl) (c:=_) rfl Tryz.ntmps132 (by simp) Tryz.results132 (by simp) (by rfl) λw0 X hp=>?_;refine aA ?_;simp;refine aD ?_;refine aD ?_;have hi:=PC s c hl;refine eF.ro hT hW (λ|10=>some<| .plain ⟨.d (aG (sW c s)),true⟩|_=>none) ?_;simp;refine⟨hi,?_⟩;refine aA ?_;simp;refine aC ?_;simp;refine⟨λh2=>?_,λh2=>?_⟩
 ·refine aD ?_;obtain⟨q,hq⟩:∃q,cutAt c s=some q:=by
   unfold sW at h2;cases e:cutAt c s with
   |none=>rw[e]at h2;simp at h2
   |some q=>exact⟨q,rfl⟩
  have hx:sW c s=(q.1.length:Int):=by unfold sW;rw[hq]
  obtain⟨p1,p2,p3⟩:=Ae hq;refine eF.rd [] [] (λ_=>none) ?_;simp[hx,p1,p2];refine⟨⟨⟨by omega,by omega,by omega⟩,by omega,by omega⟩,?_⟩;refine aF ?_;simp[pC,pD,yJ,hq]
 ·refine aE ?_;simp;refine aA ?_;simp;refine aF ?_;have hn:cutAt c s=none:=by
   unfold sW at h2;cases e:cutAt c s with
   |none=>rfl
   |some q=>rw[e]at h2;simp at h2;omega
  simp[pC,pD,yJ,hn]
theorem SI(s:aM)(c:UInt8)(hl:s.length<=9223372036854775807):Ok Tryz.prog 78 [.str s,.str [c]] ⟨.tup [.d (.str (pC c s)),.d (.str (pD c s)),.d (.bool (yJ c s))],true⟩:=by
 refine vN hT Tryz.func78 (by kernel_rfl) (c:=_) rfl Tryz.ntmps78 (by simp) Tryz.results78 (by simp) (by rfl) λw0 X hp=>?_;refine aA ?_;simp;refine aD ?_;have hi:=Ve s c hl;refine eF.ro hT hW (λ|9=>some<| .plain ⟨.tup [.d (.str (pC c s)),.d (.str (pD c s)),.d (.bool (yJ c s))],true⟩|_=>none) ?_;simp[aW];refine⟨hi,?_⟩;refine aF ?_;simp
end
structure bX where
 bk:Int
 kind:Int
 name:aM
 field:aM
def bX.d(u:bX):DV:=.agg [aG u.kind,.str u.name,.str u.field]
def CP:List Int:=[34,35,13,14,17,18,15,16,22,23]
def qV:List Int:=[0,1,5,5,3,3,2,2,4,4]
def ID(k:Int):Option Int:=(CP.findIdx? (λx=>decide (k=x))).map λj=>qV.getD j 0
def eS(k:Int)(t:aM):List bX:=match ID k with
 |some f=>[⟨k,f,pC 46 t,pD 46 t⟩]
 |none=>[]
mutual
def bB:Nd->List bX
 | .mk k t _ ks=>eS k t++dU ks
def dU:List Nd->List bX
 |[]=>[]
 |x::r=>bB x++dU r
end
theorem usesN_eq(x:Nd):bB x=eS x.kind x.text++dU x.kids:=by cases x;rw[bB];rfl
theorem usesL_append:∀(a b:List Nd),dU (a++b)=dU a++dU b
 |[],_=>rfl
 |x::a,b=>by rw[List.cons_append,dU,dU,usesL_append a b,List.append_assoc]
theorem usesL_succ{l:List Nd}{i:Nat}(hi:i<l.length):dU (l.take (i+1))=dU (l.take i)++bB l[i]:=by
 rw[List.take_succ_eq_append_getElem hi,usesL_append,dU,dU,List.append_nil]
theorem findD_int(k:Int):∀(l:List Int) (i:Nat),gN (aG k) (l.map aG) i=some ((l.findIdx? (λx=>decide (k=x))).map (·+i))
 |[],i=>rfl
 |x::r,i=>by
  have e:jH (aG k) (aG x)=some (decide (k=x)):=by simp[jH,Hz]
  rw[List.map_cons,gN,e,List.findIdx?_cons];by_cases h:k=x
  ·simp[h]
  ·simp only[h,decide_false,Bool.false_eq_true,if_false];rw[findD_int k r (i+1)];cases r.findIdx? (λx=>decide (k=x))with
   |none=>rfl
   |some j=>simp;omega
def fitD:DV:=.mp (CP.map aG) (qV.map aG)
section
attribute[local simp] jO.cond Nd.d_eq nd_t nd_dr nd_td ndsD
theorem isEmpty_dec(l:aM):l.isEmpty=decide (l=[]):=by cases l<;>simp
def bndD(l:List (Int×Int)):List DV:=l.flatMap λp=>[aG p.1,aG p.2]
theorem glob1_eq:Eq=bndD boundsL:=by kernel_rfl
theorem glob1_len:Eq.length=74:=by kernel_rfl
theorem bndD_at:∀(l:List (Int×Int)) (k:Nat),k<l.length->(bndD l)[k*2]?.getD default=aG (l.getD k (0,0)).1/\(bndD l)[k*2+1]?.getD default=aG (l.getD k (0,0)).2
 |p::l,0,_=>⟨rfl,rfl⟩
 |p::l,k+1,h=>by
  have ih:=bndD_at l k (by simpa using h);have e:bndD (p::l)=aG p.1::aG p.2::bndD l:=rfl;rw[e,show(k+1)*2=k*2+1+1 by omega];exact ih
theorem glob1_lo{k:Int}(h:0<=k/\k<37):Eq[k.toNat*2]?.getD default=aG (loAt k):=by
 rw[glob1_eq];exact(bndD_at boundsL k.toNat (by rw[bounds_len];omega)).1
theorem glob1_hi{k:Int}(h:0<=k/\k<37):Eq[k.toNat*2+1]?.getD default=aG (hiAt k):=by
 rw[glob1_eq];exact(bndD_at boundsL k.toNat (by rw[bounds_len];omega)).2
theorem cutA_len(c:UInt8)(s:aM):(pC c s).length<=s.length:=by
 unfold pC;cases h:cutAt c s with
 |none=>simp
 |some q=>have:=Ae h;simp;omega
theorem cutB_len(c:UInt8)(s:aM):(pD c s).length<=s.length:=by
 unfold pD;cases h:cutAt c s with
 |none=>simp
 |some q=>have:=Ae h;simp;omega
theorem fieldB_eq(t:aM):fieldB t=(yJ 46 t&&wholeB (pC 46 t) true&&wholeB (pD 46 t) true):=by
 unfold fieldB yJ pC pD;cases cutAt 46 t with
 |none=>rfl
 |some q=>rfl
theorem worded_ok(x:Nd)(hk:0<=x.kind/\x.kind<37)(hl:x.text.length<=9223372036854775807):Ok Tryz.prog 165 [x.d] ⟨.d (.bool (wordedB x)),true⟩:=by
 refine aZ Tryz.func165 rfl Tryz.ntmps165 Tryz.results165 λw0 X hp=>?_;refine aA ?_;simp;refine aD ?_;refine aD ?_;have hg1:=glob1_lo hk;have hg2:=glob1_hi hk;have hg3:=glob1_len;refine eF.rd [] [] (λ_=>none) ?_;simp[hg1,hg2];refine⟨⟨⟨⟨hk,by omega⟩,λ_=>hk⟩,λ_=>by omega⟩,?_⟩;refine aC ?_;simp;refine⟨λg=>?_,λg1 g2=>?_⟩
 ·refine aA ?_;simp;refine aF ?_;simp;unfold wordedB wordedK;rw[Bool.eq_false_iff];intro h;simp only[Bool.and_eq_true,decide_eq_true_eq]at h;omega
 ·refine aE ?_;simp;refine aD ?_;refine aA ?_;simp;refine aH ?_;refine aP (ι:=BC) (λ⟨b⟩=>aO [(1,.bx 1 0),(25,.d (aG x.kind)),(26,.d (.bool b))]) (λ⟨b⟩=>aI [(1,.box false [.d (aG x.kind),.d (.str x.text),.d (aG x.n),.d (ndsD x.kids)])]) (λ⟨b⟩=>b=true↔(x.kind=9\/x.kind=19\/x.kind=20\/x.kind=33)) ?_ λ⟨b⟩ hc8=>?_
  ·refine aA ?_;simp;refine aC ?_;simp;refine⟨λh4=>?_,λh4=>?_⟩
   ·refine aE ?_;simp;refine UV.mk ⟨decide (x.kind=9)⟩ (aB hp [1,25,26] [(1,1)]) ?_;simp[h4]
   ·refine aA ?_;simp;refine aC ?_;simp;refine⟨λh5=>?_,λh5=>?_⟩
    ·refine aE ?_;simp;refine UV.mk ⟨decide (x.kind=19)⟩ (aB hp [1,25,26] [(1,1)]) ?_;simp[h5]
    ·refine aA ?_;simp;refine aC ?_;simp;refine⟨λh6=>?_,λh6=>?_⟩
     ·refine aE ?_;simp;refine UV.mk ⟨decide (x.kind=20)⟩ (aB hp [1,25,26] [(1,1)]) ?_;simp[h6]
     ·refine aJ ?_;simp;refine UV.mk ⟨decide (x.kind=33)⟩ (aB hp [1,25,26] [(1,1)]) ?_;simp only[decide_eq_true_eq];omega
  ·refine aC ?_;simp;refine⟨λh8=>?_,λh8=>?_⟩
   ·have q8:=hc8.1 h8;refine aD ?_;have hw:=yH x.text false hl;refine eF.ro hT hW (λ|33=>some<| .plain ⟨.d (.bool (wholeB x.text false)),true⟩|_=>none) ?_;simp;refine⟨hw,?_⟩;refine aF ?_;simp;unfold wordedB wordedK textB;simp only[g1,g2,decide_true,Bool.true_and];repeat(first|rw[if_pos (by omega)]|rw[if_neg (by omega)])
    try rw[fieldB_eq]
    try simp
    try exact isEmpty_dec _
   ·have q8:¬(x.kind=9\/x.kind=19\/x.kind=20\/x.kind=33):=λq=>by simp[hc8.2 q]at h8
    refine aA ?_;simp;refine aC ?_;simp;refine⟨λh9=>?_,λh9=>?_⟩
    ·refine aD ?_;have hc:=SI x.text 46 hl;refine eF.ro hT hW (λ|39=>some<| .plain ⟨.tup [.d (.str (pC 46 x.text)),.d (.str (pD 46 x.text)),.d (.bool (yJ 46 x.text))],true⟩|_=>none) ?_;simp[aW];refine⟨hc,?_⟩;refine aD ?_;have hw1:=yH (pC 46 x.text) true (by have:=cutA_len 46 x.text;omega);have hw2:=yH (pD 46 x.text) true (by have:=cutB_len 46 x.text;omega);refine eF.ro hT hW (λ|46=>some<| .plain ⟨.d (.bool (wholeB (pC 46 x.text) true)),true⟩|50=>some<| .plain ⟨.d (.bool (wholeB (pD 46 x.text) true)),true⟩|_=>none) ?_;simp;refine⟨⟨λ_=>hw1,λ_ _=>hw2⟩,?_⟩;refine aF ?_;simp;unfold wordedB wordedK textB;simp only[g1,g2,decide_true,Bool.true_and];repeat(first|rw[if_pos (by omega)]|rw[if_neg (by omega)])
     try rw[fieldB_eq]
     try simp
     try exact isEmpty_dec _
    ·refine aP (ι:=BC) (λ⟨b⟩=>aO [(1,.bx 1 0),(25,.d (aG x.kind)),(52,.d (.bool b))]) (λ⟨b⟩=>aI [(1,.box false [.d (aG x.kind),.d (.str x.text),.d (aG x.n),.d (ndsD x.kids)])]) (λ⟨b⟩=>b=true↔(x.kind=8\/x.kind=10\/x.kind=11\/x.kind=12\/x.kind=21\/x.kind=24\/x.kind=25\/x.kind=26\/x.kind=27\/x.kind=28\/x.kind=29\/x.kind=30\/x.kind=31\/x.kind=32\/x.kind=36)) ?_ λ⟨b⟩ hc27=>?_
     ·refine aA ?_;simp;refine aC ?_;simp;refine⟨λh12=>?_,λh12=>?_⟩
      ·refine aE ?_;simp;refine UV.mk ⟨decide (x.kind=8)⟩ (aB hp [1,25,52] [(1,1)]) ?_;simp[h12]
      ·refine aA ?_;simp;refine aC ?_;simp;refine⟨λh13=>?_,λh13=>?_⟩
       ·refine aE ?_;simp;refine UV.mk ⟨decide (x.kind=10)⟩ (aB hp [1,25,52] [(1,1)]) ?_;simp[h13]
       ·refine aA ?_;simp;refine aC ?_;simp;refine⟨λh14=>?_,λh14=>?_⟩
        ·refine aE ?_;simp;refine UV.mk ⟨decide (x.kind=11)⟩ (aB hp [1,25,52] [(1,1)]) ?_;simp[h14]
        ·refine aA ?_;simp;refine aC ?_;simp;refine⟨λh15=>?_,λh15=>?_⟩
         ·refine aE ?_;simp;refine UV.mk ⟨decide (x.kind=12)⟩ (aB hp [1,25,52] [(1,1)]) ?_;simp[h15]
         ·refine aA ?_;simp;refine aC ?_;simp;refine⟨λh16=>?_,λh16=>?_⟩
          ·refine aE ?_;simp;refine UV.mk ⟨decide (x.kind=21)⟩ (aB hp [1,25,52] [(1,1)]) ?_;simp[h16]
          ·refine aA ?_;simp;refine aC ?_;simp;refine⟨λh17=>?_,λh17=>?_⟩
           ·refine aE ?_;simp;refine UV.mk ⟨decide (x.kind=24)⟩ (aB hp [1,25,52] [(1,1)]) ?_;simp[h17]
           ·refine aA ?_;simp;refine aC ?_;simp;refine⟨λh18=>?_,λh18=>?_⟩
            ·refine aE ?_;simp;refine UV.mk ⟨decide (x.kind=25)⟩ (aB hp [1,25,52] [(1,1)]) ?_;simp[h18]
            ·refine aA ?_;simp;refine aC ?_;simp;refine⟨λh19=>?_,λh19=>?_⟩
             ·refine aE ?_;simp;refine UV.mk ⟨decide (x.kind=26)⟩ (aB hp [1,25,52] [(1,1)]) ?_;simp[h19]
             ·refine aA ?_;simp;refine aC ?_;simp;refine⟨λh20=>?_,λh20=>?_⟩
              ·refine aE ?_;simp;refine UV.mk ⟨decide (x.kind=27)⟩ (aB hp [1,25,52] [(1,1)]) ?_;simp[h20]
              ·refine aA ?_;simp;refine aC ?_;simp;refine⟨λh21=>?_,λh21=>?_⟩
               ·refine aE ?_;simp;refine UV.mk ⟨decide (x.kind=28)⟩ (aB hp [1,25,52] [(1,1)]) ?_;simp[h21]
               ·refine aA ?_;simp;refine aC ?_;simp;refine⟨λh22=>?_,λh22=>?_⟩
                ·refine aE ?_;simp;refine UV.mk ⟨decide (x.kind=29)⟩ (aB hp [1,25,52] [(1,1)]) ?_;simp[h22]
                ·refine aA ?_;simp;refine aC ?_;simp;refine⟨λh23=>?_,λh23=>?_⟩
                 ·refine aE ?_;simp;refine UV.mk ⟨decide (x.kind=30)⟩ (aB hp [1,25,52] [(1,1)]) ?_;simp[h23]
                 ·refine aA ?_;simp;refine aC ?_;simp;refine⟨λh24=>?_,λh24=>?_⟩
                  ·refine aE ?_;simp;refine UV.mk ⟨decide (x.kind=31)⟩ (aB hp [1,25,52] [(1,1)]) ?_;simp[h24]
                  ·refine aA ?_;simp;refine aC ?_;simp;refine⟨λh25=>?_,λh25=>?_⟩
                   ·refine aE ?_;simp;refine UV.mk ⟨decide (x.kind=32)⟩ (aB hp [1,25,52] [(1,1)]) ?_;simp[h25]
                   ·refine aJ ?_;simp;refine UV.mk ⟨decide (x.kind=36)⟩ (aB hp [1,25,52] [(1,1)]) ?_;simp only[decide_eq_true_eq];omega
     ·refine aC ?_;simp;refine⟨λh27=>?_,λh27=>?_⟩
      ·have q27:=hc27.1 h27;refine aA ?_;simp;refine aF ?_;simp;unfold wordedB wordedK textB;simp only[g1,g2,decide_true,Bool.true_and];repeat(first|rw[if_pos (by omega)]|rw[if_neg (by omega)])
       try rw[fieldB_eq]
       try simp
       try exact isEmpty_dec _
      ·have q27:¬(x.kind=8\/x.kind=10\/x.kind=11\/x.kind=12\/x.kind=21\/x.kind=24\/x.kind=25\/x.kind=26\/x.kind=27\/x.kind=28\/x.kind=29\/x.kind=30\/x.kind=31\/x.kind=32\/x.kind=36):=λq=>by simp[hc27.2 q]at h27
       refine aE ?_;simp;refine aD ?_;have hw:=yH x.text true hl;refine eF.ro hT hW (λ|73=>some<| .plain ⟨.d (.bool (wholeB x.text true)),true⟩|_=>none) ?_;simp;refine⟨hw,?_⟩;refine aF ?_;simp;unfold wordedB wordedK textB;simp only[g1,g2,decide_true,Bool.true_and];repeat(first|rw[if_pos (by omega)]|rw[if_neg (by omega)])
       try rw[fieldB_eq]
       try simp
       try exact isEmpty_dec _
end
end Go.Eng
