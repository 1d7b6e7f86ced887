/- Part 5 of the proof. No condition. -/
import Derived.Test.YtjdlbidjlfllcaaGreatDoorMD
import Derived.Shelf.Strconv.Itoa3
import Derived.Test.YtjdlbidjlfllcaaGreatDoorProg
import Derived.Shelf.Strings.Search1
open Go.Proofs
set_option linter.unusedVariables false
set_option linter.unusedSimpArgs false
set_option maxRecDepth 20000
set_option maxHeartbeats 4000000
namespace Go.Eng
theorem xH(p:UInt8->Bool):∀(s:aJ) (n:Nat),runP p (s.take n)=min n (runP p s)
 |[],n=>by simp[runP]
 |c::r,0=>by simp[runP]
 |c::r,n+1=>by
  rw[List.take_succ_cons];unfold runP;split
  ·rw[xH p r n];omega
  ·simp
def xI(s:aJ):Prop:=s≠[]/\nextN s=s.length
theorem oO{s:aJ}(h:0<wordN s):∃c r,s=c::r/\letterB c=true/\wordN s=runP (λc=>letterB c||digitB c) s/\wordN s<=16:=by
 cases s with
 |nil=>simp[wordN]at h
 |cons c r=>
  refine⟨c,r,rfl,?_⟩;unfold wordN at h|-;by_cases q:letterB c=true
  ·simp only[q,if_true]at h|-;by_cases q2:runP (λc=>letterB c||digitB c) (c::r)<=16
   ·simp only[q2,if_true,true_and]at h|-
   ·simp[q2]at h
  ·simp[q]at h
theorem vR(s:aJ):wordN s<=s.length:=by
 rcases Nat.eq_zero_or_pos (wordN s)with h|h
 ·omega
 ·obtain⟨c,r,_,_,h2,_⟩:=oO h;rw[h2];exact runP_le _ _
theorem Bf{s:aJ}(h:0<wordN s):wordN (s.take (wordN s))=wordN s:=by
 obtain⟨c,r,rfl,h1,h2,h3⟩:=oO h;obtain⟨m,hm⟩:∃m,wordN (c::r)=m+1:=⟨wordN (c::r)- 1,by omega⟩;have e:=xH (λc=>letterB c||digitB c) (c::r) (wordN (c::r));rw[hm]at e|-;rw[List.take_succ_cons]at e|-;unfold wordN;simp only[h1,if_true];rw[e,<-h2,hm,Nat.min_self,if_pos (by omega)]
theorem Bg(s:aJ):nextN s<=s.length:=by
 unfold nextN;cases s with
 |nil=>simp
 |cons c r=>
  simp only;split
  ·exact vR _
  ·split
   ·split
    ·have:=vR r;simp only[List.length_cons];omega
    ·simp
   ·split
    ·split
     ·exact runP_le _ _
     ·simp
    ·split
     ·rename_i h;have:(List.take 2 (c::r)).length=2:=by rcases h with h|h<;>rw[h]<;>rfl
      rw[List.length_take]at this;omega
     ·split<;>simp
theorem Mj{s:aJ}(h:0<nextN s):xI (s.take (nextN s)):=by
 have hl:=Bg s;have hlen:(s.take (nextN s)).length=nextN s:=by rw[List.length_take];omega
 refine⟨λe=>by rw[e]at hlen;simp at hlen;omega,?_⟩;rw[hlen];cases s with
 |nil=>simp[nextN]at h
 |cons c r=>
  obtain⟨m,hm⟩:∃m,nextN (c::r)=m+1:=⟨nextN (c::r)- 1,by omega⟩;rw[hm,List.take_succ_cons];have hm':=hm;unfold nextN at hm'|-;simp only at hm'|-;by_cases q1:letterB c=true
  ·rw[if_pos q1]at hm'|-;have:=Bf (s:=c::r) (by omega);rw[hm',List.take_succ_cons]at this;exact this
  ·rw[if_neg q1]at hm'|-;by_cases q2:c=36
   ·rw[if_pos q2]at hm'|-;by_cases q3:0<wordN r
    ·rw[if_pos q3]at hm';have:=Bf q3;have e:m=wordN r:=by omega
     rw[e,this,if_pos q3]
    ·rw[if_neg q3]at hm';omega
   ·rw[if_neg q2]at hm'|-;by_cases q3:digitB c=true
    ·rw[if_pos q3]at hm'|-;have e:=xH digitB (c::r) (m+1);rw[List.take_succ_cons]at e;by_cases q4:runP digitB (c::r)<=3
     ·rw[if_pos q4]at hm';rw[e,hm',Nat.min_self,if_pos (by omega)]
     ·rw[if_neg q4]at hm';omega
    ·rw[if_neg q3]at hm'|-;by_cases q4:List.take 2 (c::r)=[60,61]\/List.take 2 (c::r)=[61,61]
     ·rw[if_pos q4]at hm';have e:m=1:=by omega
      have e2:List.take 2 (c::List.take m r)=List.take 2 (c::r):=by rw[e];cases r<;>simp
      rw[e2,if_pos q4,e]
     ·rw[if_neg q4]at hm';by_cases q5:c∈signs
      ·rw[if_pos q5]at hm';have e:m=0:=by omega
       subst e;rw[if_neg (by simp),if_pos q5]
      ·rw[if_neg q5]at hm';omega
def bB(l:List Tk):Prop:=∀t∈l,xI t.text
theorem pS:∀(f:Nat) (s:aJ) (i:Int),bB (scanF f s i).1
 |0,_,_=>λt h=>by cases h
 |f+1,s,i=>by
  unfold scanF;split
  ·exact λt h=>by cases h
  ·split
   ·exact pS f _ _
   ·split
    ·exact λt h=>by cases h
    ·rename_i q;intro t h;rcases List.mem_cons.1 h with h|h
     ·rw[h];exact Mj (by omega)
     ·exact pS f _ _ t h
theorem Ph{s:aJ}(h:xI s)(hn:isNameB s=true):wholeB s true=true:=by
 obtain⟨h1,h2⟩:=h;cases s with
 |nil=>exact absurd rfl h1
 |cons c r=>
  have hl:letterB c=true:=by simp only[isNameB,Bool.and_eq_true]at hn;exact hn.1
  unfold nextN at h2;simp only[hl,if_true]at h2;unfold wholeB;rw[h2,hn];simp
theorem Mk{r:aJ}(h:xI (36::r)):wholeB r false=true:=by
 obtain⟨_,h2⟩:=h;unfold nextN at h2;simp only[show letterB 36=false by decide,Bool.false_eq_true,if_false,if_true]at h2;split at h2
 ·rename_i q;have e:wordN r=r.length:=by simpa using h2
  unfold wholeB;rw[e];have:r≠[]:=λe=>by rw[e]at q;simp[wordN]at q
  simp[this]
 ·simp at h2
theorem Gn{s:aJ}{b:Bool}(h:wholeB s b=true):∀c∈s,letterB c=true\/digitB c=true:=by
 unfold wholeB at h;simp only[Bool.and_eq_true,decide_eq_true_eq]at h;obtain⟨⟨h1,h2⟩,_⟩:=h;have hp:0<wordN s:=by rw[h2];exact List.length_pos_iff.2 h1
 obtain⟨c,r,_,_,h3,_⟩:=oO hp;intro d hd;obtain⟨i,hi,rfl⟩:=List.mem_iff_getElem.1 hd;have:=runP_all (p:=λc=>letterB c||digitB c) hi (by rw[<-h3,h2];exact hi);simpa using this
theorem CQ{c:UInt8}:∀{a:aJ} (b:aJ),c∉a->cutAt c (a++c::b)=some (a,b)
 |[],b,_=>by simp[cutAt]
 |d::a,b,h=>by
  have h1:d≠c:=λe=>h (by rw[e];exact List.mem_cons_self ..);rw[List.cons_append,cutAt,if_neg h1,CQ b λq=>h (List.mem_cons_of_mem _ q)];rfl
theorem Pi{a b:aJ}(ha:wholeB a true=true)(hb:wholeB b true=true):fieldB (a++46::b)=true:=by
 unfold fieldB;rw[CQ b λh=>by rcases Gn ha _ h with q|q<;>exact absurd q (by decide)];simp[ha,hb]
def Rt(n:Nat)(cls:Int->Bool)(x:PS->Nd×PS):Prop:=∀p,p.l.length<n->bB p.l->(x p).2.l.length<=p.l.length/\bB (x p).2.l/\((x p).2.e=0->rightN (x p).1=true/\cls (x p).1.kind=true)
theorem lD{p:PS}{e:Int}:(p.fail e).l=p.l:=by unfold PS.fail;split<;>rfl
theorem sU{p:PS}{e:Int}(h:bB p.l):bB (p.fail e).l:=by rw[lD];exact h
theorem cN{p:PS}(h:bB p.l):bB p.skip.l:=λt ht=>h t (List.mem_of_mem_tail ht)
theorem dA{p:PS}:p.skip.l.length<=p.l.length:=by simp[PS.skip]
theorem oP{p:PS}(h:p.peek≠[]):p.skip.l.length+1=p.l.length:=by
 unfold PS.peek at h;split at h
 ·exact absurd rfl h
 ·unfold PS.skip;cases e:p.l with
  |nil=>rw[e]at h;exact absurd rfl h
  |cons t r=>rfl
theorem eS{p:PS}{s:aJ}(h:p.is s=true):p.skip.l.length+1=p.l.length:=by
 unfold PS.is at h;simp only[Bool.and_eq_true,decide_eq_true_eq]at h;exact oP (by rw[h.2];exact h.1)
theorem bM{p:PS}{s:aJ}(h:bB p.l):(p.need s).l.length<=p.l.length/\bB (p.need s).l:=by
 unfold PS.need;split
 ·exact⟨dA,cN h⟩
 ·exact⟨by rw[lD];exact Nat.le_refl _,sU h⟩
theorem oQ{p:PS}(h:bB p.l)(hp:p.peek≠[]):xI p.peek:=by
 unfold PS.peek at hp|-;split
 ·rename_i q;rw[if_pos q]at hp;exact absurd rfl hp
 ·rename_i q;rw[if_neg q]at hp;cases e:p.l with
  |nil=>rw[e]at hp;exact absurd rfl hp
  |cons t r=>exact h t (by rw[e];exact List.mem_cons_self ..)
theorem cP{p:PS}(h:bB p.l):(nameP p).2.l.length<=p.l.length/\bB (nameP p).2.l/\((nameP p).2.e=0->wholeB (nameP p).1 true=true):=by
 unfold nameP;split
 ·rename_i q;refine⟨dA,cN h,λ_=>Ph (oQ h λe=>?_) q⟩;rw[e]at q;cases q
 ·exact⟨by rw[lD];exact Nat.le_refl _,sU h,λhe=>absurd he (fail_e (by decide))⟩
theorem dB{p:PS}(h:bB p.l):(localP p).2.l.length<=p.l.length/\bB (localP p).2.l/\((localP p).2.e=0->wholeB (localP p).1 false=true):=by
 unfold localP;split
 ·rename_i r q;refine⟨dA,cN h,λ_=>Mk ?_⟩;rw[<-q];exact oQ h (by rw[q];simp)
 ·exact⟨by rw[lD];exact Nat.le_refl _,sU h,λhe=>absurd he (fail_e (by decide))⟩
theorem dZ{k:Int}{p:PS}(h:bB p.l):(numeralP k p).2.l.length<=p.l.length/\bB (numeralP k p).2.l/\((numeralP k p).2.e=0->loAt k<=(numeralP k p).1/\(numeralP k p).1<=hiAt k):=by
 have bad:∀e:Int,e≠0->(p.fail e).l.length<=p.l.length/\bB (p.fail e).l/\((p.fail e).e=0->loAt k<=0/\0<=hiAt k):=λe q=>⟨by rw[lD];exact Nat.le_refl _,sU h,λhe=>absurd he (fail_e q)⟩;unfold numeralP;split
 ·exact bad 2 (by decide)
 ·split
  ·split
   ·exact bad 5 (by decide)
   ·rename_i q;exact⟨dA,cN h,λ_=>⟨by simp only;omega,by simp only;omega⟩⟩
  ·exact bad 2 (by decide)
theorem vS{p:PS}(h:bB p.l):(numberP p).2.l.length<=p.l.length/\bB (numberP p).2.l/\((numberP p).2.e=0-> -999<=(numberP p).1/\(numberP p).1<=999):=by
 have hlo:loAt 0= -999:=rfl;have hhi:hiAt 0=999:=rfl;unfold numberP;split
 ·obtain⟨h0,h1,h2⟩:=dZ (k:=0) (cN h);exact⟨Nat.le_trans h0 dA,h1,λhe=>by have:=h2 he;simp only;omega⟩
 ·obtain⟨h0,h1,h2⟩:=dZ (k:=0) h;exact⟨h0,h1,λhe=>by have:=h2 he;omega⟩
theorem iW(n:Nat):Rt n isPlaceK placeP:=λp _ h=>by
 obtain⟨h0,h1,h2⟩:=cP h;unfold placeP;split
 ·obtain⟨g0,h3,h4⟩:=cP (cN h1);refine⟨Nat.le_trans g0 (Nat.le_trans dA h0),h3,λhe=>⟨?_,rfl⟩⟩;have ha:=h2 (nameP_stk (nameP p).2.skip he);simp[rightN,rightL,shapedB,shapedK,kidsB,wordedB,wordedK,loAt,hiAt,boundsL,textB,Pi ha (h4 he)]
 ·refine⟨h0,h1,λhe=>⟨?_,rfl⟩⟩;simp[rightN,rightL,shapedB,shapedK,kidsB,wordedB,wordedK,loAt,hiAt,boundsL,textB,h2 he]
theorem CR(lv:Int)(s:aJ): -1<=opI lv s/\opI lv s<=5:=by
 unfold opI;split
 ·rename_i i q;have:=List.mem_range.1 (List.mem_of_find?_eq_some q);omega
 ·omega
theorem sV{lv:Int}{p:PS}(h:bB p.l):(opP lv p).2.l.length<=p.l.length/\bB (opP lv p).2.l:=by
 unfold opP;simp only;split
 ·exact⟨dA,cN h⟩
 ·exact⟨Nat.le_refl _,h⟩
theorem CS{k:Int}{n m:Nd}(h0:26<=k)(h1:k<=31)(hn:rightN n=true/\isExprK n.kind=true)(hm:rightN m=true/\isExprK m.kind=true):rightN (.mk k [] 0 [n,m])=true/\isExprK (Nd.mk k [] 0 [n,m]).kind=true:=by
 have hk:k=26\/k=27\/k=28\/k=29\/k=30\/k=31:=by omega
 rcases hk with rfl|rfl|rfl|rfl|rfl|rfl<;>exact⟨by simp[rightN,rightL,shapedB,shapedK,kidsB,wordedB,wordedK,loAt,hiAt,boundsL,textB,hn.1,hm.1,hn.2,hm.2],rfl⟩
theorem CT{m:Nat}{lv:Int}{x:PS->Nd×PS}(hx:Rt m isExprK x):∀(f:Nat) (n:Nd) (p:PS),p.l.length<m->bB p.l->(p.e=0->rightN n=true/\isExprK n.kind=true)->
 (chainF lv x f n p).2.l.length<=p.l.length/\bB (chainF lv x f n p).2.l/\((chainF lv x f n p).2.e=0->rightN (chainF lv x f n p).1=true/\isExprK (chainF lv x f n p).1.kind=true)
 |0,_,_,_,h,hn=>⟨Nat.le_refl _,h,hn⟩
 |f+1,n,p,hl,h,hn=>by
  unfold chainF;split
  ·exact⟨Nat.le_refl _,h,hn⟩
  ·rename_i q;have hp:p.e=0:=by simpa using q
   obtain⟨g0,g1⟩:=sV (lv:=lv) h;split
   ·exact⟨g0,g1,λ_=>hn hp⟩
   ·rename_i q2;have hr:=CR lv p.peek;have hr2:0<=(opP lv p).1/\(opP lv p).1<=5:=⟨by omega,hr.2⟩;obtain⟨h0,h1,h2⟩:=hx _ (by omega) g1;obtain⟨k0,k1,k2⟩:=CT hx f (.mk (26+(opP lv p).1) [] 0 [n,(x (opP lv p).2).1]) _ (by omega) h1 λhe=>CS (by omega) (by omega) (hn hp) (h2 he);exact⟨by omega,k1,k2⟩
theorem xJ{m:Nat}{lv:Int}{x:PS->Nd×PS}(hx:Rt m isExprK x):Rt m isExprK (chainP lv x):=λp hl h=>by
 obtain⟨h0,h1,h2⟩:=hx p hl h;obtain⟨k0,k1,k2⟩:=CT (lv:=lv) hx ((x p).2.l.length+1) _ _ (by omega) h1 h2;exact⟨by unfold chainP;omega,k1,k2⟩
theorem uG{k:Int}(h:isPlaceK k=true):isExprK k=true:=by
 unfold isPlaceK at h;simp only[Bool.or_eq_true,decide_eq_true_eq]at h;rcases h with rfl|rfl<;>rfl
theorem Bh{m:Nat}{ex:PS->Nd×PS}(hx:Rt m isExprK ex):Rt (m+1) isExprK (factP ex):=λp hl h=>by
 have hpl:=iW (m+1) p hl h;have hpl2:(placeP p).2.l.length<=p.l.length/\bB (placeP p).2.l/\((placeP p).2.e=0->rightN (placeP p).1=true/\isExprK (placeP p).1.kind=true):=⟨hpl.1,hpl.2.1,λhe=>⟨(hpl.2.2 he).1,uG (hpl.2.2 he).2⟩⟩;unfold factP;split
 ·rename_i q;have hk:=eS q;obtain⟨h0,h1,h2⟩:=hx p.skip (by omega) (cN h);obtain⟨g0,g1⟩:=bM (s:=[41]) h1;exact⟨by simp only;omega,g1,λhe=>h2 (need_e he).2⟩
 ·split
  ·exact⟨dA,cN h,λ_=>⟨by show rightN (Nd.mk 36 [] 0 [])=true;decide,rfl⟩⟩
  ·split
   ·split
    ·obtain⟨h0,h1,h2⟩:=dZ (k:=32) h;refine⟨h0,h1,λhe=>⟨?_,rfl⟩⟩;have:=h2 he;have hlo:loAt 32=0:=rfl;have hhi:hiAt 32=999:=rfl;rw[hlo,hhi]at this;simp[rightN,rightL,shapedB,shapedK,kidsB,wordedB,wordedK,hlo,hhi,textB,this]
    ·split
     ·obtain⟨h0,h1,h2⟩:=dB h;refine⟨h0,h1,λhe=>⟨?_,rfl⟩⟩;simp[rightN,rightL,shapedB,shapedK,kidsB,wordedB,wordedK,loAt,hiAt,boundsL,textB,h2 he]
     ·exact hpl2
   ·exact hpl2
theorem Ez{m:Nat}{ex:PS->Nd×PS}(hx:Rt m isExprK ex):Rt (m+1) isExprK (sumP ex):=xJ (xJ (Bh hx))
theorem Pj{m:Nat}{ex:PS->Nd×PS}(hs:Stk ex)(hx:Rt m isExprK ex):Rt (m+1) isExprK (exprB ex):=λp hl h=>by
 obtain⟨h0,h1,h2⟩:=Ez hx p hl h;obtain⟨g0,g1⟩:=sV (lv:=1) h1;unfold exprB;simp only;split
 ·rename_i q;have hr:=CR 1 (sumP ex p).2.peek;have hr2:(opP 1 (sumP ex p).2).1<=5:=hr.2;obtain⟨k0,h3,h4⟩:=Ez hx _ (by omega) g1;exact⟨by simp only;omega,h3,λhe=>CS (by omega) (by omega) (h2 (opP_stk 1 _ (sumP_stk hs _ he))) (h4 he)⟩
 ·exact⟨by simp only;omega,g1,λhe=>h2 (opP_stk 1 _ he)⟩
theorem vT:∀f,Rt f isExprK (exprP false f)
 |0=>λp h=>by omega
 |f+1=>λp hl h=>by
  unfold exprP;rw[if_neg (by simp)];exact Pj (exprP_stk false f) (vT f) p hl h
theorem vU(n:Nat):Rt n isExprK λq=>exprP false (q.l.length+1) q:=λp _ h=>vT (p.l.length+1) p (by omega) h
theorem CU{m:Nat}{st:PS->Nd×PS}(hs:Stk st)(hx:Rt m isStmtK st):∀(f:Nat) (ks:List Nd) (p:PS),p.l.length<m->bB p.l->(p.e=0->∀x∈ks,rightN x=true/\isStmtK x.kind=true)->
 (stmtsF st f ks p).2.l.length<=p.l.length/\bB (stmtsF st f ks p).2.l/\((stmtsF st f ks p).2.e=0->∀x∈(stmtsF st f ks p).1,rightN x=true/\isStmtK x.kind=true)
 |0,_,_,_,h,hn=>⟨Nat.le_refl _,h,hn⟩
 |f+1,ks,p,hl,h,hn=>by
  unfold stmtsF;split
  ·exact⟨Nat.le_refl _,h,hn⟩
  ·obtain⟨h0,h1,h2⟩:=hx p hl h;obtain⟨k0,k1,k2⟩:=CU hs hx f (ks++[(st p).1]) _ (by omega) h1 λhe x hx=>by
    rcases List.mem_append.1 hx with hx|hx
    ·exact hn (hs p he) x hx
    ·rw[List.mem_singleton.1 hx];exact h2 he
   exact⟨by omega,k1,k2⟩
theorem Gp{ks:List Nd}(h:∀x∈ks,rightN x=true/\isStmtK x.kind=true):rightN (.mk 8 [] 0 ks)=true:=
 right_mk.2 ⟨by decide,by decide,List.all_eq_true.2 λx hx=>(h x hx).2,by decide,by decide,rfl,λx hx=>(h x hx).1⟩
theorem oS{m:Nat}{st:PS->Nd×PS}(hs:Stk st)(hx:Rt m isStmtK st):Rt m isBlockK (blockB st):=λp hl h=>by
 obtain⟨g0,g1⟩:=bM (s:=[123]) h;obtain⟨k0,k1,k2⟩:=CU hs hx ((p.need [123]).l.length+1) [] (p.need [123]) (by omega) g1 (λ_ x h=>by cases h);obtain⟨q0,q1⟩:=bM (s:=[125]) k1;unfold blockB;exact⟨by simp only;omega,q1,λhe=>⟨Gp (k2 (need_e he).2),rfl⟩⟩
theorem uH{s:aJ}(h:12<kindP s):13<=kindP s/\kindP s<=25:=by
 unfold kindP wordI at h|-;split
 ·rename_i q;rw[if_pos q]at h;omega
 ·rename_i q;rw[if_neg q]at h;split
  ·rename_i i e;rw[e]at h;have:=List.mem_range.1 (List.mem_of_find?_eq_some e);simp only at h;omega
  ·rename_i e;rw[e]at h;simp only at h;omega
theorem KE{m:Nat}{ex:PS->Nd×PS}(hs:Stk ex)(hx:Rt m isExprK ex){k:Int}(hk:13<=k/\k<=25):Rt m isStmtK (cmdP ex k):=λp hl h=>by
 have ha:(if k=19\/k=20 then localP p else if k=21\/k=25\/k=24 then([],p)else nameP p).2.l.length<=p.l.length/\bB (if k=19\/k=20 then localP p else if k=21\/k=25\/k=24 then([],p)else nameP p).2.l/\
  ((if k=19\/k=20 then localP p else if k=21\/k=25\/k=24 then([],p)else nameP p).2.e=0->textB k (if k=19\/k=20 then localP p else if k=21\/k=25\/k=24 then([],p)else nameP p).1=true):=by
  split
  ·rename_i q;obtain⟨h0,h1,h2⟩:=dB h;exact⟨h0,h1,λhe=>by rcases q with rfl|rfl<;>simp[textB,h2 he]⟩
  ·split
   ·rename_i q;exact⟨Nat.le_refl _,h,λ_=>by rcases q with rfl|rfl|rfl<;>rfl⟩
   ·rename_i q1 q2;obtain⟨h0,h1,h2⟩:=cP h;exact⟨h0,h1,λhe=>by unfold textB;rw[if_neg (by omega),if_neg (by omega),if_neg (by omega)];exact h2 he⟩
 unfold cmdP;generalize(if k=19\/k=20 then localP p else if k=21\/k=25\/k=24 then([],p)else nameP p)=a at ha;obtain⟨a0,a1,a2⟩:=ha;simp only;have lo:∀{n:Int},(k=19\/k=21\/k=25->loAt k<=n/\n<=hiAt k)->(¬(k=19\/k=21\/k=25)->n=0)->loAt k<=n/\n<=hiAt k:=λ{n} h1 h2=>by
  by_cases q:k=19\/k=21\/k=25
  ·exact h1 q
  ·rw[h2 q];have:k=13\/k=14\/k=15\/k=16\/k=17\/k=18\/k=20\/k=22\/k=23\/k=24:=by omega
   rcases this with rfl|rfl|rfl|rfl|rfl|rfl|rfl|rfl|rfl|rfl<;>decide
 have mk:∀{t:aJ} {n:Int} {ks:List Nd},textB k t=true->loAt k<=n/\n<=hiAt k->shapedK k ks=true->(∀x∈ks,rightN x=true)->rightN (.mk k t n ks)=true/\isStmtK (Nd.mk k t n ks).kind=true:=λ{t n ks} h1 h2 h3 h4=>by
  exact⟨right_mk.2 ⟨by omega,by omega,h3,h2.1,h2.2,h1,h4⟩,show isStmtK k=true from isStmtK_iff.2 (by omega)⟩
 split
 ·rename_i q;obtain⟨h0,h1,h2⟩:=hx a.2 (by omega) a1;refine⟨by simp only;omega,h1,λhe=>mk (a2 (hs _ he)) (lo (by omega) λ_=>rfl) ?_ λx hx=>by rw[List.mem_singleton.1 hx];exact(h2 he).1⟩;rcases q with rfl|rfl|rfl<;>simp[shapedK,kidsB,(h2 he).2]
 ·split
  ·rename_i q;obtain⟨h0,h1,h2⟩:=dB a1;refine⟨by simp only;omega,h1,λhe=>mk (a2 (localP_stk _ he)) (lo (by omega) λ_=>rfl) ?_ λx hx=>?_⟩
   ·rcases q with rfl|rfl<;>simp[shapedK,kidsB,isLocalK]
   ·rw[List.mem_singleton.1 hx];simp[rightN,rightL,shapedB,shapedK,kidsB,wordedB,wordedK,loAt,hiAt,boundsL,textB,h2 he]
  ·split
   ·rename_i q;obtain⟨h0,h1,h2⟩:=dZ (k:=k) a1;refine⟨by simp only;omega,h1,λhe=>mk (a2 (numeralP_stk _ _ he)) (h2 he) ?_ λx hx=>by cases hx⟩;rcases q with rfl|rfl|rfl<;>rfl
   ·rename_i q1 q2 q3;refine⟨a0,a1,λhe=>mk (a2 he) (lo (λq=>absurd q q3) λ_=>rfl) ?_ λx hx=>by cases hx⟩;have:k=13\/k=14\/k=17\/k=18\/k=20:=by omega
    rcases this with rfl|rfl|rfl|rfl|rfl<;>rfl
theorem Pk{m:Nat}{ex bl:PS->Nd×PS}(hs:Stk ex)(ht:Stk bl)(hx:Rt (m+1) isExprK ex)(hb:Rt m isBlockK bl):Rt (m+1) isStmtK (stmtB ex bl):=λp hl h=>by
 unfold stmtB;simp only;split
 ·rename_i q;have hk:p.skip.l.length+1=p.l.length:=oP λe=>by rw[e]at q;simp[kindP]at q
  obtain⟨a0,a1,a2⟩:=hx p.skip (by omega) (cN h);obtain⟨b0,b1,b2⟩:=hb (ex p.skip).2 (by omega) a1;split
  ·rename_i q2;have hk2:=eS q2.2;obtain⟨c0,c1,c2⟩:=hb (bl (ex p.skip).2).2.skip (by omega) (cN b1);refine⟨by simp only;omega,c1,λhe=>?_⟩;have e2:=ht _ he;have e1:=ht (ex p.skip).2 e2;rw[q2.1];exact⟨by simp[rightN,rightL,shapedB,shapedK,kidsB,wordedB,wordedK,loAt,hiAt,boundsL,textB,(a2 e1).1,(a2 e1).2,(b2 e2).1,(b2 e2).2,(c2 he).1,(c2 he).2],rfl⟩
  ·refine⟨by simp only;omega,b1,λhe=>?_⟩;have e1:=ht _ he;rcases q with q|q<;>rw[q]<;>exact⟨by simp[rightN,rightL,shapedB,shapedK,kidsB,wordedB,wordedK,loAt,hiAt,boundsL,textB,(a2 e1).1,(a2 e1).2,(b2 he).1,(b2 he).2],rfl⟩
 ·split
  ·rename_i q;obtain⟨a0,a1,a2⟩:=KE hs hx (uH q) p.skip (by have:=dA (p:=p);omega) (cN h);obtain⟨b0,b1⟩:=bM (s:=[59]) a1;have:=dA (p:=p);exact⟨by simp only;omega,b1,λhe=>a2 (need_e he).2⟩
  ·split
   ·obtain⟨a0,a1,a2⟩:=dB h;obtain⟨b0,b1⟩:=bM (s:=[61]) a1;obtain⟨c0,c1,c2⟩:=hx ((localP p).2.need [61]) (by omega) b1;obtain⟨d0,d1⟩:=bM (s:=[59]) c1;refine⟨by simp only;omega,d1,λhe=>?_⟩;have e2:=(need_e he).2;have e1:=(need_e (hs _ e2)).2;exact⟨by simp[rightN,rightL,shapedB,shapedK,kidsB,wordedB,wordedK,loAt,hiAt,boundsL,textB,a2 e1,(c2 e2).1,(c2 e2).2],rfl⟩
   ·obtain⟨a0,a1,a2⟩:=iW (m+1) p hl h;obtain⟨b0,b1⟩:=bM (s:=[61]) a1;obtain⟨c0,c1,c2⟩:=hx ((placeP p).2.need [61]) (by omega) b1;obtain⟨d0,d1⟩:=bM (s:=[59]) c1;refine⟨by simp only;omega,d1,λhe=>?_⟩;have e2:=(need_e he).2;have e1:=(need_e (hs _ e2)).2;exact⟨by simp[rightN,rightL,shapedB,shapedK,kidsB,wordedB,wordedK,loAt,hiAt,boundsL,textB,(a2 e1).1,(a2 e1).2,(c2 e2).1,(c2 e2).2],rfl⟩
theorem oT:∀f,Rt f isStmtK (stmtP false f)
 |0=>λp h=>by omega
 |f+1=>λp hl h=>Pk (exprO_stk false) (blockB_stk (stmtP_stk false f)) (vU (f+1)) (oS (stmtP_stk false f) (oT f)) p hl h
def Bi(s:aJ):Bool:=match s with|[]=>true|c::_=> !letterB c&& !digitB c&&decide (c≠61)
theorem Bj{p:UInt8->Bool}:∀{t:aJ} (s:aJ),(∀c∈t,p c=true)->runP p (t++s)=t.length+runP p s
 |[],s,_=>by simp
 |c::t,s,h=>by
  rw[List.cons_append,runP,if_pos (h c (List.mem_cons_self ..)),Bj s λd hd=>h d (List.mem_cons_of_mem _ hd),List.length_cons];omega
theorem CV{p:UInt8->Bool}{t:aJ}(h:runP p t=t.length):∀c∈t,p c=true:=λc hc=>by
 obtain⟨i,hi,rfl⟩:=List.mem_iff_getElem.1 hc;exact runP_all hi (by omega)
theorem Gq{p:UInt8->Bool}(hp:∀c,p c=true->letterB c=true\/digitB c=true){s:aJ}(hs:Bi s=true):runP p s=0:=by
 cases s with
 |nil=>rfl
 |cons c r=>
  simp only[Bi,Bool.and_eq_true,Bool.not_eq_true']at hs;rw[runP,if_neg];intro h;rcases hp c h with q|q
  ·rw[q]at hs;simp at hs
  ·rw[q]at hs;simp at hs
theorem CW{t s:aJ}(h:wordN t=t.length)(h0:0<wordN t)(hs:Bi s=true):wordN (t++s)=t.length:=by
 obtain⟨c,r,rfl,h1,h2,h3⟩:=oO h0;have hall:=CV (p:=λc=>letterB c||digitB c) (by rw[<-h2];exact h);have hr:runP (λc=>letterB c||digitB c) (c::r++s)=(c::r).length:=by
  rw[Bj s hall,Gq (λc hc=>by simpa using hc) hs,Nat.add_zero]
 rw[List.cons_append]at hr|-;unfold wordN;simp only[h1,if_true];rw[hr,if_pos (by omega)]
theorem Ml{t s:aJ}(ht:xI t)(hs:Bi s=true):nextN (t++s)=t.length:=by
 obtain⟨h0,h1⟩:=ht;cases t with
 |nil=>exact absurd rfl h0
 |cons c r=>
  have h1':=h1;rw[List.cons_append];unfold nextN at h1|-;simp only at h1|-;by_cases q1:letterB c=true
  ·rw[if_pos q1]at h1|-;exact CW (t:=c::r) h1 (by rw[h1];simp) hs
  ·rw[if_neg q1]at h1|-;by_cases q2:c=36
   ·rw[if_pos q2]at h1|-;by_cases q3:0<wordN r
    ·rw[if_pos q3]at h1;have e:wordN r=r.length:=by simpa using h1
     rw[CW e q3 hs,if_pos (by omega)];simp
    ·rw[if_neg q3]at h1;simp at h1
   ·rw[if_neg q2]at h1|-;by_cases q3:digitB c=true
    ·rw[if_pos q3]at h1|-;by_cases q4:runP digitB (c::r)<=3
     ·rw[if_pos q4]at h1;have e:runP digitB (c::(r++s))=(c::r).length:=by
       rw[<-List.cons_append,Bj s (CV h1),Gq (λc hc=>.inr hc) hs,Nat.add_zero]
      rw[e,if_pos (by omega)]
     ·rw[if_neg q4]at h1;simp at h1
    ·rw[if_neg q3]at h1|-;by_cases q4:List.take 2 (c::r)=[60,61]\/List.take 2 (c::r)=[61,61]
     ·rw[if_pos q4]at h1;have hl:r.length=1:=by simpa using h1.symm
      have e:List.take 2 (c::(r++s))=List.take 2 (c::r):=by
       cases r with
       |nil=>simp at hl
       |cons d u=>simp
      rw[e,if_pos q4];exact h1
     ·rw[if_neg q4]at h1;by_cases q5:c∈signs
      ·rw[if_pos q5]at h1;have hr:r=[]:=by simpa using h1.symm
       subst hr;rw[if_neg,if_pos q5]
       ·rfl
       ·cases s with
        |nil=>simp
        |cons d u=>
         simp only[Bi,Bool.and_eq_true,decide_eq_true_eq]at hs;simp[hs.2]
      ·rw[if_neg q5]at h1;simp at h1
theorem IN{c:UInt8}(h:c=40\/c=41\/c=123\/c=125\/c=59\/c=46\/c=45)(s:aJ):nextN (c::s)=1:=by
 unfold nextN;rcases h with rfl|rfl|rfl|rfl|rfl|rfl|rfl<;>cases s<;>simp[letterB,digitB,signs]
inductive CX:aJ->List aJ->Prop
 |nil:CX [] []
 |blank {c:UInt8} {s:aJ} {ts:List aJ} (hc:c=32\/c=10) (h:CX s ts):CX (c::s) ts
 |tok {t s:aJ} {ts:List aJ} (h0:t≠[]) (h1:nextN (t++s)=t.length) (h:CX s ts):CX (t++s) (t::ts)
theorem CX.sp{s:aJ}{ts:List aJ}(h:CX s ts):CX (32::s) ts:=.blank (.inl rfl) h
theorem mT{t s:aJ}{ts:List aJ}(ht:xI t)(hs:Bi s=true)(h:CX s ts):CX (t++s) (t::ts):=.tok ht.1 (Ml ht hs) h
theorem Bk{c:UInt8}{s:aJ}{ts:List aJ}(hc:c=40\/c=41\/c=123\/c=125\/c=59\/c=46\/c=45)(h:CX s ts):CX (c::s) ([c]::ts):=.tok (t:=[c]) (by simp) (IN hc s) h
def Pl(t:aJ):List aJ:=match cutAt 46 t with
 |some (a,b)=>[a,[46],b]
 |none=>[t]
def Mm(c:Bool)(ks:List aJ):List aJ:=if c then [40]::(ks++[[41]])else ks
def nP:Nd->List aJ
 | .mk k t n ks=>if k=32 then [itoaS n]else if k=33 then [36::t]else if k=36 then [sKind]else if k=34 then [t]else if k=35 then Pl t else match ks with
   |[a,b]=>Mm (decide (lvlN a.kind<(if levelAt k=1 then 2 else levelAt k))) (nP a)++signAt k::Mm (decide (lvlN b.kind<levelAt k+1)) (nP b)
   |_=>[]
set_option maxRecDepth 100000 in
theorem RP:∀n:Nat,n<1000->decS n≠[]/\nextN (decS n)=(decS n).length:=by decide
theorem Pm{n:Int}(h0:0<=n)(h1:n<=999):xI (itoaS n):=by
 unfold itoaS;rw[if_neg (by omega)];exact RP _ (by omega)
theorem pT{t:aJ}(h:wholeB t true=true):xI t/\isNameB t=true:=by
 unfold wholeB at h;simp only[Bool.and_eq_true,decide_eq_true_eq,Bool.not_true,Bool.false_or]at h;obtain⟨⟨h1,h2⟩,h3⟩:=h;refine⟨⟨h1,?_⟩,h3⟩;cases t with
 |nil=>exact absurd rfl h1
 |cons c r=>
  simp only[isNameB,Bool.and_eq_true]at h3;unfold nextN;simp only[h3.1,if_true];exact h2
theorem Gr{t:aJ}(h:wholeB t false=true):xI (36::t):=by
 unfold wholeB at h;simp only[Bool.and_eq_true,decide_eq_true_eq,Bool.not_false,Bool.true_or,and_true]at h;obtain⟨h1,h2⟩:=h;refine⟨by simp,?_⟩;have:0<wordN t:=by rw[h2];exact List.length_pos_iff.2 h1
 unfold nextN;simp only[show letterB 36=false by decide,Bool.false_eq_true,if_false,if_true,this,h2,List.length_cons];rw[h2]at this;simp[this]
theorem Bl{c:UInt8}:∀{t a b:aJ},cutAt c t=some (a,b)->t=a++c::b
 |[],_,_,h=>by simp[cutAt]at h
 |d::r,a,b,h=>by
  unfold cutAt at h;split at h
  ·rename_i e;simp only[Option.some.injEq,Prod.mk.injEq]at h;rw[<-h.1,<-h.2,e];rfl
  ·cases q:cutAt c r with
   |none=>rw[q]at h;cases h
   |some p=>
    obtain⟨a',b'⟩:=p;rw[q]at h;simp only[Option.map_some,Option.some.injEq,Prod.mk.injEq]at h;rw[<-h.1,<-h.2,Bl q];rfl
theorem Gs{t:aJ}(h:fieldB t=true):∃a b,cutAt 46 t=some (a,b)/\t=a++46::b/\wholeB a true=true/\wholeB b true=true:=by
 unfold fieldB at h;split at h
 ·rename_i a b e;simp only[Bool.and_eq_true]at h;exact⟨a,b,e,Bl e,h.1,h.2⟩
 ·cases h
theorem mU{x:Nd}(hr:rightN x=true)(he:isExprK x.kind=true):
 (x.kind=32/\0<=x.n/\x.n<=999/\x=.mk 32 [] x.n [])\/(x=.mk 33 x.text 0 []/\wholeB x.text false=true)\/x=.mk 36 [] 0 []\/(x=.mk 34 x.text 0 []/\wholeB x.text true=true)\/(x=.mk 35 x.text 0 []/\fieldB x.text=true)\/
   ∃k a b,26<=k/\k<=31/\x=.mk k [] 0 [a,b]/\rightN a=true/\isExprK a.kind=true/\rightN b=true/\isExprK b.kind=true:=by
 obtain⟨k,t,n,ks⟩:=x;have he:26<=k/\k<=36:=isExprK_iff.1 he;obtain⟨_,_,hs,w1,w2,w3,hk⟩:=right_mk.1 hr;have none:shapedK k ks=kidsB ks []->ks=[]:=λe=>by
  rw[e]at hs;cases ks with
  |nil=>rfl
  |cons _ _=>cases hs
 by_cases hb:k<=31
 ·right;right;right;right;right;have hks:kidsB ks [isExprK,isExprK]=true:=by
   unfold shapedK at hs;rw[if_neg (by omega),if_neg (by omega),if_neg (by omega),if_neg (by omega),if_neg (by omega),if_neg (by omega),if_neg (by omega),if_neg (by omega),if_pos (by omega)]at hs;exact hs
  have hz:loAt k=0/\hiAt k=0:=by
   have:k=26\/k=27\/k=28\/k=29\/k=30\/k=31:=(by omega);rcases this with rfl|rfl|rfl|rfl|rfl|rfl<;>exact⟨rfl,rfl⟩
  have ht:t=[]:=by
   unfold textB at w3;rw[if_neg (by omega),if_neg (by omega),if_pos (by omega)]at w3;simpa using w3
  match ks,hks,hk with
  |[a,b],hks,hk=>
   simp only[kidsB,Bool.and_true,Bool.and_eq_true]at hks;exact⟨k,a,b,by omega,by omega,by rw[ht,show n=0 by omega],hk a (by simp),hks.1,hk b (by simp),hks.2⟩
  |[],hks,_=>cases hks
  |[_],hks,_=>simp[kidsB]at hks
  |_::_::_::_,hks,_=>simp[kidsB]at hks
 ·have:k=32\/k=33\/k=34\/k=35\/k=36:=by omega
  rcases this with rfl|rfl|rfl|rfl|rfl
  ·left;have e:=none rfl;have hz:loAt 32=0/\hiAt 32=999:=⟨rfl,rfl⟩;have ht:t=[]:=by simpa [textB]using w3
   subst e;subst ht;exact⟨rfl,by simp only[sT];omega,by simp only[sT];omega,rfl⟩
  ·right;left;have e:=none rfl;have hz:loAt 33=0/\hiAt 33=0:=⟨rfl,rfl⟩;subst e;exact⟨by rw[show n=0 by omega];rfl,by simpa [textB]using w3⟩
  ·right;right;right;left;have e:=none rfl;have hz:loAt 34=0/\hiAt 34=0:=⟨rfl,rfl⟩;subst e;exact⟨by rw[show n=0 by omega];rfl,by simpa [textB]using w3⟩
  ·right;right;right;right;left;have e:=none rfl;have hz:loAt 35=0/\hiAt 35=0:=⟨rfl,rfl⟩;subst e;exact⟨by rw[show n=0 by omega];rfl,by simpa [textB]using w3⟩
  ·right;right;left;have e:=none rfl;have hz:loAt 36=0/\hiAt 36=0:=⟨rfl,rfl⟩;have ht:t=[]:=by simpa [textB]using w3
   subst e;subst ht;rw[show n=0 by omega]
theorem Pn{k:Int}(h0:26<=k)(h1:k<=31):xI (signAt k):=by
 have:k=26\/k=27\/k=28\/k=29\/k=30\/k=31:=by omega
 rcases this with rfl|rfl|rfl|rfl|rfl|rfl<;>exact⟨by decide,by decide⟩
theorem xK{k:Int}{a b:Nd}(h0:26<=k)(h1:k<=31):exprT (.mk k [] 0 [a,b])=paren (decide (lvlN a.kind<(if levelAt k=1 then 2 else levelAt k))) (exprT a)++32::(signAt k++32::paren (decide (lvlN b.kind<levelAt k+1)) (exprT b)):=by
 rw[exprT,if_neg (by omega),if_neg (by omega),if_neg (by omega),if_neg (by omega)]
theorem Mn{k:Int}{a b:Nd}(h0:26<=k)(h1:k<=31):nP (.mk k [] 0 [a,b])=Mm (decide (lvlN a.kind<(if levelAt k=1 then 2 else levelAt k))) (nP a)++signAt k::Mm (decide (lvlN b.kind<levelAt k+1)) (nP b):=by
 rw[nP,if_neg (by omega),if_neg (by omega),if_neg (by omega),if_neg (by omega),if_neg (by omega)]
theorem CY{t:aJ}{ks:List aJ}(h:∀s ts,CX s ts->Bi s=true->CX (t++s) (ks++ts))(c:Bool){s:aJ}{ts:List aJ}(hl:CX s ts)(hs:Bi s=true):CX (paren c t++s) (Mm c ks++ts):=by
 cases c
 ·exact h s ts hl hs
 ·have h1:=Bk (c:=41) (by decide) hl;have h2:=h _ _ h1 rfl;have h3:=Bk (c:=40) (by decide) h2;simpa [paren,Mm]using h3
theorem Po(x:Nd):rightN x=true->isExprK x.kind=true->∀s ts,CX s ts->Bi s=true->CX (exprT x++s) (nP x++ts):=by
 refine mS (p:=λx=>rightN x=true->isExprK x.kind=true->∀s ts,CX s ts->Bi s=true->CX (exprT x++s) (nP x++ts)) (λk t n ks ih=>?_) x;intro hr he s ts hl hs;rcases mU hr he with⟨h1,h2,h3,h4⟩|⟨h1,h2⟩|h1|⟨h1,h2⟩|⟨h1,h2⟩|⟨k',a,b,h1,h2,h3,h4,h5,h6,h7⟩
 ·rw[h4];simp only[exprT,nP,if_true];exact mT (Pm h2 h3) hs hl
 ·rw[h1];simp only[exprT,nP,pR]at h2|-;simp only[show¬(33:Int)=32 by decide,if_false,if_true];exact mT (Gr h2) hs hl
 ·rw[h1];simp only[exprT,nP,show¬(36:Int)=32 by decide,show¬(36:Int)=33 by decide,if_false,if_true];exact mT (t:=sKind) ⟨by decide,by decide⟩ hs hl
 ·rw[h1];simp only[exprT,nP,pR]at h2|-;simp only[show¬(34:Int)=32 by decide,show¬(34:Int)=33 by decide,show¬(34:Int)=36 by decide,if_false,if_true,true_or];exact mT (pT h2).1 hs hl
 ·rw[h1];simp only[exprT,nP,pR]at h2|-;simp only[show¬(35:Int)=32 by decide,show¬(35:Int)=33 by decide,show¬(35:Int)=36 by decide,show¬(35:Int)=34 by decide,if_false,if_true,or_true];obtain⟨a,b,e1,e2,e3,e4⟩:=Gs h2;unfold Pl;rw[e1];simp only;rw[e2];have q1:=mT (pT e4).1 hs hl;have q2:=Bk (c:=46) (by decide) q1;have q3:=mT (pT e3).1 rfl q2;simpa using q3
 ·injection h3 with i1 i2 i3 i4
  subst i1;subst i2;subst i3;subst i4;rw[xK h1 h2,Mn h1 h2];have q1:=CY (ih b (by simp) h6 h7) (decide (lvlN b.kind<levelAt k+1)) hl hs;have q2:=mT (Pn h1 h2) rfl q1.sp;have q3:=CY (ih a (by simp) h4 h5) (decide (lvlN a.kind<(if levelAt k=1 then 2 else levelAt k))) q2.sp rfl;simpa using q3
def IP(p:PS)(ts:List aJ):Prop:=p.e=0/\p.l.map Tk.text=ts
theorem IP.peek{p:PS}{t:aJ}{ts:List aJ}(h:IP p (t::ts)):p.peek=t:=by
 obtain⟨h1,h2⟩:=h;unfold PS.peek;rw[if_neg (by simp[h1])];cases e:p.l with
 |nil=>rw[e]at h2;simp at h2
 |cons x r=>rw[e]at h2;simp at h2;exact h2.1
theorem IP.peek0{p:PS}(h:IP p []):p.peek=[]:=by
 obtain⟨h1,h2⟩:=h;unfold PS.peek;rw[if_neg (by simp[h1])];cases e:p.l with
 |nil=>rfl
 |cons x r=>rw[e]at h2;simp at h2
theorem IP.skip{p:PS}{t:aJ}{ts:List aJ}(h:IP p (t::ts)):IP p.skip ts:=by
 obtain⟨h1,h2⟩:=h;refine⟨h1,?_⟩;unfold PS.skip;cases e:p.l with
 |nil=>rw[e]at h2;simp at h2
 |cons x r=>rw[e]at h2;simp at h2;exact h2.2
theorem IP.is{p:PS}{t:aJ}{ts:List aJ}(h:IP p (t::ts))(s:aJ)(hs:s≠[]):p.is s=decide (t=s):=by
 unfold PS.is;rw[h.peek];simp[hs]
theorem IP.need{p:PS}{t:aJ}{ts:List aJ}(h:IP p (t::ts))(ht:t≠[]):p.need t=p.skip:=by
 unfold PS.need;rw[h.is t ht,if_pos (by simp)]
theorem IP.len{p:PS}{ts:List aJ}(h:IP p ts):p.l.length=ts.length:=by rw[<-h.2];simp
def IQ(f:PS->Nd×PS)(ks:List aJ)(x:Nd)(rest:List aJ):Prop:=∀p,IP p (ks++rest)->∃q,f p=(x,q)/\IP q rest
def TD(lv:Int)(rest:List aJ):Prop:=opI lv (rest.head?.getD [])<0
theorem IP.opP{p:PS}{ts:List aJ}{lv:Int}(h:IP p ts)(hn:TD lv ts):(opP lv p).1<0/\(Eng.opP lv p).2=p:=by
 have hp:p.peek=ts.head?.getD []:=by
  cases ts with
  |nil=>rw[h.peek0];rfl
  |cons t r=>rw[h.peek];rfl
 unfold Eng.opP;rw[hp];exact⟨hn,by rw[if_neg];unfold TD at hn;omega⟩
theorem IP.opY{p:PS}{t:aJ}{ts:List aJ}{lv:Int}(h:IP p (t::ts))(hn:0<=opI lv t):Eng.opP lv p=(opI lv t,p.skip):=by
 unfold Eng.opP;rw[h.peek,if_pos hn]
def UR(lv:Int)(X:PS->Nd×PS)(ks:List aJ)(x:Nd)(rest:List aJ):Prop:=
 ∀p,IP p (ks++rest)->∃f q,rest.length<f/\chainP lv X p=chainF lv X f x q/\IP q rest
theorem UR.done{lv:Int}{X:PS->Nd×PS}{ks:List aJ}{x:Nd}{rest:List aJ}(h:UR lv X ks x rest)(hn:TD lv rest):IQ (chainP lv X) ks x rest:=λp hp=>by
 obtain⟨f,q,h1,h2,h3⟩:=h p hp;refine⟨q,?_,h3⟩;rw[h2];cases f with
 |zero=>omega
 |succ f=>
  unfold chainF;obtain⟨o1,o2⟩:=h3.opP hn;rw[if_neg (by simp[h3.1]),if_pos o1,o2]
theorem UR.one{lv:Int}{X:PS->Nd×PS}{ks:List aJ}{x:Nd}{rest:List aJ}(h:IQ X ks x rest):UR lv X ks x rest:=λp hp=>by
 obtain⟨q,h1,h2⟩:=h p hp;refine⟨q.l.length+1,q,by rw[h2.len];omega,?_,h2⟩;unfold chainP;rw[h1]
theorem UR.step{lv:Int}{X:PS->Nd×PS}{ka kb:List aJ}{a b:Nd}{s:aJ}{rest:List aJ}(ha:UR lv X ka a (s::(kb++rest)))(hs:0<=opI lv s)(hb:IQ X kb b rest):
 UR lv X (ka++s::kb) (.mk (26+opI lv s) [] 0 [a,b]) rest:=λp hp=>by
 obtain⟨f,q,h1,h2,h3⟩:=ha p (by simpa using hp);cases f with
 |zero=>omega
 |succ f=>
  obtain⟨q2,k1,k2⟩:=hb q.skip h3.skip;refine⟨f,q2,by simp only[List.length_cons,List.length_append]at h1;omega,?_,k2⟩;rw[h2]
  conv=>lhs;unfold chainF
  rw[if_neg (by simp[h3.1]),h3.opY hs,if_neg (by simp only;omega)];simp only;rw[k1]
theorem Mo{k:Int}(h0:26<=k)(h1:k<=31):opI (levelAt k) (signAt k)=k-26/\(levelAt k=1\/levelAt k=2\/levelAt k=3)/\(∀lv:Int,(lv=1\/lv=2\/lv=3)->lv≠levelAt k->opI lv (signAt k)<0)/\signAt k≠[46]/\lvlN k=levelAt k:=by
 have:k=26\/k=27\/k=28\/k=29\/k=30\/k=31:=by omega
 rcases this with rfl|rfl|rfl|rfl|rfl|rfl<;>exact⟨by decide,by decide,λlv h hn=>by rcases h with rfl|rfl|rfl<;>first|exact absurd rfl hn|decide,by decide,by decide⟩
theorem IP.name{p:PS}{t:aJ}{ts:List aJ}(h:IP p (t::ts))(ht:wholeB t true=true):nameP p=(t,p.skip):=by
 unfold nameP;rw[h.peek,(pT ht).2];rfl
theorem IP.local{p:PS}{t:aJ}{ts:List aJ}(h:IP p ((36::t)::ts)):localP p=(t,p.skip):=by
 unfold localP;rw[h.peek];rfl
theorem CZ{k:Int}(t:aJ)(n:Int)(ks:List Nd)(h:13<=k):stmtT (.mk k t n ks)=wordAt k++midT k t++withN n++withE ks++[59]:=by
 unfold stmtT;rw[if_neg (by omega),if_neg (by omega),if_neg (by omega)]
def mV(x:Nd):Prop:=∃ks,x=.mk 8 [] 0 ks/\∀y∈ks,rightN y=true/\isStmtK y.kind=true
theorem fE{x:Nd}(hr:rightN x=true)(hk:isBlockK x.kind=true):mV x:=by
 obtain⟨k,t,n,ks⟩:=x;have hk:k=8:=of_decide_eq_true (show decide (k=8)=true from hk);subst hk;obtain⟨_,_,hs,w1,w2,w3,hk⟩:=right_mk.1 hr;have hz:loAt 8=0/\hiAt 8=0:=⟨rfl,rfl⟩;have ht:t=[]:=by simpa [textB]using w3
 refine⟨ks,by rw[ht,show n=0 by omega],λy hy=>⟨hk y hy,?_⟩⟩;exact List.all_eq_true.1 (show(ks.all λy=>isStmtK y.kind)=true from hs) y hy
def TE(k:Int)(t:aJ)(n:Int)(ks:List Nd):Prop:=
 ((k=13\/k=14\/k=17\/k=18)/\wholeB t true=true/\n=0/\ks=[])\/
 ((k=15\/k=22)/\wholeB t true=true/\n=0/\∃e,ks=[e]/\rightN e=true/\isExprK e.kind=true)\/
 ((k=16\/k=23)/\wholeB t true=true/\n=0/\∃u,ks=[.mk 33 u 0 []]/\wholeB u false=true)\/
 (k=19/\wholeB t false=true/\2<=n/\n<=6/\ks=[])\/(k=20/\wholeB t false=true/\n=0/\ks=[])\/
 ((k=21/\n<=9\/k=25/\n<=99)/\t=[]/\1<=n/\ks=[])\/(k=24/\t=[]/\n=0/\∃e,ks=[e]/\rightN e=true/\isExprK e.kind=true)
theorem kY{f:Int->Bool}:∀{ks:List Nd},kidsB ks [f]=true->∃a,ks=[a]/\f a.kind=true
 |[a],h=>⟨a,rfl,by simpa [kidsB]using h⟩
 |[],h=>by cases h
 |_::_::_,h=>by simp[kidsB]at h
theorem Bn{f g:Int->Bool}:∀{ks:List Nd},kidsB ks [f,g]=true->∃a b,ks=[a,b]/\f a.kind=true/\g b.kind=true
 |[a,b],h=>⟨a,b,rfl,by simpa [kidsB]using h⟩
 |[],h=>by cases h
 |[_],h=>by simp[kidsB]at h
 |_::_::_::_,h=>by simp[kidsB]at h
theorem IR{f g e:Int->Bool}:∀{ks:List Nd},kidsB ks [f,g,e]=true->∃a b c,ks=[a,b,c]/\f a.kind=true/\g b.kind=true/\e c.kind=true
 |[a,b,c],h=>⟨a,b,c,rfl,by simpa [kidsB]using h⟩
 |[],h=>by cases h
 |[_],h=>by simp[kidsB]at h
 |[_,_],h=>by simp[kidsB]at h
 |_::_::_::_::_,h=>by simp[kidsB]at h
theorem eA:∀{ks:List Nd},kidsB ks []=true->ks=[]
 |[],_=>rfl
 |_::_,h=>by cases h
theorem Bo{x:Nd}(hr:rightN x=true)(hk:isStmtK x.kind=true):
 (∃t e,x=.mk 9 t 0 [e]/\wholeB t false=true/\rightN e=true/\isExprK e.kind=true)\/
 (∃p e,x=.mk 10 [] 0 [p,e]/\rightN p=true/\isPlaceK p.kind=true/\rightN e=true/\isExprK e.kind=true)\/
 (∃k e b,(k=11\/k=12)/\x=.mk k [] 0 [e,b]/\rightN e=true/\isExprK e.kind=true/\rightN b=true/\isBlockK b.kind=true)\/
 (∃e b c,x=.mk 11 [] 0 [e,b,c]/\rightN e=true/\isExprK e.kind=true/\rightN b=true/\isBlockK b.kind=true/\rightN c=true/\isBlockK c.kind=true)\/
 (∃k t n ks,13<=k/\k<=25/\x=.mk k t n ks/\TE k t n ks):=by
 obtain⟨k,t,n,ks⟩:=x;have hk:9<=k/\k<=25:=isStmtK_iff.1 hk;obtain⟨_,_,hs,w1,w2,w3,hk'⟩:=right_mk.1 hr;have hcase:k=9\/k=10\/k=11\/k=12\/k=13\/k=14\/k=15\/k=16\/k=17\/k=18\/k=19\/k=20\/k=21\/k=22\/k=23\/k=24\/k=25:=by omega
 rcases hcase with rfl|rfl|rfl|rfl|rfl|rfl|rfl|rfl|rfl|rfl|rfl|rfl|rfl|rfl|rfl|rfl|rfl
 ·obtain⟨e,rfl,he⟩:=kY (f:=isExprK) hs;have hz:loAt 9=0/\hiAt 9=0:=⟨rfl,rfl⟩;exact .inl ⟨t,e,by rw[show n=0 by omega],w3,hk' e (by simp),he⟩
 ·obtain⟨p,e,rfl,hp,he⟩:=Bn (f:=isPlaceK) (g:=isExprK) hs;have hz:loAt 10=0/\hiAt 10=0:=⟨rfl,rfl⟩;have ht:t=[]:=by simpa [textB]using w3
  exact .inr (.inl ⟨p,e,by rw[ht,show n=0 by omega],hk' p (by simp),hp,hk' e (by simp),he⟩)
 ·have hz:loAt 11=0/\hiAt 11=0:=⟨rfl,rfl⟩;have ht:t=[]:=by simpa [textB]using w3
  have hs:(kidsB ks [isExprK,isBlockK]||kidsB ks [isExprK,isBlockK,isBlockK])=true:=hs;rw[Bool.or_eq_true]at hs;rcases hs with hs|hs
  ·obtain⟨e,b,rfl,he,hb⟩:=Bn hs;exact .inr (.inr (.inl ⟨11,e,b,.inl rfl,by rw[ht,show n=0 by omega],hk' e (by simp),he,hk' b (by simp),hb⟩))
  ·obtain⟨e,b,c,rfl,he,hb,hc⟩:=IR hs;exact .inr (.inr (.inr (.inl ⟨e,b,c,by rw[ht,show n=0 by omega],hk' e (by simp),he,hk' b (by simp),hb,hk' c (by simp),hc⟩)))
 ·have hz:loAt 12=0/\hiAt 12=0:=⟨rfl,rfl⟩;have ht:t=[]:=by simpa [textB]using w3
  obtain⟨e,b,rfl,he,hb⟩:=Bn (f:=isExprK) (g:=isBlockK) hs;exact .inr (.inr (.inl ⟨12,e,b,.inr rfl,by rw[ht,show n=0 by omega],hk' e (by simp),he,hk' b (by simp),hb⟩))
 all_goals refine .inr (.inr (.inr (.inr ⟨_,t,n,ks,by decide,by decide,rfl,?_⟩)))
 ·have hz:loAt 13=0/\hiAt 13=0:=⟨rfl,rfl⟩;exact .inl ⟨by omega,w3,by omega,eA hs⟩
 ·have hz:loAt 14=0/\hiAt 14=0:=⟨rfl,rfl⟩;exact .inl ⟨by omega,w3,by omega,eA hs⟩
 ·have hz:loAt 15=0/\hiAt 15=0:=⟨rfl,rfl⟩;obtain⟨e,rfl,he⟩:=kY (f:=isExprK) hs;exact .inr (.inl ⟨by omega,w3,by omega,e,rfl,hk' e (by simp),he⟩)
 ·have hz:loAt 16=0/\hiAt 16=0:=⟨rfl,rfl⟩;obtain⟨e,rfl,he⟩:=kY (f:=isLocalK) hs;refine .inr (.inr (.inl ⟨by omega,w3,by omega,?_⟩));have he':e.kind=33:=by simpa [isLocalK]using he
  rcases mU (hk' e (by simp)) (by rw[he'];rfl)with⟨g1,_⟩|⟨g1,g2⟩|g1|⟨g1,_⟩|⟨g1,_⟩|⟨k',a,b,g1,g2,g3,_⟩
  ·omega
  ·exact⟨e.text,by rw[<-g1],g2⟩
  ·rw[g1]at he';cases he'
  ·rw[g1]at he';cases he'
  ·rw[g1]at he';cases he'
  ·rw[g3]at he';simp only[dQ]at he';omega
 ·have hz:loAt 17=0/\hiAt 17=0:=⟨rfl,rfl⟩;exact .inl ⟨by omega,w3,by omega,eA hs⟩
 ·have hz:loAt 18=0/\hiAt 18=0:=⟨rfl,rfl⟩;exact .inl ⟨by omega,w3,by omega,eA hs⟩
 ·have hz:loAt 19=2/\hiAt 19=6:=⟨rfl,rfl⟩;exact .inr (.inr (.inr (.inl ⟨rfl,w3,by omega,by omega,eA hs⟩)))
 ·have hz:loAt 20=0/\hiAt 20=0:=⟨rfl,rfl⟩;exact .inr (.inr (.inr (.inr (.inl ⟨rfl,w3,by omega,eA hs⟩))))
 ·have hz:loAt 21=1/\hiAt 21=9:=⟨rfl,rfl⟩;exact .inr (.inr (.inr (.inr (.inr (.inl ⟨.inl ⟨rfl,by omega⟩,by simpa [textB]using w3,by omega,eA hs⟩)))))
 ·have hz:loAt 22=0/\hiAt 22=0:=⟨rfl,rfl⟩;obtain⟨e,rfl,he⟩:=kY (f:=isExprK) hs;exact .inr (.inl ⟨by omega,w3,by omega,e,rfl,hk' e (by simp),he⟩)
 ·have hz:loAt 23=0/\hiAt 23=0:=⟨rfl,rfl⟩;obtain⟨e,rfl,he⟩:=kY (f:=isLocalK) hs;refine .inr (.inr (.inl ⟨by omega,w3,by omega,?_⟩));have he':e.kind=33:=by simpa [isLocalK]using he
  rcases mU (hk' e (by simp)) (by rw[he'];rfl)with⟨g1,_⟩|⟨g1,g2⟩|g1|⟨g1,_⟩|⟨g1,_⟩|⟨k',a,b,g1,g2,g3,_⟩
  ·omega
  ·exact⟨e.text,by rw[<-g1],g2⟩
  ·rw[g1]at he';cases he'
  ·rw[g1]at he';cases he'
  ·rw[g1]at he';cases he'
  ·rw[g3]at he';simp only[dQ]at he';omega
 ·have hz:loAt 24=0/\hiAt 24=0:=⟨rfl,rfl⟩;obtain⟨e,rfl,he⟩:=kY (f:=isExprK) hs;exact .inr (.inr (.inr (.inr (.inr (.inr ⟨rfl,by simpa [textB]using w3,by omega,e,rfl,hk' e (by simp),he⟩)))))
 ·have hz:loAt 25=1/\hiAt 25=99:=⟨rfl,rfl⟩;exact .inr (.inr (.inr (.inr (.inr (.inl ⟨.inr ⟨rfl,by omega⟩,by simpa [textB]using w3,by omega,eA hs⟩)))))
def Ux(s:aJ)(ts:List aJ):Prop:=CX s ts/\Bi s=true
theorem Ux.kids{s:aJ}{ts:List aJ}(h:Ux s ts):∀{ks:List Nd},(∀e∈ks,rightN e=true/\isExprK e.kind=true)->Ux (withE ks++s) (ks.flatMap nP++ts)
 |[],_=>h
 |e::r,he=>by
  have ih:=Ux.kids h (ks:=r) λy hy=>he y (List.mem_cons_of_mem _ hy);obtain⟨h1,h2⟩:=he e (List.mem_cons_self ..);have:=(Po e h1 h2 _ _ ih.1 ih.2).sp;exact⟨by simpa [withE,List.flatMap_cons]using this,rfl⟩
theorem Da{k:Int}{t:aJ}{n:Int}{ks:List Nd}(h:TE k t n ks):(if k=19\/k=20 then wholeB t false=true else k=21\/k=25\/k=24\/wholeB t true=true)/\0<=n/\n<=999/\∀e∈ks,rightN e=true/\isExprK e.kind=true:=by
 have loc:∀{u:aJ},wholeB u false=true->rightN (.mk 33 u 0 [])=true/\isExprK (Nd.mk 33 u 0 []).kind=true:=λhu=>⟨right_mk.2 ⟨by decide,by decide,rfl,by decide,by decide,hu,λ_ h=>by cases h⟩,rfl⟩;rcases h with⟨h1,h2,h3,h4⟩|⟨h1,h2,h3,e,h4,h5,h6⟩|⟨h1,h2,h3,u,h4,h5⟩|⟨h1,h2,h3,h4,h5⟩|⟨h1,h2,h3,h4⟩|⟨h1,h2,h3,h4⟩|⟨h1,h2,h3,e,h4,h5,h6⟩
 ·refine⟨?_,by omega,by omega,λe he=>by rw[h4]at he;cases he⟩;rw[if_neg (by omega)];exact .inr (.inr (.inr h2))
 ·refine⟨?_,by omega,by omega,λy hy=>by rw[h4,List.mem_singleton]at hy;rw[hy];exact⟨h5,h6⟩⟩;rw[if_neg (by omega)];exact .inr (.inr (.inr h2))
 ·refine⟨?_,by omega,by omega,λy hy=>by rw[h4,List.mem_singleton]at hy;rw[hy];exact loc h5⟩;rw[if_neg (by omega)];exact .inr (.inr (.inr h2))
 ·refine⟨?_,by omega,by omega,λe he=>by rw[h5]at he;cases he⟩;rw[if_pos (by omega)];exact h2
 ·refine⟨?_,by omega,by omega,λe he=>by rw[h4]at he;cases he⟩;rw[if_pos (by omega)];exact h2
 ·refine⟨?_,by omega,by omega,λe he=>by rw[h4]at he;cases he⟩;rw[if_neg (by omega)];omega
 ·refine⟨?_,by omega,by omega,λy hy=>by rw[h4,List.mem_singleton]at hy;rw[hy];exact⟨h5,h6⟩⟩;rw[if_neg (by omega)];omega
def Pp(x:Nd):Prop:=∃t n,x=.mk 7 t n []/\wholeB t true=true/\ -999<=n/\n<=999
theorem IS{x:Nd}(hr:rightN x=true)(hk:isItemK x.kind=true):Pp x:=by
 obtain⟨k,t,n,ks⟩:=x;have hk:k=7:=of_decide_eq_true (show decide (k=7)=true from hk);subst hk;obtain⟨_,_,hs,w1,w2,w3,_⟩:=right_mk.1 hr;have hz:loAt 7= -999/\hiAt 7=999:=⟨rfl,rfl⟩;exact⟨t,n,by rw[eA hs],w3,by omega,by omega⟩
def TF(x:Nd):Prop:=wholeB x.text true=true/\(((x.kind=5\/x.kind=6)/\∃b,x=.mk x.kind x.text 0 [b]/\mV b)\/(x.kind=1/\x=.mk 1 x.text 0 x.kids/\∀y∈x.kids,Pp y)\/
 (x.kind=0/\x=.mk 0 x.text x.n []/\ -999<=x.n/\x.n<=999)\/(x.kind=2/\x=.mk 2 x.text x.n []/\0<=x.n/\x.n<=3)\/((x.kind=3\/x.kind=4)/\x=.mk x.kind x.text 0 []))
theorem Db{x:Nd}(hr:rightN x=true)(h0:0<=x.kind)(h1:x.kind<=6):TF x:=by
 obtain⟨k,t,n,ks⟩:=x;have h0:0<=k:=h0;have h1:k<=6:=h1;obtain⟨_,_,hs,w1,w2,w3,hk⟩:=right_mk.1 hr;have hcase:k=0\/k=1\/k=2\/k=3\/k=4\/k=5\/k=6:=by omega
 refine⟨by rcases hcase with rfl|rfl|rfl|rfl|rfl|rfl|rfl<;>exact w3,?_⟩;rcases hcase with rfl|rfl|rfl|rfl|rfl|rfl|rfl
 ·have hz:loAt 0= -999/\hiAt 0=999:=⟨rfl,rfl⟩;exact .inr (.inr (.inl ⟨rfl,by rw[eA hs];rfl,by simp only[sT];omega,by simp only[sT];omega⟩))
 ·have hz:loAt 1=0/\hiAt 1=0:=⟨rfl,rfl⟩;exact .inr (.inl ⟨rfl,by rw[show n=0 by omega];rfl,λy hy=>IS (hk y hy) (List.all_eq_true.1 (show(ks.all λy=>isItemK y.kind)=true from hs) y hy)⟩)
 ·have hz:loAt 2=0/\hiAt 2=3:=⟨rfl,rfl⟩;exact .inr (.inr (.inr (.inl ⟨rfl,by rw[eA hs];rfl,by simp only[sT];omega,by simp only[sT];omega⟩)))
 ·have hz:loAt 3=0/\hiAt 3=0:=⟨rfl,rfl⟩;exact .inr (.inr (.inr (.inr ⟨.inl rfl,by rw[eA hs,show n=0 by omega];rfl⟩)))
 ·have hz:loAt 4=0/\hiAt 4=0:=⟨rfl,rfl⟩;exact .inr (.inr (.inr (.inr ⟨.inr rfl,by rw[eA hs,show n=0 by omega];rfl⟩)))
 ·have hz:loAt 5=0/\hiAt 5=0:=⟨rfl,rfl⟩;obtain⟨b,rfl,hb⟩:=kY (f:=isBlockK) hs;exact .inl ⟨.inl rfl,b,by rw[show n=0 by omega];rfl,fE (hk b (by simp)) hb⟩
 ·have hz:loAt 6=0/\hiAt 6=0:=⟨rfl,rfl⟩;obtain⟨b,rfl,hb⟩:=kY (f:=isBlockK) hs;exact .inl ⟨.inr rfl,b,by rw[show n=0 by omega];rfl,fE (hk b (by simp)) hb⟩
def Vm:PS->Nd×PS:=λq=>exprP false (q.l.length+1) q
theorem Mp{k:Int}(h:11<=k/\k<=25):kindP (wordAt k)=k:=by
 have:k=11\/k=12\/k=13\/k=14\/k=15\/k=16\/k=17\/k=18\/k=19\/k=20\/k=21\/k=22\/k=23\/k=24\/k=25:=by omega
 rcases this with rfl|rfl|rfl|rfl|rfl|rfl|rfl|rfl|rfl|rfl|rfl|rfl|rfl|rfl|rfl<;>decide
end Go.Eng
namespace Go.Eng
section
variable{P:Program} {T:TypeId->dU} {N:Nat} {w0:cJ} {X:Nat->Prop} {Q:LX->dD->cT->Prop} {env:dD} {H:cT}
theorem IT(hT:eF P T)(hW:yS T){id:Nat}{l:List Oper}(h:(fS P T N l (λ_=>none) env H).ok/\Q .normal (fS P T N l (λ_=>none) env H).env (fS P T N l (λ_=>none) env H).H):
 eO P N w0 X (.region id l.toArray false) Q env H:=sN hT hW (λ_=>none) (λ_=>⟨rfl,λ_ h=>h⟩) h
theorem eO.ro(hT:eF P T)(hW:yS T){id:Nat}{l:List Oper}(orc:Nat->Option iR)(h:(fS P T N l orc env H).ok/\Q .normal (fS P T N l orc env H).env (fS P T N l orc env H).H)
 (hdet:∀d,tX (orc d):=by intro d;first|exact⟨rfl,λ_ h=>h⟩|(split<;>exact⟨rfl,λ_ h=>h⟩)):eO P N w0 X (.region id l.toArray false) Q env H:=sN hT hW orc hdet h
theorem TG(hT:eF P T)(hW:yS T){id:Nat}{l:List Oper}{y:Code}(h:(fS P T N l (λ_=>none) env H).ok/\FL (eO P N w0 X y Q) Q .normal (fS P T N l (λ_=>none) env H).env (fS P T N l (λ_=>none) env H).H):
 eO P N w0 X (.seq (.region id l.toArray false) y) Q env H:=eO.seq (IT hT hW h)
theorem aX(hT:eF P T)(hW:yS T){id:Nat}{l:List Oper}{y:Code}(orc:Nat->Option iR)(h:(fS P T N l orc env H).ok/\FL (eO P N w0 X y Q) Q .normal (fS P T N l orc env H).env (fS P T N l orc env H).H)
 (hdet:∀d,tX (orc d):=by intro d;first|exact⟨rfl,λ_ h=>h⟩|(split<;>exact⟨rfl,λ_ h=>h⟩)):eO P N w0 X (.seq (.region id l.toArray false) y) Q env H:=eO.seq (eO.ro hT hW orc h hdet)
theorem aA{id:Nat}{l:List Oper}{y:Code}(h:(fS Go.Proofs.Tryz.prog Eng.T N l (λ_=>none) env H).ok/\FL (eO Go.Proofs.Tryz.prog N w0 X y Q) Q .normal (fS Go.Proofs.Tryz.prog Eng.T N l (λ_=>none) env H).env (fS Go.Proofs.Tryz.prog Eng.T N l (λ_=>none) env H).H):
 eO Go.Proofs.Tryz.prog N w0 X (.seq (.region id l.toArray false) y) Q env H:=TG hT hW h
theorem aM{id:Nat}{l:List Oper}(h:(fS Go.Proofs.Tryz.prog Eng.T N l (λ_=>none) env H).ok/\Q .normal (fS Go.Proofs.Tryz.prog Eng.T N l (λ_=>none) env H).env (fS Go.Proofs.Tryz.prog Eng.T N l (λ_=>none) env H).H):
 eO Go.Proofs.Tryz.prog N w0 X (.region id l.toArray false) Q env H:=IT hT hW h
end
section
variable{P:Program} {T:TypeId->dU} {N:Nat} {w0:cJ} {X:Nat->Prop} {Q:LX->dD->cT->Prop} {env env':dD} {H H':cT}
theorem aB{P':List Nat}(hp:w0.pins=P')(keep:List Nat)(σ:List (Nat×Nat))(hE:aQ (keep.map λt=>(t,ren σ 8 (env t)))=env':=by simp)(hH:aG (σ.map λp=>(p.2,cA σ (H p.1)))=H':=by simp)
 (hσ:(σ.map (·.2)).Nodup:=by decide)(hσ1:(σ.map (·.1)).Nodup:=by decide)(hpin:(P'.all λid=>cV σ id==some id)=true:=by rfl):fI w0 env H env' H':=
 lL keep σ hσ hσ1 (λid hid=>by rw[hp]at hid;simpa using List.all_eq_true.1 hpin id hid) hE hH
theorem bF{f:FuncId}{fn:Func}{c:Code}{args:List DV}{r:RV}{fresh:Bool}{n t:Nat}(hf:Go.Proofs.Tryz.prog.funcs[f]? =some fn)(hb:fn.body=some c)(hn:fn.ntmps=n)(hres:fn.results= #[.tmp t])
 (h:∀w0 X,w0.pins=[]->eO Go.Proofs.Tryz.prog n w0 X c (RG t fresh r) (fJ args) (aG []))(hname:(fn.name== "runtime.NumGoroutine")=false:=by kernel_rfl)(hargs:args.length<=n:=by simp)(hrt:∀rs,r≠ .tup rs:=by intro _ h;cases h):Ok Go.Proofs.Tryz.prog f args ⟨r,fresh⟩:=Ok.ret hf hname hb hn hargs hres hrt h
theorem Uy{f:FuncId}{fn:Func}{c:Code}{args:List DV}{r:RV}{fresh:Bool}{n t:Nat}{ty:TypeId}(hf:Go.Proofs.Tryz.prog.funcs[f]? =some fn)(hb:fn.body=some c)(hn:fn.ntmps=n)(hres:fn.results= #[.cell t ty])
 (h:∀w0 X,w0.pins=[]->eO Go.Proofs.Tryz.prog n w0 X c (RH Eng.T t ty fresh r) (fJ args) (aG []))(hname:(fn.name== "runtime.NumGoroutine")=false:=by kernel_rfl)(hargs:args.length<=n:=by simp)(hrt:∀rs,r≠ .tup rs:=by intro _ h;cases h):Ok Go.Proofs.Tryz.prog f args ⟨r,fresh⟩:=Ok.cell hT hf hname hb hn hargs hres hrt h
theorem pU{f:FuncId}{fn:Func}{c:Code}{args:List LV}{h fin:List (Nat×aP)}{n:Nat}(hf:Go.Proofs.Tryz.prog.funcs[f]? =some fn)(hb:fn.body=some c)(hn:fn.ntmps=n)(hres:fn.results= #[])
 (hw:∀w0 X,w0.pins=h.map (·.1)->eO Go.Proofs.Tryz.prog n w0 X c (CM w0 fin) (Ba args) (aG h))(hname:(fn.name== "runtime.NumGoroutine")=false:=by kernel_rfl)(hargs:args.length<=n:=by simp):jA Go.Proofs.Tryz.prog f args h fin (.tup []):=OO hf hname hb hn hargs hres hw
theorem iI{f:FuncId}{fn:Func}{c:Code}{args:List LV}{h fin:List (Nat×aP)}{ret:LV}{n t:Nat}(hf:Go.Proofs.Tryz.prog.funcs[f]? =some fn)(hb:fn.body=some c)(hn:fn.ntmps=n)(hres:fn.results= #[.tmp t])
 (hw:∀w0 X,w0.pins=h.map (·.1)->eO Go.Proofs.Tryz.prog n w0 X c (Kv w0 t fin ret) (Ba args) (aG h))(hname:(fn.name== "runtime.NumGoroutine")=false:=by kernel_rfl)(hargs:args.length<=n:=by simp):jA Go.Proofs.Tryz.prog f args h fin ret:=jA.one hf hname hb hn hargs hres hw
theorem fK{f:FuncId}{fn:Func}{c:Code}{args:List LV}{h fin:List (Nat×aP)}{ret:LV}{n t:Nat}{ty:TypeId}(hf:Go.Proofs.Tryz.prog.funcs[f]? =some fn)(hb:fn.body=some c)(hn:fn.ntmps=n)(hres:fn.results= #[.cell t ty])
 (hw:∀w0 X,w0.pins=h.map (·.1)->eO Go.Proofs.Tryz.prog n w0 X c (Kx w0 Eng.T t ty fin ret) (Ba args) (aG h))(hname:(fn.name== "runtime.NumGoroutine")=false:=by kernel_rfl)(hargs:args.length<=n:=by simp):jA Go.Proofs.Tryz.prog f args h fin ret:=jA.cell hT hf hname hb hn hargs hres hw
abbrev aD{P:Program}{N:Nat}{w0:cJ}{X:Nat->Prop}{Q:LX->dD->cT->Prop}{env:dD}{H:cT}{x y:Code}(h:eO P N w0 X x (FL (eO P N w0 X y Q) Q) env H):=eO.seq h
abbrev aF{P:Program}{N:Nat}{w0:cJ}{X:Nat->Prop}{Q:LX->dD->cT->Prop}{env:dD}{H:cT}(h:Q .ret env H):eO P N w0 X .ret Q env H:=eO.ret h
abbrev aE{P:Program}{N:Nat}{w0:cJ}{X:Nat->Prop}{Q:LX->dD->cT->Prop}{env:dD}{H:cT}(h:Q .normal env H):eO P N w0 X .skip Q env H:=eO.skip h
abbrev bT{P:Program}{N:Nat}{w0:cJ}{X:Nat->Prop}{Q:LX->dD->cT->Prop}{env:dD}{H:cT}{id:Nat}(h:Q (.exit id) env H):eO P N w0 X (.exit id) Q env H:=eO.exit h
abbrev aL{P:Program}{N:Nat}{w0:cJ}{X:Nat->Prop}{Q:LX->dD->cT->Prop}{env:dD}{H:cT}{id:Nat}{c:Code}(h:eO P N w0 X c (tZ id Q) env H):eO P N w0 X (.block id c) Q env H:=eO.block h
def WH(l:List Oper):List (List Nat):=l.foldl (λacc o=>acc++[o.after.toList.foldl (λs e=>if Region.binds .any e then(if s.contains e.on then s else e.on::s)++((acc.getD e.on []).filter λi=> !(i==e.on||s.contains i))else s) []]) []
def Vn(l:List Oper)(j:Nat):List Nat:=(WH l).getD j []
theorem eO.rd{id:Nat}{l:List Oper}(hide wr:List (List Nat))(orc:Nat->Option iR)
 (h:(tN Go.Proofs.Tryz.prog Eng.T N l orc (lk hide) (lk wr) ⟨env,H,True⟩).ok/\Q .normal (tN Go.Proofs.Tryz.prog Eng.T N l orc (lk hide) (lk wr) ⟨env,H,True⟩).env (tN Go.Proofs.Tryz.prog Eng.T N l orc (lk hide) (lk wr) ⟨env,H,True⟩).H)
 (hA:AY l (Vn l) (lk hide) (lk wr)=true:=by kernel_rfl)(hdet:∀d,tX (orc d):=by intro d;first|exact⟨rfl,λ_ h=>h⟩|(split<;>exact⟨rfl,λ_ h=>h⟩)):eO Go.Proofs.Tryz.prog N w0 X (.region id l.toArray true) Q env H:=
 Ix hT hW (by kernel_rfl) (Vn l) (lk hide) (lk wr) hA orc hdet h
end
end Go.Eng
namespace Go.Eng
theorem Vg:Tryz.prog.follows .mixedOrders=true:=by kernel_rfl
theorem Uz(a b:Nm):(decide (a.who=b.who)&&decide (a.seq=b.seq))=decide (a=b):=by
 cases a;cases b;simp[Bool.decide_and]
theorem UA(a b:Df):(a.name==b.name&&a.text==b.text)=decide (a=b):=by
 cases a;cases b;simp[Bool.beq_eq_decide_eq]
attribute[simp] fS dS fZ bG jP lJ jE AR bR bI hZ.plain hZ.cond hZ.fail eL Ao FL tZ fJ kM dX mO memless Eh kO sH Lj Ul nH fR strip CF gW xB bW tN eT gH gB gG tM lk cA cV cD dE bX As fG Fu jX mG bY kP dY iK fX Iz IA Ga IB LL LM LN IC Gb ID Gc IE LP LQ LT LU IF LZ Cv Ap mkAgg HM Fr fQ bJ eV aP.live TK.isNone TK.agg TK.isBool TK.isStr TK.isStruct Op.operands Call.operands dL gE gK fP oF Aq Kk cO iL gD kU qT aV frozen nO Ox Oy Kt LJ OA OB OC OG Ku LK OI OJ OK OM Ur RI Tq Tr Tt Tu Tw ON Ov LI Iy Nm.d Df.d Ed.d UY eC jS UZ Ow Uz UA Et Eu Va Vb Us Vc Vd Ut Uu Uv TB Ve Vf Uw eM eK lY Tb lZ iM iP iO oH NN TK.isInt Oz OH Ts LS nG iQ oG kS qS sG kK Ar Ft yI qN Uq oE fO gT oD iJ lX fY qR iT iU eW Ba Ma Er Mb Mc cA OE OF Tp Bb Md OQ LW LY IH fF nE TK.isPtr oI cC OR Ge Kw OD OL Tv LO LR IG Gg OU Me
attribute[local simp] hZ.cond Nd.d_eq nd_t nd_dr nd_td ndsD
structure BC where
 b:Bool
theorem RQ{a b:Nat}:(if a<b then(b:Int)else(a:Int))=((max a b:Nat):Int):=by split<;>omega
theorem sW{x:Nd}{i:Nat}(hi:i<x.kids.length):weighN x.kids[i]<weighN x:=by
 have:=weigh_mem (List.getElem_mem hi);rw[weighN_eq x];omega
theorem pV(x:Nd):x.kids.length<weighN x:=by
 have:=weigh_len (l:=x.kids);rw[weighN_eq x];omega
theorem xL(n m:Int)(h1: -9223372036854775808<=n)(h2:n<=9223372036854775807)(hm:m≠0):Ok Tryz.prog 25 [aH n,aH m] ⟨.d (aH (iH n m)),true⟩:=by
 refine bF Tryz.func25 rfl Tryz.ntmps25 Tryz.results25 λw0 X hp=>?_;refine aA ?_;simp;refine aD ?_;refine aA ?_;simp;refine aC ?_;simp;refine⟨λh1=>?_,λh1=>?_⟩
 ·refine aM ?_;simp;refine⟨by omega,?_⟩;refine aA ?_;simp;refine⟨hm,?_⟩;refine aF ?_;simp[iH,h1]
 ·refine aE ?_;simp;refine aA ?_;simp;refine⟨hm,?_⟩;refine aF ?_;have:¬n<0:=by omega
  simp[iH,this]
theorem Pq(l:List Int)(i m:Int)(hl:∀n∈l, -9223372036854775808<=n/\n<=9223372036854775807)(hm:m≠0):Ok Tryz.prog 53 [.sl (l.map aH),aH i,aH m] ⟨.d (aH (sR l i m)),true⟩:=by
 refine bF Tryz.func53 rfl Tryz.ntmps53 Tryz.results53 λw0 X hp=>?_;refine aA ?_;simp;refine aD ?_;refine aD ?_;refine eO.len (t:=0) rfl λhlen=>?_;simp at hlen;refine aM ?_;simp;refine aC ?_;simp;refine⟨λh1=>?_,λh1 h2=>?_⟩
 ·refine aA ?_;simp;refine aF ?_;simp[sR,h1]
 ·obtain⟨k,rfl⟩:=Int.eq_ofNat_of_zero_le h1;have hi':k<l.length:=by omega
  refine aE ?_;simp;refine aX hT hW (λ|20=>some<| .plain ⟨.d (aH (iH l[k] m)),true⟩|_=>none) ?_;simp[h2,hi'];refine⟨xL _ _ (hl _ (List.getElem_mem hi')).1 (hl _ (List.getElem_mem hi')).2 hm,?_⟩;refine aF ?_;simp[sR,hi'];omega
theorem IU(x:Nd)(hw:weighN x<=1000000000)(ih:∀y∈x.kids,weighN y<=1000000000->Ok Tryz.prog 129 [y.d] ⟨.d (aH (depthN y)),true⟩):Ok Tryz.prog 129 [x.d] ⟨.d (aH (depthN x)),true⟩:=by
 refine bF Tryz.func129 rfl Tryz.ntmps129 Tryz.results129 λw0 X hp=>?_;refine aA ?_;simp;refine aA ?_;simp;refine aD ?_;refine aA ?_;simp;refine aL ?_;refine aS (ι:=Nat) (λi=>aQ [(3,.d (aH (depthL (x.kids.take i)))),(7,.d (ndsD x.kids)),(8,.d (aH x.kids.length)),(9,.d (aH i))]) (λi=>aG []) (λi=>i<=x.kids.length) (λi=>x.kids.length-i) 0 (aB hp [3,7,8,9] [] (by simp[depthL])) (Nat.zero_le _) λi hi3=>?_;refine aA ?_;simp;refine aD ?_;refine aC ?_;simp;refine⟨λh3=>?_,λh3=>?_⟩
 ·refine aE ?_;simp;refine aD ?_;refine aL ?_;refine aD ?_;have hi:i<x.kids.length:=by omega
  refine aM ?_;simp[hi];have hk:=ih _ (List.getElem_mem hi) (by have:=sW hi;omega);refine eO.ro hT hW (λ|15=>some<| .plain ⟨.d (aH (depthN x.kids[i])),true⟩|_=>none) ?_;simp;refine⟨by simpa using hk,?_⟩;have:=pV x;refine aM ?_;simp;refine⟨by omega,?_⟩;refine Ks.mk (i+1) (aB hp [3,7,8,9] [] (by simp[depthL_succ hi,RQ])) ?_ ?_
  ·omega
  ·omega
 ·refine bT ?_;simp;refine aD ?_;have hi:i=x.kids.length:=by omega
  subst hi;rw[List.take_length];have h1:=depth_size x;have h2:=size_weigh x;have h3:=depthN_eq x;refine aM ?_;simp;refine⟨by omega,?_⟩;refine aF ?_;simp[h3]
theorem Pr(x:Nd)(hw:weighN x<=1000000000):Ok Tryz.prog 129 [x.d] ⟨.d (aH (depthN x)),true⟩:=by
 revert hw;exact mS (p:=λx=>weighN x<=1000000000->Ok Tryz.prog 129 [x.d] ⟨.d (aH (depthN x)),true⟩) (λk t n ks ih hw=>IU _ hw ih) x
section
attribute[local simp] hZ.cond Nd.d_eq nd_t nd_dr nd_td ndsD
def lE{α:Type}(p:α->Bool)(l:List α):Int:=match l.findIdx? p with|some i=>i|none=> -1
theorem sX{α:Type}{p:α->Bool}{l:List α}{i:Nat}(h:l.findIdx? p=some i):lE p l=i:=by simp[lE,h]
theorem sY{α:Type}{p:α->Bool}{l:List α}(h:l.findIdx? p=none):lE p l= -1:=by simp[lE,h]
theorem zB{α:Type}{p:α->Bool}{l:List α}:decide (0<=lE p l)=l.any p:=by
 unfold lE;split
 ·rename_i i hi;obtain⟨h1,h2,_⟩:=List.findIdx?_eq_some_iff_getElem.1 hi;have:l.any p=true:=TC h1 h2;rw[this];simp
 ·rename_i hi;rw[List.findIdx?_eq_none_iff]at hi;have:l.any p=false:=by rw[List.any_eq_false];intro x hx;rw[hi x hx];simp
  rw[this];simp
theorem EA{α:Type}{p:α->Bool}{l:List α}:0<=lE p l↔l.any p=true:=by
 rw[<-zB];simp
theorem nX(l:List aJ)(n:aJ):Ok Tryz.prog 120 [jS l,.str n] ⟨.d (aH (lE (λx=>decide (n=x)) l)),true⟩:=by
 refine bF Tryz.func120 rfl Tryz.ntmps120 Tryz.results120 λw0 X hp=>?_;refine eO.len (t:=0) rfl λhlen=>?_;simp at hlen;refine aA ?_;simp;refine aD ?_;refine aA ?_;simp;refine aL ?_;refine aS (ι:=Nat) (λi=>aQ [(0,.d (jS l)),(1,.d (.str n)),(7,.d (aH l.length)),(8,.d (aH i))]) (λi=>aG []) (λi=>i<=l.length/\Rg (λx=>decide (n=x)) l i) (λi=>l.length-i) 0 (aB hp [0,1,7,8] []) (⟨Nat.zero_le _,Rg.zero⟩) λi hi2=>?_;refine aA ?_;simp;refine aD ?_;refine aC ?_;simp;refine⟨λh2=>?_,λh2=>?_⟩
 ·refine aE ?_;simp;refine aD ?_;refine aL ?_;refine aA ?_;simp;refine aA ?_;simp[h2];refine aC ?_;simp;refine⟨λh4=>?_,λh4=>?_⟩
  ·refine aA ?_;simp;refine aF ?_;simp[sX (hi2.2.found h2 (by simpa using h4))]
  ·refine aE ?_;simp;refine aM ?_;simp;refine⟨by omega,?_⟩;refine Ks.mk (i+1) (aB hp [0,1,7,8] []) ?_ ?_
   ·exact⟨h2,hi2.2.succ h2 (by simpa using h4)⟩
   ·omega
 ·refine bT ?_;simp;refine aA ?_;simp;refine aF ?_;simp[sY (hi2.2.none (by omega))]
theorem Gt(l:List aJ)(n:aJ):Ok Tryz.prog 104 [jS l,.str n] ⟨.d (.bool (decide (n∈l))),true⟩:=by
 refine bF Tryz.func104 rfl Tryz.ntmps104 Tryz.results104 λw0 X hp=>?_;refine aA ?_;simp;refine aX hT hW (λ|7=>some<| .plain ⟨.d (aH (lE (λx=>decide (n=x)) l)),true⟩|_=>none) ?_;simp;refine⟨nX l n,?_⟩;refine aF ?_;simp[EA]
theorem IV(l:List Nd)(p:Nd->Bool)(g:FuncId)(cs:List DV)(hg:∀x∈l,Ok Tryz.prog g (x.d::cs) ⟨.d (.bool (p x)),true⟩):Ok Tryz.prog 133 [ndsD l,.fn g cs] ⟨.d (aH (lE p l)),true⟩:=by
 refine bF Tryz.func133 rfl Tryz.ntmps133 Tryz.results133 λw0 X hp=>?_;refine eO.len (t:=0) rfl λhlen=>?_;simp at hlen;refine aA ?_;simp;refine aD ?_;refine aA ?_;simp;refine aL ?_;refine aS (ι:=Nat) (λi=>aQ [(0,.d (ndsD l)),(1,.d (.fn g cs)),(7,.d (aH l.length)),(8,.d (aH i))]) (λi=>aG []) (λi=>i<=l.length/\Rg p l i) (λi=>l.length-i) 0 (aB hp [0,1,7,8] []) (⟨Nat.zero_le _,Rg.zero⟩) λi hi2=>?_;refine aA ?_;simp;refine aD ?_;refine aC ?_;simp;refine⟨λh2=>?_,λh2=>?_⟩
 ·refine aE ?_;simp;refine aD ?_;refine aL ?_;refine aA ?_;simp;refine aX hT hW (λ|16=>some<| .plain ⟨.d (.bool (p l[i])),true⟩|_=>none) ?_;simp[h2];refine⟨by simpa using hg l[i] (List.getElem_mem h2),?_⟩;refine aC ?_;simp;refine⟨λh4=>?_,λh4=>?_⟩
  ·refine aA ?_;simp;refine aF ?_;simp[sX (hi2.2.found h2 h4)]
  ·refine aE ?_;simp;refine aM ?_;simp;refine⟨by omega,?_⟩;refine Ks.mk (i+1) (aB hp [0,1,7,8] []) ?_ ?_
   ·exact⟨h2,hi2.2.succ h2 h4⟩
   ·omega
 ·refine bT ?_;simp;refine aA ?_;simp;refine aF ?_;simp[sY (hi2.2.none (by omega))]
theorem Gu(l:List Nd)(p:Nd->Bool)(g:FuncId)(cs:List DV)(hg:∀x∈l,Ok Tryz.prog g (x.d::cs) ⟨.d (.bool (p x)),true⟩):Ok Tryz.prog 79 [ndsD l,.fn g cs] ⟨.d (.bool (l.any p)),true⟩:=by
 refine bF Tryz.func79 rfl Tryz.ntmps79 Tryz.results79 λw0 X hp=>?_;refine aA ?_;simp;refine aX hT hW (λ|7=>some<| .plain ⟨.d (aH (lE p l)),true⟩|_=>none) ?_;simp;refine⟨by simpa using IV l p g cs hg,?_⟩;refine aF ?_;simp[<-zB]
theorem Mq(k:Int):Ok Tryz.prog 190 [aH k] ⟨.d (.bool (isStmtK k)),true⟩:=by
 refine bF Tryz.func190 rfl Tryz.ntmps190 Tryz.results190 λw0 X hp=>?_;refine aA ?_;simp;refine aA ?_;simp;refine aF ?_;simp[isStmtK]
theorem Mr(k:Int):Ok Tryz.prog 189 [aH k] ⟨.d (.bool (isItemK k)),true⟩:=by
 refine bF Tryz.func189 rfl Tryz.ntmps189 Tryz.results189 λw0 X hp=>?_;refine aA ?_;simp;refine aA ?_;simp;refine aF ?_;simp[isItemK]
theorem mW(k:Int):Ok Tryz.prog 192 [aH k] ⟨.d (.bool (isBlockK k)),true⟩:=by
 refine bF Tryz.func192 rfl Tryz.ntmps192 Tryz.results192 λw0 X hp=>?_;refine aA ?_;simp;refine aA ?_;simp;refine aF ?_;simp[isBlockK]
theorem kG(k:Int):Ok Tryz.prog 193 [aH k] ⟨.d (.bool (isExprK k)),true⟩:=by
 refine bF Tryz.func193 rfl Tryz.ntmps193 Tryz.results193 λw0 X hp=>?_;refine aA ?_;simp;refine aA ?_;simp;refine aF ?_;simp[isExprK]
theorem IW(k:Int):Ok Tryz.prog 194 [aH k] ⟨.d (.bool (isPlaceK k)),true⟩:=by
 refine bF Tryz.func194 rfl Tryz.ntmps194 Tryz.results194 λw0 X hp=>?_;refine aA ?_;simp;refine aA ?_;simp;refine aF ?_;simp[isPlaceK]
theorem IX(k:Int):Ok Tryz.prog 195 [aH k] ⟨.d (.bool (isLocalK k)),true⟩:=by
 refine bF Tryz.func195 rfl Tryz.ntmps195 Tryz.results195 λw0 X hp=>?_;refine aA ?_;simp;refine aA ?_;simp;refine aF ?_;simp[isLocalK]
theorem RS(x:Nd)(g:FuncId)(f:Int->Bool)(hg:∀k,Ok Tryz.prog g [aH k] ⟨.d (.bool (f k)),true⟩):Ok Tryz.prog 215 [x.d,.ro [.fn g []]] ⟨.d (.bool (!f x.kind)),true⟩:=by
 refine bF Tryz.func215 rfl Tryz.ntmps215 Tryz.results215 λw0 X hp=>?_;refine aA ?_;simp;refine aX hT hW (λ|7=>some<| .plain ⟨.d (.bool (f x.kind)),true⟩|_=>none) ?_;simp;refine⟨hg _,?_⟩;refine aF ?_;simp
theorem Ps(x:Nd)(g:FuncId)(f:Int->Bool)(hg:∀k,Ok Tryz.prog g [aH k] ⟨.d (.bool (f k)),true⟩):Ok Tryz.prog 188 [x.d,.fn g []] ⟨.d (.bool (x.kids.all λy=>f y.kind)),true⟩:=by
 refine bF Tryz.func188 rfl Tryz.ntmps188 Tryz.results188 λw0 X hp=>?_;refine aA ?_;simp;refine aX hT hW (λ|8=>some<| .plain ⟨.d (.bool (x.kids.any λy=> !f y.kind)),true⟩|_=>none) ?_;simp;refine⟨by simpa using Gu x.kids (λy=> !f y.kind) _ _ λy _=>RS y g f hg,?_⟩;refine aF ?_;simp[List.all_eq_not_any_not]
theorem Dc:∀{ks:List Nd} {fs:List (Int->Bool)},ks.length≠fs.length->kidsB ks fs=false
 |[],[],h=>absurd rfl h
 |[],_::_,_=>rfl
 |_::_,[],_=>rfl
 |x::r,f::l,h=>by rw[kidsB,Dc (ks:=r) (fs:=l) (by simpa using h),Bool.and_false]
theorem Bp:∀{ks:List Nd} {fs:List (Int->Bool)},ks.length=fs.length->(kidsB ks fs=true↔∀(i:Nat) (h1:i<ks.length) (h2:i<fs.length),fs[i] ks[i].kind=true)
 |[],[],_=>⟨λ_ i h=>by simp at h,λ_=>rfl⟩
 |[],_::_,h=>by simp at h
 |_::_,[],h=>by simp at h
 |x::r,f::l,h=>by
  rw[kidsB,Bool.and_eq_true,Bp (ks:=r) (fs:=l) (by simpa using h)];constructor
  ·rintro⟨h1,h2⟩ i hi hj;cases i with
   |zero=>exact h1
   |succ i=>exact h2 i (by simpa using hi) (by simpa using hj)
  ·intro h;exact⟨h 0 (by simp) (by simp),λi hi hj=>h (i+1) (by simpa using hi) (by simpa using hj)⟩
structure RT(gs:List FuncId)(fs:List (Int->Bool)):Prop where
 len:gs.length=fs.length
 ok:∀(i:Nat) (h1:i<gs.length) (h2:i<fs.length) (k:Int),Ok Tryz.prog gs[i] [aH k] ⟨.d (.bool (fs[i] k)),true⟩
def Ms(g:FuncId):DV:=.fn g []
theorem lN(x:Nd)(gs:List FuncId)(fs:List (Int->Bool))(hg:RT gs fs)(hgl:gs.length<=100):Ok Tryz.prog 191 [x.d,.sl (gs.map Ms)] ⟨.d (.bool (kidsB x.kids fs)),true⟩:=by
 refine bF Tryz.func191 rfl Tryz.ntmps191 Tryz.results191 λw0 X hp=>?_;have hgf:=hg.len;refine aA ?_;simp;refine aD ?_;refine aA ?_;simp;refine aC ?_;simp;refine⟨λh1=>?_,λh1=>?_⟩
 ·refine aA ?_;simp;refine aF ?_;simp;exact Dc (by omega)
 ·refine aE ?_;simp;refine aD ?_;refine aD ?_;have hlen:x.kids.length=fs.length:=by omega
  have hkl:x.kids.length<=100:=by omega
  refine aM ?_;simp;refine aL ?_;refine aS (ι:=Nat) (λi=>aQ [(1,.d (.sl (gs.map Ms))),(14,.d (ndsD x.kids)),(15,.d (aH x.kids.length)),(16,.d (aH i))]) (λi=>aG []) (λi=>i<=x.kids.length/\∀(j:Nat) (h1:j<x.kids.length) (h2:j<fs.length),j<i->fs[j] x.kids[j].kind=true) (λi=>x.kids.length-i) 0 (aB hp [1,14,15,16] []) (⟨Nat.zero_le _,λj _ _ h=>absurd h (Nat.not_lt_zero _)⟩) λi hi4=>?_;refine aA ?_;simp;refine aD ?_;refine aC ?_;simp;refine⟨λh4=>?_,λh4=>?_⟩
  ·refine aE ?_;simp;refine aD ?_;refine aL ?_;refine aD ?_;have hi:i<x.kids.length:=by omega
   have hif:i<fs.length:=(by omega);have hig:i<gs.length:=(by omega);refine aM ?_;simp[hi];refine aD ?_;have hk:=hg.ok i hig hif x.kids[i].kind;refine eO.rd [] [[],[],[],[],[],[],[27]] (λ|27=>some<| .plain ⟨.d (.bool (fs[i] x.kids[i].kind)),true⟩|_=>none) ?_;simp[hig,Ms,dE];refine⟨hk,?_⟩;refine aC ?_;simp;refine⟨λh6=>?_,λh6=>?_⟩
   ·refine aA ?_;simp;refine aF ?_;simp;rw[<-Bool.not_eq_true,Bp hlen];intro h;have:=h i hi hif;simp[h6]at this
   ·refine aE ?_;simp;refine aM ?_;simp;refine⟨by omega,?_⟩;refine Ks.mk (i+1) (aB hp [1,14,15,16] []) ?_ ?_
    ·refine⟨by omega,λj q1 q2 q3=>?_⟩;rcases Nat.lt_or_ge j i with q|q
     ·exact hi4.2 j q1 q2 q
     ·have:j=i:=(by omega);subst this;simpa using h6
    ·omega
  ·refine bT ?_;simp;refine aA ?_;simp;refine aF ?_;simp;rw[Bp hlen];exact λj q1 q2=>hi4.2 j q1 q2 (by omega)
end
section
attribute[local simp] hZ.cond Nd.d_eq nd_t nd_dr nd_td ndsD
theorem RT.nil:RT [] []:=⟨rfl,λi h=>by simp at h⟩
theorem RT.cons{g:FuncId}{f:Int->Bool}{gs:List FuncId}{fs:List (Int->Bool)}(h:∀k,Ok Tryz.prog g [aH k] ⟨.d (.bool (f k)),true⟩)(hs:RT gs fs):RT (g::gs) (f::fs):=
 ⟨by simp[hs.len],λi h1 h2 k=>by
   cases i with
   |zero=>exact h k
   |succ i=>exact hs.ok i (by simpa using h1) (by simpa using h2) k⟩
theorem Mt(x:Nd):Ok Tryz.prog 164 [x.d] ⟨.d (.bool (shapedB x)),true⟩:=by
 refine bF Tryz.func164 rfl Tryz.ntmps164 Tryz.results164 λw0 X hp=>?_;refine aA ?_;simp;refine aD ?_;refine aA ?_;simp;refine aL ?_;refine aA ?_;simp;refine aC ?_;simp;refine⟨λh2=>?_,λh2=>?_⟩
 ·refine aD ?_;have hk3:=Ps x 189 isItemK λk=>Mr k;refine eO.ro hT hW (λ|8=>some<| .plain ⟨.d (.bool (x.kids.all λy=>isItemK y.kind)),true⟩|_=>none) ?_;simp;refine⟨by simpa using hk3,?_⟩;refine aF ?_;simp;unfold shapedB shapedK;repeat(first|rw[if_pos (by omega)]|rw[if_neg (by omega)])
  try simp[hq]
 ·refine aA ?_;simp;refine aC ?_;simp;refine⟨λh4=>?_,λh4=>?_⟩
  ·refine aD ?_;have hk5:=Ps x 190 isStmtK λk=>Mq k;refine eO.ro hT hW (λ|12=>some<| .plain ⟨.d (.bool (x.kids.all λy=>isStmtK y.kind)),true⟩|_=>none) ?_;simp;refine⟨by simpa using hk5,?_⟩;refine aF ?_;simp;unfold shapedB shapedK;repeat(first|rw[if_pos (by omega)]|rw[if_neg (by omega)])
   try simp[hq]
  ·refine aZ (ι:=BC) (λ⟨b⟩=>aQ [(1,.bx 1 0),(4,.d (aH x.kind)),(13,.d (.bool b))]) (λ⟨b⟩=>aG [(1,.box false [.d (aH x.kind),.d (.str x.text),.d (aH x.n),.d (ndsD x.kids)])]) (λ⟨b⟩=>b=true↔(x.kind=5\/x.kind=6)) ?_ λ⟨b⟩ hc8=>?_
   ·refine aA ?_;simp;refine aC ?_;simp;refine⟨λh6=>?_,λh6=>?_⟩
    ·refine aE ?_;simp;refine RJ.mk ⟨decide (x.kind=5)⟩ (aB hp [1,4,13] [(1,1)]) ?_;simp[h6]
    ·refine aM ?_;simp;refine RJ.mk ⟨decide (x.kind=6)⟩ (aB hp [1,4,13] [(1,1)]) ?_;simp only[decide_eq_true_eq];omega
   ·refine aC ?_;simp;refine⟨λh8=>?_,λh8=>?_⟩
    ·have q8:=hc8.1 h8;refine aD ?_;have hk8:=lN x [192] [isBlockK] (RT.cons (λk=>mW k) RT.nil) (by decide);refine eO.ro hT hW (λ|18=>some<| .plain ⟨.d (.bool (kidsB x.kids [isBlockK])),true⟩|_=>none) ?_;simp;refine⟨by simpa [Ms]using hk8,?_⟩;refine aF ?_;simp;unfold shapedB shapedK;repeat(first|rw[if_pos (by omega)]|rw[if_neg (by omega)])
     try simp[hq]
    ·have q8:¬(x.kind=5\/x.kind=6):=λq=>by simp[hc8.2 q]at h8
     refine aZ (ι:=BC) (λ⟨b⟩=>aQ [(1,.bx 1 0),(4,.d (aH x.kind)),(19,.d (.bool b))]) (λ⟨b⟩=>aG [(1,.box false [.d (aH x.kind),.d (.str x.text),.d (aH x.n),.d (ndsD x.kids)])]) (λ⟨b⟩=>b=true↔(x.kind=9\/x.kind=15\/x.kind=22\/x.kind=24)) ?_ λ⟨b⟩ hc13=>?_
     ·refine aA ?_;simp;refine aC ?_;simp;refine⟨λh9=>?_,λh9=>?_⟩
      ·refine aE ?_;simp;refine RJ.mk ⟨decide (x.kind=9)⟩ (aB hp [1,4,19] [(1,1)]) ?_;simp[h9]
      ·refine aA ?_;simp;refine aC ?_;simp;refine⟨λh10=>?_,λh10=>?_⟩
       ·refine aE ?_;simp;refine RJ.mk ⟨decide (x.kind=15)⟩ (aB hp [1,4,19] [(1,1)]) ?_;simp[h10]
       ·refine aA ?_;simp;refine aC ?_;simp;refine⟨λh11=>?_,λh11=>?_⟩
        ·refine aE ?_;simp;refine RJ.mk ⟨decide (x.kind=22)⟩ (aB hp [1,4,19] [(1,1)]) ?_;simp[h11]
        ·refine aM ?_;simp;refine RJ.mk ⟨decide (x.kind=24)⟩ (aB hp [1,4,19] [(1,1)]) ?_;simp only[decide_eq_true_eq];omega
     ·refine aC ?_;simp;refine⟨λh13=>?_,λh13=>?_⟩
      ·have q13:=hc13.1 h13;refine aD ?_;have hk13:=lN x [193] [isExprK] (RT.cons (λk=>kG k) RT.nil) (by decide);refine eO.ro hT hW (λ|26=>some<| .plain ⟨.d (.bool (kidsB x.kids [isExprK])),true⟩|_=>none) ?_;simp;refine⟨by simpa [Ms]using hk13,?_⟩;refine aF ?_;simp;unfold shapedB shapedK;repeat(first|rw[if_pos (by omega)]|rw[if_neg (by omega)])
       try simp[hq]
      ·have q13:¬(x.kind=9\/x.kind=15\/x.kind=22\/x.kind=24):=λq=>by simp[hc13.2 q]at h13
       refine aA ?_;simp;refine aC ?_;simp;refine⟨λh14=>?_,λh14=>?_⟩
       ·refine aD ?_;have hk15:=lN x [194,193] [isPlaceK,isExprK] (RT.cons (λk=>IW k) (RT.cons (λk=>kG k) RT.nil)) (by decide);refine eO.ro hT hW (λ|31=>some<| .plain ⟨.d (.bool (kidsB x.kids [isPlaceK,isExprK])),true⟩|_=>none) ?_;simp;refine⟨⟨by decide,by simpa [Ms]using hk15⟩,?_⟩;refine aF ?_;simp;unfold shapedB shapedK;repeat(first|rw[if_pos (by omega)]|rw[if_neg (by omega)])
        try simp[hq]
       ·refine aA ?_;simp;refine aC ?_;simp;refine⟨λh16=>?_,λh16=>?_⟩
        ·refine aD ?_;have hk17:=lN x [193,192] [isExprK,isBlockK] (RT.cons (λk=>kG k) (RT.cons (λk=>mW k) RT.nil)) (by decide);have hl17:=lN x [193,192,192] [isExprK,isBlockK,isBlockK] (RT.cons (λk=>kG k) (RT.cons (λk=>mW k) (RT.cons (λk=>mW k) RT.nil))) (by decide);cases hq:kidsB x.kids [isExprK,isBlockK]<;>rw[hq]at hk17
         ·refine eO.ro hT hW (λ|36=>some<| .plain ⟨.d (.bool (decide (0=1))),true⟩|40=>some<| .plain ⟨.d (.bool (kidsB x.kids [isExprK,isBlockK,isBlockK])),true⟩|_=>none) ?_;simp;refine⟨⟨⟨⟨by decide,by simpa [Ms]using hk17⟩,by decide⟩,by simpa [Ms]using hl17⟩,?_⟩;refine aF ?_;simp;unfold shapedB shapedK;repeat(first|rw[if_pos (by omega)]|rw[if_neg (by omega)])
          try simp[hq]
         ·refine eO.ro hT hW (λ|36=>some<| .plain ⟨.d (.bool (decide (1=1))),true⟩|40=>some<| .plain ⟨.d (.bool (kidsB x.kids [isExprK,isBlockK,isBlockK])),true⟩|_=>none) ?_;simp;refine⟨⟨by decide,by simpa [Ms]using hk17⟩,?_⟩;refine aF ?_;simp;unfold shapedB shapedK;repeat(first|rw[if_pos (by omega)]|rw[if_neg (by omega)])
          try simp[hq]
        ·refine aA ?_;simp;refine aC ?_;simp;refine⟨λh18=>?_,λh18=>?_⟩
         ·refine aD ?_;have hk19:=lN x [193,192] [isExprK,isBlockK] (RT.cons (λk=>kG k) (RT.cons (λk=>mW k) RT.nil)) (by decide);refine eO.ro hT hW (λ|46=>some<| .plain ⟨.d (.bool (kidsB x.kids [isExprK,isBlockK])),true⟩|_=>none) ?_;simp;refine⟨⟨by decide,by simpa [Ms]using hk19⟩,?_⟩;refine aF ?_;simp;unfold shapedB shapedK;repeat(first|rw[if_pos (by omega)]|rw[if_neg (by omega)])
          try simp[hq]
         ·refine aZ (ι:=BC) (λ⟨b⟩=>aQ [(1,.bx 1 0),(4,.d (aH x.kind)),(47,.d (.bool b))]) (λ⟨b⟩=>aG [(1,.box false [.d (aH x.kind),.d (.str x.text),.d (aH x.n),.d (ndsD x.kids)])]) (λ⟨b⟩=>b=true↔(x.kind=16\/x.kind=23)) ?_ λ⟨b⟩ hc22=>?_
          ·refine aA ?_;simp;refine aC ?_;simp;refine⟨λh20=>?_,λh20=>?_⟩
           ·refine aE ?_;simp;refine RJ.mk ⟨decide (x.kind=16)⟩ (aB hp [1,4,47] [(1,1)]) ?_;simp[h20]
           ·refine aM ?_;simp;refine RJ.mk ⟨decide (x.kind=23)⟩ (aB hp [1,4,47] [(1,1)]) ?_;simp only[decide_eq_true_eq];omega
          ·refine aC ?_;simp;refine⟨λh22=>?_,λh22=>?_⟩
           ·have q22:=hc22.1 h22;refine aD ?_;have hk22:=lN x [195] [isLocalK] (RT.cons (λk=>IX k) RT.nil) (by decide);refine eO.ro hT hW (λ|52=>some<| .plain ⟨.d (.bool (kidsB x.kids [isLocalK])),true⟩|_=>none) ?_;simp;refine⟨by simpa [Ms]using hk22,?_⟩;refine aF ?_;simp;unfold shapedB shapedK;repeat(first|rw[if_pos (by omega)]|rw[if_neg (by omega)])
            try simp[hq]
           ·have q22:¬(x.kind=16\/x.kind=23):=λq=>by simp[hc22.2 q]at h22
            refine aZ (ι:=BC) (λ⟨b⟩=>aQ [(1,.bx 1 0),(4,.d (aH x.kind)),(53,.d (.bool b))]) (λ⟨b⟩=>aG [(1,.box false [.d (aH x.kind),.d (.str x.text),.d (aH x.n),.d (ndsD x.kids)])]) (λ⟨b⟩=>b=true↔(x.kind=26\/x.kind=27\/x.kind=28\/x.kind=29\/x.kind=30\/x.kind=31)) ?_ λ⟨b⟩ hc29=>?_
            ·refine aA ?_;simp;refine aC ?_;simp;refine⟨λh23=>?_,λh23=>?_⟩
             ·refine aE ?_;simp;refine RJ.mk ⟨decide (x.kind=26)⟩ (aB hp [1,4,53] [(1,1)]) ?_;simp[h23]
             ·refine aA ?_;simp;refine aC ?_;simp;refine⟨λh24=>?_,λh24=>?_⟩
              ·refine aE ?_;simp;refine RJ.mk ⟨decide (x.kind=27)⟩ (aB hp [1,4,53] [(1,1)]) ?_;simp[h24]
              ·refine aA ?_;simp;refine aC ?_;simp;refine⟨λh25=>?_,λh25=>?_⟩
               ·refine aE ?_;simp;refine RJ.mk ⟨decide (x.kind=28)⟩ (aB hp [1,4,53] [(1,1)]) ?_;simp[h25]
               ·refine aA ?_;simp;refine aC ?_;simp;refine⟨λh26=>?_,λh26=>?_⟩
                ·refine aE ?_;simp;refine RJ.mk ⟨decide (x.kind=29)⟩ (aB hp [1,4,53] [(1,1)]) ?_;simp[h26]
                ·refine aA ?_;simp;refine aC ?_;simp;refine⟨λh27=>?_,λh27=>?_⟩
                 ·refine aE ?_;simp;refine RJ.mk ⟨decide (x.kind=30)⟩ (aB hp [1,4,53] [(1,1)]) ?_;simp[h27]
                 ·refine aM ?_;simp;refine RJ.mk ⟨decide (x.kind=31)⟩ (aB hp [1,4,53] [(1,1)]) ?_;simp only[decide_eq_true_eq];omega
            ·refine aC ?_;simp;refine⟨λh29=>?_,λh29=>?_⟩
             ·have q29:=hc29.1 h29;refine aD ?_;have hk29:=lN x [193,193] [isExprK,isExprK] (RT.cons (λk=>kG k) (RT.cons (λk=>kG k) RT.nil)) (by decide);refine eO.ro hT hW (λ|62=>some<| .plain ⟨.d (.bool (kidsB x.kids [isExprK,isExprK])),true⟩|_=>none) ?_;simp;refine⟨⟨by decide,by simpa [Ms]using hk29⟩,?_⟩;refine aF ?_;simp;unfold shapedB shapedK;repeat(first|rw[if_pos (by omega)]|rw[if_neg (by omega)])
              try simp[hq]
             ·have q29:¬(x.kind=26\/x.kind=27\/x.kind=28\/x.kind=29\/x.kind=30\/x.kind=31):=λq=>by simp[hc29.2 q]at h29
              refine aE ?_;simp;refine aD ?_;have hk30:=lN x [] [] RT.nil (by decide);refine eO.ro hT hW (λ|64=>some<| .plain ⟨.d (.bool (kidsB x.kids [])),true⟩|_=>none) ?_;simp;refine⟨by simpa [Ms]using hk30,?_⟩;refine aF ?_;simp;unfold shapedB shapedK;repeat(first|rw[if_pos (by omega)]|rw[if_neg (by omega)])
              try simp[hq]
end
section
attribute[local simp] hZ.cond Nd.d_eq nd_t nd_dr nd_td ndsD
theorem xM:yH.length=12:=rfl
theorem Pt{k:Int}(h0:26<=k)(h1:k<=31):List.take 2 (List.drop ((k-26).toNat*2) yH)=[.str (signAt k),aH (levelAt k)]:=by
 have:k=26\/k=27\/k=28\/k=29\/k=30\/k=31:=by omega
 rcases this with rfl|rfl|rfl|rfl|rfl|rfl<;>rfl
theorem Mu{k:Int}(h0:26<=k)(h1:k<=31):yH[(k-26).toNat*2+1]?.getD default=aH (levelAt k):=by
 have:k=26\/k=27\/k=28\/k=29\/k=30\/k=31:=by omega
 rcases this with rfl|rfl|rfl|rfl|rfl|rfl<;>rfl
theorem Pu(x:Nd):Ok Tryz.prog 241 [x.d] ⟨.d (aH (lvlN x.kind)),true⟩:=by
 refine bF Tryz.func241 rfl Tryz.ntmps241 Tryz.results241 λw0 X hp=>?_;refine aA ?_;simp;refine aD ?_;refine aA ?_;simp;refine aC ?_;simp;refine⟨λg1 g2=>?_,λg=>?_⟩
 ·refine aD ?_;have q1:=Mu g1 g2;have q2:=xM;refine aM ?_;simp[q1];refine⟨⟨⟨by omega,by omega⟩,by omega⟩,?_⟩;refine aF ?_;simp[lvlN,g1,g2]
 ·refine aE ?_;simp;refine aA ?_;simp;refine aF ?_;simp;rw[lvlN,if_neg (by omega)]
theorem KF(n:Nat):(decS n).length<=3:=by unfold decS;split<;>(try split)<;>simp
theorem bV(n:Int):(itoaS n).length<=4:=by
 have h1:=KF n.natAbs;have h2:=KF n.toNat;unfold itoaS;split
 ·simp only[List.length_cons];omega
 ·omega
theorem sZ(c:Bool)(t:aJ):(paren c t).length<=t.length+2:=by cases c<;>simp[paren]
theorem Gv(k:Int)(h:26<=k/\k<=31):(signAt k).length<=2:=by
 have:k=26\/k=27\/k=28\/k=29\/k=30\/k=31:=by omega
 rcases this with rfl|rfl|rfl|rfl|rfl|rfl<;>decide
theorem eB(x:Nd):rightN x=true->isExprK x.kind=true->(exprT x).length<=8*weighN x:=by
 refine mS (p:=λx=>rightN x=true->isExprK x.kind=true->(exprT x).length<=8*weighN x) (λk t n ks ih=>?_) x;intro hr he;have hw:weighN (.mk k t n ks)=weighL ks+t.length+1:=by rw[weighN]
 rcases mU hr he with⟨_,_,_,h4⟩|⟨h1,_⟩|h1|⟨h1,_⟩|⟨h1,h2⟩|⟨k',a,b,h1,h2,h3,h4,h5,h6,h7⟩
 ·rw[h4];have:=bV (Nd.mk k t n ks).n;simp only[exprT,if_true,weighN];omega
 ·rw[h1];simp[exprT,weighN];omega
 ·rw[h1];simp[exprT,weighN,sKind];omega
 ·rw[h1];simp[exprT,weighN];omega
 ·rw[h1];simp[exprT,weighN];omega
 ·injection h3 with i1 i2 i3 i4
  subst i1;subst i2;subst i3;subst i4;have ha:=ih a (by simp) h4 h5;have hb:=ih b (by simp) h6 h7;have e1:=sZ (decide (lvlN a.kind<(if levelAt k=1 then 2 else levelAt k))) (exprT a);have e2:=sZ (decide (lvlN b.kind<levelAt k+1)) (exprT b);have e3:=Gv k ⟨h1,h2⟩;rw[xK h1 h2,hw];simp only[weighL,List.length_append,List.length_cons,List.length_nil];omega
end
end Go.Eng
namespace Go.Proofs
open Go.Shelf
def Tryz.itoaLay_ren:Go.Shelf.Ren:=⟨λ|171=>168|243=>198|246=>217|283=>232|284=>233|285=>234|286=>235|129=>116|317=>242|318=>243|319=>244|320=>245|337=>247|338=>248|n=>n,λ|3=>3|9=>9|2=>2|4=>4|171=>227|0=>0|53=>165|37=>142|5=>5|173=>229|212=>237|51=>163|20=>20|213=>238|46=>107|232=>239|233=>240|n=>n,λ|17=>6|18=>7|19=>8|n=>n⟩
theorem Tryz.itoaLay:Go.Proofs.LaysM.n171 Tryz.prog Tryz.itoaLay_ren:={
 mixed:=by kernel_rfl,
 f129:=Tryz.func116.trans (congrArg some (by kernel_rfl)),
 f171:=Tryz.func168.trans (congrArg some (by kernel_rfl)),
 f243:=Tryz.func198.trans (congrArg some (by kernel_rfl)),
 f246:=Tryz.func217.trans (congrArg some (by kernel_rfl)),
 f283:=Tryz.func232.trans (congrArg some (by kernel_rfl)),
 f284:=Tryz.func233.trans (congrArg some (by kernel_rfl)),
 f285:=Tryz.func234.trans (congrArg some (by kernel_rfl)),
 f286:=Tryz.func235.trans (congrArg some (by kernel_rfl)),
 f317:=Tryz.func242.trans (congrArg some (by kernel_rfl)),
 f318:=Tryz.func243.trans (congrArg some (by kernel_rfl)),
 f319:=Tryz.func244.trans (congrArg some (by kernel_rfl)),
 f320:=Tryz.func245.trans (congrArg some (by kernel_rfl)),
 f337:=Tryz.func247.trans (congrArg some (by kernel_rfl)),
 f338:=Tryz.func248.trans (congrArg some (by kernel_rfl)),
 t0:=Tryz.underlying0,
 a0:=Tryz.isAgg0,
 z0:=Tryz.sizeOf0,
 v0:=Tryz.zeroValue0,
 t2:=Tryz.underlying2,
 a2:=Tryz.isAgg2,
 z2:=Tryz.sizeOf2,
 v2:=Tryz.zeroValue2,
 t3:=Tryz.underlying3,
 a3:=Tryz.isAgg3,
 z3:=Tryz.sizeOf3,
 v3:=Tryz.zeroValue3,
 t4:=Tryz.underlying4,
 a4:=Tryz.isAgg4,
 z4:=Tryz.sizeOf4,
 v4:=Tryz.zeroValue4,
 t5:=Tryz.underlying5,
 a5:=Tryz.isAgg5,
 z5:=Tryz.sizeOf5,
 v5:=Tryz.zeroValue5,
 t9:=Tryz.underlying9,
 a9:=Tryz.isAgg9,
 z9:=Tryz.sizeOf9,
 v9:=Tryz.zeroValue9,
 t20:=Tryz.underlying20,
 a20:=Tryz.isAgg20,
 z20:=Tryz.sizeOf20,
 v20:=Tryz.zeroValue20,
 t37:=Tryz.underlying142,
 a37:=Tryz.isAgg142,
 z37:=Tryz.sizeOf142,
 v37:=Tryz.zeroValue142,
 t46:=Tryz.underlying107,
 a46:=Tryz.isAgg107,
 z46:=Tryz.sizeOf107,
 v46:=Tryz.zeroValue107,
 t51:=Tryz.underlying163,
 a51:=Tryz.isAgg163,
 z51:=Tryz.sizeOf163,
 v51:=Tryz.zeroValue163,
 t53:=Tryz.underlying165,
 a53:=Tryz.isAgg165,
 z53:=Tryz.sizeOf165,
 v53:=Tryz.zeroValue165,
 t171:=Tryz.underlying227,
 a171:=Tryz.isAgg227,
 z171:=Tryz.sizeOf227,
 v171:=Tryz.zeroValue227,
 t173:=Tryz.underlying229,
 a173:=Tryz.isAgg229,
 z173:=Tryz.sizeOf229,
 v173:=Tryz.zeroValue229,
 t212:=Tryz.underlying237,
 a212:=Tryz.isAgg237,
 z212:=Tryz.sizeOf237,
 v212:=Tryz.zeroValue237,
 t213:=Tryz.underlying238,
 a213:=Tryz.isAgg238,
 z213:=Tryz.sizeOf238,
 t232:=Tryz.underlying239,
 a232:=Tryz.isAgg239,
 z232:=Tryz.sizeOf239,
 v232:=Tryz.zeroValue239,
 t233:=Tryz.underlying240,
 a233:=Tryz.isAgg240,
 z233:=Tryz.sizeOf240,
 v233:=Tryz.zeroValue240,
 g17:=by kernel_rfl,
 g18:=by kernel_rfl,
 g19:=by kernel_rfl,
 i0:=by kernel_rfl,
 i2:=by kernel_rfl,
 i3:=by kernel_rfl,
 i4:=by kernel_rfl,
 i5:=by kernel_rfl,
 i9:=by kernel_rfl,
 i20:=by kernel_rfl,
 i37:=by kernel_rfl,
 i46:=by kernel_rfl,
 i51:=by kernel_rfl,
 i53:=by kernel_rfl,
 i171:=by kernel_rfl,
 i173:=by kernel_rfl,
 i212:=by kernel_rfl,
 i232:=by kernel_rfl,
 i233:=by kernel_rfl,
 m17:=by kernel_rfl,
 m18:=by kernel_rfl,
 m19:=by kernel_rfl}
end Go.Proofs
namespace Go.Eng
theorem KG{n:Nat}(h:n<1000):Lib.decDigits n=decS n:=by
 unfold decS;by_cases h1:n<10
 ·rw[if_pos h1,Lib.decDigits,dif_pos h1]
 ·rw[if_neg h1,Lib.decDigits,dif_neg h1];by_cases h2:n<100
  ·rw[if_pos h2,Lib.decDigits,dif_pos (by omega)];rfl
  ·rw[if_neg h2,Lib.decDigits,dif_neg (by omega),Lib.decDigits,dif_pos (by omega),Nat.div_div_eq_div_mul];rfl
theorem Pv{n:Int}(h0: -999<=n)(h1:n<=999):Lib.itoa n=itoaS n:=by
 unfold Lib.itoa itoaS;split
 ·rw[KG (by omega)]
 ·rw[KG (by omega)]
theorem Mv:Kj=Lib.pow10Tab.map λz=>DV.int .u64 z:=by kernel_rfl
theorem RU{w:World}{X:Nat->Prop}(h:tW w X){name:String}(hg:Tryz.prog.globalNamed name=some 6):Lib.TabIs Tryz.prog w name .u64 Lib.pow10Tab:=by
 obtain⟨h1,arr,t,fz,h2,h3⟩:=h 6 Kj rfl;unfold Lib.TabIs World.var?;rw[hg];simp only[Option.bind_some,h2,Option.some.injEq];rw[Mv]at h1 h3;cases h1 with
 |ro _ _ _ us hb hul hu1 hlt hcell hp=>
  apply Array.ext_getElem?;intro i;by_cases hi:i<arr.size
  ·have hz:i<Lib.pow10Tab.length:=by rw[h3,List.length_map]at hi;exact hi
   have hu:i<us.length:=(by rw[hul,List.length_map];exact hz);have hc:=hcell i us[i] (List.getElem?_eq_getElem hu);have hq:=hp i (.int .u64 Lib.pow10Tab[i]) us[i] (by simp[hz]) (List.getElem?_eq_getElem hu);generalize us[i]=u at hc hq;cases hq;rw[Nat.zero_add]at hc;unfold World.cell? at hc;simp[h2]at hc;rw[hc];simp[hz]
  ·rw[Array.getElem?_eq_none (by omega)];rw[h3,List.length_map]at hi;rw[List.getElem?_toArray,List.getElem?_eq_none (by simpa using hi)]
theorem vV(n:Int)(h0: -999<=n)(h1:n<=999):Ok Tryz.prog 168 [aH n] ⟨.d (.str (itoaS n)),true⟩:=by
 refine⟨⟨_,Tryz.func168,by kernel_rfl,rfl⟩,λw X vs hX hr=>?_⟩
 match vs,hr.1 with
 |[v],_=>
  have h:=hr.2 0 _ _ rfl rfl;cases h;refine(Go.Proofs.Any.strconv_Itoa Tryz.itoaLay n (by omega) (by omega) w (RU hX.2 (by kernel_rfl))).mono ?_;rintro e w' ⟨rfl,k,os,rfl⟩;refine⟨_,rfl,⟨rfl,rfl,rfl,?_,λj hj=>Go.Sort.heap_grow_old (w.drewN k) os hj,Nat.le_add_right _ _⟩,none,?_⟩
  ·simp[Sort.grow]
  ·rw[Pv h0 h1];exact .str _
section
attribute[local simp] hZ.cond Nd.d_eq nd_t nd_dr nd_td ndsD
theorem Pw{x:Nd}(h:x.kind=32):exprT x=itoaS x.n:=by cases x;simp only[dQ]at h;subst h;unfold exprT;simp
theorem Px{x:Nd}(h:x.kind=33):exprT x=36::x.text:=by cases x;simp only[dQ]at h;subst h;unfold exprT;simp
theorem Py{x:Nd}(h:x.kind=36):exprT x=sKind:=by cases x;simp only[dQ]at h;subst h;unfold exprT;simp
theorem Pz{x:Nd}(h:x.kind=34\/x.kind=35):exprT x=x.text:=by cases x;simp only[dQ]at h;rcases h with rfl|rfl<;>(unfold exprT;simp)
theorem IY{x:Nd}(hr:rightN x=true)(he:isExprK x.kind=true):(26<=x.kind/\x.kind<=36)/\(x.kind=32->exprT x=itoaS x.n/\0<=x.n/\x.n<=999)/\(x.kind=33->exprT x=36::x.text)/\(x.kind=36->exprT x=sKind)/\
 (x.kind=34\/x.kind=35->exprT x=x.text)/\(x.kind<=31->∃a b,x.kids=[a,b]/\rightN a=true/\isExprK a.kind=true/\rightN b=true/\isExprK b.kind=true/\
   exprT x=paren (decide (lvlN a.kind<(if levelAt x.kind=1 then 2 else levelAt x.kind))) (exprT a)++32::(signAt x.kind++32::paren (decide (lvlN b.kind<levelAt x.kind+1)) (exprT b))):=by
 refine⟨isExprK_iff.1 he,λh=>⟨Pw h,?_⟩,Px,Py,Pz,λh=>?_⟩
 ·obtain⟨k,t,n,ks⟩:=x;have h:k=32:=h;subst h;obtain⟨_,_,_,w1,w2,_⟩:=right_mk.1 hr;exact⟨w1,w2⟩
 ·rcases mU hr he with⟨h1,_⟩|⟨h1,_⟩|h1|⟨h1,_⟩|⟨h1,_⟩|⟨k',a,b,h1,h2,h3,h4,h5,h6,h7⟩
  ·omega
  ·rw[h1]at h;exact absurd h (by simp)
  ·rw[h1]at h;exact absurd h (by simp)
  ·rw[h1]at h;exact absurd h (by simp)
  ·rw[h1]at h;exact absurd h (by simp)
  ·rw[h3];exact⟨a,b,rfl,h4,h5,h6,h7,xK h1 h2⟩
theorem Dd(x:Nd)(least:Int)(hx:Ok Tryz.prog 216 [x.d] ⟨.d (.str (exprT x)),true⟩)(hl:(exprT x).length<=10000000000):Ok Tryz.prog 231 [x.d,aH least] ⟨.d (.str (paren (decide (lvlN x.kind<least)) (exprT x))),true⟩:=by
 refine bF Tryz.func231 rfl Tryz.ntmps231 Tryz.results231 λw0 X hp=>?_;refine aA ?_;simp;refine aD ?_;refine aD ?_;have hv:=Pu x;refine eO.ro hT hW (λ|6=>some<| .plain ⟨.d (aH (lvlN x.kind)),true⟩|_=>none) ?_;simp;refine⟨by simpa using hv,?_⟩;refine aC ?_;simp;refine⟨λh1=>?_,λh1=>?_⟩
 ·refine aX hT hW (λ|10=>some<| .plain ⟨.d (.str (exprT x)),true⟩|_=>none) ?_;simp;refine⟨⟨⟨by simpa using hx,by omega⟩,by omega⟩,?_⟩;refine aF ?_;simp[paren,h1]
 ·refine aE ?_;simp;refine aX hT hW (λ|14=>some<| .plain ⟨.d (.str (exprT x)),true⟩|_=>none) ?_;simp;refine⟨by simpa using hx,?_⟩;refine aF ?_;simp[paren];intro h;omega
theorem Mw(x:Nd)(hr:rightN x=true)(he:isExprK x.kind=true)(hw:weighN x<=1000000000)(ih:∀y∈x.kids,rightN y=true->isExprK y.kind=true->weighN y<=1000000000->Ok Tryz.prog 216 [y.d] ⟨.d (.str (exprT y)),true⟩):Ok Tryz.prog 216 [x.d] ⟨.d (.str (exprT x)),true⟩:=by
 refine bF Tryz.func216 rfl Tryz.ntmps216 Tryz.results216 λw0 X hp=>?_;obtain⟨f0,f32,f33,f36,f34,f26⟩:=IY hr he;have hwx:=weighN_eq x;refine aA ?_;simp;refine aD ?_;refine aA ?_;simp;refine aL ?_;refine aA ?_;simp;refine aC ?_;simp;refine⟨λh2=>?_,λh2=>?_⟩
 ·refine aD ?_;obtain⟨q1,q2,q3⟩:=f32 h2;have hi:=vV x.n (by omega) q3;refine eO.ro hT hW (λ|11=>some<| .plain ⟨.d (.str (itoaS x.n)),true⟩|_=>none) ?_;simp;refine⟨hi,?_⟩;refine aF ?_;simp[q1]
 ·refine aA ?_;simp;refine aC ?_;simp;refine⟨λh4=>?_,λh4=>?_⟩
  ·refine aA ?_;simp;refine⟨by omega,?_⟩;refine aF ?_;simp[f33 h4]
  ·refine aA ?_;simp;refine aC ?_;simp;refine⟨λh6=>?_,λh6=>?_⟩
   ·refine aA ?_;simp;refine aF ?_;simp[f36 h6,sKind]
   ·refine aZ (ι:=BC) (λ⟨b⟩=>aQ [(1,.bx 1 0),(19,.d (.bool b))]) (λ⟨b⟩=>aG [(1,.box false [.d (aH x.kind),.d (.str x.text),.d (aH x.n),.d (ndsD x.kids)])]) (λ⟨b⟩=>b=true↔(x.kind=34\/x.kind=35)) ?_ λ⟨b⟩ hc10=>?_
    ·refine aA ?_;simp;refine aC ?_;simp;refine⟨λh8=>?_,λh8=>?_⟩
     ·refine aE ?_;simp;refine RJ.mk ⟨decide (x.kind=34)⟩ (aB hp [1,19] [(1,1)]) ?_;simp[h8]
     ·refine aM ?_;simp;refine RJ.mk ⟨decide (x.kind=35)⟩ (aB hp [1,19] [(1,1)]) ?_;simp only[decide_eq_true_eq];omega
    ·refine aC ?_;simp;refine⟨λh10=>?_,λh10=>?_⟩
     ·have q10:=hc10.1 h10;refine aA ?_;simp;refine aF ?_;simp[f34 q10]
     ·have q10:¬(x.kind=34\/x.kind=35):=λq=>by simp[hc10.2 q]at h10
      refine aE ?_;simp;refine aD ?_;have hk31:x.kind<=31:=by omega
      obtain⟨a,b',hks,ra,ea,rb,eb,hTx⟩:=f26 hk31;have q1:=Pt (k:=x.kind) f0.1 hk31;have q2:=xM;obtain⟨lv,hlv⟩:∃lv:Int,lv=if levelAt x.kind=1 then 2 else levelAt x.kind:=⟨_,rfl⟩;rw[<-hlv]at hTx;refine aM ?_;simp[q1];refine⟨⟨⟨by omega,by omega⟩,by omega⟩,?_⟩;refine aA ?_;simp;refine aZ (ι:=Unit) (λi=>aQ [(1,.bx 1 0),(3,.bx 3 0),(4,.d (aH lv))]) (λi=>aG [(1,.box false [.d (aH x.kind),.d (.str x.text),.d (aH x.n),.d (ndsD x.kids)]),(3,.box false [.d (.str (signAt x.kind)),.d (aH (levelAt x.kind))])]) (λi=>True) ?_ λi hc15=>?_
      ·refine aA ?_;simp;refine aC ?_;simp;refine⟨λh13=>?_,λh13=>?_⟩
       ·refine aM ?_;simp;exact(aB hp [1,3,4] [(1,1),(3,3)] (by simp[hlv,h13]))
       ·refine aE ?_;simp;exact(aB hp [1,3,4] [(1,1),(3,3)] (by simp[hlv,h13]))
      ·refine aD ?_;rw[hks]at hwx ih;simp only[weighL]at hwx;have la:=eB a ra ea;have lb:=eB b' rb eb;have pa:=sZ (decide (lvlN a.kind<lv)) (exprT a);have pb:=sZ (decide (lvlN b'.kind<levelAt x.kind+1)) (exprT b');have sl:=Gv x.kind ⟨f0.1,hk31⟩;have ka:=Dd a lv (ih a (by simp) ra ea (by omega)) (by omega);have kb:=Dd b' (levelAt x.kind+1) (ih b' (by simp) rb eb (by omega)) (by omega);have lvb:=(Mo f0.1 hk31).2.1;refine eO.rd [[],[],[],[],[],[],[51],[38,51],[38,51],[51],[51],[38],[38],[38],[38],[38],[38],[38]] [[],[],[],[],[],[38],[],[],[],[],[],[],[],[],[],[],[],[],[51]] (λ|38=>some<| .plain ⟨.d (.str (paren (decide (lvlN a.kind<lv)) (exprT a))),true⟩|51=>some<| .plain ⟨.d (.str (paren (decide (lvlN b'.kind<levelAt x.kind+1)) (exprT b'))),true⟩|_=>none) ?_;simp[hks];refine⟨⟨⟨⟨⟨⟨⟨by simpa using ka,by omega⟩,by omega⟩,by omega⟩,by omega⟩,by simpa using kb⟩,by omega⟩,?_⟩;refine aF ?_;simp[hTx]
theorem vW(x:Nd):rightN x=true->isExprK x.kind=true->weighN x<=1000000000->Ok Tryz.prog 216 [x.d] ⟨.d (.str (exprT x)),true⟩:=
 mS (p:=λx=>rightN x=true->isExprK x.kind=true->weighN x<=1000000000->Ok Tryz.prog 216 [x.d] ⟨.d (.str (exprT x)),true⟩) (λ_ _ _ _ ih hr he hw=>Mw _ hr he hw ih) x
end
section
attribute[local simp] hZ.cond Nd.d_eq nd_t nd_dr nd_td ndsD
theorem PA:tQ=wordsL.map DV.str:=rfl
theorem mD:tQ.length=26:=rfl
theorem vX{k:Int}(h0:0<=k)(h1:k<26):tQ[k.toNat]?.getD default=.str (wordAt k):=by
 have hk:k.toNat<wordsL.length:=by rw[words_len];omega
 rw[PA,List.getElem?_map,List.getElem?_eq_getElem hk];simp[wordAt,List.getD_eq_getElem?_getD,hk]
theorem Bq(k:Int):(wordAt k).length<=7:=by
 unfold wordAt;rw[List.getD_eq_getElem?_getD];cases e:wordsL[k.toNat]? with
 |none=>simp
 |some w=>
  have:=List.mem_of_getElem? e;have h:∀w∈wordsL,w.length<=7:=by decide
  exact h w this
theorem nY:∀(a b:List Nd),stmtsT (a++b)=stmtsT a++stmtsT b
 |[],b=>by simp[stmtsT]
 |x::a,b=>by simp[stmtsT,nY a b]
theorem Gw{l:List Nd}{i:Nat}(hi:i<l.length):stmtsT (l.take (i+1))=stmtsT (l.take i)++(stmtT l[i]++[32]):=by
 rw[<-List.take_append_getElem hi,nY];simp[stmtsT]
theorem IZ{l:List Nd}{i:Nat}(hi:i<l.length):withE (l.take (i+1))=withE (l.take i)++32::exprT l[i]:=by
 unfold withE;rw[<-List.take_append_getElem hi,List.flatMap_append];simp
theorem xN{l:List Nd}(h:∀e∈l,rightN e=true/\isExprK e.kind=true):(withE l).length<=9*weighL l:=by
 induction l with
 |nil=>simp[withE]
 |cons a r ih=>
  have h1:=ih λy hy=>h y (List.mem_cons_of_mem _ hy);have h2:=eB a (h a (by simp)).1 (h a (by simp)).2;have h3:1<=weighN a:=by rw[weighN_eq];omega
  have e:withE (a::r)=32::exprT a++withE r:=by simp[withE]
  rw[e,weighL];simp only[List.length_append,List.length_cons];omega
def PB(t e:aJ):aJ:=36::t++32::61::32::(e++[59])
def PC(p e:aJ):aJ:=p++32::61::32::(e++[59])
def Rh(w e b:aJ):aJ:=w++32::(e++32::b)
def Gx(a c:aJ):aJ:=a++32::(sElse++32::c)
theorem Br{l:List Nd}(h:∀e∈l,rightN e=true/\isExprK e.kind=true)(i:Nat):(withE (l.take i)).length<=9*weighL l:=by
 have h1:=xN h;have h2:withE (l.take i)++withE (l.drop i)=withE l:=by unfold withE;rw[<-List.flatMap_append,List.take_append_drop]
 rw[<-h2,List.length_append]at h1;omega
theorem KH{x e:Nd}(h:x.kind=9)(hk:x.kids=[e]):stmtT x=PB x.text (exprT e):=by
 cases x;simp only[dQ,mR]at h hk;subst hk;subst h;simp[stmtT,PB]
theorem Gy{x p e:Nd}(h:x.kind=10)(hk:x.kids=[p,e]):stmtT x=PC (exprT p) (exprT e):=by
 cases x;simp only[dQ,mR]at h hk;subst hk;subst h;simp[stmtT,PC]
theorem De{x e b:Nd}(h:x.kind=11\/x.kind=12)(hk:x.kids=[e,b]):stmtT x=Rh (wordAt x.kind) (exprT e) (blockT b):=by
 cases x;simp only[dQ,mR]at h hk;subst hk;rcases h with rfl|rfl<;>simp[stmtT,Rh]
theorem Dg{x e b c:Nd}(h:x.kind=11\/x.kind=12)(hk:x.kids=[e,b,c]):stmtT x=Gx (Rh (wordAt x.kind) (exprT e) (blockT b)) (blockT c):=by
 cases x;simp only[dQ,mR]at h hk;subst hk;rcases h with rfl|rfl<;>simp[stmtT,Rh,Gx]
theorem RW{x:Nd}(h:13<=x.kind):stmtT x=wordAt x.kind++midT x.kind x.text++withN x.n++withE x.kids++[59]:=by
 cases x;exact CZ _ _ _ h
theorem xO(x:Nd):blockT x=123::32::(stmtsT x.kids++[125]):=by cases x;unfold blockT;rfl
def RX(x:Nd):Prop:=rightN x=true/\isExprK x.kind=true
theorem Ja{x:Nd}(hr:rightN x=true)(hk:isStmtK x.kind=true):(9<=x.kind/\x.kind<=25)/\(x.kind=9->∃h0:0<x.kids.length,RX x.kids[0]/\stmtT x=PB x.text (exprT x.kids[0]))/\
 (x.kind=10->∃(h0:0<x.kids.length) (h1:1<x.kids.length),RX x.kids[0]/\RX x.kids[1]/\stmtT x=PC (exprT x.kids[0]) (exprT x.kids[1]))/\
 (x.kind=11\/x.kind=12->∃(h0:0<x.kids.length) (h1:1<x.kids.length),RX x.kids[0]/\mV x.kids[1]/\((x.kids.length=2/\stmtT x=Rh (wordAt x.kind) (exprT x.kids[0]) (blockT x.kids[1]))\/
   ∃h2:2<x.kids.length,mV x.kids[2]/\stmtT x=Gx (Rh (wordAt x.kind) (exprT x.kids[0]) (blockT x.kids[1])) (blockT x.kids[2])))/\
 (13<=x.kind->TE x.kind x.text x.n x.kids):=by
 refine⟨isStmtK_iff.1 hk,?_⟩;rcases Bo hr hk with⟨t',e,hx,h1,h2,h3⟩|⟨p,e,hx,h1,h2,h3,h4⟩|⟨k',e,b,hk',hx,h1,h2,h3,h4⟩|⟨e,b,c,hx,h1,h2,h3,h4,h5,h6⟩|⟨k',t',n',ks',h1,h2,hx,h3⟩
 ·subst hx;exact⟨λ_=>⟨by simp,⟨h2,h3⟩,KH rfl rfl⟩,λh=>by simp at h,λh=>by simp at h,λh=>by simp at h⟩
 ·subst hx;exact⟨λh=>by simp at h,λ_=>⟨by simp,by simp,⟨h1,uG h2⟩,⟨h3,h4⟩,Gy rfl rfl⟩,λh=>by simp at h,λh=>by simp at h⟩
 ·subst hx;exact⟨λh=>by simp at h;omega,λh=>by simp at h;omega,λ_=>⟨by simp,by simp,⟨h1,h2⟩,fE h3 h4,.inl ⟨rfl,De hk' rfl⟩⟩,λh=>by simp at h;omega⟩
 ·subst hx;exact⟨λh=>by simp at h,λh=>by simp at h,λ_=>⟨by simp,by simp,⟨h1,h2⟩,fE h3 h4,.inr ⟨by simp,fE h5 h6,Dg (.inl rfl) rfl⟩⟩,λh=>by simp at h⟩
 ·subst hx;exact⟨λh=>by simp at h;omega,λh=>by simp at h;omega,λh=>by simp at h;omega,λ_=>h3⟩
theorem KI(k:Int)(t:aJ):(midT k t).length<=t.length+2:=by
 unfold midT;split
 ·simp
 ·split<;>simp
theorem Dh(n:Int):(withN n).length<=5:=by
 have:=bV n;unfold withN;split
 ·simp only[List.length_cons];omega
 ·simp
theorem zY{l:List Nd}(h:∀y∈l,(stmtT y).length+1<=40*weighN y)(i:Nat):(stmtsT (l.take i)).length<=40*weighL l:=by
 have key:∀l:List Nd,(∀y∈l,(stmtT y).length+1<=40*weighN y)->(stmtsT l).length<=40*weighL l:=λl=>by
  induction l with
  |nil=>intro _;simp[stmtsT]
  |cons a r ih=>
   intro h;have h1:=ih λy hy=>h y (List.mem_cons_of_mem _ hy);have h2:=h a (by simp);have h3:1<=weighN a:=by rw[weighN_eq];omega
   simp only[stmtsT,weighL,List.length_append,List.length_cons];omega
 have h1:=key l h;have h2:=nY (l.take i) (l.drop i);rw[List.take_append_drop]at h2;rw[h2,List.length_append]at h1;omega
theorem kH(x:Nd):(rightN x=true->isStmtK x.kind=true->(stmtT x).length+1<=40*weighN x)/\(mV x->(blockT x).length<=40*weighN x):=by
 refine mS (p:=λx=>(rightN x=true->isStmtK x.kind=true->(stmtT x).length+1<=40*weighN x)/\(mV x->(blockT x).length<=40*weighN x)) (λk t n ks ih=>⟨?_,?_⟩) x
 ·intro hr hk;have hw:weighN (.mk k t n ks)=weighL ks+t.length+1:=by rw[weighN]
  have hwl:=Bq k;rcases Bo hr hk with⟨t',e,hx,h1,h2,h3⟩|⟨p,e,hx,h1,h2,h3,h4⟩|⟨k',e,b,hk',hx,h1,h2,h3,h4⟩|⟨e,b,c,hx,h1,h2,h3,h4,h5,h6⟩|⟨k',t',n',ks',h1,h2,hx,h3⟩
  ·injection hx with i1 i2 i3 i4
   subst i1;subst i2;subst i4;have:=eB e h2 h3;rw[KH rfl rfl,hw];simp only[PB,weighL,List.length_append,List.length_cons,List.length_nil,pR];omega
  ·injection hx with i1 i2 i3 i4
   subst i1;subst i4;have:=eB e h3 h4;have:=eB p h1 (uG h2);rw[Gy rfl rfl,hw];simp only[PC,weighL,List.length_append,List.length_cons,List.length_nil];omega
  ·injection hx with i1 i2 i3 i4
   subst i1;subst i4;have:=eB e h1 h2;have:=(ih b (by simp)).2 (fE h3 h4);rw[De (x:=.mk k t n [e,b]) hk' rfl,hw];simp only[Rh,weighL,List.length_append,List.length_cons,dQ];omega
  ·injection hx with i1 i2 i3 i4
   subst i1;subst i4;have:=eB e h1 h2;have:=(ih b (by simp)).2 (fE h3 h4);have:=(ih c (by simp)).2 (fE h5 h6);rw[Dg (.inl rfl) rfl,hw];simp only[Rh,Gx,weighL,List.length_append,List.length_cons,dQ,show sElse.length=4 from rfl];omega
  ·injection hx with i1 i2 i3 i4
   subst i1;subst i2;subst i3;subst i4;have:=xN (Da h3).2.2.2;have:=KI k t;have:=Dh n;rw[CZ _ _ _ h1,hw];simp only[List.length_append,List.length_cons,List.length_nil];omega
 ·rintro⟨ks',hx,hy⟩;injection hx with i1 i2 i3 i4
  subst i4;have key:∀l:List Nd,(∀y∈l,(stmtT y).length+1<=40*weighN y)->(stmtsT l).length<=40*weighL l:=λl=>by
   induction l with
   |nil=>intro _;simp[stmtsT]
   |cons a r ih=>
    intro h;have h1:=ih λy hy=>h y (List.mem_cons_of_mem _ hy);have h2:=h a (by simp);have h3:1<=weighN a:=by rw[weighN_eq];omega
    simp only[stmtsT,weighL,List.length_append,List.length_cons];omega
  have:=key ks λy hyk=>(ih y hyk).1 (hy y hyk).1 (hy y hyk).2;rw[xO,weighN];simp only[mR,List.length_append,List.length_cons,List.length_nil];omega
theorem Jb(x:Nd)(hb:mV x)(hw:weighN x<=1000000000)(ih:∀y∈x.kids,Ok Tryz.prog 197 [y.d] ⟨.d (.str (stmtT y)),true⟩):Ok Tryz.prog 167 [x.d] ⟨.d (.str (blockT x)),true⟩:=by
 refine bF Tryz.func167 rfl Tryz.ntmps167 Tryz.results167 λw0 X hp=>?_;have hlen:=(kH x).2 hb;have hwx:=pV x;have hstm:∀y∈x.kids,rightN y=true/\isStmtK y.kind=true:=by obtain⟨ks,rfl,h⟩:=hb;exact h
 refine aA ?_;simp;refine aA ?_;simp;refine aD ?_;refine aA ?_;simp;refine aL ?_;refine aS (ι:=Nat) (λi=>aQ [(3,.d (.str (123::32::stmtsT (x.kids.take i)))),(7,.d (ndsD x.kids)),(8,.d (aH x.kids.length)),(9,.d (aH i))]) (λi=>aG []) (λi=>i<=x.kids.length) (λi=>x.kids.length-i) 0 (aB hp [3,7,8,9] [] (by simp[stmtsT])) (Nat.zero_le _) λi hi3=>?_;refine aA ?_;simp;refine aD ?_;refine aC ?_;simp;refine⟨λh3=>?_,λh3=>?_⟩
 ·refine aE ?_;simp;refine aD ?_;refine aL ?_;refine aD ?_;have hi:i<x.kids.length:=by omega
  refine aM ?_;simp[hi];have hk:=ih _ (List.getElem_mem hi);have hs:=hstm _ (List.getElem_mem hi);have l1:=(kH x.kids[i]).1 hs.1 hs.2;have l2:=sW hi;have l3:=zY (l:=x.kids) (λy hy=>(kH y).1 (hstm y hy).1 (hstm y hy).2) i;have l4:=weighN_eq x;refine eO.ro hT hW (λ|15=>some<| .plain ⟨.d (.str (stmtT x.kids[i])),true⟩|_=>none) ?_;simp;refine⟨⟨⟨by simpa using hk,by omega⟩,by omega⟩,?_⟩;refine aM ?_;simp;refine⟨by omega,?_⟩;refine Ks.mk (i+1) (aB hp [3,7,8,9] [] (by simp[Gw hi])) ?_ ?_
  ·omega
  ·omega
 ·refine bT ?_;simp;refine aD ?_;have hi:i=x.kids.length:=by omega
  subst hi;rw[List.take_length];rw[xO]at hlen;simp only[List.length_append,List.length_cons]at hlen;refine aM ?_;simp;refine⟨by omega,?_⟩;refine aF ?_;simp[xO]
end
section
attribute[local simp] hZ.cond Nd.d_eq nd_t nd_dr nd_td ndsD
theorem Mx(x:Nd)(hr:rightN x=true)(hk:isStmtK x.kind=true)(hw:weighN x<=1000000000)(ihb:∀y∈x.kids,mV y->Ok Tryz.prog 167 [y.d] ⟨.d (.str (blockT y)),true⟩):Ok Tryz.prog 197 [x.d] ⟨.d (.str (stmtT x)),true⟩:=by
 refine bF Tryz.func197 rfl Tryz.ntmps197 Tryz.results197 λw0 X hp=>?_;obtain⟨f0,f9,f10,f11,f13⟩:=Ja hr hk;have hwx:=weighN_eq x;have hlen:=(kH x).1 hr hk;have wl:=Bq x.kind;have q2:=mD;have hmem:∀(i:Nat) (hi:i<x.kids.length),weighN x.kids[i]<weighN x:=λi hi=>sW hi;refine aA ?_;simp;refine aD ?_;refine aA ?_;simp;refine aL ?_;refine aA ?_;simp;refine aC ?_;simp;refine⟨λh2=>?_,λh2=>?_⟩
 ·refine aD ?_;obtain⟨h0,k0,e0⟩:=f9 h2;have w0:=hmem 0 h0;have l0:=eB _ k0.1 k0.2;have c0:=vW _ k0.1 k0.2 (by omega);refine eO.rd [[19],[19],[19],[19]] [[],[],[],[],[],[],[],[],[19]] (λ|19=>some<| .plain ⟨.d (.str (exprT x.kids[0])),true⟩|_=>none) ?_;simp[h0];refine⟨⟨⟨⟨⟨by omega,by omega⟩,by simpa using c0⟩,by omega⟩,by omega⟩,?_⟩;refine aF ?_;simp[e0,PB]
 ·refine aA ?_;simp;refine aC ?_;simp;refine⟨λh4=>?_,λh4=>?_⟩
  ·refine aD ?_;obtain⟨h0,h1,k0,k1,e0⟩:=f10 h4;have w0:=hmem 0 h0;have w1:=hmem 1 h1;have l0:=eB _ k0.1 k0.2;have l1:=eB _ k1.1 k1.2;have c0:=vW _ k0.1 k0.2 (by omega);have c1:=vW _ k1.1 k1.2 (by omega);refine eO.rd [[],[],[],[],[],[34],[28],[28],[28],[28]] [[],[],[],[],[28],[],[],[],[],[],[34]] (λ|28=>some<| .plain ⟨.d (.str (exprT x.kids[0])),true⟩|34=>some<| .plain ⟨.d (.str (exprT x.kids[1])),true⟩|_=>none) ?_;simp[h0,h1];refine⟨by(repeat' with_reducible apply And.intro)<;>first|omega|(simpa using c0)|(simpa using c1),?_⟩;refine aF ?_;simp[e0,PC]
  ·refine aZ (ι:=BC) (λ⟨b⟩=>aQ [(1,.bx 1 0),(37,.d (.bool b))]) (λ⟨b⟩=>aG [(1,.box false [.d (aH x.kind),.d (.str x.text),.d (aH x.n),.d (ndsD x.kids)])]) (λ⟨b⟩=>b=true↔(x.kind=11\/x.kind=12)) ?_ λ⟨b⟩ hc8=>?_
   ·refine aA ?_;simp;refine aC ?_;simp;refine⟨λh6=>?_,λh6=>?_⟩
    ·refine aE ?_;simp;refine RJ.mk ⟨decide (x.kind=11)⟩ (aB hp [1,37] [(1,1)]) ?_;simp[h6]
    ·refine aM ?_;simp;refine RJ.mk ⟨decide (x.kind=12)⟩ (aB hp [1,37] [(1,1)]) ?_;simp only[decide_eq_true_eq];omega
   ·refine aC ?_;simp;refine⟨λh8=>?_,λh8=>?_⟩
    ·have q8:=hc8.1 h8;refine aD ?_;obtain⟨h0,h1,k0,b1,e0⟩:=f11 q8;have w0:=hmem 0 h0;have w1:=hmem 1 h1;have l0:=eB _ k0.1 k0.2;have l1:=(kH x.kids[1]).2 b1;have c0:=vW _ k0.1 k0.2 (by omega);have c1:=ihb _ (List.getElem_mem h1) b1;have q1:=vX (k:=x.kind) (by omega) (by omega);refine eO.rd [[49,56],[49,56],[49,56],[49,56],[49,56],[],[],[],[],[],[56],[56],[49],[49],[49],[49]] [[],[],[],[],[],[],[],[],[],[49],[],[],[],[],[],[],[56]] (λ|49=>some<| .plain ⟨.d (.str (exprT x.kids[0])),true⟩|56=>some<| .plain ⟨.d (.str (blockT x.kids[1])),true⟩|_=>none) ?_;simp[h0,h1,q1];refine⟨⟨⟨⟨⟨⟨⟨⟨⟨by omega,by omega⟩,by omega⟩,by simpa using c0⟩,by omega⟩,by omega⟩,by omega⟩,by simpa using c1⟩,by omega⟩,?_⟩;refine aD ?_;refine aA ?_;simp;refine aC ?_;simp;refine⟨λh9=>?_,λh9=>?_⟩
     ·have h2':2<x.kids.length:=(by omega);rcases e0 with⟨e0,_⟩|⟨_,b2,e0⟩
      ·omega
      have w2:=hmem 2 h2';have l2:=(kH x.kids[2]).2 b2;have c2:=ihb _ (List.getElem_mem h2') b2;refine eO.ro hT hW (λ|67=>some<| .plain ⟨.d (.str (blockT x.kids[2])),true⟩|_=>none) ?_;simp[h2'];refine⟨by(repeat' with_reducible apply And.intro)<;>first|omega|(simpa using c2),?_⟩;refine aA ?_;simp;refine aF ?_;simp[e0,Rh,Gx,sElse]
     ·refine aE ?_;simp;refine aA ?_;simp;refine aF ?_;rcases e0 with⟨_,e0⟩|⟨h2,_,_⟩
      ·simp[e0,Rh]
      ·omega
    ·have q8:¬(x.kind=11\/x.kind=12):=λq=>by simp[hc8.2 q]at h8
     refine aE ?_;simp;refine aD ?_;have hcm:=f13 (by omega);obtain⟨g1,g2,g3,g4⟩:=Da hcm;have e0:=RW (x:=x) (by omega);have ml:=KI x.kind x.text;have nl:=Dh x.n;have kl:=xN g4;have q1:=vX (k:=x.kind) (by omega) (by omega);refine aM ?_;simp[q1];refine⟨by(repeat' with_reducible apply And.intro)<;>omega,?_⟩;refine aZ (ι:=Unit) (λi=>aQ [(1,.bx 1 0),(4,.d (.str (wordAt x.kind++midT x.kind x.text)))]) (λi=>aG [(1,.box false [.d (aH x.kind),.d (.str x.text),.d (aH x.n),.d (ndsD x.kids)])]) (λi=>True) ?_ λi hc21=>?_
     ·refine aA ?_;simp;refine aL ?_;refine aZ (ι:=BC) (λ⟨b⟩=>aQ [(1,.bx 1 0),(4,.d (.str (wordAt x.kind))),(76,.d (aH x.kind)),(82,.d (.bool b))]) (λ⟨b⟩=>aG [(1,.box false [.d (aH x.kind),.d (.str x.text),.d (aH x.n),.d (ndsD x.kids)])]) (λ⟨b⟩=>b=true↔(x.kind=19\/x.kind=20)) ?_ λ⟨b⟩ hc17=>?_
      ·refine aA ?_;simp;refine aC ?_;simp;refine⟨λh15=>?_,λh15=>?_⟩
       ·refine aE ?_;simp;refine RJ.mk ⟨decide (x.kind=19)⟩ (aB hp [1,4,76,82] [(1,1)]) ?_;simp[h15]
       ·refine aM ?_;simp;refine RJ.mk ⟨decide (x.kind=20)⟩ (aB hp [1,4,76,82] [(1,1)]) ?_;simp only[decide_eq_true_eq];omega
      ·refine aC ?_;simp;refine⟨λh17=>?_,λh17=>?_⟩
       ·have q17:=hc17.1 h17;refine aM ?_;simp;refine⟨by(repeat' with_reducible apply And.intro)<;>omega,?_⟩;exact(aB hp [1,4] [(1,1)] (by simp[midT,q17]))
       ·have q17:¬(x.kind=19\/x.kind=20):=λq=>by simp[hc17.2 q]at h17
        refine aZ (ι:=BC) (λ⟨b⟩=>aQ [(1,.bx 1 0),(4,.d (.str (wordAt x.kind))),(76,.d (aH x.kind)),(90,.d (.bool b))]) (λ⟨b⟩=>aG [(1,.box false [.d (aH x.kind),.d (.str x.text),.d (aH x.n),.d (ndsD x.kids)])]) (λ⟨b⟩=>b=true↔(x.kind=21\/x.kind=25\/x.kind=24)) ?_ λ⟨b⟩ hc14=>?_
        ·refine aA ?_;simp;refine aC ?_;simp;refine⟨λh18=>?_,λh18=>?_⟩
         ·refine aE ?_;simp;refine RJ.mk ⟨decide (x.kind=21)⟩ (aB hp [1,4,76,90] [(1,1)]) ?_;simp[h18]
         ·refine aA ?_;simp;refine aC ?_;simp;refine⟨λh19=>?_,λh19=>?_⟩
          ·refine aE ?_;simp;refine RJ.mk ⟨decide (x.kind=25)⟩ (aB hp [1,4,76,90] [(1,1)]) ?_;simp[h19]
          ·refine aM ?_;simp;refine RJ.mk ⟨decide (x.kind=24)⟩ (aB hp [1,4,76,90] [(1,1)]) ?_;simp only[decide_eq_true_eq];omega
        ·refine aC ?_;simp;refine⟨λh14=>?_,λh14=>?_⟩
         ·have q14:=hc14.1 h14;refine aE ?_;simp;exact(aB hp [1,4] [(1,1)] (by simp[midT,q17,q14]))
         ·have q14:¬(x.kind=21\/x.kind=25\/x.kind=24):=λq=>by simp[hc14.2 q]at h14
          refine aM ?_;simp;refine⟨by(repeat' with_reducible apply And.intro)<;>omega,?_⟩;exact(aB hp [1,4] [(1,1)] (by simp[midT,q17,q14]))
     ·refine aZ (ι:=Unit) (λi=>aQ [(1,.bx 1 0),(4,.d (.str (wordAt x.kind++(midT x.kind x.text++withN x.n))))]) (λi=>aG [(1,.box false [.d (aH x.kind),.d (.str x.text),.d (aH x.n),.d (ndsD x.kids)])]) (λi=>True) ?_ λi hc23=>?_
      ·refine aA ?_;simp;refine aC ?_;simp;refine⟨λh21=>?_,λh21=>?_⟩
       ·have ci:=vV x.n (by omega) g3;have hn:withN x.n=32::itoaS x.n:=by unfold withN;rw[if_pos h21]
        have il:=bV x.n;refine eO.ro hT hW (λ|100=>some<| .plain ⟨.d (.str (itoaS x.n)),true⟩|_=>none) ?_;simp;refine⟨by(repeat' with_reducible apply And.intro)<;>first|omega|(simpa using ci)|(simp only[List.length_append];omega),?_⟩;exact(aB hp [1,4] [(1,1)] (by simp[hn]))
       ·refine aE ?_;simp;exact(aB hp [1,4] [(1,1)] (by simp[withN,show¬0<x.n by omega]))
      ·refine aD ?_;refine aA ?_;simp;refine aL ?_;refine aS (ι:=Nat) (λi=>aQ [(4,.d (.str (wordAt x.kind++(midT x.kind x.text++(withN x.n++withE (x.kids.take i)))))),(104,.d (ndsD x.kids)),(105,.d (aH x.kids.length)),(106,.d (aH i))]) (λi=>aG []) (λi=>i<=x.kids.length) (λi=>x.kids.length-i) 0 (aB hp [4,104,105,106] [] (by simp[withE])) (Nat.zero_le _) λi hi24=>?_;refine aA ?_;simp;refine aD ?_;refine aC ?_;simp;refine⟨λh24=>?_,λh24=>?_⟩
       ·refine aE ?_;simp;refine aD ?_;refine aL ?_;refine aD ?_;have hi:i<x.kids.length:=by omega
        refine aM ?_;simp[hi];have ki:=g4 _ (List.getElem_mem hi);have wi:=hmem i hi;have li:=eB _ ki.1 ki.2;have ci:=vW _ ki.1 ki.2 (by omega);have lt:=Br g4 i;refine eO.ro hT hW (λ|112=>some<| .plain ⟨.d (.str (exprT x.kids[i])),true⟩|_=>none) ?_;simp;refine⟨by(repeat' with_reducible apply And.intro)<;>first|omega|(simpa using ci)|(simp only[List.length_append];omega),?_⟩;have:=pV x;refine aM ?_;simp;refine⟨by omega,?_⟩;refine Ks.mk (i+1) (aB hp [4,104,105,106] [] (by simp[IZ hi])) ?_ ?_
        ·omega
        ·omega
       ·refine bT ?_;simp;refine aD ?_;have hi:i=x.kids.length:=by omega
        subst hi;rw[List.take_length];refine aM ?_;simp;refine⟨by first|omega|(simp only[List.length_append];omega),?_⟩;refine aF ?_;simp[e0]
end
section
attribute[local simp] hZ.cond Nd.d_eq nd_t nd_dr nd_td ndsD
theorem UB(x:Nd):(rightN x=true->isStmtK x.kind=true->weighN x<=1000000000->Ok Tryz.prog 197 [x.d] ⟨.d (.str (stmtT x)),true⟩)/\(mV x->weighN x<=1000000000->Ok Tryz.prog 167 [x.d] ⟨.d (.str (blockT x)),true⟩):=by
 refine mS (p:=λx=>(rightN x=true->isStmtK x.kind=true->weighN x<=1000000000->Ok Tryz.prog 197 [x.d] ⟨.d (.str (stmtT x)),true⟩)/\(mV x->weighN x<=1000000000->Ok Tryz.prog 167 [x.d] ⟨.d (.str (blockT x)),true⟩)) (λk t n ks ih=>⟨?_,?_⟩) x
 ·intro hr hk hw;have hwk:∀y∈ks,weighN y<=1000000000:=λy hy=>by have:=weigh_mem hy;rw[weighN]at hw;omega
  exact Mx _ hr hk hw λy hy hb=>(ih y hy).2 hb (hwk y hy)
 ·intro hb hw;have hwk:∀y∈ks,weighN y<=1000000000:=λy hy=>by have:=weigh_mem hy;rw[weighN]at hw;omega
  obtain⟨ks',hx,hy⟩:=id hb;injection hx with i1 i2 i3 i4
  exact Jb _ hb hw λy hyk=>(ih y hyk).1 (hy y (i4▸hyk)).1 (hy y (i4▸hyk)).2 (hwk y hyk)
theorem My{x:Nd}:(itemT x).length<=9*weighN x:=by
 have:=bV x.n;rw[weighN_eq];simp only[itemT,List.length_append,List.length_cons,List.length_nil];omega
theorem uI:∀l:List Nd,(l.flatMap itemT).length<=9*weighL l
 |[]=>by simp
 |a::r=>by
  have h1:=uI r;have h2:=My (x:=a);simp only[List.flatMap_cons,weighL,List.length_append];omega
theorem Jc{l:List Nd}{i:Nat}(hi:i<l.length):(l.take (i+1)).flatMap itemT=(l.take i).flatMap itemT++itemT l[i]:=by
 rw[<-List.take_append_getElem hi,List.flatMap_append];simp
theorem Bs{l:List Nd}(i:Nat):((l.take i).flatMap itemT).length<=9*weighL l:=by
 have h1:=uI l;have h2:(l.take i).flatMap itemT++(l.drop i).flatMap itemT=l.flatMap itemT:=by rw[<-List.flatMap_append,List.take_append_drop]
 rw[<-h2,List.length_append]at h1;omega
def tA(l:List Nd):aJ:=l.flatMap itemT
theorem KJ(x:Nd)(hd:TF x)(hw:weighN x<=1000000000):Ok Tryz.prog 131 [x.d] ⟨.d (.str (textT x)),true⟩:=by
 refine bF Tryz.func131 rfl Tryz.ntmps131 Tryz.results131 λw0 X hp=>?_;obtain⟨ht,hd⟩:=hd;have hwx:=weighN_eq x;have wl:=Bq x.kind;have q2:=mD;have f0:0<=x.kind/\x.kind<=6:=by rcases hd with⟨h|h,_⟩|⟨h,_⟩|⟨h,_⟩|⟨h,_⟩|⟨h|h,_⟩<;>omega
 have q1:=vX (k:=x.kind) (by omega) (by omega);have il:=bV x.n;refine aA ?_;simp;refine aD ?_;refine eO.rd [] [] (λ_=>none) ?_;simp[q1];refine⟨by(repeat' with_reducible apply And.intro)<;>omega,?_⟩;refine aD ?_;refine aA ?_;simp;refine aL ?_;refine aZ (ι:=BC) (λ⟨b⟩=>aQ [(1,.bx 1 0),(3,.d (.str (wordAt x.kind++32::x.text))),(15,.d (aH x.kind)),(16,.d (.bool b))]) (λ⟨b⟩=>aG [(1,.box false [.d (aH x.kind),.d (.str x.text),.d (aH x.n),.d (ndsD x.kids)])]) (λ⟨b⟩=>b=true↔(x.kind=5\/x.kind=6)) ?_ λ⟨b⟩ hc5=>?_
 ·refine aA ?_;simp;refine aC ?_;simp;refine⟨λh3=>?_,λh3=>?_⟩
  ·refine aE ?_;simp;refine RJ.mk ⟨decide (x.kind=5)⟩ (aB hp [1,3,15,16] [(1,1)]) ?_;simp[h3]
  ·refine aM ?_;simp;refine RJ.mk ⟨decide (x.kind=6)⟩ (aB hp [1,3,15,16] [(1,1)]) ?_;simp only[decide_eq_true_eq];omega
 ·refine aC ?_;simp;refine⟨λh5=>?_,λh5=>?_⟩
  ·have q5:=hc5.1 h5;refine aD ?_;have hd5:∃b,x=.mk x.kind x.text 0 [b]/\mV b:=by
    rcases hd with⟨_,h⟩|⟨h,_⟩|⟨h,_⟩|⟨h,_⟩|⟨h|h,_⟩<;>first|exact h|omega
   obtain⟨c,hx,hb⟩:=hd5;have hks:x.kids=[c]:=by rw[hx];rfl
   rw[hks]at hwx;simp only[weighL]at hwx;have bl:=(kH c).2 hb;have kb:=(UB c).2 hb (by omega);refine eO.ro hT hW (λ|25=>some<| .plain ⟨.d (.str (blockT c)),true⟩|_=>none) ?_;simp[hks];refine⟨⟨⟨by omega,by simpa using kb⟩,by omega⟩,?_⟩;refine aF ?_;simp[textT,q5,hks]
  ·have q5:¬(x.kind=5\/x.kind=6):=λq=>by simp[hc5.2 q]at h5
   refine aA ?_;simp;refine aC ?_;simp;refine⟨λh6=>?_,λh6=>?_⟩
   ·refine aD ?_;have hd7:∀y∈x.kids,Pp y:=by
     rcases hd with⟨h|h,_⟩|⟨_,_,h⟩|⟨h,_⟩|⟨h,_⟩|⟨h|h,_⟩<;>first|exact h|omega
    refine aM ?_;simp;refine⟨by omega,?_⟩;refine aD ?_;refine aA ?_;simp;refine aL ?_;refine aS (ι:=Nat) (λi=>aQ [(3,.d (.str (wordAt x.kind++32::(x.text++32::123::32::tA (x.kids.take i))))),(32,.d (ndsD x.kids)),(33,.d (aH x.kids.length)),(34,.d (aH i))]) (λi=>aG []) (λi=>i<=x.kids.length) (λi=>x.kids.length-i) 0 (aB hp [3,32,33,34] [] (by simp[tA])) (Nat.zero_le _) λi hi9=>?_;refine aA ?_;simp;refine aD ?_;refine aC ?_;simp;refine⟨λh9=>?_,λh9=>?_⟩
    ·refine aE ?_;simp;refine aD ?_;refine aL ?_;refine aD ?_;have hi:i<x.kids.length:=by omega
     refine aM ?_;simp[hi];obtain⟨t',n',hy,g1,g2,g3⟩:=hd7 _ (List.getElem_mem hi);have en:x.kids[i].n=n':=by rw[hy];rfl
     have ci:=vV x.kids[i].n (by omega) (by omega);have lt:=Bs (l:=x.kids) i;have li:=bV x.kids[i].n;have wi:=sW hi;rw[weighN_eq x.kids[i]]at wi;have lo:(tA (x.kids.take i)).length<=9*weighL x.kids:=lt;refine eO.rd [[44],[44],[44],[44]] [[],[],[],[],[],[],[44]] (λ|44=>some<| .plain ⟨.d (.str (itoaS x.kids[i].n)),true⟩|_=>none) ?_;simp;refine⟨by(repeat' with_reducible apply And.intro)<;>first|omega|exact ci|(simp only[List.length_append,List.length_cons];omega),?_⟩;have:=pV x;refine aM ?_;simp;refine⟨by omega,?_⟩;refine Ks.mk (i+1) (aB hp [3,32,33,34] [] (by simp[tA,Jc hi,itemT])) ?_ ?_
     ·omega
     ·omega
    ·refine bT ?_;simp;refine aD ?_;have hi:i=x.kids.length:=by omega
     subst hi;rw[List.take_length];have lt:=uI x.kids;have lo:(tA x.kids).length<=9*weighL x.kids:=lt;refine aM ?_;simp;refine⟨by omega,?_⟩;refine aF ?_;simp[textT,q5,h6,tA]
   ·refine aA ?_;simp;refine aC ?_;simp;refine⟨λh14=>?_,λh14=>?_⟩
    ·have hd15: -999<=x.n/\x.n<=999:=by
      rcases hd with⟨h|h,_⟩|⟨h,_⟩|⟨_,_,h⟩|⟨h,_⟩|⟨h|h,_⟩<;>omega
     have ci:=vV x.n hd15.1 hd15.2;refine eO.ro hT hW (λ|56=>some<| .plain ⟨.d (.str (itoaS x.n)),true⟩|_=>none) ?_;simp;refine⟨by(repeat' with_reducible apply And.intro)<;>first|omega|exact ci,?_⟩;refine aA ?_;simp;refine⟨by omega,?_⟩;refine aF ?_;simp[textT,q5,h6,h14]
    ·refine aA ?_;simp;refine aC ?_;simp;refine⟨λh16=>?_,λh16=>?_⟩
     ·have hd17:0<=x.n/\x.n<=3:=by
       rcases hd with⟨h|h,_⟩|⟨h,_⟩|⟨h,_⟩|⟨_,_,h⟩|⟨h|h,_⟩<;>omega
      have ci:=vV x.n (by omega) (by omega);refine eO.ro hT hW (λ|64=>some<| .plain ⟨.d (.str (itoaS x.n)),true⟩|_=>none) ?_;simp;refine⟨by(repeat' with_reducible apply And.intro)<;>first|omega|exact ci,?_⟩;refine aA ?_;simp;refine⟨by omega,?_⟩;refine aF ?_;simp[textT,q5,h6,h14,h16]
     ·refine aE ?_;simp;refine aA ?_;simp;refine⟨by omega,?_⟩;refine aF ?_;simp[textT,q5,h6,h14,h16]
end
section
attribute[local simp] hZ.cond Nd.d_eq nd_t nd_dr nd_td ndsD aO
theorem uJ(c:UInt8):letterB c=(decide (97<=(c.toNat:Int))&&decide ((c.toNat:Int)<=122)):=by
 unfold letterB;congr 1<;>(rw[decide_eq_decide,UInt8.le_iff_toNat_le];exact⟨λh=>by have:(97:UInt8).toNat=97:=rfl;have:(122:UInt8).toNat=122:=rfl;omega,λh=>by have:(97:UInt8).toNat=97:=rfl;have:(122:UInt8).toNat=122:=rfl;omega⟩)
theorem xP(c:UInt8):digitB c=(decide (48<=(c.toNat:Int))&&decide ((c.toNat:Int)<=57)):=by
 unfold digitB;congr 1<;>(rw[decide_eq_decide,UInt8.le_iff_toNat_le];exact⟨λh=>by have:(48:UInt8).toNat=48:=rfl;have:(57:UInt8).toNat=57:=rfl;omega,λh=>by have:(48:UInt8).toNat=48:=rfl;have:(57:UInt8).toNat=57:=rfl;omega⟩)
theorem tB(c:UInt8):Ok Tryz.prog 155 [.int .u8 (c.toNat:Int)] ⟨.d (.bool (letterB c)),true⟩:=by
 refine bF Tryz.func155 rfl Tryz.ntmps155 Tryz.results155 λw0 X hp=>?_;refine aA ?_;simp;refine aA ?_;simp;refine aF ?_;simp[uJ]
theorem rN(c:UInt8):Ok Tryz.prog 157 [.int .u8 (c.toNat:Int)] ⟨.d (.bool (digitB c)),true⟩:=by
 refine bF Tryz.func157 rfl Tryz.ntmps157 Tryz.results157 λw0 X hp=>?_;refine aA ?_;simp;refine aA ?_;simp;refine aF ?_;simp[xP]
theorem PD(s:aJ)(p:UInt8->Bool)(g:FuncId)(hg:∀c:UInt8,Ok Tryz.prog g [.int .u8 (c.toNat:Int)] ⟨.d (.bool (p c)),true⟩)(hl:s.length<=9223372036854775807):Ok Tryz.prog 158 [.str s,.fn g []] ⟨.d (aH (runP p s)),true⟩:=by
 refine bF Tryz.func158 rfl Tryz.ntmps158 Tryz.results158 λw0 X hp=>?_;refine aA ?_;simp;refine aA ?_;simp;refine aD ?_;refine aL ?_;refine aS (ι:=Nat) (λi=>aQ [(0,.d (.str s)),(1,.d (.fn g [])),(5,.d (aH i))]) (λi=>aG []) (λi=>i<=s.length/\∀(j:Nat) (h:j<s.length),j<i->p s[j]=true) (λi=>s.length-i) 0 (aB hp [0,1,5] []) (⟨Nat.zero_le _,λj _ h=>absurd h (Nat.not_lt_zero _)⟩) λi hi2=>?_;refine aD ?_;refine aD ?_;have hc:=hg (s.getD i 0);refine eO.ro hT hW (λ|15=>some<| .plain ⟨.d (.bool (p (s.getD i 0))),true⟩|_=>none) ?_;simp[dE];refine⟨λ_=>by simpa using hc,?_⟩;refine aC ?_;simp;refine⟨λg1 g2=>?_,λg=>?_⟩
 ·refine aE ?_;simp;refine aL ?_;refine aM ?_;simp;refine⟨by omega,?_⟩;refine Ks.mk (i+1) (aB hp [0,1,5] []) ?_ ?_
  ·refine⟨by omega,λj hj q=>?_⟩;rcases Nat.lt_or_ge j i with q'|q'
   ·exact hi2.2 j hj q'
   ·have:j=i:=(by omega);subst this;simpa [g1]using g2
  ·omega
 ·refine bT ?_;simp;refine aA ?_;simp;refine aF ?_;simp;have hr:=runP_eq (p:=p) (s:=s) hi2.1 (λj hj=>hi2.2 j (by omega) hj) (λhl=>by
   have:=g hl;simpa [hl]using this)
  omega
theorem PE(c:UInt8):Ok Tryz.prog 178 [.int .u8 (c.toNat:Int)] ⟨.d (.bool (letterB c||digitB c)),true⟩:=by
 refine bF Tryz.func178 rfl Tryz.ntmps178 Tryz.results178 λw0 X hp=>?_;refine aA ?_;simp;refine aX hT hW (λ|4=>some<| .plain ⟨.d (.bool (letterB c)),true⟩|7=>some<| .plain ⟨.d (.bool (digitB c)),true⟩|_=>none) ?_;simp;refine⟨⟨tB c,λ_=>rN c⟩,?_⟩;refine aF ?_;simp
theorem xQ(s:aJ):wordN s=if s=[]\/letterB (s[0]?.getD 0)=false then 0 else if 16<runP (λc=>letterB c||digitB c) s then 0 else runP (λc=>letterB c||digitB c) s:=by
 cases s with
 |nil=>rfl
 |cons c r=>
  have e:((c::r)[0]?.getD 0)=c:=rfl;rw[e];unfold wordN;generalize runP (λc=>letterB c||digitB c) (c::r)=n;by_cases q:letterB c=true
  ·simp only[q,if_true];by_cases h:n<=16
   ·simp[h,show¬16<n by omega]
   ·simp[h,show 16<n by omega]
  ·simp[q]
theorem EB(s:aJ)(hl:s.length<=9223372036854775807):Ok Tryz.prog 156 [.str s] ⟨.d (aH (wordN s)),true⟩:=by
 refine bF Tryz.func156 rfl Tryz.ntmps156 Tryz.results156 λw0 X hp=>?_;refine aA ?_;simp;refine aD ?_;refine aX hT hW (λ|9=>some<| .plain ⟨.d (.bool (letterB (s.getD 0 0))),true⟩|_=>none) ?_;simp;refine⟨⟨λh=>List.length_pos_iff.2 h,λ_=>tB _⟩,?_⟩;refine aC ?_;simp;refine⟨λg=>?_,λg1 g2=>?_⟩
 ·refine aA ?_;simp;refine aF ?_;simp;rw[xQ,if_pos g];rfl
 ·refine aE ?_;simp;refine aD ?_;have hr:=PD s (λc=>letterB c||digitB c) 178 (λc=>PE c) hl;refine eO.ro hT hW (λ|13=>some<| .plain ⟨.d (aH (runP (λc=>letterB c||digitB c) s)),true⟩|_=>none) ?_;simp;refine⟨by simpa using hr,?_⟩;refine aD ?_;refine aA ?_;simp;refine aC ?_;simp;refine⟨λh4=>?_,λh4=>?_⟩
  ·refine aA ?_;simp;refine aF ?_;simp;rw[xQ,if_neg,if_pos (by omega)]
   ·rfl
   intro q;rcases q with q|q
   ·exact g1 (by simpa using q)
   ·simp[q]at g2
  ·refine aE ?_;simp;refine aA ?_;simp;refine aF ?_;simp;rw[xQ,if_neg,if_neg (by omega)];intro q;rcases q with q|q
   ·exact g1 (by simpa using q)
   ·simp[q]at g2
theorem uK:List.take 26 tQ=wordsL.map DV.str:=rfl
theorem Gz(s:aJ):Ok Tryz.prog 181 [.str s] ⟨.d (.bool (reservedB s)),true⟩:=by
 refine bF Tryz.func181 rfl Tryz.ntmps181 Tryz.results181 λw0 X hp=>?_;refine aA ?_;simp;refine aD ?_;have hi:=Gt wordsL s;have q2:=mD;refine eO.ro hT hW (λ|12=>some<| .plain ⟨.d (.bool (decide (s∈wordsL))),true⟩|_=>none) ?_;simp[uK];refine⟨⟨λ_ _=>by omega,λ_ _=>hi⟩,?_⟩;refine aF ?_;simp;show _=(decide (s=[101,108,115,101])||decide (s=[107,105,110,100])||decide (s∈wordsL));simp only[Bool.beq_eq_decide_eq]
theorem Di(s:aJ):Ok Tryz.prog 161 [.str s] ⟨.d (.bool (isNameB s)),true⟩:=by
 refine bF Tryz.func161 rfl Tryz.ntmps161 Tryz.results161 λw0 X hp=>?_;refine aA ?_;simp;refine aX hT hW (λ|8=>some<| .plain ⟨.d (.bool (letterB (s.getD 0 0))),true⟩|12=>some<| .plain ⟨.d (.bool (reservedB s)),true⟩|_=>none) ?_;simp;refine⟨⟨⟨λh=>List.length_pos_iff.2 h,λ_=>tB _⟩,λ_ _=>Gz s⟩,?_⟩;refine aF ?_;cases s<;>simp[isNameB]
theorem vY(s:aJ)(b:Bool)(hl:s.length<=9223372036854775807):Ok Tryz.prog 196 [.str s,.bool b] ⟨.d (.bool (wholeB s b)),true⟩:=by
 refine bF Tryz.func196 rfl Tryz.ntmps196 Tryz.results196 λw0 X hp=>?_;refine aA ?_;simp;refine aX hT hW (λ|9=>some<| .plain ⟨.d (aH (wordN s)),true⟩|19=>some<| .plain ⟨.d (.bool (isNameB s)),true⟩|_=>none) ?_;simp;refine⟨⟨⟨λ_=>EB s hl,λ_ _ _=>Di s⟩,λh1 h2 h3=>⟨⟨h1,h2⟩,h3⟩⟩,?_⟩;refine aF ?_;simp;rw[Bool.eq_iff_iff];simp[wholeB];intro _ _;omega
end
end Go.Eng
namespace Go.Proofs
open Go.Shelf
def Tryz.idxLay_ren:Go.Shelf.Ren:=⟨λ|217=>180|266=>206|n=>n,λ|9=>9|5=>5|3=>3|n=>n,λ|n=>n⟩
theorem Tryz.idxLay:Go.Proofs.Lays.n217 Tryz.prog Tryz.idxLay_ren:={
 mixed:=by kernel_rfl,
 f217:=Tryz.func180.trans (congrArg some (by kernel_rfl)),
 f266:=Tryz.func206.trans (congrArg some (by kernel_rfl)),
 t3:=Tryz.underlying3,
 a3:=Tryz.isAgg3,
 z3:=Tryz.sizeOf3,
 v3:=Tryz.zeroValue3,
 t5:=Tryz.underlying5,
 a5:=Tryz.isAgg5,
 z5:=Tryz.sizeOf5,
 v5:=Tryz.zeroValue5,
 t9:=Tryz.underlying9,
 a9:=Tryz.isAgg9,
 z9:=Tryz.sizeOf9,
 v9:=Tryz.zeroValue9}
end Go.Proofs
namespace Go.Eng
section
attribute[local simp] hZ.cond Nd.d_eq nd_t nd_dr nd_td ndsD aO
def qO(c:UInt8)(s:aJ):Int:=match cutAt c s with|some q=>q.1.length|none=> -1
theorem KK(c:UInt8):∀s:aJ,Lib.indexByte s c=qO c s
 |[]=>rfl
 |d::r=>by
  have ih:=KK c r;unfold Lib.indexByte qO cutAt;unfold qO at ih;by_cases h:d=c
  ·simp[h]
  ·rw[if_neg h];rw[if_neg (by simpa using h)];rw[ih];cases cutAt c r with
   |none=>simp
   |some q=>
    simp only[Option.map_some,List.length_cons];rw[if_neg (by simp)];rfl
theorem xR{c:UInt8}{s:aJ}{q:aJ×aJ}(h:cutAt c s=some q):s.take q.1.length=q.1/\s.drop (q.1.length+1)=q.2/\q.1.length+1+q.2.length=s.length:=by
 have e:=Bl (a:=q.1) (b:=q.2) h;rw[e];refine⟨by simp,?_,by simp;omega⟩;rw[show q.1.length+1=(q.1++[c]).length by simp,show q.1++c::q.2=(q.1++[c])++q.2 by simp,List.drop_left]
theorem vZ(s:aJ)(c:UInt8):Ok Tryz.prog 180 [.str s,.int .u8 (c.toNat:Int)] ⟨.d (aH (qO c s)),true⟩:=by
 refine⟨⟨_,Tryz.func180,by kernel_rfl,rfl⟩,λw X vs hX hr=>?_⟩
 match vs,hr.1 with
 |[u,v],_=>
  have h1:=hr.2 0 _ _ rfl rfl;have h2:=hr.2 1 _ _ rfl rfl;cases h1;cases h2;refine(Go.Proofs.Any.stringslite_IndexByte Tryz.idxLay ⟨s.toArray⟩ (c.toNat:Int) w).mono ?_;rintro e w' ⟨rfl,rfl⟩;refine⟨_,rfl,wY.refl _ _,none,?_⟩;have e:((c.toNat:Int).toNat.toUInt8)=c:=by simp
  rw[e];simp only[];rw[KK];exact .int _ _
theorem Mz(s:aJ)(c:UInt8)(hl:s.length<=9223372036854775807):Ok Tryz.prog 169 [.str s,.str [c]] ⟨.d (aH (qO c s)),true⟩:=by
 refine bF Tryz.func169 rfl Tryz.ntmps169 Tryz.results169 λw0 X hp=>?_;refine aA ?_;simp;refine aA ?_;simp;refine aD ?_;refine aL ?_;refine aA ?_;simp;refine aC ?_;simp;refine⟨λg=>?_,λg=>?_⟩
 ·refine aA ?_;simp;refine aF ?_;simp[<-g,qO,cutAt]
 ·refine aA ?_;simp;refine aC ?_;simp;refine aD ?_;have hi:=vZ s c;refine eO.ro hT hW (λ|30=>some<| .plain ⟨.d (aH (qO c s)),true⟩|_=>none) ?_;simp;refine⟨hi,?_⟩;refine aF ?_;simp
def uL(c:UInt8)(s:aJ):aJ:=match cutAt c s with|some q=>q.1|none=>s
def uM(c:UInt8)(s:aJ):aJ:=match cutAt c s with|some q=>q.2|none=>[]
def wA(c:UInt8)(s:aJ):Bool:=(cutAt c s).isSome
theorem RY(s:aJ)(c:UInt8)(hl:s.length<=9223372036854775807):Ok Tryz.prog 132 [.str s,.str [c]] ⟨.tup [.d (.str (uL c s)),.d (.str (uM c s)),.d (.bool (wA c s))],true⟩:=by
 refine vO hT Tryz.func132 (by kernel_rfl) (c:=_) rfl Tryz.ntmps132 (by simp) Tryz.results132 (by simp) (by rfl) λw0 X hp=>?_;refine aA ?_;simp;refine aD ?_;refine aD ?_;have hi:=Mz s c hl;refine eO.ro hT hW (λ|10=>some<| .plain ⟨.d (aH (qO c s)),true⟩|_=>none) ?_;simp;refine⟨hi,?_⟩;refine aA ?_;simp;refine aC ?_;simp;refine⟨λh2=>?_,λh2=>?_⟩
 ·refine aD ?_;obtain⟨q,hq⟩:∃q,cutAt c s=some q:=by
   unfold qO at h2;cases e:cutAt c s with
   |none=>rw[e]at h2;simp at h2
   |some q=>exact⟨q,rfl⟩
  have hx:qO c s=(q.1.length:Int):=by unfold qO;rw[hq]
  obtain⟨p1,p2,p3⟩:=xR hq;refine eO.rd [] [] (λ_=>none) ?_;simp[hx,p1,p2];refine⟨⟨⟨by omega,by omega,by omega⟩,by omega,by omega⟩,?_⟩;refine aF ?_;simp[uL,uM,wA,hq]
 ·refine aE ?_;simp;refine aA ?_;simp;refine aF ?_;have hn:cutAt c s=none:=by
   unfold qO at h2;cases e:cutAt c s with
   |none=>rfl
   |some q=>rw[e]at h2;simp at h2;omega
  simp[uL,uM,wA,hn]
theorem PF(s:aJ)(c:UInt8)(hl:s.length<=9223372036854775807):Ok Tryz.prog 78 [.str s,.str [c]] ⟨.tup [.d (.str (uL c s)),.d (.str (uM c s)),.d (.bool (wA c s))],true⟩:=by
 refine vO hT Tryz.func78 (by kernel_rfl) (c:=_) rfl Tryz.ntmps78 (by simp) Tryz.results78 (by simp) (by rfl) λw0 X hp=>?_;refine aA ?_;simp;refine aD ?_;have hi:=RY s c hl;refine eO.ro hT hW (λ|9=>some<| .plain ⟨.tup [.d (.str (uL c s)),.d (.str (uM c s)),.d (.bool (wA c s))],true⟩|_=>none) ?_;simp[aR];refine⟨hi,?_⟩;refine aF ?_;simp
end
structure bZ where
 bk:Int
 kind:Int
 name:aJ
 field:aJ
def bZ.d(u:bZ):DV:=.agg [aH u.kind,.str u.name,.str u.field]
def Dj:List Int:=[34,35,13,14,17,18,15,16,22,23]
def rO:List Int:=[0,1,5,5,3,3,2,2,4,4]
def TH(k:Int):Option Int:=(Dj.findIdx? (λx=>decide (k=x))).map λj=>rO.getD j 0
def tC(k:Int)(t:aJ):List bZ:=match TH k with
 |some f=>[⟨k,f,uL 46 t,uM 46 t⟩]
 |none=>[]
mutual
def aW:Nd->List bZ
 | .mk k t _ ks=>tC k t++eU ks
def eU:List Nd->List bZ
 |[]=>[]
 |x::r=>aW x++eU r
end
theorem usesN_eq(x:Nd):aW x=tC x.kind x.text++eU x.kids:=by cases x;rw[aW];rfl
theorem usesL_append:∀(a b:List Nd),eU (a++b)=eU a++eU b
 |[],_=>rfl
 |x::a,b=>by rw[List.cons_append,eU,eU,usesL_append a b,List.append_assoc]
theorem usesL_succ{l:List Nd}{i:Nat}(hi:i<l.length):eU (l.take (i+1))=eU (l.take i)++aW l[i]:=by
 rw[List.take_succ_eq_append_getElem hi,usesL_append,eU,eU,List.append_nil]
theorem findD_int(k:Int):∀(l:List Int) (i:Nat),fO (aH k) (l.map aH) i=some ((l.findIdx? (λx=>decide (k=x))).map (·+i))
 |[],i=>rfl
 |x::r,i=>by
  have e:gT (aH k) (aH x)=some (decide (k=x)):=by simp[gT,Fr]
  rw[List.map_cons,fO,e,List.findIdx?_cons];by_cases h:k=x
  ·simp[h]
  ·simp only[h,decide_false,Bool.false_eq_true,if_false];rw[findD_int k r (i+1)];cases r.findIdx? (λx=>decide (k=x))with
   |none=>rfl
   |some j=>simp;omega
def fitD:DV:=.mp (Dj.map aH) (rO.map aH)
end Go.Eng
