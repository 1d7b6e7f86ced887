/- Part 5 of the proof. No condition. -/
import Derived.Test.YtjdlbidjlfllcaaGreatDoorMD
import Derived.Shelf.Strconv.Itoa3
import Derived.Test.YtjdlbidjlfllcaaGreatDoorProg
import Derived.Shelf.Strings.Search1
open Go.Proofs
open Go.Proofs.Tryz
set_option linter.unusedVariables false
set_option linter.unusedSimpArgs false
set_option maxRecDepth 20000
set_option maxHeartbeats 4000000
namespace Go.Eng
theorem AY(p:UInt8->Bool):∀(s:aW) (n:Nat),runP p (s.take n)=min n (runP p s)
 |[],n=>by simp[runP]
 |c::r,0=>by simp[runP]
 |c::r,n+1=>by
  rw[List.take_succ_cons];unfold runP;split
  ·rw[AY p r n];omega
  ·simp
def Ns(s:aW):Prop:=s≠[]/\nextN s=s.length
theorem xB{s:aW}(h:0<wordN s):∃c r,s=c::r/\letterB c=true/\wordN s=runP (λc=>letterB c||digitB c) s/\wordN s<=16:=by
 cases s with
 |nil=>simp[wordN]at h
 |cons c r=>
  refine⟨c,r,rfl,?_⟩;unfold wordN at h|-;by_cases q:letterB c=true
  ·simp only[q,if_true]at h|-;by_cases q2:runP (λc=>letterB c||digitB c) (c::r)<=16
   ·simp only[q2,if_true,true_and]at h|-
   ·simp[q2]at h
  ·simp[q]at h
theorem zZ(s:aW):wordN s<=s.length:=by
 rcases Nat.eq_zero_or_pos (wordN s)with h|h
 ·omega
 ·obtain⟨c,r,_,_,h2,_⟩:=xB h;rw[h2];exact runP_le _ _
theorem DW{s:aW}(h:0<wordN s):wordN (s.take (wordN s))=wordN s:=by
 obtain⟨c,r,rfl,h1,h2,h3⟩:=xB h;obtain⟨m,hm⟩:∃m,wordN (c::r)=m+1:=⟨wordN (c::r)- 1,aE⟩;have e:=AY (λc=>letterB c||digitB c) (c::r) (wordN (c::r));rw[hm]at e|-;rw[List.take_succ_cons]at e|-;unfold wordN;simp only[h1,if_true];rw[e,<-h2,hm,Nat.min_self,if_pos aE]
theorem vN(s:aW):nextN s<=s.length:=by
 unfold nextN;cases s with
 |nil=>simp
 |cons c r=>
  simp only;split
  ·exact zZ _
  ·split
   ·split
    ·have:=zZ r;simp only[List.length_cons];omega
    ·simp
   ·split
    ·split
     ·exact runP_le _ _
     ·simp
    ·split
     ·rename_i h;have:(List.take 2 (c::r)).length=2:=by rcases h with h|h<;>rw[h]<;>rfl
      rw[List.length_take]at this;omega
     ·split<;>simp
theorem RE{s:aW}(h:0<nextN s):Ns (s.take (nextN s)):=by
 have hl:=vN s;have hlen:(s.take (nextN s)).length=nextN s:=by rw[List.length_take];omega
 refine⟨λe=>by rw[e]at hlen;simp at hlen;omega,?_⟩;rw[hlen];cases s with
 |nil=>simp[nextN]at h
 |cons c r=>
  obtain⟨m,hm⟩:∃m,nextN (c::r)=m+1:=⟨nextN (c::r)- 1,aE⟩;rw[hm,List.take_succ_cons];have hm':=hm;unfold nextN at hm'|-;simp only at hm'|-;by_cases q1:letterB c=true
  ·rw[if_pos q1]at hm'|-;have:=DW (s:=c::r) aE;rw[hm',List.take_succ_cons]at this;exact this
  ·rw[if_neg q1]at hm'|-;by_cases q2:c=36
   ·rw[if_pos q2]at hm'|-;by_cases q3:0<wordN r
    ·rw[if_pos q3]at hm';have:=DW q3;have e:m=wordN r:=aE;rw[e,this,if_pos q3]
    ·rw[if_neg q3]at hm';omega
   ·rw[if_neg q2]at hm'|-;by_cases q3:digitB c=true
    ·rw[if_pos q3]at hm'|-;have e:=AY digitB (c::r) (m+1);rw[List.take_succ_cons]at e;by_cases q4:runP digitB (c::r)<=3
     ·rw[if_pos q4]at hm';rw[e,hm',Nat.min_self,if_pos aE]
     ·rw[if_neg q4]at hm';omega
    ·rw[if_neg q3]at hm'|-;by_cases q4:List.take 2 (c::r)=[60,61]\/List.take 2 (c::r)=[61,61]
     ·rw[if_pos q4]at hm';have e:m=1:=aE;have e2:List.take 2 (c::List.take m r)=List.take 2 (c::r):=by rw[e];cases r<;>simp
      rw[e2,if_pos q4,e]
     ·rw[if_neg q4]at hm';by_cases q5:c∈signs
      ·rw[if_pos q5]at hm';have e:m=0:=aE;subst e;rw[if_neg aM,if_pos q5]
      ·rw[if_neg q5]at hm';omega
def bM(l:List Tk):Prop:=∀t∈l,Ns t.text
theorem iA:∀(f:Nat) (s:aW) (i:Int),bM (scanF f s i).1
 |0,_,_=>λt h=>by cases h
 |f+1,s,i=>by
  unfold scanF;split
  ·exact λt h=>by cases h
  ·split
   ·exact iA f _ _
   ·split
    ·exact λt h=>by cases h
    ·rename_i q;intro t h;rcases List.mem_cons.1 h with h|h
     ·rw[h];exact RE aE
     ·exact iA f _ _ t h
theorem UQ{s:aW}(h:Ns s)(hn:isNameB s=true):wholeB s true=true:=by
 obtain⟨h1,h2⟩:=h;cases s with
 |nil=>exact absurd rfl h1
 |cons c r=>
  have hl:letterB c=true:=by simp only[isNameB,Bool.and_eq_true]at hn;exact hn.1
  unfold nextN at h2;simp only[hl,if_true]at h2;unfold wholeB;rw[h2,hn];simp
theorem RG{r:aW}(h:Ns (36::r)):wholeB r false=true:=by
 obtain⟨_,h2⟩:=h;unfold nextN at h2;simp only[show letterB 36=false by decide,Bool.false_eq_true,if_false,if_true]at h2;split at h2
 ·rename_i q;have e:wordN r=r.length:=by simpa using h2
  unfold wholeB;rw[e];have:r≠[]:=λe=>by rw[e]at q;simp[wordN]at q
  simp[this]
 ·simp at h2
theorem Ke{s:aW}{b:Bool}(h:wholeB s b=true):∀c∈s,letterB c=true\/digitB c=true:=by
 unfold wholeB at h;simp only[Bool.and_eq_true,decide_eq_true_eq]at h;obtain⟨⟨h1,h2⟩,_⟩:=h;have hp:0<wordN s:=by rw[h2];exact List.length_pos_iff.2 h1
 obtain⟨c,r,_,_,h3,_⟩:=xB hp;intro d hd;obtain⟨i,hi,rfl⟩:=List.mem_iff_getElem.1 hd;have:=runP_all (p:=λc=>letterB c||digitB c) hi (by rw[<-h3,h2];exact hi);simpa using this
theorem AZ{c:UInt8}:∀{a:aW} (b:aW),c∉a->cutAt c (a++c::b)=some (a,b)
 |[],b,_=>by simp[cutAt]
 |d::a,b,h=>by
  have h1:d≠c:=λe=>h (by rw[e];exact List.mem_cons_self ..);rw[List.cons_append,cutAt,if_neg h1,AZ b λq=>h (List.mem_cons_of_mem _ q)];rfl
theorem Kf{a b:aW}(ha:wholeB a true=true)(hb:wholeB b true=true):fieldB (a++46::b)=true:=by
 unfold fieldB;rw[AZ b λh=>by rcases Ke ha _ h with q|q<;>exact absurd q bC];simp[ha,hb]
def Rt(n:Nat)(cls:Int->Bool)(x:PS->Nd×PS):Prop:=∀p,p.l.length<n->bM p.l->(x p).2.l.length<=p.l.length/\bM (x p).2.l/\((x p).2.e=0->rightN (x p).1=true/\cls (x p).1.kind=true)
theorem oI{p:PS}{e:Int}:(p.fail e).l=p.l:=by unfold PS.fail;split<;>rfl
theorem xC{p:PS}{e:Int}(h:bM p.l):bM (p.fail e).l:=by rw[oI];exact h
theorem dB{p:PS}(h:bM p.l):bM p.skip.l:=λt ht=>h t (List.mem_of_mem_tail ht)
theorem dZ{p:PS}:p.skip.l.length<=p.l.length:=by simp[PS.skip]
theorem pW{p:PS}(h:p.peek≠[]):p.skip.l.length+1=p.l.length:=by
 unfold PS.peek at h;split at h
 ·exact absurd rfl h
 ·unfold PS.skip;cases e:p.l with
  |nil=>rw[e]at h;exact absurd rfl h
  |cons t r=>rfl
theorem gE{p:PS}{s:aW}(h:p.is s=true):p.skip.l.length+1=p.l.length:=by
 unfold PS.is at h;simp only[Bool.and_eq_true,decide_eq_true_eq]at h;exact pW (by rw[h.2];exact h.1)
theorem cA{p:PS}{s:aW}(h:bM p.l):(p.need s).l.length<=p.l.length/\bM (p.need s).l:=by
 unfold PS.need;split
 ·exact⟨dZ,dB h⟩
 ·exact⟨by rw[oI];exact Nat.le_refl _,xC h⟩
theorem sE{p:PS}(h:bM p.l)(hp:p.peek≠[]):Ns p.peek:=by
 unfold PS.peek at hp|-;split
 ·rename_i q;rw[if_pos q]at hp;exact absurd rfl hp
 ·rename_i q;rw[if_neg q]at hp;cases e:p.l with
  |nil=>rw[e]at hp;exact absurd rfl hp
  |cons t r=>exact h t (by rw[e];exact List.mem_cons_self ..)
theorem cV{p:PS}(h:bM p.l):(nameP p).2.l.length<=p.l.length/\bM (nameP p).2.l/\((nameP p).2.e=0->wholeB (nameP p).1 true=true):=by
 unfold nameP;split
 ·rename_i q;refine⟨dZ,dB h,λ_=>UQ (sE h λe=>?_) q⟩;rw[e]at q;cases q
 ·exact⟨by rw[oI];exact Nat.le_refl _,xC h,λhe=>absurd he (fail_e bC)⟩
theorem eE{p:PS}(h:bM p.l):(localP p).2.l.length<=p.l.length/\bM (localP p).2.l/\((localP p).2.e=0->wholeB (localP p).1 false=true):=by
 unfold localP;split
 ·rename_i r q;refine⟨dZ,dB h,λ_=>RG ?_⟩;rw[<-q];exact sE h (by rw[q];simp)
 ·exact⟨by rw[oI];exact Nat.le_refl _,xC h,λhe=>absurd he (fail_e bC)⟩
theorem eR{k:Int}{p:PS}(h:bM p.l):(numeralP k p).2.l.length<=p.l.length/\bM (numeralP k p).2.l/\((numeralP k p).2.e=0->loAt k<=(numeralP k p).1/\(numeralP k p).1<=hiAt k):=by
 have bad:∀e:Int,e≠0->(p.fail e).l.length<=p.l.length/\bM (p.fail e).l/\((p.fail e).e=0->loAt k<=0/\0<=hiAt k):=λe q=>⟨by rw[oI];exact Nat.le_refl _,xC h,λhe=>absurd he (fail_e q)⟩;unfold numeralP;split
 ·exact bad 2 bC
 ·split
  ·split
   ·exact bad 5 bC
   ·rename_i q;exact⟨dZ,dB h,λ_=>⟨by simp only;omega,by simp only;omega⟩⟩
  ·exact bad 2 bC
theorem oT{p:PS}(h:bM p.l):(numberP p).2.l.length<=p.l.length/\bM (numberP p).2.l/\((numberP p).2.e=0-> -999<=(numberP p).1/\(numberP p).1<=999):=by
 have hlo:loAt 0= -999:=rfl;have hhi:hiAt 0=999:=rfl;unfold numberP;split
 ·obtain⟨h0,h1,h2⟩:=eR (k:=0) (dB h);exact⟨Nat.le_trans h0 dZ,h1,λhe=>by have:=h2 he;simp only;omega⟩
 ·obtain⟨h0,h1,h2⟩:=eR (k:=0) h;exact⟨h0,h1,λhe=>by have:=h2 he;omega⟩
theorem lV(n:Nat):Rt n isPlaceK placeP:=λp _ h=>by
 obtain⟨h0,h1,h2⟩:=cV h;unfold placeP;split
 ·obtain⟨g0,h3,h4⟩:=cV (dB h1);refine⟨Nat.le_trans g0 (Nat.le_trans dZ h0),h3,λhe=>⟨?_,rfl⟩⟩;have ha:=h2 (nameP_stk (nameP p).2.skip he);simp[rightN,rightL,shapedB,shapedK,kidsB,wordedB,wordedK,loAt,hiAt,boundsL,textB,Kf ha (h4 he)]
 ·refine⟨h0,h1,λhe=>⟨?_,rfl⟩⟩;simp[rightN,rightL,shapedB,shapedK,kidsB,wordedB,wordedK,loAt,hiAt,boundsL,textB,h2 he]
theorem Gp(lv:Int)(s:aW): -1<=opI lv s/\opI lv s<=5:=by
 unfold opI;split
 ·rename_i i q;have:=List.mem_range.1 (List.mem_of_find?_eq_some q);omega
 ·omega
theorem xD{lv:Int}{p:PS}(h:bM p.l):(opP lv p).2.l.length<=p.l.length/\bM (opP lv p).2.l:=by
 unfold opP;simp only;split
 ·exact⟨dZ,dB h⟩
 ·exact⟨Nat.le_refl _,h⟩
theorem Ba{k:Int}{n m:Nd}(h0:26<=k)(h1:k<=31)(hn:rightN n=true/\isExprK n.kind=true)(hm:rightN m=true/\isExprK m.kind=true):rightN (.mk k [] 0 [n,m])=true/\isExprK (Nd.mk k [] 0 [n,m]).kind=true:=by
 have hk:k=26\/k=27\/k=28\/k=29\/k=30\/k=31:=aE;rcases hk with rfl|rfl|rfl|rfl|rfl|rfl<;>exact⟨by simp[rightN,rightL,shapedB,shapedK,kidsB,wordedB,wordedK,loAt,hiAt,boundsL,textB,hn.1,hm.1,hn.2,hm.2],rfl⟩
theorem Gq{m:Nat}{lv:Int}{x:PS->Nd×PS}(hx:Rt m isExprK x):∀(f:Nat) (n:Nd) (p:PS),p.l.length<m->bM p.l->(p.e=0->rightN n=true/\isExprK n.kind=true)->
 (chainF lv x f n p).2.l.length<=p.l.length/\bM (chainF lv x f n p).2.l/\((chainF lv x f n p).2.e=0->rightN (chainF lv x f n p).1=true/\isExprK (chainF lv x f n p).1.kind=true)
 |0,_,_,_,h,hn=>⟨Nat.le_refl _,h,hn⟩
 |f+1,n,p,hl,h,hn=>by
  unfold chainF;split
  ·exact⟨Nat.le_refl _,h,hn⟩
  ·rename_i q;have hp:p.e=0:=by simpa using q
   obtain⟨g0,g1⟩:=xD (lv:=lv) h;split
   ·exact⟨g0,g1,λ_=>hn hp⟩
   ·rename_i q2;have hr:=Gp lv p.peek;have hr2:0<=(opP lv p).1/\(opP lv p).1<=5:=⟨aE,hr.2⟩;obtain⟨h0,h1,h2⟩:=hx _ aE g1;obtain⟨k0,k1,k2⟩:=Gq hx f (.mk (26+(opP lv p).1) [] 0 [n,(x (opP lv p).2).1]) _ aE h1 λhe=>Ba aE aE (hn hp) (h2 he);exact⟨aE,k1,k2⟩
theorem Bb{m:Nat}{lv:Int}{x:PS->Nd×PS}(hx:Rt m isExprK x):Rt m isExprK (chainP lv x):=λp hl h=>by
 obtain⟨h0,h1,h2⟩:=hx p hl h;obtain⟨k0,k1,k2⟩:=Gq (lv:=lv) hx ((x p).2.l.length+1) _ _ aE h1 h2;exact⟨by unfold chainP;omega,k1,k2⟩
theorem pX{k:Int}(h:isPlaceK k=true):isExprK k=true:=by
 unfold isPlaceK at h;simp only[Bool.or_eq_true,decide_eq_true_eq]at h;rcases h with rfl|rfl<;>rfl
theorem DX{m:Nat}{ex:PS->Nd×PS}(hx:Rt m isExprK ex):Rt (m+1) isExprK (factP ex):=λp hl h=>by
 have hpl:=lV (m+1) p hl h;have hpl2:(placeP p).2.l.length<=p.l.length/\bM (placeP p).2.l/\((placeP p).2.e=0->rightN (placeP p).1=true/\isExprK (placeP p).1.kind=true):=⟨hpl.1,hpl.2.1,λhe=>⟨(hpl.2.2 he).1,pX (hpl.2.2 he).2⟩⟩;unfold factP;split
 ·rename_i q;have hk:=gE q;obtain⟨h0,h1,h2⟩:=hx p.skip aE (dB h);obtain⟨g0,g1⟩:=cA (s:=[41]) h1;exact⟨by simp only;omega,g1,λhe=>h2 (need_e he).2⟩
 ·split
  ·exact⟨dZ,dB h,λ_=>⟨by show rightN (Nd.mk 36 [] 0 [])=true;decide,rfl⟩⟩
  ·split
   ·split
    ·obtain⟨h0,h1,h2⟩:=eR (k:=32) h;refine⟨h0,h1,λhe=>⟨?_,rfl⟩⟩;have:=h2 he;have hlo:loAt 32=0:=rfl;have hhi:hiAt 32=999:=rfl;rw[hlo,hhi]at this;simp[rightN,rightL,shapedB,shapedK,kidsB,wordedB,wordedK,hlo,hhi,textB,this]
    ·split
     ·obtain⟨h0,h1,h2⟩:=eE h;refine⟨h0,h1,λhe=>⟨?_,rfl⟩⟩;simp[rightN,rightL,shapedB,shapedK,kidsB,wordedB,wordedK,loAt,hiAt,boundsL,textB,h2 he]
     ·exact hpl2
   ·exact hpl2
theorem Ie{m:Nat}{ex:PS->Nd×PS}(hx:Rt m isExprK ex):Rt (m+1) isExprK (sumP ex):=Bb (Bb (DX hx))
theorem UR{m:Nat}{ex:PS->Nd×PS}(hs:Stk ex)(hx:Rt m isExprK ex):Rt (m+1) isExprK (exprB ex):=λp hl h=>by
 obtain⟨h0,h1,h2⟩:=Ie hx p hl h;obtain⟨g0,g1⟩:=xD (lv:=1) h1;unfold exprB;simp only;split
 ·rename_i q;have hr:=Gp 1 (sumP ex p).2.peek;have hr2:(opP 1 (sumP ex p).2).1<=5:=hr.2;obtain⟨k0,h3,h4⟩:=Ie hx _ aE g1;exact⟨by simp only;omega,h3,λhe=>Ba aE aE (h2 (opP_stk 1 _ (sumP_stk hs _ he))) (h4 he)⟩
 ·exact⟨by simp only;omega,g1,λhe=>h2 (opP_stk 1 _ he)⟩
theorem Aa:∀f,Rt f isExprK (exprP false f)
 |0=>λp h=>aE
 |f+1=>λp hl h=>by
  unfold exprP;rw[if_neg aM];exact UR (exprP_stk false f) (Aa f) p hl h
theorem Ab(n:Nat):Rt n isExprK λq=>exprP false (q.l.length+1) q:=λp _ h=>Aa (p.l.length+1) p aE h
theorem Gr{m:Nat}{st:PS->Nd×PS}(hs:Stk st)(hx:Rt m isStmtK st):∀(f:Nat) (ks:List Nd) (p:PS),p.l.length<m->bM p.l->(p.e=0->∀x∈ks,rightN x=true/\isStmtK x.kind=true)->
 (stmtsF st f ks p).2.l.length<=p.l.length/\bM (stmtsF st f ks p).2.l/\((stmtsF st f ks p).2.e=0->∀x∈(stmtsF st f ks p).1,rightN x=true/\isStmtK x.kind=true)
 |0,_,_,_,h,hn=>⟨Nat.le_refl _,h,hn⟩
 |f+1,ks,p,hl,h,hn=>by
  unfold stmtsF;split
  ·exact⟨Nat.le_refl _,h,hn⟩
  ·obtain⟨h0,h1,h2⟩:=hx p hl h;obtain⟨k0,k1,k2⟩:=Gr hs hx f (ks++[(st p).1]) _ aE h1 λhe x hx=>by
    rcases List.mem_append.1 hx with hx|hx
    ·exact hn (hs p he) x hx
    ·rw[List.mem_singleton.1 hx];exact h2 he
   exact⟨aE,k1,k2⟩
theorem vO{ks:List Nd}(h:∀x∈ks,rightN x=true/\isStmtK x.kind=true):rightN (.mk 8 [] 0 ks)=true:=
 right_mk.2 ⟨bC,bC,List.all_eq_true.2 λx hx=>(h x hx).2,bC,bC,rfl,λx hx=>(h x hx).1⟩
theorem pH{m:Nat}{st:PS->Nd×PS}(hs:Stk st)(hx:Rt m isStmtK st):Rt m isBlockK (blockB st):=λp hl h=>by
 obtain⟨g0,g1⟩:=cA (s:=[123]) h;obtain⟨k0,k1,k2⟩:=Gr hs hx ((p.need [123]).l.length+1) [] (p.need [123]) aE g1 (λ_ x h=>by cases h);obtain⟨q0,q1⟩:=cA (s:=[125]) k1;unfold blockB;exact⟨by simp only;omega,q1,λhe=>⟨vO (k2 (need_e he).2),rfl⟩⟩
theorem yR{s:aW}(h:12<kindP s):13<=kindP s/\kindP s<=25:=by
 unfold kindP wordI at h|-;split
 ·rename_i q;rw[if_pos q]at h;omega
 ·rename_i q;rw[if_neg q]at h;split
  ·rename_i i e;rw[e]at h;have:=List.mem_range.1 (List.mem_of_find?_eq_some e);simp only at h;omega
  ·rename_i e;rw[e]at h;simp only at h;omega
theorem PB{m:Nat}{ex:PS->Nd×PS}(hs:Stk ex)(hx:Rt m isExprK ex){k:Int}(hk:13<=k/\k<=25):Rt m isStmtK (cmdP ex k):=λp hl h=>by
 have ha:(if k=19\/k=20 then localP p else if k=21\/k=25\/k=24 then([],p)else nameP p).2.l.length<=p.l.length/\bM (if k=19\/k=20 then localP p else if k=21\/k=25\/k=24 then([],p)else nameP p).2.l/\
  ((if k=19\/k=20 then localP p else if k=21\/k=25\/k=24 then([],p)else nameP p).2.e=0->textB k (if k=19\/k=20 then localP p else if k=21\/k=25\/k=24 then([],p)else nameP p).1=true):=by
  split
  ·rename_i q;obtain⟨h0,h1,h2⟩:=eE h;exact⟨h0,h1,λhe=>by rcases q with rfl|rfl<;>simp[textB,h2 he]⟩
  ·split
   ·rename_i q;exact⟨Nat.le_refl _,h,λ_=>by rcases q with rfl|rfl|rfl<;>rfl⟩
   ·rename_i q1 q2;obtain⟨h0,h1,h2⟩:=cV h;exact⟨h0,h1,λhe=>by unfold textB;rw[if_neg aE,if_neg aE,if_neg aE];exact h2 he⟩
 unfold cmdP;generalize(if k=19\/k=20 then localP p else if k=21\/k=25\/k=24 then([],p)else nameP p)=a at ha;obtain⟨a0,a1,a2⟩:=ha;simp only;have lo:∀{n:Int},(k=19\/k=21\/k=25->loAt k<=n/\n<=hiAt k)->(¬(k=19\/k=21\/k=25)->n=0)->loAt k<=n/\n<=hiAt k:=λ{n} h1 h2=>by
  by_cases q:k=19\/k=21\/k=25
  ·exact h1 q
  ·rw[h2 q];have:k=13\/k=14\/k=15\/k=16\/k=17\/k=18\/k=20\/k=22\/k=23\/k=24:=aE;rcases this with rfl|rfl|rfl|rfl|rfl|rfl|rfl|rfl|rfl|rfl<;>decide
 have mk:∀{t:aW} {n:Int} {ks:List Nd},textB k t=true->loAt k<=n/\n<=hiAt k->shapedK k ks=true->(∀x∈ks,rightN x=true)->rightN (.mk k t n ks)=true/\isStmtK (Nd.mk k t n ks).kind=true:=λ{t n ks} h1 h2 h3 h4=>by
  exact⟨right_mk.2 ⟨aE,aE,h3,h2.1,h2.2,h1,h4⟩,show isStmtK k=true from isStmtK_iff.2 aE⟩
 split
 ·rename_i q;obtain⟨h0,h1,h2⟩:=hx a.2 aE a1;refine⟨by simp only;omega,h1,λhe=>mk (a2 (hs _ he)) (lo aE λ_=>rfl) ?_ λx hx=>by rw[List.mem_singleton.1 hx];exact(h2 he).1⟩;rcases q with rfl|rfl|rfl<;>simp[shapedK,kidsB,(h2 he).2]
 ·split
  ·rename_i q;obtain⟨h0,h1,h2⟩:=eE a1;refine⟨by simp only;omega,h1,λhe=>mk (a2 (localP_stk _ he)) (lo aE λ_=>rfl) ?_ λx hx=>?_⟩
   ·rcases q with rfl|rfl<;>simp[shapedK,kidsB,isLocalK]
   ·rw[List.mem_singleton.1 hx];simp[rightN,rightL,shapedB,shapedK,kidsB,wordedB,wordedK,loAt,hiAt,boundsL,textB,h2 he]
  ·split
   ·rename_i q;obtain⟨h0,h1,h2⟩:=eR (k:=k) a1;refine⟨by simp only;omega,h1,λhe=>mk (a2 (numeralP_stk _ _ he)) (h2 he) ?_ λx hx=>by cases hx⟩;rcases q with rfl|rfl|rfl<;>rfl
   ·rename_i q1 q2 q3;refine⟨a0,a1,λhe=>mk (a2 he) (lo (λq=>absurd q q3) λ_=>rfl) ?_ λx hx=>by cases hx⟩;have:k=13\/k=14\/k=17\/k=18\/k=20:=aE;rcases this with rfl|rfl|rfl|rfl|rfl<;>rfl
theorem US{m:Nat}{ex bl:PS->Nd×PS}(hs:Stk ex)(ht:Stk bl)(hx:Rt (m+1) isExprK ex)(hb:Rt m isBlockK bl):Rt (m+1) isStmtK (stmtB ex bl):=λp hl h=>by
 unfold stmtB;simp only;split
 ·rename_i q;have hk:p.skip.l.length+1=p.l.length:=pW λe=>by rw[e]at q;simp[kindP]at q
  obtain⟨a0,a1,a2⟩:=hx p.skip aE (dB h);obtain⟨b0,b1,b2⟩:=hb (ex p.skip).2 aE a1;split
  ·rename_i q2;have hk2:=gE q2.2;obtain⟨c0,c1,c2⟩:=hb (bl (ex p.skip).2).2.skip aE (dB b1);refine⟨by simp only;omega,c1,λhe=>?_⟩;have e2:=ht _ he;have e1:=ht (ex p.skip).2 e2;rw[q2.1];exact⟨by simp[rightN,rightL,shapedB,shapedK,kidsB,wordedB,wordedK,loAt,hiAt,boundsL,textB,(a2 e1).1,(a2 e1).2,(b2 e2).1,(b2 e2).2,(c2 he).1,(c2 he).2],rfl⟩
  ·refine⟨by simp only;omega,b1,λhe=>?_⟩;have e1:=ht _ he;rcases q with q|q<;>rw[q]<;>exact⟨by simp[rightN,rightL,shapedB,shapedK,kidsB,wordedB,wordedK,loAt,hiAt,boundsL,textB,(a2 e1).1,(a2 e1).2,(b2 he).1,(b2 he).2],rfl⟩
 ·split
  ·rename_i q;obtain⟨a0,a1,a2⟩:=PB hs hx (yR q) p.skip (by have:=dZ (p:=p);omega) (dB h);obtain⟨b0,b1⟩:=cA (s:=[59]) a1;have:=dZ (p:=p);exact⟨by simp only;omega,b1,λhe=>a2 (need_e he).2⟩
  ·split
   ·obtain⟨a0,a1,a2⟩:=eE h;obtain⟨b0,b1⟩:=cA (s:=[61]) a1;obtain⟨c0,c1,c2⟩:=hx ((localP p).2.need [61]) aE b1;obtain⟨d0,d1⟩:=cA (s:=[59]) c1;refine⟨by simp only;omega,d1,λhe=>?_⟩;have e2:=(need_e he).2;have e1:=(need_e (hs _ e2)).2;exact⟨by simp[rightN,rightL,shapedB,shapedK,kidsB,wordedB,wordedK,loAt,hiAt,boundsL,textB,a2 e1,(c2 e2).1,(c2 e2).2],rfl⟩
   ·obtain⟨a0,a1,a2⟩:=lV (m+1) p hl h;obtain⟨b0,b1⟩:=cA (s:=[61]) a1;obtain⟨c0,c1,c2⟩:=hx ((placeP p).2.need [61]) aE b1;obtain⟨d0,d1⟩:=cA (s:=[59]) c1;refine⟨by simp only;omega,d1,λhe=>?_⟩;have e2:=(need_e he).2;have e1:=(need_e (hs _ e2)).2;exact⟨by simp[rightN,rightL,shapedB,shapedK,kidsB,wordedB,wordedK,loAt,hiAt,boundsL,textB,(a2 e1).1,(a2 e1).2,(c2 e2).1,(c2 e2).2],rfl⟩
theorem pY:∀f,Rt f isStmtK (stmtP false f)
 |0=>λp h=>aE
 |f+1=>λp hl h=>US (exprO_stk false) (blockB_stk (stmtP_stk false f)) (Ab (f+1)) (pH (stmtP_stk false f) (pY f)) p hl h
theorem Gs:∀(f:Nat) (ks:List Nd) (p:PS),bM p.l->(p.e=0->∀x∈ks,rightN x=true/\isItemK x.kind=true)->
 (itemsF f ks p).2.l.length<=p.l.length/\bM (itemsF f ks p).2.l/\((itemsF f ks p).2.e=0->∀x∈(itemsF f ks p).1,rightN x=true/\isItemK x.kind=true)
 |0,_,_,h,hn=>⟨Nat.le_refl _,h,hn⟩
 |f+1,ks,p,h,hn=>by
  unfold itemsF;split
  ·exact⟨Nat.le_refl _,h,hn⟩
  ·obtain⟨a0,a1,a2⟩:=cV h;obtain⟨b0,b1⟩:=cA (s:=[61]) a1;obtain⟨c0,c1,c2⟩:=oT b1;obtain⟨d0,d1⟩:=cA (s:=[59]) c1;obtain⟨k0,k1,k2⟩:=Gs f (ks++[.mk 7 (nameP p).1 (numberP ((nameP p).2.need [61])).1 []]) _ d1 λhe x hx=>by
    have e3:=(need_e he).2;have e2:=(need_e (numberP_stk _ e3)).2;have e1:=nameP_stk _ e2;rcases List.mem_append.1 hx with hx|hx
    ·exact hn e1 x hx
    ·rw[List.mem_singleton.1 hx];have:=c2 e3;exact⟨by simp[rightN,rightL,shapedB,shapedK,kidsB,wordedB,wordedK,loAt,hiAt,boundsL,textB,a2 e2,this],rfl⟩
   exact⟨by simp only;omega,k1,k2⟩
theorem DY{p:PS}(h:bM p.l)(he:(defP false p).2.e=0):rightN (defP false p).1=true/\0<=(defP false p).1.kind/\(defP false p).1.kind<=6:=by
 unfold defP at he|-;simp only at he|-;generalize hk:defKind p.peek=k at he|-;have hk6:k<=6:=by
  rw[<-hk];unfold defKind;split
  ·omega
  ·split
   ·rename_i i e;have:=List.mem_range.1 (List.mem_of_find?_eq_some e);omega
   ·omega
 obtain⟨a0,a1,a2⟩:=cV (dB h);by_cases q:k<0
 ·rw[if_pos q]at he;exact absurd he (fail_e bC)
 ·rw[if_neg q]at he|-;by_cases q1:k=5\/k=6
  ·rw[if_pos q1]at he|-;obtain⟨b0,b1,b2⟩:=pH (stmtP_stk false ((nameP p.skip).2.l.length+1)) (pY ((nameP p.skip).2.l.length+1)) (nameP p.skip).2 aE a1;have e1:=blockB_stk (stmtP_stk false ((nameP p.skip).2.l.length+1)) _ he;refine⟨?_,by simp only[dW];omega,by simp only[dW];omega⟩;rcases q1 with rfl|rfl<;>simp[rightN,rightL,shapedB,shapedK,kidsB,wordedB,wordedK,loAt,hiAt,boundsL,textB,a2 e1,(b2 he).1,(b2 he).2,blockP]
  ·rw[if_neg q1]at he|-;by_cases q2:k=1
   ·rw[if_pos q2]at he|-;obtain⟨b0,b1⟩:=cA (s:=[123]) a1;obtain⟨c0,c1,c2⟩:=Gs (((nameP p.skip).2.need [123]).l.length+1) [] _ b1 (λ_ x h=>by cases h);have e3:=(need_e he).2;have e2:=(need_e (itemsF_stk _ _ _ e3)).2;refine⟨?_,by simp only[dW];omega,by simp only[dW];omega⟩;subst q2;exact right_mk.2 ⟨bC,bC,List.all_eq_true.2 λx hx=>(c2 e3 x hx).2,bC,bC,a2 e2,λx hx=>(c2 e3 x hx).1⟩
   ·rw[if_neg q2]at he|-;by_cases q3:k=0
    ·rw[if_pos q3]at he|-;obtain⟨b0,b1⟩:=cA (s:=[61]) a1;obtain⟨c0,c1,c2⟩:=oT b1;have e3:=(need_e he).2;have e2:=(need_e (numberP_stk _ e3)).2;have:=c2 e3;subst q3;exact⟨by simp[rightN,rightL,shapedB,shapedK,kidsB,wordedB,wordedK,loAt,hiAt,boundsL,textB,a2 e2,this],aM,aM⟩
    ·rw[if_neg q3]at he|-;by_cases q4:k=2
     ·rw[if_pos q4]at he|-;obtain⟨c0,c1,c2⟩:=eR (k:=2) a1;have e3:=(need_e he).2;have e2:=numeralP_stk 2 _ e3;have:=c2 e3;have hlo:loAt 2=0:=rfl;have hhi:hiAt 2=3:=rfl;rw[hlo,hhi]at this;subst q4;exact⟨by simp[rightN,rightL,shapedB,shapedK,kidsB,wordedB,wordedK,hlo,hhi,textB,a2 e2,this],aM,aM⟩
     ·rw[if_neg q4]at he|-;have e2:=(need_e he).2;have:k=3\/k=4:=aE;rcases this with rfl|rfl<;>exact⟨by simp[rightN,rightL,shapedB,shapedK,kidsB,wordedB,wordedK,loAt,hiAt,boundsL,textB,a2 e2],aM,aM⟩
def lE(s:aW):Nd×Int×Int:=
 if 1024<s.length then(zeroNd,1024,4)else
 let t:=scanS s
 let r:=defP true ⟨t.1,0⟩
 match r.2.l with
 |x::_=>(zeroNd,x.at_,if r.2.e≠0 then r.2.e else 2)
 |[]=>if r.2.e≠0\/t.2<s.length then(zeroNd,t.2,2)else if 24<depthN r.1\/1024<(textT r.1).length then(zeroNd,0,4)else(r.1,0,0)
theorem UT(s:aW):lE s=parseS s:=by
 unfold lE parseS;split
 ·rfl
 ·simp only;obtain⟨h1,h2⟩:=defP_rl ⟨(scanS s).1,0⟩;rw[<-h1];cases e:(defP false ⟨(scanS s).1,0⟩).2.l with
  |cons x t=>rfl
  |nil=>
   simp only;by_cases q:(defP false ⟨(scanS s).1,0⟩).2.e≠0\/(scanS s).2<s.length
   ·rw[if_pos q,if_pos q]
   ·rw[if_neg q,if_neg q];have he:(defP false ⟨(scanS s).1,0⟩).2.e=0:=by
     rcases Int.lt_trichotomy (defP false ⟨(scanS s).1,0⟩).2.e 0 with h|h|h
     ·exact absurd (Or.inl aE) q
     ·exact h
     ·exact absurd (Or.inl aE) q
    rw[<-h2 he];obtain⟨r1,r2,r3⟩:=DY (p:=⟨(scanS s).1,0⟩) (iA _ _ _) he;generalize(defP false ⟨(scanS s).1,0⟩).1=x at*;have hv:validB x=(decide (depthN x<=24)&&decide ((textT x).length<=1024)):=by
     unfold validB;rw[decide_eq_true r2,decide_eq_true r3,r1];simp
    rw[hv];by_cases a:depthN x<=24
    ·by_cases b:(textT x).length<=1024
     ·rw[if_neg aE,if_pos (by simp[a,b])]
     ·rw[if_pos aE,if_neg (by simp[b])]
    ·rw[if_pos aE,if_neg (by simp[a])]
theorem Kg{c:UInt8}:∀{t a b:aW},cutAt c t=some (a,b)->t=a++c::b
 |[],_,_,h=>by simp[cutAt]at h
 |d::r,a,b,h=>by
  unfold cutAt at h;split at h
  ·rename_i e;simp only[Option.some.injEq,Prod.mk.injEq]at h;rw[<-h.1,<-h.2,e];rfl
  ·cases q:cutAt c r with
   |none=>rw[q]at h;cases h
   |some p=>
    obtain⟨a',b'⟩:=p;rw[q]at h;simp only[Option.map_some,Option.some.injEq,Prod.mk.injEq]at h;rw[<-h.1,<-h.2,Kg q];rfl
theorem tJ{x:Nd}(hr:rightN x=true)(he:isExprK x.kind=true):
 (x.kind=32/\0<=x.n/\x.n<=999/\x=.mk 32 [] x.n [])\/(x=.mk 33 x.text 0 []/\wholeB x.text false=true)\/x=.mk 36 [] 0 []\/(x=.mk 34 x.text 0 []/\wholeB x.text true=true)\/(x=.mk 35 x.text 0 []/\fieldB x.text=true)\/
   ∃k a b,26<=k/\k<=31/\x=.mk k [] 0 [a,b]/\rightN a=true/\isExprK a.kind=true/\rightN b=true/\isExprK b.kind=true:=by
 obtain⟨k,t,n,ks⟩:=x;have he:26<=k/\k<=36:=isExprK_iff.1 he;obtain⟨_,_,hs,w1,w2,w3,hk⟩:=right_mk.1 hr;have none:shapedK k ks=kidsB ks []->ks=[]:=λe=>by
  rw[e]at hs;cases ks with
  |nil=>rfl
  |cons _ _=>cases hs
 by_cases hb:k<=31
 ·right;right;right;right;right;have hks:kidsB ks [isExprK,isExprK]=true:=by
   unfold shapedK at hs;rw[if_neg aE,if_neg aE,if_neg aE,if_neg aE,if_neg aE,if_neg aE,if_neg aE,if_neg aE,if_pos aE]at hs;exact hs
  have hz:loAt k=0/\hiAt k=0:=by
   have:k=26\/k=27\/k=28\/k=29\/k=30\/k=31:=aE;rcases this with rfl|rfl|rfl|rfl|rfl|rfl<;>exact⟨rfl,rfl⟩
  have ht:t=[]:=by
   unfold textB at w3;rw[if_neg aE,if_neg aE,if_pos aE]at w3;simpa using w3
  match ks,hks,hk with
  |[a,b],hks,hk=>
   simp only[kidsB,Bool.and_true,Bool.and_eq_true]at hks;exact⟨k,a,b,aE,aE,by rw[ht,show n=0 by omega],hk a aM,hks.1,hk b aM,hks.2⟩
  |[],hks,_=>cases hks
  |[_],hks,_=>simp[kidsB]at hks
  |_::_::_::_,hks,_=>simp[kidsB]at hks
 ·have:k=32\/k=33\/k=34\/k=35\/k=36:=aE;rcases this with rfl|rfl|rfl|rfl|rfl
  ·left;have e:=none rfl;have hz:loAt 32=0/\hiAt 32=999:=⟨rfl,rfl⟩;have ht:t=[]:=by simpa [textB]using w3
   subst e;subst ht;exact⟨rfl,by simp only[xA];omega,by simp only[xA];omega,rfl⟩
  ·right;left;have e:=none rfl;have hz:loAt 33=0/\hiAt 33=0:=⟨rfl,rfl⟩;subst e;exact⟨by rw[show n=0 by omega];rfl,by simpa [textB]using w3⟩
  ·right;right;right;left;have e:=none rfl;have hz:loAt 34=0/\hiAt 34=0:=⟨rfl,rfl⟩;subst e;exact⟨by rw[show n=0 by omega];rfl,by simpa [textB]using w3⟩
  ·right;right;right;right;left;have e:=none rfl;have hz:loAt 35=0/\hiAt 35=0:=⟨rfl,rfl⟩;subst e;exact⟨by rw[show n=0 by omega];rfl,by simpa [textB]using w3⟩
  ·right;right;left;have e:=none rfl;have hz:loAt 36=0/\hiAt 36=0:=⟨rfl,rfl⟩;have ht:t=[]:=by simpa [textB]using w3
   subst e;subst ht;rw[show n=0 by omega]
theorem Gt{k:Int}{a b:Nd}(h0:26<=k)(h1:k<=31):exprT (.mk k [] 0 [a,b])=paren (decide (lvlN a.kind<(if levelAt k=1 then 2 else levelAt k))) (exprT a)++32::(signAt k++32::paren (decide (lvlN b.kind<levelAt k+1)) (exprT b)):=by
 rw[exprT,if_neg aE,if_neg aE,if_neg aE,if_neg aE]
theorem RH{k:Int}(h0:26<=k)(h1:k<=31):opI (levelAt k) (signAt k)=k-26/\(levelAt k=1\/levelAt k=2\/levelAt k=3)/\(∀lv:Int,(lv=1\/lv=2\/lv=3)->lv≠levelAt k->opI lv (signAt k)<0)/\signAt k≠[46]/\lvlN k=levelAt k:=by
 have:k=26\/k=27\/k=28\/k=29\/k=30\/k=31:=aE;rcases this with rfl|rfl|rfl|rfl|rfl|rfl<;>exact⟨bC,bC,λlv h hn=>by rcases h with rfl|rfl|rfl<;>first|exact absurd rfl hn|decide,bC,bC⟩
theorem Gu{k:Int}(t:aW)(n:Int)(ks:List Nd)(h:13<=k):stmtT (.mk k t n ks)=wordAt k++midT k t++withN n++withE ks++[59]:=by
 unfold stmtT;rw[if_neg aE,if_neg aE,if_neg aE]
def jG(x:Nd):Prop:=∃ks,x=.mk 8 [] 0 ks/\∀y∈ks,rightN y=true/\isStmtK y.kind=true
theorem gU{x:Nd}(hr:rightN x=true)(hk:isBlockK x.kind=true):jG x:=by
 obtain⟨k,t,n,ks⟩:=x;have hk:k=8:=of_decide_eq_true (show decide (k=8)=true from hk);subst hk;obtain⟨_,_,hs,w1,w2,w3,hk⟩:=right_mk.1 hr;have hz:loAt 8=0/\hiAt 8=0:=⟨rfl,rfl⟩;have ht:t=[]:=by simpa [textB]using w3
 refine⟨ks,by rw[ht,show n=0 by omega],λy hy=>⟨hk y hy,?_⟩⟩;exact List.all_eq_true.1 (show(ks.all λy=>isStmtK y.kind)=true from hs) y hy
def Nt(k:Int)(t:aW)(n:Int)(ks:List Nd):Prop:=
 ((k=13\/k=14\/k=17\/k=18)/\wholeB t true=true/\n=0/\ks=[])\/
 ((k=15\/k=22)/\wholeB t true=true/\n=0/\∃e,ks=[e]/\rightN e=true/\isExprK e.kind=true)\/
 ((k=16\/k=23)/\wholeB t true=true/\n=0/\∃u,ks=[.mk 33 u 0 []]/\wholeB u false=true)\/
 (k=19/\wholeB t false=true/\2<=n/\n<=6/\ks=[])\/(k=20/\wholeB t false=true/\n=0/\ks=[])\/
 ((k=21/\n<=9\/k=25/\n<=99)/\t=[]/\1<=n/\ks=[])\/(k=24/\t=[]/\n=0/\∃e,ks=[e]/\rightN e=true/\isExprK e.kind=true)
theorem nY{f:Int->Bool}:∀{ks:List Nd},kidsB ks [f]=true->∃a,ks=[a]/\f a.kind=true
 |[a],h=>⟨a,rfl,by simpa [kidsB]using h⟩
 |[],h=>by cases h
 |_::_::_,h=>by simp[kidsB]at h
theorem Ac{f g:Int->Bool}:∀{ks:List Nd},kidsB ks [f,g]=true->∃a b,ks=[a,b]/\f a.kind=true/\g b.kind=true
 |[a,b],h=>⟨a,b,rfl,by simpa [kidsB]using h⟩
 |[],h=>by cases h
 |[_],h=>by simp[kidsB]at h
 |_::_::_::_,h=>by simp[kidsB]at h
theorem Nu{f g e:Int->Bool}:∀{ks:List Nd},kidsB ks [f,g,e]=true->∃a b c,ks=[a,b,c]/\f a.kind=true/\g b.kind=true/\e c.kind=true
 |[a,b,c],h=>⟨a,b,c,rfl,by simpa [kidsB]using h⟩
 |[],h=>by cases h
 |[_],h=>by simp[kidsB]at h
 |[_,_],h=>by simp[kidsB]at h
 |_::_::_::_::_,h=>by simp[kidsB]at h
theorem fK:∀{ks:List Nd},kidsB ks []=true->ks=[]
 |[],_=>rfl
 |_::_,h=>by cases h
theorem DZ{x:Nd}(hr:rightN x=true)(hk:isStmtK x.kind=true):
 (∃t e,x=.mk 9 t 0 [e]/\wholeB t false=true/\rightN e=true/\isExprK e.kind=true)\/
 (∃p e,x=.mk 10 [] 0 [p,e]/\rightN p=true/\isPlaceK p.kind=true/\rightN e=true/\isExprK e.kind=true)\/
 (∃k e b,(k=11\/k=12)/\x=.mk k [] 0 [e,b]/\rightN e=true/\isExprK e.kind=true/\rightN b=true/\isBlockK b.kind=true)\/
 (∃e b c,x=.mk 11 [] 0 [e,b,c]/\rightN e=true/\isExprK e.kind=true/\rightN b=true/\isBlockK b.kind=true/\rightN c=true/\isBlockK c.kind=true)\/
 (∃k t n ks,13<=k/\k<=25/\x=.mk k t n ks/\Nt k t n ks):=by
 obtain⟨k,t,n,ks⟩:=x;have hk:9<=k/\k<=25:=isStmtK_iff.1 hk;obtain⟨_,_,hs,w1,w2,w3,hk'⟩:=right_mk.1 hr;have hcase:k=9\/k=10\/k=11\/k=12\/k=13\/k=14\/k=15\/k=16\/k=17\/k=18\/k=19\/k=20\/k=21\/k=22\/k=23\/k=24\/k=25:=aE;rcases hcase with rfl|rfl|rfl|rfl|rfl|rfl|rfl|rfl|rfl|rfl|rfl|rfl|rfl|rfl|rfl|rfl|rfl
 ·obtain⟨e,rfl,he⟩:=nY (f:=isExprK) hs;have hz:loAt 9=0/\hiAt 9=0:=⟨rfl,rfl⟩;exact .inl ⟨t,e,by rw[show n=0 by omega],w3,hk' e aM,he⟩
 ·obtain⟨p,e,rfl,hp,he⟩:=Ac (f:=isPlaceK) (g:=isExprK) hs;have hz:loAt 10=0/\hiAt 10=0:=⟨rfl,rfl⟩;have ht:t=[]:=by simpa [textB]using w3
  exact .inr (.inl ⟨p,e,by rw[ht,show n=0 by omega],hk' p aM,hp,hk' e aM,he⟩)
 ·have hz:loAt 11=0/\hiAt 11=0:=⟨rfl,rfl⟩;have ht:t=[]:=by simpa [textB]using w3
  have hs:(kidsB ks [isExprK,isBlockK]||kidsB ks [isExprK,isBlockK,isBlockK])=true:=hs;rw[Bool.or_eq_true]at hs;rcases hs with hs|hs
  ·obtain⟨e,b,rfl,he,hb⟩:=Ac hs;exact .inr (.inr (.inl ⟨11,e,b,.inl rfl,by rw[ht,show n=0 by omega],hk' e aM,he,hk' b aM,hb⟩))
  ·obtain⟨e,b,c,rfl,he,hb,hc⟩:=Nu hs;exact .inr (.inr (.inr (.inl ⟨e,b,c,by rw[ht,show n=0 by omega],hk' e aM,he,hk' b aM,hb,hk' c aM,hc⟩)))
 ·have hz:loAt 12=0/\hiAt 12=0:=⟨rfl,rfl⟩;have ht:t=[]:=by simpa [textB]using w3
  obtain⟨e,b,rfl,he,hb⟩:=Ac (f:=isExprK) (g:=isBlockK) hs;exact .inr (.inr (.inl ⟨12,e,b,.inr rfl,by rw[ht,show n=0 by omega],hk' e aM,he,hk' b aM,hb⟩))
 all_goals refine .inr (.inr (.inr (.inr ⟨_,t,n,ks,bC,bC,rfl,?_⟩)))
 ·have hz:loAt 13=0/\hiAt 13=0:=⟨rfl,rfl⟩;exact .inl ⟨aE,w3,aE,fK hs⟩
 ·have hz:loAt 14=0/\hiAt 14=0:=⟨rfl,rfl⟩;exact .inl ⟨aE,w3,aE,fK hs⟩
 ·have hz:loAt 15=0/\hiAt 15=0:=⟨rfl,rfl⟩;obtain⟨e,rfl,he⟩:=nY (f:=isExprK) hs;exact .inr (.inl ⟨aE,w3,aE,e,rfl,hk' e aM,he⟩)
 ·have hz:loAt 16=0/\hiAt 16=0:=⟨rfl,rfl⟩;obtain⟨e,rfl,he⟩:=nY (f:=isLocalK) hs;refine .inr (.inr (.inl ⟨aE,w3,aE,?_⟩));have he':e.kind=33:=by simpa [isLocalK]using he
  rcases tJ (hk' e aM) (by rw[he'];rfl)with⟨g1,_⟩|⟨g1,g2⟩|g1|⟨g1,_⟩|⟨g1,_⟩|⟨k',a,b,g1,g2,g3,_⟩
  ·omega
  ·exact⟨e.text,by rw[<-g1],g2⟩
  ·rw[g1]at he';cases he'
  ·rw[g1]at he';cases he'
  ·rw[g1]at he';cases he'
  ·rw[g3]at he';simp only[dW]at he';omega
 ·have hz:loAt 17=0/\hiAt 17=0:=⟨rfl,rfl⟩;exact .inl ⟨aE,w3,aE,fK hs⟩
 ·have hz:loAt 18=0/\hiAt 18=0:=⟨rfl,rfl⟩;exact .inl ⟨aE,w3,aE,fK hs⟩
 ·have hz:loAt 19=2/\hiAt 19=6:=⟨rfl,rfl⟩;exact .inr (.inr (.inr (.inl ⟨rfl,w3,aE,aE,fK hs⟩)))
 ·have hz:loAt 20=0/\hiAt 20=0:=⟨rfl,rfl⟩;exact .inr (.inr (.inr (.inr (.inl ⟨rfl,w3,aE,fK hs⟩))))
 ·have hz:loAt 21=1/\hiAt 21=9:=⟨rfl,rfl⟩;exact .inr (.inr (.inr (.inr (.inr (.inl ⟨.inl ⟨rfl,aE⟩,by simpa [textB]using w3,aE,fK hs⟩)))))
 ·have hz:loAt 22=0/\hiAt 22=0:=⟨rfl,rfl⟩;obtain⟨e,rfl,he⟩:=nY (f:=isExprK) hs;exact .inr (.inl ⟨aE,w3,aE,e,rfl,hk' e aM,he⟩)
 ·have hz:loAt 23=0/\hiAt 23=0:=⟨rfl,rfl⟩;obtain⟨e,rfl,he⟩:=nY (f:=isLocalK) hs;refine .inr (.inr (.inl ⟨aE,w3,aE,?_⟩));have he':e.kind=33:=by simpa [isLocalK]using he
  rcases tJ (hk' e aM) (by rw[he'];rfl)with⟨g1,_⟩|⟨g1,g2⟩|g1|⟨g1,_⟩|⟨g1,_⟩|⟨k',a,b,g1,g2,g3,_⟩
  ·omega
  ·exact⟨e.text,by rw[<-g1],g2⟩
  ·rw[g1]at he';cases he'
  ·rw[g1]at he';cases he'
  ·rw[g1]at he';cases he'
  ·rw[g3]at he';simp only[dW]at he';omega
 ·have hz:loAt 24=0/\hiAt 24=0:=⟨rfl,rfl⟩;obtain⟨e,rfl,he⟩:=nY (f:=isExprK) hs;exact .inr (.inr (.inr (.inr (.inr (.inr ⟨rfl,by simpa [textB]using w3,aE,e,rfl,hk' e aM,he⟩)))))
 ·have hz:loAt 25=1/\hiAt 25=99:=⟨rfl,rfl⟩;exact .inr (.inr (.inr (.inr (.inr (.inl ⟨.inr ⟨rfl,aE⟩,by simpa [textB]using w3,aE,fK hs⟩)))))
theorem xE{k:Int}{t:aW}{n:Int}{ks:List Nd}(h:Nt k t n ks):(if k=19\/k=20 then wholeB t false=true else k=21\/k=25\/k=24\/wholeB t true=true)/\0<=n/\n<=999/\∀e∈ks,rightN e=true/\isExprK e.kind=true:=by
 have loc:∀{u:aW},wholeB u false=true->rightN (.mk 33 u 0 [])=true/\isExprK (Nd.mk 33 u 0 []).kind=true:=λhu=>⟨right_mk.2 ⟨bC,bC,rfl,bC,bC,hu,λ_ h=>by cases h⟩,rfl⟩;rcases h with⟨h1,h2,h3,h4⟩|⟨h1,h2,h3,e,h4,h5,h6⟩|⟨h1,h2,h3,u,h4,h5⟩|⟨h1,h2,h3,h4,h5⟩|⟨h1,h2,h3,h4⟩|⟨h1,h2,h3,h4⟩|⟨h1,h2,h3,e,h4,h5,h6⟩
 ·refine⟨?_,aE,aE,λe he=>by rw[h4]at he;cases he⟩;rw[if_neg aE];exact .inr (.inr (.inr h2))
 ·refine⟨?_,aE,aE,λy hy=>by rw[h4,List.mem_singleton]at hy;rw[hy];exact⟨h5,h6⟩⟩;rw[if_neg aE];exact .inr (.inr (.inr h2))
 ·refine⟨?_,aE,aE,λy hy=>by rw[h4,List.mem_singleton]at hy;rw[hy];exact loc h5⟩;rw[if_neg aE];exact .inr (.inr (.inr h2))
 ·refine⟨?_,aE,aE,λe he=>by rw[h5]at he;cases he⟩;rw[if_pos aE];exact h2
 ·refine⟨?_,aE,aE,λe he=>by rw[h4]at he;cases he⟩;rw[if_pos aE];exact h2
 ·refine⟨?_,aE,aE,λe he=>by rw[h4]at he;cases he⟩;rw[if_neg aE];omega
 ·refine⟨?_,aE,aE,λy hy=>by rw[h4,List.mem_singleton]at hy;rw[hy];exact⟨h5,h6⟩⟩;rw[if_neg aE];omega
def PC(x:Nd):Prop:=∃t n,x=.mk 7 t n []/\wholeB t true=true/\ -999<=n/\n<=999
theorem Nv{x:Nd}(hr:rightN x=true)(hk:isItemK x.kind=true):PC x:=by
 obtain⟨k,t,n,ks⟩:=x;have hk:k=7:=of_decide_eq_true (show decide (k=7)=true from hk);subst hk;obtain⟨_,_,hs,w1,w2,w3,_⟩:=right_mk.1 hr;have hz:loAt 7= -999/\hiAt 7=999:=⟨rfl,rfl⟩;exact⟨t,n,by rw[fK hs],w3,aE,aE⟩
def Nw(x:Nd):Prop:=wholeB x.text true=true/\(((x.kind=5\/x.kind=6)/\∃b,x=.mk x.kind x.text 0 [b]/\jG b)\/(x.kind=1/\x=.mk 1 x.text 0 x.kids/\∀y∈x.kids,PC y)\/
 (x.kind=0/\x=.mk 0 x.text x.n []/\ -999<=x.n/\x.n<=999)\/(x.kind=2/\x=.mk 2 x.text x.n []/\0<=x.n/\x.n<=3)\/((x.kind=3\/x.kind=4)/\x=.mk x.kind x.text 0 []))
theorem xF{x:Nd}(hr:rightN x=true)(h0:0<=x.kind)(h1:x.kind<=6):Nw x:=by
 obtain⟨k,t,n,ks⟩:=x;have h0:0<=k:=h0;have h1:k<=6:=h1;obtain⟨_,_,hs,w1,w2,w3,hk⟩:=right_mk.1 hr;have hcase:k=0\/k=1\/k=2\/k=3\/k=4\/k=5\/k=6:=aE;refine⟨by rcases hcase with rfl|rfl|rfl|rfl|rfl|rfl|rfl<;>exact w3,?_⟩;rcases hcase with rfl|rfl|rfl|rfl|rfl|rfl|rfl
 ·have hz:loAt 0= -999/\hiAt 0=999:=⟨rfl,rfl⟩;exact .inr (.inr (.inl ⟨rfl,by rw[fK hs];rfl,by simp only[xA];omega,by simp only[xA];omega⟩))
 ·have hz:loAt 1=0/\hiAt 1=0:=⟨rfl,rfl⟩;exact .inr (.inl ⟨rfl,by rw[show n=0 by omega];rfl,λy hy=>Nv (hk y hy) (List.all_eq_true.1 (show(ks.all λy=>isItemK y.kind)=true from hs) y hy)⟩)
 ·have hz:loAt 2=0/\hiAt 2=3:=⟨rfl,rfl⟩;exact .inr (.inr (.inr (.inl ⟨rfl,by rw[fK hs];rfl,by simp only[xA];omega,by simp only[xA];omega⟩)))
 ·have hz:loAt 3=0/\hiAt 3=0:=⟨rfl,rfl⟩;exact .inr (.inr (.inr (.inr ⟨.inl rfl,by rw[fK hs,show n=0 by omega];rfl⟩)))
 ·have hz:loAt 4=0/\hiAt 4=0:=⟨rfl,rfl⟩;exact .inr (.inr (.inr (.inr ⟨.inr rfl,by rw[fK hs,show n=0 by omega];rfl⟩)))
 ·have hz:loAt 5=0/\hiAt 5=0:=⟨rfl,rfl⟩;obtain⟨b,rfl,hb⟩:=nY (f:=isBlockK) hs;exact .inl ⟨.inl rfl,b,by rw[show n=0 by omega];rfl,gU (hk b aM) hb⟩
 ·have hz:loAt 6=0/\hiAt 6=0:=⟨rfl,rfl⟩;obtain⟨b,rfl,hb⟩:=nY (f:=isBlockK) hs;exact .inl ⟨.inr rfl,b,by rw[show n=0 by omega];rfl,gU (hk b aM) hb⟩
theorem RI{k:Int}(h:11<=k/\k<=25):kindP (wordAt k)=k:=by
 have:k=11\/k=12\/k=13\/k=14\/k=15\/k=16\/k=17\/k=18\/k=19\/k=20\/k=21\/k=22\/k=23\/k=24\/k=25:=aE;rcases this with rfl|rfl|rfl|rfl|rfl|rfl|rfl|rfl|rfl|rfl|rfl|rfl|rfl|rfl|rfl<;>decide
theorem UU{k:Int}(h:0<=k/\k<=6):defKind (wordAt k)=k:=by
 have:k=0\/k=1\/k=2\/k=3\/k=4\/k=5\/k=6:=aE;rcases this with rfl|rfl|rfl|rfl|rfl|rfl|rfl<;>decide
end Go.Eng
namespace Go.Eng
theorem bY{p:Prop}(h:p:=by kernel_rfl):p:=h
section
variable{P:Program} {T:TypeId->fE} {N:Nat} {w0:cX} {X:Nat->Prop} {Q:LX->eD->dM->Prop} {env:eD} {H:dM}
theorem Nx(hT:fP P T)(hW:BS T){id:Nat}{l:List Oper}(h:(eX P T N l (λ_=>none) env H).ok/\Q .normal (eX P T N l (λ_=>none) env H).env (eX P T N l (λ_=>none) env H).H):
 eW P N w0 X (.region id l.toArray false) Q env H:=tC hT hW (λ_=>none) (λ_=>⟨rfl,λ_ h=>h⟩) h
theorem eW.ro(hT:fP P T)(hW:BS T){id:Nat}{l:List Oper}(orc:Nat->Option kS)(h:(eX P T N l orc env H).ok/\Q .normal (eX P T N l orc env H).env (eX P T N l orc env H).H)
 (hdet:∀d,uX (orc d):=by intro d;first|exact⟨rfl,λ_ h=>h⟩|(split<;>exact⟨rfl,λ_ h=>h⟩)):eW P N w0 X (.region id l.toArray false) Q env H:=tC hT hW orc hdet h
theorem Ny(hT:fP P T)(hW:BS T){id:Nat}{l:List Oper}{y:Code}(h:(eX P T N l (λ_=>none) env H).ok/\yK (eW P N w0 X y Q) Q .normal (eX P T N l (λ_=>none) env H).env (eX P T N l (λ_=>none) env H).H):
 eW P N w0 X (.seq (.region id l.toArray false) y) Q env H:=eW.seq (Nx hT hW h)
theorem ZQ(hT:fP P T)(hW:BS T){id:Nat}{l:List Oper}{y:Code}(orc:Nat->Option kS)(h:(eX P T N l orc env H).ok/\yK (eW P N w0 X y Q) Q .normal (eX P T N l orc env H).env (eX P T N l orc env H).H)
 (hdet:∀d,uX (orc d):=by intro d;first|exact⟨rfl,λ_ h=>h⟩|(split<;>exact⟨rfl,λ_ h=>h⟩)):eW P N w0 X (.seq (.region id l.toArray false) y) Q env H:=eW.seq (eW.ro hT hW orc h hdet)
theorem aD{id:Nat}{l:List Oper}{y:Code}(h:(eX prog Eng.T N l (λ_=>none) env H).ok/\yK (eW prog N w0 X y Q) Q .normal (eX prog Eng.T N l (λ_=>none) env H).env (eX prog Eng.T N l (λ_=>none) env H).H):
 eW prog N w0 X (.seq (.region id l.toArray false) y) Q env H:=Ny hT hW h
theorem aK{id:Nat}{l:List Oper}(h:(eX prog Eng.T N l (λ_=>none) env H).ok/\Q .normal (eX prog Eng.T N l (λ_=>none) env H).env (eX prog Eng.T N l (λ_=>none) env H).H):
 eW prog N w0 X (.region id l.toArray false) Q env H:=Nx hT hW h
theorem dT{id:Nat}{l:List Oper}{y z:Code}(h:(eX prog Eng.T N l (λ_=>none) env H).ok/\yK (eW prog N w0 X y (yK (eW prog N w0 X z Q) Q)) (yK (eW prog N w0 X z Q) Q) .normal (eX prog Eng.T N l (λ_=>none) env H).env (eX prog Eng.T N l (λ_=>none) env H).H):
 eW prog N w0 X (.seq (.seq (.region id l.toArray false) y) z) Q env H:=eW.seq (Ny hT hW h)
theorem aV{id:Nat}{l:List Oper}{x y:Code}{c:Operand}(h:(eX prog Eng.T N l (λ_=>none) env H).ok/\Pp (kH (eX prog Eng.T N l (λ_=>none) env H).env c) (eW prog N w0 X x Q (eX prog Eng.T N l (λ_=>none) env H).env (eX prog Eng.T N l (λ_=>none) env H).H) (eW prog N w0 X y Q (eX prog Eng.T N l (λ_=>none) env H).env (eX prog Eng.T N l (λ_=>none) env H).H)):
 eW prog N w0 X (.seq (.region id l.toArray false) (.cond c x y)) Q env H:=Ny hT hW ⟨h.1,aJ h.2⟩
abbrev aP{id:Nat}{l:List Oper}(orc:Nat->Option kS)(h:(eX prog Eng.T N l orc env H).ok/\Q .normal (eX prog Eng.T N l orc env H).env (eX prog Eng.T N l orc env H).H)
 (hdet:∀d,uX (orc d):=by intro d;first|exact⟨rfl,λ_ h=>h⟩|(split<;>exact⟨rfl,λ_ h=>h⟩)):eW prog N w0 X (.region id l.toArray false) Q env H:=eW.ro hT hW orc h hdet
abbrev cJ{id:Nat}{l:List Oper}{y:Code}(orc:Nat->Option kS)(h:(eX prog Eng.T N l orc env H).ok/\yK (eW prog N w0 X y Q) Q .normal (eX prog Eng.T N l orc env H).env (eX prog Eng.T N l orc env H).H)
 (hdet:∀d,uX (orc d):=by intro d;first|exact⟨rfl,λ_ h=>h⟩|(split<;>exact⟨rfl,λ_ h=>h⟩)):eW prog N w0 X (.seq (.region id l.toArray false) y) Q env H:=ZQ hT hW orc h hdet
end
section
variable{P:Program} {T:TypeId->fE} {N:Nat} {w0:cX} {X:Nat->Prop} {Q:LX->eD->dM->Prop} {env env':eD} {H H':dM}
theorem aA{P':List Nat}(hp:w0.pins=P')(keep:List Nat)(σ:List (Nat×Nat))(hE:aR (keep.map λt=>(t,ren σ 8 (env t)))=env':=by simp)(hH:aL (σ.map λp=>(p.2,cQ σ (H p.1)))=H':=by simp)
 (hσ:(σ.map (·.2)).Nodup:=by decide)(hσ1:(σ.map (·.1)).Nodup:=by decide)(hpin:(P'.all λid=>dP σ id==some id)=true:=by rfl):iH w0 env H env' H':=
 oP keep σ hσ hσ1 (λid hid=>by rw[hp]at hid;simpa using List.all_eq_true.1 hpin id hid) hE hH
theorem aBC{f:FuncId}{fn:Func}{c:Code}{args:List DV}{r:RV}{fresh:Bool}{n t:Nat}(hf:prog.funcs[f]? =some fn)(hb:fn.body=some c)(hn:fn.ntmps=n)(hres:fn.results= #[.tmp t])
 (h:∀w0 X,w0.pins=[]->eW prog n w0 X c (XD t fresh r) (gY args) (aL []))(hname:(fn.name== "runtime.NumGoroutine")=false:=by kernel_rfl)(hargs:args.length<=n:=by simp)(hrt:∀rs,r≠ .tup rs:=by intro _ h;cases h):Ok prog f args ⟨r,fresh⟩:=Ok.ret hf hname hb hn hargs hres hrt h
theorem aBD{f:FuncId}{fn:Func}{c:Code}{args:List DV}{r:RV}{fresh:Bool}{n t:Nat}{ty:TypeId}(hf:prog.funcs[f]? =some fn)(hb:fn.body=some c)(hn:fn.ntmps=n)(hres:fn.results= #[.cell t ty])
 (h:∀w0 X,w0.pins=[]->eW prog n w0 X c (XE Eng.T t ty fresh r) (gY args) (aL []))(hname:(fn.name== "runtime.NumGoroutine")=false:=by kernel_rfl)(hargs:args.length<=n:=by simp)(hrt:∀rs,r≠ .tup rs:=by intro _ h;cases h):Ok prog f args ⟨r,fresh⟩:=Ok.cell hT hf hname hb hn hargs hres hrt h
theorem aBq{f:FuncId}{fn:Func}{c:Code}{args:List LV}{h fin:List (Nat×bB)}{n:Nat}(hf:prog.funcs[f]? =some fn)(hb:fn.body=some c)(hn:fn.ntmps=n)(hres:fn.results= #[])
 (hw:∀w0 X,w0.pins=h.map (·.1)->eW prog n w0 X c (Gk w0 fin) (HX args) (aL h))(hname:(fn.name== "runtime.NumGoroutine")=false:=by kernel_rfl)(hargs:args.length<=n:=by simp):iG prog f args h fin (.tup []):=fY hf hname hb hn hargs hres hw
theorem aBr{f:FuncId}{fn:Func}{c:Code}{args:List LV}{h fin:List (Nat×bB)}{ret:LV}{n t:Nat}(hf:prog.funcs[f]? =some fn)(hb:fn.body=some c)(hn:fn.ntmps=n)(hres:fn.results= #[.tmp t])
 (hw:∀w0 X,w0.pins=h.map (·.1)->eW prog n w0 X c (Pt w0 t fin ret) (HX args) (aL h))(hname:(fn.name== "runtime.NumGoroutine")=false:=by kernel_rfl)(hargs:args.length<=n:=by simp):iG prog f args h fin ret:=iG.one hf hname hb hn hargs hres hw
theorem aBs{f:FuncId}{fn:Func}{c:Code}{args:List LV}{h fin:List (Nat×bB)}{ret:LV}{n t:Nat}{ty:TypeId}(hf:prog.funcs[f]? =some fn)(hb:fn.body=some c)(hn:fn.ntmps=n)(hres:fn.results= #[.cell t ty])
 (hw:∀w0 X,w0.pins=h.map (·.1)->eW prog n w0 X c (Pv w0 Eng.T t ty fin ret) (HX args) (aL h))(hname:(fn.name== "runtime.NumGoroutine")=false:=by kernel_rfl)(hargs:args.length<=n:=by simp):iG prog f args h fin ret:=iG.cell hT hf hname hb hn hargs hres hw
abbrev aG{P:Program}{N:Nat}{w0:cX}{X:Nat->Prop}{Q:LX->eD->dM->Prop}{env:eD}{H:dM}{x y:Code}(h:eW P N w0 X x (yK (eW P N w0 X y Q) Q) env H):=eW.seq h
abbrev aH{P:Program}{N:Nat}{w0:cX}{X:Nat->Prop}{Q:LX->eD->dM->Prop}{env:eD}{H:dM}(h:Q .ret env H):eW P N w0 X .ret Q env H:=eW.ret h
abbrev aF{P:Program}{N:Nat}{w0:cX}{X:Nat->Prop}{Q:LX->eD->dM->Prop}{env:eD}{H:dM}(h:Q .normal env H):eW P N w0 X .skip Q env H:=eW.skip h
abbrev bE{P:Program}{N:Nat}{w0:cX}{X:Nat->Prop}{Q:LX->eD->dM->Prop}{env:eD}{H:dM}{id:Nat}(h:Q (.exit id) env H):eW P N w0 X (.exit id) Q env H:=eW.exit h
abbrev aO{P:Program}{N:Nat}{w0:cX}{X:Nat->Prop}{Q:LX->eD->dM->Prop}{env:eD}{H:dM}{id:Nat}{c:Code}(h:eW P N w0 X c (uY id Q) env H):eW P N w0 X (.block id c) Q env H:=eW.block h
abbrev dH{P:Program}{N:Nat}{w0:cX}{X:Nat->Prop}{Q:LX->eD->dM->Prop}{env:eD}{H:dM}{id:Nat}{x y:Code}(h:eW P N w0 X x (uY id (yK (eW P N w0 X y Q) Q)) env H):eW P N w0 X (.seq (.block id x) y) Q env H:=eW.seq (eW.block h)
abbrev eA{P:Program}{N:Nat}{w0:cX}{X:Nat->Prop}{Q:LX->eD->dM->Prop}{env:eD}{H:dM}{x y z:Code}(h:eW P N w0 X x (yK (eW P N w0 X y (yK (eW P N w0 X z Q) Q)) (yK (eW P N w0 X z Q) Q)) env H):eW P N w0 X (.seq (.seq x y) z) Q env H:=eW.seq (eW.seq h)
def clG(l:List Oper):List (List Nat):=l.foldl (λacc o=>acc++[o.after.toList.foldl (λs e=>if Region.binds .any e then(if s.contains e.on then s else e.on::s)++((acc.getD e.on []).filter λi=> !(i==e.on||s.contains i))else s) []]) []
def clC(l:List Oper)(j:Nat):List Nat:=(clG l).getD j []
theorem eW.rd{id:Nat}{l:List Oper}(hide wr:List (List Nat))(orc:Nat->Option kS)
 (h:(xW prog Eng.T N l orc (lk hide) (lk wr) ⟨env,H,True⟩).ok/\Q .normal (xW prog Eng.T N l orc (lk hide) (lk wr) ⟨env,H,True⟩).env (xW prog Eng.T N l orc (lk hide) (lk wr) ⟨env,H,True⟩).H)
 (hA:DP l (clC l) (lk hide) (lk wr)=true:=by kernel_rfl)(hdet:∀d,uX (orc d):=by intro d;first|exact⟨rfl,λ_ h=>h⟩|(split<;>exact⟨rfl,λ_ h=>h⟩)):eW prog N w0 X (.region id l.toArray true) Q env H:=
 MX hT hW (by kernel_rfl) (clC l) (lk hide) (lk wr) hA orc hdet h
end
end Go.Eng
namespace Go.Eng
theorem aBt:prog.follows .mixedOrders=true:=bY
theorem aAL(a b:Nm):(decide (a.who=b.who)&&decide (a.seq=b.seq))=decide (a=b):=by
 cases a;cases b;simp[Bool.decide_and]
theorem aAM(a b:Df):(a.name==b.name&&a.text==b.text)=decide (a=b):=by
 cases a;cases b;simp[Bool.beq_eq_decide_eq]
attribute[simp] eX fC iW bT kH oO mH BT cE bW kQ.plain kQ.cond kQ.fail fU Dg yK uY gY oL fI pU memless HO nP wP QD bok qR iO strip Gd kL AS cK xW gG jF iX jE xV lk cQ dP cT eF cM Dk gW Jm mV pM cO nQ fJ lI iU MZ Na JR Nb Rg Rh Ri Nc JS Nf JT Ng Rk Rm Rp Rq Nh Ru FT Dh mkAgg Mn Jk iM bZ gJ bB.live TK.isNone TK.agg TK.isBool TK.isStr TK.isStruct Op.operands Call.operands eS jB jR iL rQ Di Pj dI lJ jA nU uP bI frozen qX Uh Ui Pr Rd Uk Ul Um Uq Ps Re Us Ut Uu Uw aAF XF ZE ZF ZH ZI ZK Ux Uf Rc MY Nm.d Df.d Ed.d aBi eO gO aBj Ug aAL aAM Ia Ib aBk aBl aAG aBm aBn aAH aAI aAJ ZO aBo aBp aAK fV fS pD Zp pE lK lM lL rU TB TK.isInt Uj Ur ZG Ro qQ lN rR nT uO wO nM Dj Jl BI uI aAE rP iF kI rO lH pC iV uM lQ lR gK HX Rv HY Rw Rx cQ Uo Up ZD DR Ry Uz Rr Rs Nj gV qP TK.isPtr rV cS UA JU Pu Un Uv ZJ Rj Rn Ni JW UD Rz
attribute[local simp] kQ.cond Nd.d_eq nd_t nd_dr nd_td ndsD
structure BC where
 b:Bool
theorem PD{a b:Nat}:(if a<b then(b:Int)else(a:Int))=((max a b:Nat):Int):=by split<;>omega
theorem lW{x:Nd}{i:Nat}(hi:i<x.kids.length):weighN x.kids[i]<weighN x:=by
 have:=weigh_mem (List.getElem_mem hi);rw[weighN_eq x];omega
theorem lF(x:Nd):x.kids.length<weighN x:=by
 have:=weigh_len (l:=x.kids);rw[weighN_eq x];omega
theorem eK(n m:Int)(h1: -9223372036854775808<=n)(h2:n<=9223372036854775807)(hm:m≠0):Ok prog 25 [aI n,aI m] ⟨.d (aI (bH n m)),true⟩:=by
 refine Ok.ret func25 bY (c:=_) rfl ntmps25 aM results25 (by intro _ h;cases h) λw0 X hp=>?_;apply aD;simp;apply aG;apply aV;simp;refine⟨λh1=>?_,λh1=>?_⟩
 ·apply aK;simp;refine⟨aE,?_⟩;apply aD;simp;refine⟨hm,?_⟩;apply aH;simp[bH,h1]
 ·apply aF;simp;apply aD;simp;refine⟨hm,?_⟩;apply aH;have:¬n<0:=aE;simp[bH,this]
theorem Kh(l:List Int)(i m:Int)(hl:∀n∈l, -9223372036854775808<=n/\n<=9223372036854775807)(hm:m≠0):Ok prog 53 [.sl (l.map aI),aI i,aI m] ⟨.d (aI (dQ l i m)),true⟩:=by
 refine Ok.ret func53 bY (c:=_) rfl ntmps53 aM results53 (by intro _ h;cases h) λw0 X hp=>?_;apply aD;simp;apply eA;refine eW.len (t:=0) rfl λhlen=>?_;simp at hlen;apply aK;simp;apply aJ;simp;refine⟨λh1=>?_,λh1 h2=>?_⟩
 ·apply aD;simp;apply aH;simp[dQ,h1]
 ·obtain⟨k,rfl⟩:=Int.eq_ofNat_of_zero_le h1;have hi':k<l.length:=aE;apply aF;simp;refine cJ (λ|20=>some<| .plain ⟨.d (aI (bH l[k] m)),true⟩|_=>none) ?_;simp[h2,hi'];refine⟨eK _ _ (hl _ (List.getElem_mem hi')).1 (hl _ (List.getElem_mem hi')).2 hm,?_⟩;apply aH;simp[dQ,hi'];omega
theorem Nz(x:Nd)(hw:weighN x<=1000000000)(ih:∀y∈x.kids,weighN y<=1000000000->Ok prog 129 [y.d] ⟨.d (aI (depthN y)),true⟩):Ok prog 129 [x.d] ⟨.d (aI (depthN x)),true⟩:=by
 refine Ok.ret func129 bY (c:=_) rfl ntmps129 aM results129 (by intro _ h;cases h) λw0 X hp=>?_;apply aD;simp;apply aD;simp;apply dT;simp;apply aO;refine aU (ι:=Nat) (λi=>aR [(3,.d (aI (depthL (x.kids.take i)))),(7,.d (ndsD x.kids)),(8,.d (aI x.kids.length)),(9,.d (aI i))]) (λi=>aL []) (λi=>i<=x.kids.length) (λi=>x.kids.length-i) 0 (aA hp [3,7,8,9] [] (by simp[depthL])) (Nat.zero_le _) λi hi3=>?_;apply aD;simp;apply aG;apply aJ;simp;refine⟨λh3=>?_,λh3=>?_⟩
 ·apply aF;simp;apply dH;apply aG;have hi:i<x.kids.length:=aE;apply aK;simp[hi];have hk:=ih _ (List.getElem_mem hi) (by have:=lW hi;omega);refine aP (λ|15=>some<| .plain ⟨.d (aI (depthN x.kids[i])),true⟩|_=>none) ?_;simp;refine⟨by simpa using hk,?_⟩;have:=lF x;apply aK;simp;refine⟨aE,?_⟩;refine Pq.mk (i+1) (aA hp [3,7,8,9] [] (by simp[depthL_succ hi,PD])) ?_ ?_
  ·omega
  ·omega
 ·apply bE;simp;apply aG;have hi:i=x.kids.length:=aE;subst hi;rw[List.take_length];have h1:=depth_size x;have h2:=size_weigh x;have h3:=depthN_eq x;apply aK;simp;refine⟨aE,?_⟩;apply aH;simp[h3]
theorem UV(x:Nd)(hw:weighN x<=1000000000):Ok prog 129 [x.d] ⟨.d (aI (depthN x)),true⟩:=by
 revert hw;exact nE (p:=λx=>weighN x<=1000000000->Ok prog 129 [x.d] ⟨.d (aI (depthN x)),true⟩) (λk t n ks ih hw=>Nz _ hw ih) x
section
attribute[local simp] kQ.cond Nd.d_eq nd_t nd_dr nd_td ndsD
def nZ{α:Type}(p:α->Bool)(l:List α):Int:=match l.findIdx? p with|some i=>i|none=> -1
theorem sF{α:Type}{p:α->Bool}{l:List α}{i:Nat}(h:l.findIdx? p=some i):nZ p l=i:=by simp[nZ,h]
theorem sG{α:Type}{p:α->Bool}{l:List α}(h:l.findIdx? p=none):nZ p l= -1:=by simp[nZ,h]
theorem Cc{α:Type}{p:α->Bool}{l:List α}:decide (0<=nZ p l)=l.any p:=by
 unfold nZ;split
 ·rename_i i hi;obtain⟨h1,h2,_⟩:=List.findIdx?_eq_some_iff_getElem.1 hi;have:l.any p=true:=ZP h1 h2;rw[this];simp
 ·rename_i hi;rw[List.findIdx?_eq_none_iff]at hi;have:l.any p=false:=by rw[List.any_eq_false];intro x hx;rw[hi x hx];simp
  rw[this];simp
theorem If{α:Type}{p:α->Bool}{l:List α}:0<=nZ p l↔l.any p=true:=by
 rw[<-Cc];simp
theorem rI(l:List aW)(n:aW):Ok prog 120 [gO l,.str n] ⟨.d (aI (nZ (λx=>decide (n=x)) l)),true⟩:=by
 refine Ok.ret func120 bY (c:=_) rfl ntmps120 aM results120 (by intro _ h;cases h) λw0 X hp=>?_;refine eW.len (t:=0) rfl λhlen=>?_;simp at hlen;apply aD;simp;apply dT;simp;apply aO;refine aU (ι:=Nat) (λi=>aR [(0,.d (gO l)),(1,.d (.str n)),(7,.d (aI l.length)),(8,.d (aI i))]) (λi=>aL []) (λi=>i<=l.length/\Pz (λx=>decide (n=x)) l i) (λi=>l.length-i) 0 (aA hp [0,1,7,8] []) (⟨Nat.zero_le _,Pz.zero⟩) λi hi2=>?_;apply aD;simp;apply aG;apply aJ;simp;refine⟨λh2=>?_,λh2=>?_⟩
 ·apply aF;simp;apply dH;apply aD;simp;apply aD;simp[h2];apply aJ;simp;refine⟨λh4=>?_,λh4=>?_⟩
  ·apply aD;simp;apply aH;simp[sF (hi2.2.found h2 (by simpa using h4))]
  ·apply aF;simp;apply aK;simp;refine⟨aE,?_⟩;refine Pq.mk (i+1) (aA hp [0,1,7,8] []) ?_ ?_
   ·exact⟨h2,hi2.2.succ h2 (by simpa using h4)⟩
   ·omega
 ·apply bE;simp;apply aD;simp;apply aH;simp[sG (hi2.2.none aE)]
theorem Ki(l:List aW)(n:aW):Ok prog 104 [gO l,.str n] ⟨.d (.bool (decide (n∈l))),true⟩:=by
 refine Ok.ret func104 bY (c:=_) rfl ntmps104 aM results104 (by intro _ h;cases h) λw0 X hp=>?_;apply aD;simp;refine cJ (λ|7=>some<| .plain ⟨.d (aI (nZ (λx=>decide (n=x)) l)),true⟩|_=>none) ?_;simp;refine⟨rI l n,?_⟩;apply aH;simp[If]
theorem NA(l:List Nd)(p:Nd->Bool)(g:FuncId)(cs:List DV)(hg:∀x∈l,Ok prog g (x.d::cs) ⟨.d (.bool (p x)),true⟩):Ok prog 133 [ndsD l,.fn g cs] ⟨.d (aI (nZ p l)),true⟩:=by
 refine Ok.ret func133 bY (c:=_) rfl ntmps133 aM results133 (by intro _ h;cases h) λw0 X hp=>?_;refine eW.len (t:=0) rfl λhlen=>?_;simp at hlen;apply aD;simp;apply dT;simp;apply aO;refine aU (ι:=Nat) (λi=>aR [(0,.d (ndsD l)),(1,.d (.fn g cs)),(7,.d (aI l.length)),(8,.d (aI i))]) (λi=>aL []) (λi=>i<=l.length/\Pz p l i) (λi=>l.length-i) 0 (aA hp [0,1,7,8] []) (⟨Nat.zero_le _,Pz.zero⟩) λi hi2=>?_;apply aD;simp;apply aG;apply aJ;simp;refine⟨λh2=>?_,λh2=>?_⟩
 ·apply aF;simp;apply dH;apply aD;simp;refine cJ (λ|16=>some<| .plain ⟨.d (.bool (p l[i])),true⟩|_=>none) ?_;simp[h2];refine⟨by simpa using hg l[i] (List.getElem_mem h2),?_⟩;apply aJ;simp;refine⟨λh4=>?_,λh4=>?_⟩
  ·apply aD;simp;apply aH;simp[sF (hi2.2.found h2 h4)]
  ·apply aF;simp;apply aK;simp;refine⟨aE,?_⟩;refine Pq.mk (i+1) (aA hp [0,1,7,8] []) ?_ ?_
   ·exact⟨h2,hi2.2.succ h2 h4⟩
   ·omega
 ·apply bE;simp;apply aD;simp;apply aH;simp[sG (hi2.2.none aE)]
theorem Kj(l:List Nd)(p:Nd->Bool)(g:FuncId)(cs:List DV)(hg:∀x∈l,Ok prog g (x.d::cs) ⟨.d (.bool (p x)),true⟩):Ok prog 79 [ndsD l,.fn g cs] ⟨.d (.bool (l.any p)),true⟩:=by
 refine Ok.ret func79 bY (c:=_) rfl ntmps79 aM results79 (by intro _ h;cases h) λw0 X hp=>?_;apply aD;simp;refine cJ (λ|7=>some<| .plain ⟨.d (aI (nZ p l)),true⟩|_=>none) ?_;simp;refine⟨by simpa using NA l p g cs hg,?_⟩;apply aH;simp[<-Cc]
theorem RJ(k:Int):Ok prog 190 [aI k] ⟨.d (.bool (isStmtK k)),true⟩:=by
 refine Ok.ret func190 bY (c:=_) rfl ntmps190 aM results190 (by intro _ h;cases h) λw0 X hp=>?_;apply aD;simp;apply aD;simp;apply aH;simp[isStmtK]
theorem RK(k:Int):Ok prog 189 [aI k] ⟨.d (.bool (isItemK k)),true⟩:=by
 refine Ok.ret func189 bY (c:=_) rfl ntmps189 aM results189 (by intro _ h;cases h) λw0 X hp=>?_;apply aD;simp;apply aD;simp;apply aH;simp[isItemK]
theorem pZ(k:Int):Ok prog 192 [aI k] ⟨.d (.bool (isBlockK k)),true⟩:=by
 refine Ok.ret func192 bY (c:=_) rfl ntmps192 aM results192 (by intro _ h;cases h) λw0 X hp=>?_;apply aD;simp;apply aD;simp;apply aH;simp[isBlockK]
theorem nG(k:Int):Ok prog 193 [aI k] ⟨.d (.bool (isExprK k)),true⟩:=by
 refine Ok.ret func193 bY (c:=_) rfl ntmps193 aM results193 (by intro _ h;cases h) λw0 X hp=>?_;apply aD;simp;apply aD;simp;apply aH;simp[isExprK]
theorem NB(k:Int):Ok prog 194 [aI k] ⟨.d (.bool (isPlaceK k)),true⟩:=by
 refine Ok.ret func194 bY (c:=_) rfl ntmps194 aM results194 (by intro _ h;cases h) λw0 X hp=>?_;apply aD;simp;apply aD;simp;apply aH;simp[isPlaceK]
theorem NC(k:Int):Ok prog 195 [aI k] ⟨.d (.bool (isLocalK k)),true⟩:=by
 refine Ok.ret func195 bY (c:=_) rfl ntmps195 aM results195 (by intro _ h;cases h) λw0 X hp=>?_;apply aD;simp;apply aD;simp;apply aH;simp[isLocalK]
theorem XL(x:Nd)(g:FuncId)(f:Int->Bool)(hg:∀k,Ok prog g [aI k] ⟨.d (.bool (f k)),true⟩):Ok prog 215 [x.d,.ro [.fn g []]] ⟨.d (.bool (!f x.kind)),true⟩:=by
 refine Ok.ret func215 bY (c:=_) rfl ntmps215 aM results215 (by intro _ h;cases h) λw0 X hp=>?_;apply aD;simp;refine cJ (λ|7=>some<| .plain ⟨.d (.bool (f x.kind)),true⟩|_=>none) ?_;simp;refine⟨hg _,?_⟩;apply aH;simp
theorem UW(x:Nd)(g:FuncId)(f:Int->Bool)(hg:∀k,Ok prog g [aI k] ⟨.d (.bool (f k)),true⟩):Ok prog 188 [x.d,.fn g []] ⟨.d (.bool (x.kids.all λy=>f y.kind)),true⟩:=by
 refine Ok.ret func188 bY (c:=_) rfl ntmps188 aM results188 (by intro _ h;cases h) λw0 X hp=>?_;apply aD;simp;refine cJ (λ|8=>some<| .plain ⟨.d (.bool (x.kids.any λy=> !f y.kind)),true⟩|_=>none) ?_;simp;refine⟨by simpa using Kj x.kids (λy=> !f y.kind) _ _ λy _=>XL y g f hg,?_⟩;apply aH;simp[List.all_eq_not_any_not]
theorem Gv:∀{ks:List Nd} {fs:List (Int->Bool)},ks.length≠fs.length->kidsB ks fs=false
 |[],[],h=>absurd rfl h
 |[],_::_,_=>rfl
 |_::_,[],_=>rfl
 |x::r,f::l,h=>by rw[kidsB,Gv (ks:=r) (fs:=l) (by simpa using h),Bool.and_false]
theorem Ea:∀{ks:List Nd} {fs:List (Int->Bool)},ks.length=fs.length->(kidsB ks fs=true↔∀(i:Nat) (h1:i<ks.length) (h2:i<fs.length),fs[i] ks[i].kind=true)
 |[],[],_=>⟨λ_ i h=>by simp at h,λ_=>rfl⟩
 |[],_::_,h=>by simp at h
 |_::_,[],h=>by simp at h
 |x::r,f::l,h=>by
  rw[kidsB,Bool.and_eq_true,Ea (ks:=r) (fs:=l) (by simpa using h)];constructor
  ·rintro⟨h1,h2⟩ i hi hj;cases i with
   |zero=>exact h1
   |succ i=>exact h2 i (by simpa using hi) (by simpa using hj)
  ·intro h;exact⟨h 0 aM aM,λi hi hj=>h (i+1) (by simpa using hi) (by simpa using hj)⟩
structure XM(gs:List FuncId)(fs:List (Int->Bool)):Prop where
 len:gs.length=fs.length
 ok:∀(i:Nat) (h1:i<gs.length) (h2:i<fs.length) (k:Int),Ok prog gs[i] [aI k] ⟨.d (.bool (fs[i] k)),true⟩
def RL(g:FuncId):DV:=.fn g []
theorem oU(x:Nd)(gs:List FuncId)(fs:List (Int->Bool))(hg:XM gs fs)(hgl:gs.length<=100):Ok prog 191 [x.d,.sl (gs.map RL)] ⟨.d (.bool (kidsB x.kids fs)),true⟩:=by
 refine Ok.ret func191 bY (c:=_) rfl ntmps191 aM results191 (by intro _ h;cases h) λw0 X hp=>?_;have hgf:=hg.len;apply aD;simp;apply aG;apply aV;simp;refine⟨λh1=>?_,λh1=>?_⟩
 ·apply aD;simp;apply aH;simp;exact Gv aE
 ·apply aF;simp;apply eA;have hlen:x.kids.length=fs.length:=aE;have hkl:x.kids.length<=100:=aE;apply aK;simp;apply aO;refine aU (ι:=Nat) (λi=>aR [(1,.d (.sl (gs.map RL))),(14,.d (ndsD x.kids)),(15,.d (aI x.kids.length)),(16,.d (aI i))]) (λi=>aL []) (λi=>i<=x.kids.length/\∀(j:Nat) (h1:j<x.kids.length) (h2:j<fs.length),j<i->fs[j] x.kids[j].kind=true) (λi=>x.kids.length-i) 0 (aA hp [1,14,15,16] []) (⟨Nat.zero_le _,λj _ _ h=>absurd h (Nat.not_lt_zero _)⟩) λi hi4=>?_;apply aD;simp;apply aG;apply aJ;simp;refine⟨λh4=>?_,λh4=>?_⟩
  ·apply aF;simp;apply dH;apply aG;have hi:i<x.kids.length:=aE;have hif:i<fs.length:=aE;have hig:i<gs.length:=aE;apply aK;simp[hi];apply aG;have hk:=hg.ok i hig hif x.kids[i].kind;refine eW.rd [] [[],[],[],[],[],[],[27]] (λ|27=>some<| .plain ⟨.d (.bool (fs[i] x.kids[i].kind)),true⟩|_=>none) ?_;simp[hig,RL,eF];refine⟨hk,?_⟩;apply aJ;simp;refine⟨λh6=>?_,λh6=>?_⟩
   ·apply aD;simp;apply aH;simp;rw[<-Bool.not_eq_true,Ea hlen];intro h;have:=h i hi hif;simp[h6]at this
   ·apply aF;simp;apply aK;simp;refine⟨aE,?_⟩;refine Pq.mk (i+1) (aA hp [1,14,15,16] []) ?_ ?_
    ·refine⟨aE,λj q1 q2 q3=>?_⟩;rcases Nat.lt_or_ge j i with q|q
     ·exact hi4.2 j q1 q2 q
     ·have:j=i:=aE;subst this;simpa using h6
    ·omega
  ·apply bE;simp;apply aD;simp;apply aH;simp;rw[Ea hlen];exact λj q1 q2=>hi4.2 j q1 q2 aE
end
section
attribute[local simp] kQ.cond Nd.d_eq nd_t nd_dr nd_td ndsD
theorem XM.nil:XM [] []:=⟨rfl,λi h=>by simp at h⟩
theorem XM.cons{g:FuncId}{f:Int->Bool}{gs:List FuncId}{fs:List (Int->Bool)}(h:∀k,Ok prog g [aI k] ⟨.d (.bool (f k)),true⟩)(hs:XM gs fs):XM (g::gs) (f::fs):=
 ⟨by simp[hs.len],λi h1 h2 k=>by
   cases i with
   |zero=>exact h k
   |succ i=>exact hs.ok i (by simpa using h1) (by simpa using h2) k⟩
theorem RM(x:Nd):Ok prog 164 [x.d] ⟨.d (.bool (shapedB x)),true⟩:=by
 refine Ok.ret func164 bY (c:=_) rfl ntmps164 aM results164 (by intro _ h;cases h) λw0 X hp=>?_;apply aD;simp;apply dT;simp;apply aO;apply aV;simp;refine⟨λh2=>?_,λh2=>?_⟩
 ·apply aG;have hk3:=UW x 189 isItemK λk=>RK k;refine aP (λ|8=>some<| .plain ⟨.d (.bool (x.kids.all λy=>isItemK y.kind)),true⟩|_=>none) ?_;simp;refine⟨by simpa using hk3,?_⟩;apply aH;simp;unfold shapedB shapedK;repeat(first|rw[if_pos aE]|rw[if_neg aE])
  try simp[hq]
 ·apply aV;simp;refine⟨λh4=>?_,λh4=>?_⟩
  ·apply aG;have hk5:=UW x 190 isStmtK λk=>RJ k;refine aP (λ|12=>some<| .plain ⟨.d (.bool (x.kids.all λy=>isStmtK y.kind)),true⟩|_=>none) ?_;simp;refine⟨by simpa using hk5,?_⟩;apply aH;simp;unfold shapedB shapedK;repeat(first|rw[if_pos aE]|rw[if_neg aE])
   try simp[hq]
  ·refine aY (ι:=BC) (λ⟨b⟩=>aR [(1,.bx 1 0),(4,.d (aI x.kind)),(13,.d (.bool b))]) (λ⟨b⟩=>aL [(1,.box false [.d (aI x.kind),.d (.str x.text),.d (aI x.n),.d (ndsD x.kids)])]) (λ⟨b⟩=>b=true↔(x.kind=5\/x.kind=6)) ?_ λ⟨b⟩ hc8=>?_
   ·apply aV;simp;refine⟨λh6=>?_,λh6=>?_⟩
    ·apply aF;simp;refine XG.mk ⟨decide (x.kind=5)⟩ (aA hp [1,4,13] [(1,1)]) ?_;simp[h6]
    ·apply aK;simp;refine XG.mk ⟨decide (x.kind=6)⟩ (aA hp [1,4,13] [(1,1)]) ?_;simp only[decide_eq_true_eq];omega
   ·apply aJ;simp;refine⟨λh8=>?_,λh8=>?_⟩
    ·have q8:=hc8.1 h8;apply aG;have hk8:=oU x [192] [isBlockK] (XM.cons (λk=>pZ k) XM.nil) bC;refine aP (λ|18=>some<| .plain ⟨.d (.bool (kidsB x.kids [isBlockK])),true⟩|_=>none) ?_;simp;refine⟨by simpa [RL]using hk8,?_⟩;apply aH;simp;unfold shapedB shapedK;repeat(first|rw[if_pos aE]|rw[if_neg aE])
     try simp[hq]
    ·have q8:¬(x.kind=5\/x.kind=6):=λq=>by simp[hc8.2 q]at h8
     refine aY (ι:=BC) (λ⟨b⟩=>aR [(1,.bx 1 0),(4,.d (aI x.kind)),(19,.d (.bool b))]) (λ⟨b⟩=>aL [(1,.box false [.d (aI x.kind),.d (.str x.text),.d (aI x.n),.d (ndsD x.kids)])]) (λ⟨b⟩=>b=true↔(x.kind=9\/x.kind=15\/x.kind=22\/x.kind=24)) ?_ λ⟨b⟩ hc13=>?_
     ·apply aV;simp;refine⟨λh9=>?_,λh9=>?_⟩
      ·apply aF;simp;refine XG.mk ⟨decide (x.kind=9)⟩ (aA hp [1,4,19] [(1,1)]) ?_;simp[h9]
      ·apply aV;simp;refine⟨λh10=>?_,λh10=>?_⟩
       ·apply aF;simp;refine XG.mk ⟨decide (x.kind=15)⟩ (aA hp [1,4,19] [(1,1)]) ?_;simp[h10]
       ·apply aV;simp;refine⟨λh11=>?_,λh11=>?_⟩
        ·apply aF;simp;refine XG.mk ⟨decide (x.kind=22)⟩ (aA hp [1,4,19] [(1,1)]) ?_;simp[h11]
        ·apply aK;simp;refine XG.mk ⟨decide (x.kind=24)⟩ (aA hp [1,4,19] [(1,1)]) ?_;simp only[decide_eq_true_eq];omega
     ·apply aJ;simp;refine⟨λh13=>?_,λh13=>?_⟩
      ·have q13:=hc13.1 h13;apply aG;have hk13:=oU x [193] [isExprK] (XM.cons (λk=>nG k) XM.nil) bC;refine aP (λ|26=>some<| .plain ⟨.d (.bool (kidsB x.kids [isExprK])),true⟩|_=>none) ?_;simp;refine⟨by simpa [RL]using hk13,?_⟩;apply aH;simp;unfold shapedB shapedK;repeat(first|rw[if_pos aE]|rw[if_neg aE])
       try simp[hq]
      ·have q13:¬(x.kind=9\/x.kind=15\/x.kind=22\/x.kind=24):=λq=>by simp[hc13.2 q]at h13
       apply aV;simp;refine⟨λh14=>?_,λh14=>?_⟩
       ·apply aG;have hk15:=oU x [194,193] [isPlaceK,isExprK] (XM.cons (λk=>NB k) (XM.cons (λk=>nG k) XM.nil)) bC;refine aP (λ|31=>some<| .plain ⟨.d (.bool (kidsB x.kids [isPlaceK,isExprK])),true⟩|_=>none) ?_;simp;refine⟨⟨bC,by simpa [RL]using hk15⟩,?_⟩;apply aH;simp;unfold shapedB shapedK;repeat(first|rw[if_pos aE]|rw[if_neg aE])
        try simp[hq]
       ·apply aV;simp;refine⟨λh16=>?_,λh16=>?_⟩
        ·apply aG;have hk17:=oU x [193,192] [isExprK,isBlockK] (XM.cons (λk=>nG k) (XM.cons (λk=>pZ k) XM.nil)) bC;have hl17:=oU x [193,192,192] [isExprK,isBlockK,isBlockK] (XM.cons (λk=>nG k) (XM.cons (λk=>pZ k) (XM.cons (λk=>pZ k) XM.nil))) bC;cases hq:kidsB x.kids [isExprK,isBlockK]<;>rw[hq]at hk17
         ·refine aP (λ|36=>some<| .plain ⟨.d (.bool (decide (0=1))),true⟩|40=>some<| .plain ⟨.d (.bool (kidsB x.kids [isExprK,isBlockK,isBlockK])),true⟩|_=>none) ?_;simp;refine⟨⟨⟨⟨bC,by simpa [RL]using hk17⟩,bC⟩,by simpa [RL]using hl17⟩,?_⟩;apply aH;simp;unfold shapedB shapedK;repeat(first|rw[if_pos aE]|rw[if_neg aE])
          try simp[hq]
         ·refine aP (λ|36=>some<| .plain ⟨.d (.bool (decide (1=1))),true⟩|40=>some<| .plain ⟨.d (.bool (kidsB x.kids [isExprK,isBlockK,isBlockK])),true⟩|_=>none) ?_;simp;refine⟨⟨bC,by simpa [RL]using hk17⟩,?_⟩;apply aH;simp;unfold shapedB shapedK;repeat(first|rw[if_pos aE]|rw[if_neg aE])
          try simp[hq]
        ·apply aV;simp;refine⟨λh18=>?_,λh18=>?_⟩
         ·apply aG;have hk19:=oU x [193,192] [isExprK,isBlockK] (XM.cons (λk=>nG k) (XM.cons (λk=>pZ k) XM.nil)) bC;refine aP (λ|46=>some<| .plain ⟨.d (.bool (kidsB x.kids [isExprK,isBlockK])),true⟩|_=>none) ?_;simp;refine⟨⟨bC,by simpa [RL]using hk19⟩,?_⟩;apply aH;simp;unfold shapedB shapedK;repeat(first|rw[if_pos aE]|rw[if_neg aE])
          try simp[hq]
         ·refine aY (ι:=BC) (λ⟨b⟩=>aR [(1,.bx 1 0),(4,.d (aI x.kind)),(47,.d (.bool b))]) (λ⟨b⟩=>aL [(1,.box false [.d (aI x.kind),.d (.str x.text),.d (aI x.n),.d (ndsD x.kids)])]) (λ⟨b⟩=>b=true↔(x.kind=16\/x.kind=23)) ?_ λ⟨b⟩ hc22=>?_
          ·apply aV;simp;refine⟨λh20=>?_,λh20=>?_⟩
           ·apply aF;simp;refine XG.mk ⟨decide (x.kind=16)⟩ (aA hp [1,4,47] [(1,1)]) ?_;simp[h20]
           ·apply aK;simp;refine XG.mk ⟨decide (x.kind=23)⟩ (aA hp [1,4,47] [(1,1)]) ?_;simp only[decide_eq_true_eq];omega
          ·apply aJ;simp;refine⟨λh22=>?_,λh22=>?_⟩
           ·have q22:=hc22.1 h22;apply aG;have hk22:=oU x [195] [isLocalK] (XM.cons (λk=>NC k) XM.nil) bC;refine aP (λ|52=>some<| .plain ⟨.d (.bool (kidsB x.kids [isLocalK])),true⟩|_=>none) ?_;simp;refine⟨by simpa [RL]using hk22,?_⟩;apply aH;simp;unfold shapedB shapedK;repeat(first|rw[if_pos aE]|rw[if_neg aE])
            try simp[hq]
           ·have q22:¬(x.kind=16\/x.kind=23):=λq=>by simp[hc22.2 q]at h22
            refine aY (ι:=BC) (λ⟨b⟩=>aR [(1,.bx 1 0),(4,.d (aI x.kind)),(53,.d (.bool b))]) (λ⟨b⟩=>aL [(1,.box false [.d (aI x.kind),.d (.str x.text),.d (aI x.n),.d (ndsD x.kids)])]) (λ⟨b⟩=>b=true↔(x.kind=26\/x.kind=27\/x.kind=28\/x.kind=29\/x.kind=30\/x.kind=31)) ?_ λ⟨b⟩ hc29=>?_
            ·apply aV;simp;refine⟨λh23=>?_,λh23=>?_⟩
             ·apply aF;simp;refine XG.mk ⟨decide (x.kind=26)⟩ (aA hp [1,4,53] [(1,1)]) ?_;simp[h23]
             ·apply aV;simp;refine⟨λh24=>?_,λh24=>?_⟩
              ·apply aF;simp;refine XG.mk ⟨decide (x.kind=27)⟩ (aA hp [1,4,53] [(1,1)]) ?_;simp[h24]
              ·apply aV;simp;refine⟨λh25=>?_,λh25=>?_⟩
               ·apply aF;simp;refine XG.mk ⟨decide (x.kind=28)⟩ (aA hp [1,4,53] [(1,1)]) ?_;simp[h25]
               ·apply aV;simp;refine⟨λh26=>?_,λh26=>?_⟩
                ·apply aF;simp;refine XG.mk ⟨decide (x.kind=29)⟩ (aA hp [1,4,53] [(1,1)]) ?_;simp[h26]
                ·apply aV;simp;refine⟨λh27=>?_,λh27=>?_⟩
                 ·apply aF;simp;refine XG.mk ⟨decide (x.kind=30)⟩ (aA hp [1,4,53] [(1,1)]) ?_;simp[h27]
                 ·apply aK;simp;refine XG.mk ⟨decide (x.kind=31)⟩ (aA hp [1,4,53] [(1,1)]) ?_;simp only[decide_eq_true_eq];omega
            ·apply aJ;simp;refine⟨λh29=>?_,λh29=>?_⟩
             ·have q29:=hc29.1 h29;apply aG;have hk29:=oU x [193,193] [isExprK,isExprK] (XM.cons (λk=>nG k) (XM.cons (λk=>nG k) XM.nil)) bC;refine aP (λ|62=>some<| .plain ⟨.d (.bool (kidsB x.kids [isExprK,isExprK])),true⟩|_=>none) ?_;simp;refine⟨⟨bC,by simpa [RL]using hk29⟩,?_⟩;apply aH;simp;unfold shapedB shapedK;repeat(first|rw[if_pos aE]|rw[if_neg aE])
              try simp[hq]
             ·have q29:¬(x.kind=26\/x.kind=27\/x.kind=28\/x.kind=29\/x.kind=30\/x.kind=31):=λq=>by simp[hc29.2 q]at h29
              apply aF;simp;apply aG;have hk30:=oU x [] [] XM.nil bC;refine aP (λ|64=>some<| .plain ⟨.d (.bool (kidsB x.kids [])),true⟩|_=>none) ?_;simp;refine⟨by simpa [RL]using hk30,?_⟩;apply aH;simp;unfold shapedB shapedK;repeat(first|rw[if_pos aE]|rw[if_neg aE])
              try simp[hq]
end
section
attribute[local simp] kQ.cond Nd.d_eq nd_t nd_dr nd_td ndsD
theorem Bc:BH.length=12:=rfl
theorem UX{k:Int}(h0:26<=k)(h1:k<=31):List.take 2 (List.drop ((k-26).toNat*2) BH)=[.str (signAt k),aI (levelAt k)]:=by
 have:k=26\/k=27\/k=28\/k=29\/k=30\/k=31:=aE;rcases this with rfl|rfl|rfl|rfl|rfl|rfl<;>rfl
theorem RN{k:Int}(h0:26<=k)(h1:k<=31):BH[(k-26).toNat*2+1]?.getD default=aI (levelAt k):=by
 have:k=26\/k=27\/k=28\/k=29\/k=30\/k=31:=aE;rcases this with rfl|rfl|rfl|rfl|rfl|rfl<;>rfl
theorem UY(x:Nd):Ok prog 241 [x.d] ⟨.d (aI (lvlN x.kind)),true⟩:=by
 refine Ok.ret func241 bY (c:=_) rfl ntmps241 aM results241 (by intro _ h;cases h) λw0 X hp=>?_;apply aD;simp;apply aG;apply aV;simp;refine⟨λg1 g2=>?_,λg=>?_⟩
 ·apply aG;have q1:=RN g1 g2;have q2:=Bc;apply aK;simp[q1];refine⟨⟨⟨aE,aE⟩,aE⟩,?_⟩;apply aH;simp[lvlN,g1,g2]
 ·apply aF;simp;apply aD;simp;apply aH;simp;rw[lvlN,if_neg aE]
theorem PE(n:Nat):(decS n).length<=3:=by unfold decS;split<;>(try split)<;>simp
theorem cC(n:Int):(itoaS n).length<=4:=by
 have h1:=PE n.natAbs;have h2:=PE n.toNat;unfold itoaS;split
 ·simp only[List.length_cons];omega
 ·omega
theorem pI(c:Bool)(t:aW):(paren c t).length<=t.length+2:=by cases c<;>simp[paren]
theorem Kk(k:Int)(h:26<=k/\k<=31):(signAt k).length<=2:=by
 have:k=26\/k=27\/k=28\/k=29\/k=30\/k=31:=aE;rcases this with rfl|rfl|rfl|rfl|rfl|rfl<;>decide
theorem dC(x:Nd):rightN x=true->isExprK x.kind=true->(exprT x).length<=8*weighN x:=by
 refine nE (p:=λx=>rightN x=true->isExprK x.kind=true->(exprT x).length<=8*weighN x) (λk t n ks ih=>?_) x;intro hr he;have hw:weighN (.mk k t n ks)=weighL ks+t.length+1:=by rw[weighN]
 rcases tJ hr he with⟨_,_,_,h4⟩|⟨h1,_⟩|h1|⟨h1,_⟩|⟨h1,h2⟩|⟨k',a,b,h1,h2,h3,h4,h5,h6,h7⟩
 ·rw[h4];have:=cC (Nd.mk k t n ks).n;simp only[exprT,if_true,weighN];omega
 ·rw[h1];simp[exprT,weighN];omega
 ·rw[h1];simp[exprT,weighN,sKind];omega
 ·rw[h1];simp[exprT,weighN];omega
 ·rw[h1];simp[exprT,weighN];omega
 ·injection h3 with i1 i2 i3 i4
  subst i1;subst i2;subst i3;subst i4;have ha:=ih a aM h4 h5;have hb:=ih b aM h6 h7;have e1:=pI (decide (lvlN a.kind<(if levelAt k=1 then 2 else levelAt k))) (exprT a);have e2:=pI (decide (lvlN b.kind<levelAt k+1)) (exprT b);have e3:=Kk k ⟨h1,h2⟩;rw[Gt h1 h2,hw];simp only[weighL,List.length_append,List.length_cons,List.length_nil];omega
end
end Go.Eng
namespace Go.Proofs
open Go.Shelf
def Tryz.itoaLay_ren:Go.Shelf.Ren:=⟨λ|171=>168|243=>198|246=>217|283=>232|284=>233|285=>234|286=>235|129=>116|317=>242|318=>243|319=>244|320=>245|337=>247|338=>248|n=>n,λ|3=>3|9=>9|2=>2|4=>4|171=>227|0=>0|53=>165|37=>142|5=>5|173=>229|212=>237|51=>163|20=>20|213=>238|46=>107|232=>239|233=>240|n=>n,λ|17=>6|18=>7|19=>8|n=>n⟩
theorem Tryz.itoaLay:Go.Proofs.LaysM.n171 prog Tryz.itoaLay_ren:={
 mixed:=by kernel_rfl,
 f129:=func116.trans (congrArg some (by kernel_rfl)),
 f171:=func168.trans (congrArg some (by kernel_rfl)),
 f243:=func198.trans (congrArg some (by kernel_rfl)),
 f246:=func217.trans (congrArg some (by kernel_rfl)),
 f283:=func232.trans (congrArg some (by kernel_rfl)),
 f284:=func233.trans (congrArg some (by kernel_rfl)),
 f285:=func234.trans (congrArg some (by kernel_rfl)),
 f286:=func235.trans (congrArg some (by kernel_rfl)),
 f317:=func242.trans (congrArg some (by kernel_rfl)),
 f318:=func243.trans (congrArg some (by kernel_rfl)),
 f319:=func244.trans (congrArg some (by kernel_rfl)),
 f320:=func245.trans (congrArg some (by kernel_rfl)),
 f337:=func247.trans (congrArg some (by kernel_rfl)),
 f338:=func248.trans (congrArg some (by kernel_rfl)),
 t0:=underlying0,
 a0:=isAgg0,
 z0:=sizeOf0,
 v0:=zeroValue0,
 t2:=underlying2,
 a2:=isAgg2,
 z2:=sizeOf2,
 v2:=zeroValue2,
 t3:=underlying3,
 a3:=isAgg3,
 z3:=sizeOf3,
 v3:=zeroValue3,
 t4:=underlying4,
 a4:=isAgg4,
 z4:=sizeOf4,
 v4:=zeroValue4,
 t5:=underlying5,
 a5:=isAgg5,
 z5:=sizeOf5,
 v5:=zeroValue5,
 t9:=underlying9,
 a9:=isAgg9,
 z9:=sizeOf9,
 v9:=zeroValue9,
 t20:=underlying20,
 a20:=isAgg20,
 z20:=sizeOf20,
 v20:=zeroValue20,
 t37:=underlying142,
 a37:=isAgg142,
 z37:=sizeOf142,
 v37:=zeroValue142,
 t46:=underlying107,
 a46:=isAgg107,
 z46:=sizeOf107,
 v46:=zeroValue107,
 t51:=underlying163,
 a51:=isAgg163,
 z51:=sizeOf163,
 v51:=zeroValue163,
 t53:=underlying165,
 a53:=isAgg165,
 z53:=sizeOf165,
 v53:=zeroValue165,
 t171:=underlying227,
 a171:=isAgg227,
 z171:=sizeOf227,
 v171:=zeroValue227,
 t173:=underlying229,
 a173:=isAgg229,
 z173:=sizeOf229,
 v173:=zeroValue229,
 t212:=underlying237,
 a212:=isAgg237,
 z212:=sizeOf237,
 v212:=zeroValue237,
 t213:=underlying238,
 a213:=isAgg238,
 z213:=sizeOf238,
 t232:=underlying239,
 a232:=isAgg239,
 z232:=sizeOf239,
 v232:=zeroValue239,
 t233:=underlying240,
 a233:=isAgg240,
 z233:=sizeOf240,
 v233:=zeroValue240,
 g17:=by kernel_rfl,
 g18:=by kernel_rfl,
 g19:=by kernel_rfl,
 i0:=by kernel_rfl,
 i2:=by kernel_rfl,
 i3:=by kernel_rfl,
 i4:=by kernel_rfl,
 i5:=by kernel_rfl,
 i9:=by kernel_rfl,
 i20:=by kernel_rfl,
 i37:=by kernel_rfl,
 i46:=by kernel_rfl,
 i51:=by kernel_rfl,
 i53:=by kernel_rfl,
 i171:=by kernel_rfl,
 i173:=by kernel_rfl,
 i212:=by kernel_rfl,
 i232:=by kernel_rfl,
 i233:=by kernel_rfl,
 m17:=by kernel_rfl,
 m18:=by kernel_rfl,
 m19:=by kernel_rfl}
end Go.Proofs
namespace Go.Eng
theorem PF{n:Nat}(h:n<1000):Lib.decDigits n=decS n:=by
 unfold decS;by_cases h1:n<10
 ·rw[if_pos h1,Lib.decDigits,dif_pos h1]
 ·rw[if_neg h1,Lib.decDigits,dif_neg h1];by_cases h2:n<100
  ·rw[if_pos h2,Lib.decDigits,dif_pos aE];rfl
  ·rw[if_neg h2,Lib.decDigits,dif_neg aE,Lib.decDigits,dif_pos aE,Nat.div_div_eq_div_mul];rfl
theorem UZ{n:Int}(h0: -999<=n)(h1:n<=999):Lib.itoa n=itoaS n:=by
 unfold Lib.itoa itoaS;split
 ·rw[PF aE]
 ·rw[PF aE]
theorem RO:Pi=Lib.pow10Tab.map λz=>DV.int .u64 z:=bY
theorem XN{w:World}{X:Nat->Prop}(h:yI w X){name:String}(hg:prog.globalNamed name=some 6):Lib.TabIs prog w name .u64 Lib.pow10Tab:=by
 obtain⟨h1,arr,t,fz,h2,h3⟩:=h 6 Pi rfl;unfold Lib.TabIs World.var?;rw[hg];simp only[Option.bind_some,h2,Option.some.injEq];rw[RO]at h1 h3;cases h1 with
 |ro _ _ _ us hb hul hu1 hlt hcell hp=>
  apply Array.ext_getElem?;intro i;by_cases hi:i<arr.size
  ·have hz:i<Lib.pow10Tab.length:=by rw[h3,List.length_map]at hi;exact hi
   have hu:i<us.length:=(by rw[hul,List.length_map];exact hz);have hc:=hcell i us[i] (List.getElem?_eq_getElem hu);have hq:=hp i (.int .u64 Lib.pow10Tab[i]) us[i] (by simp[hz]) (List.getElem?_eq_getElem hu);generalize us[i]=u at hc hq;cases hq;rw[Nat.zero_add]at hc;unfold World.cell? at hc;simp[h2]at hc;rw[hc];simp[hz]
  ·rw[Array.getElem?_eq_none aE];rw[h3,List.length_map]at hi;rw[List.getElem?_toArray,List.getElem?_eq_none (by simpa using hi)]
theorem Ad(n:Int)(h0: -999<=n)(h1:n<=999):Ok prog 168 [aI n] ⟨.d (.str (itoaS n)),true⟩:=by
 refine⟨⟨_,func168,bY,rfl⟩,λw X vs hX hr=>?_⟩
 match vs,hr.1 with
 |[v],_=>
  have h:=hr.2 0 _ _ rfl rfl;cases h;refine(Go.Proofs.Any.strconv_Itoa Tryz.itoaLay n aE aE w (XN hX.2 bY)).mono ?_;rintro e w' ⟨rfl,k,os,rfl⟩;refine⟨_,rfl,⟨rfl,rfl,rfl,?_,λj hj=>Go.Sort.heap_grow_old (w.drewN k) os hj,Nat.le_add_right _ _⟩,none,?_⟩
  ·simp[Sort.grow]
  ·rw[UZ h0 h1];exact .str _
section
attribute[local simp] kQ.cond Nd.d_eq nd_t nd_dr nd_td ndsD
theorem Va{x:Nd}(h:x.kind=32):exprT x=itoaS x.n:=by cases x;simp only[dW]at h;subst h;unfold exprT;simp
theorem Vb{x:Nd}(h:x.kind=33):exprT x=36::x.text:=by cases x;simp only[dW]at h;subst h;unfold exprT;simp
theorem Vc{x:Nd}(h:x.kind=36):exprT x=sKind:=by cases x;simp only[dW]at h;subst h;unfold exprT;simp
theorem Vd{x:Nd}(h:x.kind=34\/x.kind=35):exprT x=x.text:=by cases x;simp only[dW]at h;rcases h with rfl|rfl<;>(unfold exprT;simp)
theorem Eb{x:Nd}(hr:rightN x=true)(he:isExprK x.kind=true):(26<=x.kind/\x.kind<=36)/\(x.kind=32->exprT x=itoaS x.n/\0<=x.n/\x.n<=999)/\(x.kind=33->exprT x=36::x.text)/\(x.kind=36->exprT x=sKind)/\
 (x.kind=34\/x.kind=35->exprT x=x.text)/\(x.kind<=31->∃a b,x.kids=[a,b]/\rightN a=true/\isExprK a.kind=true/\rightN b=true/\isExprK b.kind=true/\
   exprT x=paren (decide (lvlN a.kind<(if levelAt x.kind=1 then 2 else levelAt x.kind))) (exprT a)++32::(signAt x.kind++32::paren (decide (lvlN b.kind<levelAt x.kind+1)) (exprT b))):=by
 refine⟨isExprK_iff.1 he,λh=>⟨Va h,?_⟩,Vb,Vc,Vd,λh=>?_⟩
 ·obtain⟨k,t,n,ks⟩:=x;have h:k=32:=h;subst h;obtain⟨_,_,_,w1,w2,_⟩:=right_mk.1 hr;exact⟨w1,w2⟩
 ·rcases tJ hr he with⟨h1,_⟩|⟨h1,_⟩|h1|⟨h1,_⟩|⟨h1,_⟩|⟨k',a,b,h1,h2,h3,h4,h5,h6,h7⟩
  ·omega
  ·rw[h1]at h;exact absurd h aM
  ·rw[h1]at h;exact absurd h aM
  ·rw[h1]at h;exact absurd h aM
  ·rw[h1]at h;exact absurd h aM
  ·rw[h3];exact⟨a,b,rfl,h4,h5,h6,h7,Gt h1 h2⟩
theorem Gw(x:Nd)(least:Int)(hx:Ok prog 216 [x.d] ⟨.d (.str (exprT x)),true⟩)(hl:(exprT x).length<=10000000000):Ok prog 231 [x.d,aI least] ⟨.d (.str (paren (decide (lvlN x.kind<least)) (exprT x))),true⟩:=by
 refine Ok.ret func231 bY (c:=_) rfl ntmps231 aM results231 (by intro _ h;cases h) λw0 X hp=>?_;apply aD;simp;apply eA;have hv:=UY x;refine aP (λ|6=>some<| .plain ⟨.d (aI (lvlN x.kind)),true⟩|_=>none) ?_;simp;refine⟨by simpa using hv,?_⟩;apply aJ;simp;refine⟨λh1=>?_,λh1=>?_⟩
 ·refine cJ (λ|10=>some<| .plain ⟨.d (.str (exprT x)),true⟩|_=>none) ?_;simp;refine⟨⟨⟨by simpa using hx,aE⟩,aE⟩,?_⟩;apply aH;simp[paren,h1]
 ·apply aF;simp;refine cJ (λ|14=>some<| .plain ⟨.d (.str (exprT x)),true⟩|_=>none) ?_;simp;refine⟨by simpa using hx,?_⟩;apply aH;simp[paren];intro h;omega
theorem RP(x:Nd)(hr:rightN x=true)(he:isExprK x.kind=true)(hw:weighN x<=1000000000)(ih:∀y∈x.kids,rightN y=true->isExprK y.kind=true->weighN y<=1000000000->Ok prog 216 [y.d] ⟨.d (.str (exprT y)),true⟩):Ok prog 216 [x.d] ⟨.d (.str (exprT x)),true⟩:=by
 refine Ok.ret func216 bY (c:=_) rfl ntmps216 aM results216 (by intro _ h;cases h) λw0 X hp=>?_;obtain⟨f0,f32,f33,f36,f34,f26⟩:=Eb hr he;have hwx:=weighN_eq x;apply aD;simp;apply dT;simp;apply aO;apply aV;simp;refine⟨λh2=>?_,λh2=>?_⟩
 ·apply aG;obtain⟨q1,q2,q3⟩:=f32 h2;have hi:=Ad x.n aE q3;refine aP (λ|11=>some<| .plain ⟨.d (.str (itoaS x.n)),true⟩|_=>none) ?_;simp;refine⟨hi,?_⟩;apply aH;simp[q1]
 ·apply aV;simp;refine⟨λh4=>?_,λh4=>?_⟩
  ·apply aD;simp;refine⟨aE,?_⟩;apply aH;simp[f33 h4]
  ·apply aV;simp;refine⟨λh6=>?_,λh6=>?_⟩
   ·apply aD;simp;apply aH;simp[f36 h6,sKind]
   ·refine aY (ι:=BC) (λ⟨b⟩=>aR [(1,.bx 1 0),(19,.d (.bool b))]) (λ⟨b⟩=>aL [(1,.box false [.d (aI x.kind),.d (.str x.text),.d (aI x.n),.d (ndsD x.kids)])]) (λ⟨b⟩=>b=true↔(x.kind=34\/x.kind=35)) ?_ λ⟨b⟩ hc10=>?_
    ·apply aV;simp;refine⟨λh8=>?_,λh8=>?_⟩
     ·apply aF;simp;refine XG.mk ⟨decide (x.kind=34)⟩ (aA hp [1,19] [(1,1)]) ?_;simp[h8]
     ·apply aK;simp;refine XG.mk ⟨decide (x.kind=35)⟩ (aA hp [1,19] [(1,1)]) ?_;simp only[decide_eq_true_eq];omega
    ·apply aJ;simp;refine⟨λh10=>?_,λh10=>?_⟩
     ·have q10:=hc10.1 h10;apply aD;simp;apply aH;simp[f34 q10]
     ·have q10:¬(x.kind=34\/x.kind=35):=λq=>by simp[hc10.2 q]at h10
      apply aF;simp;apply aG;have hk31:x.kind<=31:=aE;obtain⟨a,b',hks,ra,ea,rb,eb,hTx⟩:=f26 hk31;have q1:=UX (k:=x.kind) f0.1 hk31;have q2:=Bc;obtain⟨lv,hlv⟩:∃lv:Int,lv=if levelAt x.kind=1 then 2 else levelAt x.kind:=⟨_,rfl⟩;rw[<-hlv]at hTx;apply aK;simp[q1];refine⟨⟨⟨aE,aE⟩,aE⟩,?_⟩;apply aD;simp;refine aY (ι:=Unit) (λi=>aR [(1,.bx 1 0),(3,.bx 3 0),(4,.d (aI lv))]) (λi=>aL [(1,.box false [.d (aI x.kind),.d (.str x.text),.d (aI x.n),.d (ndsD x.kids)]),(3,.box false [.d (.str (signAt x.kind)),.d (aI (levelAt x.kind))])]) (λi=>True) ?_ λi hc15=>?_
      ·apply aV;simp;refine⟨λh13=>?_,λh13=>?_⟩
       ·apply aK;simp;exact(aA hp [1,3,4] [(1,1),(3,3)] (by simp[hlv,h13]))
       ·apply aF;simp;exact(aA hp [1,3,4] [(1,1),(3,3)] (by simp[hlv,h13]))
      ·apply aG;rw[hks]at hwx ih;simp only[weighL]at hwx;have la:=dC a ra ea;have lb:=dC b' rb eb;have pa:=pI (decide (lvlN a.kind<lv)) (exprT a);have pb:=pI (decide (lvlN b'.kind<levelAt x.kind+1)) (exprT b');have sl:=Kk x.kind ⟨f0.1,hk31⟩;have ka:=Gw a lv (ih a aM ra ea aE) aE;have kb:=Gw b' (levelAt x.kind+1) (ih b' aM rb eb aE) aE;have lvb:=(RH f0.1 hk31).2.1;refine eW.rd [[],[],[],[],[],[],[51],[38,51],[38,51],[51],[51],[38],[38],[38],[38],[38],[38],[38]] [[],[],[],[],[],[38],[],[],[],[],[],[],[],[],[],[],[],[],[51]] (λ|38=>some<| .plain ⟨.d (.str (paren (decide (lvlN a.kind<lv)) (exprT a))),true⟩|51=>some<| .plain ⟨.d (.str (paren (decide (lvlN b'.kind<levelAt x.kind+1)) (exprT b'))),true⟩|_=>none) ?_;simp[hks];refine⟨⟨⟨⟨⟨⟨⟨by simpa using ka,aE⟩,aE⟩,aE⟩,aE⟩,by simpa using kb⟩,aE⟩,?_⟩;apply aH;simp[hTx]
theorem Ae(x:Nd):rightN x=true->isExprK x.kind=true->weighN x<=1000000000->Ok prog 216 [x.d] ⟨.d (.str (exprT x)),true⟩:=
 nE (p:=λx=>rightN x=true->isExprK x.kind=true->weighN x<=1000000000->Ok prog 216 [x.d] ⟨.d (.str (exprT x)),true⟩) (λ_ _ _ _ ih hr he hw=>RP _ hr he hw ih) x
end
section
attribute[local simp] kQ.cond Nd.d_eq nd_t nd_dr nd_td ndsD
theorem Ve:rM=wordsL.map DV.str:=rfl
theorem jV:rM.length=26:=rfl
theorem qY{k:Int}(h0:0<=k)(h1:k<26):rM[k.toNat]?.getD default=.str (wordAt k):=by
 have hk:k.toNat<wordsL.length:=by rw[words_len];omega
 rw[Ve,List.getElem?_map,List.getElem?_eq_getElem hk];simp[wordAt,List.getD_eq_getElem?_getD,hk]
theorem sH(k:Int):(wordAt k).length<=7:=by
 unfold wordAt;rw[List.getD_eq_getElem?_getD];cases e:wordsL[k.toNat]? with
 |none=>simp
 |some w=>
  have:=List.mem_of_getElem? e;have h:∀w∈wordsL,w.length<=7:=bC;exact h w this
theorem rJ:∀(a b:List Nd),stmtsT (a++b)=stmtsT a++stmtsT b
 |[],b=>by simp[stmtsT]
 |x::a,b=>by simp[stmtsT,rJ a b]
theorem Cd{l:List Nd}{i:Nat}(hi:i<l.length):stmtsT (l.take (i+1))=stmtsT (l.take i)++(stmtT l[i]++[32]):=by
 rw[<-List.take_append_getElem hi,rJ];simp[stmtsT]
theorem ND{l:List Nd}{i:Nat}(hi:i<l.length):withE (l.take (i+1))=withE (l.take i)++32::exprT l[i]:=by
 unfold withE;rw[<-List.take_append_getElem hi,List.flatMap_append];simp
theorem xG{l:List Nd}(h:∀e∈l,rightN e=true/\isExprK e.kind=true):(withE l).length<=9*weighL l:=by
 induction l with
 |nil=>simp[withE]
 |cons a r ih=>
  have h1:=ih λy hy=>h y (List.mem_cons_of_mem _ hy);have h2:=dC a (h a aM).1 (h a aM).2;have h3:1<=weighN a:=by rw[weighN_eq];omega
  have e:withE (a::r)=32::exprT a++withE r:=by simp[withE]
  rw[e,weighL];simp only[List.length_append,List.length_cons];omega
def RQ(t e:aW):aW:=36::t++32::61::32::(e++[59])
def RS(p e:aW):aW:=p++32::61::32::(e++[59])
def PG(w e b:aW):aW:=w++32::(e++32::b)
def Gx(a c:aW):aW:=a++32::(sElse++32::c)
theorem Ec{l:List Nd}(h:∀e∈l,rightN e=true/\isExprK e.kind=true)(i:Nat):(withE (l.take i)).length<=9*weighL l:=by
 have h1:=xG h;have h2:withE (l.take i)++withE (l.drop i)=withE l:=by unfold withE;rw[<-List.flatMap_append,List.take_append_drop]
 rw[<-h2,List.length_append]at h1;omega
theorem PH{x e:Nd}(h:x.kind=9)(hk:x.kids=[e]):stmtT x=RQ x.text (exprT e):=by
 cases x;simp only[dW,pV]at h hk;subst hk;subst h;simp[stmtT,RQ]
theorem Kl{x p e:Nd}(h:x.kind=10)(hk:x.kids=[p,e]):stmtT x=RS (exprT p) (exprT e):=by
 cases x;simp only[dW,pV]at h hk;subst hk;subst h;simp[stmtT,RS]
theorem Gy{x e b:Nd}(h:x.kind=11\/x.kind=12)(hk:x.kids=[e,b]):stmtT x=PG (wordAt x.kind) (exprT e) (blockT b):=by
 cases x;simp only[dW,pV]at h hk;subst hk;rcases h with rfl|rfl<;>simp[stmtT,PG]
theorem Gz{x e b c:Nd}(h:x.kind=11\/x.kind=12)(hk:x.kids=[e,b,c]):stmtT x=Gx (PG (wordAt x.kind) (exprT e) (blockT b)) (blockT c):=by
 cases x;simp only[dW,pV]at h hk;subst hk;rcases h with rfl|rfl<;>simp[stmtT,PG,Gx]
theorem PI{x:Nd}(h:13<=x.kind):stmtT x=wordAt x.kind++midT x.kind x.text++withN x.n++withE x.kids++[59]:=by
 cases x;exact Gu _ _ _ h
theorem sI(x:Nd):blockT x=123::32::(stmtsT x.kids++[125]):=by cases x;unfold blockT;rfl
def XO(x:Nd):Prop:=rightN x=true/\isExprK x.kind=true
theorem Ee{x:Nd}(hr:rightN x=true)(hk:isStmtK x.kind=true):(9<=x.kind/\x.kind<=25)/\(x.kind=9->∃h0:0<x.kids.length,XO x.kids[0]/\stmtT x=RQ x.text (exprT x.kids[0]))/\
 (x.kind=10->∃(h0:0<x.kids.length) (h1:1<x.kids.length),XO x.kids[0]/\XO x.kids[1]/\stmtT x=RS (exprT x.kids[0]) (exprT x.kids[1]))/\
 (x.kind=11\/x.kind=12->∃(h0:0<x.kids.length) (h1:1<x.kids.length),XO x.kids[0]/\jG x.kids[1]/\((x.kids.length=2/\stmtT x=PG (wordAt x.kind) (exprT x.kids[0]) (blockT x.kids[1]))\/
   ∃h2:2<x.kids.length,jG x.kids[2]/\stmtT x=Gx (PG (wordAt x.kind) (exprT x.kids[0]) (blockT x.kids[1])) (blockT x.kids[2])))/\
 (13<=x.kind->Nt x.kind x.text x.n x.kids):=by
 refine⟨isStmtK_iff.1 hk,?_⟩;rcases DZ hr hk with⟨t',e,hx,h1,h2,h3⟩|⟨p,e,hx,h1,h2,h3,h4⟩|⟨k',e,b,hk',hx,h1,h2,h3,h4⟩|⟨e,b,c,hx,h1,h2,h3,h4,h5,h6⟩|⟨k',t',n',ks',h1,h2,hx,h3⟩
 ·subst hx;exact⟨λ_=>⟨aM,⟨h2,h3⟩,PH rfl rfl⟩,λh=>by simp at h,λh=>by simp at h,λh=>by simp at h⟩
 ·subst hx;exact⟨λh=>by simp at h,λ_=>⟨aM,aM,⟨h1,pX h2⟩,⟨h3,h4⟩,Kl rfl rfl⟩,λh=>by simp at h,λh=>by simp at h⟩
 ·subst hx;exact⟨λh=>by simp at h;omega,λh=>by simp at h;omega,λ_=>⟨aM,aM,⟨h1,h2⟩,gU h3 h4,.inl ⟨rfl,Gy hk' rfl⟩⟩,λh=>by simp at h;omega⟩
 ·subst hx;exact⟨λh=>by simp at h,λh=>by simp at h,λ_=>⟨aM,aM,⟨h1,h2⟩,gU h3 h4,.inr ⟨aM,gU h5 h6,Gz (.inl rfl) rfl⟩⟩,λh=>by simp at h⟩
 ·subst hx;exact⟨λh=>by simp at h;omega,λh=>by simp at h;omega,λh=>by simp at h;omega,λ_=>h3⟩
theorem Ig(k:Int)(t:aW):(midT k t).length<=t.length+2:=by
 unfold midT;split
 ·simp
 ·split<;>simp
theorem Bd(n:Int):(withN n).length<=5:=by
 have:=cC n;unfold withN;split
 ·simp only[List.length_cons];omega
 ·simp
theorem uF{l:List Nd}(h:∀y∈l,(stmtT y).length+1<=40*weighN y)(i:Nat):(stmtsT (l.take i)).length<=40*weighL l:=by
 have key:∀l:List Nd,(∀y∈l,(stmtT y).length+1<=40*weighN y)->(stmtsT l).length<=40*weighL l:=λl=>by
  induction l with
  |nil=>intro _;simp[stmtsT]
  |cons a r ih=>
   intro h;have h1:=ih λy hy=>h y (List.mem_cons_of_mem _ hy);have h2:=h a aM;have h3:1<=weighN a:=by rw[weighN_eq];omega
   simp only[stmtsT,weighL,List.length_append,List.length_cons];omega
 have h1:=key l h;have h2:=rJ (l.take i) (l.drop i);rw[List.take_append_drop]at h2;rw[h2,List.length_append]at h1;omega
theorem eL(x:Nd):(rightN x=true->isStmtK x.kind=true->(stmtT x).length+1<=40*weighN x)/\(jG x->(blockT x).length<=40*weighN x):=by
 refine nE (p:=λx=>(rightN x=true->isStmtK x.kind=true->(stmtT x).length+1<=40*weighN x)/\(jG x->(blockT x).length<=40*weighN x)) (λk t n ks ih=>⟨?_,?_⟩) x
 ·intro hr hk;have hw:weighN (.mk k t n ks)=weighL ks+t.length+1:=by rw[weighN]
  have hwl:=sH k;rcases DZ hr hk with⟨t',e,hx,h1,h2,h3⟩|⟨p,e,hx,h1,h2,h3,h4⟩|⟨k',e,b,hk',hx,h1,h2,h3,h4⟩|⟨e,b,c,hx,h1,h2,h3,h4,h5,h6⟩|⟨k',t',n',ks',h1,h2,hx,h3⟩
  ·injection hx with i1 i2 i3 i4
   subst i1;subst i2;subst i4;have:=dC e h2 h3;rw[PH rfl rfl,hw];simp only[RQ,weighL,List.length_append,List.length_cons,List.length_nil,Nr];omega
  ·injection hx with i1 i2 i3 i4
   subst i1;subst i4;have:=dC e h3 h4;have:=dC p h1 (pX h2);rw[Kl rfl rfl,hw];simp only[RS,weighL,List.length_append,List.length_cons,List.length_nil];omega
  ·injection hx with i1 i2 i3 i4
   subst i1;subst i4;have:=dC e h1 h2;have:=(ih b aM).2 (gU h3 h4);rw[Gy (x:=.mk k t n [e,b]) hk' rfl,hw];simp only[PG,weighL,List.length_append,List.length_cons,dW];omega
  ·injection hx with i1 i2 i3 i4
   subst i1;subst i4;have:=dC e h1 h2;have:=(ih b aM).2 (gU h3 h4);have:=(ih c aM).2 (gU h5 h6);rw[Gz (.inl rfl) rfl,hw];simp only[PG,Gx,weighL,List.length_append,List.length_cons,dW,show sElse.length=4 from rfl];omega
  ·injection hx with i1 i2 i3 i4
   subst i1;subst i2;subst i3;subst i4;have:=xG (xE h3).2.2.2;have:=Ig k t;have:=Bd n;rw[Gu _ _ _ h1,hw];simp only[List.length_append,List.length_cons,List.length_nil];omega
 ·rintro⟨ks',hx,hy⟩;injection hx with i1 i2 i3 i4
  subst i4;have key:∀l:List Nd,(∀y∈l,(stmtT y).length+1<=40*weighN y)->(stmtsT l).length<=40*weighL l:=λl=>by
   induction l with
   |nil=>intro _;simp[stmtsT]
   |cons a r ih=>
    intro h;have h1:=ih λy hy=>h y (List.mem_cons_of_mem _ hy);have h2:=h a aM;have h3:1<=weighN a:=by rw[weighN_eq];omega
    simp only[stmtsT,weighL,List.length_append,List.length_cons];omega
  have:=key ks λy hyk=>(ih y hyk).1 (hy y hyk).1 (hy y hyk).2;rw[sI,weighN];simp only[pV,List.length_append,List.length_cons,List.length_nil];omega
theorem NE(x:Nd)(hb:jG x)(hw:weighN x<=1000000000)(ih:∀y∈x.kids,Ok prog 197 [y.d] ⟨.d (.str (stmtT y)),true⟩):Ok prog 167 [x.d] ⟨.d (.str (blockT x)),true⟩:=by
 refine Ok.ret func167 bY (c:=_) rfl ntmps167 aM results167 (by intro _ h;cases h) λw0 X hp=>?_;have hlen:=(eL x).2 hb;have hwx:=lF x;have hstm:∀y∈x.kids,rightN y=true/\isStmtK y.kind=true:=by obtain⟨ks,rfl,h⟩:=hb;exact h
 apply aD;simp;apply aD;simp;apply dT;simp;apply aO;refine aU (ι:=Nat) (λi=>aR [(3,.d (.str (123::32::stmtsT (x.kids.take i)))),(7,.d (ndsD x.kids)),(8,.d (aI x.kids.length)),(9,.d (aI i))]) (λi=>aL []) (λi=>i<=x.kids.length) (λi=>x.kids.length-i) 0 (aA hp [3,7,8,9] [] (by simp[stmtsT])) (Nat.zero_le _) λi hi3=>?_;apply aD;simp;apply aG;apply aJ;simp;refine⟨λh3=>?_,λh3=>?_⟩
 ·apply aF;simp;apply dH;apply aG;have hi:i<x.kids.length:=aE;apply aK;simp[hi];have hk:=ih _ (List.getElem_mem hi);have hs:=hstm _ (List.getElem_mem hi);have l1:=(eL x.kids[i]).1 hs.1 hs.2;have l2:=lW hi;have l3:=uF (l:=x.kids) (λy hy=>(eL y).1 (hstm y hy).1 (hstm y hy).2) i;have l4:=weighN_eq x;refine aP (λ|15=>some<| .plain ⟨.d (.str (stmtT x.kids[i])),true⟩|_=>none) ?_;simp;refine⟨⟨⟨by simpa using hk,aE⟩,aE⟩,?_⟩;apply aK;simp;refine⟨aE,?_⟩;refine Pq.mk (i+1) (aA hp [3,7,8,9] [] (by simp[Cd hi])) ?_ ?_
  ·omega
  ·omega
 ·apply bE;simp;apply aG;have hi:i=x.kids.length:=aE;subst hi;rw[List.take_length];rw[sI]at hlen;simp only[List.length_append,List.length_cons]at hlen;apply aK;simp;refine⟨aE,?_⟩;apply aH;simp[sI]
end
section
attribute[local simp] kQ.cond Nd.d_eq nd_t nd_dr nd_td ndsD
theorem RT(x:Nd)(hr:rightN x=true)(hk:isStmtK x.kind=true)(hw:weighN x<=1000000000)(ihb:∀y∈x.kids,jG y->Ok prog 167 [y.d] ⟨.d (.str (blockT y)),true⟩):Ok prog 197 [x.d] ⟨.d (.str (stmtT x)),true⟩:=by
 refine Ok.ret func197 bY (c:=_) rfl ntmps197 aM results197 (by intro _ h;cases h) λw0 X hp=>?_;obtain⟨f0,f9,f10,f11,f13⟩:=Ee hr hk;have hwx:=weighN_eq x;have hlen:=(eL x).1 hr hk;have wl:=sH x.kind;have q2:=jV;have hmem:∀(i:Nat) (hi:i<x.kids.length),weighN x.kids[i]<weighN x:=λi hi=>lW hi;apply aD;simp;apply dT;simp;apply aO;apply aV;simp;refine⟨λh2=>?_,λh2=>?_⟩
 ·apply aG;obtain⟨h0,k0,e0⟩:=f9 h2;have w0:=hmem 0 h0;have l0:=dC _ k0.1 k0.2;have c0:=Ae _ k0.1 k0.2 aE;refine eW.rd [[19],[19],[19],[19]] [[],[],[],[],[],[],[],[],[19]] (λ|19=>some<| .plain ⟨.d (.str (exprT x.kids[0])),true⟩|_=>none) ?_;simp[h0];refine⟨⟨⟨⟨⟨aE,aE⟩,by simpa using c0⟩,aE⟩,aE⟩,?_⟩;apply aH;simp[e0,RQ]
 ·apply aV;simp;refine⟨λh4=>?_,λh4=>?_⟩
  ·apply aG;obtain⟨h0,h1,k0,k1,e0⟩:=f10 h4;have w0:=hmem 0 h0;have w1:=hmem 1 h1;have l0:=dC _ k0.1 k0.2;have l1:=dC _ k1.1 k1.2;have c0:=Ae _ k0.1 k0.2 aE;have c1:=Ae _ k1.1 k1.2 aE;refine eW.rd [[],[],[],[],[],[34],[28],[28],[28],[28]] [[],[],[],[],[28],[],[],[],[],[],[34]] (λ|28=>some<| .plain ⟨.d (.str (exprT x.kids[0])),true⟩|34=>some<| .plain ⟨.d (.str (exprT x.kids[1])),true⟩|_=>none) ?_;simp[h0,h1];refine⟨by(repeat' with_reducible apply And.intro)<;>first|omega|(simpa using c0)|(simpa using c1),?_⟩;apply aH;simp[e0,RS]
  ·refine aY (ι:=BC) (λ⟨b⟩=>aR [(1,.bx 1 0),(37,.d (.bool b))]) (λ⟨b⟩=>aL [(1,.box false [.d (aI x.kind),.d (.str x.text),.d (aI x.n),.d (ndsD x.kids)])]) (λ⟨b⟩=>b=true↔(x.kind=11\/x.kind=12)) ?_ λ⟨b⟩ hc8=>?_
   ·apply aV;simp;refine⟨λh6=>?_,λh6=>?_⟩
    ·apply aF;simp;refine XG.mk ⟨decide (x.kind=11)⟩ (aA hp [1,37] [(1,1)]) ?_;simp[h6]
    ·apply aK;simp;refine XG.mk ⟨decide (x.kind=12)⟩ (aA hp [1,37] [(1,1)]) ?_;simp only[decide_eq_true_eq];omega
   ·apply aJ;simp;refine⟨λh8=>?_,λh8=>?_⟩
    ·have q8:=hc8.1 h8;apply aG;obtain⟨h0,h1,k0,b1,e0⟩:=f11 q8;have w0:=hmem 0 h0;have w1:=hmem 1 h1;have l0:=dC _ k0.1 k0.2;have l1:=(eL x.kids[1]).2 b1;have c0:=Ae _ k0.1 k0.2 aE;have c1:=ihb _ (List.getElem_mem h1) b1;have q1:=qY (k:=x.kind) aE aE;refine eW.rd [[49,56],[49,56],[49,56],[49,56],[49,56],[],[],[],[],[],[56],[56],[49],[49],[49],[49]] [[],[],[],[],[],[],[],[],[],[49],[],[],[],[],[],[],[56]] (λ|49=>some<| .plain ⟨.d (.str (exprT x.kids[0])),true⟩|56=>some<| .plain ⟨.d (.str (blockT x.kids[1])),true⟩|_=>none) ?_;simp[h0,h1,q1];refine⟨⟨⟨⟨⟨⟨⟨⟨⟨aE,aE⟩,aE⟩,by simpa using c0⟩,aE⟩,aE⟩,aE⟩,by simpa using c1⟩,aE⟩,?_⟩;apply aG;apply aV;simp;refine⟨λh9=>?_,λh9=>?_⟩
     ·have h2':2<x.kids.length:=aE;rcases e0 with⟨e0,_⟩|⟨_,b2,e0⟩
      ·omega
      have w2:=hmem 2 h2';have l2:=(eL x.kids[2]).2 b2;have c2:=ihb _ (List.getElem_mem h2') b2;refine aP (λ|67=>some<| .plain ⟨.d (.str (blockT x.kids[2])),true⟩|_=>none) ?_;simp[h2'];refine⟨by(repeat' with_reducible apply And.intro)<;>first|omega|(simpa using c2),?_⟩;apply aD;simp;apply aH;simp[e0,PG,Gx,sElse]
     ·apply aF;simp;apply aD;simp;apply aH;rcases e0 with⟨_,e0⟩|⟨h2,_,_⟩
      ·simp[e0,PG]
      ·omega
    ·have q8:¬(x.kind=11\/x.kind=12):=λq=>by simp[hc8.2 q]at h8
     apply aF;simp;apply aG;have hcm:=f13 aE;obtain⟨g1,g2,g3,g4⟩:=xE hcm;have e0:=PI (x:=x) aE;have ml:=Ig x.kind x.text;have nl:=Bd x.n;have kl:=xG g4;have q1:=qY (k:=x.kind) aE aE;apply aK;simp[q1];refine⟨by(repeat' with_reducible apply And.intro)<;>omega,?_⟩;refine aY (ι:=Unit) (λi=>aR [(1,.bx 1 0),(4,.d (.str (wordAt x.kind++midT x.kind x.text)))]) (λi=>aL [(1,.box false [.d (aI x.kind),.d (.str x.text),.d (aI x.n),.d (ndsD x.kids)])]) (λi=>True) ?_ λi hc21=>?_
     ·apply aD;simp;apply aO;refine aY (ι:=BC) (λ⟨b⟩=>aR [(1,.bx 1 0),(4,.d (.str (wordAt x.kind))),(76,.d (aI x.kind)),(82,.d (.bool b))]) (λ⟨b⟩=>aL [(1,.box false [.d (aI x.kind),.d (.str x.text),.d (aI x.n),.d (ndsD x.kids)])]) (λ⟨b⟩=>b=true↔(x.kind=19\/x.kind=20)) ?_ λ⟨b⟩ hc17=>?_
      ·apply aV;simp;refine⟨λh15=>?_,λh15=>?_⟩
       ·apply aF;simp;refine XG.mk ⟨decide (x.kind=19)⟩ (aA hp [1,4,76,82] [(1,1)]) ?_;simp[h15]
       ·apply aK;simp;refine XG.mk ⟨decide (x.kind=20)⟩ (aA hp [1,4,76,82] [(1,1)]) ?_;simp only[decide_eq_true_eq];omega
      ·apply aJ;simp;refine⟨λh17=>?_,λh17=>?_⟩
       ·have q17:=hc17.1 h17;apply aK;simp;refine⟨by(repeat' with_reducible apply And.intro)<;>omega,?_⟩;exact(aA hp [1,4] [(1,1)] (by simp[midT,q17]))
       ·have q17:¬(x.kind=19\/x.kind=20):=λq=>by simp[hc17.2 q]at h17
        refine aY (ι:=BC) (λ⟨b⟩=>aR [(1,.bx 1 0),(4,.d (.str (wordAt x.kind))),(76,.d (aI x.kind)),(90,.d (.bool b))]) (λ⟨b⟩=>aL [(1,.box false [.d (aI x.kind),.d (.str x.text),.d (aI x.n),.d (ndsD x.kids)])]) (λ⟨b⟩=>b=true↔(x.kind=21\/x.kind=25\/x.kind=24)) ?_ λ⟨b⟩ hc14=>?_
        ·apply aV;simp;refine⟨λh18=>?_,λh18=>?_⟩
         ·apply aF;simp;refine XG.mk ⟨decide (x.kind=21)⟩ (aA hp [1,4,76,90] [(1,1)]) ?_;simp[h18]
         ·apply aV;simp;refine⟨λh19=>?_,λh19=>?_⟩
          ·apply aF;simp;refine XG.mk ⟨decide (x.kind=25)⟩ (aA hp [1,4,76,90] [(1,1)]) ?_;simp[h19]
          ·apply aK;simp;refine XG.mk ⟨decide (x.kind=24)⟩ (aA hp [1,4,76,90] [(1,1)]) ?_;simp only[decide_eq_true_eq];omega
        ·apply aJ;simp;refine⟨λh14=>?_,λh14=>?_⟩
         ·have q14:=hc14.1 h14;apply aF;simp;exact(aA hp [1,4] [(1,1)] (by simp[midT,q17,q14]))
         ·have q14:¬(x.kind=21\/x.kind=25\/x.kind=24):=λq=>by simp[hc14.2 q]at h14
          apply aK;simp;refine⟨by(repeat' with_reducible apply And.intro)<;>omega,?_⟩;exact(aA hp [1,4] [(1,1)] (by simp[midT,q17,q14]))
     ·refine aY (ι:=Unit) (λi=>aR [(1,.bx 1 0),(4,.d (.str (wordAt x.kind++(midT x.kind x.text++withN x.n))))]) (λi=>aL [(1,.box false [.d (aI x.kind),.d (.str x.text),.d (aI x.n),.d (ndsD x.kids)])]) (λi=>True) ?_ λi hc23=>?_
      ·apply aV;simp;refine⟨λh21=>?_,λh21=>?_⟩
       ·have ci:=Ad x.n aE g3;have hn:withN x.n=32::itoaS x.n:=by unfold withN;rw[if_pos h21]
        have il:=cC x.n;refine aP (λ|100=>some<| .plain ⟨.d (.str (itoaS x.n)),true⟩|_=>none) ?_;simp;refine⟨by(repeat' with_reducible apply And.intro)<;>first|omega|(simpa using ci)|(simp only[List.length_append];omega),?_⟩;exact(aA hp [1,4] [(1,1)] (by simp[hn]))
       ·apply aF;simp;exact(aA hp [1,4] [(1,1)] (by simp[withN,show¬0<x.n by omega]))
      ·apply dT;simp;apply aO;refine aU (ι:=Nat) (λi=>aR [(4,.d (.str (wordAt x.kind++(midT x.kind x.text++(withN x.n++withE (x.kids.take i)))))),(104,.d (ndsD x.kids)),(105,.d (aI x.kids.length)),(106,.d (aI i))]) (λi=>aL []) (λi=>i<=x.kids.length) (λi=>x.kids.length-i) 0 (aA hp [4,104,105,106] [] (by simp[withE])) (Nat.zero_le _) λi hi24=>?_;apply aD;simp;apply aG;apply aJ;simp;refine⟨λh24=>?_,λh24=>?_⟩
       ·apply aF;simp;apply dH;apply aG;have hi:i<x.kids.length:=aE;apply aK;simp[hi];have ki:=g4 _ (List.getElem_mem hi);have wi:=hmem i hi;have li:=dC _ ki.1 ki.2;have ci:=Ae _ ki.1 ki.2 aE;have lt:=Ec g4 i;refine aP (λ|112=>some<| .plain ⟨.d (.str (exprT x.kids[i])),true⟩|_=>none) ?_;simp;refine⟨by(repeat' with_reducible apply And.intro)<;>first|omega|(simpa using ci)|(simp only[List.length_append];omega),?_⟩;have:=lF x;apply aK;simp;refine⟨aE,?_⟩;refine Pq.mk (i+1) (aA hp [4,104,105,106] [] (by simp[ND hi])) ?_ ?_
        ·omega
        ·omega
       ·apply bE;simp;apply aG;have hi:i=x.kids.length:=aE;subst hi;rw[List.take_length];apply aK;simp;refine⟨by first|omega|(simp only[List.length_append];omega),?_⟩;apply aH;simp[e0]
end
section
attribute[local simp] kQ.cond Nd.d_eq nd_t nd_dr nd_td ndsD
theorem aAN(x:Nd):(rightN x=true->isStmtK x.kind=true->weighN x<=1000000000->Ok prog 197 [x.d] ⟨.d (.str (stmtT x)),true⟩)/\(jG x->weighN x<=1000000000->Ok prog 167 [x.d] ⟨.d (.str (blockT x)),true⟩):=by
 refine nE (p:=λx=>(rightN x=true->isStmtK x.kind=true->weighN x<=1000000000->Ok prog 197 [x.d] ⟨.d (.str (stmtT x)),true⟩)/\(jG x->weighN x<=1000000000->Ok prog 167 [x.d] ⟨.d (.str (blockT x)),true⟩)) (λk t n ks ih=>⟨?_,?_⟩) x
 ·intro hr hk hw;have hwk:∀y∈ks,weighN y<=1000000000:=λy hy=>by have:=weigh_mem hy;rw[weighN]at hw;omega
  exact RT _ hr hk hw λy hy hb=>(ih y hy).2 hb (hwk y hy)
 ·intro hb hw;have hwk:∀y∈ks,weighN y<=1000000000:=λy hy=>by have:=weigh_mem hy;rw[weighN]at hw;omega
  obtain⟨ks',hx,hy⟩:=id hb;injection hx with i1 i2 i3 i4
  exact NE _ hb hw λy hyk=>(ih y hyk).1 (hy y (i4▸hyk)).1 (hy y (i4▸hyk)).2 (hwk y hyk)
theorem RU{x:Nd}:(itemT x).length<=9*weighN x:=by
 have:=cC x.n;rw[weighN_eq];simp only[itemT,List.length_append,List.length_cons,List.length_nil];omega
theorem qA:∀l:List Nd,(l.flatMap itemT).length<=9*weighL l
 |[]=>aM
 |a::r=>by
  have h1:=qA r;have h2:=RU (x:=a);simp only[List.flatMap_cons,weighL,List.length_append];omega
theorem Ef{l:List Nd}{i:Nat}(hi:i<l.length):(l.take (i+1)).flatMap itemT=(l.take i).flatMap itemT++itemT l[i]:=by
 rw[<-List.take_append_getElem hi,List.flatMap_append];simp
theorem vP{l:List Nd}(i:Nat):((l.take i).flatMap itemT).length<=9*weighL l:=by
 have h1:=qA l;have h2:(l.take i).flatMap itemT++(l.drop i).flatMap itemT=l.flatMap itemT:=by rw[<-List.flatMap_append,List.take_append_drop]
 rw[<-h2,List.length_append]at h1;omega
def kV(l:List Nd):aW:=l.flatMap itemT
theorem PJ(x:Nd)(hd:Nw x)(hw:weighN x<=1000000000):Ok prog 131 [x.d] ⟨.d (.str (textT x)),true⟩:=by
 refine Ok.ret func131 bY (c:=_) rfl ntmps131 aM results131 (by intro _ h;cases h) λw0 X hp=>?_;obtain⟨ht,hd⟩:=hd;have hwx:=weighN_eq x;have wl:=sH x.kind;have q2:=jV;have f0:0<=x.kind/\x.kind<=6:=by rcases hd with⟨h|h,_⟩|⟨h,_⟩|⟨h,_⟩|⟨h,_⟩|⟨h|h,_⟩<;>omega
 have q1:=qY (k:=x.kind) aE aE;have il:=cC x.n;apply aD;simp;apply aG;refine eW.rd [] [] (λ_=>none) ?_;simp[q1];refine⟨by(repeat' with_reducible apply And.intro)<;>omega,?_⟩;apply dT;simp;apply aO;refine aY (ι:=BC) (λ⟨b⟩=>aR [(1,.bx 1 0),(3,.d (.str (wordAt x.kind++32::x.text))),(15,.d (aI x.kind)),(16,.d (.bool b))]) (λ⟨b⟩=>aL [(1,.box false [.d (aI x.kind),.d (.str x.text),.d (aI x.n),.d (ndsD x.kids)])]) (λ⟨b⟩=>b=true↔(x.kind=5\/x.kind=6)) ?_ λ⟨b⟩ hc5=>?_
 ·apply aV;simp;refine⟨λh3=>?_,λh3=>?_⟩
  ·apply aF;simp;refine XG.mk ⟨decide (x.kind=5)⟩ (aA hp [1,3,15,16] [(1,1)]) ?_;simp[h3]
  ·apply aK;simp;refine XG.mk ⟨decide (x.kind=6)⟩ (aA hp [1,3,15,16] [(1,1)]) ?_;simp only[decide_eq_true_eq];omega
 ·apply aJ;simp;refine⟨λh5=>?_,λh5=>?_⟩
  ·have q5:=hc5.1 h5;apply aG;have hd5:∃b,x=.mk x.kind x.text 0 [b]/\jG b:=by
    rcases hd with⟨_,h⟩|⟨h,_⟩|⟨h,_⟩|⟨h,_⟩|⟨h|h,_⟩<;>first|exact h|omega
   obtain⟨c,hx,hb⟩:=hd5;have hks:x.kids=[c]:=by rw[hx];rfl
   rw[hks]at hwx;simp only[weighL]at hwx;have bl:=(eL c).2 hb;have kb:=(aAN c).2 hb aE;refine aP (λ|25=>some<| .plain ⟨.d (.str (blockT c)),true⟩|_=>none) ?_;simp[hks];refine⟨⟨⟨aE,by simpa using kb⟩,aE⟩,?_⟩;apply aH;simp[textT,q5,hks]
  ·have q5:¬(x.kind=5\/x.kind=6):=λq=>by simp[hc5.2 q]at h5
   apply aV;simp;refine⟨λh6=>?_,λh6=>?_⟩
   ·apply aG;have hd7:∀y∈x.kids,PC y:=by
     rcases hd with⟨h|h,_⟩|⟨_,_,h⟩|⟨h,_⟩|⟨h,_⟩|⟨h|h,_⟩<;>first|exact h|omega
    apply aK;simp;refine⟨aE,?_⟩;apply dT;simp;apply aO;refine aU (ι:=Nat) (λi=>aR [(3,.d (.str (wordAt x.kind++32::(x.text++32::123::32::kV (x.kids.take i))))),(32,.d (ndsD x.kids)),(33,.d (aI x.kids.length)),(34,.d (aI i))]) (λi=>aL []) (λi=>i<=x.kids.length) (λi=>x.kids.length-i) 0 (aA hp [3,32,33,34] [] (by simp[kV])) (Nat.zero_le _) λi hi9=>?_;apply aD;simp;apply aG;apply aJ;simp;refine⟨λh9=>?_,λh9=>?_⟩
    ·apply aF;simp;apply dH;apply aG;have hi:i<x.kids.length:=aE;apply aK;simp[hi];obtain⟨t',n',hy,g1,g2,g3⟩:=hd7 _ (List.getElem_mem hi);have en:x.kids[i].n=n':=by rw[hy];rfl
     have ci:=Ad x.kids[i].n aE aE;have lt:=vP (l:=x.kids) i;have li:=cC x.kids[i].n;have wi:=lW hi;rw[weighN_eq x.kids[i]]at wi;have lo:(kV (x.kids.take i)).length<=9*weighL x.kids:=lt;refine eW.rd [[44],[44],[44],[44]] [[],[],[],[],[],[],[44]] (λ|44=>some<| .plain ⟨.d (.str (itoaS x.kids[i].n)),true⟩|_=>none) ?_;simp;refine⟨by(repeat' with_reducible apply And.intro)<;>first|omega|exact ci|(simp only[List.length_append,List.length_cons];omega),?_⟩;have:=lF x;apply aK;simp;refine⟨aE,?_⟩;refine Pq.mk (i+1) (aA hp [3,32,33,34] [] (by simp[kV,Ef hi,itemT])) ?_ ?_
     ·omega
     ·omega
    ·apply bE;simp;apply aG;have hi:i=x.kids.length:=aE;subst hi;rw[List.take_length];have lt:=qA x.kids;have lo:(kV x.kids).length<=9*weighL x.kids:=lt;apply aK;simp;refine⟨aE,?_⟩;apply aH;simp[textT,q5,h6,kV]
   ·apply aV;simp;refine⟨λh14=>?_,λh14=>?_⟩
    ·have hd15: -999<=x.n/\x.n<=999:=by
      rcases hd with⟨h|h,_⟩|⟨h,_⟩|⟨_,_,h⟩|⟨h,_⟩|⟨h|h,_⟩<;>omega
     have ci:=Ad x.n hd15.1 hd15.2;refine aP (λ|56=>some<| .plain ⟨.d (.str (itoaS x.n)),true⟩|_=>none) ?_;simp;refine⟨by(repeat' with_reducible apply And.intro)<;>first|omega|exact ci,?_⟩;apply aD;simp;refine⟨aE,?_⟩;apply aH;simp[textT,q5,h6,h14]
    ·apply aV;simp;refine⟨λh16=>?_,λh16=>?_⟩
     ·have hd17:0<=x.n/\x.n<=3:=by
       rcases hd with⟨h|h,_⟩|⟨h,_⟩|⟨h,_⟩|⟨_,_,h⟩|⟨h|h,_⟩<;>omega
      have ci:=Ad x.n aE aE;refine aP (λ|64=>some<| .plain ⟨.d (.str (itoaS x.n)),true⟩|_=>none) ?_;simp;refine⟨by(repeat' with_reducible apply And.intro)<;>first|omega|exact ci,?_⟩;apply aD;simp;refine⟨aE,?_⟩;apply aH;simp[textT,q5,h6,h14,h16]
     ·apply aF;simp;apply aD;simp;refine⟨aE,?_⟩;apply aH;simp[textT,q5,h6,h14,h16]
end
section
attribute[local simp] kQ.cond Nd.d_eq nd_t nd_dr nd_td ndsD aZ
theorem yS(c:UInt8):letterB c=(decide (97<=(c.toNat:Int))&&decide ((c.toNat:Int)<=122)):=by
 unfold letterB;congr 1<;>(rw[decide_eq_decide,UInt8.le_iff_toNat_le];exact⟨λh=>by have:(97:UInt8).toNat=97:=rfl;have:(122:UInt8).toNat=122:=rfl;omega,λh=>by have:(97:UInt8).toNat=97:=rfl;have:(122:UInt8).toNat=122:=rfl;omega⟩)
theorem Be(c:UInt8):digitB c=(decide (48<=(c.toNat:Int))&&decide ((c.toNat:Int)<=57)):=by
 unfold digitB;congr 1<;>(rw[decide_eq_decide,UInt8.le_iff_toNat_le];exact⟨λh=>by have:(48:UInt8).toNat=48:=rfl;have:(57:UInt8).toNat=57:=rfl;omega,λh=>by have:(48:UInt8).toNat=48:=rfl;have:(57:UInt8).toNat=57:=rfl;omega⟩)
theorem xH(c:UInt8):Ok prog 155 [.int .u8 (c.toNat:Int)] ⟨.d (.bool (letterB c)),true⟩:=by
 refine Ok.ret func155 bY (c:=_) rfl ntmps155 aM results155 (by intro _ h;cases h) λw0 X hp=>?_;apply aD;simp;apply aD;simp;apply aH;simp[yS]
theorem vQ(c:UInt8):Ok prog 157 [.int .u8 (c.toNat:Int)] ⟨.d (.bool (digitB c)),true⟩:=by
 refine Ok.ret func157 bY (c:=_) rfl ntmps157 aM results157 (by intro _ h;cases h) λw0 X hp=>?_;apply aD;simp;apply aD;simp;apply aH;simp[Be]
theorem Vf(s:aW)(p:UInt8->Bool)(g:FuncId)(hg:∀c:UInt8,Ok prog g [.int .u8 (c.toNat:Int)] ⟨.d (.bool (p c)),true⟩)(hl:s.length<=9223372036854775807):Ok prog 158 [.str s,.fn g []] ⟨.d (aI (runP p s)),true⟩:=by
 refine Ok.ret func158 bY (c:=_) rfl ntmps158 aM results158 (by intro _ h;cases h) λw0 X hp=>?_;apply aD;simp;apply aD;simp;apply dH;refine aU (ι:=Nat) (λi=>aR [(0,.d (.str s)),(1,.d (.fn g [])),(5,.d (aI i))]) (λi=>aL []) (λi=>i<=s.length/\∀(j:Nat) (h:j<s.length),j<i->p s[j]=true) (λi=>s.length-i) 0 (aA hp [0,1,5] []) (⟨Nat.zero_le _,λj _ h=>absurd h (Nat.not_lt_zero _)⟩) λi hi2=>?_;apply eA;have hc:=hg (s.getD i 0);refine aP (λ|15=>some<| .plain ⟨.d (.bool (p (s.getD i 0))),true⟩|_=>none) ?_;simp[eF];refine⟨λ_=>by simpa using hc,?_⟩;apply aJ;simp;refine⟨λg1 g2=>?_,λg=>?_⟩
 ·apply aF;simp;apply aO;apply aK;simp;refine⟨aE,?_⟩;refine Pq.mk (i+1) (aA hp [0,1,5] []) ?_ ?_
  ·refine⟨aE,λj hj q=>?_⟩;rcases Nat.lt_or_ge j i with q'|q'
   ·exact hi2.2 j hj q'
   ·have:j=i:=aE;subst this;simpa [g1]using g2
  ·omega
 ·apply bE;simp;apply aD;simp;apply aH;simp;have hr:=runP_eq (p:=p) (s:=s) hi2.1 (λj hj=>hi2.2 j aE hj) (λhl=>by
   have:=g hl;simpa [hl]using this)
  omega
theorem Vg(c:UInt8):Ok prog 178 [.int .u8 (c.toNat:Int)] ⟨.d (.bool (letterB c||digitB c)),true⟩:=by
 refine Ok.ret func178 bY (c:=_) rfl ntmps178 aM results178 (by intro _ h;cases h) λw0 X hp=>?_;apply aD;simp;refine cJ (λ|4=>some<| .plain ⟨.d (.bool (letterB c)),true⟩|7=>some<| .plain ⟨.d (.bool (digitB c)),true⟩|_=>none) ?_;simp;refine⟨⟨xH c,λ_=>vQ c⟩,?_⟩;apply aH;simp
theorem Bf(s:aW):wordN s=if s=[]\/letterB (s[0]?.getD 0)=false then 0 else if 16<runP (λc=>letterB c||digitB c) s then 0 else runP (λc=>letterB c||digitB c) s:=by
 cases s with
 |nil=>rfl
 |cons c r=>
  have e:((c::r)[0]?.getD 0)=c:=rfl;rw[e];unfold wordN;generalize runP (λc=>letterB c||digitB c) (c::r)=n;by_cases q:letterB c=true
  ·simp only[q,if_true];by_cases h:n<=16
   ·simp[h,show¬16<n by omega]
   ·simp[h,show 16<n by omega]
  ·simp[q]
theorem Ih(s:aW)(hl:s.length<=9223372036854775807):Ok prog 156 [.str s] ⟨.d (aI (wordN s)),true⟩:=by
 refine Ok.ret func156 bY (c:=_) rfl ntmps156 aM results156 (by intro _ h;cases h) λw0 X hp=>?_;apply aD;simp;apply aG;refine cJ (λ|9=>some<| .plain ⟨.d (.bool (letterB (s.getD 0 0))),true⟩|_=>none) ?_;simp;refine⟨⟨λh=>List.length_pos_iff.2 h,λ_=>xH _⟩,?_⟩;apply aJ;simp;refine⟨λg=>?_,λg1 g2=>?_⟩
 ·apply aD;simp;apply aH;simp;rw[Bf,if_pos g];rfl
 ·apply aF;simp;apply aG;have hr:=Vf s (λc=>letterB c||digitB c) 178 (λc=>Vg c) hl;refine aP (λ|13=>some<| .plain ⟨.d (aI (runP (λc=>letterB c||digitB c) s)),true⟩|_=>none) ?_;simp;refine⟨by simpa using hr,?_⟩;apply aG;apply aV;simp;refine⟨λh4=>?_,λh4=>?_⟩
  ·apply aD;simp;apply aH;simp;rw[Bf,if_neg,if_pos aE]
   ·rfl
   intro q;rcases q with q|q
   ·exact g1 (by simpa using q)
   ·simp[q]at g2
  ·apply aF;simp;apply aD;simp;apply aH;simp;rw[Bf,if_neg,if_neg aE];intro q;rcases q with q|q
   ·exact g1 (by simpa using q)
   ·simp[q]at g2
theorem yT:List.take 26 rM=wordsL.map DV.str:=rfl
theorem Km(s:aW):Ok prog 181 [.str s] ⟨.d (.bool (reservedB s)),true⟩:=by
 refine Ok.ret func181 bY (c:=_) rfl ntmps181 aM results181 (by intro _ h;cases h) λw0 X hp=>?_;apply aD;simp;apply aG;have hi:=Ki wordsL s;have q2:=jV;refine aP (λ|12=>some<| .plain ⟨.d (.bool (decide (s∈wordsL))),true⟩|_=>none) ?_;simp[yT];refine⟨⟨λ_ _=>aE,λ_ _=>hi⟩,?_⟩;apply aH;simp;show _=(decide (s=[101,108,115,101])||decide (s=[107,105,110,100])||decide (s∈wordsL));simp only[Bool.beq_eq_decide_eq]
theorem GA(s:aW):Ok prog 161 [.str s] ⟨.d (.bool (isNameB s)),true⟩:=by
 refine Ok.ret func161 bY (c:=_) rfl ntmps161 aM results161 (by intro _ h;cases h) λw0 X hp=>?_;apply aD;simp;refine cJ (λ|8=>some<| .plain ⟨.d (.bool (letterB (s.getD 0 0))),true⟩|12=>some<| .plain ⟨.d (.bool (reservedB s)),true⟩|_=>none) ?_;simp;refine⟨⟨⟨λh=>List.length_pos_iff.2 h,λ_=>xH _⟩,λ_ _=>Km s⟩,?_⟩;apply aH;cases s<;>simp[isNameB]
theorem Af(s:aW)(b:Bool)(hl:s.length<=9223372036854775807):Ok prog 196 [.str s,.bool b] ⟨.d (.bool (wholeB s b)),true⟩:=by
 refine Ok.ret func196 bY (c:=_) rfl ntmps196 aM results196 (by intro _ h;cases h) λw0 X hp=>?_;apply aD;simp;refine cJ (λ|9=>some<| .plain ⟨.d (aI (wordN s)),true⟩|19=>some<| .plain ⟨.d (.bool (isNameB s)),true⟩|_=>none) ?_;simp;refine⟨⟨⟨λ_=>Ih s hl,λ_ _ _=>GA s⟩,λh1 h2 h3=>⟨⟨h1,h2⟩,h3⟩⟩,?_⟩;apply aH;simp;rw[Bool.eq_iff_iff];simp[wholeB];intro _ _;omega
end
end Go.Eng
namespace Go.Proofs
open Go.Shelf
def Tryz.idxLay_ren:Go.Shelf.Ren:=⟨λ|217=>180|266=>206|n=>n,λ|9=>9|5=>5|3=>3|n=>n,λ|n=>n⟩
theorem Tryz.idxLay:Go.Proofs.Lays.n217 prog Tryz.idxLay_ren:={
 mixed:=by kernel_rfl,
 f217:=func180.trans (congrArg some (by kernel_rfl)),
 f266:=func206.trans (congrArg some (by kernel_rfl)),
 t3:=underlying3,
 a3:=isAgg3,
 z3:=sizeOf3,
 v3:=zeroValue3,
 t5:=underlying5,
 a5:=isAgg5,
 z5:=sizeOf5,
 v5:=zeroValue5,
 t9:=underlying9,
 a9:=isAgg9,
 z9:=sizeOf9,
 v9:=zeroValue9}
end Go.Proofs
namespace Go.Eng
section
attribute[local simp] kQ.cond Nd.d_eq nd_t nd_dr nd_td ndsD aZ
def uJ(c:UInt8)(s:aW):Int:=match cutAt c s with|some q=>q.1.length|none=> -1
theorem PK(c:UInt8):∀s:aW,Lib.indexByte s c=uJ c s
 |[]=>rfl
 |d::r=>by
  have ih:=PK c r;unfold Lib.indexByte uJ cutAt;unfold uJ at ih;by_cases h:d=c
  ·simp[h]
  ·rw[if_neg h];rw[if_neg (by simpa using h)];rw[ih];cases cutAt c r with
   |none=>simp
   |some q=>
    simp only[Option.map_some,List.length_cons];rw[if_neg aM];rfl
theorem Bg{c:UInt8}{s:aW}{q:aW×aW}(h:cutAt c s=some q):s.take q.1.length=q.1/\s.drop (q.1.length+1)=q.2/\q.1.length+1+q.2.length=s.length:=by
 have e:=Kg (a:=q.1) (b:=q.2) h;rw[e];refine⟨aM,?_,kG⟩;rw[show q.1.length+1=(q.1++[c]).length by simp,show q.1++c::q.2=(q.1++[c])++q.2 by simp,List.drop_left]
theorem Ag(s:aW)(c:UInt8):Ok prog 180 [.str s,.int .u8 (c.toNat:Int)] ⟨.d (aI (uJ c s)),true⟩:=by
 refine⟨⟨_,func180,bY,rfl⟩,λw X vs hX hr=>?_⟩
 match vs,hr.1 with
 |[u,v],_=>
  have h1:=hr.2 0 _ _ rfl rfl;have h2:=hr.2 1 _ _ rfl rfl;cases h1;cases h2;refine(Go.Proofs.Any.stringslite_IndexByte Tryz.idxLay ⟨s.toArray⟩ (c.toNat:Int) w).mono ?_;rintro e w' ⟨rfl,rfl⟩;refine⟨_,rfl,zN.refl _ _,none,?_⟩;have e:((c.toNat:Int).toNat.toUInt8)=c:=aM;rw[e];simp only[];rw[PK];exact .int _ _
theorem RW(s:aW)(c:UInt8)(hl:s.length<=9223372036854775807):Ok prog 169 [.str s,.str [c]] ⟨.d (aI (uJ c s)),true⟩:=by
 refine Ok.ret func169 bY (c:=_) rfl ntmps169 aM results169 (by intro _ h;cases h) λw0 X hp=>?_;apply aD;simp;apply aD;simp;apply dH;apply aV;simp;refine⟨λg=>?_,λg=>?_⟩
 ·apply aD;simp;apply aH;simp[<-g,uJ,cutAt]
 ·apply aV;simp;apply aG;have hi:=Ag s c;refine aP (λ|30=>some<| .plain ⟨.d (aI (uJ c s)),true⟩|_=>none) ?_;simp;refine⟨hi,?_⟩;apply aH;simp
def qL(c:UInt8)(s:aW):aW:=match cutAt c s with|some q=>q.1|none=>s
def qM(c:UInt8)(s:aW):aW:=match cutAt c s with|some q=>q.2|none=>[]
def Ah(c:UInt8)(s:aW):Bool:=(cutAt c s).isSome
theorem XP(s:aW)(c:UInt8)(hl:s.length<=9223372036854775807):Ok prog 132 [.str s,.str [c]] ⟨.tup [.d (.str (qL c s)),.d (.str (qM c s)),.d (.bool (Ah c s))],true⟩:=by
 refine wY hT func132 bY (c:=_) rfl ntmps132 aM results132 aM (by rfl) λw0 X hp=>?_;apply aD;simp;apply eA;have hi:=RW s c hl;refine aP (λ|10=>some<| .plain ⟨.d (aI (uJ c s)),true⟩|_=>none) ?_;simp;refine⟨hi,?_⟩;apply aV;simp;refine⟨λh2=>?_,λh2=>?_⟩
 ·apply aG;obtain⟨q,hq⟩:∃q,cutAt c s=some q:=by
   unfold uJ at h2;cases e:cutAt c s with
   |none=>rw[e]at h2;simp at h2
   |some q=>exact⟨q,rfl⟩
  have hx:uJ c s=(q.1.length:Int):=by unfold uJ;rw[hq]
  obtain⟨p1,p2,p3⟩:=Bg hq;refine eW.rd [] [] (λ_=>none) ?_;simp[hx,p1,p2];refine⟨⟨⟨aE,aE,aE⟩,aE,aE⟩,?_⟩;apply aH;simp[qL,qM,Ah,hq]
 ·apply aF;simp;apply aD;simp;apply aH;have hn:cutAt c s=none:=by
   unfold uJ at h2;cases e:cutAt c s with
   |none=>rfl
   |some q=>rw[e]at h2;simp at h2;omega
  simp[qL,qM,Ah,hn]
theorem Vh(s:aW)(c:UInt8)(hl:s.length<=9223372036854775807):Ok prog 78 [.str s,.str [c]] ⟨.tup [.d (.str (qL c s)),.d (.str (qM c s)),.d (.bool (Ah c s))],true⟩:=by
 refine wY hT func78 bY (c:=_) rfl ntmps78 aM results78 aM (by rfl) λw0 X hp=>?_;apply aD;simp;apply aG;have hi:=XP s c hl;refine aP (λ|9=>some<| .plain ⟨.tup [.d (.str (qL c s)),.d (.str (qM c s)),.d (.bool (Ah c s))],true⟩|_=>none) ?_;simp[bD];refine⟨hi,?_⟩;apply aH;simp
end
structure cZ where
 bk:Int
 kind:Int
 name:aW
 field:aW
def cZ.d(u:cZ):DV:=.agg [aI u.kind,.str u.name,.str u.field]
def Eg:List Int:=[34,35,13,14,17,18,15,16,22,23]
def sJ:List Int:=[0,1,5,5,3,3,2,2,4,4]
def Ko(k:Int):Option Int:=(Eg.findIdx? (λx=>decide (k=x))).map λj=>sJ.getD j 0
def fG(k:Int)(t:aW):List cZ:=match Ko k with
 |some f=>[⟨k,f,qL 46 t,qM 46 t⟩]
 |none=>[]
mutual
def bJ:Nd->List cZ
 | .mk k t _ ks=>fG k t++eJ ks
def eJ:List Nd->List cZ
 |[]=>[]
 |x::r=>bJ x++eJ r
end
theorem usesN_eq(x:Nd):bJ x=fG x.kind x.text++eJ x.kids:=by cases x;rw[bJ];rfl
theorem usesL_append:∀(a b:List Nd),eJ (a++b)=eJ a++eJ b
 |[],_=>rfl
 |x::a,b=>by rw[List.cons_append,eJ,eJ,usesL_append a b,List.append_assoc]
theorem usesL_succ{l:List Nd}{i:Nat}(hi:i<l.length):eJ (l.take (i+1))=eJ (l.take i)++bJ l[i]:=by
 rw[List.take_succ_eq_append_getElem hi,usesL_append,eJ,eJ,List.append_nil]
theorem findD_int(k:Int):∀(l:List Int) (i:Nat),iF (aI k) (l.map aI) i=some ((l.findIdx? (λx=>decide (k=x))).map (·+i))
 |[],i=>rfl
 |x::r,i=>by
  have e:kI (aI k) (aI x)=some (decide (k=x)):=by simp[kI,Jk]
  rw[List.map_cons,iF,e,List.findIdx?_cons];by_cases h:k=x
  ·simp[h]
  ·simp only[h,decide_false,Bool.false_eq_true,if_false];rw[findD_int k r (i+1)];cases r.findIdx? (λx=>decide (k=x))with
   |none=>rfl
   |some j=>simp;omega
def fitD:DV:=.mp (Eg.map aI) (sJ.map aI)
section
attribute[local simp] kQ.cond Nd.d_eq nd_t nd_dr nd_td ndsD
theorem isEmpty_dec(l:aW):l.isEmpty=decide (l=[]):=by cases l<;>simp
def bndD(l:List (Int×Int)):List DV:=l.flatMap λp=>[aI p.1,aI p.2]
theorem glob1_eq:FR=bndD boundsL:=bY
theorem glob1_len:FR.length=74:=bY
theorem bndD_at:∀(l:List (Int×Int)) (k:Nat),k<l.length->(bndD l)[k*2]?.getD default=aI (l.getD k (0,0)).1/\(bndD l)[k*2+1]?.getD default=aI (l.getD k (0,0)).2
 |p::l,0,_=>⟨rfl,rfl⟩
 |p::l,k+1,h=>by
  have ih:=bndD_at l k (by simpa using h);have e:bndD (p::l)=aI p.1::aI p.2::bndD l:=rfl;rw[e,show(k+1)*2=k*2+1+1 by omega];exact ih
theorem glob1_lo{k:Int}(h:0<=k/\k<37):FR[k.toNat*2]?.getD default=aI (loAt k):=by
 rw[glob1_eq];exact(bndD_at boundsL k.toNat (by rw[bounds_len];omega)).1
theorem glob1_hi{k:Int}(h:0<=k/\k<37):FR[k.toNat*2+1]?.getD default=aI (hiAt k):=by
 rw[glob1_eq];exact(bndD_at boundsL k.toNat (by rw[bounds_len];omega)).2
theorem cutA_len(c:UInt8)(s:aW):(qL c s).length<=s.length:=by
 unfold qL;cases h:cutAt c s with
 |none=>simp
 |some q=>have:=Bg h;simp;omega
theorem cutB_len(c:UInt8)(s:aW):(qM c s).length<=s.length:=by
 unfold qM;cases h:cutAt c s with
 |none=>simp
 |some q=>have:=Bg h;simp;omega
theorem fieldB_eq(t:aW):fieldB t=(Ah 46 t&&wholeB (qL 46 t) true&&wholeB (qM 46 t) true):=by
 unfold fieldB Ah qL qM;cases cutAt 46 t with
 |none=>rfl
 |some q=>rfl
theorem worded_ok(x:Nd)(hk:0<=x.kind/\x.kind<37)(hl:x.text.length<=9223372036854775807):Ok prog 165 [x.d] ⟨.d (.bool (wordedB x)),true⟩:=by
 refine Ok.ret func165 bY (c:=_) rfl ntmps165 aM results165 (by intro _ h;cases h) λw0 X hp=>?_;apply aD;simp;apply eA;have hg1:=glob1_lo hk;have hg2:=glob1_hi hk;have hg3:=glob1_len;refine eW.rd [] [] (λ_=>none) ?_;simp[hg1,hg2];refine⟨⟨⟨⟨hk,aE⟩,λ_=>hk⟩,λ_=>aE⟩,?_⟩;apply aJ;simp;refine⟨λg=>?_,λg1 g2=>?_⟩
 ·apply aD;simp;apply aH;simp;unfold wordedB wordedK;rw[Bool.eq_false_iff];intro h;simp only[Bool.and_eq_true,decide_eq_true_eq]at h;omega
 ·apply aF;simp;apply dT;simp;apply aO;refine aY (ι:=BC) (λ⟨b⟩=>aR [(1,.bx 1 0),(25,.d (aI x.kind)),(26,.d (.bool b))]) (λ⟨b⟩=>aL [(1,.box false [.d (aI x.kind),.d (.str x.text),.d (aI x.n),.d (ndsD x.kids)])]) (λ⟨b⟩=>b=true↔(x.kind=9\/x.kind=19\/x.kind=20\/x.kind=33)) ?_ λ⟨b⟩ hc8=>?_
  ·apply aV;simp;refine⟨λh4=>?_,λh4=>?_⟩
   ·apply aF;simp;refine XG.mk ⟨decide (x.kind=9)⟩ (aA hp [1,25,26] [(1,1)]) ?_;simp[h4]
   ·apply aV;simp;refine⟨λh5=>?_,λh5=>?_⟩
    ·apply aF;simp;refine XG.mk ⟨decide (x.kind=19)⟩ (aA hp [1,25,26] [(1,1)]) ?_;simp[h5]
    ·apply aV;simp;refine⟨λh6=>?_,λh6=>?_⟩
     ·apply aF;simp;refine XG.mk ⟨decide (x.kind=20)⟩ (aA hp [1,25,26] [(1,1)]) ?_;simp[h6]
     ·apply aK;simp;refine XG.mk ⟨decide (x.kind=33)⟩ (aA hp [1,25,26] [(1,1)]) ?_;simp only[decide_eq_true_eq];omega
  ·apply aJ;simp;refine⟨λh8=>?_,λh8=>?_⟩
   ·have q8:=hc8.1 h8;apply aG;have hw:=Af x.text false hl;refine aP (λ|33=>some<| .plain ⟨.d (.bool (wholeB x.text false)),true⟩|_=>none) ?_;simp;refine⟨hw,?_⟩;apply aH;simp;unfold wordedB wordedK textB;simp only[g1,g2,decide_true,Bool.true_and];repeat(first|rw[if_pos aE]|rw[if_neg aE])
    try rw[fieldB_eq]
    try simp
    try exact isEmpty_dec _
   ·have q8:¬(x.kind=9\/x.kind=19\/x.kind=20\/x.kind=33):=λq=>by simp[hc8.2 q]at h8
    apply aV;simp;refine⟨λh9=>?_,λh9=>?_⟩
    ·apply aG;have hc:=Vh x.text 46 hl;refine aP (λ|39=>some<| .plain ⟨.tup [.d (.str (qL 46 x.text)),.d (.str (qM 46 x.text)),.d (.bool (Ah 46 x.text))],true⟩|_=>none) ?_;simp[bD];refine⟨hc,?_⟩;apply aG;have hw1:=Af (qL 46 x.text) true (by have:=cutA_len 46 x.text;omega);have hw2:=Af (qM 46 x.text) true (by have:=cutB_len 46 x.text;omega);refine aP (λ|46=>some<| .plain ⟨.d (.bool (wholeB (qL 46 x.text) true)),true⟩|50=>some<| .plain ⟨.d (.bool (wholeB (qM 46 x.text) true)),true⟩|_=>none) ?_;simp;refine⟨⟨λ_=>hw1,λ_ _=>hw2⟩,?_⟩;apply aH;simp;unfold wordedB wordedK textB;simp only[g1,g2,decide_true,Bool.true_and];repeat(first|rw[if_pos aE]|rw[if_neg aE])
     try rw[fieldB_eq]
     try simp
     try exact isEmpty_dec _
    ·refine aY (ι:=BC) (λ⟨b⟩=>aR [(1,.bx 1 0),(25,.d (aI x.kind)),(52,.d (.bool b))]) (λ⟨b⟩=>aL [(1,.box false [.d (aI x.kind),.d (.str x.text),.d (aI x.n),.d (ndsD x.kids)])]) (λ⟨b⟩=>b=true↔(x.kind=8\/x.kind=10\/x.kind=11\/x.kind=12\/x.kind=21\/x.kind=24\/x.kind=25\/x.kind=26\/x.kind=27\/x.kind=28\/x.kind=29\/x.kind=30\/x.kind=31\/x.kind=32\/x.kind=36)) ?_ λ⟨b⟩ hc27=>?_
     ·apply aV;simp;refine⟨λh12=>?_,λh12=>?_⟩
      ·apply aF;simp;refine XG.mk ⟨decide (x.kind=8)⟩ (aA hp [1,25,52] [(1,1)]) ?_;simp[h12]
      ·apply aV;simp;refine⟨λh13=>?_,λh13=>?_⟩
       ·apply aF;simp;refine XG.mk ⟨decide (x.kind=10)⟩ (aA hp [1,25,52] [(1,1)]) ?_;simp[h13]
       ·apply aV;simp;refine⟨λh14=>?_,λh14=>?_⟩
        ·apply aF;simp;refine XG.mk ⟨decide (x.kind=11)⟩ (aA hp [1,25,52] [(1,1)]) ?_;simp[h14]
        ·apply aV;simp;refine⟨λh15=>?_,λh15=>?_⟩
         ·apply aF;simp;refine XG.mk ⟨decide (x.kind=12)⟩ (aA hp [1,25,52] [(1,1)]) ?_;simp[h15]
         ·apply aV;simp;refine⟨λh16=>?_,λh16=>?_⟩
          ·apply aF;simp;refine XG.mk ⟨decide (x.kind=21)⟩ (aA hp [1,25,52] [(1,1)]) ?_;simp[h16]
          ·apply aV;simp;refine⟨λh17=>?_,λh17=>?_⟩
           ·apply aF;simp;refine XG.mk ⟨decide (x.kind=24)⟩ (aA hp [1,25,52] [(1,1)]) ?_;simp[h17]
           ·apply aV;simp;refine⟨λh18=>?_,λh18=>?_⟩
            ·apply aF;simp;refine XG.mk ⟨decide (x.kind=25)⟩ (aA hp [1,25,52] [(1,1)]) ?_;simp[h18]
            ·apply aV;simp;refine⟨λh19=>?_,λh19=>?_⟩
             ·apply aF;simp;refine XG.mk ⟨decide (x.kind=26)⟩ (aA hp [1,25,52] [(1,1)]) ?_;simp[h19]
             ·apply aV;simp;refine⟨λh20=>?_,λh20=>?_⟩
              ·apply aF;simp;refine XG.mk ⟨decide (x.kind=27)⟩ (aA hp [1,25,52] [(1,1)]) ?_;simp[h20]
              ·apply aV;simp;refine⟨λh21=>?_,λh21=>?_⟩
               ·apply aF;simp;refine XG.mk ⟨decide (x.kind=28)⟩ (aA hp [1,25,52] [(1,1)]) ?_;simp[h21]
               ·apply aV;simp;refine⟨λh22=>?_,λh22=>?_⟩
                ·apply aF;simp;refine XG.mk ⟨decide (x.kind=29)⟩ (aA hp [1,25,52] [(1,1)]) ?_;simp[h22]
                ·apply aV;simp;refine⟨λh23=>?_,λh23=>?_⟩
                 ·apply aF;simp;refine XG.mk ⟨decide (x.kind=30)⟩ (aA hp [1,25,52] [(1,1)]) ?_;simp[h23]
                 ·apply aV;simp;refine⟨λh24=>?_,λh24=>?_⟩
                  ·apply aF;simp;refine XG.mk ⟨decide (x.kind=31)⟩ (aA hp [1,25,52] [(1,1)]) ?_;simp[h24]
                  ·apply aV;simp;refine⟨λh25=>?_,λh25=>?_⟩
                   ·apply aF;simp;refine XG.mk ⟨decide (x.kind=32)⟩ (aA hp [1,25,52] [(1,1)]) ?_;simp[h25]
                   ·apply aK;simp;refine XG.mk ⟨decide (x.kind=36)⟩ (aA hp [1,25,52] [(1,1)]) ?_;simp only[decide_eq_true_eq];omega
     ·apply aJ;simp;refine⟨λh27=>?_,λh27=>?_⟩
      ·have q27:=hc27.1 h27;apply aD;simp;apply aH;simp;unfold wordedB wordedK textB;simp only[g1,g2,decide_true,Bool.true_and];repeat(first|rw[if_pos aE]|rw[if_neg aE])
       try rw[fieldB_eq]
       try simp
       try exact isEmpty_dec _
      ·have q27:¬(x.kind=8\/x.kind=10\/x.kind=11\/x.kind=12\/x.kind=21\/x.kind=24\/x.kind=25\/x.kind=26\/x.kind=27\/x.kind=28\/x.kind=29\/x.kind=30\/x.kind=31\/x.kind=32\/x.kind=36):=λq=>by simp[hc27.2 q]at h27
       apply aF;simp;apply aG;have hw:=Af x.text true hl;refine aP (λ|73=>some<| .plain ⟨.d (.bool (wholeB x.text true)),true⟩|_=>none) ?_;simp;refine⟨hw,?_⟩;apply aH;simp;unfold wordedB wordedK textB;simp only[g1,g2,decide_true,Bool.true_and];repeat(first|rw[if_pos aE]|rw[if_neg aE])
       try rw[fieldB_eq]
       try simp
       try exact isEmpty_dec _
end
end Go.Eng
