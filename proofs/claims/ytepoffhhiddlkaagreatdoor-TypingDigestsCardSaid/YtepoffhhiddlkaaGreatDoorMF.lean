/- Part 6 of the proof. No condition. -/
import Derived.Test.YtepoffhhiddlkaaGreatDoorME
import Derived.Shelf.Strconv.Itoa3
import Derived.Test.YtepoffhhiddlkaaGreatDoorProg
import Derived.Shelf.Strings.Search1
open Go.Proofs
open Go.Proofs.Tryz
set_option linter.unusedVariables false
set_option linter.unusedSimpArgs false
set_option maxRecDepth 20000
set_option maxHeartbeats 4000000
open List renaming length_append→A0,length_cons→A1,getElem_mem→A2,mem_singleton→A4,mem_cons_of_mem→A6,take_succ_cons→A7,length_nil→A8,mem_of_find?_eq_some→B0,flatMap_append→B1,getElem?_eq_getElem→B2,take_append_getElem→B3,take_append_drop→B4,take→B5,cons_append→B6,all_eq_true→B7,take_length→B8,length_pos_iff→B9,mem_cons_self→C0,getD_eq_getElem?_getD→C1,all_eq_not_any_not→C3,length_map→C4,mem_iff_getElem→C6,mem_range→C7,length_take→D0,mem_append→D2
open Nat renaming le_refl→A5,zero_le→A9,le_trans→C9,not_lt_zero→D4,min_self→D5,lt_or_ge→D6
open Option renaming map_some→D3
open Bool renaming and_eq_true→A3,true_and→C2,false_eq_true→C8,or_eq_true→D1
open UInt8 renaming le_iff_toNat_le→C5
namespace Go.Eng
theorem CU(p:UInt8->Bool):∀(s:bA) (n:Nat),runP p (s.take n)=min n (runP p s)
 |[],n=>by simp[runP]
 |c::r,0=>by simp[runP]
 |c::r,n+1=>by
  rw[A7];unfold runP;split
  .rw[CU p r n];omega
  .simp
def Po(s:bA):Prop:=s≠[]/\nextN s=s.length
theorem uK{s:bA}(h:0<wordN s):∃c r,s=c::r/\letterB c=true/\wordN s=runP (λc=>letterB c||digitB c) s/\wordN s<=16:=by
 cases s with
 |nil=>simp[wordN]at h
 |cons c r=>
  refine⟨c,r,rfl,?_⟩;unfold wordN at h|-;by_cases q:letterB c=true
  .simp only[q,if_true]at h|-;by_cases q2:runP (λc=>letterB c||digitB c) (c::r)<=16
   .simp only[q2,if_true,true_and]at h|-
   .simp[q2]at h
  .simp[q]at h
theorem yM(s:bA):wordN s<=s.length:=by
 rcases Nat.eq_zero_or_pos (wordN s)with h|h
 .omega
 .obtain⟨c,r,_,_,a,_⟩:=uK h;rw[a];exact runP_le _ _
theorem Bf{s:bA}(h:0<wordN s):wordN (s.take (wordN s))=wordN s:=by
 obtain⟨c,r,rfl,b,d,f⟩:=uK h;obtain⟨m,a⟩:∃m,wordN (c::r)=m+1:=⟨wordN (c::r)- 1,aE⟩;have e:=CU (λc=>letterB c||digitB c) (c::r) (wordN (c::r));rw[a]at e|-;rw[A7]at e|-;unfold wordN;simp only[b,if_true];rw[e,<-d,a,D5,if_pos aE]
theorem yN(s:bA):nextN s<=s.length:=by
 unfold nextN;cases s with
 |nil=>simp
 |cons c r=>
  simp only;split
  .exact yM _
  .split
   .split
    .have:=yM r;simp only[A1];omega
    .simp
   .split
    .split
     .exact runP_le _ _
     .simp
    .split
     .rename_i h;have:(B5 2 (c::r)).length=2:=by rcases h with h|h<;>rw[h]<;>rfl
      rw[D0]at this;omega
     .split<;>simp
theorem Ut{s:bA}(h:0<nextN s):Po (s.take (nextN s)):=by
 have j:=yN s;have b:(s.take (nextN s)).length=nextN s:=by rw[D0];omega
 refine⟨λe=>by rw[e]at b;simp at b;omega,?_⟩;rw[b];cases s with
 |nil=>simp[nextN]at h
 |cons c r=>
  obtain⟨m,g⟩:∃m,nextN (c::r)=m+1:=⟨nextN (c::r)- 1,aE⟩;rw[g,A7];have a:=g;unfold nextN at a|-;simp only at a|-;by_cases q1:letterB c=true
  .rw[if_pos q1]at a|-;have:=Bf (s:=c::r) aE;rw[a,A7]at this;exact this
  .rw[if_neg q1]at a|-;by_cases q2:c=36
   .rw[if_pos q2]at a|-;by_cases q3:0<wordN r
    .rw[if_pos q3]at a;have:=Bf q3;have e:m=wordN r:=aE;rw[e,this,if_pos q3]
    .rw[if_neg q3]at a;omega
   .rw[if_neg q2]at a|-;by_cases q3:digitB c=true
    .rw[if_pos q3]at a|-;have e:=CU digitB (c::r) (m+1);rw[A7]at e;by_cases d:runP digitB (c::r)<=3
     .rw[if_pos d]at a;rw[e,a,D5,if_pos aE]
     .rw[if_neg d]at a;omega
    .rw[if_neg q3]at a|-;by_cases d:B5 2 (c::r)=[60,61]\/B5 2 (c::r)=[61,61]
     .rw[if_pos d]at a;have e:m=1:=aE;have i:B5 2 (c::B5 m r)=B5 2 (c::r):=by rw[e];cases r<;>simp
      rw[i,if_pos d,e]
     .rw[if_neg d]at a;by_cases f:c∈signs
      .rw[if_pos f]at a;have e:m=0:=aE;subst e;rw[if_neg bC,if_pos f]
      .rw[if_neg f]at a;omega
def bT(l:List Tk):Prop:=∀t∈l,Po t.text
theorem iW:∀(f:Nat) (s:bA) (i:Int),bT (scanF f s i).1
 |0,_,_=>λt h=>by cases h
 |f+1,s,i=>by
  unfold scanF;split
  .exact λt h=>by cases h
  .split
   .exact iW f _ _
   .split
    .exact λt h=>by cases h
    .rename_i q;intro t h;rcases List.mem_cons.1 h with h|h
     .rw[h];exact Ut aE
     .exact iW f _ _ t h
theorem Yu{s:bA}(h:Po s)(b:isNameB s=true):wholeB s true=true:=by
 obtain⟨d,a⟩:=h;cases s with
 |nil=>exact absurd rfl d
 |cons c r=>
  have e:letterB c=true:=by simp only[isNameB,A3]at b;exact b.1
  unfold nextN at a;simp only[e,if_true]at a;unfold wholeB;rw[a,b];simp
theorem Uu{r:bA}(h:Po (36::r)):wholeB r false=true:=by
 obtain⟨_,a⟩:=h;unfold nextN at a;simp only[show letterB 36=false by decide,C8,if_false,if_true]at a;split at a
 .rename_i q;have e:wordN r=r.length:=by simpa using a
  unfold wholeB;rw[e];have:r≠[]:=λe=>by rw[e]at q;simp[wordN]at q
  simp[this]
 .simp at a
theorem Mj{s:bA}{b:Bool}(h:wholeB s b=true):∀c∈s,letterB c=true\/digitB c=true:=by
 unfold wholeB at h;simp only[A3,decide_eq_true_eq]at h;obtain⟨⟨f,a⟩,_⟩:=h;have k:0<wordN s:=by rw[a];exact B9.2 f
 obtain⟨c,r,_,_,g,_⟩:=uK k;intro d j;obtain⟨i,e,rfl⟩:=C6.1 j;have:=runP_all (p:=λc=>letterB c||digitB c) e (by rw[<-g,a];exact e);simpa using this
theorem Ig{c:UInt8}:∀{a:bA} (b:bA),c∉a->cutAt c (a++c::b)=some (a,b)
 |[],b,_=>by simp[cutAt]
 |d::a,b,h=>by
  have f:d≠c:=λe=>h (by rw[e];exact C0 ..);rw[B6,cutAt,if_neg f,Ig b λq=>h (A6 _ q)];rfl
theorem FX{a b:bA}(c:wholeB a true=true)(d:wholeB b true=true):fieldB (a++46::b)=true:=by
 unfold fieldB;rw[Ig b λh=>by rcases Mj c _ h with q|q<;>exact absurd q bF];simp[c,d]
def Rt(n:Nat)(cls:Int->Bool)(x:PS->Nd×PS):Prop:=∀p,p.l.length<n->bT p.l->(x p).2.l.length<=p.l.length/\bT (x p).2.l/\((x p).2.e=0->rightN (x p).1=true/\cls (x p).1.kind=true)
theorem pZ{p:PS}{e:Int}:(p.fail e).l=p.l:=by unfold PS.fail;split<;>rfl
theorem Ak{p:PS}{e:Int}(h:bT p.l):bT (p.fail e).l:=by rw[pZ];exact h
theorem dJ{p:PS}(h:bT p.l):bT p.skip.l:=λt a=>h t (List.mem_of_mem_tail a)
theorem eN{p:PS}:p.skip.l.length<=p.l.length:=by simp[PS.skip]
theorem rQ{p:PS}(h:p.peek≠[]):p.skip.l.length+1=p.l.length:=by
 unfold PS.peek at h;split at h
 .exact absurd rfl h
 .unfold PS.skip;cases e:p.l with
  |nil=>rw[e]at h;exact absurd rfl h
  |cons t r=>rfl
theorem gQ{p:PS}{s:bA}(h:p.is s=true):p.skip.l.length+1=p.l.length:=by
 unfold PS.is at h;simp only[A3,decide_eq_true_eq]at h;exact rQ (by rw[h.2];exact h.1)
theorem cE{p:PS}{s:bA}(h:bT p.l):(p.need s).l.length<=p.l.length/\bT (p.need s).l:=by
 unfold PS.need;split
 .exact⟨eN,dJ h⟩
 .exact⟨by rw[pZ];exact A5 _,Ak h⟩
theorem uL{p:PS}(h:bT p.l)(a:p.peek≠[]):Po p.peek:=by
 unfold PS.peek at a|-;split
 .rename_i q;rw[if_pos q]at a;exact absurd rfl a
 .rename_i q;rw[if_neg q]at a;cases e:p.l with
  |nil=>rw[e]at a;exact absurd rfl a
  |cons t r=>exact h t (by rw[e];exact C0 ..)
theorem dE{p:PS}(h:bT p.l):(nameP p).2.l.length<=p.l.length/\bT (nameP p).2.l/\((nameP p).2.e=0->wholeB (nameP p).1 true=true):=by
 unfold nameP;split
 .rename_i q;refine⟨eN,dJ h,λ_=>Yu (uL h λe=>?_) q⟩;rw[e]at q;cases q
 .exact⟨by rw[pZ];exact A5 _,Ak h,λa=>absurd a (fail_e bF)⟩
theorem eS{p:PS}(h:bT p.l):(localP p).2.l.length<=p.l.length/\bT (localP p).2.l/\((localP p).2.e=0->wholeB (localP p).1 false=true):=by
 unfold localP;split
 .rename_i r q;refine⟨eN,dJ h,λ_=>Uu ?_⟩;rw[<-q];exact uL h (by rw[q];simp)
 .exact⟨by rw[pZ];exact A5 _,Ak h,λa=>absurd a (fail_e bF)⟩
theorem fE{k:Int}{p:PS}(h:bT p.l):(numeralP k p).2.l.length<=p.l.length/\bT (numeralP k p).2.l/\((numeralP k p).2.e=0->loAt k<=(numeralP k p).1/\(numeralP k p).1<=hiAt k):=by
 have a:∀e:Int,e≠0->(p.fail e).l.length<=p.l.length/\bT (p.fail e).l/\((p.fail e).e=0->loAt k<=0/\0<=hiAt k):=λe q=>⟨by rw[pZ];exact A5 _,Ak h,λb=>absurd b (fail_e q)⟩;unfold numeralP;split
 .exact a 2 bF
 .split
  .split
   .exact a 5 bF
   .rename_i q;exact⟨eN,dJ h,λ_=>⟨by simp only;omega,by simp only;omega⟩⟩
  .exact a 2 bF
theorem qK{p:PS}(h:bT p.l):(numberP p).2.l.length<=p.l.length/\bT (numberP p).2.l/\((numberP p).2.e=0-> -999<=(numberP p).1/\(numberP p).1<=999):=by
 have f:loAt 0= -999:=rfl;have e:hiAt 0=999:=rfl;unfold numberP;split
 .obtain⟨a,b,c⟩:=fE (k:=0) (dJ h);exact⟨C9 a eN,b,λd=>by have:=c d;simp only;omega⟩
 .obtain⟨a,b,c⟩:=fE (k:=0) h;exact⟨a,b,λd=>by have:=c d;omega⟩
theorem mX(n:Nat):Rt n isPlaceK placeP:=λp _ h=>by
 obtain⟨b,c,d⟩:=dE h;unfold placeP;split
 .obtain⟨e,f,g⟩:=dE (dJ c);refine⟨C9 e (C9 eN b),f,λa=>⟨?_,rfl⟩⟩;have i:=d (nameP_stk (nameP p).2.skip a);simp[rightN,rightL,shapedB,shapedK,kidsB,wordedB,wordedK,loAt,hiAt,boundsL,textB,FX i (g a)]
 .refine⟨b,c,λa=>⟨?_,rfl⟩⟩;simp[rightN,rightL,shapedB,shapedK,kidsB,wordedB,wordedK,loAt,hiAt,boundsL,textB,d a]
theorem Ih(lv:Int)(s:bA): -1<=opI lv s/\opI lv s<=5:=by
 unfold opI;split
 .rename_i i q;have:=C7.1 (B0 q);omega
 .omega
theorem Al{lv:Int}{p:PS}(h:bT p.l):(opP lv p).2.l.length<=p.l.length/\bT (opP lv p).2.l:=by
 unfold opP;simp only;split
 .exact⟨eN,dJ h⟩
 .exact⟨A5 _,h⟩
theorem CV{k:Int}{n m:Nd}(d:26<=k)(e:k<=31)(b:rightN n=true/\isExprK n.kind=true)(a:rightN m=true/\isExprK m.kind=true):rightN (.mk k [] 0 [n,m])=true/\isExprK (Nd.mk k [] 0 [n,m]).kind=true:=by
 have c:k=26\/k=27\/k=28\/k=29\/k=30\/k=31:=aE;rcases c with rfl|rfl|rfl|rfl|rfl|rfl<;>exact⟨by simp[rightN,rightL,shapedB,shapedK,kidsB,wordedB,wordedK,loAt,hiAt,boundsL,textB,b.1,a.1,b.2,a.2],rfl⟩
theorem Ii{m:Nat}{lv:Int}{x:PS->Nd×PS}(c:Rt m isExprK x):∀(f:Nat) (n:Nd) (p:PS),p.l.length<m->bT p.l->(p.e=0->rightN n=true/\isExprK n.kind=true)->
 (chainF lv x f n p).2.l.length<=p.l.length/\bT (chainF lv x f n p).2.l/\((chainF lv x f n p).2.e=0->rightN (chainF lv x f n p).1=true/\isExprK (chainF lv x f n p).1.kind=true)
 |0,_,_,_,h,hn=>⟨A5 _,h,hn⟩
 |f+1,n,p,hl,h,hn=>by
  unfold chainF;split
  .exact⟨A5 _,h,hn⟩
  .rename_i q;have b:p.e=0:=by simpa using q
   obtain⟨d,a⟩:=Al (lv:=lv) h;split
   .exact⟨d,a,λ_=>hn b⟩
   .rename_i q2;have j:=Ih lv p.peek;have k:0<=(opP lv p).1/\(opP lv p).1<=5:=⟨aE,j.2⟩;obtain⟨r,e,g⟩:=c _ aE a;obtain⟨s,l,o⟩:=Ii c f (.mk (26+(opP lv p).1) [] 0 [n,(x (opP lv p).2).1]) _ aE e λi=>CV aE aE (hn b) (g i);exact⟨aE,l,o⟩
theorem CW{m:Nat}{lv:Int}{x:PS->Nd×PS}(a:Rt m isExprK x):Rt m isExprK (chainP lv x):=λp d h=>by
 obtain⟨g,b,c⟩:=a p d h;obtain⟨i,e,f⟩:=Ii (lv:=lv) a ((x p).2.l.length+1) _ _ aE b c;exact⟨by unfold chainP;omega,e,f⟩
theorem rR{k:Int}(h:isPlaceK k=true):isExprK k=true:=by
 unfold isPlaceK at h;simp only[D1,decide_eq_true_eq]at h;rcases h with rfl|rfl<;>rfl
theorem FY{m:Nat}{j:PS->Nd×PS}(o:Rt m isExprK j):Rt (m+1) isExprK (factP j):=λp n h=>by
 have a:=mX (m+1) p n h;have c:(placeP p).2.l.length<=p.l.length/\bT (placeP p).2.l/\((placeP p).2.e=0->rightN (placeP p).1=true/\isExprK (placeP p).1.kind=true):=⟨a.1,a.2.1,λb=>⟨(a.2.2 b).1,rR (a.2.2 b).2⟩⟩;unfold factP;split
 .rename_i q;have t:=gQ q;obtain⟨i,d,e⟩:=o p.skip aE (dJ h);obtain⟨r,l⟩:=cE (s:=[41]) d;exact⟨by simp only;omega,l,λb=>e (need_e b).2⟩
 .split
  .exact⟨eN,dJ h,λ_=>⟨by show rightN (Nd.mk 36 [] 0 [])=true;decide,rfl⟩⟩
  .split
   .split
    .obtain⟨i,d,e⟩:=fE (k:=32) h;refine⟨i,d,λb=>⟨?_,rfl⟩⟩;have:=e b;have g:loAt 32=0:=rfl;have f:hiAt 32=999:=rfl;rw[g,f]at this;simp[rightN,rightL,shapedB,shapedK,kidsB,wordedB,wordedK,g,f,textB,this]
    .split
     .obtain⟨i,d,e⟩:=eS h;refine⟨i,d,λb=>⟨?_,rfl⟩⟩;simp[rightN,rightL,shapedB,shapedK,kidsB,wordedB,wordedK,loAt,hiAt,boundsL,textB,e b]
     .exact c
   .exact c
theorem JZ{m:Nat}{a:PS->Nd×PS}(b:Rt m isExprK a):Rt (m+1) isExprK (sumP a):=CW (CW (FY b))
theorem Yv{m:Nat}{a:PS->Nd×PS}(n:Stk a)(e:Rt m isExprK a):Rt (m+1) isExprK (exprB a):=λp j h=>by
 obtain⟨r,f,d⟩:=JZ e p j h;obtain⟨o,c⟩:=Al (lv:=1) f;unfold exprB;simp only;split
 .rename_i q;have k:=Ih 1 (sumP a p).2.peek;have l:(opP 1 (sumP a p).2).1<=5:=k.2;obtain⟨s,g,i⟩:=JZ e _ aE c;exact⟨by simp only;omega,g,λb=>CV aE aE (d (opP_stk 1 _ (sumP_stk n _ b))) (i b)⟩
 .exact⟨by simp only;omega,c,λb=>d (opP_stk 1 _ b)⟩
theorem BX:∀f,Rt f isExprK (exprP false f)
 |0=>λp h=>aE
 |f+1=>λp a h=>by
  unfold exprP;rw[if_neg bC];exact Yv (exprP_stk false f) (BX f) p a h
theorem BY(n:Nat):Rt n isExprK λq=>exprP false (q.l.length+1) q:=λp _ h=>BX (p.l.length+1) p aE h
theorem Ij{m:Nat}{c:PS->Nd×PS}(e:Stk c)(a:Rt m isStmtK c):∀(f:Nat) (b:List Nd) (p:PS),p.l.length<m->bT p.l->(p.e=0->∀x∈b,rightN x=true/\isStmtK x.kind=true)->
 (stmtsF c f b p).2.l.length<=p.l.length/\bT (stmtsF c f b p).2.l/\((stmtsF c f b p).2.e=0->∀x∈(stmtsF c f b p).1,rightN x=true/\isStmtK x.kind=true)
 |0,_,_,_,h,hn=>⟨A5 _,h,hn⟩
 |f+1,b,p,hl,h,hn=>by
  unfold stmtsF;split
  .exact⟨A5 _,h,hn⟩
  .obtain⟨l,g,i⟩:=a p hl h;obtain⟨n,j,k⟩:=Ij e a f (b++[(c p).1]) _ aE g λd x a=>by
    rcases D2.1 a with a|a
    .exact hn (e p d) x a
    .rw[A4.1 a];exact i d
   exact⟨aE,j,k⟩
theorem yO{b:List Nd}(h:∀x∈b,rightN x=true/\isStmtK x.kind=true):rightN (.mk 8 [] 0 b)=true:=
 right_mk.2 ⟨bF,bF,B7.2 λx a=>(h x a).2,bF,bF,rfl,λx a=>(h x a).1⟩
theorem qZ{m:Nat}{a:PS->Nd×PS}(d:Stk a)(e:Rt m isStmtK a):Rt m isBlockK (blockB a):=λp j h=>by
 obtain⟨i,b⟩:=cE (s:=[123]) h;obtain⟨k,f,g⟩:=Ij d e ((p.need [123]).l.length+1) [] (p.need [123]) aE b (λ_ x h=>by cases h);obtain⟨l,q1⟩:=cE (s:=[125]) f;unfold blockB;exact⟨by simp only;omega,q1,λc=>⟨yO (g (need_e c).2),rfl⟩⟩
theorem Bg{s:bA}(h:12<kindP s):13<=kindP s/\kindP s<=25:=by
 unfold kindP wordI at h|-;split
 .rename_i q;rw[if_pos q]at h;omega
 .rename_i q;rw[if_neg q]at h;split
  .rename_i i e;rw[e]at h;have:=C7.1 (B0 e);simp only at h;omega
  .rename_i e;rw[e]at h;simp only at h;omega
theorem Sk{m:Nat}{l:PS->Nd×PS}(u:Stk l)(e:Rt m isExprK l){k:Int}(v:13<=k/\k<=25):Rt m isStmtK (cmdP l k):=λp w h=>by
 have r:(if k=19\/k=20 then localP p else if k=21\/k=25\/k=24 then([],p)else nameP p).2.l.length<=p.l.length/\bT (if k=19\/k=20 then localP p else if k=21\/k=25\/k=24 then([],p)else nameP p).2.l/\
  ((if k=19\/k=20 then localP p else if k=21\/k=25\/k=24 then([],p)else nameP p).2.e=0->textB k (if k=19\/k=20 then localP p else if k=21\/k=25\/k=24 then([],p)else nameP p).1=true):=by
  split
  .rename_i q;obtain⟨f,d,b⟩:=eS h;exact⟨f,d,λc=>by rcases q with rfl|rfl<;>simp[textB,b c]⟩
  .split
   .rename_i q;exact⟨A5 _,h,λ_=>by rcases q with rfl|rfl|rfl<;>rfl⟩
   .rename_i q1 q2;obtain⟨f,d,b⟩:=dE h;exact⟨f,d,λc=>by unfold textB;rw[if_neg aE,if_neg aE,if_neg aE];exact b c⟩
 unfold cmdP;generalize(if k=19\/k=20 then localP p else if k=21\/k=25\/k=24 then([],p)else nameP p)=a at r;obtain⟨s,i,j⟩:=r;simp only;have o:∀{n:Int},(k=19\/k=21\/k=25->loAt k<=n/\n<=hiAt k)->(¬(k=19\/k=21\/k=25)->n=0)->loAt k<=n/\n<=hiAt k:=λ{n} d b=>by
  by_cases q:k=19\/k=21\/k=25
  .exact d q
  .rw[b q];have:k=13\/k=14\/k=15\/k=16\/k=17\/k=18\/k=20\/k=22\/k=23\/k=24:=aE;rcases this with rfl|rfl|rfl|rfl|rfl|rfl|rfl|rfl|rfl|rfl<;>decide
 have mk:∀{t:bA} {n:Int} {g:List Nd},textB k t=true->loAt k<=n/\n<=hiAt k->shapedK k g=true->(∀x∈g,rightN x=true)->rightN (.mk k t n g)=true/\isStmtK (Nd.mk k t n g).kind=true:=λ{t n g} d b h3 h4=>by
  exact⟨right_mk.2 ⟨aE,aE,h3,b.1,b.2,d,h4⟩,show isStmtK k=true from isStmtK_iff.2 aE⟩
 split
 .rename_i q;obtain⟨f,d,b⟩:=e a.2 aE i;refine⟨by simp only;omega,d,λc=>mk (j (u _ c)) (o aE λ_=>rfl) ?_ λx e=>by rw[A4.1 e];exact(b c).1⟩;rcases q with rfl|rfl|rfl<;>simp[shapedK,kidsB,(b c).2]
 .split
  .rename_i q;obtain⟨f,d,b⟩:=eS i;refine⟨by simp only;omega,d,λc=>mk (j (localP_stk _ c)) (o aE λ_=>rfl) ?_ λx e=>?_⟩
   .rcases q with rfl|rfl<;>simp[shapedK,kidsB,isLocalK]
   .rw[A4.1 e];simp[rightN,rightL,shapedB,shapedK,kidsB,wordedB,wordedK,loAt,hiAt,boundsL,textB,b c]
  .split
   .rename_i q;obtain⟨f,d,b⟩:=fE (k:=k) i;refine⟨by simp only;omega,d,λc=>mk (j (numeralP_stk _ _ c)) (b c) ?_ λx e=>by cases e⟩;rcases q with rfl|rfl|rfl<;>rfl
   .rename_i q1 q2 q3;refine⟨s,i,λc=>mk (j c) (o (λq=>absurd q q3) λ_=>rfl) ?_ λx e=>by cases e⟩;have:k=13\/k=14\/k=17\/k=18\/k=20:=aE;rcases this with rfl|rfl|rfl|rfl|rfl<;>rfl
theorem Yw{m:Nat}{j n:PS->Nd×PS}(v:Stk j)(w:Stk n)(o:Rt (m+1) isExprK j)(y:Rt m isBlockK n):Rt (m+1) isStmtK (stmtB j n):=λp B h=>by
 unfold stmtB;simp only;split
 .rename_i q;have C:p.skip.l.length+1=p.l.length:=rQ λe=>by rw[e]at q;simp[kindP]at q
  obtain⟨r,i,b⟩:=o p.skip aE (dJ h);obtain⟨t,f,l⟩:=y (j p.skip).2 aE i;split
  .rename_i q2;have A:=gQ q2.2;obtain⟨x,k,g⟩:=y (n (j p.skip).2).2.skip aE (dJ f);refine⟨by simp only;omega,k,λa=>?_⟩;have c:=w _ a;have d:=w (j p.skip).2 c;rw[q2.1];exact⟨by simp[rightN,rightL,shapedB,shapedK,kidsB,wordedB,wordedK,loAt,hiAt,boundsL,textB,(b d).1,(b d).2,(l c).1,(l c).2,(g a).1,(g a).2],rfl⟩
  .refine⟨by simp only;omega,f,λa=>?_⟩;have d:=w _ a;rcases q with q|q<;>rw[q]<;>exact⟨by simp[rightN,rightL,shapedB,shapedK,kidsB,wordedB,wordedK,loAt,hiAt,boundsL,textB,(b d).1,(b d).2,(l a).1,(l a).2],rfl⟩
 .split
  .rename_i q;obtain⟨r,i,b⟩:=Sk v o (Bg q) p.skip (by have:=eN (p:=p);omega) (dJ h);obtain⟨t,f⟩:=cE (s:=[59]) i;have:=eN (p:=p);exact⟨by simp only;omega,f,λa=>b (need_e a).2⟩
  .split
   .obtain⟨r,i,b⟩:=eS h;obtain⟨t,f⟩:=cE (s:=[61]) i;obtain⟨x,k,g⟩:=o ((localP p).2.need [61]) aE f;obtain⟨z,u⟩:=cE (s:=[59]) k;refine⟨by simp only;omega,u,λa=>?_⟩;have c:=(need_e a).2;have d:=(need_e (v _ c)).2;exact⟨by simp[rightN,rightL,shapedB,shapedK,kidsB,wordedB,wordedK,loAt,hiAt,boundsL,textB,b d,(g c).1,(g c).2],rfl⟩
   .obtain⟨r,i,b⟩:=mX (m+1) p B h;obtain⟨t,f⟩:=cE (s:=[61]) i;obtain⟨x,k,g⟩:=o ((placeP p).2.need [61]) aE f;obtain⟨z,u⟩:=cE (s:=[59]) k;refine⟨by simp only;omega,u,λa=>?_⟩;have c:=(need_e a).2;have d:=(need_e (v _ c)).2;exact⟨by simp[rightN,rightL,shapedB,shapedK,kidsB,wordedB,wordedK,loAt,hiAt,boundsL,textB,(b d).1,(b d).2,(g c).1,(g c).2],rfl⟩
theorem rU:∀f,Rt f isStmtK (stmtP false f)
 |0=>λp h=>aE
 |f+1=>λp a h=>Yw (exprO_stk false) (blockB_stk (stmtP_stk false f)) (BY (f+1)) (qZ (stmtP_stk false f) (rU f)) p a h
theorem Ik:∀(f:Nat) (a:List Nd) (p:PS),bT p.l->(p.e=0->∀x∈a,rightN x=true/\isItemK x.kind=true)->
 (itemsF f a p).2.l.length<=p.l.length/\bT (itemsF f a p).2.l/\((itemsF f a p).2.e=0->∀x∈(itemsF f a p).1,rightN x=true/\isItemK x.kind=true)
 |0,_,_,h,hn=>⟨A5 _,h,hn⟩
 |f+1,a,p,h,hn=>by
  unfold itemsF;split
  .exact⟨A5 _,h,hn⟩
  .obtain⟨r,e,g⟩:=dE h;obtain⟨t,i⟩:=cE (s:=[61]) e;obtain⟨u,j,k⟩:=qK i;obtain⟨v,l⟩:=cE (s:=[59]) j;obtain⟨w,o,q⟩:=Ik f (a++[.mk 7 (nameP p).1 (numberP ((nameP p).2.need [61])).1 []]) _ l λn x b=>by
    have d:=(need_e n).2;have c:=(need_e (numberP_stk _ d)).2;have m:=nameP_stk _ c;rcases D2.1 b with b|b
    .exact hn m x b
    .rw[A4.1 b];have:=k d;exact⟨by simp[rightN,rightL,shapedB,shapedK,kidsB,wordedB,wordedK,loAt,hiAt,boundsL,textB,g c,this],rfl⟩
   exact⟨by simp only;omega,o,q⟩
theorem FZ{p:PS}(h:bT p.l)(a:(defP false p).2.e=0):rightN (defP false p).1=true/\0<=(defP false p).1.kind/\(defP false p).1.kind<=6:=by
 unfold defP at a|-;simp only at a|-;generalize y:defKind p.peek=k at a|-;have z:k<=6:=by
  rw[<-y];unfold defKind;split
  .omega
  .split
   .rename_i i e;have:=C7.1 (B0 e);omega
   .omega
 obtain⟨A,l,f⟩:=dE (dJ h);by_cases q:k<0
 .rw[if_pos q]at a;exact absurd a (fail_e bF)
 .rw[if_neg q]at a|-;by_cases q1:k=5\/k=6
  .rw[if_pos q1]at a|-;obtain⟨r,m,t⟩:=qZ (stmtP_stk false ((nameP p.skip).2.l.length+1)) (rU ((nameP p.skip).2.l.length+1)) (nameP p.skip).2 aE l;have w:=blockB_stk (stmtP_stk false ((nameP p.skip).2.l.length+1)) _ a;refine⟨?_,by simp only[eJ];omega,by simp only[eJ];omega⟩;rcases q1 with rfl|rfl<;>simp[rightN,rightL,shapedB,shapedK,kidsB,wordedB,wordedK,loAt,hiAt,boundsL,textB,f w,(t a).1,(t a).2,blockP]
  .rw[if_neg q1]at a|-;by_cases q2:k=1
   .rw[if_pos q2]at a|-;obtain⟨r,m⟩:=cE (s:=[123]) l;obtain⟨u,v,d⟩:=Ik (((nameP p.skip).2.need [123]).l.length+1) [] _ m (λ_ x h=>by cases h);have b:=(need_e a).2;have c:=(need_e (itemsF_stk _ _ _ b)).2;refine⟨?_,by simp only[eJ];omega,by simp only[eJ];omega⟩;subst q2;exact right_mk.2 ⟨bF,bF,B7.2 λx n=>(d b x n).2,bF,bF,f c,λx n=>(d b x n).1⟩
   .rw[if_neg q2]at a|-;by_cases q3:k=0
    .rw[if_pos q3]at a|-;obtain⟨r,m⟩:=cE (s:=[61]) l;obtain⟨u,v,d⟩:=qK m;have b:=(need_e a).2;have c:=(need_e (numberP_stk _ b)).2;have:=d b;subst q3;exact⟨by simp[rightN,rightL,shapedB,shapedK,kidsB,wordedB,wordedK,loAt,hiAt,boundsL,textB,f c,this],bC,bC⟩
    .rw[if_neg q3]at a|-;by_cases o:k=2
     .rw[if_pos o]at a|-;obtain⟨u,v,d⟩:=fE (k:=2) l;have b:=(need_e a).2;have c:=numeralP_stk 2 _ b;have:=d b;have j:loAt 2=0:=rfl;have g:hiAt 2=3:=rfl;rw[j,g]at this;subst o;exact⟨by simp[rightN,rightL,shapedB,shapedK,kidsB,wordedB,wordedK,j,g,textB,f c,this],bC,bC⟩
     .rw[if_neg o]at a|-;have c:=(need_e a).2;have:k=3\/k=4:=aE;rcases this with rfl|rfl<;>exact⟨by simp[rightN,rightL,shapedB,shapedK,kidsB,wordedB,wordedK,loAt,hiAt,boundsL,textB,f c],bC,bC⟩
def lY(s:bA):Nd×Int×Int:=
 if 1024<s.length then(zeroNd,1024,4)else
 let t:=scanS s
 let r:=defP true ⟨t.1,0⟩
 match r.2.l with
 |x::_=>(zeroNd,x.at_,if r.2.e≠0 then r.2.e else 2)
 |[]=>if r.2.e≠0\/t.2<s.length then(zeroNd,t.2,2)else if 24<depthN r.1\/1024<(textT r.1).length then(zeroNd,0,4)else(r.1,0,0)
theorem Yx(s:bA):lY s=parseS s:=by
 unfold lY parseS;split
 .rfl
 .simp only;obtain⟨d,f⟩:=defP_rl ⟨(scanS s).1,0⟩;rw[<-d];cases e:(defP false ⟨(scanS s).1,0⟩).2.l with
  |cons x t=>rfl
  |nil=>
   simp only;by_cases q:(defP false ⟨(scanS s).1,0⟩).2.e≠0\/(scanS s).2<s.length
   .rw[if_pos q,if_pos q]
   .rw[if_neg q,if_neg q];have c:(defP false ⟨(scanS s).1,0⟩).2.e=0:=by
     rcases Int.lt_trichotomy (defP false ⟨(scanS s).1,0⟩).2.e 0 with h|h|h
     .exact absurd (Or.inl aE) q
     .exact h
     .exact absurd (Or.inl aE) q
    rw[<-f c];obtain⟨i,j,k⟩:=FZ (p:=⟨(scanS s).1,0⟩) (iW _ _ _) c;generalize(defP false ⟨(scanS s).1,0⟩).1=x at*;have g:validB x=(decide (depthN x<=24)&&decide ((textT x).length<=1024)):=by
     unfold validB;rw[decide_eq_true j,decide_eq_true k,i];simp
    rw[g];by_cases a:depthN x<=24
    .by_cases b:(textT x).length<=1024
     .rw[if_neg aE,if_pos (by simp[a,b])]
     .rw[if_pos aE,if_neg (by simp[b])]
    .rw[if_pos aE,if_neg (by simp[a])]
def aC7(s:bA):Bool:=match s with|[]=>true|c::_=> !letterB c&& !digitB c&&decide (c≠61)
theorem Mk{p:UInt8->Bool}:∀{t:bA} (s:bA),(∀c∈t,p c=true)->runP p (t++s)=t.length+runP p s
 |[],s,_=>bC
 |c::t,s,h=>by
  rw[B6,runP,if_pos (h c (C0 ..)),Mk s λd a=>h d (A6 _ a),A1];omega
theorem Uv{p:UInt8->Bool}{t:bA}(h:runP p t=t.length):∀c∈t,p c=true:=λc a=>by
 obtain⟨i,b,rfl⟩:=C6.1 a;exact runP_all b aE
theorem Yy{p:UInt8->Bool}(b:∀c,p c=true->letterB c=true\/digitB c=true){s:bA}(a:aC7 s=true):runP p s=0:=by
 cases s with
 |nil=>rfl
 |cons c r=>
  simp only[aC7,A3,Bool.not_eq_true']at a;rw[runP,if_neg];intro h;rcases b c h with q|q
  .rw[q]at a;simp at a
  .rw[q]at a;simp at a
theorem Uw{t s:bA}(h:wordN t=t.length)(d:0<wordN t)(i:aC7 s=true):wordN (t++s)=t.length:=by
 obtain⟨c,r,rfl,e,f,j⟩:=uK d;have a:=Uv (p:=λc=>letterB c||digitB c) (by rw[<-f];exact h);have b:runP (λc=>letterB c||digitB c) (c::r++s)=(c::r).length:=by
  rw[Mk s a,Yy (λc g=>by simpa using g) i,Nat.add_zero]
 rw[B6]at b|-;unfold wordN;simp only[e,if_true];rw[b,if_pos aE]
theorem Ga{c:UInt8}:∀{t a b:bA},cutAt c t=some (a,b)->t=a++c::b
 |[],_,_,h=>by simp[cutAt]at h
 |d::r,a,b,h=>by
  unfold cutAt at h;split at h
  .rename_i e;simp only[Option.some.injEq,Prod.mk.injEq]at h;rw[<-h.1,<-h.2,e];rfl
  .cases q:cutAt c r with
   |none=>rw[q]at h;cases h
   |some p=>
    obtain⟨f,g⟩:=p;rw[q]at h;simp only[D3,Option.some.injEq,Prod.mk.injEq]at h;rw[<-h.1,<-h.2,Ga q];rfl
theorem vX{x:Nd}(m:rightN x=true)(l:isExprK x.kind=true):
 (x.kind=32/\0<=x.n/\x.n<=999/\x=.mk 32 [] x.n [])\/(x=.mk 33 x.text 0 []/\wholeB x.text false=true)\/x=.mk 36 [] 0 []\/(x=.mk 34 x.text 0 []/\wholeB x.text true=true)\/(x=.mk 35 x.text 0 []/\fieldB x.text=true)\/
   ∃k a b,26<=k/\k<=31/\x=.mk k [] 0 [a,b]/\rightN a=true/\isExprK a.kind=true/\rightN b=true/\isExprK b.kind=true:=by
 obtain⟨k,t,n,f⟩:=x;have l:26<=k/\k<=36:=isExprK_iff.1 l;obtain⟨_,_,g,p,q,d,j⟩:=right_mk.1 m;have none:shapedK k f=kidsB f []->f=[]:=λe=>by
  rw[e]at g;cases f with
  |nil=>rfl
  |cons _ _=>cases g
 by_cases o:k<=31
 .right;right;right;right;right;have c:kidsB f [isExprK,isExprK]=true:=by
   unfold shapedK at g;rw[if_neg aE,if_neg aE,if_neg aE,if_neg aE,if_neg aE,if_neg aE,if_neg aE,if_neg aE,if_pos aE]at g;exact g
  have i:loAt k=0/\hiAt k=0:=by
   have:k=26\/k=27\/k=28\/k=29\/k=30\/k=31:=aE;rcases this with rfl|rfl|rfl|rfl|rfl|rfl<;>exact⟨rfl,rfl⟩
  have h:t=[]:=by
   unfold textB at d;rw[if_neg aE,if_neg aE,if_pos aE]at d;simpa using d
  match f,c,j with
  |[a,b],c,j=>
   simp only[kidsB,Bool.and_true,A3]at c;exact⟨k,a,b,aE,aE,by rw[h,show n=0 by omega],j a bC,c.1,j b bC,c.2⟩
  |[],c,_=>cases c
  |[_],c,_=>simp[kidsB]at c
  |_::_::_::_,c,_=>simp[kidsB]at c
 .have:k=32\/k=33\/k=34\/k=35\/k=36:=aE;rcases this with rfl|rfl|rfl|rfl|rfl
  .left;have e:=none rfl;have i:loAt 32=0/\hiAt 32=999:=⟨rfl,rfl⟩;have h:t=[]:=by simpa [textB]using d
   subst e;subst h;exact⟨rfl,by simp only[Aj];omega,by simp only[Aj];omega,rfl⟩
  .right;left;have e:=none rfl;have i:loAt 33=0/\hiAt 33=0:=⟨rfl,rfl⟩;subst e;exact⟨by rw[show n=0 by omega];rfl,by simpa [textB]using d⟩
  .right;right;right;left;have e:=none rfl;have i:loAt 34=0/\hiAt 34=0:=⟨rfl,rfl⟩;subst e;exact⟨by rw[show n=0 by omega];rfl,by simpa [textB]using d⟩
  .right;right;right;right;left;have e:=none rfl;have i:loAt 35=0/\hiAt 35=0:=⟨rfl,rfl⟩;subst e;exact⟨by rw[show n=0 by omega];rfl,by simpa [textB]using d⟩
  .right;right;left;have e:=none rfl;have i:loAt 36=0/\hiAt 36=0:=⟨rfl,rfl⟩;have h:t=[]:=by simpa [textB]using d
   subst e;subst h;rw[show n=0 by omega]
theorem Il{k:Int}{a b:Nd}(c:26<=k)(d:k<=31):exprT (.mk k [] 0 [a,b])=paren (decide (lvlN a.kind<(if levelAt k=1 then 2 else levelAt k))) (exprT a)++32::(signAt k++32::paren (decide (lvlN b.kind<levelAt k+1)) (exprT b)):=by
 rw[exprT,if_neg aE,if_neg aE,if_neg aE,if_neg aE]
theorem Ux{k:Int}(c:26<=k)(d:k<=31):opI (levelAt k) (signAt k)=k-26/\(levelAt k=1\/levelAt k=2\/levelAt k=3)/\(∀a:Int,(a=1\/a=2\/a=3)->a≠levelAt k->opI a (signAt k)<0)/\signAt k≠[46]/\lvlN k=levelAt k:=by
 have:k=26\/k=27\/k=28\/k=29\/k=30\/k=31:=aE;rcases this with rfl|rfl|rfl|rfl|rfl|rfl<;>exact⟨bF,bF,λa h b=>by rcases h with rfl|rfl|rfl<;>first|exact absurd rfl b|decide,bF,bF⟩
theorem Im{k:Int}(t:bA)(n:Int)(a:List Nd)(h:13<=k):stmtT (.mk k t n a)=wordAt k++midT k t++withN n++withE a++[59]:=by
 unfold stmtT;rw[if_neg aE,if_neg aE,if_neg aE]
def jY(x:Nd):Prop:=∃ks,x=.mk 8 [] 0 ks/\∀y∈ks,rightN y=true/\isStmtK y.kind=true
theorem iK{x:Nd}(d:rightN x=true)(a:isBlockK x.kind=true):jY x:=by
 obtain⟨k,t,n,c⟩:=x;have a:k=8:=of_decide_eq_true (show decide (k=8)=true from a);subst a;obtain⟨_,_,e,i,j,g,a⟩:=right_mk.1 d;have h:loAt 8=0/\hiAt 8=0:=⟨rfl,rfl⟩;have f:t=[]:=by simpa [textB]using g
 refine⟨c,by rw[f,show n=0 by omega],λy b=>⟨a y b,?_⟩⟩;exact B7.1 (show(c.all λy=>isStmtK y.kind)=true from e) y b
def Pp(k:Int)(t:bA)(n:Int)(ks:List Nd):Prop:=
 ((k=13\/k=14\/k=17\/k=18)/\wholeB t true=true/\n=0/\ks=[])\/
 ((k=15\/k=22)/\wholeB t true=true/\n=0/\∃e,ks=[e]/\rightN e=true/\isExprK e.kind=true)\/
 ((k=16\/k=23)/\wholeB t true=true/\n=0/\∃u,ks=[.mk 33 u 0 []]/\wholeB u false=true)\/
 (k=19/\wholeB t false=true/\2<=n/\n<=6/\ks=[])\/(k=20/\wholeB t false=true/\n=0/\ks=[])\/
 ((k=21/\n<=9\/k=25/\n<=99)/\t=[]/\1<=n/\ks=[])\/(k=24/\t=[]/\n=0/\∃e,ks=[e]/\rightN e=true/\isExprK e.kind=true)
theorem pQ{f:Int->Bool}:∀{b:List Nd},kidsB b [f]=true->∃a,b=[a]/\f a.kind=true
 |[a],h=>⟨a,rfl,by simpa [kidsB]using h⟩
 |[],h=>by cases h
 |_::_::_,h=>by simp[kidsB]at h
theorem BZ{f g:Int->Bool}:∀{ks:List Nd},kidsB ks [f,g]=true->∃a b,ks=[a,b]/\f a.kind=true/\g b.kind=true
 |[a,b],h=>⟨a,b,rfl,by simpa [kidsB]using h⟩
 |[],h=>by cases h
 |[_],h=>by simp[kidsB]at h
 |_::_::_::_,h=>by simp[kidsB]at h
theorem Pq{f g e:Int->Bool}:∀{d:List Nd},kidsB d [f,g,e]=true->∃a b c,d=[a,b,c]/\f a.kind=true/\g b.kind=true/\e c.kind=true
 |[a,b,c],h=>⟨a,b,c,rfl,by simpa [kidsB]using h⟩
 |[],h=>by cases h
 |[_],h=>by simp[kidsB]at h
 |[_,_],h=>by simp[kidsB]at h
 |_::_::_::_::_,h=>by simp[kidsB]at h
theorem fZ:∀{a:List Nd},kidsB a []=true->a=[]
 |[],_=>rfl
 |_::_,h=>by cases h
theorem Gb{x:Nd}(y:rightN x=true)(u:isStmtK x.kind=true):
 (∃t e,x=.mk 9 t 0 [e]/\wholeB t false=true/\rightN e=true/\isExprK e.kind=true)\/
 (∃p e,x=.mk 10 [] 0 [p,e]/\rightN p=true/\isPlaceK p.kind=true/\rightN e=true/\isExprK e.kind=true)\/
 (∃k e b,(k=11\/k=12)/\x=.mk k [] 0 [e,b]/\rightN e=true/\isExprK e.kind=true/\rightN b=true/\isBlockK b.kind=true)\/
 (∃e b c,x=.mk 11 [] 0 [e,b,c]/\rightN e=true/\isExprK e.kind=true/\rightN b=true/\isBlockK b.kind=true/\rightN c=true/\isBlockK c.kind=true)\/
 (∃k t n r,13<=k/\k<=25/\x=.mk k t n r/\Pp k t n r):=by
 obtain⟨k,t,n,r⟩:=x;have u:9<=k/\k<=25:=isStmtK_iff.1 u;obtain⟨_,_,i,z,A,l,h⟩:=right_mk.1 y;have o:k=9\/k=10\/k=11\/k=12\/k=13\/k=14\/k=15\/k=16\/k=17\/k=18\/k=19\/k=20\/k=21\/k=22\/k=23\/k=24\/k=25:=aE;rcases o with rfl|rfl|rfl|rfl|rfl|rfl|rfl|rfl|rfl|rfl|rfl|rfl|rfl|rfl|rfl|rfl|rfl
 .obtain⟨e,rfl,j⟩:=pQ (f:=isExprK) i;have m:loAt 9=0/\hiAt 9=0:=⟨rfl,rfl⟩;exact .inl ⟨t,e,by rw[show n=0 by omega],l,h e bC,j⟩
 .obtain⟨p,e,rfl,w,j⟩:=BZ (f:=isPlaceK) (g:=isExprK) i;have m:loAt 10=0/\hiAt 10=0:=⟨rfl,rfl⟩;have q:t=[]:=by simpa [textB]using l
  exact .inr (.inl ⟨p,e,by rw[q,show n=0 by omega],h p bC,w,h e bC,j⟩)
 .have m:loAt 11=0/\hiAt 11=0:=⟨rfl,rfl⟩;have q:t=[]:=by simpa [textB]using l
  have i:(kidsB r [isExprK,isBlockK]||kidsB r [isExprK,isBlockK,isBlockK])=true:=i;rw[D1]at i;rcases i with i|i
  .obtain⟨e,b,rfl,j,s⟩:=BZ i;exact .inr (.inr (.inl ⟨11,e,b,.inl rfl,by rw[q,show n=0 by omega],h e bC,j,h b bC,s⟩))
  .obtain⟨e,b,c,rfl,j,s,v⟩:=Pq i;exact .inr (.inr (.inr (.inl ⟨e,b,c,by rw[q,show n=0 by omega],h e bC,j,h b bC,s,h c bC,v⟩)))
 .have m:loAt 12=0/\hiAt 12=0:=⟨rfl,rfl⟩;have q:t=[]:=by simpa [textB]using l
  obtain⟨e,b,rfl,j,s⟩:=BZ (f:=isExprK) (g:=isBlockK) i;exact .inr (.inr (.inl ⟨12,e,b,.inr rfl,by rw[q,show n=0 by omega],h e bC,j,h b bC,s⟩))
 all_goals refine .inr (.inr (.inr (.inr ⟨_,t,n,r,bF,bF,rfl,?_⟩)))
 .have m:loAt 13=0/\hiAt 13=0:=⟨rfl,rfl⟩;exact .inl ⟨aE,l,aE,fZ i⟩
 .have m:loAt 14=0/\hiAt 14=0:=⟨rfl,rfl⟩;exact .inl ⟨aE,l,aE,fZ i⟩
 .have m:loAt 15=0/\hiAt 15=0:=⟨rfl,rfl⟩;obtain⟨e,rfl,j⟩:=pQ (f:=isExprK) i;exact .inr (.inl ⟨aE,l,aE,e,rfl,h e bC,j⟩)
 .have m:loAt 16=0/\hiAt 16=0:=⟨rfl,rfl⟩;obtain⟨e,rfl,j⟩:=pQ (f:=isLocalK) i;refine .inr (.inr (.inl ⟨aE,l,aE,?_⟩));have d:e.kind=33:=by simpa [isLocalK]using j
  rcases vX (h e bC) (by rw[d];rfl)with⟨g1,_⟩|⟨g1,g2⟩|g1|⟨g1,_⟩|⟨g1,_⟩|⟨k',a,b,g1,g2,g3,_⟩
  .omega
  .exact⟨e.text,by rw[<-g1],g2⟩
  .rw[g1]at d;cases d
  .rw[g1]at d;cases d
  .rw[g1]at d;cases d
  .rw[g3]at d;simp only[eJ]at d;omega
 .have m:loAt 17=0/\hiAt 17=0:=⟨rfl,rfl⟩;exact .inl ⟨aE,l,aE,fZ i⟩
 .have m:loAt 18=0/\hiAt 18=0:=⟨rfl,rfl⟩;exact .inl ⟨aE,l,aE,fZ i⟩
 .have m:loAt 19=2/\hiAt 19=6:=⟨rfl,rfl⟩;exact .inr (.inr (.inr (.inl ⟨rfl,l,aE,aE,fZ i⟩)))
 .have m:loAt 20=0/\hiAt 20=0:=⟨rfl,rfl⟩;exact .inr (.inr (.inr (.inr (.inl ⟨rfl,l,aE,fZ i⟩))))
 .have m:loAt 21=1/\hiAt 21=9:=⟨rfl,rfl⟩;exact .inr (.inr (.inr (.inr (.inr (.inl ⟨.inl ⟨rfl,aE⟩,by simpa [textB]using l,aE,fZ i⟩)))))
 .have m:loAt 22=0/\hiAt 22=0:=⟨rfl,rfl⟩;obtain⟨e,rfl,j⟩:=pQ (f:=isExprK) i;exact .inr (.inl ⟨aE,l,aE,e,rfl,h e bC,j⟩)
 .have m:loAt 23=0/\hiAt 23=0:=⟨rfl,rfl⟩;obtain⟨e,rfl,j⟩:=pQ (f:=isLocalK) i;refine .inr (.inr (.inl ⟨aE,l,aE,?_⟩));have d:e.kind=33:=by simpa [isLocalK]using j
  rcases vX (h e bC) (by rw[d];rfl)with⟨g1,_⟩|⟨g1,g2⟩|g1|⟨g1,_⟩|⟨g1,_⟩|⟨k',a,b,g1,g2,g3,_⟩
  .omega
  .exact⟨e.text,by rw[<-g1],g2⟩
  .rw[g1]at d;cases d
  .rw[g1]at d;cases d
  .rw[g1]at d;cases d
  .rw[g3]at d;simp only[eJ]at d;omega
 .have m:loAt 24=0/\hiAt 24=0:=⟨rfl,rfl⟩;obtain⟨e,rfl,j⟩:=pQ (f:=isExprK) i;exact .inr (.inr (.inr (.inr (.inr (.inr ⟨rfl,by simpa [textB]using l,aE,e,rfl,h e bC,j⟩)))))
 .have m:loAt 25=1/\hiAt 25=99:=⟨rfl,rfl⟩;exact .inr (.inr (.inr (.inr (.inr (.inl ⟨.inr ⟨rfl,aE⟩,by simpa [textB]using l,aE,fZ i⟩)))))
theorem Am{k:Int}{t:bA}{n:Int}{m:List Nd}(h:Pp k t n m):(if k=19\/k=20 then wholeB t false=true else k=21\/k=25\/k=24\/wholeB t true=true)/\0<=n/\n<=999/\∀e∈m,rightN e=true/\isExprK e.kind=true:=by
 have l:∀{u:bA},wholeB u false=true->rightN (.mk 33 u 0 [])=true/\isExprK (Nd.mk 33 u 0 []).kind=true:=λo=>⟨right_mk.2 ⟨bF,bF,rfl,bF,bF,o,λ_ h=>by cases h⟩,rfl⟩;rcases h with⟨g,b,i,a⟩|⟨g,b,i,e,a,f,j⟩|⟨g,b,i,u,a,f⟩|⟨g,b,i,a,f⟩|⟨g,b,i,a⟩|⟨g,b,i,a⟩|⟨g,b,i,e,a,f,j⟩
 .refine⟨?_,aE,aE,λe c=>by rw[a]at c;cases c⟩;rw[if_neg aE];exact .inr (.inr (.inr b))
 .refine⟨?_,aE,aE,λy d=>by rw[a,A4]at d;rw[d];exact⟨f,j⟩⟩;rw[if_neg aE];exact .inr (.inr (.inr b))
 .refine⟨?_,aE,aE,λy d=>by rw[a,A4]at d;rw[d];exact l f⟩;rw[if_neg aE];exact .inr (.inr (.inr b))
 .refine⟨?_,aE,aE,λe c=>by rw[f]at c;cases c⟩;rw[if_pos aE];exact b
 .refine⟨?_,aE,aE,λe c=>by rw[a]at c;cases c⟩;rw[if_pos aE];exact b
 .refine⟨?_,aE,aE,λe c=>by rw[a]at c;cases c⟩;rw[if_neg aE];omega
 .refine⟨?_,aE,aE,λy d=>by rw[a,A4]at d;rw[d];exact⟨f,j⟩⟩;rw[if_neg aE];omega
def Sl(x:Nd):Prop:=∃t n,x=.mk 7 t n []/\wholeB t true=true/\ -999<=n/\n<=999
theorem Pr{x:Nd}(b:rightN x=true)(a:isItemK x.kind=true):Sl x:=by
 obtain⟨k,t,n,f⟩:=x;have a:k=7:=of_decide_eq_true (show decide (k=7)=true from a);subst a;obtain⟨_,_,c,g,h,d,_⟩:=right_mk.1 b;have e:loAt 7= -999/\hiAt 7=999:=⟨rfl,rfl⟩;exact⟨t,n,by rw[fZ c],d,aE,aE⟩
def Ps(x:Nd):Prop:=wholeB x.text true=true/\(((x.kind=5\/x.kind=6)/\∃b,x=.mk x.kind x.text 0 [b]/\jY b)\/(x.kind=1/\x=.mk 1 x.text 0 x.kids/\∀y∈x.kids,Sl y)\/
 (x.kind=0/\x=.mk 0 x.text x.n []/\ -999<=x.n/\x.n<=999)\/(x.kind=2/\x=.mk 2 x.text x.n []/\0<=x.n/\x.n<=3)\/((x.kind=3\/x.kind=4)/\x=.mk x.kind x.text 0 []))
theorem uM{x:Nd}(l:rightN x=true)(h:0<=x.kind)(i:x.kind<=6):Ps x:=by
 obtain⟨k,t,n,m⟩:=x;have h:0<=k:=h;have i:k<=6:=i;obtain⟨_,_,c,p,q,o,g⟩:=right_mk.1 l;have a:k=0\/k=1\/k=2\/k=3\/k=4\/k=5\/k=6:=aE;refine⟨by rcases a with rfl|rfl|rfl|rfl|rfl|rfl|rfl<;>exact o,?_⟩;rcases a with rfl|rfl|rfl|rfl|rfl|rfl|rfl
 .have d:loAt 0= -999/\hiAt 0=999:=⟨rfl,rfl⟩;exact .inr (.inr (.inl ⟨rfl,by rw[fZ c];rfl,by simp only[Aj];omega,by simp only[Aj];omega⟩))
 .have d:loAt 1=0/\hiAt 1=0:=⟨rfl,rfl⟩;exact .inr (.inl ⟨rfl,by rw[show n=0 by omega];rfl,λy j=>Pr (g y j) (B7.1 (show(m.all λy=>isItemK y.kind)=true from c) y j)⟩)
 .have d:loAt 2=0/\hiAt 2=3:=⟨rfl,rfl⟩;exact .inr (.inr (.inr (.inl ⟨rfl,by rw[fZ c];rfl,by simp only[Aj];omega,by simp only[Aj];omega⟩)))
 .have d:loAt 3=0/\hiAt 3=0:=⟨rfl,rfl⟩;exact .inr (.inr (.inr (.inr ⟨.inl rfl,by rw[fZ c,show n=0 by omega];rfl⟩)))
 .have d:loAt 4=0/\hiAt 4=0:=⟨rfl,rfl⟩;exact .inr (.inr (.inr (.inr ⟨.inr rfl,by rw[fZ c,show n=0 by omega];rfl⟩)))
 .have d:loAt 5=0/\hiAt 5=0:=⟨rfl,rfl⟩;obtain⟨b,rfl,e⟩:=pQ (f:=isBlockK) c;exact .inl ⟨.inl rfl,b,by rw[show n=0 by omega];rfl,iK (g b bC) e⟩
 .have d:loAt 6=0/\hiAt 6=0:=⟨rfl,rfl⟩;obtain⟨b,rfl,e⟩:=pQ (f:=isBlockK) c;exact .inl ⟨.inr rfl,b,by rw[show n=0 by omega];rfl,iK (g b bC) e⟩
theorem Uy{k:Int}(h:11<=k/\k<=25):kindP (wordAt k)=k:=by
 have:k=11\/k=12\/k=13\/k=14\/k=15\/k=16\/k=17\/k=18\/k=19\/k=20\/k=21\/k=22\/k=23\/k=24\/k=25:=aE;rcases this with rfl|rfl|rfl|rfl|rfl|rfl|rfl|rfl|rfl|rfl|rfl|rfl|rfl|rfl|rfl<;>decide
theorem Yz{k:Int}(h:0<=k/\k<=6):defKind (wordAt k)=k:=by
 have:k=0\/k=1\/k=2\/k=3\/k=4\/k=5\/k=6:=aE;rcases this with rfl|rfl|rfl|rfl|rfl|rfl|rfl<;>decide
section
attribute[simp] LK Xo TV
attribute[local simp] aW bJ bE aR
attribute[local simp] lB.cond Nd.d_eq nd_t nd_dr nd_td ndsD
structure BC where
 b:Bool
theorem Sm{a b:Nat}:(if a<b then(b:Int)else(a:Int))=((max a b:Nat):Int):=by split<;>omega
theorem kQ{x:Nd}{i:Nat}(a:i<x.kids.length):weighN x.kids[i]<weighN x:=by
 have:=weigh_mem (A2 a);rw[weighN_eq x];omega
theorem jZ(x:Nd):x.kids.length<weighN x:=by
 have:=weigh_len (l:=x.kids);rw[weighN_eq x];omega
theorem eW(n m:Int)(a: -9223372036854775808<=n)(c:n<=9223372036854775807)(b:m≠0):Ok prog 51 [aJ n,aJ m] ⟨.d (aJ (bS n m)),true⟩:=by
 refine bL func51 rfl ntmps51 results51 λe X d=>?_;apply aD;simp;apply aF;apply aP;simp;refine⟨λa=>?_,λa=>?_⟩
 .apply aI;simp;refine⟨aE,?_⟩;apply aD;simp;refine⟨b,?_⟩;apply aH;simp[bS,a]
 .apply aG;simp;apply aD;simp;refine⟨b,?_⟩;apply aH;have:¬n<0:=aE;simp[bS,this]
theorem Ml(l:List Int)(i m:Int)(d:∀n∈l, -9223372036854775808<=n/\n<=9223372036854775807)(f:m≠0):Ok prog 107 [.sl (l.map aJ),aJ i,aJ m] ⟨.d (aJ (eA l i m)),true⟩:=by
 refine bL func107 rfl ntmps107 results107 λh X g=>?_;apply aD;simp;apply eG;refine fL.len (t:=0) rfl λb=>?_;simp at b;apply aI;simp;apply aK;simp;refine⟨λc=>?_,λc e=>?_⟩
 .apply aD;simp;apply aH;simp[eA,c]
 .obtain⟨k,rfl⟩:=Int.eq_ofNat_of_zero_le c;have a:k<l.length:=aE;apply aG;simp;refine cP (og 20 (.plain ⟨.d (aJ (bS l[k] m)),true⟩)) ?_;simp[e,a];refine⟨eW _ _ (d _ (A2 a)).1 (d _ (A2 a)).2 f,?_⟩;apply aH;simp[eA,a];omega
theorem Pt(x:Nd)(j:weighN x<=1000000000)(f:∀y∈x.kids,weighN y<=1000000000->Ok prog 164 [y.d] ⟨.d (aJ (depthN y)),true⟩):Ok prog 164 [x.d] ⟨.d (aJ (depthN x)),true⟩:=by
 refine bL func164 rfl ntmps164 results164 λk X c=>?_;apply aD;simp;apply aD;simp;apply dA;simp;apply aM;refine aO (ι:=Nat) (λi=>aQ [(3,.d (aJ (depthL (x.kids.take i)))),(7,.d (ndsD x.kids)),(8,.d (aJ x.kids.length)),(9,.d (aJ i))]) (λi=>aL []) (λi=>i<=x.kids.length) (λi=>x.kids.length-i) 0 (aA c [3,7,8,9] [] (by simp[depthL])) (A9 _) λi d=>?_;apply aD;simp;apply aF;apply aK;simp;refine⟨λb=>?_,λb=>?_⟩
 .apply aG;simp;apply cR;apply aF;have a:i<x.kids.length:=aE;apply aI;simp[a];have e:=f _ (A2 a) (by have:=kQ a;omega);refine aU (og 15 (.plain ⟨.d (aJ (depthN x.kids[i])),true⟩)) ?_;simp;refine⟨by simpa using e,?_⟩;have:=jZ x;apply aI;simp;refine⟨aE,?_⟩;refine QT.mk (i+1) (aA c [3,7,8,9] [] (by simp[depthL_succ a,Sm])) ?_ ?_
  .omega
  .omega
 .apply bG;simp;apply aF;have a:i=x.kids.length:=aE;subst a;rw[B8];have g:=depth_size x;have h:=size_weigh x;have b:=depthN_eq x;apply aI;simp;refine⟨aE,?_⟩;apply aH;simp[b]
theorem YA(x:Nd)(a:weighN x<=1000000000):Ok prog 164 [x.d] ⟨.d (aJ (depthN x)),true⟩:=by
 revert a;exact nP (p:=λx=>weighN x<=1000000000->Ok prog 164 [x.d] ⟨.d (aJ (depthN x)),true⟩) (λk t n c b a=>Pt _ a b) x
end
section
attribute[local simp] aW bJ bE aR
attribute[local simp] lB.cond Nd.d_eq nd_t nd_dr nd_td ndsD
def qA{α:Type}(p:α->Bool)(l:List α):Int:=match l.findIdx? p with|some i=>i|none=> -1
theorem An{α:Type}{p:α->Bool}{l:List α}{i:Nat}(h:l.findIdx? p=some i):qA p l=i:=by simp[qA,h]
theorem Ao{α:Type}{p:α->Bool}{l:List α}(h:l.findIdx? p=none):qA p l= -1:=by simp[qA,h]
theorem DT{α:Type}{p:α->Bool}{l:List α}:decide (0<=qA p l)=l.any p:=by
 unfold qA;split
 .rename_i i a;obtain⟨b,c,_⟩:=List.findIdx?_eq_some_iff_getElem.1 a;have:l.any p=true:=aCX b c;rw[this];simp
 .rename_i a;rw[List.findIdx?_eq_none_iff]at a;have:l.any p=false:=by rw[List.any_eq_false];intro x d;rw[a x d];simp
  rw[this];simp
theorem Ka{α:Type}{p:α->Bool}{l:List α}:0<=qA p l↔l.any p=true:=by
 rw[<-DT];simp
theorem tK(l:List bA)(n:bA):Ok prog 155 [uB l,.str n] ⟨.d (aJ (qA (λx=>decide (n=x)) l)),true⟩:=by
 refine bL func155 rfl ntmps155 results155 λf X e=>?_;refine fL.len (t:=0) rfl λc=>?_;simp at c;apply aD;simp;apply dA;simp;apply aM;refine aO (ι:=Nat) (λi=>aQ [(0,.d (uB l)),(1,.d (.str n)),(7,.d (aJ l.length)),(8,.d (aJ i))]) (λi=>aL []) (λi=>i<=l.length/\Pre (λx=>decide (n=x)) l i) (λi=>l.length-i) 0 (aA e [0,1,7,8] []) (⟨A9 _,Pre.zero⟩) λi a=>?_;apply aD;simp;apply aF;apply aK;simp;refine⟨λb=>?_,λb=>?_⟩
 .apply aG;simp;apply cR;apply aD;simp;apply aD;simp[b];apply aK;simp;refine⟨λd=>?_,λd=>?_⟩
  .apply aD;simp;apply aH;simp[An (a.2.found b (by simpa using d))]
  .apply aG;simp;apply aI;simp;refine⟨aE,?_⟩;refine QT.mk (i+1) (aA e [0,1,7,8] []) ?_ ?_
   .exact⟨b,a.2.succ b (by simpa using d)⟩
   .omega
 .apply bG;simp;apply aD;simp;apply aH;simp[Ao (a.2.none aE)]
theorem Mm(l:List bA)(n:bA):Ok prog 121 [uB l,.str n] ⟨.d (.bool (decide (n∈l))),true⟩:=by
 refine bL func121 rfl ntmps121 results121 λb X a=>?_;apply aD;simp;refine cP (og 7 (.plain ⟨.d (aJ (qA (λx=>decide (n=x)) l)),true⟩)) ?_;simp;refine⟨tK l n,?_⟩;apply aH;simp[Ka]
theorem Pu(l:List Nd)(p:Nd->Bool)(g:FuncId)(d:List DV)(h:∀x∈l,Ok prog g (x.d::d) ⟨.d (.bool (p x)),true⟩):Ok prog 259 [ndsD l,.fn g d] ⟨.d (aJ (qA p l)),true⟩:=by
 refine bL func259 rfl ntmps259 results259 λj X f=>?_;refine fL.len (t:=0) rfl λc=>?_;simp at c;apply aD;simp;apply dA;simp;apply aM;refine aO (ι:=Nat) (λi=>aQ [(0,.d (ndsD l)),(1,.d (.fn g d)),(7,.d (aJ l.length)),(8,.d (aJ i))]) (λi=>aL []) (λi=>i<=l.length/\Pre p l i) (λi=>l.length-i) 0 (aA f [0,1,7,8] []) (⟨A9 _,Pre.zero⟩) λi a=>?_;apply aD;simp;apply aF;apply aK;simp;refine⟨λb=>?_,λb=>?_⟩
 .apply aG;simp;apply cR;apply aD;simp;refine cP (og 16 (.plain ⟨.d (.bool (p l[i])),true⟩)) ?_;simp[b];refine⟨by simpa using h l[i] (A2 b),?_⟩;apply aK;simp;refine⟨λe=>?_,λe=>?_⟩
  .apply aD;simp;apply aH;simp[An (a.2.found b e)]
  .apply aG;simp;apply aI;simp;refine⟨aE,?_⟩;refine QT.mk (i+1) (aA f [0,1,7,8] []) ?_ ?_
   .exact⟨b,a.2.succ b e⟩
   .omega
 .apply bG;simp;apply aD;simp;apply aH;simp[Ao (a.2.none aE)]
theorem Mn(l:List Nd)(p:Nd->Bool)(g:FuncId)(a:List DV)(b:∀x∈l,Ok prog g (x.d::a) ⟨.d (.bool (p x)),true⟩):Ok prog 178 [ndsD l,.fn g a] ⟨.d (.bool (l.any p)),true⟩:=by
 refine bL func178 rfl ntmps178 results178 λd X c=>?_;apply aD;simp;refine cP (og 7 (.plain ⟨.d (aJ (qA p l)),true⟩)) ?_;simp;refine⟨by simpa using Pu l p g a b,?_⟩;apply aH;simp[<-DT]
theorem Uz(k:Int):Ok prog 293 [aJ k] ⟨.d (.bool (isStmtK k)),true⟩:=by
 refine bL func293 rfl ntmps293 results293 λb X a=>?_;apply aD;simp;apply aD;simp;apply aH;simp[isStmtK]
theorem UA(k:Int):Ok prog 292 [aJ k] ⟨.d (.bool (isItemK k)),true⟩:=by
 refine bL func292 rfl ntmps292 results292 λb X a=>?_;apply aD;simp;apply aD;simp;apply aH;simp[isItemK]
theorem rV(k:Int):Ok prog 295 [aJ k] ⟨.d (.bool (isBlockK k)),true⟩:=by
 refine bL func295 rfl ntmps295 results295 λb X a=>?_;apply aD;simp;apply aD;simp;apply aH;simp[isBlockK]
theorem oK(k:Int):Ok prog 296 [aJ k] ⟨.d (.bool (isExprK k)),true⟩:=by
 refine bL func296 rfl ntmps296 results296 λb X a=>?_;apply aD;simp;apply aD;simp;apply aH;simp[isExprK]
theorem Pv(k:Int):Ok prog 297 [aJ k] ⟨.d (.bool (isPlaceK k)),true⟩:=by
 refine bL func297 rfl ntmps297 results297 λb X a=>?_;apply aD;simp;apply aD;simp;apply aH;simp[isPlaceK]
theorem Pw(k:Int):Ok prog 298 [aJ k] ⟨.d (.bool (isLocalK k)),true⟩:=by
 refine bL func298 rfl ntmps298 results298 λb X a=>?_;apply aD;simp;apply aD;simp;apply aH;simp[isLocalK]
theorem aBf(x:Nd)(g:FuncId)(f:Int->Bool)(a:∀k,Ok prog g [aJ k] ⟨.d (.bool (f k)),true⟩):Ok prog 326 [x.d,.ro [.fn g []]] ⟨.d (.bool (!f x.kind)),true⟩:=by
 refine bL func326 rfl ntmps326 results326 λc X b=>?_;apply aD;simp;refine cP (og 7 (.plain ⟨.d (.bool (f x.kind)),true⟩)) ?_;simp;refine⟨a _,?_⟩;apply aH;simp
theorem YB(x:Nd)(g:FuncId)(f:Int->Bool)(a:∀k,Ok prog g [aJ k] ⟨.d (.bool (f k)),true⟩):Ok prog 291 [x.d,.fn g []] ⟨.d (.bool (x.kids.all λy=>f y.kind)),true⟩:=by
 refine bL func291 rfl ntmps291 results291 λc X b=>?_;apply aD;simp;refine cP (og 8 (.plain ⟨.d (.bool (x.kids.any λy=> !f y.kind)),true⟩)) ?_;simp;refine⟨by simpa using Mn x.kids (λy=> !f y.kind) _ _ λy _=>aBf y g f a,?_⟩;apply aH;simp[C3]
theorem CX:∀{ks:List Nd} {fs:List (Int->Bool)},ks.length≠fs.length->kidsB ks fs=false
 |[],[],h=>absurd rfl h
 |[],_::_,_=>rfl
 |_::_,[],_=>rfl
 |x::r,f::l,h=>by rw[kidsB,CX (ks:=r) (fs:=l) (by simpa using h),Bool.and_false]
theorem yP:∀{ks:List Nd} {fs:List (Int->Bool)},ks.length=fs.length->(kidsB ks fs=true↔∀(i:Nat) (c:i<ks.length) (d:i<fs.length),fs[i] ks[i].kind=true)
 |[],[],_=>⟨λ_ i h=>by simp at h,λ_=>rfl⟩
 |[],_::_,h=>by simp at h
 |_::_,[],h=>by simp at h
 |x::r,f::l,h=>by
  rw[kidsB,A3,yP (ks:=r) (fs:=l) (by simpa using h)];constructor
  .rintro⟨c,d⟩ i a b;cases i with
   |zero=>exact c
   |succ i=>exact d i (by simpa using a) (by simpa using b)
  .intro h;exact⟨h 0 bC bC,λi a b=>h (i+1) (by simpa using a) (by simpa using b)⟩
structure aBg(gs:List FuncId)(fs:List (Int->Bool)):Prop where
 len:gs.length=fs.length
 ok:∀(i:Nat) (h1:i<gs.length) (h2:i<fs.length) (k:Int),Ok prog gs[i] [aJ k] ⟨.d (.bool (fs[i] k)),true⟩
def UB(g:FuncId):DV:=.fn g []
theorem qL(x:Nd)(c:List FuncId)(b:List (Int->Bool))(l:aBg c b)(r:c.length<=100):Ok prog 294 [x.d,.sl (c.map UB)] ⟨.d (.bool (kidsB x.kids b)),true⟩:=by
 refine bL func294 rfl ntmps294 results294 λv X n=>?_;have p:=l.len;apply aD;simp;apply aF;apply aP;simp;refine⟨λk=>?_,λk=>?_⟩
 .apply aD;simp;apply aH;simp;exact CX aE
 .apply aG;simp;apply eG;have a:x.kids.length=b.length:=aE;have t:x.kids.length<=100:=aE;apply aI;simp;apply aM;refine aO (ι:=Nat) (λi=>aQ [(1,.d (.sl (c.map UB))),(14,.d (ndsD x.kids)),(15,.d (aJ x.kids.length)),(16,.d (aJ i))]) (λi=>aL []) (λi=>i<=x.kids.length/\∀(j:Nat) (k:j<x.kids.length) (u:j<b.length),j<i->b[j] x.kids[j].kind=true) (λi=>x.kids.length-i) 0 (aA n [1,14,15,16] []) (⟨A9 _,λj _ _ h=>absurd h (D4 _)⟩) λi d=>?_;apply aD;simp;apply aF;apply aK;simp;refine⟨λo=>?_,λo=>?_⟩
  .apply aG;simp;apply cR;apply aF;have m:i<x.kids.length:=aE;have e:i<b.length:=aE;have f:i<c.length:=aE;apply aI;simp[m];apply aF;have s:=l.ok i f e x.kids[i].kind;refine fL.rd [] [[],[],[],[],[],[],[27]] (og 27 (.plain ⟨.d (.bool (b[i] x.kids[i].kind)),true⟩)) ?_;simp[f,UB,eU];refine⟨s,?_⟩;apply aK;simp;refine⟨λg=>?_,λg=>?_⟩
   .apply aD;simp;apply aH;simp;rw[<-Bool.not_eq_true,yP a];intro h;have:=h i m e;simp[g]at this
   .apply aG;simp;apply aI;simp;refine⟨aE,?_⟩;refine QT.mk (i+1) (aA n [1,14,15,16] []) ?_ ?_
    .refine⟨aE,λj q1 q2 q3=>?_⟩;rcases D6 j i with q|q
     .exact d.2 j q1 q2 q
     .have:j=i:=aE;subst this;simpa using g
    .omega
  .apply bG;simp;apply aD;simp;apply aH;simp;rw[yP a];exact λj q1 q2=>d.2 j q1 q2 aE
theorem aBg.nil:aBg [] []:=⟨rfl,λi h=>by simp at h⟩
theorem aBg.cons{g:FuncId}{f:Int->Bool}{b:List FuncId}{a:List (Int->Bool)}(h:∀k,Ok prog g [aJ k] ⟨.d (.bool (f k)),true⟩)(c:aBg b a):aBg (g::b) (f::a):=
 ⟨by simp[c.len],λi d e k=>by
   cases i with
   |zero=>exact h k
   |succ i=>exact c.ok i (by simpa using d) (by simpa using e) k⟩
theorem UC(x:Nd):Ok prog 237 [x.d] ⟨.d (.bool (shapedB x)),true⟩:=by
 refine bL func237 rfl ntmps237 results237 λV X a=>?_;apply aD;simp;apply dA;simp;apply aM;apply aP;simp;refine⟨λQ=>?_,λQ=>?_⟩
 .apply aF;have I:=YB x 292 isItemK λk=>UA k;refine aU (og 8 (.plain ⟨.d (.bool (x.kids.all λy=>isItemK y.kind)),true⟩)) ?_;simp;refine⟨by simpa using I,?_⟩;apply aH;simp;unfold shapedB shapedK;repeat(first|rw[if_pos aE]|rw[if_neg aE])
  try simp[c]
 .apply aP;simp;refine⟨λS=>?_,λS=>?_⟩
  .apply aF;have J:=YB x 293 isStmtK λk=>Uz k;refine aU (og 12 (.plain ⟨.d (.bool (x.kids.all λy=>isStmtK y.kind)),true⟩)) ?_;simp;refine⟨by simpa using J,?_⟩;apply aH;simp;unfold shapedB shapedK;repeat(first|rw[if_pos aE]|rw[if_neg aE])
   try simp[c]
  .refine aY (ι:=BC) (λ⟨b⟩=>aQ [(1,.bx 1 0),(4,.d (aJ x.kind)),(13,.d (.bool b))]) (λ⟨b⟩=>aL [(1,.box false [.d (aJ x.kind),.d (.str x.text),.d (aJ x.n),.d (ndsD x.kids)])]) (λ⟨b⟩=>b=true↔(x.kind=5\/x.kind=6)) ?_ λ⟨b⟩ u=>?_
   .apply aP;simp;refine⟨λO=>?_,λO=>?_⟩
    .apply aG;simp;refine aAV.mk ⟨decide (x.kind=5)⟩ (aA a [1,4,13] [(1,1)]) ?_;simp[O]
    .apply aI;simp;refine aAV.mk ⟨decide (x.kind=6)⟩ (aA a [1,4,13] [(1,1)]) ?_;simp only[decide_eq_true_eq];omega
   .apply aK;simp;refine⟨λH=>?_,λH=>?_⟩
    .have U:=u.1 H;apply aF;have K:=qL x [295] [isBlockK] (aBg.cons (λk=>rV k) aBg.nil) bF;refine aU (og 18 (.plain ⟨.d (.bool (kidsB x.kids [isBlockK])),true⟩)) ?_;simp;refine⟨by simpa [UB]using K,?_⟩;apply aH;simp;unfold shapedB shapedK;repeat(first|rw[if_pos aE]|rw[if_neg aE])
     try simp[c]
    .have U:¬(x.kind=5\/x.kind=6):=λq=>by simp[u.2 q]at H
     refine aY (ι:=BC) (λ⟨b⟩=>aQ [(1,.bx 1 0),(4,.d (aJ x.kind)),(19,.d (.bool b))]) (λ⟨b⟩=>aL [(1,.box false [.d (aJ x.kind),.d (.str x.text),.d (aJ x.n),.d (ndsD x.kids)])]) (λ⟨b⟩=>b=true↔(x.kind=9\/x.kind=15\/x.kind=22\/x.kind=24)) ?_ λ⟨b⟩ e=>?_
     .apply aP;simp;refine⟨λP=>?_,λP=>?_⟩
      .apply aG;simp;refine aAV.mk ⟨decide (x.kind=9)⟩ (aA a [1,4,19] [(1,1)]) ?_;simp[P]
      .apply aP;simp;refine⟨λl=>?_,λl=>?_⟩
       .apply aG;simp;refine aAV.mk ⟨decide (x.kind=15)⟩ (aA a [1,4,19] [(1,1)]) ?_;simp[l]
       .apply aP;simp;refine⟨λm=>?_,λm=>?_⟩
        .apply aG;simp;refine aAV.mk ⟨decide (x.kind=22)⟩ (aA a [1,4,19] [(1,1)]) ?_;simp[m]
        .apply aI;simp;refine aAV.mk ⟨decide (x.kind=24)⟩ (aA a [1,4,19] [(1,1)]) ?_;simp only[decide_eq_true_eq];omega
     .apply aK;simp;refine⟨λh=>?_,λh=>?_⟩
      .have L:=e.1 h;apply aF;have v:=qL x [296] [isExprK] (aBg.cons (λk=>oK k) aBg.nil) bF;refine aU (og 26 (.plain ⟨.d (.bool (kidsB x.kids [isExprK])),true⟩)) ?_;simp;refine⟨by simpa [UB]using v,?_⟩;apply aH;simp;unfold shapedB shapedK;repeat(first|rw[if_pos aE]|rw[if_neg aE])
       try simp[c]
      .have L:¬(x.kind=9\/x.kind=15\/x.kind=22\/x.kind=24):=λq=>by simp[e.2 q]at h
       apply aP;simp;refine⟨λE=>?_,λE=>?_⟩
       .apply aF;have w:=qL x [297,296] [isPlaceK,isExprK] (aBg.cons (λk=>Pv k) (aBg.cons (λk=>oK k) aBg.nil)) bF;refine aU (og 31 (.plain ⟨.d (.bool (kidsB x.kids [isPlaceK,isExprK])),true⟩)) ?_;simp;refine⟨⟨bF,by simpa [UB]using w⟩,?_⟩;apply aH;simp;unfold shapedB shapedK;repeat(first|rw[if_pos aE]|rw[if_neg aE])
        try simp[c]
       .apply aP;simp;refine⟨λF=>?_,λF=>?_⟩
        .apply aF;have d:=qL x [296,295] [isExprK,isBlockK] (aBg.cons (λk=>oK k) (aBg.cons (λk=>rV k) aBg.nil)) bF;have D:=qL x [296,295,295] [isExprK,isBlockK,isBlockK] (aBg.cons (λk=>oK k) (aBg.cons (λk=>rV k) (aBg.cons (λk=>rV k) aBg.nil))) bF;cases c:kidsB x.kids [isExprK,isBlockK]<;>rw[c]at d
         .refine aU (λ|36=>some<| .plain ⟨.d (.bool (decide (0=1))),true⟩|40=>some<| .plain ⟨.d (.bool (kidsB x.kids [isExprK,isBlockK,isBlockK])),true⟩|_=>none) ?_;simp;refine⟨⟨⟨⟨bF,by simpa [UB]using d⟩,bF⟩,by simpa [UB]using D⟩,?_⟩;apply aH;simp;unfold shapedB shapedK;repeat(first|rw[if_pos aE]|rw[if_neg aE])
          try simp[c]
         .refine aU (λ|36=>some<| .plain ⟨.d (.bool (decide (1=1))),true⟩|40=>some<| .plain ⟨.d (.bool (kidsB x.kids [isExprK,isBlockK,isBlockK])),true⟩|_=>none) ?_;simp;refine⟨⟨bF,by simpa [UB]using d⟩,?_⟩;apply aH;simp;unfold shapedB shapedK;repeat(first|rw[if_pos aE]|rw[if_neg aE])
          try simp[c]
        .apply aP;simp;refine⟨λG=>?_,λG=>?_⟩
         .apply aF;have z:=qL x [296,295] [isExprK,isBlockK] (aBg.cons (λk=>oK k) (aBg.cons (λk=>rV k) aBg.nil)) bF;refine aU (og 46 (.plain ⟨.d (.bool (kidsB x.kids [isExprK,isBlockK])),true⟩)) ?_;simp;refine⟨⟨bF,by simpa [UB]using z⟩,?_⟩;apply aH;simp;unfold shapedB shapedK;repeat(first|rw[if_pos aE]|rw[if_neg aE])
          try simp[c]
         .refine aY (ι:=BC) (λ⟨b⟩=>aQ [(1,.bx 1 0),(4,.d (aJ x.kind)),(47,.d (.bool b))]) (λ⟨b⟩=>aL [(1,.box false [.d (aJ x.kind),.d (.str x.text),.d (aJ x.n),.d (ndsD x.kids)])]) (λ⟨b⟩=>b=true↔(x.kind=16\/x.kind=23)) ?_ λ⟨b⟩ f=>?_
          .apply aP;simp;refine⟨λn=>?_,λn=>?_⟩
           .apply aG;simp;refine aAV.mk ⟨decide (x.kind=16)⟩ (aA a [1,4,47] [(1,1)]) ?_;simp[n]
           .apply aI;simp;refine aAV.mk ⟨decide (x.kind=23)⟩ (aA a [1,4,47] [(1,1)]) ?_;simp only[decide_eq_true_eq];omega
          .apply aK;simp;refine⟨λi=>?_,λi=>?_⟩
           .have M:=f.1 i;apply aF;have A:=qL x [298] [isLocalK] (aBg.cons (λk=>Pw k) aBg.nil) bF;refine aU (og 52 (.plain ⟨.d (.bool (kidsB x.kids [isLocalK])),true⟩)) ?_;simp;refine⟨by simpa [UB]using A,?_⟩;apply aH;simp;unfold shapedB shapedK;repeat(first|rw[if_pos aE]|rw[if_neg aE])
            try simp[c]
           .have M:¬(x.kind=16\/x.kind=23):=λq=>by simp[f.2 q]at i
            refine aY (ι:=BC) (λ⟨b⟩=>aQ [(1,.bx 1 0),(4,.d (aJ x.kind)),(53,.d (.bool b))]) (λ⟨b⟩=>aL [(1,.box false [.d (aJ x.kind),.d (.str x.text),.d (aJ x.n),.d (ndsD x.kids)])]) (λ⟨b⟩=>b=true↔(x.kind=26\/x.kind=27\/x.kind=28\/x.kind=29\/x.kind=30\/x.kind=31)) ?_ λ⟨b⟩ g=>?_
            .apply aP;simp;refine⟨λo=>?_,λo=>?_⟩
             .apply aG;simp;refine aAV.mk ⟨decide (x.kind=26)⟩ (aA a [1,4,53] [(1,1)]) ?_;simp[o]
             .apply aP;simp;refine⟨λp=>?_,λp=>?_⟩
              .apply aG;simp;refine aAV.mk ⟨decide (x.kind=27)⟩ (aA a [1,4,53] [(1,1)]) ?_;simp[p]
              .apply aP;simp;refine⟨λr=>?_,λr=>?_⟩
               .apply aG;simp;refine aAV.mk ⟨decide (x.kind=28)⟩ (aA a [1,4,53] [(1,1)]) ?_;simp[r]
               .apply aP;simp;refine⟨λs=>?_,λs=>?_⟩
                .apply aG;simp;refine aAV.mk ⟨decide (x.kind=29)⟩ (aA a [1,4,53] [(1,1)]) ?_;simp[s]
                .apply aP;simp;refine⟨λt=>?_,λt=>?_⟩
                 .apply aG;simp;refine aAV.mk ⟨decide (x.kind=30)⟩ (aA a [1,4,53] [(1,1)]) ?_;simp[t]
                 .apply aI;simp;refine aAV.mk ⟨decide (x.kind=31)⟩ (aA a [1,4,53] [(1,1)]) ?_;simp only[decide_eq_true_eq];omega
            .apply aK;simp;refine⟨λj=>?_,λj=>?_⟩
             .have N:=g.1 j;apply aF;have B:=qL x [296,296] [isExprK,isExprK] (aBg.cons (λk=>oK k) (aBg.cons (λk=>oK k) aBg.nil)) bF;refine aU (og 62 (.plain ⟨.d (.bool (kidsB x.kids [isExprK,isExprK])),true⟩)) ?_;simp;refine⟨⟨bF,by simpa [UB]using B⟩,?_⟩;apply aH;simp;unfold shapedB shapedK;repeat(first|rw[if_pos aE]|rw[if_neg aE])
              try simp[c]
             .have N:¬(x.kind=26\/x.kind=27\/x.kind=28\/x.kind=29\/x.kind=30\/x.kind=31):=λq=>by simp[g.2 q]at j
              apply aG;simp;apply aF;have C:=qL x [] [] aBg.nil bF;refine aU (og 64 (.plain ⟨.d (.bool (kidsB x.kids [])),true⟩)) ?_;simp;refine⟨by simpa [UB]using C,?_⟩;apply aH;simp;unfold shapedB shapedK;repeat(first|rw[if_pos aE]|rw[if_neg aE])
              try simp[c]
theorem CY:Dw.length=12:=rfl
theorem YC{k:Int}(a:26<=k)(b:k<=31):B5 2 (List.drop ((k-26).toNat*2) Dw)=[.str (signAt k),aJ (levelAt k)]:=by
 have:k=26\/k=27\/k=28\/k=29\/k=30\/k=31:=aE;rcases this with rfl|rfl|rfl|rfl|rfl|rfl<;>rfl
theorem UD{k:Int}(a:26<=k)(b:k<=31):Dw[(k-26).toNat*2+1]?.getD default=aJ (levelAt k):=by
 have:k=26\/k=27\/k=28\/k=29\/k=30\/k=31:=aE;rcases this with rfl|rfl|rfl|rfl|rfl|rfl<;>rfl
theorem YD(x:Nd):Ok prog 351 [x.d] ⟨.d (aJ (lvlN x.kind)),true⟩:=by
 refine bL func351 rfl ntmps351 results351 λd X c=>?_;apply aD;simp;apply aF;apply aP;simp;refine⟨λa b=>?_,λg=>?_⟩
 .apply aF;have q1:=UD a b;have q2:=CY;apply aI;simp[q1];refine⟨⟨⟨aE,aE⟩,aE⟩,?_⟩;apply aH;simp[lvlN,a,b]
 .apply aG;simp;apply aD;simp;apply aH;simp;rw[lvlN,if_neg aE]
theorem Sn(n:Nat):(decS n).length<=3:=by unfold decS;split<;>(try split)<;>simp
theorem cG(n:Int):(itoaS n).length<=4:=by
 have a:=Sn n.natAbs;have b:=Sn n.toNat;unfold itoaS;split
 .simp only[A1];omega
 .omega
theorem rA(c:Bool)(t:bA):(paren c t).length<=t.length+2:=by cases c<;>simp[paren]
theorem Mo(k:Int)(h:26<=k/\k<=31):(signAt k).length<=2:=by
 have:k=26\/k=27\/k=28\/k=29\/k=30\/k=31:=aE;rcases this with rfl|rfl|rfl|rfl|rfl|rfl<;>decide
theorem dK(x:Nd):rightN x=true->isExprK x.kind=true->(exprT x).length<=8*weighN x:=by
 refine nP (p:=λx=>rightN x=true->isExprK x.kind=true->(exprT x).length<=8*weighN x) (λk t n f g=>?_) x;intro o m;have q:weighN (.mk k t n f)=weighL f+t.length+1:=by rw[weighN]
 rcases vX o m with⟨_,_,_,e⟩|⟨c,_⟩|c|⟨c,_⟩|⟨c,d⟩|⟨y,a,b,c,d,h,e,i,j,l⟩
 .rw[e];have:=cG (Nd.mk k t n f).n;simp only[exprT,if_true,weighN];omega
 .rw[c];simp[exprT,weighN];omega
 .rw[c];simp[exprT,weighN,sKind];omega
 .rw[c];simp[exprT,weighN];omega
 .rw[c];simp[exprT,weighN];omega
 .injection h with i1 i2 i3 i4
  subst i1;subst i2;subst i3;subst i4;have v:=g a bC e i;have w:=g b bC j l;have r:=rA (decide (lvlN a.kind<(if levelAt k=1 then 2 else levelAt k))) (exprT a);have s:=rA (decide (lvlN b.kind<levelAt k+1)) (exprT b);have u:=Mo k ⟨c,d⟩;rw[Il c d,q];simp only[weighL,A0,A1,A8];omega
end
end Go.Eng
namespace Go.Proofs
open Go.Shelf
def Tryz.itoaLay_ren:Go.Shelf.Ren:=⟨λ|171=>167|243=>241|246=>301|283=>328|284=>329|285=>330|286=>331|129=>208|317=>352|318=>353|319=>354|320=>355|337=>366|338=>367|n=>n,λ|3=>3|9=>9|2=>2|4=>4|171=>313|0=>0|53=>93|37=>38|5=>5|173=>315|212=>329|51=>90|20=>20|213=>330|46=>166|232=>99|233=>92|n=>n,λ|17=>8|18=>9|19=>10|n=>n⟩
theorem Tryz.itoaLay:Go.Proofs.LaysM.n171 prog Tryz.itoaLay_ren:={
 mixed:=by kernel_rfl,
 f129:=func208.trans (congrArg some (by kernel_rfl)),
 f171:=func167.trans (congrArg some (by kernel_rfl)),
 f243:=func241.trans (congrArg some (by kernel_rfl)),
 f246:=func301.trans (congrArg some (by kernel_rfl)),
 f283:=func328.trans (congrArg some (by kernel_rfl)),
 f284:=func329.trans (congrArg some (by kernel_rfl)),
 f285:=func330.trans (congrArg some (by kernel_rfl)),
 f286:=func331.trans (congrArg some (by kernel_rfl)),
 f317:=func352.trans (congrArg some (by kernel_rfl)),
 f318:=func353.trans (congrArg some (by kernel_rfl)),
 f319:=func354.trans (congrArg some (by kernel_rfl)),
 f320:=func355.trans (congrArg some (by kernel_rfl)),
 f337:=func366.trans (congrArg some (by kernel_rfl)),
 f338:=func367.trans (congrArg some (by kernel_rfl)),
 t0:=underlying0,
 a0:=isAgg0,
 z0:=sizeOf0,
 v0:=zeroValue0,
 t2:=underlying2,
 a2:=isAgg2,
 z2:=sizeOf2,
 v2:=zeroValue2,
 t3:=underlying3,
 a3:=isAgg3,
 z3:=sizeOf3,
 v3:=zeroValue3,
 t4:=underlying4,
 a4:=isAgg4,
 z4:=sizeOf4,
 v4:=zeroValue4,
 t5:=underlying5,
 a5:=isAgg5,
 z5:=sizeOf5,
 v5:=zeroValue5,
 t9:=underlying9,
 a9:=isAgg9,
 z9:=sizeOf9,
 v9:=zeroValue9,
 t20:=underlying20,
 a20:=isAgg20,
 z20:=sizeOf20,
 v20:=zeroValue20,
 t37:=underlying38,
 a37:=isAgg38,
 z37:=sizeOf38,
 v37:=zeroValue38,
 t46:=underlying166,
 a46:=isAgg166,
 z46:=sizeOf166,
 v46:=zeroValue166,
 t51:=underlying90,
 a51:=isAgg90,
 z51:=sizeOf90,
 v51:=zeroValue90,
 t53:=underlying93,
 a53:=isAgg93,
 z53:=sizeOf93,
 v53:=zeroValue93,
 t171:=underlying313,
 a171:=isAgg313,
 z171:=sizeOf313,
 v171:=zeroValue313,
 t173:=underlying315,
 a173:=isAgg315,
 z173:=sizeOf315,
 v173:=zeroValue315,
 t212:=underlying329,
 a212:=isAgg329,
 z212:=sizeOf329,
 v212:=zeroValue329,
 t213:=underlying330,
 a213:=isAgg330,
 z213:=sizeOf330,
 t232:=underlying99,
 a232:=isAgg99,
 z232:=sizeOf99,
 v232:=zeroValue99,
 t233:=underlying92,
 a233:=isAgg92,
 z233:=sizeOf92,
 v233:=zeroValue92,
 g17:=by kernel_rfl,
 g18:=by kernel_rfl,
 g19:=by kernel_rfl,
 i0:=by kernel_rfl,
 i2:=by kernel_rfl,
 i3:=by kernel_rfl,
 i4:=by kernel_rfl,
 i5:=by kernel_rfl,
 i9:=by kernel_rfl,
 i20:=by kernel_rfl,
 i37:=by kernel_rfl,
 i46:=by kernel_rfl,
 i51:=by kernel_rfl,
 i53:=by kernel_rfl,
 i171:=by kernel_rfl,
 i173:=by kernel_rfl,
 i212:=by kernel_rfl,
 i232:=by kernel_rfl,
 i233:=by kernel_rfl,
 m17:=by kernel_rfl,
 m18:=by kernel_rfl,
 m19:=by kernel_rfl}
end Go.Proofs
namespace Go.Eng
theorem So{n:Nat}(h:n<1000):Lib.decDigits n=decS n:=by
 unfold decS;by_cases a:n<10
 .rw[if_pos a,Lib.decDigits,dif_pos a]
 .rw[if_neg a,Lib.decDigits,dif_neg a];by_cases b:n<100
  .rw[if_pos b,Lib.decDigits,dif_pos aE];rfl
  .rw[if_neg b,Lib.decDigits,dif_neg aE,Lib.decDigits,dif_pos aE,Nat.div_div_eq_div_mul];rfl
theorem YE{n:Int}(a: -999<=n)(b:n<=999):Lib.itoa n=itoaS n:=by
 unfold Lib.itoa itoaS;split
 .rw[So aE]
 .rw[So aE]
theorem UE:QK=Lib.pow10Tab.map λz=>DV.int .u64 z:=jQ
theorem aBh{w:World}{X:Nat->Prop}(h:AS w X){a:String}(m:prog.globalNamed a=some 8):Lib.TabIs prog w a .u64 Lib.pow10Tab:=by
 obtain⟨g,d,t,n,j,e⟩:=h 8 QK rfl;unfold Lib.TabIs World.var?;rw[m];simp only[Option.bind_some,j,Option.some.injEq];rw[UE]at g e;cases g with
 |ro _ _ _ us hb hul hu1 hlt hcell hp=>
  apply Array.ext_getElem?;intro i;by_cases c:i<d.size
  .have f:i<Lib.pow10Tab.length:=by rw[e,C4]at c;exact c
   have l:i<us.length:=(by rw[hul,C4];exact f);have b:=hcell i us[i] (B2 l);have k:=hp i (.int .u64 Lib.pow10Tab[i]) us[i] (by simp[f]) (B2 l);generalize us[i]=u at b k;cases k;rw[Nat.zero_add]at b;unfold World.cell? at b;simp[j]at b;rw[b];simp[f]
  .rw[Array.getElem?_eq_none aE];rw[e,C4]at c;rw[List.getElem?_toArray,List.getElem?_eq_none (by simpa using c)]
theorem Ca(n:Int)(b: -999<=n)(c:n<=999):Ok prog 167 [aJ n] ⟨.d (.str (itoaS n)),true⟩:=by
 refine⟨⟨_,func167,jQ,rfl⟩,λw X i d a=>?_⟩
 match i,a.1 with
 |[v],_=>
  have h:=a.2 0 _ _ rfl rfl;cases h;refine(Go.Proofs.Any.strconv_Itoa Tryz.itoaLay n aE aE w (aBh d.2 jQ)).mono ?_;rintro e l ⟨rfl,k,g,rfl⟩;refine⟨_,rfl,⟨rfl,rfl,rfl,?_,λj f=>Go.Sort.heap_grow_old (w.drewN k) g f,Nat.le_add_right _ _⟩,none,?_⟩
  .simp[Sort.grow]
  .rw[YE b c];exact .str _
section
attribute[local simp] aW bJ bE aR
attribute[local simp] lB.cond Nd.d_eq nd_t nd_dr nd_td ndsD
theorem YF{x:Nd}(h:x.kind=32):exprT x=itoaS x.n:=by cases x;simp only[eJ]at h;subst h;unfold exprT;simp
theorem YG{x:Nd}(h:x.kind=33):exprT x=36::x.text:=by cases x;simp only[eJ]at h;subst h;unfold exprT;simp
theorem YH{x:Nd}(h:x.kind=36):exprT x=sKind:=by cases x;simp only[eJ]at h;subst h;unfold exprT;simp
theorem YI{x:Nd}(h:x.kind=34\/x.kind=35):exprT x=x.text:=by cases x;simp only[eJ]at h;rcases h with rfl|rfl<;>(unfold exprT;simp)
theorem Gc{x:Nd}(e:rightN x=true)(d:isExprK x.kind=true):(26<=x.kind/\x.kind<=36)/\(x.kind=32->exprT x=itoaS x.n/\0<=x.n/\x.n<=999)/\(x.kind=33->exprT x=36::x.text)/\(x.kind=36->exprT x=sKind)/\
 (x.kind=34\/x.kind=35->exprT x=x.text)/\(x.kind<=31->∃a b,x.kids=[a,b]/\rightN a=true/\isExprK a.kind=true/\rightN b=true/\isExprK b.kind=true/\
   exprT x=paren (decide (lvlN a.kind<(if levelAt x.kind=1 then 2 else levelAt x.kind))) (exprT a)++32::(signAt x.kind++32::paren (decide (lvlN b.kind<levelAt x.kind+1)) (exprT b))):=by
 refine⟨isExprK_iff.1 d,λh=>⟨YF h,?_⟩,YG,YH,YI,λh=>?_⟩
 .obtain⟨k,t,n,r⟩:=x;have h:k=32:=h;subst h;obtain⟨_,_,_,o,p,_⟩:=right_mk.1 e;exact⟨o,p⟩
 .rcases vX e d with⟨c,_⟩|⟨c,_⟩|c|⟨c,_⟩|⟨c,_⟩|⟨q,a,b,c,f,g,i,j,l,m⟩
  .omega
  .rw[c]at h;exact absurd h bC
  .rw[c]at h;exact absurd h bC
  .rw[c]at h;exact absurd h bC
  .rw[c]at h;exact absurd h bC
  .rw[g];exact⟨a,b,rfl,i,j,l,m,Il c f⟩
theorem In(x:Nd)(a:Int)(c:Ok prog 300 [x.d] ⟨.d (.str (exprT x)),true⟩)(e:(exprT x).length<=10000000000):Ok prog 327 [x.d,aJ a] ⟨.d (.str (paren (decide (lvlN x.kind<a)) (exprT x))),true⟩:=by
 refine bL func327 rfl ntmps327 results327 λg X f=>?_;apply aD;simp;apply eG;have d:=YD x;refine aU (og 6 (.plain ⟨.d (aJ (lvlN x.kind)),true⟩)) ?_;simp;refine⟨by simpa using d,?_⟩;apply aK;simp;refine⟨λb=>?_,λb=>?_⟩
 .refine cP (og 10 (.plain ⟨.d (.str (exprT x)),true⟩)) ?_;simp;refine⟨⟨⟨by simpa using c,aE⟩,aE⟩,?_⟩;apply aH;simp[paren,b]
 .apply aG;simp;refine cP (og 14 (.plain ⟨.d (.str (exprT x)),true⟩)) ?_;simp;refine⟨by simpa using c,?_⟩;apply aH;simp[paren];intro h;omega
theorem UF(x:Nd)(L:rightN x=true)(J:isExprK x.kind=true)(P:weighN x<=1000000000)(z:∀y∈x.kids,rightN y=true->isExprK y.kind=true->weighN y<=1000000000->Ok prog 300 [y.d] ⟨.d (.str (exprT y)),true⟩):Ok prog 300 [x.d] ⟨.d (.str (exprT x)),true⟩:=by
 refine bL func300 rfl ntmps300 results300 λY X p=>?_;obtain⟨r,t,u,w,v,s⟩:=Gc L J;have n:=weighN_eq x;apply aD;simp;apply dA;simp;apply aM;apply aP;simp;refine⟨λC=>?_,λC=>?_⟩
 .apply aF;obtain⟨q1,q2,q3⟩:=t C;have K:=Ca x.n aE q3;refine aU (og 11 (.plain ⟨.d (.str (itoaS x.n)),true⟩)) ?_;simp;refine⟨K,?_⟩;apply aH;simp[q1]
 .apply aP;simp;refine⟨λD=>?_,λD=>?_⟩
  .apply aD;simp;refine⟨aE,?_⟩;apply aH;simp[u D]
  .apply aP;simp;refine⟨λE=>?_,λE=>?_⟩
   .apply aD;simp;apply aH;simp[w E,sKind]
   .refine aY (ι:=BC) (λ⟨b⟩=>aQ [(1,.bx 1 0),(19,.d (.bool b))]) (λ⟨b⟩=>aL [(1,.box false [.d (aJ x.kind),.d (.str x.text),.d (aJ x.n),.d (ndsD x.kids)])]) (λ⟨b⟩=>b=true↔(x.kind=34\/x.kind=35)) ?_ λ⟨b⟩ d=>?_
    .apply aP;simp;refine⟨λF=>?_,λF=>?_⟩
     .apply aG;simp;refine aAV.mk ⟨decide (x.kind=34)⟩ (aA p [1,19] [(1,1)]) ?_;simp[F]
     .apply aI;simp;refine aAV.mk ⟨decide (x.kind=35)⟩ (aA p [1,19] [(1,1)]) ?_;simp only[decide_eq_true_eq];omega
    .apply aK;simp;refine⟨λf=>?_,λf=>?_⟩
     .have o:=d.1 f;apply aD;simp;apply aH;simp[v o]
     .have o:¬(x.kind=34\/x.kind=35):=λq=>by simp[d.2 q]at f
      apply aG;simp;apply aF;have c:x.kind<=31:=aE;obtain⟨a,e,m,H,A,I,B,l⟩:=s c;have q1:=YC (k:=x.kind) r.1 c;have q2:=CY;obtain⟨j,h⟩:∃j:Int,j=if levelAt x.kind=1 then 2 else levelAt x.kind:=⟨_,rfl⟩;rw[<-h]at l;apply aI;simp[q1];refine⟨⟨⟨aE,aE⟩,aE⟩,?_⟩;apply aD;simp;refine aY (ι:=Unit) (λi=>aQ [(1,.bx 1 0),(3,.bx 3 0),(4,.d (aJ j))]) (λi=>aL [(1,.box false [.d (aJ x.kind),.d (.str x.text),.d (aJ x.n),.d (ndsD x.kids)]),(3,.box false [.d (.str (signAt x.kind)),.d (aJ (levelAt x.kind))])]) (λi=>True) ?_ λi G=>?_
      .apply aP;simp;refine⟨λg=>?_,λg=>?_⟩
       .apply aI;simp;exact(aA p [1,3,4] [(1,1),(3,3)] (by simp[h,g]))
       .apply aG;simp;exact(aA p [1,3,4] [(1,1),(3,3)] (by simp[h,g]))
      .apply aF;rw[m]at n z;simp only[weighL]at n;have Q:=dK a H A;have S:=dK e I B;have U:=rA (decide (lvlN a.kind<j)) (exprT a);have V:=rA (decide (lvlN e.kind<levelAt x.kind+1)) (exprT e);have W:=Mo x.kind ⟨r.1,c⟩;have M:=In a j (z a bC H A aE) aE;have N:=In e (levelAt x.kind+1) (z e bC I B aE) aE;have O:=(Ux r.1 c).2.1;refine fL.rd [[],[],[],[],[],[],[51],[38,51],[38,51],[51],[51],[38],[38],[38],[38],[38],[38],[38]] [[],[],[],[],[],[38],[],[],[],[],[],[],[],[],[],[],[],[],[51]] (λ|38=>some<| .plain ⟨.d (.str (paren (decide (lvlN a.kind<j)) (exprT a))),true⟩|51=>some<| .plain ⟨.d (.str (paren (decide (lvlN e.kind<levelAt x.kind+1)) (exprT e))),true⟩|_=>none) ?_;simp[m];refine⟨⟨⟨⟨⟨⟨⟨by simpa using M,aE⟩,aE⟩,aE⟩,aE⟩,by simpa using N⟩,aE⟩,?_⟩;apply aH;simp[l]
theorem Cb(x:Nd):rightN x=true->isExprK x.kind=true->weighN x<=1000000000->Ok prog 300 [x.d] ⟨.d (.str (exprT x)),true⟩:=
 nP (p:=λx=>rightN x=true->isExprK x.kind=true->weighN x<=1000000000->Ok prog 300 [x.d] ⟨.d (.str (exprT x)),true⟩) (λ_ _ _ _ d b a c=>UF _ b a c d) x
theorem YJ:tN=wordsL.map DV.str:=rfl
theorem kR:tN.length=26:=rfl
theorem sX{k:Int}(b:0<=k)(c:k<26):tN[k.toNat]?.getD default=.str (wordAt k):=by
 have a:k.toNat<wordsL.length:=by rw[words_len];omega
 rw[YJ,List.getElem?_map,B2 a];simp[wordAt,C1,a]
theorem uN(k:Int):(wordAt k).length<=7:=by
 unfold wordAt;rw[C1];cases e:wordsL[k.toNat]? with
 |none=>simp
 |some w=>
  have:=List.mem_of_getElem? e;have h:∀w∈wordsL,w.length<=7:=bF;exact h w this
theorem tL:∀(a b:List Nd),stmtsT (a++b)=stmtsT a++stmtsT b
 |[],b=>by simp[stmtsT]
 |x::a,b=>by simp[stmtsT,tL a b]
theorem DU{l:List Nd}{i:Nat}(a:i<l.length):stmtsT (l.take (i+1))=stmtsT (l.take i)++(stmtT l[i]++[32]):=by
 rw[<-B3 a,tL];simp[stmtsT]
theorem Px{l:List Nd}{i:Nat}(a:i<l.length):withE (l.take (i+1))=withE (l.take i)++32::exprT l[i]:=by
 unfold withE;rw[<-B3 a,B1];simp
theorem Ap{l:List Nd}(h:∀e∈l,rightN e=true/\isExprK e.kind=true):(withE l).length<=9*weighL l:=by
 induction l with
 |nil=>simp[withE]
 |cons a r ih=>
  have c:=ih λy b=>h y (A6 _ b);have d:=dK a (h a bC).1 (h a bC).2;have f:1<=weighN a:=by rw[weighN_eq];omega
  have e:withE (a::r)=32::exprT a++withE r:=by simp[withE]
  rw[e,weighL];simp only[A0,A1];omega
def UG(t e:bA):bA:=36::t++32::61::32::(e++[59])
def UH(p e:bA):bA:=p++32::61::32::(e++[59])
def Sp(w e b:bA):bA:=w++32::(e++32::b)
def Io(a c:bA):bA:=a++32::(sElse++32::c)
theorem Gd{l:List Nd}(h:∀e∈l,rightN e=true/\isExprK e.kind=true)(i:Nat):(withE (l.take i)).length<=9*weighL l:=by
 have a:=Ap h;have b:withE (l.take i)++withE (l.drop i)=withE l:=by unfold withE;rw[<-B1,B4]
 rw[<-b,A0]at a;omega
theorem Sq{x e:Nd}(h:x.kind=9)(a:x.kids=[e]):stmtT x=UG x.text (exprT e):=by
 cases x;simp only[eJ,rP]at h a;subst a;subst h;simp[stmtT,UG]
theorem Mp{x p e:Nd}(h:x.kind=10)(a:x.kids=[p,e]):stmtT x=UH (exprT p) (exprT e):=by
 cases x;simp only[eJ,rP]at h a;subst a;subst h;simp[stmtT,UH]
theorem Ip{x e b:Nd}(h:x.kind=11\/x.kind=12)(a:x.kids=[e,b]):stmtT x=Sp (wordAt x.kind) (exprT e) (blockT b):=by
 cases x;simp only[eJ,rP]at h a;subst a;rcases h with rfl|rfl<;>simp[stmtT,Sp]
theorem Iq{x e b c:Nd}(h:x.kind=11\/x.kind=12)(a:x.kids=[e,b,c]):stmtT x=Io (Sp (wordAt x.kind) (exprT e) (blockT b)) (blockT c):=by
 cases x;simp only[eJ,rP]at h a;subst a;rcases h with rfl|rfl<;>simp[stmtT,Sp,Io]
theorem Sr{x:Nd}(h:13<=x.kind):stmtT x=wordAt x.kind++midT x.kind x.text++withN x.n++withE x.kids++[59]:=by
 cases x;exact Im _ _ _ h
theorem uO(x:Nd):blockT x=123::32::(stmtsT x.kids++[125]):=by cases x;unfold blockT;rfl
def aBi(x:Nd):Prop:=rightN x=true/\isExprK x.kind=true
theorem Ge{x:Nd}(o:rightN x=true)(l:isStmtK x.kind=true):(9<=x.kind/\x.kind<=25)/\(x.kind=9->∃k:0<x.kids.length,aBi x.kids[0]/\stmtT x=UG x.text (exprT x.kids[0]))/\
 (x.kind=10->∃(k:0<x.kids.length) (a:1<x.kids.length),aBi x.kids[0]/\aBi x.kids[1]/\stmtT x=UH (exprT x.kids[0]) (exprT x.kids[1]))/\
 (x.kind=11\/x.kind=12->∃(k:0<x.kids.length) (a:1<x.kids.length),aBi x.kids[0]/\jY x.kids[1]/\((x.kids.length=2/\stmtT x=Sp (wordAt x.kind) (exprT x.kids[0]) (blockT x.kids[1]))\/
   ∃d:2<x.kids.length,jY x.kids[2]/\stmtT x=Io (Sp (wordAt x.kind) (exprT x.kids[0]) (blockT x.kids[1])) (blockT x.kids[2])))/\
 (13<=x.kind->Pp x.kind x.text x.n x.kids):=by
 refine⟨isStmtK_iff.1 l,?_⟩;rcases Gb o l with⟨s,e,g,a,d,f⟩|⟨p,e,g,a,d,f,i⟩|⟨q,e,b,j,g,a,d,f,i⟩|⟨e,b,c,g,a,d,f,i,m,n⟩|⟨q,s,t,r,a,d,g,f⟩
 .subst g;exact⟨λ_=>⟨bC,⟨d,f⟩,Sq rfl rfl⟩,λh=>by simp at h,λh=>by simp at h,λh=>by simp at h⟩
 .subst g;exact⟨λh=>by simp at h,λ_=>⟨bC,bC,⟨a,rR d⟩,⟨f,i⟩,Mp rfl rfl⟩,λh=>by simp at h,λh=>by simp at h⟩
 .subst g;exact⟨λh=>by simp at h;omega,λh=>by simp at h;omega,λ_=>⟨bC,bC,⟨a,d⟩,iK f i,.inl ⟨rfl,Ip j rfl⟩⟩,λh=>by simp at h;omega⟩
 .subst g;exact⟨λh=>by simp at h,λh=>by simp at h,λ_=>⟨bC,bC,⟨a,d⟩,iK f i,.inr ⟨bC,iK m n,Iq (.inl rfl) rfl⟩⟩,λh=>by simp at h⟩
 .subst g;exact⟨λh=>by simp at h;omega,λh=>by simp at h;omega,λh=>by simp at h;omega,λ_=>f⟩
theorem Kb(k:Int)(t:bA):(midT k t).length<=t.length+2:=by
 unfold midT;split
 .simp
 .split<;>simp
theorem CZ(n:Int):(withN n).length<=5:=by
 have:=cG n;unfold withN;split
 .simp only[A1];omega
 .simp
theorem wU{l:List Nd}(h:∀y∈l,(stmtT y).length+1<=40*weighN y)(i:Nat):(stmtsT (l.take i)).length<=40*weighL l:=by
 have c:∀l:List Nd,(∀y∈l,(stmtT y).length+1<=40*weighN y)->(stmtsT l).length<=40*weighL l:=λl=>by
  induction l with
  |nil=>intro _;simp[stmtsT]
  |cons a r ih=>
   intro h;have d:=ih λy e=>h y (A6 _ e);have b:=h a bC;have f:1<=weighN a:=by rw[weighN_eq];omega
   simp only[stmtsT,weighL,A0,A1];omega
 have d:=c l h;have b:=tL (l.take i) (l.drop i);rw[B4]at b;rw[b,A0]at d;omega
theorem eX(x:Nd):(rightN x=true->isStmtK x.kind=true->(stmtT x).length+1<=40*weighN x)/\(jY x->(blockT x).length<=40*weighN x):=by
 refine nP (p:=λx=>(rightN x=true->isStmtK x.kind=true->(stmtT x).length+1<=40*weighN x)/\(jY x->(blockT x).length<=40*weighN x)) (λk t n w m=>⟨?_,?_⟩) x
 .intro D C;have q:weighN (.mk k t n w)=weighL w+t.length+1:=by rw[weighN]
  have E:=uN k;rcases Gb D C with⟨G,e,d,g,i,f⟩|⟨p,e,d,g,i,f,o⟩|⟨F,e,b,u,d,g,i,f,o⟩|⟨e,b,c,d,g,i,f,o,A,B⟩|⟨F,G,H,z,g,i,d,f⟩
  .injection d with i1 i2 i3 i4
   subst i1;subst i2;subst i4;have:=dK e i f;rw[Sq rfl rfl,q];simp only[UG,weighL,A0,A1,A8,Pn];omega
  .injection d with i1 i2 i3 i4
   subst i1;subst i4;have:=dK e f o;have:=dK p g (rR i);rw[Mp rfl rfl,q];simp only[UH,weighL,A0,A1,A8];omega
  .injection d with i1 i2 i3 i4
   subst i1;subst i4;have:=dK e g i;have:=(m b bC).2 (iK f o);rw[Ip (x:=.mk k t n [e,b]) u rfl,q];simp only[Sp,weighL,A0,A1,eJ];omega
  .injection d with i1 i2 i3 i4
   subst i1;subst i4;have:=dK e g i;have:=(m b bC).2 (iK f o);have:=(m c bC).2 (iK A B);rw[Iq (.inl rfl) rfl,q];simp only[Sp,Io,weighL,A0,A1,eJ,show sElse.length=4 from rfl];omega
  .injection d with i1 i2 i3 i4
   subst i1;subst i2;subst i3;subst i4;have:=Ap (Am f).2.2.2;have:=Kb k t;have:=CZ n;rw[Im _ _ _ g,q];simp only[A0,A1,A8];omega
 .rintro⟨z,d,s⟩;injection d with i1 i2 i3 i4
  subst i4;have v:∀l:List Nd,(∀y∈l,(stmtT y).length+1<=40*weighN y)->(stmtsT l).length<=40*weighL l:=λl=>by
   induction l with
   |nil=>intro _;simp[stmtsT]
   |cons a r m=>
    intro h;have g:=m λy s=>h y (A6 _ s);have i:=h a bC;have f:1<=weighN a:=by rw[weighN_eq];omega
    simp only[stmtsT,weighL,A0,A1];omega
  have:=v w λy j=>(m y j).1 (s y j).1 (s y j).2;rw[uO,weighN];simp only[rP,A0,A1,A8];omega
theorem Py(x:Nd)(d:jY x)(p:weighN x<=1000000000)(o:∀y∈x.kids,Ok prog 240 [y.d] ⟨.d (.str (stmtT y)),true⟩):Ok prog 166 [x.d] ⟨.d (.str (blockT x)),true⟩:=by
 refine bL func166 rfl ntmps166 results166 λv X e=>?_;have b:=(eX x).2 d;have n:=jZ x;have a:∀y∈x.kids,rightN y=true/\isStmtK y.kind=true:=by obtain⟨q,rfl,h⟩:=d;exact h
 apply aD;simp;apply aD;simp;apply dA;simp;apply aM;refine aO (ι:=Nat) (λi=>aQ [(3,.d (.str (123::32::stmtsT (x.kids.take i)))),(7,.d (ndsD x.kids)),(8,.d (aJ x.kids.length)),(9,.d (aJ i))]) (λi=>aL []) (λi=>i<=x.kids.length) (λi=>x.kids.length-i) 0 (aA e [3,7,8,9] [] (by simp[stmtsT])) (A9 _) λi k=>?_;apply aD;simp;apply aF;apply aK;simp;refine⟨λj=>?_,λj=>?_⟩
 .apply aG;simp;apply cR;apply aF;have c:i<x.kids.length:=aE;apply aI;simp[c];have m:=o _ (A2 c);have f:=a _ (A2 c);have r:=(eX x.kids[i]).1 f.1 f.2;have s:=kQ c;have t:=wU (l:=x.kids) (λy g=>(eX y).1 (a y g).1 (a y g).2) i;have u:=weighN_eq x;refine aU (og 15 (.plain ⟨.d (.str (stmtT x.kids[i])),true⟩)) ?_;simp;refine⟨⟨⟨by simpa using m,aE⟩,aE⟩,?_⟩;apply aI;simp;refine⟨aE,?_⟩;refine QT.mk (i+1) (aA e [3,7,8,9] [] (by simp[DU c])) ?_ ?_
  .omega
  .omega
 .apply bG;simp;apply aF;have c:i=x.kids.length:=aE;subst c;rw[B8];rw[uO]at b;simp only[A0,A1]at b;apply aI;simp;refine⟨aE,?_⟩;apply aH;simp[uO]
theorem UI(x:Nd)(hr:rightN x=true)(Y:isStmtK x.kind=true)(hw:weighN x<=1000000000)(A:∀y∈x.kids,jY y->Ok prog 166 [y.d] ⟨.d (.str (blockT y)),true⟩):Ok prog 240 [x.d] ⟨.d (.str (stmtT x)),true⟩:=by
 refine bL func240 rfl ntmps240 results240 λN X c=>?_;obtain⟨f0,f9,F,G,H⟩:=Ge hr Y;have a0:=weighN_eq x;have Z:=(eX x).1 hr Y;have wl:=uN x.kind;have q2:=kR;have a:∀(i:Nat) (f:i<x.kids.length),weighN x.kids[i]<weighN x:=λi f=>kQ f;apply aD;simp;apply dA;simp;apply aM;apply aP;simp;refine⟨λJ=>?_,λJ=>?_⟩
 .apply aF;obtain⟨h,d,e⟩:=f9 J;have N:=a 0 h;have l0:=dK _ d.1 d.2;have s:=Cb _ d.1 d.2 aE;refine fL.rd [[19],[19],[19],[19]] [[],[],[],[],[],[],[],[],[19]] (og 19 (.plain ⟨.d (.str (exprT x.kids[0])),true⟩)) ?_;simp[h];refine⟨⟨⟨⟨⟨aE,aE⟩,by simpa using s⟩,aE⟩,aE⟩,?_⟩;apply aH;simp[e,UG]
 .apply aP;simp;refine⟨λQ=>?_,λQ=>?_⟩
  .apply aF;obtain⟨h,r,d,B,e⟩:=F Q;have N:=a 0 h;have w1:=a 1 r;have l0:=dK _ d.1 d.2;have l1:=dK _ B.1 B.2;have s:=Cb _ d.1 d.2 aE;have D:=Cb _ B.1 B.2 aE;refine fL.rd [[],[],[],[],[],[34],[28],[28],[28],[28]] [[],[],[],[],[28],[],[],[],[],[],[34]] (λ|28=>some<| .plain ⟨.d (.str (exprT x.kids[0])),true⟩|34=>some<| .plain ⟨.d (.str (exprT x.kids[1])),true⟩|_=>none) ?_;simp[h,r];refine⟨by(repeat' with_reducible apply And.intro)<;>first|omega|(simpa using s)|(simpa using D),?_⟩;apply aH;simp[e,UH]
  .refine aY (ι:=BC) (λ⟨b⟩=>aQ [(1,.bx 1 0),(37,.d (.bool b))]) (λ⟨b⟩=>aL [(1,.box false [.d (aJ x.kind),.d (.str x.text),.d (aJ x.n),.d (ndsD x.kids)])]) (λ⟨b⟩=>b=true↔(x.kind=11\/x.kind=12)) ?_ λ⟨b⟩ z=>?_
   .apply aP;simp;refine⟨λS=>?_,λS=>?_⟩
    .apply aG;simp;refine aAV.mk ⟨decide (x.kind=11)⟩ (aA c [1,37] [(1,1)]) ?_;simp[S]
    .apply aI;simp;refine aAV.mk ⟨decide (x.kind=12)⟩ (aA c [1,37] [(1,1)]) ?_;simp only[decide_eq_true_eq];omega
   .apply aK;simp;refine⟨λL=>?_,λL=>?_⟩
    .have q8:=z.1 L;apply aF;obtain⟨h,r,d,O,e⟩:=G q8;have N:=a 0 h;have w1:=a 1 r;have l0:=dK _ d.1 d.2;have l1:=(eX x.kids[1]).2 O;have s:=Cb _ d.1 d.2 aE;have D:=A _ (A2 r) O;have q1:=sX (k:=x.kind) aE aE;refine fL.rd [[49,56],[49,56],[49,56],[49,56],[49,56],[],[],[],[],[],[56],[56],[49],[49],[49],[49]] [[],[],[],[],[],[],[],[],[],[49],[],[],[],[],[],[],[56]] (λ|49=>some<| .plain ⟨.d (.str (exprT x.kids[0])),true⟩|56=>some<| .plain ⟨.d (.str (blockT x.kids[1])),true⟩|_=>none) ?_;simp[h,r,q1];refine⟨⟨⟨⟨⟨⟨⟨⟨⟨aE,aE⟩,aE⟩,by simpa using s⟩,aE⟩,aE⟩,aE⟩,by simpa using D⟩,aE⟩,?_⟩;apply aF;apply aP;simp;refine⟨λh9=>?_,λh9=>?_⟩
     .have o:2<x.kids.length:=aE;rcases e with⟨e,_⟩|⟨_,P,e⟩
      .omega
      have w2:=a 2 o;have l2:=(eX x.kids[2]).2 P;have c2:=A _ (A2 o) P;refine aU (og 67 (.plain ⟨.d (.str (blockT x.kids[2])),true⟩)) ?_;simp[o];refine⟨by(repeat' with_reducible apply And.intro)<;>first|omega|(simpa using c2),?_⟩;apply aD;simp;apply aH;simp[e,Sp,Io,sElse]
     .apply aG;simp;apply aD;simp;apply aH;rcases e with⟨_,e⟩|⟨J,_,_⟩
      .simp[e,Sp]
      .omega
    .have q8:¬(x.kind=11\/x.kind=12):=λq=>by simp[z.2 q]at L
     apply aG;simp;apply aF;have M:=H aE;obtain⟨g1,g2,g3,I⟩:=Am M;have e:=Sr (x:=x) aE;have ml:=Kb x.kind x.text;have nl:=CZ x.n;have kl:=Ap I;have q1:=sX (k:=x.kind) aE aE;apply aI;simp[q1];refine⟨by(repeat' with_reducible apply And.intro)<;>omega,?_⟩;refine aY (ι:=Unit) (λi=>aQ [(1,.bx 1 0),(4,.d (.str (wordAt x.kind++midT x.kind x.text)))]) (λi=>aL [(1,.box false [.d (aJ x.kind),.d (.str x.text),.d (aJ x.n),.d (ndsD x.kids)])]) (λi=>True) ?_ λi U=>?_
     .apply aD;simp;apply aM;refine aY (ι:=BC) (λ⟨b⟩=>aQ [(1,.bx 1 0),(4,.d (.str (wordAt x.kind))),(76,.d (aJ x.kind)),(82,.d (.bool b))]) (λ⟨b⟩=>aL [(1,.box false [.d (aJ x.kind),.d (.str x.text),.d (aJ x.n),.d (ndsD x.kids)])]) (λ⟨b⟩=>b=true↔(x.kind=19\/x.kind=20)) ?_ λ⟨b⟩ l=>?_
      .apply aP;simp;refine⟨λt=>?_,λt=>?_⟩
       .apply aG;simp;refine aAV.mk ⟨decide (x.kind=19)⟩ (aA c [1,4,76,82] [(1,1)]) ?_;simp[t]
       .apply aI;simp;refine aAV.mk ⟨decide (x.kind=20)⟩ (aA c [1,4,76,82] [(1,1)]) ?_;simp only[decide_eq_true_eq];omega
      .apply aK;simp;refine⟨λn=>?_,λn=>?_⟩
       .have g:=l.1 n;apply aI;simp;refine⟨by(repeat' with_reducible apply And.intro)<;>omega,?_⟩;exact(aA c [1,4] [(1,1)] (by simp[midT,g]))
       .have g:¬(x.kind=19\/x.kind=20):=λq=>by simp[l.2 q]at n
        refine aY (ι:=BC) (λ⟨b⟩=>aQ [(1,.bx 1 0),(4,.d (.str (wordAt x.kind))),(76,.d (aJ x.kind)),(90,.d (.bool b))]) (λ⟨b⟩=>aL [(1,.box false [.d (aJ x.kind),.d (.str x.text),.d (aJ x.n),.d (ndsD x.kids)])]) (λ⟨b⟩=>b=true↔(x.kind=21\/x.kind=25\/x.kind=24)) ?_ λ⟨b⟩ j=>?_
        .apply aP;simp;refine⟨λu=>?_,λu=>?_⟩
         .apply aG;simp;refine aAV.mk ⟨decide (x.kind=21)⟩ (aA c [1,4,76,90] [(1,1)]) ?_;simp[u]
         .apply aP;simp;refine⟨λv=>?_,λv=>?_⟩
          .apply aG;simp;refine aAV.mk ⟨decide (x.kind=25)⟩ (aA c [1,4,76,90] [(1,1)]) ?_;simp[v]
          .apply aI;simp;refine aAV.mk ⟨decide (x.kind=24)⟩ (aA c [1,4,76,90] [(1,1)]) ?_;simp only[decide_eq_true_eq];omega
        .apply aK;simp;refine⟨λm=>?_,λm=>?_⟩
         .have p:=j.1 m;apply aG;simp;exact(aA c [1,4] [(1,1)] (by simp[midT,g,p]))
         .have p:¬(x.kind=21\/x.kind=25\/x.kind=24):=λq=>by simp[j.2 q]at m
          apply aI;simp;refine⟨by(repeat' with_reducible apply And.intro)<;>omega,?_⟩;exact(aA c [1,4] [(1,1)] (by simp[midT,g,p]))
     .refine aY (ι:=Unit) (λi=>aQ [(1,.bx 1 0),(4,.d (.str (wordAt x.kind++(midT x.kind x.text++withN x.n))))]) (λi=>aL [(1,.box false [.d (aJ x.kind),.d (.str x.text),.d (aJ x.n),.d (ndsD x.kids)])]) (λi=>True) ?_ λi V=>?_
      .apply aP;simp;refine⟨λw=>?_,λw=>?_⟩
       .have E:=Ca x.n aE g3;have hn:withN x.n=32::itoaS x.n:=by unfold withN;rw[if_pos w]
        have il:=cG x.n;refine aU (og 100 (.plain ⟨.d (.str (itoaS x.n)),true⟩)) ?_;simp;refine⟨by(repeat' with_reducible apply And.intro)<;>first|omega|(simpa using E)|(simp only[A0];omega),?_⟩;exact(aA c [1,4] [(1,1)] (by simp[hn]))
       .apply aG;simp;exact(aA c [1,4] [(1,1)] (by simp[withN,show¬0<x.n by omega]))
      .apply dA;simp;apply aM;refine aO (ι:=Nat) (λi=>aQ [(4,.d (.str (wordAt x.kind++(midT x.kind x.text++(withN x.n++withE (x.kids.take i)))))),(104,.d (ndsD x.kids)),(105,.d (aJ x.kids.length)),(106,.d (aJ i))]) (λi=>aL []) (λi=>i<=x.kids.length) (λi=>x.kids.length-i) 0 (aA c [4,104,105,106] [] (by simp[withE])) (A9 _) λi W=>?_;apply aD;simp;apply aF;apply aK;simp;refine⟨λK=>?_,λK=>?_⟩
       .apply aG;simp;apply cR;apply aF;have f:i<x.kids.length:=aE;apply aI;simp[f];have C:=I _ (A2 f);have wi:=a i f;have li:=dK _ C.1 C.2;have E:=Cb _ C.1 C.2 aE;have lt:=Gd I i;refine aU (og 112 (.plain ⟨.d (.str (exprT x.kids[i])),true⟩)) ?_;simp;refine⟨by(repeat' with_reducible apply And.intro)<;>first|omega|(simpa using E)|(simp only[A0];omega),?_⟩;have:=jZ x;apply aI;simp;refine⟨aE,?_⟩;refine QT.mk (i+1) (aA c [4,104,105,106] [] (by simp[Px f])) ?_ ?_
        .omega
        .omega
       .apply bG;simp;apply aF;have f:i=x.kids.length:=aE;subst f;rw[B8];apply aI;simp;refine⟨by first|omega|(simp only[A0];omega),?_⟩;apply aH;simp[e]
theorem aD1(x:Nd):(rightN x=true->isStmtK x.kind=true->weighN x<=1000000000->Ok prog 240 [x.d] ⟨.d (.str (stmtT x)),true⟩)/\(jY x->weighN x<=1000000000->Ok prog 166 [x.d] ⟨.d (.str (blockT x)),true⟩):=by
 refine nP (p:=λx=>(rightN x=true->isStmtK x.kind=true->weighN x<=1000000000->Ok prog 240 [x.d] ⟨.d (.str (stmtT x)),true⟩)/\(jY x->weighN x<=1000000000->Ok prog 166 [x.d] ⟨.d (.str (blockT x)),true⟩)) (λk t n g f=>⟨?_,?_⟩) x
 .intro i h d;have c:∀y∈g,weighN y<=1000000000:=λy a=>by have:=weigh_mem a;rw[weighN]at d;omega
  exact UI _ i h d λy a e=>(f y a).2 e (c y a)
 .intro e d;have c:∀y∈g,weighN y<=1000000000:=λy a=>by have:=weigh_mem a;rw[weighN]at d;omega
  obtain⟨l,j,a⟩:=id e;injection j with i1 i2 i3 i4
  exact Py _ e d λy b=>(f y b).1 (a y (i4▸b)).1 (a y (i4▸b)).2 (c y b)
theorem UJ{x:Nd}:(itemT x).length<=9*weighN x:=by
 have:=cG x.n;rw[weighN_eq];simp only[itemT,A0,A1,A8];omega
theorem rW:∀l:List Nd,(l.flatMap itemT).length<=9*weighL l
 |[]=>bC
 |a::r=>by
  have b:=rW r;have c:=UJ (x:=a);simp only[List.flatMap_cons,weighL,A0];omega
theorem Gf{l:List Nd}{i:Nat}(a:i<l.length):(l.take (i+1)).flatMap itemT=(l.take i).flatMap itemT++itemT l[i]:=by
 rw[<-B3 a,B1];simp
theorem yQ{l:List Nd}(i:Nat):((l.take i).flatMap itemT).length<=9*weighL l:=by
 have a:=rW l;have b:(l.take i).flatMap itemT++(l.drop i).flatMap itemT=l.flatMap itemT:=by rw[<-B1,B4]
 rw[<-b,A0]at a;omega
def lM(l:List Nd):bA:=l.flatMap itemT
theorem Ss(x:Nd)(f:Ps x)(S:weighN x<=1000000000):Ok prog 88 [x.d] ⟨.d (.str (textT x)),true⟩:=by
 refine bL func88 rfl ntmps88 results88 λY X s=>?_;obtain⟨Q,f⟩:=f;have r:=weighN_eq x;have Z:=uN x.kind;have q2:=kR;have M:0<=x.kind/\x.kind<=6:=by rcases f with⟨h|h,_⟩|⟨h,_⟩|⟨h,_⟩|⟨h,_⟩|⟨h|h,_⟩<;>omega
 have q1:=sX (k:=x.kind) aE aE;have U:=cG x.n;apply aD;simp;apply aF;refine fL.rd [] [] (λ_=>none) ?_;simp[q1];refine⟨by(repeat' with_reducible apply And.intro)<;>omega,?_⟩;apply dA;simp;apply aM;refine aY (ι:=BC) (λ⟨b⟩=>aQ [(1,.bx 1 0),(3,.d (.str (wordAt x.kind++32::x.text))),(15,.d (aJ x.kind)),(16,.d (.bool b))]) (λ⟨b⟩=>aL [(1,.box false [.d (aJ x.kind),.d (.str x.text),.d (aJ x.n),.d (ndsD x.kids)])]) (λ⟨b⟩=>b=true↔(x.kind=5\/x.kind=6)) ?_ λ⟨b⟩ p=>?_
 .apply aP;simp;refine⟨λz=>?_,λz=>?_⟩
  .apply aG;simp;refine aAV.mk ⟨decide (x.kind=5)⟩ (aA s [1,3,15,16] [(1,1)]) ?_;simp[z]
  .apply aI;simp;refine aAV.mk ⟨decide (x.kind=6)⟩ (aA s [1,3,15,16] [(1,1)]) ?_;simp only[decide_eq_true_eq];omega
 .apply aK;simp;refine⟨λt=>?_,λt=>?_⟩
  .have m:=p.1 t;apply aF;have u:∃b,x=.mk x.kind x.text 0 [b]/\jY b:=by
    rcases f with⟨_,h⟩|⟨h,_⟩|⟨h,_⟩|⟨h,_⟩|⟨h|h,_⟩<;>first|exact h|omega
   obtain⟨c,E,A⟩:=u;have g:x.kids=[c]:=by rw[E];rfl
   rw[g]at r;simp only[weighL]at r;have K:=(eX c).2 A;have G:=(aD1 c).2 A aE;refine aU (og 25 (.plain ⟨.d (.str (blockT c)),true⟩)) ?_;simp[g];refine⟨⟨⟨aE,by simpa using G⟩,aE⟩,?_⟩;apply aH;simp[textT,m,g]
  .have m:¬(x.kind=5\/x.kind=6):=λq=>by simp[p.2 q]at t
   apply aP;simp;refine⟨λo=>?_,λo=>?_⟩
   .apply aF;have v:∀y∈x.kids,Sl y:=by
     rcases f with⟨h|h,_⟩|⟨_,_,h⟩|⟨h,_⟩|⟨h,_⟩|⟨h|h,_⟩<;>first|exact h|omega
    apply aI;simp;refine⟨aE,?_⟩;apply dA;simp;apply aM;refine aO (ι:=Nat) (λi=>aQ [(3,.d (.str (wordAt x.kind++32::(x.text++32::123::32::lM (x.kids.take i))))),(32,.d (ndsD x.kids)),(33,.d (aJ x.kids.length)),(34,.d (aJ i))]) (λi=>aL []) (λi=>i<=x.kids.length) (λi=>x.kids.length-i) 0 (aA s [3,32,33,34] [] (by simp[lM])) (A9 _) λi D=>?_;apply aD;simp;apply aF;apply aK;simp;refine⟨λC=>?_,λC=>?_⟩
    .apply aG;simp;apply cR;apply aF;have j:i<x.kids.length:=aE;apply aI;simp[j];obtain⟨W,I,F,N,O,P⟩:=v _ (A2 j);have L:x.kids[i].n=I:=by rw[F];rfl
     have n:=Ca x.kids[i].n aE aE;have w:=yQ (l:=x.kids) i;have V:=cG x.kids[i].n;have J:=kQ j;rw[weighN_eq x.kids[i]]at J;have H:(lM (x.kids.take i)).length<=9*weighL x.kids:=w;refine fL.rd [[44],[44],[44],[44]] [[],[],[],[],[],[],[44]] (og 44 (.plain ⟨.d (.str (itoaS x.kids[i].n)),true⟩)) ?_;simp;refine⟨by(repeat' with_reducible apply And.intro)<;>first|omega|exact n|(simp only[A0,A1];omega),?_⟩;have:=jZ x;apply aI;simp;refine⟨aE,?_⟩;refine QT.mk (i+1) (aA s [3,32,33,34] [] (by simp[lM,Gf j,itemT])) ?_ ?_
     .omega
     .omega
    .apply bG;simp;apply aF;have j:i=x.kids.length:=aE;subst j;rw[B8];have w:=rW x.kids;have H:(lM x.kids).length<=9*weighL x.kids:=w;apply aI;simp;refine⟨aE,?_⟩;apply aH;simp[textT,m,o,lM]
   .apply aP;simp;refine⟨λa=>?_,λa=>?_⟩
    .have d: -999<=x.n/\x.n<=999:=by
      rcases f with⟨h|h,_⟩|⟨h,_⟩|⟨_,_,h⟩|⟨h,_⟩|⟨h|h,_⟩<;>omega
     have n:=Ca x.n d.1 d.2;refine aU (og 56 (.plain ⟨.d (.str (itoaS x.n)),true⟩)) ?_;simp;refine⟨by(repeat' with_reducible apply And.intro)<;>first|omega|exact n,?_⟩;apply aD;simp;refine⟨aE,?_⟩;apply aH;simp[textT,m,o,a]
    .apply aP;simp;refine⟨λe=>?_,λe=>?_⟩
     .have B:0<=x.n/\x.n<=3:=by
       rcases f with⟨h|h,_⟩|⟨h,_⟩|⟨h,_⟩|⟨_,_,h⟩|⟨h|h,_⟩<;>omega
      have n:=Ca x.n aE aE;refine aU (og 64 (.plain ⟨.d (.str (itoaS x.n)),true⟩)) ?_;simp;refine⟨by(repeat' with_reducible apply And.intro)<;>first|omega|exact n,?_⟩;apply aD;simp;refine⟨aE,?_⟩;apply aH;simp[textT,m,o,a,e]
     .apply aG;simp;apply aD;simp;refine⟨aE,?_⟩;apply aH;simp[textT,m,o,a,e]
end
section
attribute[local simp] aW bJ bE aR
attribute[local simp] lB.cond Nd.d_eq nd_t nd_dr nd_td ndsD aX
theorem Bh(c:UInt8):letterB c=(decide (97<=(c.toNat:Int))&&decide ((c.toNat:Int)<=122)):=by
 unfold letterB;congr 1<;>(rw[decide_eq_decide,C5];exact⟨λh=>by have:(97:UInt8).toNat=97:=rfl;have:(122:UInt8).toNat=122:=rfl;omega,λh=>by have:(97:UInt8).toNat=97:=rfl;have:(122:UInt8).toNat=122:=rfl;omega⟩)
theorem Da(c:UInt8):digitB c=(decide (48<=(c.toNat:Int))&&decide ((c.toNat:Int)<=57)):=by
 unfold digitB;congr 1<;>(rw[decide_eq_decide,C5];exact⟨λh=>by have:(48:UInt8).toNat=48:=rfl;have:(57:UInt8).toNat=57:=rfl;omega,λh=>by have:(48:UInt8).toNat=48:=rfl;have:(57:UInt8).toNat=57:=rfl;omega⟩)
theorem Aq(c:UInt8):Ok prog 228 [.int .u8 (c.toNat:Int)] ⟨.d (.bool (letterB c)),true⟩:=by
 refine bL func228 rfl ntmps228 results228 λb X a=>?_;apply aD;simp;apply aD;simp;apply aH;simp[Bh]
theorem yR(c:UInt8):Ok prog 230 [.int .u8 (c.toNat:Int)] ⟨.d (.bool (digitB c)),true⟩:=by
 refine bL func230 rfl ntmps230 results230 λb X a=>?_;apply aD;simp;apply aD;simp;apply aH;simp[Da]
theorem YK(s:bA)(p:UInt8->Bool)(g:FuncId)(n:∀c:UInt8,Ok prog g [.int .u8 (c.toNat:Int)] ⟨.d (.bool (p c)),true⟩)(d:s.length<=9223372036854775807):Ok prog 231 [.str s,.fn g []] ⟨.d (aJ (runP p s)),true⟩:=by
 refine bL func231 rfl ntmps231 results231 λr X e=>?_;apply aD;simp;apply aD;simp;apply cR;refine aO (ι:=Nat) (λi=>aQ [(0,.d (.str s)),(1,.d (.fn g [])),(5,.d (aJ i))]) (λi=>aL []) (λi=>i<=s.length/\∀(j:Nat) (h:j<s.length),j<i->p s[j]=true) (λi=>s.length-i) 0 (aA e [0,1,5] []) (⟨A9 _,λj _ h=>absurd h (D4 _)⟩) λi a=>?_;apply eG;have m:=n (s.getD i 0);refine aU (og 15 (.plain ⟨.d (.bool (p (s.getD i 0))),true⟩)) ?_;simp[eU];refine⟨λ_=>by simpa using m,?_⟩;apply aK;simp;refine⟨λk l=>?_,λg=>?_⟩
 .apply aG;simp;apply aM;apply aI;simp;refine⟨aE,?_⟩;refine QT.mk (i+1) (aA e [0,1,5] []) ?_ ?_
  .refine⟨aE,λj b q=>?_⟩;rcases D6 j i with f|f
   .exact a.2 j b f
   .have:j=i:=aE;subst this;simpa [k]using l
  .omega
 .apply bG;simp;apply aD;simp;apply aH;simp;have o:=runP_eq (p:=p) (s:=s) a.1 (λj b=>a.2 j aE b) (λd=>by
   have:=g d;simpa [d]using this)
  omega
theorem YL(c:UInt8):Ok prog 281 [.int .u8 (c.toNat:Int)] ⟨.d (.bool (letterB c||digitB c)),true⟩:=by
 refine bL func281 rfl ntmps281 results281 λb X a=>?_;apply aD;simp;refine cP (λ|4=>some<| .plain ⟨.d (.bool (letterB c)),true⟩|7=>some<| .plain ⟨.d (.bool (digitB c)),true⟩|_=>none) ?_;simp;refine⟨⟨Aq c,λ_=>yR c⟩,?_⟩;apply aH;simp
theorem Db(s:bA):wordN s=if s=[]\/letterB (s[0]?.getD 0)=false then 0 else if 16<runP (λc=>letterB c||digitB c) s then 0 else runP (λc=>letterB c||digitB c) s:=by
 cases s with
 |nil=>rfl
 |cons c r=>
  have e:((c::r)[0]?.getD 0)=c:=rfl;rw[e];unfold wordN;generalize runP (λc=>letterB c||digitB c) (c::r)=n;by_cases q:letterB c=true
  .simp only[q,if_true];by_cases h:n<=16
   .simp[h,show¬16<n by omega]
   .simp[h,show 16<n by omega]
  .simp[q]
theorem Kc(s:bA)(e:s.length<=9223372036854775807):Ok prog 229 [.str s] ⟨.d (aJ (wordN s)),true⟩:=by
 refine bL func229 rfl ntmps229 results229 λj X i=>?_;apply aD;simp;apply aF;refine cP (og 9 (.plain ⟨.d (.bool (letterB (s.getD 0 0))),true⟩)) ?_;simp;refine⟨⟨λh=>B9.2 h,λ_=>Aq _⟩,?_⟩;apply aK;simp;refine⟨λg=>?_,λa b=>?_⟩
 .apply aD;simp;apply aH;simp;rw[Db,if_pos g];rfl
 .apply aG;simp;apply aF;have f:=YK s (λc=>letterB c||digitB c) 281 (λc=>YL c) e;refine aU (og 13 (.plain ⟨.d (aJ (runP (λc=>letterB c||digitB c) s)),true⟩)) ?_;simp;refine⟨by simpa using f,?_⟩;apply aF;apply aP;simp;refine⟨λd=>?_,λd=>?_⟩
  .apply aD;simp;apply aH;simp;rw[Db,if_neg,if_pos aE]
   .rfl
   intro q;rcases q with q|q
   .exact a (by simpa using q)
   .simp[q]at b
  .apply aG;simp;apply aD;simp;apply aH;simp;rw[Db,if_neg,if_neg aE];intro q;rcases q with q|q
   .exact a (by simpa using q)
   .simp[q]at b
theorem Bi:B5 26 tN=wordsL.map DV.str:=rfl
theorem Mq(s:bA):Ok prog 284 [.str s] ⟨.d (.bool (reservedB s)),true⟩:=by
 refine bL func284 rfl ntmps284 results284 λc X b=>?_;apply aD;simp;apply aF;have a:=Mm wordsL s;have q2:=kR;refine aU (og 12 (.plain ⟨.d (.bool (decide (s∈wordsL))),true⟩)) ?_;simp[Bi];refine⟨⟨λ_ _=>aE,λ_ _=>a⟩,?_⟩;apply aH;simp;show _=(decide (s=[101,108,115,101])||decide (s=[107,105,110,100])||decide (s∈wordsL));simp only[Bool.beq_eq_decide_eq]
theorem Ir(s:bA):Ok prog 234 [.str s] ⟨.d (.bool (isNameB s)),true⟩:=by
 refine bL func234 rfl ntmps234 results234 λb X a=>?_;apply aD;simp;refine cP (λ|8=>some<| .plain ⟨.d (.bool (letterB (s.getD 0 0))),true⟩|12=>some<| .plain ⟨.d (.bool (reservedB s)),true⟩|_=>none) ?_;simp;refine⟨⟨⟨λh=>B9.2 h,λ_=>Aq _⟩,λ_ _=>Mq s⟩,?_⟩;apply aH;cases s<;>simp[isNameB]
theorem Cc(s:bA)(b:Bool)(e:s.length<=9223372036854775807):Ok prog 299 [.str s,.bool b] ⟨.d (.bool (wholeB s b)),true⟩:=by
 refine bL func299 rfl ntmps299 results299 λg X f=>?_;apply aD;simp;refine cP (λ|9=>some<| .plain ⟨.d (aJ (wordN s)),true⟩|19=>some<| .plain ⟨.d (.bool (isNameB s)),true⟩|_=>none) ?_;simp;refine⟨⟨⟨λ_=>Kc s e,λ_ _ _=>Ir s⟩,λa c d=>⟨⟨a,c⟩,d⟩⟩,?_⟩;apply aH;simp;rw[Bool.eq_iff_iff];simp[wholeB];intro _ _;omega
end
end Go.Eng
namespace Go.Proofs
open Go.Shelf
def Tryz.idxLay_ren:Go.Shelf.Ren:=⟨λ|217=>283|266=>317|n=>n,λ|9=>9|5=>5|3=>3|n=>n,λ|n=>n⟩
theorem Tryz.idxLay:Go.Proofs.Lays.n217 prog Tryz.idxLay_ren:={
 mixed:=by kernel_rfl,
 f217:=func283.trans (congrArg some (by kernel_rfl)),
 f266:=func317.trans (congrArg some (by kernel_rfl)),
 t3:=underlying3,
 a3:=isAgg3,
 z3:=sizeOf3,
 v3:=zeroValue3,
 t5:=underlying5,
 a5:=isAgg5,
 z5:=sizeOf5,
 v5:=zeroValue5,
 t9:=underlying9,
 a9:=isAgg9,
 z9:=sizeOf9,
 v9:=zeroValue9}
end Go.Proofs
namespace Go.Eng
section
attribute[local simp] aW bJ bE aR
attribute[local simp] lB.cond Nd.d_eq nd_t nd_dr nd_td ndsD aX
def wZ(c:UInt8)(s:bA):Int:=match cutAt c s with|some q=>q.1.length|none=> -1
theorem St(c:UInt8):∀s:bA,Lib.indexByte s c=wZ c s
 |[]=>rfl
 |d::r=>by
  have a:=St c r;unfold Lib.indexByte wZ cutAt;unfold wZ at a;by_cases h:d=c
  .simp[h]
  .rw[if_neg h];rw[if_neg (by simpa using h)];rw[a];cases cutAt c r with
   |none=>simp
   |some q=>
    simp only[D3,A1];rw[if_neg bC];rfl
theorem Dc{c:UInt8}{s:bA}{q:bA×bA}(h:cutAt c s=some q):s.take q.1.length=q.1/\s.drop (q.1.length+1)=q.2/\q.1.length+1+q.2.length=s.length:=by
 have e:=Ga (a:=q.1) (b:=q.2) h;rw[e];refine⟨bC,?_,jJ⟩;rw[show q.1.length+1=(q.1++[c]).length by simp,show q.1++c::q.2=(q.1++[c])++q.2 by simp,List.drop_left]
theorem Cd(s:bA)(c:UInt8):Ok prog 283 [.str s,.int .u8 (c.toNat:Int)] ⟨.d (aJ (wZ c s)),true⟩:=by
 refine⟨⟨_,func283,jQ,rfl⟩,λw X f g a=>?_⟩
 match f,a.1 with
 |[u,v],_=>
  have b:=a.2 0 _ _ rfl rfl;have d:=a.2 1 _ _ rfl rfl;cases b;cases d;refine(Go.Proofs.Any.stringslite_IndexByte Tryz.idxLay ⟨s.toArray⟩ (c.toNat:Int) w).mono ?_;rintro e h ⟨rfl,rfl⟩;refine⟨_,rfl,Bz.refl _ _,none,?_⟩;have e:((c.toNat:Int).toNat.toUInt8)=c:=bC;rw[e];simp only[];rw[St];exact .int _ _
theorem UK(s:bA)(c:UInt8)(b:s.length<=9223372036854775807):Ok prog 312 [.str s,.str [c]] ⟨.d (aJ (wZ c s)),true⟩:=by
 refine bL func312 rfl ntmps312 results312 λe X d=>?_;apply aD;simp;apply aD;simp;apply cR;apply aP;simp;refine⟨λg=>?_,λg=>?_⟩
 .apply aD;simp;apply aH;simp[<-g,wZ,cutAt]
 .apply aP;simp;apply aF;have a:=Cd s c;refine aU (og 30 (.plain ⟨.d (aJ (wZ c s)),true⟩)) ?_;simp;refine⟨a,?_⟩;apply aH;simp
def Bj(c:UInt8)(s:bA):bA:=match cutAt c s with|some q=>q.1|none=>s
def Bk(c:UInt8)(s:bA):bA:=match cutAt c s with|some q=>q.2|none=>[]
def Ce(c:UInt8)(s:bA):Bool:=(cutAt c s).isSome
theorem aBj(s:bA)(c:UInt8)(f:s.length<=9223372036854775807):Ok prog 258 [.str s,.str [c]] ⟨.tup [.d (.str (Bj c s)),.d (.str (Bk c s)),.d (.bool (Ce c s))],true⟩:=by
 refine Aa hT func258 jQ (c:=_) rfl ntmps258 bC results258 bC (by rfl) λj X i=>?_;apply aD;simp;apply eG;have d:=UK s c f;refine aU (og 10 (.plain ⟨.d (aJ (wZ c s)),true⟩)) ?_;simp;refine⟨d,?_⟩;apply aP;simp;refine⟨λa=>?_,λa=>?_⟩
 .apply aF;obtain⟨q,b⟩:∃q,cutAt c s=some q:=by
   unfold wZ at a;cases e:cutAt c s with
   |none=>rw[e]at a;simp at a
   |some q=>exact⟨q,rfl⟩
  have h:wZ c s=(q.1.length:Int):=by unfold wZ;rw[b]
  obtain⟨p1,p2,p3⟩:=Dc b;refine fL.rd [] [] (λ_=>none) ?_;simp[h,p1,p2];refine⟨⟨⟨aE,aE,aE⟩,aE,aE⟩,?_⟩;apply aH;simp[Bj,Bk,Ce,b]
 .apply aG;simp;apply aD;simp;apply aH;have g:cutAt c s=none:=by
   unfold wZ at a;cases e:cutAt c s with
   |none=>rfl
   |some q=>rw[e]at a;simp at a;omega
  simp[Bj,Bk,Ce,g]
theorem YM(s:bA)(c:UInt8)(b:s.length<=9223372036854775807):Ok prog 177 [.str s,.str [c]] ⟨.tup [.d (.str (Bj c s)),.d (.str (Bk c s)),.d (.bool (Ce c s))],true⟩:=by
 refine Aa hT func177 jQ (c:=_) rfl ntmps177 bC results177 bC (by rfl) λe X d=>?_;apply aD;simp;apply aF;have a:=aBj s c b;refine aU (og 9 (.plain ⟨.tup [.d (.str (Bj c s)),.d (.str (Bk c s)),.d (.bool (Ce c s))],true⟩)) ?_;simp[bM];refine⟨a,?_⟩;apply aH;simp
end
structure dF where
 bk:Int
 kind:Int
 name:bA
 field:bA
def dF.d(u:dF):DV:=.agg [aJ u.kind,.str u.name,.str u.field]
def It:List Int:=[34,35,13,14,17,18,15,16,22,23]
def yS:List Int:=[0,1,5,5,3,3,2,2,4,4]
def aC8(k:Int):Option Int:=(It.findIdx? (λx=>decide (k=x))).map λj=>yS.getD j 0
def Ar(k:Int)(t:bA):List dF:=match aC8 k with
 |some f=>[⟨k,f,Bj 46 t,Bk 46 t⟩]
 |none=>[]
mutual
def bZ:Nd->List dF
 | .mk k t _ ks=>Ar k t++gV ks
def gV:List Nd->List dF
 |[]=>[]
 |x::r=>bZ x++gV r
end
theorem usesN_eq(x:Nd):bZ x=Ar x.kind x.text++gV x.kids:=by cases x;rw[bZ];rfl
theorem usesL_append:∀(a b:List Nd),gV (a++b)=gV a++gV b
 |[],_=>rfl
 |x::a,b=>by rw[B6,gV,gV,usesL_append a b,List.append_assoc]
theorem usesL_succ{l:List Nd}{i:Nat}(a:i<l.length):gV (l.take (i+1))=gV (l.take i)++bZ l[i]:=by
 rw[List.take_succ_eq_append_getElem a,usesL_append,gV,gV,List.append_nil]
theorem findD_int(k:Int):∀(l:List Int) (i:Nat),jB (aJ k) (l.map aJ) i=some ((l.findIdx? (λx=>decide (k=x))).map (·+i))
 |[],i=>rfl
 |x::r,i=>by
  have e:lD (aJ k) (aJ x)=some (decide (k=x)):=by simp[lD,HC]
  rw[List.map_cons,jB,e,List.findIdx?_cons];by_cases h:k=x
  .simp[h]
  .simp only[h,decide_false,C8,if_false];rw[findD_int k r (i+1)];cases r.findIdx? (λx=>decide (k=x))with
   |none=>rfl
   |some j=>simp;omega
def fitD:DV:=.mp (It.map aJ) (yS.map aJ)
section
attribute[local simp] aW bJ bE aR
attribute[local simp] lB.cond Nd.d_eq nd_t nd_dr nd_td ndsD
theorem isEmpty_dec(l:bA):l.isEmpty=decide (l=[]):=by cases l<;>simp
def bndD(l:List (Int×Int)):List DV:=l.flatMap λp=>[aJ p.1,aJ p.2]
theorem glob1_eq:HA=bndD boundsL:=jQ
theorem glob1_len:HA.length=74:=jQ
theorem bndD_at:∀(l:List (Int×Int)) (k:Nat),k<l.length->(bndD l)[k*2]?.getD default=aJ (l.getD k (0,0)).1/\(bndD l)[k*2+1]?.getD default=aJ (l.getD k (0,0)).2
 |p::l,0,_=>⟨rfl,rfl⟩
 |p::l,k+1,h=>by
  have a:=bndD_at l k (by simpa using h);have e:bndD (p::l)=aJ p.1::aJ p.2::bndD l:=rfl;rw[e,show(k+1)*2=k*2+1+1 by omega];exact a
theorem glob1_lo{k:Int}(h:0<=k/\k<37):HA[k.toNat*2]?.getD default=aJ (loAt k):=by
 rw[glob1_eq];exact(bndD_at boundsL k.toNat (by rw[bounds_len];omega)).1
theorem glob1_hi{k:Int}(h:0<=k/\k<37):HA[k.toNat*2+1]?.getD default=aJ (hiAt k):=by
 rw[glob1_eq];exact(bndD_at boundsL k.toNat (by rw[bounds_len];omega)).2
theorem cutA_len(c:UInt8)(s:bA):(Bj c s).length<=s.length:=by
 unfold Bj;cases h:cutAt c s with
 |none=>simp
 |some q=>have:=Dc h;simp;omega
theorem cutB_len(c:UInt8)(s:bA):(Bk c s).length<=s.length:=by
 unfold Bk;cases h:cutAt c s with
 |none=>simp
 |some q=>have:=Dc h;simp;omega
theorem fieldB_eq(t:bA):fieldB t=(Ce 46 t&&wholeB (Bj 46 t) true&&wholeB (Bk 46 t) true):=by
 unfold fieldB Ce Bj Bk;cases cutAt 46 t with
 |none=>rfl
 |some q=>rfl
theorem worded_ok(x:Nd)(z:0<=x.kind/\x.kind<37)(D:x.text.length<=9223372036854775807):Ok prog 238 [x.d] ⟨.d (.bool (wordedB x)),true⟩:=by
 refine bL func238 rfl ntmps238 results238 λP X a=>?_;apply aD;simp;apply eG;have B:=glob1_lo z;have C:=glob1_hi z;have N:=glob1_len;refine fL.rd [] [] (λ_=>none) ?_;simp[B,C];refine⟨⟨⟨⟨z,aE⟩,λ_=>z⟩,λ_=>aE⟩,?_⟩;apply aK;simp;refine⟨λg=>?_,λw y=>?_⟩
 .apply aD;simp;apply aH;simp;unfold wordedB wordedK;rw[Bool.eq_false_iff];intro h;simp only[A3,decide_eq_true_eq]at h;omega
 .apply aG;simp;apply dA;simp;apply aM;refine aY (ι:=BC) (λ⟨b⟩=>aQ [(1,.bx 1 0),(25,.d (aJ x.kind)),(26,.d (.bool b))]) (λ⟨b⟩=>aL [(1,.box false [.d (aJ x.kind),.d (.str x.text),.d (aJ x.n),.d (ndsD x.kids)])]) (λ⟨b⟩=>b=true↔(x.kind=9\/x.kind=19\/x.kind=20\/x.kind=33)) ?_ λ⟨b⟩ v=>?_
  .apply aP;simp;refine⟨λI=>?_,λI=>?_⟩
   .apply aG;simp;refine aAV.mk ⟨decide (x.kind=9)⟩ (aA a [1,25,26] [(1,1)]) ?_;simp[I]
   .apply aP;simp;refine⟨λJ=>?_,λJ=>?_⟩
    .apply aG;simp;refine aAV.mk ⟨decide (x.kind=19)⟩ (aA a [1,25,26] [(1,1)]) ?_;simp[J]
    .apply aP;simp;refine⟨λK=>?_,λK=>?_⟩
     .apply aG;simp;refine aAV.mk ⟨decide (x.kind=20)⟩ (aA a [1,25,26] [(1,1)]) ?_;simp[K]
     .apply aI;simp;refine aAV.mk ⟨decide (x.kind=33)⟩ (aA a [1,25,26] [(1,1)]) ?_;simp only[decide_eq_true_eq];omega
  .apply aK;simp;refine⟨λA=>?_,λA=>?_⟩
   .have O:=v.1 A;apply aF;have E:=Cc x.text false D;refine aU (og 33 (.plain ⟨.d (.bool (wholeB x.text false)),true⟩)) ?_;simp;refine⟨E,?_⟩;apply aH;simp;unfold wordedB wordedK textB;simp only[w,y,decide_true,C2];repeat(first|rw[if_pos aE]|rw[if_neg aE])
    try rw[fieldB_eq]
    try simp
    try exact isEmpty_dec _
   .have O:¬(x.kind=9\/x.kind=19\/x.kind=20\/x.kind=33):=λq=>by simp[v.2 q]at A
    apply aP;simp;refine⟨λL=>?_,λL=>?_⟩
    .apply aF;have M:=YM x.text 46 D;refine aU (og 39 (.plain ⟨.tup [.d (.str (Bj 46 x.text)),.d (.str (Bk 46 x.text)),.d (.bool (Ce 46 x.text))],true⟩)) ?_;simp[bM];refine⟨M,?_⟩;apply aF;have F:=Cc (Bj 46 x.text) true (by have:=cutA_len 46 x.text;omega);have G:=Cc (Bk 46 x.text) true (by have:=cutB_len 46 x.text;omega);refine aU (λ|46=>some<| .plain ⟨.d (.bool (wholeB (Bj 46 x.text) true)),true⟩|50=>some<| .plain ⟨.d (.bool (wholeB (Bk 46 x.text) true)),true⟩|_=>none) ?_;simp;refine⟨⟨λ_=>F,λ_ _=>G⟩,?_⟩;apply aH;simp;unfold wordedB wordedK textB;simp only[w,y,decide_true,C2];repeat(first|rw[if_pos aE]|rw[if_neg aE])
     try rw[fieldB_eq]
     try simp
     try exact isEmpty_dec _
    .refine aY (ι:=BC) (λ⟨b⟩=>aQ [(1,.bx 1 0),(25,.d (aJ x.kind)),(52,.d (.bool b))]) (λ⟨b⟩=>aL [(1,.box false [.d (aJ x.kind),.d (.str x.text),.d (aJ x.n),.d (ndsD x.kids)])]) (λ⟨b⟩=>b=true↔(x.kind=8\/x.kind=10\/x.kind=11\/x.kind=12\/x.kind=21\/x.kind=24\/x.kind=25\/x.kind=26\/x.kind=27\/x.kind=28\/x.kind=29\/x.kind=30\/x.kind=31\/x.kind=32\/x.kind=36)) ?_ λ⟨b⟩ c=>?_
     .apply aP;simp;refine⟨λe=>?_,λe=>?_⟩
      .apply aG;simp;refine aAV.mk ⟨decide (x.kind=8)⟩ (aA a [1,25,52] [(1,1)]) ?_;simp[e]
      .apply aP;simp;refine⟨λf=>?_,λf=>?_⟩
       .apply aG;simp;refine aAV.mk ⟨decide (x.kind=10)⟩ (aA a [1,25,52] [(1,1)]) ?_;simp[f]
       .apply aP;simp;refine⟨λi=>?_,λi=>?_⟩
        .apply aG;simp;refine aAV.mk ⟨decide (x.kind=11)⟩ (aA a [1,25,52] [(1,1)]) ?_;simp[i]
        .apply aP;simp;refine⟨λj=>?_,λj=>?_⟩
         .apply aG;simp;refine aAV.mk ⟨decide (x.kind=12)⟩ (aA a [1,25,52] [(1,1)]) ?_;simp[j]
         .apply aP;simp;refine⟨λk=>?_,λk=>?_⟩
          .apply aG;simp;refine aAV.mk ⟨decide (x.kind=21)⟩ (aA a [1,25,52] [(1,1)]) ?_;simp[k]
          .apply aP;simp;refine⟨λl=>?_,λl=>?_⟩
           .apply aG;simp;refine aAV.mk ⟨decide (x.kind=24)⟩ (aA a [1,25,52] [(1,1)]) ?_;simp[l]
           .apply aP;simp;refine⟨λm=>?_,λm=>?_⟩
            .apply aG;simp;refine aAV.mk ⟨decide (x.kind=25)⟩ (aA a [1,25,52] [(1,1)]) ?_;simp[m]
            .apply aP;simp;refine⟨λn=>?_,λn=>?_⟩
             .apply aG;simp;refine aAV.mk ⟨decide (x.kind=26)⟩ (aA a [1,25,52] [(1,1)]) ?_;simp[n]
             .apply aP;simp;refine⟨λo=>?_,λo=>?_⟩
              .apply aG;simp;refine aAV.mk ⟨decide (x.kind=27)⟩ (aA a [1,25,52] [(1,1)]) ?_;simp[o]
              .apply aP;simp;refine⟨λp=>?_,λp=>?_⟩
               .apply aG;simp;refine aAV.mk ⟨decide (x.kind=28)⟩ (aA a [1,25,52] [(1,1)]) ?_;simp[p]
               .apply aP;simp;refine⟨λr=>?_,λr=>?_⟩
                .apply aG;simp;refine aAV.mk ⟨decide (x.kind=29)⟩ (aA a [1,25,52] [(1,1)]) ?_;simp[r]
                .apply aP;simp;refine⟨λs=>?_,λs=>?_⟩
                 .apply aG;simp;refine aAV.mk ⟨decide (x.kind=30)⟩ (aA a [1,25,52] [(1,1)]) ?_;simp[s]
                 .apply aP;simp;refine⟨λt=>?_,λt=>?_⟩
                  .apply aG;simp;refine aAV.mk ⟨decide (x.kind=31)⟩ (aA a [1,25,52] [(1,1)]) ?_;simp[t]
                  .apply aP;simp;refine⟨λu=>?_,λu=>?_⟩
                   .apply aG;simp;refine aAV.mk ⟨decide (x.kind=32)⟩ (aA a [1,25,52] [(1,1)]) ?_;simp[u]
                   .apply aI;simp;refine aAV.mk ⟨decide (x.kind=36)⟩ (aA a [1,25,52] [(1,1)]) ?_;simp only[decide_eq_true_eq];omega
     .apply aK;simp;refine⟨λd=>?_,λd=>?_⟩
      .have H:=c.1 d;apply aD;simp;apply aH;simp;unfold wordedB wordedK textB;simp only[w,y,decide_true,C2];repeat(first|rw[if_pos aE]|rw[if_neg aE])
       try rw[fieldB_eq]
       try simp
       try exact isEmpty_dec _
      .have H:¬(x.kind=8\/x.kind=10\/x.kind=11\/x.kind=12\/x.kind=21\/x.kind=24\/x.kind=25\/x.kind=26\/x.kind=27\/x.kind=28\/x.kind=29\/x.kind=30\/x.kind=31\/x.kind=32\/x.kind=36):=λq=>by simp[c.2 q]at d
       apply aG;simp;apply aF;have E:=Cc x.text true D;refine aU (og 73 (.plain ⟨.d (.bool (wholeB x.text true)),true⟩)) ?_;simp;refine⟨E,?_⟩;apply aH;simp;unfold wordedB wordedK textB;simp only[w,y,decide_true,C2];repeat(first|rw[if_pos aE]|rw[if_neg aE])
       try rw[fieldB_eq]
       try simp
       try exact isEmpty_dec _
theorem right1_ok(x:Nd)(a:Ok prog 165 [x.d] ⟨.d (.bool (rightN x)),true⟩):Ok prog 239 [x.d] ⟨.d (.bool (!rightN x)),true⟩:=by
 refine bL func239 rfl ntmps239 results239 λc X b=>?_;apply aD;simp;refine cP (og 4 (.plain ⟨.d (.bool (rightN x)),true⟩)) ?_;simp;refine⟨by simpa using a,?_⟩;apply aH;simp
theorem right_step(x:Nd)(j:weighN x<=1000000000)(h:∀y∈x.kids,weighN y<=1000000000->Ok prog 165 [y.d] ⟨.d (.bool (rightN y)),true⟩):Ok prog 165 [x.d] ⟨.d (.bool (rightN x)),true⟩:=by
 refine bL func165 rfl ntmps165 results165 λk X i=>?_;apply aD;simp;apply aF;have g:=UC x;have a:=worded_ok x;have f:x.text.length<=9223372036854775807:=by have:=weighN_eq x;omega
 have e:=Mn x.kids (λy=> !rightN y) 239 [] (λy b=>right1_ok y (h y b (by have:=weigh_mem b;have:=weighN_eq x;omega)));refine aU (λ|13=>some<| .plain ⟨.d (.bool (shapedB x)),true⟩|17=>some<| .plain ⟨.d (.bool (wordedB x)),true⟩|22=>some<| .plain ⟨.d (.bool (x.kids.any λy=> !rightN y)),true⟩|_=>none) ?_;simp;refine⟨⟨⟨λ_ _=>by simpa using g,λc d _=>by simpa using a ⟨c,d⟩ f⟩,λ_ _ _ _=>e⟩,?_⟩;apply aH;simp;rw[rightN_eq,C3]
theorem right_ok(x:Nd):weighN x<=1000000000->Ok prog 165 [x.d] ⟨.d (.bool (rightN x)),true⟩:=
 nP (p:=λx=>weighN x<=1000000000->Ok prog 165 [x.d] ⟨.d (.bool (rightN x)),true⟩) (λ_ _ _ _ c a=>right_step _ a (λy b=>c y b)) x
theorem Valid_ok(x:Nd)(c:weighN x<=1000000000):Ok prog 87 [x.d] ⟨.d (.bool (validB x)),true⟩:=by
 refine bL func87 rfl ntmps87 results87 λj X i=>?_;apply aD;simp;apply aF;have e:=YA x c;have f:=right_ok x c;have g:=Ss x;have h:=@uM x;refine aU (λ|13=>some<| .plain ⟨.d (aJ (depthN x)),true⟩|18=>some<| .plain ⟨.d (.bool (rightN x)),true⟩|22=>some<| .plain ⟨.d (.str (textT x)),true⟩|_=>none) ?_;simp;refine⟨⟨⟨λ_ _=>by simpa using e,λ_ _ _=>by simpa using f⟩,λa b _ d=>by simpa using g (h d a b) c⟩,?_⟩;apply aH;simp[validB];rw[show decide ((depthN x:Int)<=24)=decide (depthN x<=24) from by rw[decide_eq_decide];omega,show decide (((textT x).length:Int)<=1024)=decide ((textT x).length<=1024) from by rw[decide_eq_decide];omega]
theorem valid_def{x:Nd}(h:validB x=true):Ps x:=by
 simp only[validB,A3,decide_eq_true_eq]at h;exact uM h.1.2 h.1.1.1.1 h.1.1.1.2
theorem Print_ok(x:Nd)(b:weighN x<=1000000000):Ok prog 26 [x.d] ⟨.d (.str (printS x)),true⟩:=by
 refine bL func26 rfl ntmps26 results26 λg X f=>?_;apply aD;simp;apply eG;have e:=Valid_ok x b;refine aU (og 4 (.plain ⟨.d (.bool (validB x)),true⟩)) ?_;simp;refine⟨by simpa using e,?_⟩;apply aK;simp;refine⟨λa=>?_,λa=>?_⟩
 .apply aD;simp;apply aH;simp[printS,a]
 .apply aG;simp;apply aF;have d:=valid_def a;have c:=Ss x d b;refine aU (og 7 (.plain ⟨.d (.str (textT x)),true⟩)) ?_;simp;refine⟨by simpa using c,?_⟩;apply aH;simp[printS,a]
end
end Go.Eng
