/- Part 5 of the proof. No condition. -/
import Derived.Test.YtepoffhhiddlkaaGreatDoorMD
import Derived.Shelf.Strconv.Itoa3
import Derived.Test.YtepoffhhiddlkaaGreatDoorProg
open Go.Proofs
open Go.Proofs.Tryz
set_option linter.unusedVariables false
set_option linter.unusedSimpArgs false
set_option maxRecDepth 20000
set_option maxHeartbeats 4000000
open List renaming length_append→A0,length_cons→A1,cons_append→A2,nil_append→A3,mem_cons_of_mem→A4,append_assoc→A6,mem_cons_self→A7,append_nil→A8,getElem_mem→A9,flatMap_nil→B1,mem_singleton→B3,flatMap_cons→B4,getElem?_eq_getElem→B5,take_succ_cons→B6,length_nil→B7,take→B8,singleton_append→B9,getD_eq_getElem?_getD→C0,all_eq_true→C1,mem_of_find?_eq_some→C3,take_append_getElem→C5,length_map→C6,take_append_drop→C7,mem_iff_getElem→C8,mem_range→C9,length_pos_iff→D0,flatMap_append→D1,length_take→D4,take_length→D5,mem_cons→D7
open Nat renaming le_refl→B0,zero_le→C4,le_trans→D2,min_self→D8,add_zero→D9
open Int renaming lt_irrefl→C2
open Bool renaming and_eq_true→A5,false_eq_true→B2,not_eq_true'→D3,or_eq_true→D6
namespace Go.Eng
theorem Bt(p:UInt8->Bool):∀(s:aV) (n:Nat),runP p (s.take n)=min n (runP p s)
 |[],n=>by simp[runP]
 |c::r,0=>by simp[runP]
 |c::r,n+1=>by
  rw[B6];unfold runP;split
  .rw[Bt p r n];omega
  .simp
def tM(s:aV):Prop:=s≠[]/\nextN s=s.length
theorem jZ{s:aV}(h:0<wordN s):∃c r,s=c::r/\letterB c=true/\wordN s=runP (λc=>letterB c||digitB c) s/\wordN s<=16:=by
 cases s with
 |nil=>simp[wordN]at h
 |cons c r=>
  refine⟨c,r,rfl,?_⟩;unfold wordN at h|-;by_cases q:letterB c=true
  .simp only[q,if_true]at h|-;by_cases q2:runP (λc=>letterB c||digitB c) (c::r)<=16
   .simp only[q2,if_true,true_and]at h|-
   .simp[q2]at h
  .simp[q]at h
theorem DZ(s:aV):wordN s<=s.length:=by
 rcases Nat.eq_zero_or_pos (wordN s)with h|h
 .omega
 .obtain⟨c,r,_,_,a,_⟩:=jZ h;rw[a];exact runP_le _ _
theorem Ea{s:aV}(h:0<wordN s):wordN (s.take (wordN s))=wordN s:=by
 obtain⟨c,r,rfl,b,d,f⟩:=jZ h;obtain⟨m,a⟩:∃m,wordN (c::r)=m+1:=⟨wordN (c::r)- 1,aD⟩;have e:=Bt (λc=>letterB c||digitB c) (c::r) (wordN (c::r));rw[a]at e|-;rw[B6]at e|-;unfold wordN;simp only[b,if_true];rw[e,<-d,a,D8,if_pos aD]
theorem vV(s:aV):nextN s<=s.length:=by
 unfold nextN;cases s with
 |nil=>simp
 |cons c r=>
  simp only;split
  .exact DZ _
  .split
   .split
    .have:=DZ r;simp only[A1];omega
    .simp
   .split
    .split
     .exact runP_le _ _
     .simp
    .split
     .rename_i h;have:(B8 2 (c::r)).length=2:=by rcases h with h|h<;>rw[h]<;>rfl
      rw[D4]at this;omega
     .split<;>simp
theorem Rg{s:aV}(h:0<nextN s):tM (s.take (nextN s)):=by
 have j:=vV s;have b:(s.take (nextN s)).length=nextN s:=by rw[D4];omega
 refine⟨λe=>by rw[e]at b;simp at b;omega,?_⟩;rw[b];cases s with
 |nil=>simp[nextN]at h
 |cons c r=>
  obtain⟨m,g⟩:∃m,nextN (c::r)=m+1:=⟨nextN (c::r)- 1,aD⟩;rw[g,B6];have a:=g;unfold nextN at a|-;simp only at a|-;by_cases q1:letterB c=true
  .rw[if_pos q1]at a|-;have:=Ea (s:=c::r) aD;rw[a,B6]at this;exact this
  .rw[if_neg q1]at a|-;by_cases q2:c=36
   .rw[if_pos q2]at a|-;by_cases q3:0<wordN r
    .rw[if_pos q3]at a;have:=Ea q3;have e:m=wordN r:=aD;rw[e,this,if_pos q3]
    .rw[if_neg q3]at a;omega
   .rw[if_neg q2]at a|-;by_cases q3:digitB c=true
    .rw[if_pos q3]at a|-;have e:=Bt digitB (c::r) (m+1);rw[B6]at e;by_cases d:runP digitB (c::r)<=3
     .rw[if_pos d]at a;rw[e,a,D8,if_pos aD]
     .rw[if_neg d]at a;omega
    .rw[if_neg q3]at a|-;by_cases d:B8 2 (c::r)=[60,61]\/B8 2 (c::r)=[61,61]
     .rw[if_pos d]at a;have e:m=1:=aD;have i:B8 2 (c::B8 m r)=B8 2 (c::r):=by rw[e];cases r<;>simp
      rw[i,if_pos d,e]
     .rw[if_neg d]at a;by_cases f:c∈signs
      .rw[if_pos f]at a;have e:m=0:=aD;subst e;rw[if_neg bA,if_pos f]
      .rw[if_neg f]at a;omega
def cF(l:List Tk):Prop:=∀t∈l,tM t.text
theorem lD:∀(f:Nat) (s:aV) (i:Int),cF (scanF f s i).1
 |0,_,_=>λt h=>by cases h
 |f+1,s,i=>by
  unfold scanF;split
  .exact λt h=>by cases h
  .split
   .exact lD f _ _
   .split
    .exact λt h=>by cases h
    .rename_i q;intro t h;rcases D7.1 h with h|h
     .rw[h];exact Rg aD
     .exact lD f _ _ t h
theorem Um{s:aV}(h:tM s)(b:isNameB s=true):wholeB s true=true:=by
 obtain⟨d,a⟩:=h;cases s with
 |nil=>exact absurd rfl d
 |cons c r=>
  have e:letterB c=true:=by simp only[isNameB,A5]at b;exact b.1
  unfold nextN at a;simp only[e,if_true]at a;unfold wholeB;rw[a,b];simp
theorem Rh{r:aV}(h:tM (36::r)):wholeB r false=true:=by
 obtain⟨_,a⟩:=h;unfold nextN at a;simp only[show letterB 36=false by decide,B2,if_false,if_true]at a;split at a
 .rename_i q;have e:wordN r=r.length:=by simpa using a
  unfold wholeB;rw[e];have:r≠[]:=λe=>by rw[e]at q;simp[wordN]at q
  simp[this]
 .simp at a
theorem Jt{s:aV}{b:Bool}(h:wholeB s b=true):∀c∈s,letterB c=true\/digitB c=true:=by
 unfold wholeB at h;simp only[A5,decide_eq_true_eq]at h;obtain⟨⟨f,a⟩,_⟩:=h;have k:0<wordN s:=by rw[a];exact D0.2 f
 obtain⟨c,r,_,_,g,_⟩:=jZ k;intro d j;obtain⟨i,e,rfl⟩:=C8.1 j;have:=runP_all (p:=λc=>letterB c||digitB c) e (by rw[<-g,a];exact e);simpa using this
theorem FY{c:UInt8}:∀{a:aV} (b:aV),c∉a->cutAt c (a++c::b)=some (a,b)
 |[],b,_=>by simp[cutAt]
 |d::a,b,h=>by
  have f:d≠c:=λe=>h (by rw[e];exact A7 ..);rw[A2,cutAt,if_neg f,FY b λq=>h (A4 _ q)];rfl
theorem Ju{a b:aV}(c:wholeB a true=true)(d:wholeB b true=true):fieldB (a++46::b)=true:=by
 unfold fieldB;rw[FY b λh=>by rcases Jt c _ h with q|q<;>exact absurd q bG];simp[c,d]
def Rt(n:Nat)(cls:Int->Bool)(x:PS->Nd×PS):Prop:=∀p,p.l.length<n->cF p.l->(x p).2.l.length<=p.l.length/\cF (x p).2.l/\((x p).2.e=0->rightN (x p).1=true/\cls (x p).1.kind=true)
theorem qE{p:PS}{e:Int}:(p.fail e).l=p.l:=by unfold PS.fail;split<;>rfl
theorem xW{p:PS}{e:Int}(h:cF p.l):cF (p.fail e).l:=by rw[qE];exact h
theorem dO{p:PS}(h:cF p.l):cF p.skip.l:=λt a=>h t (List.mem_of_mem_tail a)
theorem eN{p:PS}:p.skip.l.length<=p.l.length:=by simp[PS.skip]
theorem Jv{p:PS}(h:p.peek≠[]):p.skip.l.length+1=p.l.length:=by
 unfold PS.peek at h;split at h
 .exact absurd rfl h
 .unfold PS.skip;cases e:p.l with
  |nil=>rw[e]at h;exact absurd rfl h
  |cons t r=>rfl
theorem iH{p:PS}{s:aV}(h:p.is s=true):p.skip.l.length+1=p.l.length:=by
 unfold PS.is at h;simp only[A5,decide_eq_true_eq]at h;exact Jv (by rw[h.2];exact h.1)
theorem cK{p:PS}{s:aV}(h:cF p.l):(p.need s).l.length<=p.l.length/\cF (p.need s).l:=by
 unfold PS.need;split
 .exact⟨eN,dO h⟩
 .exact⟨by rw[qE];exact B0 _,xW h⟩
theorem AC{p:PS}(h:cF p.l)(a:p.peek≠[]):tM p.peek:=by
 unfold PS.peek at a|-;split
 .rename_i q;rw[if_pos q]at a;exact absurd rfl a
 .rename_i q;rw[if_neg q]at a;cases e:p.l with
  |nil=>rw[e]at a;exact absurd rfl a
  |cons t r=>exact h t (by rw[e];exact A7 ..)
theorem dY{p:PS}(h:cF p.l):(nameP p).2.l.length<=p.l.length/\cF (nameP p).2.l/\((nameP p).2.e=0->wholeB (nameP p).1 true=true):=by
 unfold nameP;split
 .rename_i q;refine⟨eN,dO h,λ_=>Um (AC h λe=>?_) q⟩;rw[e]at q;cases q
 .exact⟨by rw[qE];exact B0 _,xW h,λa=>absurd a (fail_e bG)⟩
theorem gD{p:PS}(h:cF p.l):(localP p).2.l.length<=p.l.length/\cF (localP p).2.l/\((localP p).2.e=0->wholeB (localP p).1 false=true):=by
 unfold localP;split
 .rename_i r q;refine⟨eN,dO h,λ_=>Rh ?_⟩;rw[<-q];exact AC h (by rw[q];simp)
 .exact⟨by rw[qE];exact B0 _,xW h,λa=>absurd a (fail_e bG)⟩
theorem iR{k:Int}{p:PS}(h:cF p.l):(numeralP k p).2.l.length<=p.l.length/\cF (numeralP k p).2.l/\((numeralP k p).2.e=0->loAt k<=(numeralP k p).1/\(numeralP k p).1<=hiAt k):=by
 have a:∀e:Int,e≠0->(p.fail e).l.length<=p.l.length/\cF (p.fail e).l/\((p.fail e).e=0->loAt k<=0/\0<=hiAt k):=λe q=>⟨by rw[qE];exact B0 _,xW h,λb=>absurd b (fail_e q)⟩;unfold numeralP;split
 .exact a 2 bG
 .split
  .split
   .exact a 5 bG
   .rename_i q;exact⟨eN,dO h,λ_=>⟨by simp only;omega,by simp only;omega⟩⟩
  .exact a 2 bG
theorem AD{p:PS}(h:cF p.l):(numberP p).2.l.length<=p.l.length/\cF (numberP p).2.l/\((numberP p).2.e=0-> -999<=(numberP p).1/\(numberP p).1<=999):=by
 have f:loAt 0= -999:=rfl;have e:hiAt 0=999:=rfl;unfold numberP;split
 .obtain⟨a,b,c⟩:=iR (k:=0) (dO h);exact⟨D2 a eN,b,λd=>by have:=c d;simp only;omega⟩
 .obtain⟨a,b,c⟩:=iR (k:=0) h;exact⟨a,b,λd=>by have:=c d;omega⟩
theorem sK(n:Nat):Rt n isPlaceK placeP:=λp _ h=>by
 obtain⟨b,c,d⟩:=dY h;unfold placeP;split
 .obtain⟨e,f,g⟩:=dY (dO c);refine⟨D2 e (D2 eN b),f,λa=>⟨?_,rfl⟩⟩;have i:=d (nameP_stk (nameP p).2.skip a);simp[rightN,rightL,shapedB,shapedK,kidsB,wordedB,wordedK,loAt,hiAt,boundsL,textB,Ju i (g a)]
 .refine⟨b,c,λa=>⟨?_,rfl⟩⟩;simp[rightN,rightL,shapedB,shapedK,kidsB,wordedB,wordedK,loAt,hiAt,boundsL,textB,d a]
theorem FZ(lv:Int)(s:aV): -1<=opI lv s/\opI lv s<=5:=by
 unfold opI;split
 .rename_i i q;have:=C9.1 (C3 q);omega
 .omega
theorem xX{lv:Int}{p:PS}(h:cF p.l):(opP lv p).2.l.length<=p.l.length/\cF (opP lv p).2.l:=by
 unfold opP;simp only;split
 .exact⟨eN,dO h⟩
 .exact⟨B0 _,h⟩
theorem Bu{k:Int}{n m:Nd}(d:26<=k)(e:k<=31)(b:rightN n=true/\isExprK n.kind=true)(a:rightN m=true/\isExprK m.kind=true):rightN (.mk k [] 0 [n,m])=true/\isExprK (Nd.mk k [] 0 [n,m]).kind=true:=by
 have c:k=26\/k=27\/k=28\/k=29\/k=30\/k=31:=aD;rcases c with rfl|rfl|rfl|rfl|rfl|rfl<;>exact⟨by simp[rightN,rightL,shapedB,shapedK,kidsB,wordedB,wordedK,loAt,hiAt,boundsL,textB,b.1,a.1,b.2,a.2],rfl⟩
theorem Ga{m:Nat}{lv:Int}{x:PS->Nd×PS}(c:Rt m isExprK x):∀(f:Nat) (n:Nd) (p:PS),p.l.length<m->cF p.l->(p.e=0->rightN n=true/\isExprK n.kind=true)->
 (chainF lv x f n p).2.l.length<=p.l.length/\cF (chainF lv x f n p).2.l/\((chainF lv x f n p).2.e=0->rightN (chainF lv x f n p).1=true/\isExprK (chainF lv x f n p).1.kind=true)
 |0,_,_,_,h,hn=>⟨B0 _,h,hn⟩
 |f+1,n,p,hl,h,hn=>by
  unfold chainF;split
  .exact⟨B0 _,h,hn⟩
  .rename_i q;have b:p.e=0:=by simpa using q
   obtain⟨d,a⟩:=xX (lv:=lv) h;split
   .exact⟨d,a,λ_=>hn b⟩
   .rename_i q2;have j:=FZ lv p.peek;have k:0<=(opP lv p).1/\(opP lv p).1<=5:=⟨aD,j.2⟩;obtain⟨r,e,g⟩:=c _ aD a;obtain⟨s,l,o⟩:=Ga c f (.mk (26+(opP lv p).1) [] 0 [n,(x (opP lv p).2).1]) _ aD e λi=>Bu aD aD (hn b) (g i);exact⟨aD,l,o⟩
theorem Bv{m:Nat}{lv:Int}{x:PS->Nd×PS}(a:Rt m isExprK x):Rt m isExprK (chainP lv x):=λp d h=>by
 obtain⟨g,b,c⟩:=a p d h;obtain⟨i,e,f⟩:=Ga (lv:=lv) a ((x p).2.l.length+1) _ _ aD b c;exact⟨by unfold chainP;omega,e,f⟩
theorem gI{k:Int}(h:isPlaceK k=true):isExprK k=true:=by
 unfold isPlaceK at h;simp only[D6,decide_eq_true_eq]at h;rcases h with rfl|rfl<;>rfl
theorem Eb{m:Nat}{j:PS->Nd×PS}(o:Rt m isExprK j):Rt (m+1) isExprK (factP j):=λp n h=>by
 have a:=sK (m+1) p n h;have c:(placeP p).2.l.length<=p.l.length/\cF (placeP p).2.l/\((placeP p).2.e=0->rightN (placeP p).1=true/\isExprK (placeP p).1.kind=true):=⟨a.1,a.2.1,λb=>⟨(a.2.2 b).1,gI (a.2.2 b).2⟩⟩;unfold factP;split
 .rename_i q;have t:=iH q;obtain⟨i,d,e⟩:=o p.skip aD (dO h);obtain⟨r,l⟩:=cK (s:=[41]) d;exact⟨by simp only;omega,l,λb=>e (need_e b).2⟩
 .split
  .exact⟨eN,dO h,λ_=>⟨by show rightN (Nd.mk 36 [] 0 [])=true;decide,rfl⟩⟩
  .split
   .split
    .obtain⟨i,d,e⟩:=iR (k:=32) h;refine⟨i,d,λb=>⟨?_,rfl⟩⟩;have:=e b;have g:loAt 32=0:=rfl;have f:hiAt 32=999:=rfl;rw[g,f]at this;simp[rightN,rightL,shapedB,shapedK,kidsB,wordedB,wordedK,g,f,textB,this]
    .split
     .obtain⟨i,d,e⟩:=gD h;refine⟨i,d,λb=>⟨?_,rfl⟩⟩;simp[rightN,rightL,shapedB,shapedK,kidsB,wordedB,wordedK,loAt,hiAt,boundsL,textB,e b]
     .exact c
   .exact c
theorem HH{m:Nat}{a:PS->Nd×PS}(b:Rt m isExprK a):Rt (m+1) isExprK (sumP a):=Bv (Bv (Eb b))
theorem Un{m:Nat}{a:PS->Nd×PS}(n:Stk a)(e:Rt m isExprK a):Rt (m+1) isExprK (exprB a):=λp j h=>by
 obtain⟨r,f,d⟩:=HH e p j h;obtain⟨o,c⟩:=xX (lv:=1) f;unfold exprB;simp only;split
 .rename_i q;have k:=FZ 1 (sumP a p).2.peek;have l:(opP 1 (sumP a p).2).1<=5:=k.2;obtain⟨s,g,i⟩:=HH e _ aD c;exact⟨by simp only;omega,g,λb=>Bu aD aD (d (opP_stk 1 _ (sumP_stk n _ b))) (i b)⟩
 .exact⟨by simp only;omega,c,λb=>d (opP_stk 1 _ b)⟩
theorem AE:∀f,Rt f isExprK (exprP false f)
 |0=>λp h=>aD
 |f+1=>λp a h=>by
  unfold exprP;rw[if_neg bA];exact Un (exprP_stk false f) (AE f) p a h
theorem Ec(n:Nat):Rt n isExprK λq=>exprP false (q.l.length+1) q:=λp _ h=>AE (p.l.length+1) p aD h
theorem Gb{m:Nat}{c:PS->Nd×PS}(e:Stk c)(a:Rt m isStmtK c):∀(f:Nat) (b:List Nd) (p:PS),p.l.length<m->cF p.l->(p.e=0->∀x∈b,rightN x=true/\isStmtK x.kind=true)->
 (stmtsF c f b p).2.l.length<=p.l.length/\cF (stmtsF c f b p).2.l/\((stmtsF c f b p).2.e=0->∀x∈(stmtsF c f b p).1,rightN x=true/\isStmtK x.kind=true)
 |0,_,_,_,h,hn=>⟨B0 _,h,hn⟩
 |f+1,b,p,hl,h,hn=>by
  unfold stmtsF;split
  .exact⟨B0 _,h,hn⟩
  .obtain⟨l,g,i⟩:=a p hl h;obtain⟨n,j,k⟩:=Gb e a f (b++[(c p).1]) _ aD g λd x a=>by
    rcases List.mem_append.1 a with a|a
    .exact hn (e p d) x a
    .rw[B3.1 a];exact i d
   exact⟨aD,j,k⟩
theorem vW{b:List Nd}(h:∀x∈b,rightN x=true/\isStmtK x.kind=true):rightN (.mk 8 [] 0 b)=true:=
 right_mk.2 ⟨bG,bG,C1.2 λx a=>(h x a).2,bG,bG,rfl,λx a=>(h x a).1⟩
theorem xY{m:Nat}{a:PS->Nd×PS}(d:Stk a)(e:Rt m isStmtK a):Rt m isBlockK (blockB a):=λp j h=>by
 obtain⟨i,b⟩:=cK (s:=[123]) h;obtain⟨k,f,g⟩:=Gb d e ((p.need [123]).l.length+1) [] (p.need [123]) aD b (λ_ x h=>by cases h);obtain⟨l,q1⟩:=cK (s:=[125]) f;unfold blockB;exact⟨by simp only;omega,q1,λc=>⟨vW (g (need_e c).2),rfl⟩⟩
theorem zR{s:aV}(h:12<kindP s):13<=kindP s/\kindP s<=25:=by
 unfold kindP wordI at h|-;split
 .rename_i q;rw[if_pos q]at h;omega
 .rename_i q;rw[if_neg q]at h;split
  .rename_i i e;rw[e]at h;have:=C9.1 (C3 e);simp only at h;omega
  .rename_i e;rw[e]at h;simp only at h;omega
theorem Ps{m:Nat}{l:PS->Nd×PS}(u:Stk l)(e:Rt m isExprK l){k:Int}(v:13<=k/\k<=25):Rt m isStmtK (cmdP l k):=λp w h=>by
 have r:(if k=19\/k=20 then localP p else if k=21\/k=25\/k=24 then([],p)else nameP p).2.l.length<=p.l.length/\cF (if k=19\/k=20 then localP p else if k=21\/k=25\/k=24 then([],p)else nameP p).2.l/\
  ((if k=19\/k=20 then localP p else if k=21\/k=25\/k=24 then([],p)else nameP p).2.e=0->textB k (if k=19\/k=20 then localP p else if k=21\/k=25\/k=24 then([],p)else nameP p).1=true):=by
  split
  .rename_i q;obtain⟨f,d,b⟩:=gD h;exact⟨f,d,λc=>by rcases q with rfl|rfl<;>simp[textB,b c]⟩
  .split
   .rename_i q;exact⟨B0 _,h,λ_=>by rcases q with rfl|rfl|rfl<;>rfl⟩
   .rename_i q1 q2;obtain⟨f,d,b⟩:=dY h;exact⟨f,d,λc=>by unfold textB;rw[if_neg aD,if_neg aD,if_neg aD];exact b c⟩
 unfold cmdP;generalize(if k=19\/k=20 then localP p else if k=21\/k=25\/k=24 then([],p)else nameP p)=a at r;obtain⟨s,i,j⟩:=r;simp only;have o:∀{n:Int},(k=19\/k=21\/k=25->loAt k<=n/\n<=hiAt k)->(¬(k=19\/k=21\/k=25)->n=0)->loAt k<=n/\n<=hiAt k:=λ{n} d b=>by
  by_cases q:k=19\/k=21\/k=25
  .exact d q
  .rw[b q];have:k=13\/k=14\/k=15\/k=16\/k=17\/k=18\/k=20\/k=22\/k=23\/k=24:=aD;rcases this with rfl|rfl|rfl|rfl|rfl|rfl|rfl|rfl|rfl|rfl<;>decide
 have mk:∀{t:aV} {n:Int} {g:List Nd},textB k t=true->loAt k<=n/\n<=hiAt k->shapedK k g=true->(∀x∈g,rightN x=true)->rightN (.mk k t n g)=true/\isStmtK (Nd.mk k t n g).kind=true:=λ{t n g} d b h3 h4=>by
  exact⟨right_mk.2 ⟨aD,aD,h3,b.1,b.2,d,h4⟩,show isStmtK k=true from isStmtK_iff.2 aD⟩
 split
 .rename_i q;obtain⟨f,d,b⟩:=e a.2 aD i;refine⟨by simp only;omega,d,λc=>mk (j (u _ c)) (o aD λ_=>rfl) ?_ λx e=>by rw[B3.1 e];exact(b c).1⟩;rcases q with rfl|rfl|rfl<;>simp[shapedK,kidsB,(b c).2]
 .split
  .rename_i q;obtain⟨f,d,b⟩:=gD i;refine⟨by simp only;omega,d,λc=>mk (j (localP_stk _ c)) (o aD λ_=>rfl) ?_ λx e=>?_⟩
   .rcases q with rfl|rfl<;>simp[shapedK,kidsB,isLocalK]
   .rw[B3.1 e];simp[rightN,rightL,shapedB,shapedK,kidsB,wordedB,wordedK,loAt,hiAt,boundsL,textB,b c]
  .split
   .rename_i q;obtain⟨f,d,b⟩:=iR (k:=k) i;refine⟨by simp only;omega,d,λc=>mk (j (numeralP_stk _ _ c)) (b c) ?_ λx e=>by cases e⟩;rcases q with rfl|rfl|rfl<;>rfl
   .rename_i q1 q2 q3;refine⟨s,i,λc=>mk (j c) (o (λq=>absurd q q3) λ_=>rfl) ?_ λx e=>by cases e⟩;have:k=13\/k=14\/k=17\/k=18\/k=20:=aD;rcases this with rfl|rfl|rfl|rfl|rfl<;>rfl
theorem Uo{m:Nat}{j n:PS->Nd×PS}(v:Stk j)(w:Stk n)(o:Rt (m+1) isExprK j)(y:Rt m isBlockK n):Rt (m+1) isStmtK (stmtB j n):=λp B h=>by
 unfold stmtB;simp only;split
 .rename_i q;have C:p.skip.l.length+1=p.l.length:=Jv λe=>by rw[e]at q;simp[kindP]at q
  obtain⟨r,i,b⟩:=o p.skip aD (dO h);obtain⟨t,f,l⟩:=y (j p.skip).2 aD i;split
  .rename_i q2;have A:=iH q2.2;obtain⟨x,k,g⟩:=y (n (j p.skip).2).2.skip aD (dO f);refine⟨by simp only;omega,k,λa=>?_⟩;have c:=w _ a;have d:=w (j p.skip).2 c;rw[q2.1];exact⟨by simp[rightN,rightL,shapedB,shapedK,kidsB,wordedB,wordedK,loAt,hiAt,boundsL,textB,(b d).1,(b d).2,(l c).1,(l c).2,(g a).1,(g a).2],rfl⟩
  .refine⟨by simp only;omega,f,λa=>?_⟩;have d:=w _ a;rcases q with q|q<;>rw[q]<;>exact⟨by simp[rightN,rightL,shapedB,shapedK,kidsB,wordedB,wordedK,loAt,hiAt,boundsL,textB,(b d).1,(b d).2,(l a).1,(l a).2],rfl⟩
 .split
  .rename_i q;obtain⟨r,i,b⟩:=Ps v o (zR q) p.skip (by have:=eN (p:=p);omega) (dO h);obtain⟨t,f⟩:=cK (s:=[59]) i;have:=eN (p:=p);exact⟨by simp only;omega,f,λa=>b (need_e a).2⟩
  .split
   .obtain⟨r,i,b⟩:=gD h;obtain⟨t,f⟩:=cK (s:=[61]) i;obtain⟨x,k,g⟩:=o ((localP p).2.need [61]) aD f;obtain⟨z,u⟩:=cK (s:=[59]) k;refine⟨by simp only;omega,u,λa=>?_⟩;have c:=(need_e a).2;have d:=(need_e (v _ c)).2;exact⟨by simp[rightN,rightL,shapedB,shapedK,kidsB,wordedB,wordedK,loAt,hiAt,boundsL,textB,b d,(g c).1,(g c).2],rfl⟩
   .obtain⟨r,i,b⟩:=sK (m+1) p B h;obtain⟨t,f⟩:=cK (s:=[61]) i;obtain⟨x,k,g⟩:=o ((placeP p).2.need [61]) aD f;obtain⟨z,u⟩:=cK (s:=[59]) k;refine⟨by simp only;omega,u,λa=>?_⟩;have c:=(need_e a).2;have d:=(need_e (v _ c)).2;exact⟨by simp[rightN,rightL,shapedB,shapedK,kidsB,wordedB,wordedK,loAt,hiAt,boundsL,textB,(b d).1,(b d).2,(g c).1,(g c).2],rfl⟩
theorem vX:∀f,Rt f isStmtK (stmtP false f)
 |0=>λp h=>aD
 |f+1=>λp a h=>Uo (exprO_stk false) (blockB_stk (stmtP_stk false f)) (Ec (f+1)) (xY (stmtP_stk false f) (vX f)) p a h
def AF(s:aV):Bool:=match s with|[]=>true|c::_=> !letterB c&& !digitB c&&decide (c≠61)
theorem Ee{p:UInt8->Bool}:∀{t:aV} (s:aV),(∀c∈t,p c=true)->runP p (t++s)=t.length+runP p s
 |[],s,_=>bA
 |c::t,s,h=>by
  rw[A2,runP,if_pos (h c (A7 ..)),Ee s λd a=>h d (A4 _ a),A1];omega
theorem lW{p:UInt8->Bool}{t:aV}(h:runP p t=t.length):∀c∈t,p c=true:=λc a=>by
 obtain⟨i,b,rfl⟩:=C8.1 a;exact runP_all b aD
theorem Jw{p:UInt8->Bool}(b:∀c,p c=true->letterB c=true\/digitB c=true){s:aV}(a:AF s=true):runP p s=0:=by
 cases s with
 |nil=>rfl
 |cons c r=>
  simp only[AF,A5,D3]at a;rw[runP,if_neg];intro h;rcases b c h with q|q
  .rw[q]at a;simp at a
  .rw[q]at a;simp at a
theorem Gc{t s:aV}(h:wordN t=t.length)(d:0<wordN t)(i:AF s=true):wordN (t++s)=t.length:=by
 obtain⟨c,r,rfl,e,f,j⟩:=jZ d;have a:=lW (p:=λc=>letterB c||digitB c) (by rw[<-f];exact h);have b:runP (λc=>letterB c||digitB c) (c::r++s)=(c::r).length:=by
  rw[Ee s a,Jw (λc g=>by simpa using g) i,D9]
 rw[A2]at b|-;unfold wordN;simp only[e,if_true];rw[b,if_pos aD]
theorem xZ{t s:aV}(m:tM t)(f:AF s=true):nextN (t++s)=t.length:=by
 obtain⟨h,a⟩:=m;cases t with
 |nil=>exact absurd rfl h
 |cons c r=>
  have i:=a;rw[A2];unfold nextN at a|-;simp only at a|-;by_cases q1:letterB c=true
  .rw[if_pos q1]at a|-;exact Gc (t:=c::r) a (by rw[a];simp) f
  .rw[if_neg q1]at a|-;by_cases q2:c=36
   .rw[if_pos q2]at a|-;by_cases q3:0<wordN r
    .rw[if_pos q3]at a;have e:wordN r=r.length:=by simpa using a
     rw[Gc e q3 f,if_pos aD];simp
    .rw[if_neg q3]at a;simp at a
   .rw[if_neg q2]at a|-;by_cases q3:digitB c=true
    .rw[if_pos q3]at a|-;by_cases b:runP digitB (c::r)<=3
     .rw[if_pos b]at a;have e:runP digitB (c::(r++s))=(c::r).length:=by
       rw[<-A2,Ee s (lW a),Jw (λc j=>.inr j) f,D9]
      rw[e,if_pos aD]
     .rw[if_neg b]at a;simp at a
    .rw[if_neg q3]at a|-;by_cases b:B8 2 (c::r)=[60,61]\/B8 2 (c::r)=[61,61]
     .rw[if_pos b]at a;have k:r.length=1:=by simpa using a.symm
      have e:B8 2 (c::(r++s))=B8 2 (c::r):=by
       cases r with
       |nil=>simp at k
       |cons d u=>simp
      rw[e,if_pos b];exact a
     .rw[if_neg b]at a;by_cases g:c∈signs
      .rw[if_pos g]at a;have l:r=[]:=by simpa using a.symm
       subst l;rw[if_neg,if_pos g]
       .rfl
       .cases s with
        |nil=>simp
        |cons d u=>
         simp only[AF,A5,decide_eq_true_eq]at f;simp[f.2]
      .rw[if_neg g]at a;simp at a
theorem Ms{c:UInt8}(h:c=40\/c=41\/c=123\/c=125\/c=59\/c=46\/c=45)(s:aV):nextN (c::s)=1:=by
 unfold nextN;rcases h with rfl|rfl|rfl|rfl|rfl|rfl|rfl<;>cases s<;>simp[letterB,digitB,signs]
inductive pB:aV->List aV->Prop
 |nil:pB [] []
 |blank {c:UInt8} {s:aV} {ts:List aV} (hc:c=32\/c=10) (h:pB s ts):pB (c::s) ts
 |tok {t s:aV} {ts:List aV} (h0:t≠[]) (h1:nextN (t++s)=t.length) (h:pB s ts):pB (t++s) (t::ts)
theorem pB.sp{s:aV}{a:List aV}(h:pB s a):pB (32::s) a:=.blank (.inl rfl) h
theorem dQ{t s:aV}{b:List aV}(a:tM t)(c:AF s=true)(h:pB s b):pB (t++s) (t::b):=.tok a.1 (xZ a c) h
theorem jK{c:UInt8}{s:aV}{a:List aV}(b:c=40\/c=41\/c=123\/c=125\/c=59\/c=46\/c=45)(h:pB s a):pB (c::s) ([c]::a):=.tok (t:=[c]) bA (Ms b s) h
theorem Jx{s:aV}{d:List aV}(h:pB s d):∀(f:Nat) (i:Int),s.length<=f->(scanF f s i).1.map Tk.text=d/\(scanF f s i).2=i+s.length:=by
 induction h with
 |nil=>intro f i _;cases f<;>simp[scanF]
 |@blank c s d e _ ih=>
  intro f i b;cases f with
  |zero=>simp at b
  |succ f=>
   unfold scanF;simp only[e,if_true];obtain⟨a,k⟩:=ih f (i+1) (by simpa using b);exact⟨a,by rw[k];simp only[A1];omega⟩
 |@tok t s d h0 a _ ih=>
  intro f i b;cases t with
  |nil=>exact absurd rfl h0
  |cons c r=>
   cases f with
   |zero=>simp at b
   |succ f=>
    have e:¬(c=32\/c=10):=λq=>by
     rw[A2]at a;unfold nextN at a;rcases q with rfl|rfl
     .cases r<;>cases s<;>simp[letterB,digitB,signs]at a
     .cases r<;>cases s<;>simp[letterB,digitB,signs]at a
    obtain⟨l,m⟩:=ih f (i+(c::r).length) (by simp only[A0,A1]at b;omega);rw[A2]at a|-;unfold scanF;simp only[e,if_false];rw[a,if_neg bA];have g:(c::(r++s)).take (c::r).length=c::r:=by rw[<-A2];simp
    have j:(c::(r++s)).drop (c::r).length=s:=by rw[<-A2];simp
    rw[g,j];refine⟨by simp only[List.map_cons,l],?_⟩;simp only;rw[m];simp only[A1,A0];omega
def Bw(t:aV):List aV:=match cutAt 46 t with
 |some (a,b)=>[a,[46],b]
 |none=>[t]
def yY(c:Bool)(ks:List aV):List aV:=if c then [40]::(ks++[[41]])else ks
def cG:Nd->List aV
 | .mk k t n ks=>if k=32 then [itoaS n]else if k=33 then [36::t]else if k=36 then [sKind]else if k=34 then [t]else if k=35 then Bw t else match ks with
   |[a,b]=>yY (decide (lvlN a.kind<(if levelAt k=1 then 2 else levelAt k))) (cG a)++signAt k::yY (decide (lvlN b.kind<levelAt k+1)) (cG b)
   |_=>[]
set_option maxRecDepth 100000 in
theorem HI:∀n:Nat,n<1000->decS n≠[]/\nextN (decS n)=(decS n).length:=bG
theorem Jy{n:Int}(a:0<=n)(b:n<=999):tM (itoaS n):=by
 unfold itoaS;rw[if_neg aD];exact HI _ aD
theorem jL{t:aV}(h:wholeB t true=true):tM t/\isNameB t=true:=by
 unfold wholeB at h;simp only[A5,decide_eq_true_eq,Bool.not_true,Bool.false_or]at h;obtain⟨⟨b,d⟩,a⟩:=h;refine⟨⟨b,?_⟩,a⟩;cases t with
 |nil=>exact absurd rfl b
 |cons c r=>
  simp only[isNameB,A5]at a;unfold nextN;simp only[a.1,if_true];exact d
theorem vY{t:aV}(h:wholeB t false=true):tM (36::t):=by
 unfold wholeB at h;simp only[A5,decide_eq_true_eq,Bool.not_false,Bool.true_or,and_true]at h;obtain⟨b,a⟩:=h;refine⟨bA,?_⟩;have:0<wordN t:=by rw[a];exact D0.2 b
 unfold nextN;simp only[show letterB 36=false by decide,B2,if_false,if_true,this,a,A1];rw[a]at this;simp[this]
theorem Ef{c:UInt8}:∀{t a b:aV},cutAt c t=some (a,b)->t=a++c::b
 |[],_,_,h=>by simp[cutAt]at h
 |d::r,a,b,h=>by
  unfold cutAt at h;split at h
  .rename_i e;simp only[Option.some.injEq,Prod.mk.injEq]at h;rw[<-h.1,<-h.2,e];rfl
  .cases q:cutAt c r with
   |none=>rw[q]at h;cases h
   |some p=>
    obtain⟨f,g⟩:=p;rw[q]at h;simp only[Option.map_some,Option.some.injEq,Prod.mk.injEq]at h;rw[<-h.1,<-h.2,Ef q];rfl
theorem oD{t:aV}(h:fieldB t=true):∃a b,cutAt 46 t=some (a,b)/\t=a++46::b/\wholeB a true=true/\wholeB b true=true:=by
 unfold fieldB at h;split at h
 .rename_i a b e;simp only[A5]at h;exact⟨a,b,e,Ef e,h.1,h.2⟩
 .cases h
theorem gJ{x:Nd}(m:rightN x=true)(l:isExprK x.kind=true):
 (x.kind=32/\0<=x.n/\x.n<=999/\x=.mk 32 [] x.n [])\/(x=.mk 33 x.text 0 []/\wholeB x.text false=true)\/x=.mk 36 [] 0 []\/(x=.mk 34 x.text 0 []/\wholeB x.text true=true)\/(x=.mk 35 x.text 0 []/\fieldB x.text=true)\/
   ∃k a b,26<=k/\k<=31/\x=.mk k [] 0 [a,b]/\rightN a=true/\isExprK a.kind=true/\rightN b=true/\isExprK b.kind=true:=by
 obtain⟨k,t,n,f⟩:=x;have l:26<=k/\k<=36:=isExprK_iff.1 l;obtain⟨_,_,g,p,q,d,j⟩:=right_mk.1 m;have none:shapedK k f=kidsB f []->f=[]:=λe=>by
  rw[e]at g;cases f with
  |nil=>rfl
  |cons _ _=>cases g
 by_cases o:k<=31
 .right;right;right;right;right;have c:kidsB f [isExprK,isExprK]=true:=by
   unfold shapedK at g;rw[if_neg aD,if_neg aD,if_neg aD,if_neg aD,if_neg aD,if_neg aD,if_neg aD,if_neg aD,if_pos aD]at g;exact g
  have i:loAt k=0/\hiAt k=0:=by
   have:k=26\/k=27\/k=28\/k=29\/k=30\/k=31:=aD;rcases this with rfl|rfl|rfl|rfl|rfl|rfl<;>exact⟨rfl,rfl⟩
  have h:t=[]:=by
   unfold textB at d;rw[if_neg aD,if_neg aD,if_pos aD]at d;simpa using d
  match f,c,j with
  |[a,b],c,j=>
   simp only[kidsB,Bool.and_true,A5]at c;exact⟨k,a,b,aD,aD,by rw[h,show n=0 by omega],j a bA,c.1,j b bA,c.2⟩
  |[],c,_=>cases c
  |[_],c,_=>simp[kidsB]at c
  |_::_::_::_,c,_=>simp[kidsB]at c
 .have:k=32\/k=33\/k=34\/k=35\/k=36:=aD;rcases this with rfl|rfl|rfl|rfl|rfl
  .left;have e:=none rfl;have i:loAt 32=0/\hiAt 32=999:=⟨rfl,rfl⟩;have h:t=[]:=by simpa [textB]using d
   subst e;subst h;exact⟨rfl,by simp only[pF];omega,by simp only[pF];omega,rfl⟩
  .right;left;have e:=none rfl;have i:loAt 33=0/\hiAt 33=0:=⟨rfl,rfl⟩;subst e;exact⟨by rw[show n=0 by omega];rfl,by simpa [textB]using d⟩
  .right;right;right;left;have e:=none rfl;have i:loAt 34=0/\hiAt 34=0:=⟨rfl,rfl⟩;subst e;exact⟨by rw[show n=0 by omega];rfl,by simpa [textB]using d⟩
  .right;right;right;right;left;have e:=none rfl;have i:loAt 35=0/\hiAt 35=0:=⟨rfl,rfl⟩;subst e;exact⟨by rw[show n=0 by omega];rfl,by simpa [textB]using d⟩
  .right;right;left;have e:=none rfl;have i:loAt 36=0/\hiAt 36=0:=⟨rfl,rfl⟩;have h:t=[]:=by simpa [textB]using d
   subst e;subst h;rw[show n=0 by omega]
theorem Up{k:Int}(a:26<=k)(b:k<=31):tM (signAt k):=by
 have:k=26\/k=27\/k=28\/k=29\/k=30\/k=31:=aD;rcases this with rfl|rfl|rfl|rfl|rfl|rfl<;>exact⟨bG,bG⟩
theorem Bx{k:Int}{a b:Nd}(c:26<=k)(d:k<=31):exprT (.mk k [] 0 [a,b])=paren (decide (lvlN a.kind<(if levelAt k=1 then 2 else levelAt k))) (exprT a)++32::(signAt k++32::paren (decide (lvlN b.kind<levelAt k+1)) (exprT b)):=by
 rw[exprT,if_neg aD,if_neg aD,if_neg aD,if_neg aD]
theorem By{k:Int}{a b:Nd}(c:26<=k)(d:k<=31):cG (.mk k [] 0 [a,b])=yY (decide (lvlN a.kind<(if levelAt k=1 then 2 else levelAt k))) (cG a)++signAt k::yY (decide (lvlN b.kind<levelAt k+1)) (cG b):=by
 rw[cG,if_neg aD,if_neg aD,if_neg aD,if_neg aD,if_neg aD]
theorem Gd{t:aV}{d:List aV}(h:∀s a,pB s a->AF s=true->pB (t++s) (d++a))(c:Bool){s:aV}{a:List aV}(b:pB s a)(i:AF s=true):pB (paren c t++s) (yY c d++a):=by
 cases c
 .exact h s a b i
 .have e:=jK (c:=41) bG b;have f:=h _ _ e rfl;have g:=jK (c:=40) bG f;simpa [paren,yY]using g
theorem sL(x:Nd):rightN x=true->isExprK x.kind=true->∀s h,pB s h->AF s=true->pB (exprT x++s) (cG x++h):=by
 refine iU (p:=λx=>rightN x=true->isExprK x.kind=true->∀s h,pB s h->AF s=true->pB (exprT x++s) (cG x++h)) (λk t n ks l=>?_) x;intro z y s h f g;rcases gJ z y with⟨e,d,i,j⟩|⟨e,d⟩|e|⟨e,d⟩|⟨e,d⟩|⟨A,a,b,e,d,i,j,u,v,w⟩
 .rw[j];simp only[exprT,cG,if_true];exact dQ (Jy d i) g f
 .rw[e];simp only[exprT,cG,gH]at d|-;simp only[show¬(33:Int)=32 by decide,if_false,if_true];exact dQ (vY d) g f
 .rw[e];simp only[exprT,cG,show¬(36:Int)=32 by decide,show¬(36:Int)=33 by decide,if_false,if_true];exact dQ (t:=sKind) ⟨bG,bG⟩ g f
 .rw[e];simp only[exprT,cG,gH]at d|-;simp only[show¬(34:Int)=32 by decide,show¬(34:Int)=33 by decide,show¬(34:Int)=36 by decide,if_false,if_true,true_or];exact dQ (jL d).1 g f
 .rw[e];simp only[exprT,cG,gH]at d|-;simp only[show¬(35:Int)=32 by decide,show¬(35:Int)=33 by decide,show¬(35:Int)=36 by decide,show¬(35:Int)=34 by decide,if_false,if_true,or_true];obtain⟨a,b,m,o,q,r⟩:=oD d;unfold Bw;rw[m];simp only;rw[o];have q1:=dQ (jL r).1 g f;have q2:=jK (c:=46) bG q1;have q3:=dQ (jL q).1 rfl q2;simpa using q3
 .injection i with i1 i2 i3 i4
  subst i1;subst i2;subst i3;subst i4;rw[Bx e d,By e d];have q1:=Gd (l b bA v w) (decide (lvlN b.kind<levelAt k+1)) f g;have q2:=dQ (Up e d) rfl q1.sp;have q3:=Gd (l a bA j u) (decide (lvlN a.kind<(if levelAt k=1 then 2 else levelAt k))) q2.sp rfl;simpa using q3
def Bg(p:PS)(ts:List aV):Prop:=p.e=0/\p.l.map Tk.text=ts
theorem Bg.peek{p:PS}{t:aV}{c:List aV}(h:Bg p (t::c)):p.peek=t:=by
 obtain⟨b,a⟩:=h;unfold PS.peek;rw[if_neg (by simp[b])];cases e:p.l with
 |nil=>rw[e]at a;simp at a
 |cons x r=>rw[e]at a;simp at a;exact a.1
theorem Bg.peek0{p:PS}(h:Bg p []):p.peek=[]:=by
 obtain⟨b,a⟩:=h;unfold PS.peek;rw[if_neg (by simp[b])];cases e:p.l with
 |nil=>rfl
 |cons x r=>rw[e]at a;simp at a
theorem Bg.skip{p:PS}{t:aV}{b:List aV}(h:Bg p (t::b)):Bg p.skip b:=by
 obtain⟨c,a⟩:=h;refine⟨c,?_⟩;unfold PS.skip;cases e:p.l with
 |nil=>rw[e]at a;simp at a
 |cons x r=>rw[e]at a;simp at a;exact a.2
theorem Bg.is{p:PS}{t:aV}{b:List aV}(h:Bg p (t::b))(s:aV)(a:s≠[]):p.is s=decide (t=s):=by
 unfold PS.is;rw[h.peek];simp[a]
theorem Bg.isnt{p:PS}{a:List aV}(h:Bg p a)(s:aV)(c:s≠[])(b:a.head?≠some s):p.is s=false:=by
 cases a with
 |nil=>unfold PS.is;rw[h.peek0];simp[Ne.symm c]
 |cons t r=>rw[h.is s c];simp at b;simp[b]
theorem Bg.need{p:PS}{t:aV}{b:List aV}(h:Bg p (t::b))(a:t≠[]):p.need t=p.skip:=by
 unfold PS.need;rw[h.is t a,if_pos bA]
theorem Bg.len{p:PS}{a:List aV}(h:Bg p a):p.l.length=a.length:=by rw[<-h.2];simp
def fJ(f:PS->Nd×PS)(ks:List aV)(x:Nd)(rest:List aV):Prop:=∀p,Bg p (ks++rest)->∃q,f p=(x,q)/\Bg q rest
def mZ(lv:Int)(rest:List aV):Prop:=opI lv (rest.head?.getD [])<0
def kR(rest:List aV):Prop:=rest.head?≠some [46]
theorem Bg.opP{p:PS}{a:List aV}{lv:Int}(h:Bg p a)(b:mZ lv a):(opP lv p).1<0/\(Eng.opP lv p).2=p:=by
 have c:p.peek=a.head?.getD []:=by
  cases a with
  |nil=>rw[h.peek0];rfl
  |cons t r=>rw[h.peek];rfl
 unfold Eng.opP;rw[c];exact⟨b,by rw[if_neg];unfold mZ at b;omega⟩
theorem Bg.opY{p:PS}{t:aV}{c:List aV}{a:Int}(h:Bg p (t::c))(b:0<=opI a t):Eng.opP a p=(opI a t,p.skip):=by
 unfold Eng.opP;rw[h.peek,if_pos b]
def Uq(lv:Int)(X:PS->Nd×PS)(ks:List aV)(x:Nd)(rest:List aV):Prop:=
 ∀p,Bg p (ks++rest)->∃f q,rest.length<f/\chainP lv X p=chainF lv X f x q/\Bg q rest
theorem Uq.done{c:Int}{X:PS->Nd×PS}{d:List aV}{x:Nd}{a:List aV}(h:Uq c X d x a)(g:mZ c a):fJ (chainP c X) d x a:=λp i=>by
 obtain⟨f,q,l,e,b⟩:=h p i;refine⟨q,?_,b⟩;rw[e];cases f with
 |zero=>omega
 |succ f=>
  unfold chainF;obtain⟨j,k⟩:=b.opP g;rw[if_neg (by simp[b.1]),if_pos j,k]
theorem Uq.one{f:Int}{X:PS->Nd×PS}{c:List aV}{x:Nd}{a:List aV}(h:fJ X c x a):Uq f X c x a:=λp e=>by
 obtain⟨q,d,b⟩:=h p e;refine⟨q.l.length+1,q,by rw[b.len];omega,?_,b⟩;unfold chainP;rw[d]
theorem Uq.step{d:Int}{X:PS->Nd×PS}{h g:List aV}{a b:Nd}{s:aV}{c:List aV}(k:Uq d X h a (s::(g++c)))(n:0<=opI d s)(l:fJ X g b c):
 Uq d X (h++s::g) (.mk (26+opI d s) [] 0 [a,b]) c:=λp m=>by
 obtain⟨f,q,i,j,e⟩:=k p (by simpa using m);cases f with
 |zero=>omega
 |succ f=>
  obtain⟨q2,o,r⟩:=l q.skip e.skip;refine⟨f,q2,by simp only[A1,A0]at i;omega,?_,r⟩;rw[j]
  conv=>lhs;unfold chainF
  rw[if_neg (by simp[e.1]),e.opY n,if_neg (by simp only;omega)];simp only;rw[o]
theorem Ge{k:Int}(c:26<=k)(d:k<=31):opI (levelAt k) (signAt k)=k-26/\(levelAt k=1\/levelAt k=2\/levelAt k=3)/\(∀a:Int,(a=1\/a=2\/a=3)->a≠levelAt k->opI a (signAt k)<0)/\signAt k≠[46]/\lvlN k=levelAt k:=by
 have:k=26\/k=27\/k=28\/k=29\/k=30\/k=31:=aD;rcases this with rfl|rfl|rfl|rfl|rfl|rfl<;>exact⟨bG,bG,λa h b=>by rcases h with rfl|rfl|rfl<;>first|exact absurd rfl b|decide,bG,bG⟩
structure EP(x:Nd):Prop where
 a1:∀f rest,depthN x<f->kR rest->mZ 1 rest->mZ 2 rest->mZ 3 rest->fJ (exprP false f) (cG x) x rest
 c2:∀f rest,depthN x<f->kR rest->mZ 3 rest->Uq 2 (prodP (exprP false f)) (yY (decide (lvlN x.kind<2)) (cG x)) x rest
 c3:∀f rest,depthN x<f->kR rest->Uq 3 (factP (exprP false f)) (yY (decide (lvlN x.kind<3)) (cG x)) x rest
 a4:∀f rest,depthN x<f->kR rest->fJ (factP (exprP false f)) (yY (decide (lvlN x.kind<4)) (cG x)) x rest
theorem vZ{x:Nd}(h:∀f a,depthN x<f->kR a->mZ 1 a->mZ 2 a->mZ 3 a->fJ (exprP false f) (cG x) x a){f:Nat}{a:List aV}(e:depthN x<f):
 fJ (factP (exprP false f)) ([40]::(cG x++[[41]])) x a:=λp c=>by
 obtain⟨q,d,b⟩:=h f ([41]::a) e (show some [41]≠some [46]by decide) (show opI 1 [41]<0 by decide) (show opI 2 [41]<0 by decide) (show opI 3 [41]<0 by decide) p.skip (by simpa using c.skip);refine⟨q.skip,?_,b.skip⟩;unfold factP;rw[c.is [40] bG,if_pos bA,d,b.need bG]
theorem yA{x:Nd}{b:Int}(h:b<=lvlN x.kind){a:List aV}:yY (decide (lvlN x.kind<b)) a=a:=by rw[decide_eq_false aD];rfl
theorem sM{x:Nd}{b:Int}(h:lvlN x.kind<b){a:List aV}:yY (decide (lvlN x.kind<b)) a=[40]::(a++[[41]]):=by rw[decide_eq_true h];rfl
theorem Bz{x:Nd}{c:List aV}{a:List aV}{f:Nat}(h:fJ (sumP (exprP false f)) c x a)(g:mZ 1 a):fJ (exprP false (f+1)) c x a:=λp e=>by
 obtain⟨q,d,b⟩:=h p e;refine⟨q,?_,b⟩;unfold exprP;rw[if_neg bA];unfold exprB;simp only;obtain⟨j,i⟩:=b.opP g;rw[d];simp only;rw[if_neg aD,i]
theorem AG{x:Nd}(k:3<lvlN x.kind)(d:∀f a,kR a->fJ (factP (exprP false f)) (cG x) x a):EP x:=by
 have g:∀f a,kR a->Uq 3 (factP (exprP false f)) (cG x) x a:=λf a b=>Uq.one (d f a b);have e:∀f a,kR a->mZ 3 a->Uq 2 (prodP (exprP false f)) (cG x) x a:=λf a b h=>Uq.one ((g f a b).done h);refine⟨λf a l b i j c=>?_,λf a _ b c=>?_,λf a _ b=>?_,λf a _ b=>?_⟩
 .cases f with
  |zero=>omega
  |succ f=>exact Bz ((e f a b c).done j) i
 .rw[yA aD];exact e f a b c
 .rw[yA aD];exact g f a b
 .rw[yA aD];exact d f a b
theorem Zy{k:Int}{a b:Nd}(F:26<=k)(G:k<=31)(z:EP a)(A:EP b):EP (.mk k [] 0 [a,b]):=by
 obtain⟨N,O,P,Q,m⟩:=Ge F G;have S:depthN (.mk k [] 0 [a,b])=max (depthN a) (depthN b)+1:=by simp[depthN,depthL]
 have t:=By (a:=a) (b:=b) F G;have j:(Nd.mk k [] 0 [a,b]).kind=k:=rfl;have l:0<=opI (levelAt k) (signAt k):=aD;have B:Nd.mk (26+opI (levelAt k) (signAt k)) [] 0 [a,b]=.mk k [] 0 [a,b]:=by rw[N,show 26+(k-26)=k by omega]
 have C:∀r,kR (signAt k::r):=λr e=>Q (by simpa using e);have D:∀s r,(s=1\/s=2\/s=3)->s≠levelAt k->mZ s (signAt k::r):=λs r h J=>P s h J;generalize levelAt k=s at*;rcases O with rfl|rfl|rfl
 .rw[if_pos rfl]at t;have n:∀f c,depthN (.mk k [] 0 [a,b])<f->kR c->mZ 1 c->mZ 2 c->mZ 3 c->fJ (exprP false f) (cG (.mk k [] 0 [a,b])) (.mk k [] 0 [a,b]) c:=λf c g d y x i p H=>by
   cases f with
   |zero=>omega
   |succ f=>
    rw[t]at H;obtain⟨q,K,I⟩:=(z.c2 f (signAt k::(yY (decide (lvlN b.kind<2)) (cG b)++c)) aD (C _) (D 3 _ aD aD)).done (D 2 _ aD aD) p (by simpa using H);obtain⟨q2,L,M⟩:=(A.c2 f c aD d i).done x q.skip I.skip;refine⟨q2,?_,M⟩;unfold exprP;rw[if_neg bA];unfold exprB;simp only;rw[show sumP (exprP false f) p=(a,q) from K];simp only;rw[I.opY l];simp only;rw[if_pos l,show sumP (exprP false f) q.skip=(b,q2) from L];simp only;rw[B]
  have o:∀f c,depthN (.mk k [] 0 [a,b])<f->kR c->fJ (factP (exprP false f)) ([40]::(cG (.mk k [] 0 [a,b])++[[41]])) (.mk k [] 0 [a,b]) c:=λf c g _=>vZ n g;refine⟨n,λf c g d i=>?_,λf c g d=>?_,λf c g d=>?_⟩
  .rw[sM (by rw[j,m];omega)];exact Uq.one ((Uq.one (o f c g d)).done i)
  .rw[sM (by rw[j,m];omega)];exact Uq.one (o f c g d)
  .rw[sM (by rw[j,m];omega)];exact o f c g d
 .rw[if_neg bG]at t;have u:∀f c,depthN a<f->depthN b<f->kR c->mZ 3 c->Uq 2 (prodP (exprP false f)) (cG (.mk k [] 0 [a,b])) (.mk k [] 0 [a,b]) c:=λf c v w d i=>by
   rw[t];have:=Uq.step (z.c2 f (signAt k::(yY (decide (lvlN b.kind<3)) (cG b)++c)) v (C _) (D 3 _ aD aD)) l ((A.c3 f c w d).done i);rw[B]at this;exact this
  have n:∀f c,depthN (.mk k [] 0 [a,b])<f->kR c->mZ 1 c->mZ 2 c->mZ 3 c->fJ (exprP false f) (cG (.mk k [] 0 [a,b])) (.mk k [] 0 [a,b]) c:=λf c g d y x i=>by
   cases f with
   |zero=>omega
   |succ f=>exact Bz ((u f c aD aD d i).done x) y
  have o:∀f c,depthN (.mk k [] 0 [a,b])<f->kR c->fJ (factP (exprP false f)) ([40]::(cG (.mk k [] 0 [a,b])++[[41]])) (.mk k [] 0 [a,b]) c:=λf c g _=>vZ n g;refine⟨n,λf c g d i=>?_,λf c g d=>?_,λf c g d=>?_⟩
  .rw[yA (by rw[j,m];omega)];exact u f c aD aD d i
  .rw[sM (by rw[j,m];omega)];exact Uq.one (o f c g d)
  .rw[sM (by rw[j,m];omega)];exact o f c g d
 .rw[if_neg bG]at t;have E:∀f c,depthN a<f->depthN b<f->kR c->Uq 3 (factP (exprP false f)) (cG (.mk k [] 0 [a,b])) (.mk k [] 0 [a,b]) c:=λf c v w d=>by
   rw[t];have:=Uq.step (z.c3 f (signAt k::(yY (decide (lvlN b.kind<4)) (cG b)++c)) v (C _)) l (A.a4 f c w d);rw[B]at this;exact this
  have u:∀f c,depthN a<f->depthN b<f->kR c->mZ 3 c->Uq 2 (prodP (exprP false f)) (cG (.mk k [] 0 [a,b])) (.mk k [] 0 [a,b]) c:=λf c v w d i=>Uq.one ((E f c v w d).done i);have n:∀f c,depthN (.mk k [] 0 [a,b])<f->kR c->mZ 1 c->mZ 2 c->mZ 3 c->fJ (exprP false f) (cG (.mk k [] 0 [a,b])) (.mk k [] 0 [a,b]) c:=λf c g d y x i=>by
   cases f with
   |zero=>omega
   |succ f=>exact Bz ((u f c aD aD d i).done x) y
  have o:∀f c,depthN (.mk k [] 0 [a,b])<f->kR c->fJ (factP (exprP false f)) ([40]::(cG (.mk k [] 0 [a,b])++[[41]])) (.mk k [] 0 [a,b]) c:=λf c g _=>vZ n g;refine⟨n,λf c g d i=>?_,λf c g d=>?_,λf c g d=>?_⟩
  .rw[yA (by rw[j,m];omega)];exact u f c aD aD d i
  .rw[yA (by rw[j,m];omega)];exact E f c aD aD d
  .rw[sM (by rw[j,m];omega)];exact o f c g d
set_option maxRecDepth 100000 in
theorem BA:∀n:Nat,n<1000->decS n≠[40]/\decS n≠sKind/\(match decS n with|c::_=>digitB c|[]=>false)=true/\valS (decS n)=n:=bG
theorem tN{t:aV}(h:wholeB t true=true):t≠[40]/\t≠sKind/\t≠sElse/\(∀w∈wordsL,t≠w)/\∃c r,t=c::r/\letterB c=true:=by
 have f:=(jL h).2;cases t with
 |nil=>cases f
 |cons c r=>
  simp only[isNameB,A5]at f;obtain⟨b,a⟩:=f;have d:¬(c::r=sElse)/\¬(c::r=sKind)/\¬(c::r∈wordsL):=by
   unfold reservedB at a;simp only[D3,Bool.or_eq_false_iff,decide_eq_false_iff_not]at a;exact⟨a.1.1,a.1.2,a.2⟩
  refine⟨λe=>?_,d.2.1,d.1,λw g e=>d.2.2 (e▸g),c,r,rfl,b⟩;injection e with e1 _
  rw[e1]at b;revert b;decide
theorem Bg.name{p:PS}{t:aV}{ts:List aV}(h:Bg p (t::ts))(a:wholeB t true=true):nameP p=(t,p.skip):=by
 unfold nameP;rw[h.peek,(jL a).2];rfl
theorem Bg.local{p:PS}{t:aV}{a:List aV}(h:Bg p ((36::t)::a)):localP p=(t,p.skip):=by
 unfold localP;rw[h.peek];rfl
theorem Co{x:Nd}(m:rightN x=true)(d:isPlaceK x.kind=true){rest:List aV}(l:kR rest):fJ placeP (cG x) x rest:=λp h=>by
 rcases gJ m (gI d)with⟨c,_⟩|⟨c,_⟩|c|⟨c,e⟩|⟨c,e⟩|⟨n,a,b,c,e,k,_⟩
 .rw[c]at d;cases d
 .rw[c]at d;cases d
 .rw[c]at d;cases d
 .rw[c]at h|-;simp only[cG,show¬(34:Int)=32 by decide,show¬(34:Int)=33 by decide,show¬(34:Int)=36 by decide,if_false,if_true]at h;refine⟨p.skip,?_,h.skip⟩;unfold placeP;rw[h.name e];simp only;rw[h.skip.isnt [46] bG l];rfl
 .rw[c]at h|-;simp only[cG,show¬(35:Int)=32 by decide,show¬(35:Int)=33 by decide,show¬(35:Int)=36 by decide,show¬(35:Int)=34 by decide,if_false,if_true]at h;obtain⟨a,b,f,g,i,j⟩:=oD e;unfold Bw at h;rw[f]at h;simp only[A2,A3]at h;refine⟨p.skip.skip.skip,?_,h.skip.skip.skip⟩;unfold placeP;rw[h.name i];simp only;rw[h.skip.is [46] bG,h.skip.skip.name j];simp only[decide_true,if_true];rw[<-g]
 .rw[k]at d;have d:=isPlaceK_iff.1 (show isPlaceK n=true from d);omega
theorem Eg{o:PS->Nd×PS}{x:Nd}(l:rightN x=true)(f:isPlaceK x.kind=true){d:List aV}(B:kR d):fJ (factP o) (cG x) x d:=λp h=>by
 obtain⟨q,z,A⟩:=Co l f B p h;refine⟨q,?_,A⟩;have C:∃t u,wholeB t true=true/\cG x++d=t::u:=by
  rcases gJ l (gI f)with⟨g,_⟩|⟨g,_⟩|g|⟨g,i⟩|⟨g,i⟩|⟨E,a,b,g,i,y,_⟩
  .rw[g]at f;cases f
  .rw[g]at f;cases f
  .rw[g]at f;cases f
  .rw[g];exact⟨x.text,d,i,rfl⟩
  .obtain⟨a,b,k,m,n,F⟩:=oD i;rw[g];simp only[cG,show¬(35:Int)=32 by decide,show¬(35:Int)=33 by decide,show¬(35:Int)=36 by decide,show¬(35:Int)=34 by decide,if_false,if_true,Bw,k];exact⟨a,_,n,rfl⟩
  .rw[y]at f;have f:=isPlaceK_iff.1 (show isPlaceK E=true from f);omega
 obtain⟨t,u,D,e⟩:=C;rw[e]at h;obtain⟨s,v,_,_,c,r,w,j⟩:=tN D;unfold factP;rw[h.is [40] bG,h.is sKind bG,decide_eq_false s,decide_eq_false v,h.peek,w];simp only[B2,if_false];rw[if_neg,if_neg,z]
 .intro e;rw[e]at j;revert j;decide
 .intro e;simp only[letterB,digitB,A5,decide_eq_true_eq,UInt8.le_iff_toNat_le]at j e;have k:(97:UInt8).toNat=97:=rfl;have m:(57:UInt8).toNat=57:=rfl;omega
theorem Mt(x:Nd):rightN x=true->isExprK x.kind=true->EP x:=by
 refine iU (p:=λx=>rightN x=true->isExprK x.kind=true->EP x) (λk t n l y=>?_) x;intro u G;rcases gJ u G with⟨d,i,v,m⟩|⟨d,i⟩|d|⟨d,i⟩|⟨d,i⟩|⟨I,a,b,d,i,v,m,D,E,F⟩
 .refine AG (by rw[d];show(3:Int)<lvlN 32;decide) λf g _ p h=>?_;rw[m]at h|-;simp only[cG,if_true]at h;obtain⟨A,B,j,C⟩:=BA (Nd.mk k t n l).n.toNat aD;have e:itoaS (Nd.mk k t n l).n=decS (Nd.mk k t n l).n.toNat:=by unfold itoaS;rw[if_neg aD]
  rw[e]at h;generalize H:(Nd.mk k t n l).n=z at*;generalize decS z.toNat=w at*;refine⟨p.skip,?_,h.skip⟩;cases w with
  |nil=>cases j
  |cons c r=>
   simp only at j;unfold factP;rw[h.is [40] bG,h.is sKind bG,decide_eq_false A,decide_eq_false B,h.peek];simp only[B2,if_false,j,if_true];unfold numeralP;rw[h.peek];simp only[j,if_true];have s:loAt 32=0:=rfl;have q:hiAt 32=999:=rfl;rw[C,s,q,if_neg aD];simp only;rw[show((z.toNat:Nat):Int)=z by omega]
 .refine AG (by rw[d];show(3:Int)<lvlN 33;decide) λf g _ p h=>?_;rw[d]at h|-;simp only[cG,show¬(33:Int)=32 by decide,if_false,if_true]at h;refine⟨p.skip,?_,h.skip⟩;unfold factP;rw[h.is [40] bG,h.is sKind bG,decide_eq_false bA,decide_eq_false (by simp[sKind]),h.peek];simp only[B2,if_false,show digitB 36=false by decide,if_true];rw[h.local]
 .refine AG (by rw[d];show(3:Int)<lvlN 36;decide) λf g _ p h=>?_;rw[d]at h|-;simp only[cG,show¬(36:Int)=32 by decide,show¬(36:Int)=33 by decide,if_false,if_true]at h;refine⟨p.skip,?_,h.skip⟩;unfold factP;rw[h.is [40] bG,h.is sKind bG,decide_eq_false bG];simp
 .exact AG (by rw[d];show(3:Int)<lvlN 34;decide) λf g o=>Eg u (by rw[d];rfl) o
 .exact AG (by rw[d];show(3:Int)<lvlN 35;decide) λf g o=>Eg u (by rw[d];rfl) o
 .injection v with i1 i2 i3 i4
  subst i1;subst i2;subst i3;subst i4;exact Zy d i (y a bA m D) (y b bA E F)
def BB(k:Int)(t:aV):List aV:=if k=19\/k=20 then [36::t]else if k=21\/k=25\/k=24 then []else [t]
def nC(n:Int):List aV:=if 0<n then [itoaS n]else []
mutual
def fT:Nd->List aV
 | .mk k t n ks=>if k=9 then(match ks with|[e]=>(36::t)::[61]::(cG e++[[59]])|_=>[])
   else if k=10 then(match ks with|[p,e]=>cG p++[61]::(cG e++[[59]])|_=>[])
   else if k=11\/k=12 then(match ks with
    |[e,b]=>wordAt k::(cG e++fE b)
    |[e,b,c]=>wordAt k::(cG e++(fE b++sElse::fE c))
    |_=>[])
   else wordAt k::(BB k t++(nC n++(ks.flatMap cG++[[59]])))
def fE:Nd->List aV
 | .mk _ _ _ ks=>[123]::(nD ks++[[125]])
def nD:List Nd->List aV
 |[]=>[]
 |x::r=>fT x++nD r
end
theorem stmtT_cmd{k:Int}(t:aV)(n:Int)(ks:List Nd)(h:13<=k):stmtT (.mk k t n ks)=wordAt k++midT k t++withN n++withE ks++[59]:=by
 unfold stmtT;rw[if_neg aD,if_neg aD,if_neg aD]
theorem stmtK_cmd{k:Int}(t:aV)(n:Int)(ks:List Nd)(h:13<=k):fT (.mk k t n ks)=wordAt k::(BB k t++(nC n++(ks.flatMap cG++[[59]]))):=by
 unfold fT;rw[if_neg aD,if_neg aD,if_neg aD]
theorem stmtK_if3{t:aV}{n:Int}{e b c:Nd}:fT (.mk 11 t n [e,b,c])=wordAt 11::(cG e++(fE b++sElse::fE c)):=by simp[fT]
def BlockR(x:Nd):Prop:=∃ks,x=.mk 8 [] 0 ks/\∀y∈ks,rightN y=true/\isStmtK y.kind=true
theorem right_block{x:Nd}(c:rightN x=true)(a:isBlockK x.kind=true):BlockR x:=by
 obtain⟨k,t,n,ks⟩:=x;have a:k=8:=of_decide_eq_true (show decide (k=8)=true from a);subst a;obtain⟨_,_,d,h,i,f,a⟩:=right_mk.1 c;have g:loAt 8=0/\hiAt 8=0:=⟨rfl,rfl⟩;have e:t=[]:=by simpa [textB]using f
 refine⟨ks,by rw[e,show n=0 by omega],λy b=>⟨a y b,?_⟩⟩;exact C1.1 (show(ks.all λy=>isStmtK y.kind)=true from d) y b
def CmdR(k:Int)(t:aV)(n:Int)(ks:List Nd):Prop:=
 ((k=13\/k=14\/k=17\/k=18)/\wholeB t true=true/\n=0/\ks=[])\/
 ((k=15\/k=22)/\wholeB t true=true/\n=0/\∃e,ks=[e]/\rightN e=true/\isExprK e.kind=true)\/
 ((k=16\/k=23)/\wholeB t true=true/\n=0/\∃u,ks=[.mk 33 u 0 []]/\wholeB u false=true)\/
 (k=19/\wholeB t false=true/\2<=n/\n<=6/\ks=[])\/(k=20/\wholeB t false=true/\n=0/\ks=[])\/
 ((k=21/\n<=9\/k=25/\n<=99)/\t=[]/\1<=n/\ks=[])\/(k=24/\t=[]/\n=0/\∃e,ks=[e]/\rightN e=true/\isExprK e.kind=true)
theorem kids_one{f:Int->Bool}:∀{b:List Nd},kidsB b [f]=true->∃a,b=[a]/\f a.kind=true
 |[a],h=>⟨a,rfl,by simpa [kidsB]using h⟩
 |[],h=>by cases h
 |_::_::_,h=>by simp[kidsB]at h
theorem kids_two{f g:Int->Bool}:∀{ks:List Nd},kidsB ks [f,g]=true->∃a b,ks=[a,b]/\f a.kind=true/\g b.kind=true
 |[a,b],h=>⟨a,b,rfl,by simpa [kidsB]using h⟩
 |[],h=>by cases h
 |[_],h=>by simp[kidsB]at h
 |_::_::_::_,h=>by simp[kidsB]at h
theorem kids_three{f g e:Int->Bool}:∀{d:List Nd},kidsB d [f,g,e]=true->∃a b c,d=[a,b,c]/\f a.kind=true/\g b.kind=true/\e c.kind=true
 |[a,b,c],h=>⟨a,b,c,rfl,by simpa [kidsB]using h⟩
 |[],h=>by cases h
 |[_],h=>by simp[kidsB]at h
 |[_,_],h=>by simp[kidsB]at h
 |_::_::_::_::_,h=>by simp[kidsB]at h
theorem kids_none:∀{a:List Nd},kidsB a []=true->a=[]
 |[],_=>rfl
 |_::_,h=>by cases h
theorem right_stmt{x:Nd}(y:rightN x=true)(u:isStmtK x.kind=true):
 (∃t e,x=.mk 9 t 0 [e]/\wholeB t false=true/\rightN e=true/\isExprK e.kind=true)\/
 (∃p e,x=.mk 10 [] 0 [p,e]/\rightN p=true/\isPlaceK p.kind=true/\rightN e=true/\isExprK e.kind=true)\/
 (∃k e b,(k=11\/k=12)/\x=.mk k [] 0 [e,b]/\rightN e=true/\isExprK e.kind=true/\rightN b=true/\isBlockK b.kind=true)\/
 (∃e b c,x=.mk 11 [] 0 [e,b,c]/\rightN e=true/\isExprK e.kind=true/\rightN b=true/\isBlockK b.kind=true/\rightN c=true/\isBlockK c.kind=true)\/
 (∃k t n r,13<=k/\k<=25/\x=.mk k t n r/\CmdR k t n r):=by
 obtain⟨k,t,n,r⟩:=x;have u:9<=k/\k<=25:=isStmtK_iff.1 u;obtain⟨_,_,i,z,A,l,h⟩:=right_mk.1 y;have o:k=9\/k=10\/k=11\/k=12\/k=13\/k=14\/k=15\/k=16\/k=17\/k=18\/k=19\/k=20\/k=21\/k=22\/k=23\/k=24\/k=25:=aD;rcases o with rfl|rfl|rfl|rfl|rfl|rfl|rfl|rfl|rfl|rfl|rfl|rfl|rfl|rfl|rfl|rfl|rfl
 .obtain⟨e,rfl,j⟩:=kids_one (f:=isExprK) i;have m:loAt 9=0/\hiAt 9=0:=⟨rfl,rfl⟩;exact .inl ⟨t,e,by rw[show n=0 by omega],l,h e bA,j⟩
 .obtain⟨p,e,rfl,w,j⟩:=kids_two (f:=isPlaceK) (g:=isExprK) i;have m:loAt 10=0/\hiAt 10=0:=⟨rfl,rfl⟩;have q:t=[]:=by simpa [textB]using l
  exact .inr (.inl ⟨p,e,by rw[q,show n=0 by omega],h p bA,w,h e bA,j⟩)
 .have m:loAt 11=0/\hiAt 11=0:=⟨rfl,rfl⟩;have q:t=[]:=by simpa [textB]using l
  have i:(kidsB r [isExprK,isBlockK]||kidsB r [isExprK,isBlockK,isBlockK])=true:=i;rw[D6]at i;rcases i with i|i
  .obtain⟨e,b,rfl,j,s⟩:=kids_two i;exact .inr (.inr (.inl ⟨11,e,b,.inl rfl,by rw[q,show n=0 by omega],h e bA,j,h b bA,s⟩))
  .obtain⟨e,b,c,rfl,j,s,v⟩:=kids_three i;exact .inr (.inr (.inr (.inl ⟨e,b,c,by rw[q,show n=0 by omega],h e bA,j,h b bA,s,h c bA,v⟩)))
 .have m:loAt 12=0/\hiAt 12=0:=⟨rfl,rfl⟩;have q:t=[]:=by simpa [textB]using l
  obtain⟨e,b,rfl,j,s⟩:=kids_two (f:=isExprK) (g:=isBlockK) i;exact .inr (.inr (.inl ⟨12,e,b,.inr rfl,by rw[q,show n=0 by omega],h e bA,j,h b bA,s⟩))
 all_goals refine .inr (.inr (.inr (.inr ⟨_,t,n,r,bG,bG,rfl,?_⟩)))
 .have m:loAt 13=0/\hiAt 13=0:=⟨rfl,rfl⟩;exact .inl ⟨aD,l,aD,kids_none i⟩
 .have m:loAt 14=0/\hiAt 14=0:=⟨rfl,rfl⟩;exact .inl ⟨aD,l,aD,kids_none i⟩
 .have m:loAt 15=0/\hiAt 15=0:=⟨rfl,rfl⟩;obtain⟨e,rfl,j⟩:=kids_one (f:=isExprK) i;exact .inr (.inl ⟨aD,l,aD,e,rfl,h e bA,j⟩)
 .have m:loAt 16=0/\hiAt 16=0:=⟨rfl,rfl⟩;obtain⟨e,rfl,j⟩:=kids_one (f:=isLocalK) i;refine .inr (.inr (.inl ⟨aD,l,aD,?_⟩));have d:e.kind=33:=by simpa [isLocalK]using j
  rcases gJ (h e bA) (by rw[d];rfl)with⟨g1,_⟩|⟨g1,g2⟩|g1|⟨g1,_⟩|⟨g1,_⟩|⟨k',a,b,g1,g2,g3,_⟩
  .omega
  .exact⟨e.text,by rw[<-g1],g2⟩
  .rw[g1]at d;cases d
  .rw[g1]at d;cases d
  .rw[g1]at d;cases d
  .rw[g3]at d;simp only[dX]at d;omega
 .have m:loAt 17=0/\hiAt 17=0:=⟨rfl,rfl⟩;exact .inl ⟨aD,l,aD,kids_none i⟩
 .have m:loAt 18=0/\hiAt 18=0:=⟨rfl,rfl⟩;exact .inl ⟨aD,l,aD,kids_none i⟩
 .have m:loAt 19=2/\hiAt 19=6:=⟨rfl,rfl⟩;exact .inr (.inr (.inr (.inl ⟨rfl,l,aD,aD,kids_none i⟩)))
 .have m:loAt 20=0/\hiAt 20=0:=⟨rfl,rfl⟩;exact .inr (.inr (.inr (.inr (.inl ⟨rfl,l,aD,kids_none i⟩))))
 .have m:loAt 21=1/\hiAt 21=9:=⟨rfl,rfl⟩;exact .inr (.inr (.inr (.inr (.inr (.inl ⟨.inl ⟨rfl,aD⟩,by simpa [textB]using l,aD,kids_none i⟩)))))
 .have m:loAt 22=0/\hiAt 22=0:=⟨rfl,rfl⟩;obtain⟨e,rfl,j⟩:=kids_one (f:=isExprK) i;exact .inr (.inl ⟨aD,l,aD,e,rfl,h e bA,j⟩)
 .have m:loAt 23=0/\hiAt 23=0:=⟨rfl,rfl⟩;obtain⟨e,rfl,j⟩:=kids_one (f:=isLocalK) i;refine .inr (.inr (.inl ⟨aD,l,aD,?_⟩));have d:e.kind=33:=by simpa [isLocalK]using j
  rcases gJ (h e bA) (by rw[d];rfl)with⟨g1,_⟩|⟨g1,g2⟩|g1|⟨g1,_⟩|⟨g1,_⟩|⟨k',a,b,g1,g2,g3,_⟩
  .omega
  .exact⟨e.text,by rw[<-g1],g2⟩
  .rw[g1]at d;cases d
  .rw[g1]at d;cases d
  .rw[g1]at d;cases d
  .rw[g3]at d;simp only[dX]at d;omega
 .have m:loAt 24=0/\hiAt 24=0:=⟨rfl,rfl⟩;obtain⟨e,rfl,j⟩:=kids_one (f:=isExprK) i;exact .inr (.inr (.inr (.inr (.inr (.inr ⟨rfl,by simpa [textB]using l,aD,e,rfl,h e bA,j⟩)))))
 .have m:loAt 25=1/\hiAt 25=99:=⟨rfl,rfl⟩;exact .inr (.inr (.inr (.inr (.inr (.inl ⟨.inr ⟨rfl,aD⟩,by simpa [textB]using l,aD,kids_none i⟩)))))
theorem word_tok{k:Int}(h:(0<=k/\k<=6)\/(11<=k/\k<=25)):tM (wordAt k):=by
 have:k=0\/k=1\/k=2\/k=3\/k=4\/k=5\/k=6\/k=11\/k=12\/k=13\/k=14\/k=15\/k=16\/k=17\/k=18\/k=19\/k=20\/k=21\/k=22\/k=23\/k=24\/k=25:=aD;rcases this with rfl|rfl|rfl|rfl|rfl|rfl|rfl|rfl|rfl|rfl|rfl|rfl|rfl|rfl|rfl|rfl|rfl|rfl|rfl|rfl|rfl|rfl<;>exact⟨bG,bG⟩
def LexB(s:aV)(ts:List aV):Prop:=pB s ts/\AF s=true
theorem LexB.mid{k:Int}{t s:aV}{b:List aV}(h:LexB s b)(a:if k=19\/k=20 then wholeB t false=true else k=21\/k=25\/k=24\/wholeB t true=true):LexB (midT k t++s) (BB k t++b):=by
 unfold midT BB;by_cases q:k=19\/k=20
 .rw[if_pos q]at a|-;rw[if_pos q];exact⟨(dQ (vY a) h.2 h.1).sp,rfl⟩
 .rw[if_neg q]at a|-;rw[if_neg q];by_cases q2:k=21\/k=25\/k=24
  .rw[if_pos q2,if_pos q2];exact h
  .rw[if_neg q2,if_neg q2];have a:wholeB t true=true:=by rcases a with e|e|e|e<;>first|exact absurd (by simp[e]) q2|exact e
   exact⟨(dQ (jL a).1 h.2 h.1).sp,rfl⟩
theorem LexB.num{n:Int}{s:aV}{a:List aV}(h:LexB s a)(b:0<=n)(c:n<=999):LexB (withN n++s) (nC n++a):=by
 unfold withN nC;by_cases q:0<n
 .rw[if_pos q,if_pos q];exact⟨(dQ (Jy b c) h.2 h.1).sp,rfl⟩
 .rw[if_neg q,if_neg q];exact h
theorem LexB.kids{s:aV}{b:List aV}(h:LexB s b):∀{ks:List Nd},(∀e∈ks,rightN e=true/\isExprK e.kind=true)->LexB (withE ks++s) (ks.flatMap cG++b)
 |[],_=>h
 |e::r,he=>by
  have a:=LexB.kids h (ks:=r) λy f=>he y (A4 _ f);obtain⟨c,d⟩:=he e (A7 ..);have:=(sL e c d _ _ a.1 a.2).sp;exact⟨by simpa [withE,B4]using this,rfl⟩
theorem cmd_facts{k:Int}{t:aV}{n:Int}{ks:List Nd}(h:CmdR k t n ks):(if k=19\/k=20 then wholeB t false=true else k=21\/k=25\/k=24\/wholeB t true=true)/\0<=n/\n<=999/\∀e∈ks,rightN e=true/\isExprK e.kind=true:=by
 have l:∀{u:aV},wholeB u false=true->rightN (.mk 33 u 0 [])=true/\isExprK (Nd.mk 33 u 0 []).kind=true:=λm=>⟨right_mk.2 ⟨bG,bG,rfl,bG,bG,m,λ_ h=>by cases h⟩,rfl⟩;rcases h with⟨g,b,i,a⟩|⟨g,b,i,e,a,f,j⟩|⟨g,b,i,u,a,f⟩|⟨g,b,i,a,f⟩|⟨g,b,i,a⟩|⟨g,b,i,a⟩|⟨g,b,i,e,a,f,j⟩
 .refine⟨?_,aD,aD,λe c=>by rw[a]at c;cases c⟩;rw[if_neg aD];exact .inr (.inr (.inr b))
 .refine⟨?_,aD,aD,λy d=>by rw[a,B3]at d;rw[d];exact⟨f,j⟩⟩;rw[if_neg aD];exact .inr (.inr (.inr b))
 .refine⟨?_,aD,aD,λy d=>by rw[a,B3]at d;rw[d];exact l f⟩;rw[if_neg aD];exact .inr (.inr (.inr b))
 .refine⟨?_,aD,aD,λe c=>by rw[f]at c;cases c⟩;rw[if_pos aD];exact b
 .refine⟨?_,aD,aD,λe c=>by rw[a]at c;cases c⟩;rw[if_pos aD];exact b
 .refine⟨?_,aD,aD,λe c=>by rw[a]at c;cases c⟩;rw[if_neg aD];omega
 .refine⟨?_,aD,aD,λy d=>by rw[a,B3]at d;rw[d];exact⟨f,j⟩⟩;rw[if_neg aD];omega
theorem lex_stmts{ks:List Nd}:(∀y∈ks,∀s a,pB s a->pB (stmtT y++s) (fT y++a))->∀s a,pB s a->pB (stmtsT ks++s) (nD ks++a):=by
 induction ks with
 |nil=>intro _ s a h;simpa [stmtsT,nD]using h
 |cons y r ih=>
  intro b s a h;have c:=ih (λz e=>b z (A4 _ e)) s a h;have d:=b y (A7 ..) _ _ c.sp;simpa [stmtsT,nD]using d
theorem lex_stmt(x:Nd):(rightN x=true->isStmtK x.kind=true->∀s a,pB s a->pB (stmtT x++s) (fT x++a))/\(BlockR x->∀s a,pB s a->pB (blockT x++s) (fE x++a)):=by
 refine iU (p:=λx=>(rightN x=true->isStmtK x.kind=true->∀s a,pB s a->pB (stmtT x++s) (fT x++a))/\(BlockR x->∀s a,pB s a->pB (blockT x++s) (fE x++a))) (λk t n J r=>⟨?_,?_⟩) x
 .intro I H s a q;have w:=jK (c:=59) bG q;rcases right_stmt I H with⟨M,e,f,h,l,i⟩|⟨p,e,f,h,l,i,o⟩|⟨A,e,b,u,f,h,l,i,o⟩|⟨e,b,c,f,h,l,i,o,F,G⟩|⟨A,M,N,v,h,l,f,i⟩
  .rw[f];have d:=sL e l i _ _ w rfl;have g:=dQ (t:=[61]) ⟨bG,bG⟩ rfl d.sp;have j:=dQ (vY h) rfl g.sp;simpa [stmtT,fT]using j
  .rw[f];have d:=sL e i o _ _ w rfl;have g:=dQ (t:=[61]) ⟨bG,bG⟩ rfl d.sp;have j:=sL p h (gI l) _ _ g.sp rfl;simpa [stmtT,fT]using j
  .injection f with i1 i2 i3 i4
   subst i1;subst i4;have d:=(r b bA).2 (right_block i o) s a q;have g:=sL e h l _ _ d.sp rfl;have j:=dQ (word_tok (k:=k) aD) rfl g.sp;have q1:¬k=9:=aD;have q2:¬k=10:=aD;simpa [stmtT,fT,q1,q2,u]using j
  .injection f with i1 i2 i3 i4
   subst i1;subst i4;have d:=(r c bA).2 (right_block F G) s a q;have g:=dQ (t:=sElse) ⟨bG,bG⟩ rfl d.sp;have j:=(r b bA).2 (right_block i o) _ _ g.sp;have K:=sL e h l _ _ j.sp rfl;have L:=dQ (word_tok (k:=11) aD) rfl K.sp;simpa [stmtT,fT]using L
  .rw[f];obtain⟨B,C,D,E⟩:=cmd_facts i;have d:=LexB.mid (LexB.num (LexB.kids (show LexB (59::s) ([59]::a) from⟨w,rfl⟩) E) C D) B;have g:=dQ (word_tok (k:=A) aD) d.2 d.1;rw[stmtT_cmd _ _ _ h,stmtK_cmd _ _ _ h];simpa using g
 .rintro⟨v,f,z⟩ s a q;injection f with i1 i2 i3 i4
  subst i4;have d:=jK (c:=125) bG q;have g:=lex_stmts (ks:=J) (λy m=>(r y m).1 (z y m).1 (z y m).2) _ _ d;have j:=jK (c:=123) bG g.sp;simpa [blockT,fE]using j
def numK(n:Int):List aV:=if n<0 then [[45],decS n.natAbs]else [decS n.toNat]
def itemK(x:Nd):List aV:=x.text::[61]::(numK x.n++[[59]])
def defK(x:Nd):List aV:=
 if x.kind=5\/x.kind=6 then(match x.kids with|[b]=>wordAt x.kind::x.text::fE b|_=>[])
 else if x.kind=1 then wordAt x.kind::x.text::[123]::(x.kids.flatMap itemK++[[125]])
 else if x.kind=0 then wordAt x.kind::x.text::[61]::(numK x.n++[[59]])
 else if x.kind=2 then wordAt x.kind::x.text::(numK x.n++[[59]])
 else [wordAt x.kind,x.text,[59]]
theorem lex_num{n:Int}(d: -999<=n)(e:n<=999){s:aV}{b:List aV}(h:pB s b)(a:AF s=true):pB (itoaS n++s) (numK n++b):=by
 unfold itoaS numK;by_cases q:n<0
 .rw[if_pos q,if_pos q];have:=jK (c:=45) bG (dQ (t:=decS n.natAbs) (HI _ aD) a h);simpa using this
 .rw[if_neg q,if_neg q];exact dQ (t:=decS n.toNat) (HI _ aD) a h
def ItemR(x:Nd):Prop:=∃t n,x=.mk 7 t n []/\wholeB t true=true/\ -999<=n/\n<=999
theorem right_item{x:Nd}(b:rightN x=true)(a:isItemK x.kind=true):ItemR x:=by
 obtain⟨k,t,n,f⟩:=x;have a:k=7:=of_decide_eq_true (show decide (k=7)=true from a);subst a;obtain⟨_,_,c,g,h,d,_⟩:=right_mk.1 b;have e:loAt 7= -999/\hiAt 7=999:=⟨rfl,rfl⟩;exact⟨t,n,by rw[kids_none c],d,aD,aD⟩
theorem lex_items:∀{b:List Nd},(∀y∈b,ItemR y)->∀s a,pB s a->pB (b.flatMap itemT++s) (b.flatMap itemK++a)
 |[],_,s,a,h=>h
 |y::r,hy,s,a,h=>by
  obtain⟨t,n,rfl,d,e,f⟩:=hy y (A7 ..);have i:=lex_items (λz g=>hy z (A4 _ g)) s a h;have j:=jK (c:=59) bG i.sp;have k:=lex_num e f j rfl;have l:=dQ (t:=[61]) ⟨bG,bG⟩ rfl k.sp;have m:=dQ (jL d).1 rfl l.sp;simpa [itemT,itemK]using m
def DefR(x:Nd):Prop:=wholeB x.text true=true/\(((x.kind=5\/x.kind=6)/\∃b,x=.mk x.kind x.text 0 [b]/\BlockR b)\/(x.kind=1/\x=.mk 1 x.text 0 x.kids/\∀y∈x.kids,ItemR y)\/
 (x.kind=0/\x=.mk 0 x.text x.n []/\ -999<=x.n/\x.n<=999)\/(x.kind=2/\x=.mk 2 x.text x.n []/\0<=x.n/\x.n<=3)\/((x.kind=3\/x.kind=4)/\x=.mk x.kind x.text 0 []))
theorem right_def{x:Nd}(l:rightN x=true)(h:0<=x.kind)(i:x.kind<=6):DefR x:=by
 obtain⟨k,t,n,m⟩:=x;have h:0<=k:=h;have i:k<=6:=i;obtain⟨_,_,c,p,q,o,g⟩:=right_mk.1 l;have a:k=0\/k=1\/k=2\/k=3\/k=4\/k=5\/k=6:=aD;refine⟨by rcases a with rfl|rfl|rfl|rfl|rfl|rfl|rfl<;>exact o,?_⟩;rcases a with rfl|rfl|rfl|rfl|rfl|rfl|rfl
 .have d:loAt 0= -999/\hiAt 0=999:=⟨rfl,rfl⟩;exact .inr (.inr (.inl ⟨rfl,by rw[kids_none c];rfl,by simp only[pF];omega,by simp only[pF];omega⟩))
 .have d:loAt 1=0/\hiAt 1=0:=⟨rfl,rfl⟩;exact .inr (.inl ⟨rfl,by rw[show n=0 by omega];rfl,λy j=>right_item (g y j) (C1.1 (show(m.all λy=>isItemK y.kind)=true from c) y j)⟩)
 .have d:loAt 2=0/\hiAt 2=3:=⟨rfl,rfl⟩;exact .inr (.inr (.inr (.inl ⟨rfl,by rw[kids_none c];rfl,by simp only[pF];omega,by simp only[pF];omega⟩)))
 .have d:loAt 3=0/\hiAt 3=0:=⟨rfl,rfl⟩;exact .inr (.inr (.inr (.inr ⟨.inl rfl,by rw[kids_none c,show n=0 by omega];rfl⟩)))
 .have d:loAt 4=0/\hiAt 4=0:=⟨rfl,rfl⟩;exact .inr (.inr (.inr (.inr ⟨.inr rfl,by rw[kids_none c,show n=0 by omega];rfl⟩)))
 .have d:loAt 5=0/\hiAt 5=0:=⟨rfl,rfl⟩;obtain⟨b,rfl,e⟩:=kids_one (f:=isBlockK) c;exact .inl ⟨.inl rfl,b,by rw[show n=0 by omega];rfl,right_block (g b bA) e⟩
 .have d:loAt 6=0/\hiAt 6=0:=⟨rfl,rfl⟩;obtain⟨b,rfl,e⟩:=kids_one (f:=isBlockK) c;exact .inl ⟨.inr rfl,b,by rw[show n=0 by omega];rfl,right_block (g b bA) e⟩
theorem lex_def{x:Nd}(h:DefR x):pB (textT x) (defK x):=by
 obtain⟨k,t,n,y⟩:=x;obtain⟨o,h⟩:=h;have o:wholeB t true=true:=o;have p:pB [59] [[59]]:=jK (c:=59) bG pB.nil;have d:∀{k:Int} {s:aV} {q:List aV},(0<=k/\k<=6)->pB s q->AF s=true->pB (wordAt k++32::(t++s)) (wordAt k::t::q):=λa r u=>dQ (word_tok (.inl a)) rfl (dQ (jL o).1 u r).sp;rcases h with⟨a,b,f,m⟩|⟨a,f,m⟩|⟨a,f,j,l⟩|⟨a,f,j,l⟩|⟨a,f⟩
 .injection f with i1 i2 i3 i4
  subst i4;have a:k=5\/k=6:=a;have e:=(lex_stmt b).2 m [] [] pB.nil;have g:=d (k:=k) aD e.sp rfl;simpa [textT,defK,a]using g
 .have a:k=1:=a;subst a;have e:pB [125] [[125]]:=jK (c:=125) bG pB.nil;have g:=lex_items m _ _ e;have i:=jK (c:=123) bG g.sp;have v:=d (k:=1) aD i.sp rfl;simpa [textT,defK]using v
 .have a:k=0:=a;subst a;have e:=lex_num (n:=n) j l p rfl;have g:=dQ (t:=[61]) ⟨bG,bG⟩ rfl e.sp;have i:=d (k:=0) aD g.sp rfl;simpa [textT,defK]using i
 .have a:k=2:=a;subst a;have j:0<=n:=j;have l:n<=3:=l;have e:=lex_num (n:=n) aD aD p rfl;have i:=d (k:=2) aD e.sp rfl;simpa [textT,defK]using i
 .have a:k=3\/k=4:=a;have e:=d (k:=k) aD p rfl;have q1:¬(k=5\/k=6):=aD;have q2:¬k=1:=aD;have q3:¬k=0:=aD;have w:¬k=2:=aD;simpa [textT,defK,q1,q2,q3,w]using e
theorem depth_toks(x:Nd):rightN x=true->isExprK x.kind=true->depthN x<=(cG x).length:=by
 refine iU (p:=λx=>rightN x=true->isExprK x.kind=true->depthN x<=(cG x).length) (λk t n z i=>?_) x;intro s r;rcases gJ s r with⟨_,_,_,g⟩|⟨d,_⟩|d|⟨d,_⟩|⟨d,f⟩|⟨y,a,b,d,f,j,g,m,o,q⟩
 .rw[g];simp[depthN,depthL,cG]
 .rw[d];simp[depthN,depthL,cG]
 .rw[d];simp[depthN,depthL,cG]
 .rw[d];simp[depthN,depthL,cG]
 .rw[d];obtain⟨a,b,e,_⟩:=oD f;have e:cutAt 46 t=some (a,b):=e;simp[depthN,depthL,cG,Bw,e]
 .injection j with i1 i2 i3 i4
  subst i1;subst i2;subst i3;subst i4;have v:=i a bA g m;have w:=i b bA o q;have h:∀c (l:List aV),l.length<=(yY c l).length:=λc l=>by
   cases c
   .exact B0 _
   .simp only[yY,if_true,A1,A0,B7];omega
  have e:=h (decide (lvlN a.kind<(if levelAt k=1 then 2 else levelAt k))) (cG a);have u:=h (decide (lvlN b.kind<levelAt k+1)) (cG b);rw[By d f];simp only[depthN,depthL,A0,A1];omega
def exprO:PS->Nd×PS:=λq=>exprP false (q.l.length+1) q
def Ends(rest:List aV):Prop:=kR rest/\mZ 1 rest/\mZ 2 rest/\mZ 3 rest
theorem ends_semi(r:List aV):Ends ([59]::r):=⟨show some [59]≠some [46]by decide,show opI 1 [59]<0 by decide,show opI 2 [59]<0 by decide,show opI 3 [59]<0 by decide⟩
theorem ends_brace(r:List aV):Ends ([123]::r):=⟨show some [123]≠some [46]by decide,show opI 1 [123]<0 by decide,show opI 2 [123]<0 by decide,show opI 3 [123]<0 by decide⟩
theorem expr_o{e:Nd}(c:rightN e=true)(a:isExprK e.kind=true){rest:List aV}(h:Ends rest):fJ exprO (cG e) e rest:=λp b=>by
 have f:=depth_toks e c a;have d:=b.len;simp only[A0]at d;exact(Mt e c a).a1 (p.l.length+1) rest aD h.1 h.2.1 h.2.2.1 h.2.2.2 p b
theorem kind_word{k:Int}(h:11<=k/\k<=25):kindP (wordAt k)=k:=by
 have:k=11\/k=12\/k=13\/k=14\/k=15\/k=16\/k=17\/k=18\/k=19\/k=20\/k=21\/k=22\/k=23\/k=24\/k=25:=aD;rcases this with rfl|rfl|rfl|rfl|rfl|rfl|rfl|rfl|rfl|rfl|rfl|rfl|rfl|rfl|rfl<;>decide
theorem kind_none{s:aV}(h:∀w∈wordsL,s≠w):kindP s= -1:=by
 unfold kindP;split
 .rfl
 .unfold wordI;have:((List.range 26).find? λi=>decide (wordsL.getD i []=s))=none:=by
   rw[List.find?_eq_none];intro i a;have a:i<wordsL.length:=C9.1 a;simp only[decide_eq_true_eq];rw[C0,B5 a];exact λe=>h _ (A9 a) e.symm
  rw[this]
theorem words_dollar:∀w∈wordsL,w.head?≠some 36:=bG
theorem kind_dollar(t:aV):kindP (36::t)= -1:=kind_none λw a e=>words_dollar w a (by rw[<-e];rfl)
theorem numeral_reads{k:Int}{n:Int}(e:0<=n)(f:n<=999)(g:loAt k<=n)(i:n<=hiAt k){p:PS}{d:List aV}(h:Bg p (decS n.toNat::d)):numeralP k p=(n,p.skip):=by
 obtain⟨_,_,a,b⟩:=BA n.toNat aD;unfold numeralP;rw[h.peek];generalize decS n.toNat=w at*;cases w with
 |nil=>cases a
 |cons c r=>
  simp only at a;simp only[a,if_true];rw[b,if_neg aD,show((n.toNat:Nat):Int)=n by omega]
theorem cmd_reads{k:Int}{t:aV}{n:Int}{r:List Nd}(h:CmdR k t n r){rest:List aV}:fJ (cmdP exprO k) (BB k t++(nC n++r.flatMap cG)) (.mk k t n r) ([59]::rest):=λp a=>by
 rcases h with⟨f,c,d,b⟩|⟨f,c,d,e,b,i,o⟩|⟨f,c,d,u,b,i⟩|⟨f,c,d,b,i⟩|⟨f,c,d,b⟩|⟨f,c,d,b⟩|⟨f,c,d,e,b,i,o⟩
 .subst d;subst b;have q1:¬(k=19\/k=20):=aD;have q2:¬(k=21\/k=25\/k=24):=aD;simp only[BB,q1,q2,if_false,nC,C2,B1,A8,B9]at a;refine⟨p.skip,?_,a.skip⟩;unfold cmdP;simp only[q1,q2,if_false];rw[a.name c];rw[if_neg aD,if_neg aD,if_neg aD]
 .subst d;subst b;have q1:¬(k=19\/k=20):=aD;have q2:¬(k=21\/k=25\/k=24):=aD;simp only[BB,q1,q2,if_false,nC,C2,B4,B1,A8,A3,A2]at a;obtain⟨q,l,m⟩:=expr_o i o (ends_semi rest) p.skip a.skip;refine⟨q,?_,m⟩;unfold cmdP;simp only[q1,q2,if_false];rw[a.name c];simp only;rw[if_pos aD,l]
 .subst d;subst b;have q1:¬(k=19\/k=20):=aD;have q2:¬(k=21\/k=25\/k=24):=aD;have s:cG (.mk 33 u 0 [])=[36::u]:=by simp[cG]
  simp only[BB,q1,q2,if_false,nC,C2,B4,B1,A8,A3,A2,s]at a;refine⟨p.skip.skip,?_,a.skip.skip⟩;unfold cmdP;simp only[q1,q2,if_false];rw[a.name c];simp only;rw[if_neg aD,if_pos aD,a.skip.local]
 .subst i;have q1:k=19\/k=20:=aD;have j:itoaS n=decS n.toNat:=by unfold itoaS;rw[if_neg aD]
  simp only[BB,q1,if_true,nC,show 0<n by omega,B1,A8,B9,A2,A3,j]at a;have g:loAt k<=n/\n<=hiAt k:=by
   rw[f];have g:loAt 19=2/\hiAt 19=6:=⟨rfl,rfl⟩;omega
  refine⟨p.skip.skip,?_,a.skip.skip⟩;unfold cmdP;simp only[q1,if_true];rw[a.local];rw[if_neg aD,if_neg aD,if_pos aD,numeral_reads aD aD g.1 g.2 a.skip]
 .subst d;subst b;have q1:k=19\/k=20:=aD;simp only[BB,q1,if_true,nC,C2,if_false,B1,A8,B9]at a;refine⟨p.skip,?_,a.skip⟩;unfold cmdP;simp only[q1,if_true];rw[a.local];rw[if_neg aD,if_neg aD,if_neg aD]
 .subst c;subst b;have q1:¬(k=19\/k=20):=aD;have q2:k=21\/k=25\/k=24:=aD;have j:itoaS n=decS n.toNat:=by unfold itoaS;rw[if_neg aD]
  simp only[BB,q1,q2,if_false,if_true,nC,show 0<n by omega,B1,A8,B9,A3,j]at a;have g:loAt k<=n/\n<=hiAt k:=by
   rcases f with⟨rfl,f⟩|⟨rfl,f⟩
   .have g:loAt 21=1/\hiAt 21=9:=⟨rfl,rfl⟩;omega
   .have g:loAt 25=1/\hiAt 25=99:=⟨rfl,rfl⟩;omega
  refine⟨p.skip,?_,a.skip⟩;unfold cmdP;simp only[q1,q2,if_false,if_true];rw[if_neg aD,if_neg aD,if_pos aD,numeral_reads aD aD g.1 g.2 a]
 .subst c;subst d;subst b;have q1:¬(k=19\/k=20):=aD;have q2:k=21\/k=25\/k=24:=aD;simp only[BB,q1,q2,if_false,if_true,nC,C2,B4,B1,A8,A3]at a;obtain⟨q,l,m⟩:=expr_o i o (ends_semi rest) p a;refine⟨q,?_,m⟩;unfold cmdP;simp only[q1,q2,if_false,if_true];rw[if_pos aD,l]
theorem place_head{x:Nd}(j:rightN x=true)(d:isPlaceK x.kind=true)(e:List aV):∃t u,wholeB t true=true/\cG x++e=t::u:=by
 rcases gJ j (gI d)with⟨c,_⟩|⟨c,_⟩|c|⟨c,f⟩|⟨c,f⟩|⟨k,a,b,c,f,i,_⟩
 .rw[c]at d;cases d
 .rw[c]at d;cases d
 .rw[c]at d;cases d
 .rw[c];exact⟨x.text,e,f,rfl⟩
 .obtain⟨a,b,g,l,h,m⟩:=oD f;rw[c];simp only[cG,show¬(35:Int)=32 by decide,show¬(35:Int)=33 by decide,show¬(35:Int)=36 by decide,show¬(35:Int)=34 by decide,if_false,if_true,Bw,g];exact⟨a,_,h,rfl⟩
 .rw[i]at d;have d:=isPlaceK_iff.1 (show isPlaceK k=true from d);omega
theorem stmt_head{x:Nd}(v:rightN x=true)(s:isStmtK x.kind=true):∃t u,fT x=t::u/\t≠sElse/\t≠[125]:=by
 rcases right_stmt v s with⟨l,e,d,f,g,i⟩|⟨p,e,d,f,g,i,n⟩|⟨a,e,b,j,d,f,g,i,n⟩|⟨e,b,c,d,f,g,i,n,z,A⟩|⟨a,l,y,k,f,g,d,i⟩
 .rw[d];exact⟨36::l,[61]::(cG e++[[59]]),by simp[fT],by simp[sElse],bA⟩
 .rw[d];obtain⟨t,u,w,o⟩:=place_head f g ([61]::(cG e++[[59]]));obtain⟨_,_,q,_,c,r,h,m⟩:=tN w;refine⟨t,u,by simpa [fT]using o,q,λe=>?_⟩;rw[e]at h;injection h with h _;rw[<-h]at m;revert m;decide
 .rw[d];rcases j with rfl|rfl
  .exact⟨wordAt 11,cG e++fE b,by simp[fT],bG,bG⟩
  .exact⟨wordAt 12,cG e++fE b,by simp[fT],bG,bG⟩
 .rw[d];exact⟨wordAt 11,cG e++(fE b++sElse::fE c),by simp[fT],bG,bG⟩
 .rw[d];have q1:¬a=9:=aD;have q2:¬a=10:=aD;have q3:¬(a=11\/a=12):=aD;refine⟨wordAt a,BB a l++(nC y++(k.flatMap cG++[[59]])),stmtK_cmd _ _ _ f,?_⟩;have:a=13\/a=14\/a=15\/a=16\/a=17\/a=18\/a=19\/a=20\/a=21\/a=22\/a=23\/a=24\/a=25:=aD;rcases this with rfl|rfl|rfl|rfl|rfl|rfl|rfl|rfl|rfl|rfl|rfl|rfl|rfl<;>exact⟨bG,bG⟩
theorem stmts_reads{st:PS->Nd×PS}{rest:List aV}:∀(i a:List Nd) (c:Nat) (p:PS),(∀y∈i,(∃t u,fT y=t::u/\t≠sElse/\t≠[125])/\∀r,r.head?≠some sElse->fJ st (fT y) y r)->
 Bg p (nD i++[125]::rest)->p.l.length<c->∃q,stmtsF st c a p=(a++i,q)/\Bg q ([125]::rest)
 |_,_,0,_,_,_,h=>aD
 |[],a,f+1,p,_,b,_=>by
  have b:Bg p ([125]::rest):=b;refine⟨p,?_,b⟩;unfold stmtsF;rw[if_pos (.inr b.peek),A8]
 |y::r,a,f+1,p,hy,b,hf=>by
  obtain⟨⟨t,u,m,B,n⟩,o⟩:=hy y (A7 ..);simp only[nD,A6]at b;have s:(nD r++[125]::rest).head?≠some sElse:=by
   cases r with
   |nil=>show some [125]≠some sElse;decide
   |cons z r=>
    obtain⟨⟨C,D,k,l,_⟩,_⟩:=hy z bA;simp only[nD,k,A2,List.head?_cons];intro e;exact l (Option.some.inj e)
  obtain⟨q,w,j⟩:=o _ s p b;have d:=b.len;have g:=j.len;rw[m]at b d;simp only[A0,A1]at d g;obtain⟨q2,x,A⟩:=stmts_reads r (a++[y]) f q (λz v=>hy z (A4 _ v)) j aD;refine⟨q2,?_,A⟩;unfold stmtsF;rw[if_neg,w,x,A6]
  .rfl
  .rw[b.peek];intro h;rcases h with h|h
   .exact h b.1
   .exact n h
theorem stmt_reads(x:Nd):(rightN x=true->isStmtK x.kind=true->∀f d,depthN x<=f->d.head?≠some sElse->fJ (stmtP false f) (fT x) x d)/\
 (BlockR x->∀f d,depthN x<=f+1->fJ (blockB (stmtP false f)) (fE x) x d):=by
 refine iU (p:=λx=>(rightN x=true->isStmtK x.kind=true->∀f d,depthN x<=f->d.head?≠some sElse->fJ (stmtP false f) (fT x) x d)/\
  (BlockR x->∀f d,depthN x<=f+1->fJ (blockB (stmtP false f)) (fE x) x d)) (λk t n E D=>⟨?_,?_⟩) x
 .intro L hk f d K hh p g;have Z:depthN (.mk k t n E)=depthL E+1:=by rw[depthN]
  cases f with
  |zero=>omega
  |succ f=>
  have M:stmtP false (f+1) p=stmtB exprO (blockB (stmtP false f)) p:=rfl;rw[M];rcases right_stmt L hk with⟨t',e,o,v,z,l⟩|⟨a,e,o,v,z,l,B⟩|⟨k',e,b,G,o,v,z,l,B⟩|⟨e,b,c,o,v,z,l,B,V,W⟩|⟨k',t',n',s,v,z,o,l⟩
  .rw[o]at g|-;simp only[fT,if_true,A2,A6,A3]at g;obtain⟨q,j,i⟩:=expr_o z l (ends_semi d) p.skip.skip g.skip.skip;refine⟨q.skip,?_,i.skip⟩;unfold stmtB;simp only;rw[g.peek,kind_dollar];simp only[show¬((-1:Int)=11\/(-1:Int)=12)by decide,show¬(12:Int)< -1 by decide,if_false];rw[g.local];simp only;rw[g.skip.need bG,j];simp only;rw[i.need bG]
  .rw[o]at g|-;simp only[fT,show¬(10:Int)=9 by decide,if_false,if_true,A2,A6,A3]at g;obtain⟨q0,F,A⟩:=Co v z (rest:=[61]::(cG e++[59]::d)) (show some [61]≠some [46]by decide) p g;obtain⟨q,j,i⟩:=expr_o l B (ends_semi d) q0.skip A.skip;obtain⟨w,u,hw,O⟩:=place_head v z ([61]::(cG e++[59]::d));rw[O]at g;obtain⟨_,_,_,P,c,r,Q,N⟩:=tN hw;refine⟨q.skip,?_,i.skip⟩;have X:c≠36:=λe=>by rw[e]at N;revert N;decide
   unfold stmtB;simp only;rw[g.peek,kind_none P];simp only[show¬((-1:Int)=11\/(-1:Int)=12)by decide,show¬(12:Int)< -1 by decide,if_false];rw[Q];split
   .rename_i r' e;injection e with e _;exact absurd e X
   .rw[F];simp only;rw[A.need bG,j];simp only;rw[i.need bG]
  .injection o with i1 i2 i3 i4
   subst i1;subst i4;have q1:¬k=9:=aD;have q2:¬k=10:=aD;simp only[fT,q1,q2,G,if_false,if_true,A2,A6,A3]at g;have I:depthN b<=depthL [e,b]:=by simp only[depthL];omega
   obtain⟨s,H,C⟩:=right_block l B;have m:fE b++d=[123]::(nD s++([[125]]++d)):=by rw[H];simp[fE]
   rw[m]at g;obtain⟨q,j,i⟩:=expr_o v z (ends_brace _) p.skip g.skip;rw[<-m]at i;obtain⟨q3,F,A⟩:=(D b bA).2 (right_block l B) f d aD q i;refine⟨q3,?_,A⟩;unfold stmtB;simp only;rw[g.peek,kind_word aD,if_pos G,j];simp only;rw[F];simp only;rw[A.isnt sElse bG hh,if_neg bA,i2,i3]
  .injection o with i1 i2 i3 i4
   subst i1;subst i4;simp only[stmtK_if3,A2,A6,A3]at g;have I:depthN b<=depthL [e,b,c]:=by simp only[depthL];omega
   have Y:depthN c<=depthL [e,b,c]:=by simp only[depthL];omega
   obtain⟨s,H,C⟩:=right_block l B;have m:fE b++(sElse::(fE c++d))=[123]::(nD s++([[125]]++(sElse::(fE c++d)))):=by rw[H];simp[fE]
   rw[m]at g;obtain⟨q,j,i⟩:=expr_o v z (ends_brace _) p.skip g.skip;rw[<-m]at i;obtain⟨q3,F,A⟩:=(D b bA).2 (right_block l B) f (sElse::(fE c++d)) aD q i;obtain⟨q5,S,U⟩:=(D c bA).2 (right_block V W) f d aD q3.skip A.skip;refine⟨q5,?_,U⟩;unfold stmtB;simp only;rw[g.peek,kind_word aD,if_pos (.inl rfl),j];simp only;rw[F];simp only;rw[A.is sElse bG,if_pos bA,S,i2,i3]
  .injection o with i1 i2 i3 i4
   subst i1;subst i2;subst i3;subst i4;have q1:¬k=9:=aD;have q2:¬k=10:=aD;have q3:¬(k=11\/k=12):=aD;rw[stmtK_cmd _ _ _ v]at g;simp only[A2,A6,A3]at g;obtain⟨q,j,i⟩:=cmd_reads l (rest:=d) p.skip (by simpa using g.skip);refine⟨q.skip,?_,i.skip⟩;unfold stmtB;simp only;rw[g.peek,kind_word aD,if_neg q3,if_pos aD,j];simp only;rw[i.need bG]
 .rintro⟨s,o,C⟩ f d K p g;injection o with i1 i2 i3 i4
  subst i1;subst i2;subst i3;subst i4;have J:∀y∈E,depthN y<=depthL E:=λy h=>by
   clear K g D C;induction E with
   |nil=>cases h
   |cons a r D=>
    rw[depthL];rcases D7.1 h with e|e
    .rw[e];omega
    .have:=D e;omega
  rw[depthN]at K;simp only[fE,A2,A6,A3]at g;obtain⟨q,j,i⟩:=stmts_reads (st:=stmtP false f) (rest:=d) E [] (p.skip.l.length+1) p.skip (λy h=>⟨stmt_head (C y h).1 (C y h).2,λr L=>(D y h).1 (C y h).1 (C y h).2 f r (by have:=J y h;omega) L⟩) g.skip aD;refine⟨q.skip,?_,i.skip⟩;unfold blockB;simp only;rw[g.need bG,j];simp only[A3];rw[i.need bG]
theorem block_depth(x:Nd):(rightN x=true->isStmtK x.kind=true->depthN x<=(fT x).length)/\(BlockR x->depthN x<=(fE x).length):=by
 refine iU (p:=λx=>(rightN x=true->isStmtK x.kind=true->depthN x<=(fT x).length)/\(BlockR x->depthN x<=(fE x).length)) (λk t n o j=>⟨?_,?_⟩) x
 .intro C u;rcases right_stmt C u with⟨D,e,d,f,g,i⟩|⟨a,e,d,f,g,i,s⟩|⟨v,e,b,z,d,f,g,i,s⟩|⟨e,b,c,d,f,g,i,s,A,B⟩|⟨v,D,E,w,f,g,d,i⟩
  .rw[d];have:=depth_toks e g i;simp only[depthN,depthL,fT,if_true,A1,A0];omega
  .rw[d];have:=depth_toks e i s;have:=depth_toks a f (gI g);simp only[depthN,depthL,fT,show¬(10:Int)=9 by decide,if_false,if_true,A1,A0];omega
  .injection d with i1 i2 i3 i4
   subst i1;subst i4;have:=depth_toks e f g;have:=(j b bA).2 (right_block i s);have q1:¬k=9:=aD;have q2:¬k=10:=aD;simp only[depthN,depthL,fT,q1,q2,z,if_false,if_true,A1,A0];omega
  .injection d with i1 i2 i3 i4
   subst i1;subst i4;have:=depth_toks e f g;have:=(j b bA).2 (right_block i s);have:=(j c bA).2 (right_block A B);simp only[depthN,depthL,stmtK_if3,A1,A0];omega
  .rw[d];have q1:¬v=9:=aD;have q2:¬v=10:=aD;have q3:¬(v=11\/v=12):=aD;have u:∀o:List Nd,(∀e∈o,rightN e=true/\isExprK e.kind=true)->depthL o<=(o.flatMap cG).length:=λo=>by
    induction o with
    |nil=>intro _;simp[depthL]
    |cons a r j=>
     intro h;have f:=j λy q=>h y (A4 _ q);have g:=depth_toks a (h a bA).1 (h a bA).2;simp only[depthL,B4,A0];omega
   have:=u w (cmd_facts i).2.2.2;rw[stmtK_cmd _ _ _ f,depthN];simp only[A1,A0];omega
 .rintro⟨w,d,q⟩;injection d with i1 i2 i3 i4
  subst i4;have u:∀l:List Nd,(∀y∈l,depthN y<=(fT y).length)->depthL l<=(nD l).length:=λl=>by
   induction l with
   |nil=>intro _;simp[depthL]
   |cons a r j=>
    intro h;have f:=j λy q=>h y (A4 _ q);have g:=h a bA;simp only[depthL,nD,A0];omega
  have:=u o λy m=>(j y m).1 (q y m).1 (q y m).2;simp only[depthN,fE,A1,A0];omega
theorem number_reads{n:Int}(d: -999<=n)(f:n<=999){p:PS}{b:List aV}(h:Bg p (numK n++b)):∃q,numberP p=(n,q)/\Bg q b:=by
 have g:loAt 0= -999/\hiAt 0=999:=⟨rfl,rfl⟩;unfold numK at h;by_cases q:n<0
 .rw[if_pos q]at h;simp only[A2,A3]at h;refine⟨p.skip.skip,?_,h.skip.skip⟩;unfold numberP;have e:n.natAbs=(-n).toNat:=aD;have a:=h.skip;rw[e]at a;rw[h.is [45] bG,if_pos bA,numeral_reads (n:= -n) aD aD aD aD a];simp
 .rw[if_neg q]at h;simp only[A2,A3]at h;refine⟨p.skip,?_,h.skip⟩;unfold numberP;have c:decS n.toNat≠[45]:=λe=>by
   have:=(BA n.toNat aD).2.2.1;rw[e]at this;revert this;decide
  rw[h.is [45] bG,decide_eq_false c];simp only[B2,if_false];exact numeral_reads aD aD aD aD h
theorem items_reads{d:List aV}:∀(l b:List Nd) (e:Nat) (p:PS),(∀y∈l,ItemR y)->Bg p (l.flatMap itemK++[125]::d)->p.l.length<e->∃q,itemsF e b p=(b++l,q)/\Bg q ([125]::d)
 |_,_,0,_,_,_,h=>aD
 |[],b,f+1,p,_,a,_=>by
  have a:Bg p ([125]::d):=a;refine⟨p,?_,a⟩;unfold itemsF;rw[if_pos (.inr a.peek),A8]
 |y::r,b,f+1,p,hy,a,hf=>by
  obtain⟨t,n,rfl,o,v,w⟩:=hy y (A7 ..);simp only[B4,itemK,gH,pF,A2,A6,A3]at a;obtain⟨q,s,i⟩:=number_reads v w a.skip.skip;have j:=a.len;have k:=i.skip.len;simp only[A0,A1]at j k;obtain⟨q2,A,B⟩:=items_reads r (b++[.mk 7 t n []]) f q.skip (λz x=>hy z (A4 _ x)) i.skip aD;refine⟨q2,?_,B⟩;obtain⟨_,_,_,_,c,u,g,m⟩:=tN o;unfold itemsF;rw[if_neg]
  .simp only;rw[a.name o];simp only;rw[a.skip.need bG,s];simp only;rw[i.need bG,A,A6];rfl
  .rw[a.peek];intro h;rcases h with h|h
   .exact h a.1
   .rw[h]at g;injection g with g _;rw[<-g]at m;revert m;decide
theorem def_kind{k:Int}(h:0<=k/\k<=6):defKind (wordAt k)=k:=by
 have:k=0\/k=1\/k=2\/k=3\/k=4\/k=5\/k=6:=aD;rcases this with rfl|rfl|rfl|rfl|rfl|rfl|rfl<;>decide
theorem def_reads{x:Nd}(h:DefR x){p:PS}(a:Bg p (defK x)):∃q,defP false p=(x,q)/\Bg q []:=by
 obtain⟨k,t,n,v⟩:=x;obtain⟨r,h⟩:=h;have r:wholeB t true=true:=r;have d:∀{w:List aV},(0<=k/\k<=6)->Bg p (wordAt k::t::w)->defKind p.peek=k/\nameP p.skip=(t,p.skip.skip):=λc a=>⟨by rw[a.peek];exact def_kind c,a.skip.name r⟩;rcases h with⟨c,b,e,o⟩|⟨c,e,o⟩|⟨c,e,l,m⟩|⟨c,e,l,m⟩|⟨c,e⟩
 .injection e with i1 i2 i3 i4
  subst i4;subst i3;have c:k=5\/k=6:=c;simp only[defK,dX,iG,gH,c,if_true]at a;obtain⟨f,g⟩:=d aD a;have y:=(block_depth b).2 o;have z:=a.skip.skip.len;obtain⟨q,j,i⟩:=(stmt_reads b).2 o (p.skip.skip.l.length+1) [] aD p.skip.skip (by simpa using a.skip.skip);refine⟨q,?_,i⟩;unfold defP;simp only;rw[f,if_neg aD,g,if_pos c];simp only;unfold blockP;rw[j]
 .have c:k=1:=c;subst c;injection e with i1 i2 i3 i4
  subst i3;simp only[defK,dX,iG,gH,show¬((1:Int)=5\/(1:Int)=6)by decide,if_false,if_true]at a;obtain⟨f,g⟩:=d aD a;obtain⟨q,j,i⟩:=items_reads v [] (p.skip.skip.skip.l.length+1) p.skip.skip.skip o a.skip.skip.skip aD;refine⟨q.skip,?_,i.skip⟩;unfold defP;simp only;rw[f,if_neg aD,g,if_neg aD,if_pos rfl];simp only;rw[a.skip.skip.need bG,j];simp only[A3];rw[i.need bG]
 .have c:k=0:=c;subst c;injection e with i1 i2 i3 i4
  subst i4;simp only[defK,dX,iG,gH,pF,show¬((0:Int)=5\/(0:Int)=6)by decide,show¬(0:Int)=1 by decide,if_false,if_true]at a;obtain⟨f,g⟩:=d aD a;obtain⟨q,j,i⟩:=number_reads l m a.skip.skip.skip;refine⟨q.skip,?_,i.skip⟩;unfold defP;simp only;rw[f,if_neg aD,g,if_neg aD,if_neg aD,if_pos rfl];simp only;rw[a.skip.skip.need bG,j];simp only;rw[i.need bG];rfl
 .have c:k=2:=c;subst c;have l:0<=n:=l;have m:n<=3:=m;injection e with i1 i2 i3 i4
  subst i4;have A:loAt 2=0/\hiAt 2=3:=⟨rfl,rfl⟩;have u:numK n=[decS n.toNat]:=by unfold numK;rw[if_neg aD]
  simp only[defK,dX,iG,gH,pF,show¬((2:Int)=5\/(2:Int)=6)by decide,show¬(2:Int)=1 by decide,show¬(2:Int)=0 by decide,if_false,if_true,u,A2,A3]at a;obtain⟨f,g⟩:=d aD a;refine⟨p.skip.skip.skip.skip,?_,a.skip.skip.skip.skip⟩;unfold defP;simp only;rw[f,if_neg aD,g,if_neg aD,if_neg aD,if_neg aD,if_pos rfl];simp only;rw[numeral_reads aD aD aD aD a.skip.skip];simp only;rw[a.skip.skip.skip.need bG]
 .have c:k=3\/k=4:=c;injection e with i1 i2 i3 i4
  subst i4;subst i3;have q1:¬(k=5\/k=6):=aD;have q2:¬k=1:=aD;have q3:¬k=0:=aD;have s:¬k=2:=aD;simp only[defK,dX,gH,q1,q2,q3,s,if_false]at a;obtain⟨f,g⟩:=d aD a;refine⟨p.skip.skip.skip,?_,a.skip.skip.skip⟩;unfold defP;simp only;rw[f,if_neg aD,g,if_neg q1,if_neg q2,if_neg q3,if_neg s];simp only;rw[a.skip.skip.need bG]
theorem parse_text{x:Nd}(c:validB x=true):parseS (textT x)=(x,0,0):=by
 have a:=c;unfold validB at a;simp only[A5,decide_eq_true_eq]at a;obtain⟨⟨⟨⟨g,i⟩,_⟩,k⟩,n⟩:=a;have b:=right_def k g i;obtain⟨l,m⟩:=Jx (lex_def b) (textT x).length 0 (B0 _);obtain⟨q,d,e,f⟩:=def_reads b (p:=⟨(scanS (textT x)).1,0⟩) ⟨rfl,l⟩;have j:q.l=[]:=by simpa using f
 unfold parseS;rw[if_neg aD];simp only;rw[d];simp only[j];rw[if_neg,if_pos c];intro h;rcases h with h|h
 .exact h e
 .have:(scanS (textT x)).2=0+((textT x).length:Int):=m;omega
theorem hMixed:prog.follows .mixedOrders=true:=by kernel_rfl
theorem nm_eq(a b:Nm):(decide (a.who=b.who)&&decide (a.seq=b.seq))=decide (a=b):=by
 cases a;cases b;simp[Bool.decide_and]
theorem df_eq(a b:Df):(a.name==b.name&&a.text==b.text)=decide (a=b):=by
 cases a;cases b;simp[Bool.beq_eq_decide_eq]
theorem jM{p:Prop}(h:p:=by kernel_rfl):p:=h
section
variable{P:Program} {T:TypeId->cW} {N:Nat} {w0:dE} {X:Nat->Prop} {Q:LX->eG->dP->Prop} {env:eG} {H:dP}
theorem Mu(hT:fW P T)(hW:Cd T){id:Nat}{l:List Oper}(h:(fG P T N l (λ_=>none) env H).ok/\Q .normal (fG P T N l (λ_=>none) env H).env (fG P T N l (λ_=>none) env H).H):
 fF P N w0 X (.region id l.toArray false) Q env H:=Ar hT hW (λ_=>none) (λ_=>⟨rfl,λ_ h=>h⟩) h
theorem fF.ro(hT:fW P T)(hW:Cd T){id:Nat}{l:List Oper}(a:Nat->Option jU)(h:(fG P T N l a env H).ok/\Q .normal (fG P T N l a env H).env (fG P T N l a env H).H)
 (b:∀d,tE (a d):=by intro d;first|exact BD ⟨rfl,λ_ h=>h⟩|exact⟨rfl,λ_ h=>h⟩|(split<;>exact⟨rfl,λ_ h=>h⟩)):fF P N w0 X (.region id l.toArray false) Q env H:=Ar hT hW a b h
theorem Mv(hT:fW P T)(hW:Cd T){id:Nat}{l:List Oper}{y:Code}(h:(fG P T N l (λ_=>none) env H).ok/\zL (fF P N w0 X y Q) Q .normal (fG P T N l (λ_=>none) env H).env (fG P T N l (λ_=>none) env H).H):
 fF P N w0 X (.seq (.region id l.toArray false) y) Q env H:=fF.seq (Mu hT hW h)
theorem Zz(hT:fW P T)(hW:Cd T){id:Nat}{l:List Oper}{y:Code}(a:Nat->Option jU)(h:(fG P T N l a env H).ok/\zL (fF P N w0 X y Q) Q .normal (fG P T N l a env H).env (fG P T N l a env H).H)
 (b:∀d,tE (a d):=by intro d;first|exact BD ⟨rfl,λ_ h=>h⟩|exact⟨rfl,λ_ h=>h⟩|(split<;>exact⟨rfl,λ_ h=>h⟩)):fF P N w0 X (.seq (.region id l.toArray false) y) Q env H:=fF.seq (fF.ro hT hW a h b)
theorem aE{id:Nat}{l:List Oper}{y:Code}(h:(fG prog Eng.T N l (λ_=>none) env H).ok/\zL (fF prog N w0 X y Q) Q .normal (fG prog Eng.T N l (λ_=>none) env H).env (fG prog Eng.T N l (λ_=>none) env H).H):
 fF prog N w0 X (.seq (.region id l.toArray false) y) Q env H:=Mv hT hW h
theorem aJ{id:Nat}{l:List Oper}(h:(fG prog Eng.T N l (λ_=>none) env H).ok/\Q .normal (fG prog Eng.T N l (λ_=>none) env H).env (fG prog Eng.T N l (λ_=>none) env H).H):
 fF prog N w0 X (.region id l.toArray false) Q env H:=Mu hT hW h
theorem eT{id:Nat}{l:List Oper}{y z:Code}(h:(fG prog Eng.T N l (λ_=>none) env H).ok/\zL (fF prog N w0 X y (zL (fF prog N w0 X z Q) Q)) (zL (fF prog N w0 X z Q) Q) .normal (fG prog Eng.T N l (λ_=>none) env H).env (fG prog Eng.T N l (λ_=>none) env H).H):
 fF prog N w0 X (.seq (.seq (.region id l.toArray false) y) z) Q env H:=fF.seq (Mv hT hW h)
theorem bF{id:Nat}{l:List Oper}{x y:Code}{c:Operand}(h:(fG prog Eng.T N l (λ_=>none) env H).ok/\Od (kK (fG prog Eng.T N l (λ_=>none) env H).env c) (fF prog N w0 X x Q (fG prog Eng.T N l (λ_=>none) env H).env (fG prog Eng.T N l (λ_=>none) env H).H) (fF prog N w0 X y Q (fG prog Eng.T N l (λ_=>none) env H).env (fG prog Eng.T N l (λ_=>none) env H).H)):
 fF prog N w0 X (.seq (.region id l.toArray false) (.cond c x y)) Q env H:=Mv hT hW ⟨h.1,aM h.2⟩
abbrev bH{id:Nat}{l:List Oper}(orc:Nat->Option jU)(h:(fG prog Eng.T N l orc env H).ok/\Q .normal (fG prog Eng.T N l orc env H).env (fG prog Eng.T N l orc env H).H)
 (hdet:∀d,tE (orc d):=by intro d;first|exact BD ⟨rfl,λ_ h=>h⟩|exact⟨rfl,λ_ h=>h⟩|(split<;>exact⟨rfl,λ_ h=>h⟩)):fF prog N w0 X (.region id l.toArray false) Q env H:=fF.ro hT hW orc h hdet
abbrev dF{id:Nat}{l:List Oper}{y:Code}(orc:Nat->Option jU)(h:(fG prog Eng.T N l orc env H).ok/\zL (fF prog N w0 X y Q) Q .normal (fG prog Eng.T N l orc env H).env (fG prog Eng.T N l orc env H).H)
 (hdet:∀d,tE (orc d):=by intro d;first|exact BD ⟨rfl,λ_ h=>h⟩|exact⟨rfl,λ_ h=>h⟩|(split<;>exact⟨rfl,λ_ h=>h⟩)):fF prog N w0 X (.seq (.region id l.toArray false) y) Q env H:=Zz hT hW orc h hdet
end
section
variable{P:Program} {T:TypeId->cW} {N:Nat} {w0:dE} {X:Nat->Prop} {Q:LX->eG->dP->Prop} {env env':eG} {H H':dP}
theorem aA{d:List Nat}(f:w0.pins=d)(a:List Nat)(σ:List (Nat×Nat))(e:bB (a.map λt=>(t,ren σ 8 (env t)))=env':=by simp)(hH:aK (σ.map λp=>(p.2,cX σ (H p.1)))=H':=by simp)
 (g:(σ.map (·.2)).Nodup:=by decide)(c:(σ.map (·.1)).Nodup:=by decide)(b:(d.all λid=>dL σ id==some id)=true:=by rfl):iO w0 env H env' H':=
 pD a σ g c (λid hid=>by rw[f]at hid;simpa using C1.1 b id hid) e hH
theorem bU{f:FuncId}{g:Func}{c:Code}{a:List DV}{r:RV}{b:Bool}{n t:Nat}(l:prog.funcs[f]? =some g)(k:g.body=some c)(m:g.ntmps=n)(i:g.results= #[.tmp t])
 (h:∀w0 X,w0.pins=[]->fF prog n w0 X c (Xs t b r) (iD a) (aK []))(e:(g.name== "runtime.NumGoroutine")=false:=by kernel_rfl)(d:a.length<=n:=by simp)(j:∀o,r≠ .tup o:=by intro _ h;cases h):Ok prog f a ⟨r,b⟩:=Ok.ret l e k m d i j h
theorem Cp{f:FuncId}{g:Func}{c:Code}{a:List DV}{r:RV}{b:Bool}{n t:Nat}{k:TypeId}(m:prog.funcs[f]? =some g)(l:g.body=some c)(o:g.ntmps=n)(i:g.results= #[.cell t k])
 (h:∀w0 X,w0.pins=[]->fF prog n w0 X c (Xt Eng.T t k b r) (iD a) (aK []))(e:(g.name== "runtime.NumGoroutine")=false:=by kernel_rfl)(d:a.length<=n:=by simp)(j:∀p,r≠ .tup p:=by intro _ h;cases h):Ok prog f a ⟨r,b⟩:=Ok.cell hT m e l o d i j h
theorem oX{f:FuncId}{g:Func}{c:Code}{a:List LV}{h e:List (Nat×bJ)}{n:Nat}(k:prog.funcs[f]? =some g)(j:g.body=some c)(l:g.ntmps=n)(i:g.results= #[])
 (m:∀w0 X,w0.pins=h.map (·.1)->fF prog n w0 X c (FU w0 e) (HA a) (aK h))(d:(g.name== "runtime.NumGoroutine")=false:=by kernel_rfl)(b:a.length<=n:=by simp):mH prog f a h e (.tup []):=TQ k d j l b i m
theorem nE{f:FuncId}{g:Func}{c:Code}{a:List LV}{h e:List (Nat×bJ)}{j:LV}{n t:Nat}(l:prog.funcs[f]? =some g)(k:g.body=some c)(m:g.ntmps=n)(i:g.results= #[.tmp t])
 (o:∀w0 X,w0.pins=h.map (·.1)->fF prog n w0 X c (Oh w0 t e j) (HA a) (aK h))(d:(g.name== "runtime.NumGoroutine")=false:=by kernel_rfl)(b:a.length<=n:=by simp):mH prog f a h e j:=mH.one l d k m b i o
theorem lE{f:FuncId}{g:Func}{c:Code}{a:List LV}{h e:List (Nat×bJ)}{j:LV}{n t:Nat}{k:TypeId}(m:prog.funcs[f]? =some g)(l:g.body=some c)(o:g.ntmps=n)(i:g.results= #[.cell t k])
 (p:∀w0 X,w0.pins=h.map (·.1)->fF prog n w0 X c (Pn w0 Eng.T t k e j) (HA a) (aK h))(d:(g.name== "runtime.NumGoroutine")=false:=by kernel_rfl)(b:a.length<=n:=by simp):mH prog f a h e j:=mH.cell hT m d l o b i p
abbrev aF{P:Program}{N:Nat}{w0:dE}{X:Nat->Prop}{Q:LX->eG->dP->Prop}{env:eG}{H:dP}{x y:Code}(h:fF P N w0 X x (zL (fF P N w0 X y Q) Q) env H):=fF.seq h
abbrev aH{P:Program}{N:Nat}{w0:dE}{X:Nat->Prop}{Q:LX->eG->dP->Prop}{env:eG}{H:dP}(h:Q .ret env H):fF P N w0 X .ret Q env H:=fF.ret h
abbrev aG{P:Program}{N:Nat}{w0:dE}{X:Nat->Prop}{Q:LX->eG->dP->Prop}{env:eG}{H:dP}(h:Q .normal env H):fF P N w0 X .skip Q env H:=fF.skip h
abbrev bQ{P:Program}{N:Nat}{w0:dE}{X:Nat->Prop}{Q:LX->eG->dP->Prop}{env:eG}{H:dP}{id:Nat}(h:Q (.exit id) env H):fF P N w0 X (.exit id) Q env H:=fF.exit h
abbrev aY{P:Program}{N:Nat}{w0:dE}{X:Nat->Prop}{Q:LX->eG->dP->Prop}{env:eG}{H:dP}{id:Nat}{c:Code}(h:fF P N w0 X c (vF id Q) env H):fF P N w0 X (.block id c) Q env H:=fF.block h
abbrev eE{P:Program}{N:Nat}{w0:dE}{X:Nat->Prop}{Q:LX->eG->dP->Prop}{env:eG}{H:dP}{id:Nat}{x y:Code}(h:fF P N w0 X x (vF id (zL (fF P N w0 X y Q) Q)) env H):fF P N w0 X (.seq (.block id x) y) Q env H:=fF.seq (fF.block h)
abbrev fL{P:Program}{N:Nat}{w0:dE}{X:Nat->Prop}{Q:LX->eG->dP->Prop}{env:eG}{H:dP}{x y z:Code}(h:fF P N w0 X x (zL (fF P N w0 X y (zL (fF P N w0 X z Q) Q)) (zL (fF P N w0 X z Q) Q)) env H):fF P N w0 X (.seq (.seq x y) z) Q env H:=fF.seq (fF.seq h)
def og(n:Nat)(x:jU)(d:Nat):Option jU:=if d=n then some x else none
@[simp] theorem aA5{n:Nat}{x:jU}:og n x n=some x:=if_pos rfl
theorem BD{n d:Nat}{x:jU}(h:tE (some x)):tE (og n x d):=by
 unfold og;split
 .exact h
 .exact⟨rfl,λ_ h=>h⟩
@[simp] theorem aBv{n d:Nat}{x:jU}(h:d≠n):og n x d=none:=if_neg h
abbrev oh(n:Nat)(A:List (Nat×bJ))(B:LV):Nat->Option jU:=og n (.gen ⟨[(0,0)],[],[],A,B⟩)
def clG(l:List Oper):List (List Nat):=l.foldl (λacc o=>acc++[o.after.toList.foldl (λs e=>if Region.binds .any e then(if s.contains e.on then s else e.on::s)++((acc.getD e.on []).filter λi=> !(i==e.on||s.contains i))else s) []]) []
def clC(l:List Oper)(j:Nat):List Nat:=(clG l).getD j []
theorem fF.rd{id:Nat}{l:List Oper}(a e:List (List Nat))(b:Nat->Option jU)
 (h:(yW prog Eng.T N l b (lk a) (lk e) ⟨env,H,True⟩).ok/\Q .normal (yW prog Eng.T N l b (lk a) (lk e) ⟨env,H,True⟩).env (yW prog Eng.T N l b (lk a) (lk e) ⟨env,H,True⟩).H)
 (f:DS l (clC l) (lk a) (lk e)=true:=by kernel_rfl)(c:∀d,tE (b d):=by intro d;first|exact BD ⟨rfl,λ_ h=>h⟩|exact⟨rfl,λ_ h=>h⟩|(split<;>exact⟨rfl,λ_ h=>h⟩)):fF prog N w0 X (.region id l.toArray true) Q env H:=
 Mb hT hW (by kernel_rfl) (clC l) (lk a) (lk e) f b c h
end
attribute[simp] fG fK iZ cC kK pC mK Ce cQ cD kJ.plain kJ.cond kJ.fail zL vF iD oZ fN qD memless Hs nV xM Ql bok qS iT strip FN kP Bk cT yW gK jJ jA jI yV lk cX dL dB eM cS Dn iC IC mR pV cU nW fO lH iX Md Me Jh Mf QM QN QO Mg Ji Mh Jj Mi QQ QR QU QV Mj QY FC Dk mkAgg zJ FB fX bV gG bJ.live TK.isNone TK.agg TK.isBool TK.isStr TK.isStruct Op.operands Call.operands eZ jE jV iQ rZ Dl NW lI iY rN bP frozen qZ Tx Ty Of QK TA TB TC TG Og QL TI TJ TL TN aAr Xu Zm Zn Zp Zq Zs TO Tv QJ Mc Nm.d Df.d Ed.d aBe gB AA aBf Tw nm_eq df_eq HD HE aBg aBh aAt aBi aBj aAu aAv aAw Zw aBk aBl aAx fY eU pP YX pQ lJ lL lK sE SQ TK.isInt Tz TH Zo QT xK lM sD Aj uU xL nQ Dm IB BS uM aAq rY iM kL rX lG pO lF uT lN lQ gO HA QZ HB Ra Rb cX TE TF Zl DU Rc TR QW QX Ml iB xJ TK.isPtr lR dA TS Jk Oi TD TM Zr QP QS Mk
attribute[local simp] aR bK bE aO aL aZ aP
attribute[local simp] kJ.cond Nd.d_eq nd_t nd_dr nd_td ndsD
structure BC where
 b:Bool
theorem XB{a b:Nat}:(if a<b then(b:Int)else(a:Int))=((max a b:Nat):Int):=by split<;>omega
theorem nG{x:Nd}{i:Nat}(a:i<x.kids.length):weighN x.kids[i]<weighN x:=by
 have:=weigh_mem (A9 a);rw[weighN_eq x];omega
theorem nH(x:Nd):x.kids.length<weighN x:=by
 have:=weigh_len (l:=x.kids);rw[weighN_eq x];omega
theorem eR(n m:Int)(a: -9223372036854775808<=n)(c:n<=9223372036854775807)(b:m≠0):Ok prog 51 [aI n,aI m] ⟨.d (aI (bT n m)),true⟩:=by
 refine bU func51 rfl ntmps51 results51 λe X d=>?_;apply aE;simp;apply aF;apply bF;simp;refine⟨λa=>?_,λa=>?_⟩
 .apply aJ;simp;refine⟨aD,?_⟩;apply aE;simp;refine⟨b,?_⟩;apply aH;simp[bT,a]
 .apply aG;simp;apply aE;simp;refine⟨b,?_⟩;apply aH;have:¬n<0:=aD;simp[bT,this]
theorem Jz(l:List Int)(i m:Int)(d:∀n∈l, -9223372036854775808<=n/\n<=9223372036854775807)(f:m≠0):Ok prog 107 [.sl (l.map aI),aI i,aI m] ⟨.d (aI (dM l i m)),true⟩:=by
 refine bU func107 rfl ntmps107 results107 λh X g=>?_;apply aE;simp;apply fL;refine fF.len (t:=0) rfl λb=>?_;simp at b;apply aJ;simp;apply aM;simp;refine⟨λc=>?_,λc e=>?_⟩
 .apply aE;simp;apply aH;simp[dM,c]
 .obtain⟨k,rfl⟩:=Int.eq_ofNat_of_zero_le c;have a:k<l.length:=aD;apply aG;simp;refine dF (og 20 (.plain ⟨.d (aI (bT l[k] m)),true⟩)) ?_;simp[e,a];refine⟨eR _ _ (d _ (A9 a)).1 (d _ (A9 a)).2 f,?_⟩;apply aH;simp[dM,a];omega
theorem Mw(x:Nd)(j:weighN x<=1000000000)(f:∀y∈x.kids,weighN y<=1000000000->Ok prog 164 [y.d] ⟨.d (aI (depthN y)),true⟩):Ok prog 164 [x.d] ⟨.d (aI (depthN x)),true⟩:=by
 refine bU func164 rfl ntmps164 results164 λk X c=>?_;apply aE;simp;apply aE;simp;apply eT;simp;apply aY;refine bC (ι:=Nat) (λi=>bB [(3,.d (aI (depthL (x.kids.take i)))),(7,.d (ndsD x.kids)),(8,.d (aI x.kids.length)),(9,.d (aI i))]) (λi=>aK []) (λi=>i<=x.kids.length) (λi=>x.kids.length-i) 0 (aA c [3,7,8,9] [] (by simp[depthL])) (C4 _) λi d=>?_;apply aE;simp;apply aF;apply aM;simp;refine⟨λb=>?_,λb=>?_⟩
 .apply aG;simp;apply eE;apply aF;have a:i<x.kids.length:=aD;apply aJ;simp[a];have e:=f _ (A9 a) (by have:=nG a;omega);refine bH (og 15 (.plain ⟨.d (aI (depthN x.kids[i])),true⟩)) ?_;simp;refine⟨by simpa using e,?_⟩;have:=nH x;apply aJ;simp;refine⟨aD,?_⟩;refine Oe.mk (i+1) (aA c [3,7,8,9] [] (by simp[depthL_succ a,XB])) ?_ ?_
  .omega
  .omega
 .apply bQ;simp;apply aF;have a:i=x.kids.length:=aD;subst a;rw[D5];have g:=depth_size x;have h:=size_weigh x;have b:=depthN_eq x;apply aJ;simp;refine⟨aD,?_⟩;apply aH;simp[b]
theorem Ur(x:Nd)(a:weighN x<=1000000000):Ok prog 164 [x.d] ⟨.d (aI (depthN x)),true⟩:=by
 revert a;exact iU (p:=λx=>weighN x<=1000000000->Ok prog 164 [x.d] ⟨.d (aI (depthN x)),true⟩) (λk t n c b a=>Mw _ a b) x
section
attribute[local simp] aR bK bE aO aL aZ aP
attribute[local simp] kJ.cond Nd.d_eq nd_t nd_dr nd_td ndsD
def oY{α:Type}(p:α->Bool)(l:List α):Int:=match l.findIdx? p with|some i=>i|none=> -1
theorem yB{α:Type}{p:α->Bool}{l:List α}{i:Nat}(h:l.findIdx? p=some i):oY p l=i:=by simp[oY,h]
theorem yC{α:Type}{p:α->Bool}{l:List α}(h:l.findIdx? p=none):oY p l= -1:=by simp[oY,h]
theorem Cq{α:Type}{p:α->Bool}{l:List α}:decide (0<=oY p l)=l.any p:=by
 unfold oY;split
 .rename_i i a;obtain⟨b,c,_⟩:=List.findIdx?_eq_some_iff_getElem.1 a;have:l.any p=true:=Zx b c;rw[this];simp
 .rename_i a;rw[List.findIdx?_eq_none_iff]at a;have:l.any p=false:=by rw[List.any_eq_false];intro x d;rw[a x d];simp
  rw[this];simp
theorem HJ{α:Type}{p:α->Bool}{l:List α}:0<=oY p l↔l.any p=true:=by
 rw[<-Cq];simp
theorem rR(l:List aV)(n:aV):Ok prog 155 [AA l,.str n] ⟨.d (aI (oY (λx=>decide (n=x)) l)),true⟩:=by
 refine bU func155 rfl ntmps155 results155 λf X e=>?_;refine fF.len (t:=0) rfl λc=>?_;simp at c;apply aE;simp;apply eT;simp;apply aY;refine bC (ι:=Nat) (λi=>bB [(0,.d (AA l)),(1,.d (.str n)),(7,.d (aI l.length)),(8,.d (aI i))]) (λi=>aK []) (λi=>i<=l.length/\XA (λx=>decide (n=x)) l i) (λi=>l.length-i) 0 (aA e [0,1,7,8] []) (⟨C4 _,XA.zero⟩) λi a=>?_;apply aE;simp;apply aF;apply aM;simp;refine⟨λb=>?_,λb=>?_⟩
 .apply aG;simp;apply eE;apply aE;simp;apply aE;simp[b];apply aM;simp;refine⟨λd=>?_,λd=>?_⟩
  .apply aE;simp;apply aH;simp[yB (a.2.found b (by simpa using d))]
  .apply aG;simp;apply aJ;simp;refine⟨aD,?_⟩;refine Oe.mk (i+1) (aA e [0,1,7,8] []) ?_ ?_
   .exact⟨b,a.2.succ b (by simpa using d)⟩
   .omega
 .apply bQ;simp;apply aE;simp;apply aH;simp[yC (a.2.none aD)]
theorem JA(l:List aV)(n:aV):Ok prog 121 [AA l,.str n] ⟨.d (.bool (decide (n∈l))),true⟩:=by
 refine bU func121 rfl ntmps121 results121 λb X a=>?_;apply aE;simp;refine dF (og 7 (.plain ⟨.d (aI (oY (λx=>decide (n=x)) l)),true⟩)) ?_;simp;refine⟨rR l n,?_⟩;apply aH;simp[HJ]
theorem Mx(l:List Nd)(p:Nd->Bool)(g:FuncId)(d:List DV)(h:∀x∈l,Ok prog g (x.d::d) ⟨.d (.bool (p x)),true⟩):Ok prog 259 [ndsD l,.fn g d] ⟨.d (aI (oY p l)),true⟩:=by
 refine bU func259 rfl ntmps259 results259 λj X f=>?_;refine fF.len (t:=0) rfl λc=>?_;simp at c;apply aE;simp;apply eT;simp;apply aY;refine bC (ι:=Nat) (λi=>bB [(0,.d (ndsD l)),(1,.d (.fn g d)),(7,.d (aI l.length)),(8,.d (aI i))]) (λi=>aK []) (λi=>i<=l.length/\XA p l i) (λi=>l.length-i) 0 (aA f [0,1,7,8] []) (⟨C4 _,XA.zero⟩) λi a=>?_;apply aE;simp;apply aF;apply aM;simp;refine⟨λb=>?_,λb=>?_⟩
 .apply aG;simp;apply eE;apply aE;simp;refine dF (og 16 (.plain ⟨.d (.bool (p l[i])),true⟩)) ?_;simp[b];refine⟨by simpa using h l[i] (A9 b),?_⟩;apply aM;simp;refine⟨λe=>?_,λe=>?_⟩
  .apply aE;simp;apply aH;simp[yB (a.2.found b e)]
  .apply aG;simp;apply aJ;simp;refine⟨aD,?_⟩;refine Oe.mk (i+1) (aA f [0,1,7,8] []) ?_ ?_
   .exact⟨b,a.2.succ b e⟩
   .omega
 .apply bQ;simp;apply aE;simp;apply aH;simp[yC (a.2.none aD)]
theorem JB(l:List Nd)(p:Nd->Bool)(g:FuncId)(a:List DV)(b:∀x∈l,Ok prog g (x.d::a) ⟨.d (.bool (p x)),true⟩):Ok prog 178 [ndsD l,.fn g a] ⟨.d (.bool (l.any p)),true⟩:=by
 refine bU func178 rfl ntmps178 results178 λd X c=>?_;apply aE;simp;refine dF (og 7 (.plain ⟨.d (aI (oY p l)),true⟩)) ?_;simp;refine⟨by simpa using Mx l p g a b,?_⟩;apply aH;simp[<-Cq]
theorem Ri(k:Int):Ok prog 293 [aI k] ⟨.d (.bool (isStmtK k)),true⟩:=by
 refine bU func293 rfl ntmps293 results293 λb X a=>?_;apply aE;simp;apply aE;simp;apply aH;simp[isStmtK]
theorem Rj(k:Int):Ok prog 292 [aI k] ⟨.d (.bool (isItemK k)),true⟩:=by
 refine bU func292 rfl ntmps292 results292 λb X a=>?_;apply aE;simp;apply aE;simp;apply aH;simp[isItemK]
theorem qF(k:Int):Ok prog 295 [aI k] ⟨.d (.bool (isBlockK k)),true⟩:=by
 refine bU func295 rfl ntmps295 results295 λb X a=>?_;apply aE;simp;apply aE;simp;apply aH;simp[isBlockK]
theorem nI(k:Int):Ok prog 296 [aI k] ⟨.d (.bool (isExprK k)),true⟩:=by
 refine bU func296 rfl ntmps296 results296 λb X a=>?_;apply aE;simp;apply aE;simp;apply aH;simp[isExprK]
theorem My(k:Int):Ok prog 297 [aI k] ⟨.d (.bool (isPlaceK k)),true⟩:=by
 refine bU func297 rfl ntmps297 results297 λb X a=>?_;apply aE;simp;apply aE;simp;apply aH;simp[isPlaceK]
theorem Mz(k:Int):Ok prog 298 [aI k] ⟨.d (.bool (isLocalK k)),true⟩:=by
 refine bU func298 rfl ntmps298 results298 λb X a=>?_;apply aE;simp;apply aE;simp;apply aH;simp[isLocalK]
theorem XC(x:Nd)(g:FuncId)(f:Int->Bool)(a:∀k,Ok prog g [aI k] ⟨.d (.bool (f k)),true⟩):Ok prog 326 [x.d,.ro [.fn g []]] ⟨.d (.bool (!f x.kind)),true⟩:=by
 refine bU func326 rfl ntmps326 results326 λc X b=>?_;apply aE;simp;refine dF (og 7 (.plain ⟨.d (.bool (f x.kind)),true⟩)) ?_;simp;refine⟨a _,?_⟩;apply aH;simp
theorem Us(x:Nd)(g:FuncId)(f:Int->Bool)(a:∀k,Ok prog g [aI k] ⟨.d (.bool (f k)),true⟩):Ok prog 291 [x.d,.fn g []] ⟨.d (.bool (x.kids.all λy=>f y.kind)),true⟩:=by
 refine bU func291 rfl ntmps291 results291 λc X b=>?_;apply aE;simp;refine dF (og 8 (.plain ⟨.d (.bool (x.kids.any λy=> !f y.kind)),true⟩)) ?_;simp;refine⟨by simpa using JB x.kids (λy=> !f y.kind) _ _ λy _=>XC y g f a,?_⟩;apply aH;simp[List.all_eq_not_any_not]
theorem Gf:∀{ks:List Nd} {fs:List (Int->Bool)},ks.length≠fs.length->kidsB ks fs=false
 |[],[],h=>absurd rfl h
 |[],_::_,_=>rfl
 |_::_,[],_=>rfl
 |x::r,f::l,h=>by rw[kidsB,Gf (ks:=r) (fs:=l) (by simpa using h),Bool.and_false]
theorem Eh:∀{ks:List Nd} {fs:List (Int->Bool)},ks.length=fs.length->(kidsB ks fs=true↔∀(i:Nat) (c:i<ks.length) (d:i<fs.length),fs[i] ks[i].kind=true)
 |[],[],_=>⟨λ_ i h=>by simp at h,λ_=>rfl⟩
 |[],_::_,h=>by simp at h
 |_::_,[],h=>by simp at h
 |x::r,f::l,h=>by
  rw[kidsB,A5,Eh (ks:=r) (fs:=l) (by simpa using h)];constructor
  .rintro⟨c,d⟩ i a b;cases i with
   |zero=>exact c
   |succ i=>exact d i (by simpa using a) (by simpa using b)
  .intro h;exact⟨h 0 bA bA,λi a b=>h (i+1) (by simpa using a) (by simpa using b)⟩
structure XD(gs:List FuncId)(fs:List (Int->Bool)):Prop where
 len:gs.length=fs.length
 ok:∀(i:Nat) (h1:i<gs.length) (h2:i<fs.length) (k:Int),Ok prog gs[i] [aI k] ⟨.d (.bool (fs[i] k)),true⟩
def Rk(g:FuncId):DV:=.fn g []
theorem pG(x:Nd)(c:List FuncId)(b:List (Int->Bool))(l:XD c b)(r:c.length<=100):Ok prog 294 [x.d,.sl (c.map Rk)] ⟨.d (.bool (kidsB x.kids b)),true⟩:=by
 refine bU func294 rfl ntmps294 results294 λv X n=>?_;have p:=l.len;apply aE;simp;apply aF;apply bF;simp;refine⟨λk=>?_,λk=>?_⟩
 .apply aE;simp;apply aH;simp;exact Gf aD
 .apply aG;simp;apply fL;have a:x.kids.length=b.length:=aD;have t:x.kids.length<=100:=aD;apply aJ;simp;apply aY;refine bC (ι:=Nat) (λi=>bB [(1,.d (.sl (c.map Rk))),(14,.d (ndsD x.kids)),(15,.d (aI x.kids.length)),(16,.d (aI i))]) (λi=>aK []) (λi=>i<=x.kids.length/\∀(j:Nat) (k:j<x.kids.length) (u:j<b.length),j<i->b[j] x.kids[j].kind=true) (λi=>x.kids.length-i) 0 (aA n [1,14,15,16] []) (⟨C4 _,λj _ _ h=>absurd h (Nat.not_lt_zero _)⟩) λi d=>?_;apply aE;simp;apply aF;apply aM;simp;refine⟨λo=>?_,λo=>?_⟩
  .apply aG;simp;apply eE;apply aF;have m:i<x.kids.length:=aD;have e:i<b.length:=aD;have f:i<c.length:=aD;apply aJ;simp[m];apply aF;have s:=l.ok i f e x.kids[i].kind;refine fF.rd [] [[],[],[],[],[],[],[27]] (og 27 (.plain ⟨.d (.bool (b[i] x.kids[i].kind)),true⟩)) ?_;simp[f,Rk,eM];refine⟨s,?_⟩;apply aM;simp;refine⟨λg=>?_,λg=>?_⟩
   .apply aE;simp;apply aH;simp;rw[<-Bool.not_eq_true,Eh a];intro h;have:=h i m e;simp[g]at this
   .apply aG;simp;apply aJ;simp;refine⟨aD,?_⟩;refine Oe.mk (i+1) (aA n [1,14,15,16] []) ?_ ?_
    .refine⟨aD,λj q1 q2 q3=>?_⟩;rcases Nat.lt_or_ge j i with q|q
     .exact d.2 j q1 q2 q
     .have:j=i:=aD;subst this;simpa using g
    .omega
  .apply bQ;simp;apply aE;simp;apply aH;simp;rw[Eh a];exact λj q1 q2=>d.2 j q1 q2 aD
theorem XD.nil:XD [] []:=⟨rfl,λi h=>by simp at h⟩
theorem XD.cons{g:FuncId}{f:Int->Bool}{b:List FuncId}{a:List (Int->Bool)}(h:∀k,Ok prog g [aI k] ⟨.d (.bool (f k)),true⟩)(c:XD b a):XD (g::b) (f::a):=
 ⟨by simp[c.len],λi d e k=>by
   cases i with
   |zero=>exact h k
   |succ i=>exact c.ok i (by simpa using d) (by simpa using e) k⟩
theorem Rl(x:Nd):Ok prog 237 [x.d] ⟨.d (.bool (shapedB x)),true⟩:=by
 refine bU func237 rfl ntmps237 results237 λV X a=>?_;apply aE;simp;apply eT;simp;apply aY;apply bF;simp;refine⟨λQ=>?_,λQ=>?_⟩
 .apply aF;have I:=Us x 292 isItemK λk=>Rj k;refine bH (og 8 (.plain ⟨.d (.bool (x.kids.all λy=>isItemK y.kind)),true⟩)) ?_;simp;refine⟨by simpa using I,?_⟩;apply aH;simp;unfold shapedB shapedK;repeat(first|rw[if_pos aD]|rw[if_neg aD])
  try simp[c]
 .apply bF;simp;refine⟨λS=>?_,λS=>?_⟩
  .apply aF;have J:=Us x 293 isStmtK λk=>Ri k;refine bH (og 12 (.plain ⟨.d (.bool (x.kids.all λy=>isStmtK y.kind)),true⟩)) ?_;simp;refine⟨by simpa using J,?_⟩;apply aH;simp;unfold shapedB shapedK;repeat(first|rw[if_pos aD]|rw[if_neg aD])
   try simp[c]
  .refine bI (ι:=BC) (λ⟨b⟩=>bB [(1,.bx 1 0),(4,.d (aI x.kind)),(13,.d (.bool b))]) (λ⟨b⟩=>aK [(1,.box false [.d (aI x.kind),.d (.str x.text),.d (aI x.n),.d (ndsD x.kids)])]) (λ⟨b⟩=>b=true↔(x.kind=5\/x.kind=6)) ?_ λ⟨b⟩ u=>?_
   .apply bF;simp;refine⟨λO=>?_,λO=>?_⟩
    .apply aG;simp;refine Xv.mk ⟨decide (x.kind=5)⟩ (aA a [1,4,13] [(1,1)]) ?_;simp[O]
    .apply aJ;simp;refine Xv.mk ⟨decide (x.kind=6)⟩ (aA a [1,4,13] [(1,1)]) ?_;simp only[decide_eq_true_eq];omega
   .apply aM;simp;refine⟨λH=>?_,λH=>?_⟩
    .have U:=u.1 H;apply aF;have K:=pG x [295] [isBlockK] (XD.cons (λk=>qF k) XD.nil) bG;refine bH (og 18 (.plain ⟨.d (.bool (kidsB x.kids [isBlockK])),true⟩)) ?_;simp;refine⟨by simpa [Rk]using K,?_⟩;apply aH;simp;unfold shapedB shapedK;repeat(first|rw[if_pos aD]|rw[if_neg aD])
     try simp[c]
    .have U:¬(x.kind=5\/x.kind=6):=λq=>by simp[u.2 q]at H
     refine bI (ι:=BC) (λ⟨b⟩=>bB [(1,.bx 1 0),(4,.d (aI x.kind)),(19,.d (.bool b))]) (λ⟨b⟩=>aK [(1,.box false [.d (aI x.kind),.d (.str x.text),.d (aI x.n),.d (ndsD x.kids)])]) (λ⟨b⟩=>b=true↔(x.kind=9\/x.kind=15\/x.kind=22\/x.kind=24)) ?_ λ⟨b⟩ e=>?_
     .apply bF;simp;refine⟨λP=>?_,λP=>?_⟩
      .apply aG;simp;refine Xv.mk ⟨decide (x.kind=9)⟩ (aA a [1,4,19] [(1,1)]) ?_;simp[P]
      .apply bF;simp;refine⟨λl=>?_,λl=>?_⟩
       .apply aG;simp;refine Xv.mk ⟨decide (x.kind=15)⟩ (aA a [1,4,19] [(1,1)]) ?_;simp[l]
       .apply bF;simp;refine⟨λm=>?_,λm=>?_⟩
        .apply aG;simp;refine Xv.mk ⟨decide (x.kind=22)⟩ (aA a [1,4,19] [(1,1)]) ?_;simp[m]
        .apply aJ;simp;refine Xv.mk ⟨decide (x.kind=24)⟩ (aA a [1,4,19] [(1,1)]) ?_;simp only[decide_eq_true_eq];omega
     .apply aM;simp;refine⟨λh=>?_,λh=>?_⟩
      .have L:=e.1 h;apply aF;have v:=pG x [296] [isExprK] (XD.cons (λk=>nI k) XD.nil) bG;refine bH (og 26 (.plain ⟨.d (.bool (kidsB x.kids [isExprK])),true⟩)) ?_;simp;refine⟨by simpa [Rk]using v,?_⟩;apply aH;simp;unfold shapedB shapedK;repeat(first|rw[if_pos aD]|rw[if_neg aD])
       try simp[c]
      .have L:¬(x.kind=9\/x.kind=15\/x.kind=22\/x.kind=24):=λq=>by simp[e.2 q]at h
       apply bF;simp;refine⟨λE=>?_,λE=>?_⟩
       .apply aF;have w:=pG x [297,296] [isPlaceK,isExprK] (XD.cons (λk=>My k) (XD.cons (λk=>nI k) XD.nil)) bG;refine bH (og 31 (.plain ⟨.d (.bool (kidsB x.kids [isPlaceK,isExprK])),true⟩)) ?_;simp;refine⟨⟨bG,by simpa [Rk]using w⟩,?_⟩;apply aH;simp;unfold shapedB shapedK;repeat(first|rw[if_pos aD]|rw[if_neg aD])
        try simp[c]
       .apply bF;simp;refine⟨λF=>?_,λF=>?_⟩
        .apply aF;have d:=pG x [296,295] [isExprK,isBlockK] (XD.cons (λk=>nI k) (XD.cons (λk=>qF k) XD.nil)) bG;have D:=pG x [296,295,295] [isExprK,isBlockK,isBlockK] (XD.cons (λk=>nI k) (XD.cons (λk=>qF k) (XD.cons (λk=>qF k) XD.nil))) bG;cases c:kidsB x.kids [isExprK,isBlockK]<;>rw[c]at d
         .refine bH (λ|36=>some<| .plain ⟨.d (.bool (decide (0=1))),true⟩|40=>some<| .plain ⟨.d (.bool (kidsB x.kids [isExprK,isBlockK,isBlockK])),true⟩|_=>none) ?_;simp;refine⟨⟨⟨⟨bG,by simpa [Rk]using d⟩,bG⟩,by simpa [Rk]using D⟩,?_⟩;apply aH;simp;unfold shapedB shapedK;repeat(first|rw[if_pos aD]|rw[if_neg aD])
          try simp[c]
         .refine bH (λ|36=>some<| .plain ⟨.d (.bool (decide (1=1))),true⟩|40=>some<| .plain ⟨.d (.bool (kidsB x.kids [isExprK,isBlockK,isBlockK])),true⟩|_=>none) ?_;simp;refine⟨⟨bG,by simpa [Rk]using d⟩,?_⟩;apply aH;simp;unfold shapedB shapedK;repeat(first|rw[if_pos aD]|rw[if_neg aD])
          try simp[c]
        .apply bF;simp;refine⟨λG=>?_,λG=>?_⟩
         .apply aF;have z:=pG x [296,295] [isExprK,isBlockK] (XD.cons (λk=>nI k) (XD.cons (λk=>qF k) XD.nil)) bG;refine bH (og 46 (.plain ⟨.d (.bool (kidsB x.kids [isExprK,isBlockK])),true⟩)) ?_;simp;refine⟨⟨bG,by simpa [Rk]using z⟩,?_⟩;apply aH;simp;unfold shapedB shapedK;repeat(first|rw[if_pos aD]|rw[if_neg aD])
          try simp[c]
         .refine bI (ι:=BC) (λ⟨b⟩=>bB [(1,.bx 1 0),(4,.d (aI x.kind)),(47,.d (.bool b))]) (λ⟨b⟩=>aK [(1,.box false [.d (aI x.kind),.d (.str x.text),.d (aI x.n),.d (ndsD x.kids)])]) (λ⟨b⟩=>b=true↔(x.kind=16\/x.kind=23)) ?_ λ⟨b⟩ f=>?_
          .apply bF;simp;refine⟨λn=>?_,λn=>?_⟩
           .apply aG;simp;refine Xv.mk ⟨decide (x.kind=16)⟩ (aA a [1,4,47] [(1,1)]) ?_;simp[n]
           .apply aJ;simp;refine Xv.mk ⟨decide (x.kind=23)⟩ (aA a [1,4,47] [(1,1)]) ?_;simp only[decide_eq_true_eq];omega
          .apply aM;simp;refine⟨λi=>?_,λi=>?_⟩
           .have M:=f.1 i;apply aF;have A:=pG x [298] [isLocalK] (XD.cons (λk=>Mz k) XD.nil) bG;refine bH (og 52 (.plain ⟨.d (.bool (kidsB x.kids [isLocalK])),true⟩)) ?_;simp;refine⟨by simpa [Rk]using A,?_⟩;apply aH;simp;unfold shapedB shapedK;repeat(first|rw[if_pos aD]|rw[if_neg aD])
            try simp[c]
           .have M:¬(x.kind=16\/x.kind=23):=λq=>by simp[f.2 q]at i
            refine bI (ι:=BC) (λ⟨b⟩=>bB [(1,.bx 1 0),(4,.d (aI x.kind)),(53,.d (.bool b))]) (λ⟨b⟩=>aK [(1,.box false [.d (aI x.kind),.d (.str x.text),.d (aI x.n),.d (ndsD x.kids)])]) (λ⟨b⟩=>b=true↔(x.kind=26\/x.kind=27\/x.kind=28\/x.kind=29\/x.kind=30\/x.kind=31)) ?_ λ⟨b⟩ g=>?_
            .apply bF;simp;refine⟨λo=>?_,λo=>?_⟩
             .apply aG;simp;refine Xv.mk ⟨decide (x.kind=26)⟩ (aA a [1,4,53] [(1,1)]) ?_;simp[o]
             .apply bF;simp;refine⟨λp=>?_,λp=>?_⟩
              .apply aG;simp;refine Xv.mk ⟨decide (x.kind=27)⟩ (aA a [1,4,53] [(1,1)]) ?_;simp[p]
              .apply bF;simp;refine⟨λr=>?_,λr=>?_⟩
               .apply aG;simp;refine Xv.mk ⟨decide (x.kind=28)⟩ (aA a [1,4,53] [(1,1)]) ?_;simp[r]
               .apply bF;simp;refine⟨λs=>?_,λs=>?_⟩
                .apply aG;simp;refine Xv.mk ⟨decide (x.kind=29)⟩ (aA a [1,4,53] [(1,1)]) ?_;simp[s]
                .apply bF;simp;refine⟨λt=>?_,λt=>?_⟩
                 .apply aG;simp;refine Xv.mk ⟨decide (x.kind=30)⟩ (aA a [1,4,53] [(1,1)]) ?_;simp[t]
                 .apply aJ;simp;refine Xv.mk ⟨decide (x.kind=31)⟩ (aA a [1,4,53] [(1,1)]) ?_;simp only[decide_eq_true_eq];omega
            .apply aM;simp;refine⟨λj=>?_,λj=>?_⟩
             .have N:=g.1 j;apply aF;have B:=pG x [296,296] [isExprK,isExprK] (XD.cons (λk=>nI k) (XD.cons (λk=>nI k) XD.nil)) bG;refine bH (og 62 (.plain ⟨.d (.bool (kidsB x.kids [isExprK,isExprK])),true⟩)) ?_;simp;refine⟨⟨bG,by simpa [Rk]using B⟩,?_⟩;apply aH;simp;unfold shapedB shapedK;repeat(first|rw[if_pos aD]|rw[if_neg aD])
              try simp[c]
             .have N:¬(x.kind=26\/x.kind=27\/x.kind=28\/x.kind=29\/x.kind=30\/x.kind=31):=λq=>by simp[g.2 q]at j
              apply aG;simp;apply aF;have C:=pG x [] [] XD.nil bG;refine bH (og 64 (.plain ⟨.d (.bool (kidsB x.kids [])),true⟩)) ?_;simp;refine⟨by simpa [Rk]using C,?_⟩;apply aH;simp;unfold shapedB shapedK;repeat(first|rw[if_pos aD]|rw[if_neg aD])
              try simp[c]
theorem BE:BR.length=12:=rfl
theorem Ut{k:Int}(a:26<=k)(b:k<=31):B8 2 (List.drop ((k-26).toNat*2) BR)=[.str (signAt k),aI (levelAt k)]:=by
 have:k=26\/k=27\/k=28\/k=29\/k=30\/k=31:=aD;rcases this with rfl|rfl|rfl|rfl|rfl|rfl<;>rfl
theorem Rm{k:Int}(a:26<=k)(b:k<=31):BR[(k-26).toNat*2+1]?.getD default=aI (levelAt k):=by
 have:k=26\/k=27\/k=28\/k=29\/k=30\/k=31:=aD;rcases this with rfl|rfl|rfl|rfl|rfl|rfl<;>rfl
theorem Uu(x:Nd):Ok prog 351 [x.d] ⟨.d (aI (lvlN x.kind)),true⟩:=by
 refine bU func351 rfl ntmps351 results351 λd X c=>?_;apply aE;simp;apply aF;apply bF;simp;refine⟨λa b=>?_,λg=>?_⟩
 .apply aF;have q1:=Rm a b;have q2:=BE;apply aJ;simp[q1];refine⟨⟨⟨aD,aD⟩,aD⟩,?_⟩;apply aH;simp[lvlN,a,b]
 .apply aG;simp;apply aE;simp;apply aH;simp;rw[lvlN,if_neg aD]
theorem Pt(n:Nat):(decS n).length<=3:=by unfold decS;split<;>(try split)<;>simp
theorem cI(n:Int):(itoaS n).length<=4:=by
 have a:=Pt n.natAbs;have b:=Pt n.toNat;unfold itoaS;split
 .simp only[A1];omega
 .omega
theorem pR(c:Bool)(t:aV):(paren c t).length<=t.length+2:=by cases c<;>simp[paren]
theorem JC(k:Int)(h:26<=k/\k<=31):(signAt k).length<=2:=by
 have:k=26\/k=27\/k=28\/k=29\/k=30\/k=31:=aD;rcases this with rfl|rfl|rfl|rfl|rfl|rfl<;>decide
theorem dG(x:Nd):rightN x=true->isExprK x.kind=true->(exprT x).length<=8*weighN x:=by
 refine iU (p:=λx=>rightN x=true->isExprK x.kind=true->(exprT x).length<=8*weighN x) (λk t n f g=>?_) x;intro o m;have q:weighN (.mk k t n f)=weighL f+t.length+1:=by rw[weighN]
 rcases gJ o m with⟨_,_,_,e⟩|⟨c,_⟩|c|⟨c,_⟩|⟨c,d⟩|⟨y,a,b,c,d,h,e,i,j,l⟩
 .rw[e];have:=cI (Nd.mk k t n f).n;simp only[exprT,if_true,weighN];omega
 .rw[c];simp[exprT,weighN];omega
 .rw[c];simp[exprT,weighN,sKind];omega
 .rw[c];simp[exprT,weighN];omega
 .rw[c];simp[exprT,weighN];omega
 .injection h with i1 i2 i3 i4
  subst i1;subst i2;subst i3;subst i4;have v:=g a bA e i;have w:=g b bA j l;have r:=pR (decide (lvlN a.kind<(if levelAt k=1 then 2 else levelAt k))) (exprT a);have s:=pR (decide (lvlN b.kind<levelAt k+1)) (exprT b);have u:=JC k ⟨c,d⟩;rw[Bx c d,q];simp only[weighL,A0,A1,B7];omega
end
end Go.Eng
namespace Go.Proofs
open Go.Shelf
def Tryz.itoaLay_ren:Go.Shelf.Ren:=⟨λ|171=>167|243=>241|246=>301|283=>328|284=>329|285=>330|286=>331|129=>208|317=>352|318=>353|319=>354|320=>355|337=>366|338=>367|n=>n,λ|3=>3|9=>9|2=>2|4=>4|171=>313|0=>0|53=>93|37=>38|5=>5|173=>315|212=>329|51=>90|20=>20|213=>330|46=>166|232=>99|233=>92|n=>n,λ|17=>8|18=>9|19=>10|n=>n⟩
theorem Tryz.itoaLay:Go.Proofs.LaysM.n171 prog Tryz.itoaLay_ren:={
 mixed:=by kernel_rfl,
 f129:=func208.trans (congrArg some (by kernel_rfl)),
 f171:=func167.trans (congrArg some (by kernel_rfl)),
 f243:=func241.trans (congrArg some (by kernel_rfl)),
 f246:=func301.trans (congrArg some (by kernel_rfl)),
 f283:=func328.trans (congrArg some (by kernel_rfl)),
 f284:=func329.trans (congrArg some (by kernel_rfl)),
 f285:=func330.trans (congrArg some (by kernel_rfl)),
 f286:=func331.trans (congrArg some (by kernel_rfl)),
 f317:=func352.trans (congrArg some (by kernel_rfl)),
 f318:=func353.trans (congrArg some (by kernel_rfl)),
 f319:=func354.trans (congrArg some (by kernel_rfl)),
 f320:=func355.trans (congrArg some (by kernel_rfl)),
 f337:=func366.trans (congrArg some (by kernel_rfl)),
 f338:=func367.trans (congrArg some (by kernel_rfl)),
 t0:=underlying0,
 a0:=isAgg0,
 z0:=sizeOf0,
 v0:=zeroValue0,
 t2:=underlying2,
 a2:=isAgg2,
 z2:=sizeOf2,
 v2:=zeroValue2,
 t3:=underlying3,
 a3:=isAgg3,
 z3:=sizeOf3,
 v3:=zeroValue3,
 t4:=underlying4,
 a4:=isAgg4,
 z4:=sizeOf4,
 v4:=zeroValue4,
 t5:=underlying5,
 a5:=isAgg5,
 z5:=sizeOf5,
 v5:=zeroValue5,
 t9:=underlying9,
 a9:=isAgg9,
 z9:=sizeOf9,
 v9:=zeroValue9,
 t20:=underlying20,
 a20:=isAgg20,
 z20:=sizeOf20,
 v20:=zeroValue20,
 t37:=underlying38,
 a37:=isAgg38,
 z37:=sizeOf38,
 v37:=zeroValue38,
 t46:=underlying166,
 a46:=isAgg166,
 z46:=sizeOf166,
 v46:=zeroValue166,
 t51:=underlying90,
 a51:=isAgg90,
 z51:=sizeOf90,
 v51:=zeroValue90,
 t53:=underlying93,
 a53:=isAgg93,
 z53:=sizeOf93,
 v53:=zeroValue93,
 t171:=underlying313,
 a171:=isAgg313,
 z171:=sizeOf313,
 v171:=zeroValue313,
 t173:=underlying315,
 a173:=isAgg315,
 z173:=sizeOf315,
 v173:=zeroValue315,
 t212:=underlying329,
 a212:=isAgg329,
 z212:=sizeOf329,
 v212:=zeroValue329,
 t213:=underlying330,
 a213:=isAgg330,
 z213:=sizeOf330,
 t232:=underlying99,
 a232:=isAgg99,
 z232:=sizeOf99,
 v232:=zeroValue99,
 t233:=underlying92,
 a233:=isAgg92,
 z233:=sizeOf92,
 v233:=zeroValue92,
 g17:=by kernel_rfl,
 g18:=by kernel_rfl,
 g19:=by kernel_rfl,
 i0:=by kernel_rfl,
 i2:=by kernel_rfl,
 i3:=by kernel_rfl,
 i4:=by kernel_rfl,
 i5:=by kernel_rfl,
 i9:=by kernel_rfl,
 i20:=by kernel_rfl,
 i37:=by kernel_rfl,
 i46:=by kernel_rfl,
 i51:=by kernel_rfl,
 i53:=by kernel_rfl,
 i171:=by kernel_rfl,
 i173:=by kernel_rfl,
 i212:=by kernel_rfl,
 i232:=by kernel_rfl,
 i233:=by kernel_rfl,
 m17:=by kernel_rfl,
 m18:=by kernel_rfl,
 m19:=by kernel_rfl}
end Go.Proofs
namespace Go.Eng
theorem Pu{n:Nat}(h:n<1000):Lib.decDigits n=decS n:=by
 unfold decS;by_cases a:n<10
 .rw[if_pos a,Lib.decDigits,dif_pos a]
 .rw[if_neg a,Lib.decDigits,dif_neg a];by_cases b:n<100
  .rw[if_pos b,Lib.decDigits,dif_pos aD];rfl
  .rw[if_neg b,Lib.decDigits,dif_neg aD,Lib.decDigits,dif_pos aD,Nat.div_div_eq_div_mul];rfl
theorem Uv{n:Int}(a: -999<=n)(b:n<=999):Lib.itoa n=itoaS n:=by
 unfold Lib.itoa itoaS;split
 .rw[Pu aD]
 .rw[Pu aD]
theorem Rn:NV=Lib.pow10Tab.map λz=>DV.int .u64 z:=jM
theorem XE{w:World}{X:Nat->Prop}(h:zI w X){a:String}(m:prog.globalNamed a=some 8):Lib.TabIs prog w a .u64 Lib.pow10Tab:=by
 obtain⟨g,d,t,n,j,e⟩:=h 8 NV rfl;unfold Lib.TabIs World.var?;rw[m];simp only[Option.bind_some,j,Option.some.injEq];rw[Rn]at g e;cases g with
 |ro _ _ _ us hb hul hu1 hlt hcell hp=>
  apply Array.ext_getElem?;intro i;by_cases c:i<d.size
  .have f:i<Lib.pow10Tab.length:=by rw[e,C6]at c;exact c
   have l:i<us.length:=(by rw[hul,C6];exact f);have b:=hcell i us[i] (B5 l);have k:=hp i (.int .u64 Lib.pow10Tab[i]) us[i] (by simp[f]) (B5 l);generalize us[i]=u at b k;cases k;rw[Nat.zero_add]at b;unfold World.cell? at b;simp[j]at b;rw[b];simp[f]
  .rw[Array.getElem?_eq_none aD];rw[e,C6]at c;rw[List.getElem?_toArray,List.getElem?_eq_none (by simpa using c)]
theorem AH(n:Int)(b: -999<=n)(c:n<=999):Ok prog 167 [aI n] ⟨.d (.str (itoaS n)),true⟩:=by
 refine⟨⟨_,func167,jM,rfl⟩,λw X i d a=>?_⟩
 match i,a.1 with
 |[v],_=>
  have h:=a.2 0 _ _ rfl rfl;cases h;refine(Go.Proofs.Any.strconv_Itoa Tryz.itoaLay n aD aD w (XE d.2 jM)).mono ?_;rintro e l ⟨rfl,k,g,rfl⟩;refine⟨_,rfl,⟨rfl,rfl,rfl,?_,λj f=>Go.Sort.heap_grow_old (w.drewN k) g f,Nat.le_add_right _ _⟩,none,?_⟩
  .simp[Sort.grow]
  .rw[Uv b c];exact .str _
section
attribute[local simp] aR bK bE aO aL aZ aP
attribute[local simp] kJ.cond Nd.d_eq nd_t nd_dr nd_td ndsD
theorem Uw{x:Nd}(h:x.kind=32):exprT x=itoaS x.n:=by cases x;simp only[dX]at h;subst h;unfold exprT;simp
theorem Ux{x:Nd}(h:x.kind=33):exprT x=36::x.text:=by cases x;simp only[dX]at h;subst h;unfold exprT;simp
theorem Uy{x:Nd}(h:x.kind=36):exprT x=sKind:=by cases x;simp only[dX]at h;subst h;unfold exprT;simp
theorem Uz{x:Nd}(h:x.kind=34\/x.kind=35):exprT x=x.text:=by cases x;simp only[dX]at h;rcases h with rfl|rfl<;>(unfold exprT;simp)
theorem Ei{x:Nd}(e:rightN x=true)(d:isExprK x.kind=true):(26<=x.kind/\x.kind<=36)/\(x.kind=32->exprT x=itoaS x.n/\0<=x.n/\x.n<=999)/\(x.kind=33->exprT x=36::x.text)/\(x.kind=36->exprT x=sKind)/\
 (x.kind=34\/x.kind=35->exprT x=x.text)/\(x.kind<=31->∃a b,x.kids=[a,b]/\rightN a=true/\isExprK a.kind=true/\rightN b=true/\isExprK b.kind=true/\
   exprT x=paren (decide (lvlN a.kind<(if levelAt x.kind=1 then 2 else levelAt x.kind))) (exprT a)++32::(signAt x.kind++32::paren (decide (lvlN b.kind<levelAt x.kind+1)) (exprT b))):=by
 refine⟨isExprK_iff.1 d,λh=>⟨Uw h,?_⟩,Ux,Uy,Uz,λh=>?_⟩
 .obtain⟨k,t,n,r⟩:=x;have h:k=32:=h;subst h;obtain⟨_,_,_,o,p,_⟩:=right_mk.1 e;exact⟨o,p⟩
 .rcases gJ e d with⟨c,_⟩|⟨c,_⟩|c|⟨c,_⟩|⟨c,_⟩|⟨q,a,b,c,f,g,i,j,l,m⟩
  .omega
  .rw[c]at h;exact absurd h bA
  .rw[c]at h;exact absurd h bA
  .rw[c]at h;exact absurd h bA
  .rw[c]at h;exact absurd h bA
  .rw[g];exact⟨a,b,rfl,i,j,l,m,Bx c f⟩
theorem Gg(x:Nd)(a:Int)(c:Ok prog 300 [x.d] ⟨.d (.str (exprT x)),true⟩)(e:(exprT x).length<=10000000000):Ok prog 327 [x.d,aI a] ⟨.d (.str (paren (decide (lvlN x.kind<a)) (exprT x))),true⟩:=by
 refine bU func327 rfl ntmps327 results327 λg X f=>?_;apply aE;simp;apply fL;have d:=Uu x;refine bH (og 6 (.plain ⟨.d (aI (lvlN x.kind)),true⟩)) ?_;simp;refine⟨by simpa using d,?_⟩;apply aM;simp;refine⟨λb=>?_,λb=>?_⟩
 .refine dF (og 10 (.plain ⟨.d (.str (exprT x)),true⟩)) ?_;simp;refine⟨⟨⟨by simpa using c,aD⟩,aD⟩,?_⟩;apply aH;simp[paren,b]
 .apply aG;simp;refine dF (og 14 (.plain ⟨.d (.str (exprT x)),true⟩)) ?_;simp;refine⟨by simpa using c,?_⟩;apply aH;simp[paren];intro h;omega
theorem Ro(x:Nd)(L:rightN x=true)(J:isExprK x.kind=true)(P:weighN x<=1000000000)(z:∀y∈x.kids,rightN y=true->isExprK y.kind=true->weighN y<=1000000000->Ok prog 300 [y.d] ⟨.d (.str (exprT y)),true⟩):Ok prog 300 [x.d] ⟨.d (.str (exprT x)),true⟩:=by
 refine bU func300 rfl ntmps300 results300 λY X p=>?_;obtain⟨r,t,u,w,v,s⟩:=Ei L J;have n:=weighN_eq x;apply aE;simp;apply eT;simp;apply aY;apply bF;simp;refine⟨λC=>?_,λC=>?_⟩
 .apply aF;obtain⟨q1,q2,q3⟩:=t C;have K:=AH x.n aD q3;refine bH (og 11 (.plain ⟨.d (.str (itoaS x.n)),true⟩)) ?_;simp;refine⟨K,?_⟩;apply aH;simp[q1]
 .apply bF;simp;refine⟨λD=>?_,λD=>?_⟩
  .apply aE;simp;refine⟨aD,?_⟩;apply aH;simp[u D]
  .apply bF;simp;refine⟨λE=>?_,λE=>?_⟩
   .apply aE;simp;apply aH;simp[w E,sKind]
   .refine bI (ι:=BC) (λ⟨b⟩=>bB [(1,.bx 1 0),(19,.d (.bool b))]) (λ⟨b⟩=>aK [(1,.box false [.d (aI x.kind),.d (.str x.text),.d (aI x.n),.d (ndsD x.kids)])]) (λ⟨b⟩=>b=true↔(x.kind=34\/x.kind=35)) ?_ λ⟨b⟩ d=>?_
    .apply bF;simp;refine⟨λF=>?_,λF=>?_⟩
     .apply aG;simp;refine Xv.mk ⟨decide (x.kind=34)⟩ (aA p [1,19] [(1,1)]) ?_;simp[F]
     .apply aJ;simp;refine Xv.mk ⟨decide (x.kind=35)⟩ (aA p [1,19] [(1,1)]) ?_;simp only[decide_eq_true_eq];omega
    .apply aM;simp;refine⟨λf=>?_,λf=>?_⟩
     .have o:=d.1 f;apply aE;simp;apply aH;simp[v o]
     .have o:¬(x.kind=34\/x.kind=35):=λq=>by simp[d.2 q]at f
      apply aG;simp;apply aF;have c:x.kind<=31:=aD;obtain⟨a,e,m,H,A,I,B,l⟩:=s c;have q1:=Ut (k:=x.kind) r.1 c;have q2:=BE;obtain⟨j,h⟩:∃j:Int,j=if levelAt x.kind=1 then 2 else levelAt x.kind:=⟨_,rfl⟩;rw[<-h]at l;apply aJ;simp[q1];refine⟨⟨⟨aD,aD⟩,aD⟩,?_⟩;apply aE;simp;refine bI (ι:=Unit) (λi=>bB [(1,.bx 1 0),(3,.bx 3 0),(4,.d (aI j))]) (λi=>aK [(1,.box false [.d (aI x.kind),.d (.str x.text),.d (aI x.n),.d (ndsD x.kids)]),(3,.box false [.d (.str (signAt x.kind)),.d (aI (levelAt x.kind))])]) (λi=>True) ?_ λi G=>?_
      .apply bF;simp;refine⟨λg=>?_,λg=>?_⟩
       .apply aJ;simp;exact(aA p [1,3,4] [(1,1),(3,3)] (by simp[h,g]))
       .apply aG;simp;exact(aA p [1,3,4] [(1,1),(3,3)] (by simp[h,g]))
      .apply aF;rw[m]at n z;simp only[weighL]at n;have Q:=dG a H A;have S:=dG e I B;have U:=pR (decide (lvlN a.kind<j)) (exprT a);have V:=pR (decide (lvlN e.kind<levelAt x.kind+1)) (exprT e);have W:=JC x.kind ⟨r.1,c⟩;have M:=Gg a j (z a bA H A aD) aD;have N:=Gg e (levelAt x.kind+1) (z e bA I B aD) aD;have O:=(Ge r.1 c).2.1;refine fF.rd [[],[],[],[],[],[],[51],[38,51],[38,51],[51],[51],[38],[38],[38],[38],[38],[38],[38]] [[],[],[],[],[],[38],[],[],[],[],[],[],[],[],[],[],[],[],[51]] (λ|38=>some<| .plain ⟨.d (.str (paren (decide (lvlN a.kind<j)) (exprT a))),true⟩|51=>some<| .plain ⟨.d (.str (paren (decide (lvlN e.kind<levelAt x.kind+1)) (exprT e))),true⟩|_=>none) ?_;simp[m];refine⟨⟨⟨⟨⟨⟨⟨by simpa using M,aD⟩,aD⟩,aD⟩,aD⟩,by simpa using N⟩,aD⟩,?_⟩;apply aH;simp[l]
theorem AI(x:Nd):rightN x=true->isExprK x.kind=true->weighN x<=1000000000->Ok prog 300 [x.d] ⟨.d (.str (exprT x)),true⟩:=
 iU (p:=λx=>rightN x=true->isExprK x.kind=true->weighN x<=1000000000->Ok prog 300 [x.d] ⟨.d (.str (exprT x)),true⟩) (λ_ _ _ _ d b a c=>Ro _ b a c d) x
theorem UA:uS=wordsL.map DV.str:=rfl
theorem nJ:uS.length=26:=rfl
theorem yD{k:Int}(b:0<=k)(c:k<26):uS[k.toNat]?.getD default=.str (wordAt k):=by
 have a:k.toNat<wordsL.length:=by rw[words_len];omega
 rw[UA,List.getElem?_map,B5 a];simp[wordAt,C0,a]
theorem sN(k:Int):(wordAt k).length<=7:=by
 unfold wordAt;rw[C0];cases e:wordsL[k.toNat]? with
 |none=>simp
 |some w=>
  have:=List.mem_of_getElem? e;have h:∀w∈wordsL,w.length<=7:=bG;exact h w this
theorem rU:∀(a b:List Nd),stmtsT (a++b)=stmtsT a++stmtsT b
 |[],b=>by simp[stmtsT]
 |x::a,b=>by simp[stmtsT,rU a b]
theorem Cr{l:List Nd}{i:Nat}(a:i<l.length):stmtsT (l.take (i+1))=stmtsT (l.take i)++(stmtT l[i]++[32]):=by
 rw[<-C5 a,rU];simp[stmtsT]
theorem MA{l:List Nd}{i:Nat}(a:i<l.length):withE (l.take (i+1))=withE (l.take i)++32::exprT l[i]:=by
 unfold withE;rw[<-C5 a,D1];simp
theorem yE{l:List Nd}(h:∀e∈l,rightN e=true/\isExprK e.kind=true):(withE l).length<=9*weighL l:=by
 induction l with
 |nil=>simp[withE]
 |cons a r ih=>
  have c:=ih λy b=>h y (A4 _ b);have d:=dG a (h a bA).1 (h a bA).2;have f:1<=weighN a:=by rw[weighN_eq];omega
  have e:withE (a::r)=32::exprT a++withE r:=by simp[withE]
  rw[e,weighL];simp only[A0,A1];omega
def Rp(t e:aV):aV:=36::t++32::61::32::(e++[59])
def Rq(p e:aV):aV:=p++32::61::32::(e++[59])
def Pv(w e b:aV):aV:=w++32::(e++32::b)
def Gh(a c:aV):aV:=a++32::(sElse++32::c)
theorem Ej{l:List Nd}(h:∀e∈l,rightN e=true/\isExprK e.kind=true)(i:Nat):(withE (l.take i)).length<=9*weighL l:=by
 have a:=yE h;have b:withE (l.take i)++withE (l.drop i)=withE l:=by unfold withE;rw[<-D1,C7]
 rw[<-b,A0]at a;omega
theorem Pw{x e:Nd}(h:x.kind=9)(a:x.kids=[e]):stmtT x=Rp x.text (exprT e):=by
 cases x;simp only[dX,iG]at h a;subst a;subst h;simp[stmtT,Rp]
theorem JD{x p e:Nd}(h:x.kind=10)(a:x.kids=[p,e]):stmtT x=Rq (exprT p) (exprT e):=by
 cases x;simp only[dX,iG]at h a;subst a;subst h;simp[stmtT,Rq]
theorem Gi{x e b:Nd}(h:x.kind=11\/x.kind=12)(a:x.kids=[e,b]):stmtT x=Pv (wordAt x.kind) (exprT e) (blockT b):=by
 cases x;simp only[dX,iG]at h a;subst a;rcases h with rfl|rfl<;>simp[stmtT,Pv]
theorem Gj{x e b c:Nd}(h:x.kind=11\/x.kind=12)(a:x.kids=[e,b,c]):stmtT x=Gh (Pv (wordAt x.kind) (exprT e) (blockT b)) (blockT c):=by
 cases x;simp only[dX,iG]at h a;subst a;rcases h with rfl|rfl<;>simp[stmtT,Pv,Gh]
theorem Px{x:Nd}(h:13<=x.kind):stmtT x=wordAt x.kind++midT x.kind x.text++withN x.n++withE x.kids++[59]:=by
 cases x;exact stmtT_cmd _ _ _ h
theorem sO(x:Nd):blockT x=123::32::(stmtsT x.kids++[125]):=by cases x;unfold blockT;rfl
def XF(x:Nd):Prop:=rightN x=true/\isExprK x.kind=true
theorem Ek{x:Nd}(o:rightN x=true)(l:isStmtK x.kind=true):(9<=x.kind/\x.kind<=25)/\(x.kind=9->∃k:0<x.kids.length,XF x.kids[0]/\stmtT x=Rp x.text (exprT x.kids[0]))/\
 (x.kind=10->∃(k:0<x.kids.length) (a:1<x.kids.length),XF x.kids[0]/\XF x.kids[1]/\stmtT x=Rq (exprT x.kids[0]) (exprT x.kids[1]))/\
 (x.kind=11\/x.kind=12->∃(k:0<x.kids.length) (a:1<x.kids.length),XF x.kids[0]/\BlockR x.kids[1]/\((x.kids.length=2/\stmtT x=Pv (wordAt x.kind) (exprT x.kids[0]) (blockT x.kids[1]))\/
   ∃d:2<x.kids.length,BlockR x.kids[2]/\stmtT x=Gh (Pv (wordAt x.kind) (exprT x.kids[0]) (blockT x.kids[1])) (blockT x.kids[2])))/\
 (13<=x.kind->CmdR x.kind x.text x.n x.kids):=by
 refine⟨isStmtK_iff.1 l,?_⟩;rcases right_stmt o l with⟨s,e,g,a,d,f⟩|⟨p,e,g,a,d,f,i⟩|⟨q,e,b,j,g,a,d,f,i⟩|⟨e,b,c,g,a,d,f,i,m,n⟩|⟨q,s,t,r,a,d,g,f⟩
 .subst g;exact⟨λ_=>⟨bA,⟨d,f⟩,Pw rfl rfl⟩,λh=>by simp at h,λh=>by simp at h,λh=>by simp at h⟩
 .subst g;exact⟨λh=>by simp at h,λ_=>⟨bA,bA,⟨a,gI d⟩,⟨f,i⟩,JD rfl rfl⟩,λh=>by simp at h,λh=>by simp at h⟩
 .subst g;exact⟨λh=>by simp at h;omega,λh=>by simp at h;omega,λ_=>⟨bA,bA,⟨a,d⟩,right_block f i,.inl ⟨rfl,Gi j rfl⟩⟩,λh=>by simp at h;omega⟩
 .subst g;exact⟨λh=>by simp at h,λh=>by simp at h,λ_=>⟨bA,bA,⟨a,d⟩,right_block f i,.inr ⟨bA,right_block m n,Gj (.inl rfl) rfl⟩⟩,λh=>by simp at h⟩
 .subst g;exact⟨λh=>by simp at h;omega,λh=>by simp at h;omega,λh=>by simp at h;omega,λ_=>f⟩
theorem HK(k:Int)(t:aV):(midT k t).length<=t.length+2:=by
 unfold midT;split
 .simp
 .split<;>simp
theorem BF(n:Int):(withN n).length<=5:=by
 have:=cI n;unfold withN;split
 .simp only[A1];omega
 .simp
theorem uI{l:List Nd}(h:∀y∈l,(stmtT y).length+1<=40*weighN y)(i:Nat):(stmtsT (l.take i)).length<=40*weighL l:=by
 have c:∀l:List Nd,(∀y∈l,(stmtT y).length+1<=40*weighN y)->(stmtsT l).length<=40*weighL l:=λl=>by
  induction l with
  |nil=>intro _;simp[stmtsT]
  |cons a r ih=>
   intro h;have d:=ih λy e=>h y (A4 _ e);have b:=h a bA;have f:1<=weighN a:=by rw[weighN_eq];omega
   simp only[stmtsT,weighL,A0,A1];omega
 have d:=c l h;have b:=rU (l.take i) (l.drop i);rw[C7]at b;rw[b,A0]at d;omega
theorem eS(x:Nd):(rightN x=true->isStmtK x.kind=true->(stmtT x).length+1<=40*weighN x)/\(BlockR x->(blockT x).length<=40*weighN x):=by
 refine iU (p:=λx=>(rightN x=true->isStmtK x.kind=true->(stmtT x).length+1<=40*weighN x)/\(BlockR x->(blockT x).length<=40*weighN x)) (λk t n w m=>⟨?_,?_⟩) x
 .intro D C;have q:weighN (.mk k t n w)=weighL w+t.length+1:=by rw[weighN]
  have E:=sN k;rcases right_stmt D C with⟨G,e,d,g,i,f⟩|⟨p,e,d,g,i,f,o⟩|⟨F,e,b,u,d,g,i,f,o⟩|⟨e,b,c,d,g,i,f,o,A,B⟩|⟨F,G,H,z,g,i,d,f⟩
  .injection d with i1 i2 i3 i4
   subst i1;subst i2;subst i4;have:=dG e i f;rw[Pw rfl rfl,q];simp only[Rp,weighL,A0,A1,B7,gH];omega
  .injection d with i1 i2 i3 i4
   subst i1;subst i4;have:=dG e f o;have:=dG p g (gI i);rw[JD rfl rfl,q];simp only[Rq,weighL,A0,A1,B7];omega
  .injection d with i1 i2 i3 i4
   subst i1;subst i4;have:=dG e g i;have:=(m b bA).2 (right_block f o);rw[Gi (x:=.mk k t n [e,b]) u rfl,q];simp only[Pv,weighL,A0,A1,dX];omega
  .injection d with i1 i2 i3 i4
   subst i1;subst i4;have:=dG e g i;have:=(m b bA).2 (right_block f o);have:=(m c bA).2 (right_block A B);rw[Gj (.inl rfl) rfl,q];simp only[Pv,Gh,weighL,A0,A1,dX,show sElse.length=4 from rfl];omega
  .injection d with i1 i2 i3 i4
   subst i1;subst i2;subst i3;subst i4;have:=yE (cmd_facts f).2.2.2;have:=HK k t;have:=BF n;rw[stmtT_cmd _ _ _ g,q];simp only[A0,A1,B7];omega
 .rintro⟨z,d,s⟩;injection d with i1 i2 i3 i4
  subst i4;have v:∀l:List Nd,(∀y∈l,(stmtT y).length+1<=40*weighN y)->(stmtsT l).length<=40*weighL l:=λl=>by
   induction l with
   |nil=>intro _;simp[stmtsT]
   |cons a r m=>
    intro h;have g:=m λy s=>h y (A4 _ s);have i:=h a bA;have f:1<=weighN a:=by rw[weighN_eq];omega
    simp only[stmtsT,weighL,A0,A1];omega
  have:=v w λy j=>(m y j).1 (s y j).1 (s y j).2;rw[sO,weighN];simp only[iG,A0,A1,B7];omega
theorem MB(x:Nd)(d:BlockR x)(p:weighN x<=1000000000)(o:∀y∈x.kids,Ok prog 240 [y.d] ⟨.d (.str (stmtT y)),true⟩):Ok prog 166 [x.d] ⟨.d (.str (blockT x)),true⟩:=by
 refine bU func166 rfl ntmps166 results166 λv X e=>?_;have b:=(eS x).2 d;have n:=nH x;have a:∀y∈x.kids,rightN y=true/\isStmtK y.kind=true:=by obtain⟨q,rfl,h⟩:=d;exact h
 apply aE;simp;apply aE;simp;apply eT;simp;apply aY;refine bC (ι:=Nat) (λi=>bB [(3,.d (.str (123::32::stmtsT (x.kids.take i)))),(7,.d (ndsD x.kids)),(8,.d (aI x.kids.length)),(9,.d (aI i))]) (λi=>aK []) (λi=>i<=x.kids.length) (λi=>x.kids.length-i) 0 (aA e [3,7,8,9] [] (by simp[stmtsT])) (C4 _) λi k=>?_;apply aE;simp;apply aF;apply aM;simp;refine⟨λj=>?_,λj=>?_⟩
 .apply aG;simp;apply eE;apply aF;have c:i<x.kids.length:=aD;apply aJ;simp[c];have m:=o _ (A9 c);have f:=a _ (A9 c);have r:=(eS x.kids[i]).1 f.1 f.2;have s:=nG c;have t:=uI (l:=x.kids) (λy g=>(eS y).1 (a y g).1 (a y g).2) i;have u:=weighN_eq x;refine bH (og 15 (.plain ⟨.d (.str (stmtT x.kids[i])),true⟩)) ?_;simp;refine⟨⟨⟨by simpa using m,aD⟩,aD⟩,?_⟩;apply aJ;simp;refine⟨aD,?_⟩;refine Oe.mk (i+1) (aA e [3,7,8,9] [] (by simp[Cr c])) ?_ ?_
  .omega
  .omega
 .apply bQ;simp;apply aF;have c:i=x.kids.length:=aD;subst c;rw[D5];rw[sO]at b;simp only[A0,A1]at b;apply aJ;simp;refine⟨aD,?_⟩;apply aH;simp[sO]
end
end Go.Eng
