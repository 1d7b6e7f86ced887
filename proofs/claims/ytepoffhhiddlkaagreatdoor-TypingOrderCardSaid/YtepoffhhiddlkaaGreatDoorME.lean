/- Part 5 of the proof. No condition. -/
import Derived.Test.YtepoffhhiddlkaaGreatDoorMD
import Derived.Shelf.Strconv.Itoa3
import Derived.Test.YtepoffhhiddlkaaGreatDoorProg
import Derived.Shelf.Strings.Search1
open Go.Proofs
open Go.Proofs.Tryz
set_option linter.unusedVariables false
set_option linter.unusedSimpArgs false
set_option maxRecDepth 20000
set_option maxHeartbeats 4000000
open List renaming length_append→A0,length_cons→A1,getElem_mem→A2,mem_singleton→A4,take_succ_cons→A6,length_nil→A7,mem_cons_of_mem→A8,flatMap_append→B0,getElem?_eq_getElem→B1,take_append_getElem→B2,take_append_drop→B3,take→B4,all_eq_true→B5,take_length→B6,length_pos_iff→B7,getD_eq_getElem?_getD→B8,mem_of_find?_eq_some→B9,all_eq_not_any_not→C1,length_map→C2,mem_cons_self→C6,length_take→C8,cons_append→C9,mem_range→D3
open Nat renaming le_refl→A5,zero_le→A9,le_trans→C7,not_lt_zero→D2,min_self→D4,lt_or_ge→D5
open Option renaming map_some→D1
open Bool renaming and_eq_true→A3,true_and→C0,beq_eq_decide_eq→C3,false_eq_true→C5,or_eq_true→D0
open UInt8 renaming le_iff_toNat_le→C4
namespace Go.Eng
theorem BB(p:UInt8->Bool):∀(s:bC) (n:Nat),runP p (s.take n)=min n (runP p s)
 |[],n=>by simp[runP]
 |c::r,0=>by simp[runP]
 |c::r,n+1=>by
  rw[A6];unfold runP;split
  .rw[BB p r n];omega
  .simp
def My(s:bC):Prop:=s≠[]/\nextN s=s.length
theorem yB{s:bC}(h:0<wordN s):∃c r,s=c::r/\letterB c=true/\wordN s=runP (λc=>letterB c||digitB c) s/\wordN s<=16:=by
 cases s with
 |nil=>simp[wordN]at h
 |cons c r=>
  refine⟨c,r,rfl,?_⟩;unfold wordN at h|-;by_cases q:letterB c=true
  .simp only[q,if_true]at h|-;by_cases q2:runP (λc=>letterB c||digitB c) (c::r)<=16
   .simp only[q2,if_true,true_and]at h|-
   .simp[q2]at h
  .simp[q]at h
theorem El(s:bC):wordN s<=s.length:=by
 rcases Nat.eq_zero_or_pos (wordN s)with h|h
 .omega
 .obtain⟨c,r,_,_,a,_⟩:=yB h;rw[a];exact runP_le _ _
theorem Em{s:bC}(h:0<wordN s):wordN (s.take (wordN s))=wordN s:=by
 obtain⟨c,r,rfl,b,d,f⟩:=yB h;obtain⟨m,a⟩:∃m,wordN (c::r)=m+1:=⟨wordN (c::r)- 1,aE⟩;have e:=BB (λc=>letterB c||digitB c) (c::r) (wordN (c::r));rw[a]at e|-;rw[A6]at e|-;unfold wordN;simp only[b,if_true];rw[e,<-d,a,D4,if_pos aE]
theorem wA(s:bC):nextN s<=s.length:=by
 unfold nextN;cases s with
 |nil=>simp
 |cons c r=>
  simp only;split
  .exact El _
  .split
   .split
    .have:=El r;simp only[A1];omega
    .simp
   .split
    .split
     .exact runP_le _ _
     .simp
    .split
     .rename_i h;have:(B4 2 (c::r)).length=2:=by rcases h with h|h<;>rw[h]<;>rfl
      rw[C8]at this;omega
     .split<;>simp
theorem Rm{s:bC}(h:0<nextN s):My (s.take (nextN s)):=by
 have j:=wA s;have b:(s.take (nextN s)).length=nextN s:=by rw[C8];omega
 refine⟨λe=>by rw[e]at b;simp at b;omega,?_⟩;rw[b];cases s with
 |nil=>simp[nextN]at h
 |cons c r=>
  obtain⟨m,g⟩:∃m,nextN (c::r)=m+1:=⟨nextN (c::r)- 1,aE⟩;rw[g,A6];have a:=g;unfold nextN at a|-;simp only at a|-;by_cases q1:letterB c=true
  .rw[if_pos q1]at a|-;have:=Em (s:=c::r) aE;rw[a,A6]at this;exact this
  .rw[if_neg q1]at a|-;by_cases q2:c=36
   .rw[if_pos q2]at a|-;by_cases q3:0<wordN r
    .rw[if_pos q3]at a;have:=Em q3;have e:m=wordN r:=aE;rw[e,this,if_pos q3]
    .rw[if_neg q3]at a;omega
   .rw[if_neg q2]at a|-;by_cases q3:digitB c=true
    .rw[if_pos q3]at a|-;have e:=BB digitB (c::r) (m+1);rw[A6]at e;by_cases d:runP digitB (c::r)<=3
     .rw[if_pos d]at a;rw[e,a,D4,if_pos aE]
     .rw[if_neg d]at a;omega
    .rw[if_neg q3]at a|-;by_cases d:B4 2 (c::r)=[60,61]\/B4 2 (c::r)=[61,61]
     .rw[if_pos d]at a;have e:m=1:=aE;have i:B4 2 (c::B4 m r)=B4 2 (c::r):=by rw[e];cases r<;>simp
      rw[i,if_pos d,e]
     .rw[if_neg d]at a;by_cases f:c∈signs
      .rw[if_pos f]at a;have e:m=0:=aE;subst e;rw[if_neg bB,if_pos f]
      .rw[if_neg f]at a;omega
def cF(l:List Tk):Prop:=∀t∈l,My t.text
theorem nK:∀(f:Nat) (s:bC) (i:Int),cF (scanF f s i).1
 |0,_,_=>λt h=>by cases h
 |f+1,s,i=>by
  unfold scanF;split
  .exact λt h=>by cases h
  .split
   .exact nK f _ _
   .split
    .exact λt h=>by cases h
    .rename_i q;intro t h;rcases List.mem_cons.1 h with h|h
     .rw[h];exact Rm aE
     .exact nK f _ _ t h
theorem UM{s:bC}(h:My s)(b:isNameB s=true):wholeB s true=true:=by
 obtain⟨d,a⟩:=h;cases s with
 |nil=>exact absurd rfl d
 |cons c r=>
  have e:letterB c=true:=by simp only[isNameB,A3]at b;exact b.1
  unfold nextN at a;simp only[e,if_true]at a;unfold wholeB;rw[a,b];simp
theorem Rn{r:bC}(h:My (36::r)):wholeB r false=true:=by
 obtain⟨_,a⟩:=h;unfold nextN at a;simp only[show letterB 36=false by decide,C5,if_false,if_true]at a;split at a
 .rename_i q;have e:wordN r=r.length:=by simpa using a
  unfold wholeB;rw[e];have:r≠[]:=λe=>by rw[e]at q;simp[wordN]at q
  simp[this]
 .simp at a
theorem JE{s:bC}{b:Bool}(h:wholeB s b=true):∀c∈s,letterB c=true\/digitB c=true:=by
 unfold wholeB at h;simp only[A3,decide_eq_true_eq]at h;obtain⟨⟨f,a⟩,_⟩:=h;have k:0<wordN s:=by rw[a];exact B7.2 f
 obtain⟨c,r,_,_,g,_⟩:=yB k;intro d j;obtain⟨i,e,rfl⟩:=List.mem_iff_getElem.1 j;have:=runP_all (p:=λc=>letterB c||digitB c) e (by rw[<-g,a];exact e);simpa using this
theorem Gp{c:UInt8}:∀{a:bC} (b:bC),c∉a->cutAt c (a++c::b)=some (a,b)
 |[],b,_=>by simp[cutAt]
 |d::a,b,h=>by
  have f:d≠c:=λe=>h (by rw[e];exact C6 ..);rw[C9,cutAt,if_neg f,Gp b λq=>h (A8 _ q)];rfl
theorem JF{a b:bC}(c:wholeB a true=true)(d:wholeB b true=true):fieldB (a++46::b)=true:=by
 unfold fieldB;rw[Gp b λh=>by rcases JE c _ h with q|q<;>exact absurd q bK];simp[c,d]
def Rt(n:Nat)(cls:Int->Bool)(x:PS->Nd×PS):Prop:=∀p,p.l.length<n->cF p.l->(x p).2.l.length<=p.l.length/\cF (x p).2.l/\((x p).2.e=0->rightN (x p).1=true/\cls (x p).1.kind=true)
theorem qQ{p:PS}{e:Int}:(p.fail e).l=p.l:=by unfold PS.fail;split<;>rfl
theorem yC{p:PS}{e:Int}(h:cF p.l):cF (p.fail e).l:=by rw[qQ];exact h
theorem dP{p:PS}(h:cF p.l):cF p.skip.l:=λt a=>h t (List.mem_of_mem_tail a)
theorem eO{p:PS}:p.skip.l.length<=p.l.length:=by simp[PS.skip]
theorem JG{p:PS}(h:p.peek≠[]):p.skip.l.length+1=p.l.length:=by
 unfold PS.peek at h;split at h
 .exact absurd rfl h
 .unfold PS.skip;cases e:p.l with
  |nil=>rw[e]at h;exact absurd rfl h
  |cons t r=>rfl
theorem iD{p:PS}{s:bC}(h:p.is s=true):p.skip.l.length+1=p.l.length:=by
 unfold PS.is at h;simp only[A3,decide_eq_true_eq]at h;exact JG (by rw[h.2];exact h.1)
theorem cJ{p:PS}{s:bC}(h:cF p.l):(p.need s).l.length<=p.l.length/\cF (p.need s).l:=by
 unfold PS.need;split
 .exact⟨eO,dP h⟩
 .exact⟨by rw[qQ];exact A5 _,yC h⟩
theorem AL{p:PS}(h:cF p.l)(a:p.peek≠[]):My p.peek:=by
 unfold PS.peek at a|-;split
 .rename_i q;rw[if_pos q]at a;exact absurd rfl a
 .rename_i q;rw[if_neg q]at a;cases e:p.l with
  |nil=>rw[e]at a;exact absurd rfl a
  |cons t r=>exact h t (by rw[e];exact C6 ..)
theorem dZ{p:PS}(h:cF p.l):(nameP p).2.l.length<=p.l.length/\cF (nameP p).2.l/\((nameP p).2.e=0->wholeB (nameP p).1 true=true):=by
 unfold nameP;split
 .rename_i q;refine⟨eO,dP h,λ_=>UM (AL h λe=>?_) q⟩;rw[e]at q;cases q
 .exact⟨by rw[qQ];exact A5 _,yC h,λa=>absurd a (fail_e bK)⟩
theorem gD{p:PS}(h:cF p.l):(localP p).2.l.length<=p.l.length/\cF (localP p).2.l/\((localP p).2.e=0->wholeB (localP p).1 false=true):=by
 unfold localP;split
 .rename_i r q;refine⟨eO,dP h,λ_=>Rn ?_⟩;rw[<-q];exact AL h (by rw[q];simp)
 .exact⟨by rw[qQ];exact A5 _,yC h,λa=>absurd a (fail_e bK)⟩
theorem iK{k:Int}{p:PS}(h:cF p.l):(numeralP k p).2.l.length<=p.l.length/\cF (numeralP k p).2.l/\((numeralP k p).2.e=0->loAt k<=(numeralP k p).1/\(numeralP k p).1<=hiAt k):=by
 have a:∀e:Int,e≠0->(p.fail e).l.length<=p.l.length/\cF (p.fail e).l/\((p.fail e).e=0->loAt k<=0/\0<=hiAt k):=λe q=>⟨by rw[qQ];exact A5 _,yC h,λb=>absurd b (fail_e q)⟩;unfold numeralP;split
 .exact a 2 bK
 .split
  .split
   .exact a 5 bK
   .rename_i q;exact⟨eO,dP h,λ_=>⟨by simp only;omega,by simp only;omega⟩⟩
  .exact a 2 bK
theorem AM{p:PS}(h:cF p.l):(numberP p).2.l.length<=p.l.length/\cF (numberP p).2.l/\((numberP p).2.e=0-> -999<=(numberP p).1/\(numberP p).1<=999):=by
 have f:loAt 0= -999:=rfl;have e:hiAt 0=999:=rfl;unfold numberP;split
 .obtain⟨a,b,c⟩:=iK (k:=0) (dP h);exact⟨C7 a eO,b,λd=>by have:=c d;simp only;omega⟩
 .obtain⟨a,b,c⟩:=iK (k:=0) h;exact⟨a,b,λd=>by have:=c d;omega⟩
theorem sV(n:Nat):Rt n isPlaceK placeP:=λp _ h=>by
 obtain⟨b,c,d⟩:=dZ h;unfold placeP;split
 .obtain⟨e,f,g⟩:=dZ (dP c);refine⟨C7 e (C7 eO b),f,λa=>⟨?_,rfl⟩⟩;have i:=d (nameP_stk (nameP p).2.skip a);simp[rightN,rightL,shapedB,shapedK,kidsB,wordedB,wordedK,loAt,hiAt,boundsL,textB,JF i (g a)]
 .refine⟨b,c,λa=>⟨?_,rfl⟩⟩;simp[rightN,rightL,shapedB,shapedK,kidsB,wordedB,wordedK,loAt,hiAt,boundsL,textB,d a]
theorem Gq(lv:Int)(s:bC): -1<=opI lv s/\opI lv s<=5:=by
 unfold opI;split
 .rename_i i q;have:=D3.1 (B9 q);omega
 .omega
theorem yD{lv:Int}{p:PS}(h:cF p.l):(opP lv p).2.l.length<=p.l.length/\cF (opP lv p).2.l:=by
 unfold opP;simp only;split
 .exact⟨eO,dP h⟩
 .exact⟨A5 _,h⟩
theorem BD{k:Int}{n m:Nd}(d:26<=k)(e:k<=31)(b:rightN n=true/\isExprK n.kind=true)(a:rightN m=true/\isExprK m.kind=true):rightN (.mk k [] 0 [n,m])=true/\isExprK (Nd.mk k [] 0 [n,m]).kind=true:=by
 have c:k=26\/k=27\/k=28\/k=29\/k=30\/k=31:=aE;rcases c with rfl|rfl|rfl|rfl|rfl|rfl<;>exact⟨by simp[rightN,rightL,shapedB,shapedK,kidsB,wordedB,wordedK,loAt,hiAt,boundsL,textB,b.1,a.1,b.2,a.2],rfl⟩
theorem Gr{m:Nat}{lv:Int}{x:PS->Nd×PS}(c:Rt m isExprK x):∀(f:Nat) (n:Nd) (p:PS),p.l.length<m->cF p.l->(p.e=0->rightN n=true/\isExprK n.kind=true)->
 (chainF lv x f n p).2.l.length<=p.l.length/\cF (chainF lv x f n p).2.l/\((chainF lv x f n p).2.e=0->rightN (chainF lv x f n p).1=true/\isExprK (chainF lv x f n p).1.kind=true)
 |0,_,_,_,h,hn=>⟨A5 _,h,hn⟩
 |f+1,n,p,hl,h,hn=>by
  unfold chainF;split
  .exact⟨A5 _,h,hn⟩
  .rename_i q;have b:p.e=0:=by simpa using q
   obtain⟨d,a⟩:=yD (lv:=lv) h;split
   .exact⟨d,a,λ_=>hn b⟩
   .rename_i q2;have j:=Gq lv p.peek;have k:0<=(opP lv p).1/\(opP lv p).1<=5:=⟨aE,j.2⟩;obtain⟨r,e,g⟩:=c _ aE a;obtain⟨s,l,o⟩:=Gr c f (.mk (26+(opP lv p).1) [] 0 [n,(x (opP lv p).2).1]) _ aE e λi=>BD aE aE (hn b) (g i);exact⟨aE,l,o⟩
theorem BE{m:Nat}{lv:Int}{x:PS->Nd×PS}(a:Rt m isExprK x):Rt m isExprK (chainP lv x):=λp d h=>by
 obtain⟨g,b,c⟩:=a p d h;obtain⟨i,e,f⟩:=Gr (lv:=lv) a ((x p).2.l.length+1) _ _ aE b c;exact⟨by unfold chainP;omega,e,f⟩
theorem qR{k:Int}(h:isPlaceK k=true):isExprK k=true:=by
 unfold isPlaceK at h;simp only[D0,decide_eq_true_eq]at h;rcases h with rfl|rfl<;>rfl
theorem En{m:Nat}{j:PS->Nd×PS}(o:Rt m isExprK j):Rt (m+1) isExprK (factP j):=λp n h=>by
 have a:=sV (m+1) p n h;have c:(placeP p).2.l.length<=p.l.length/\cF (placeP p).2.l/\((placeP p).2.e=0->rightN (placeP p).1=true/\isExprK (placeP p).1.kind=true):=⟨a.1,a.2.1,λb=>⟨(a.2.2 b).1,qR (a.2.2 b).2⟩⟩;unfold factP;split
 .rename_i q;have t:=iD q;obtain⟨i,d,e⟩:=o p.skip aE (dP h);obtain⟨r,l⟩:=cJ (s:=[41]) d;exact⟨by simp only;omega,l,λb=>e (need_e b).2⟩
 .split
  .exact⟨eO,dP h,λ_=>⟨by show rightN (Nd.mk 36 [] 0 [])=true;decide,rfl⟩⟩
  .split
   .split
    .obtain⟨i,d,e⟩:=iK (k:=32) h;refine⟨i,d,λb=>⟨?_,rfl⟩⟩;have:=e b;have g:loAt 32=0:=rfl;have f:hiAt 32=999:=rfl;rw[g,f]at this;simp[rightN,rightL,shapedB,shapedK,kidsB,wordedB,wordedK,g,f,textB,this]
    .split
     .obtain⟨i,d,e⟩:=gD h;refine⟨i,d,λb=>⟨?_,rfl⟩⟩;simp[rightN,rightL,shapedB,shapedK,kidsB,wordedB,wordedK,loAt,hiAt,boundsL,textB,e b]
     .exact c
   .exact c
theorem HT{m:Nat}{a:PS->Nd×PS}(b:Rt m isExprK a):Rt (m+1) isExprK (sumP a):=BE (BE (En b))
theorem UN{m:Nat}{a:PS->Nd×PS}(n:Stk a)(e:Rt m isExprK a):Rt (m+1) isExprK (exprB a):=λp j h=>by
 obtain⟨r,f,d⟩:=HT e p j h;obtain⟨o,c⟩:=yD (lv:=1) f;unfold exprB;simp only;split
 .rename_i q;have k:=Gq 1 (sumP a p).2.peek;have l:(opP 1 (sumP a p).2).1<=5:=k.2;obtain⟨s,g,i⟩:=HT e _ aE c;exact⟨by simp only;omega,g,λb=>BD aE aE (d (opP_stk 1 _ (sumP_stk n _ b))) (i b)⟩
 .exact⟨by simp only;omega,c,λb=>d (opP_stk 1 _ b)⟩
theorem AN:∀f,Rt f isExprK (exprP false f)
 |0=>λp h=>aE
 |f+1=>λp a h=>by
  unfold exprP;rw[if_neg bB];exact UN (exprP_stk false f) (AN f) p a h
theorem Eo(n:Nat):Rt n isExprK λq=>exprP false (q.l.length+1) q:=λp _ h=>AN (p.l.length+1) p aE h
theorem Gs{m:Nat}{c:PS->Nd×PS}(e:Stk c)(a:Rt m isStmtK c):∀(f:Nat) (b:List Nd) (p:PS),p.l.length<m->cF p.l->(p.e=0->∀x∈b,rightN x=true/\isStmtK x.kind=true)->
 (stmtsF c f b p).2.l.length<=p.l.length/\cF (stmtsF c f b p).2.l/\((stmtsF c f b p).2.e=0->∀x∈(stmtsF c f b p).1,rightN x=true/\isStmtK x.kind=true)
 |0,_,_,_,h,hn=>⟨A5 _,h,hn⟩
 |f+1,b,p,hl,h,hn=>by
  unfold stmtsF;split
  .exact⟨A5 _,h,hn⟩
  .obtain⟨l,g,i⟩:=a p hl h;obtain⟨n,j,k⟩:=Gs e a f (b++[(c p).1]) _ aE g λd x a=>by
    rcases List.mem_append.1 a with a|a
    .exact hn (e p d) x a
    .rw[A4.1 a];exact i d
   exact⟨aE,j,k⟩
theorem wB{b:List Nd}(h:∀x∈b,rightN x=true/\isStmtK x.kind=true):rightN (.mk 8 [] 0 b)=true:=
 right_mk.2 ⟨bK,bK,B5.2 λx a=>(h x a).2,bK,bK,rfl,λx a=>(h x a).1⟩
theorem yE{m:Nat}{a:PS->Nd×PS}(d:Stk a)(e:Rt m isStmtK a):Rt m isBlockK (blockB a):=λp j h=>by
 obtain⟨i,b⟩:=cJ (s:=[123]) h;obtain⟨k,f,g⟩:=Gs d e ((p.need [123]).l.length+1) [] (p.need [123]) aE b (λ_ x h=>by cases h);obtain⟨l,q1⟩:=cJ (s:=[125]) f;unfold blockB;exact⟨by simp only;omega,q1,λc=>⟨wB (g (need_e c).2),rfl⟩⟩
theorem zW{s:bC}(h:12<kindP s):13<=kindP s/\kindP s<=25:=by
 unfold kindP wordI at h|-;split
 .rename_i q;rw[if_pos q]at h;omega
 .rename_i q;rw[if_neg q]at h;split
  .rename_i i e;rw[e]at h;have:=D3.1 (B9 e);simp only at h;omega
  .rename_i e;rw[e]at h;simp only at h;omega
theorem PA{m:Nat}{l:PS->Nd×PS}(u:Stk l)(e:Rt m isExprK l){k:Int}(v:13<=k/\k<=25):Rt m isStmtK (cmdP l k):=λp w h=>by
 have r:(if k=19\/k=20 then localP p else if k=21\/k=25\/k=24 then([],p)else nameP p).2.l.length<=p.l.length/\cF (if k=19\/k=20 then localP p else if k=21\/k=25\/k=24 then([],p)else nameP p).2.l/\
  ((if k=19\/k=20 then localP p else if k=21\/k=25\/k=24 then([],p)else nameP p).2.e=0->textB k (if k=19\/k=20 then localP p else if k=21\/k=25\/k=24 then([],p)else nameP p).1=true):=by
  split
  .rename_i q;obtain⟨f,d,b⟩:=gD h;exact⟨f,d,λc=>by rcases q with rfl|rfl<;>simp[textB,b c]⟩
  .split
   .rename_i q;exact⟨A5 _,h,λ_=>by rcases q with rfl|rfl|rfl<;>rfl⟩
   .rename_i q1 q2;obtain⟨f,d,b⟩:=dZ h;exact⟨f,d,λc=>by unfold textB;rw[if_neg aE,if_neg aE,if_neg aE];exact b c⟩
 unfold cmdP;generalize(if k=19\/k=20 then localP p else if k=21\/k=25\/k=24 then([],p)else nameP p)=a at r;obtain⟨s,i,j⟩:=r;simp only;have o:∀{n:Int},(k=19\/k=21\/k=25->loAt k<=n/\n<=hiAt k)->(¬(k=19\/k=21\/k=25)->n=0)->loAt k<=n/\n<=hiAt k:=λ{n} d b=>by
  by_cases q:k=19\/k=21\/k=25
  .exact d q
  .rw[b q];have:k=13\/k=14\/k=15\/k=16\/k=17\/k=18\/k=20\/k=22\/k=23\/k=24:=aE;rcases this with rfl|rfl|rfl|rfl|rfl|rfl|rfl|rfl|rfl|rfl<;>decide
 have mk:∀{t:bC} {n:Int} {g:List Nd},textB k t=true->loAt k<=n/\n<=hiAt k->shapedK k g=true->(∀x∈g,rightN x=true)->rightN (.mk k t n g)=true/\isStmtK (Nd.mk k t n g).kind=true:=λ{t n g} d b h3 h4=>by
  exact⟨right_mk.2 ⟨aE,aE,h3,b.1,b.2,d,h4⟩,show isStmtK k=true from isStmtK_iff.2 aE⟩
 split
 .rename_i q;obtain⟨f,d,b⟩:=e a.2 aE i;refine⟨by simp only;omega,d,λc=>mk (j (u _ c)) (o aE λ_=>rfl) ?_ λx e=>by rw[A4.1 e];exact(b c).1⟩;rcases q with rfl|rfl|rfl<;>simp[shapedK,kidsB,(b c).2]
 .split
  .rename_i q;obtain⟨f,d,b⟩:=gD i;refine⟨by simp only;omega,d,λc=>mk (j (localP_stk _ c)) (o aE λ_=>rfl) ?_ λx e=>?_⟩
   .rcases q with rfl|rfl<;>simp[shapedK,kidsB,isLocalK]
   .rw[A4.1 e];simp[rightN,rightL,shapedB,shapedK,kidsB,wordedB,wordedK,loAt,hiAt,boundsL,textB,b c]
  .split
   .rename_i q;obtain⟨f,d,b⟩:=iK (k:=k) i;refine⟨by simp only;omega,d,λc=>mk (j (numeralP_stk _ _ c)) (b c) ?_ λx e=>by cases e⟩;rcases q with rfl|rfl|rfl<;>rfl
   .rename_i q1 q2 q3;refine⟨s,i,λc=>mk (j c) (o (λq=>absurd q q3) λ_=>rfl) ?_ λx e=>by cases e⟩;have:k=13\/k=14\/k=17\/k=18\/k=20:=aE;rcases this with rfl|rfl|rfl|rfl|rfl<;>rfl
theorem UO{m:Nat}{j n:PS->Nd×PS}(v:Stk j)(w:Stk n)(o:Rt (m+1) isExprK j)(y:Rt m isBlockK n):Rt (m+1) isStmtK (stmtB j n):=λp B h=>by
 unfold stmtB;simp only;split
 .rename_i q;have C:p.skip.l.length+1=p.l.length:=JG λe=>by rw[e]at q;simp[kindP]at q
  obtain⟨r,i,b⟩:=o p.skip aE (dP h);obtain⟨t,f,l⟩:=y (j p.skip).2 aE i;split
  .rename_i q2;have A:=iD q2.2;obtain⟨x,k,g⟩:=y (n (j p.skip).2).2.skip aE (dP f);refine⟨by simp only;omega,k,λa=>?_⟩;have c:=w _ a;have d:=w (j p.skip).2 c;rw[q2.1];exact⟨by simp[rightN,rightL,shapedB,shapedK,kidsB,wordedB,wordedK,loAt,hiAt,boundsL,textB,(b d).1,(b d).2,(l c).1,(l c).2,(g a).1,(g a).2],rfl⟩
  .refine⟨by simp only;omega,f,λa=>?_⟩;have d:=w _ a;rcases q with q|q<;>rw[q]<;>exact⟨by simp[rightN,rightL,shapedB,shapedK,kidsB,wordedB,wordedK,loAt,hiAt,boundsL,textB,(b d).1,(b d).2,(l a).1,(l a).2],rfl⟩
 .split
  .rename_i q;obtain⟨r,i,b⟩:=PA v o (zW q) p.skip (by have:=eO (p:=p);omega) (dP h);obtain⟨t,f⟩:=cJ (s:=[59]) i;have:=eO (p:=p);exact⟨by simp only;omega,f,λa=>b (need_e a).2⟩
  .split
   .obtain⟨r,i,b⟩:=gD h;obtain⟨t,f⟩:=cJ (s:=[61]) i;obtain⟨x,k,g⟩:=o ((localP p).2.need [61]) aE f;obtain⟨z,u⟩:=cJ (s:=[59]) k;refine⟨by simp only;omega,u,λa=>?_⟩;have c:=(need_e a).2;have d:=(need_e (v _ c)).2;exact⟨by simp[rightN,rightL,shapedB,shapedK,kidsB,wordedB,wordedK,loAt,hiAt,boundsL,textB,b d,(g c).1,(g c).2],rfl⟩
   .obtain⟨r,i,b⟩:=sV (m+1) p B h;obtain⟨t,f⟩:=cJ (s:=[61]) i;obtain⟨x,k,g⟩:=o ((placeP p).2.need [61]) aE f;obtain⟨z,u⟩:=cJ (s:=[59]) k;refine⟨by simp only;omega,u,λa=>?_⟩;have c:=(need_e a).2;have d:=(need_e (v _ c)).2;exact⟨by simp[rightN,rightL,shapedB,shapedK,kidsB,wordedB,wordedK,loAt,hiAt,boundsL,textB,(b d).1,(b d).2,(g c).1,(g c).2],rfl⟩
theorem wC:∀f,Rt f isStmtK (stmtP false f)
 |0=>λp h=>aE
 |f+1=>λp a h=>UO (exprO_stk false) (blockB_stk (stmtP_stk false f)) (Eo (f+1)) (yE (stmtP_stk false f) (wC f)) p a h
theorem JH{c:UInt8}:∀{t a b:bC},cutAt c t=some (a,b)->t=a++c::b
 |[],_,_,h=>by simp[cutAt]at h
 |d::r,a,b,h=>by
  unfold cutAt at h;split at h
  .rename_i e;simp only[Option.some.injEq,Prod.mk.injEq]at h;rw[<-h.1,<-h.2,e];rfl
  .cases q:cutAt c r with
   |none=>rw[q]at h;cases h
   |some p=>
    obtain⟨f,g⟩:=p;rw[q]at h;simp only[D1,Option.some.injEq,Prod.mk.injEq]at h;rw[<-h.1,<-h.2,JH q];rfl
theorem tW{x:Nd}(m:rightN x=true)(l:isExprK x.kind=true):
 (x.kind=32/\0<=x.n/\x.n<=999/\x=.mk 32 [] x.n [])\/(x=.mk 33 x.text 0 []/\wholeB x.text false=true)\/x=.mk 36 [] 0 []\/(x=.mk 34 x.text 0 []/\wholeB x.text true=true)\/(x=.mk 35 x.text 0 []/\fieldB x.text=true)\/
   ∃k a b,26<=k/\k<=31/\x=.mk k [] 0 [a,b]/\rightN a=true/\isExprK a.kind=true/\rightN b=true/\isExprK b.kind=true:=by
 obtain⟨k,t,n,f⟩:=x;have l:26<=k/\k<=36:=isExprK_iff.1 l;obtain⟨_,_,g,p,q,d,j⟩:=right_mk.1 m;have none:shapedK k f=kidsB f []->f=[]:=λe=>by
  rw[e]at g;cases f with
  |nil=>rfl
  |cons _ _=>cases g
 by_cases o:k<=31
 .right;right;right;right;right;have c:kidsB f [isExprK,isExprK]=true:=by
   unfold shapedK at g;rw[if_neg aE,if_neg aE,if_neg aE,if_neg aE,if_neg aE,if_neg aE,if_neg aE,if_neg aE,if_pos aE]at g;exact g
  have i:loAt k=0/\hiAt k=0:=by
   have:k=26\/k=27\/k=28\/k=29\/k=30\/k=31:=aE;rcases this with rfl|rfl|rfl|rfl|rfl|rfl<;>exact⟨rfl,rfl⟩
  have h:t=[]:=by
   unfold textB at d;rw[if_neg aE,if_neg aE,if_pos aE]at d;simpa using d
  match f,c,j with
  |[a,b],c,j=>
   simp only[kidsB,Bool.and_true,A3]at c;exact⟨k,a,b,aE,aE,by rw[h,show n=0 by omega],j a bB,c.1,j b bB,c.2⟩
  |[],c,_=>cases c
  |[_],c,_=>simp[kidsB]at c
  |_::_::_::_,c,_=>simp[kidsB]at c
 .have:k=32\/k=33\/k=34\/k=35\/k=36:=aE;rcases this with rfl|rfl|rfl|rfl|rfl
  .left;have e:=none rfl;have i:loAt 32=0/\hiAt 32=999:=⟨rfl,rfl⟩;have h:t=[]:=by simpa [textB]using d
   subst e;subst h;exact⟨rfl,by simp only[yA];omega,by simp only[yA];omega,rfl⟩
  .right;left;have e:=none rfl;have i:loAt 33=0/\hiAt 33=0:=⟨rfl,rfl⟩;subst e;exact⟨by rw[show n=0 by omega];rfl,by simpa [textB]using d⟩
  .right;right;right;left;have e:=none rfl;have i:loAt 34=0/\hiAt 34=0:=⟨rfl,rfl⟩;subst e;exact⟨by rw[show n=0 by omega];rfl,by simpa [textB]using d⟩
  .right;right;right;right;left;have e:=none rfl;have i:loAt 35=0/\hiAt 35=0:=⟨rfl,rfl⟩;subst e;exact⟨by rw[show n=0 by omega];rfl,by simpa [textB]using d⟩
  .right;right;left;have e:=none rfl;have i:loAt 36=0/\hiAt 36=0:=⟨rfl,rfl⟩;have h:t=[]:=by simpa [textB]using d
   subst e;subst h;rw[show n=0 by omega]
theorem Gt{k:Int}{a b:Nd}(c:26<=k)(d:k<=31):exprT (.mk k [] 0 [a,b])=paren (decide (lvlN a.kind<(if levelAt k=1 then 2 else levelAt k))) (exprT a)++32::(signAt k++32::paren (decide (lvlN b.kind<levelAt k+1)) (exprT b)):=by
 rw[exprT,if_neg aE,if_neg aE,if_neg aE,if_neg aE]
theorem Ro{k:Int}(c:26<=k)(d:k<=31):opI (levelAt k) (signAt k)=k-26/\(levelAt k=1\/levelAt k=2\/levelAt k=3)/\(∀a:Int,(a=1\/a=2\/a=3)->a≠levelAt k->opI a (signAt k)<0)/\signAt k≠[46]/\lvlN k=levelAt k:=by
 have:k=26\/k=27\/k=28\/k=29\/k=30\/k=31:=aE;rcases this with rfl|rfl|rfl|rfl|rfl|rfl<;>exact⟨bK,bK,λa h b=>by rcases h with rfl|rfl|rfl<;>first|exact absurd rfl b|decide,bK,bK⟩
theorem Gu{k:Int}(t:bC)(n:Int)(a:List Nd)(h:13<=k):stmtT (.mk k t n a)=wordAt k++midT k t++withN n++withE a++[59]:=by
 unfold stmtT;rw[if_neg aE,if_neg aE,if_neg aE]
def jH(x:Nd):Prop:=∃ks,x=.mk 8 [] 0 ks/\∀y∈ks,rightN y=true/\isStmtK y.kind=true
theorem gW{x:Nd}(d:rightN x=true)(a:isBlockK x.kind=true):jH x:=by
 obtain⟨k,t,n,c⟩:=x;have a:k=8:=of_decide_eq_true (show decide (k=8)=true from a);subst a;obtain⟨_,_,e,i,j,g,a⟩:=right_mk.1 d;have h:loAt 8=0/\hiAt 8=0:=⟨rfl,rfl⟩;have f:t=[]:=by simpa [textB]using g
 refine⟨c,by rw[f,show n=0 by omega],λy b=>⟨a y b,?_⟩⟩;exact B5.1 (show(c.all λy=>isStmtK y.kind)=true from e) y b
def Mz(k:Int)(t:bC)(n:Int)(ks:List Nd):Prop:=
 ((k=13\/k=14\/k=17\/k=18)/\wholeB t true=true/\n=0/\ks=[])\/
 ((k=15\/k=22)/\wholeB t true=true/\n=0/\∃e,ks=[e]/\rightN e=true/\isExprK e.kind=true)\/
 ((k=16\/k=23)/\wholeB t true=true/\n=0/\∃u,ks=[.mk 33 u 0 []]/\wholeB u false=true)\/
 (k=19/\wholeB t false=true/\2<=n/\n<=6/\ks=[])\/(k=20/\wholeB t false=true/\n=0/\ks=[])\/
 ((k=21/\n<=9\/k=25/\n<=99)/\t=[]/\1<=n/\ks=[])\/(k=24/\t=[]/\n=0/\∃e,ks=[e]/\rightN e=true/\isExprK e.kind=true)
theorem oH{f:Int->Bool}:∀{b:List Nd},kidsB b [f]=true->∃a,b=[a]/\f a.kind=true
 |[a],h=>⟨a,rfl,by simpa [kidsB]using h⟩
 |[],h=>by cases h
 |_::_::_,h=>by simp[kidsB]at h
theorem AO{f g:Int->Bool}:∀{ks:List Nd},kidsB ks [f,g]=true->∃a b,ks=[a,b]/\f a.kind=true/\g b.kind=true
 |[a,b],h=>⟨a,b,rfl,by simpa [kidsB]using h⟩
 |[],h=>by cases h
 |[_],h=>by simp[kidsB]at h
 |_::_::_::_,h=>by simp[kidsB]at h
theorem MA{f g e:Int->Bool}:∀{d:List Nd},kidsB d [f,g,e]=true->∃a b c,d=[a,b,c]/\f a.kind=true/\g b.kind=true/\e c.kind=true
 |[a,b,c],h=>⟨a,b,c,rfl,by simpa [kidsB]using h⟩
 |[],h=>by cases h
 |[_],h=>by simp[kidsB]at h
 |[_,_],h=>by simp[kidsB]at h
 |_::_::_::_::_,h=>by simp[kidsB]at h
theorem fQ:∀{a:List Nd},kidsB a []=true->a=[]
 |[],_=>rfl
 |_::_,h=>by cases h
theorem Ep{x:Nd}(y:rightN x=true)(u:isStmtK x.kind=true):
 (∃t e,x=.mk 9 t 0 [e]/\wholeB t false=true/\rightN e=true/\isExprK e.kind=true)\/
 (∃p e,x=.mk 10 [] 0 [p,e]/\rightN p=true/\isPlaceK p.kind=true/\rightN e=true/\isExprK e.kind=true)\/
 (∃k e b,(k=11\/k=12)/\x=.mk k [] 0 [e,b]/\rightN e=true/\isExprK e.kind=true/\rightN b=true/\isBlockK b.kind=true)\/
 (∃e b c,x=.mk 11 [] 0 [e,b,c]/\rightN e=true/\isExprK e.kind=true/\rightN b=true/\isBlockK b.kind=true/\rightN c=true/\isBlockK c.kind=true)\/
 (∃k t n r,13<=k/\k<=25/\x=.mk k t n r/\Mz k t n r):=by
 obtain⟨k,t,n,r⟩:=x;have u:9<=k/\k<=25:=isStmtK_iff.1 u;obtain⟨_,_,i,z,A,l,h⟩:=right_mk.1 y;have o:k=9\/k=10\/k=11\/k=12\/k=13\/k=14\/k=15\/k=16\/k=17\/k=18\/k=19\/k=20\/k=21\/k=22\/k=23\/k=24\/k=25:=aE;rcases o with rfl|rfl|rfl|rfl|rfl|rfl|rfl|rfl|rfl|rfl|rfl|rfl|rfl|rfl|rfl|rfl|rfl
 .obtain⟨e,rfl,j⟩:=oH (f:=isExprK) i;have m:loAt 9=0/\hiAt 9=0:=⟨rfl,rfl⟩;exact .inl ⟨t,e,by rw[show n=0 by omega],l,h e bB,j⟩
 .obtain⟨p,e,rfl,w,j⟩:=AO (f:=isPlaceK) (g:=isExprK) i;have m:loAt 10=0/\hiAt 10=0:=⟨rfl,rfl⟩;have q:t=[]:=by simpa [textB]using l
  exact .inr (.inl ⟨p,e,by rw[q,show n=0 by omega],h p bB,w,h e bB,j⟩)
 .have m:loAt 11=0/\hiAt 11=0:=⟨rfl,rfl⟩;have q:t=[]:=by simpa [textB]using l
  have i:(kidsB r [isExprK,isBlockK]||kidsB r [isExprK,isBlockK,isBlockK])=true:=i;rw[D0]at i;rcases i with i|i
  .obtain⟨e,b,rfl,j,s⟩:=AO i;exact .inr (.inr (.inl ⟨11,e,b,.inl rfl,by rw[q,show n=0 by omega],h e bB,j,h b bB,s⟩))
  .obtain⟨e,b,c,rfl,j,s,v⟩:=MA i;exact .inr (.inr (.inr (.inl ⟨e,b,c,by rw[q,show n=0 by omega],h e bB,j,h b bB,s,h c bB,v⟩)))
 .have m:loAt 12=0/\hiAt 12=0:=⟨rfl,rfl⟩;have q:t=[]:=by simpa [textB]using l
  obtain⟨e,b,rfl,j,s⟩:=AO (f:=isExprK) (g:=isBlockK) i;exact .inr (.inr (.inl ⟨12,e,b,.inr rfl,by rw[q,show n=0 by omega],h e bB,j,h b bB,s⟩))
 all_goals refine .inr (.inr (.inr (.inr ⟨_,t,n,r,bK,bK,rfl,?_⟩)))
 .have m:loAt 13=0/\hiAt 13=0:=⟨rfl,rfl⟩;exact .inl ⟨aE,l,aE,fQ i⟩
 .have m:loAt 14=0/\hiAt 14=0:=⟨rfl,rfl⟩;exact .inl ⟨aE,l,aE,fQ i⟩
 .have m:loAt 15=0/\hiAt 15=0:=⟨rfl,rfl⟩;obtain⟨e,rfl,j⟩:=oH (f:=isExprK) i;exact .inr (.inl ⟨aE,l,aE,e,rfl,h e bB,j⟩)
 .have m:loAt 16=0/\hiAt 16=0:=⟨rfl,rfl⟩;obtain⟨e,rfl,j⟩:=oH (f:=isLocalK) i;refine .inr (.inr (.inl ⟨aE,l,aE,?_⟩));have d:e.kind=33:=by simpa [isLocalK]using j
  rcases tW (h e bB) (by rw[d];rfl)with⟨g1,_⟩|⟨g1,g2⟩|g1|⟨g1,_⟩|⟨g1,_⟩|⟨k',a,b,g1,g2,g3,_⟩
  .omega
  .exact⟨e.text,by rw[<-g1],g2⟩
  .rw[g1]at d;cases d
  .rw[g1]at d;cases d
  .rw[g1]at d;cases d
  .rw[g3]at d;simp only[fJ]at d;omega
 .have m:loAt 17=0/\hiAt 17=0:=⟨rfl,rfl⟩;exact .inl ⟨aE,l,aE,fQ i⟩
 .have m:loAt 18=0/\hiAt 18=0:=⟨rfl,rfl⟩;exact .inl ⟨aE,l,aE,fQ i⟩
 .have m:loAt 19=2/\hiAt 19=6:=⟨rfl,rfl⟩;exact .inr (.inr (.inr (.inl ⟨rfl,l,aE,aE,fQ i⟩)))
 .have m:loAt 20=0/\hiAt 20=0:=⟨rfl,rfl⟩;exact .inr (.inr (.inr (.inr (.inl ⟨rfl,l,aE,fQ i⟩))))
 .have m:loAt 21=1/\hiAt 21=9:=⟨rfl,rfl⟩;exact .inr (.inr (.inr (.inr (.inr (.inl ⟨.inl ⟨rfl,aE⟩,by simpa [textB]using l,aE,fQ i⟩)))))
 .have m:loAt 22=0/\hiAt 22=0:=⟨rfl,rfl⟩;obtain⟨e,rfl,j⟩:=oH (f:=isExprK) i;exact .inr (.inl ⟨aE,l,aE,e,rfl,h e bB,j⟩)
 .have m:loAt 23=0/\hiAt 23=0:=⟨rfl,rfl⟩;obtain⟨e,rfl,j⟩:=oH (f:=isLocalK) i;refine .inr (.inr (.inl ⟨aE,l,aE,?_⟩));have d:e.kind=33:=by simpa [isLocalK]using j
  rcases tW (h e bB) (by rw[d];rfl)with⟨g1,_⟩|⟨g1,g2⟩|g1|⟨g1,_⟩|⟨g1,_⟩|⟨k',a,b,g1,g2,g3,_⟩
  .omega
  .exact⟨e.text,by rw[<-g1],g2⟩
  .rw[g1]at d;cases d
  .rw[g1]at d;cases d
  .rw[g1]at d;cases d
  .rw[g3]at d;simp only[fJ]at d;omega
 .have m:loAt 24=0/\hiAt 24=0:=⟨rfl,rfl⟩;obtain⟨e,rfl,j⟩:=oH (f:=isExprK) i;exact .inr (.inr (.inr (.inr (.inr (.inr ⟨rfl,by simpa [textB]using l,aE,e,rfl,h e bB,j⟩)))))
 .have m:loAt 25=1/\hiAt 25=99:=⟨rfl,rfl⟩;exact .inr (.inr (.inr (.inr (.inr (.inl ⟨.inr ⟨rfl,aE⟩,by simpa [textB]using l,aE,fQ i⟩)))))
theorem yF{k:Int}{t:bC}{n:Int}{m:List Nd}(h:Mz k t n m):(if k=19\/k=20 then wholeB t false=true else k=21\/k=25\/k=24\/wholeB t true=true)/\0<=n/\n<=999/\∀e∈m,rightN e=true/\isExprK e.kind=true:=by
 have l:∀{u:bC},wholeB u false=true->rightN (.mk 33 u 0 [])=true/\isExprK (Nd.mk 33 u 0 []).kind=true:=λo=>⟨right_mk.2 ⟨bK,bK,rfl,bK,bK,o,λ_ h=>by cases h⟩,rfl⟩;rcases h with⟨g,b,i,a⟩|⟨g,b,i,e,a,f,j⟩|⟨g,b,i,u,a,f⟩|⟨g,b,i,a,f⟩|⟨g,b,i,a⟩|⟨g,b,i,a⟩|⟨g,b,i,e,a,f,j⟩
 .refine⟨?_,aE,aE,λe c=>by rw[a]at c;cases c⟩;rw[if_neg aE];exact .inr (.inr (.inr b))
 .refine⟨?_,aE,aE,λy d=>by rw[a,A4]at d;rw[d];exact⟨f,j⟩⟩;rw[if_neg aE];exact .inr (.inr (.inr b))
 .refine⟨?_,aE,aE,λy d=>by rw[a,A4]at d;rw[d];exact l f⟩;rw[if_neg aE];exact .inr (.inr (.inr b))
 .refine⟨?_,aE,aE,λe c=>by rw[f]at c;cases c⟩;rw[if_pos aE];exact b
 .refine⟨?_,aE,aE,λe c=>by rw[a]at c;cases c⟩;rw[if_pos aE];exact b
 .refine⟨?_,aE,aE,λe c=>by rw[a]at c;cases c⟩;rw[if_neg aE];omega
 .refine⟨?_,aE,aE,λy d=>by rw[a,A4]at d;rw[d];exact⟨f,j⟩⟩;rw[if_neg aE];omega
def PB(x:Nd):Prop:=∃t n,x=.mk 7 t n []/\wholeB t true=true/\ -999<=n/\n<=999
theorem MB{x:Nd}(b:rightN x=true)(a:isItemK x.kind=true):PB x:=by
 obtain⟨k,t,n,f⟩:=x;have a:k=7:=of_decide_eq_true (show decide (k=7)=true from a);subst a;obtain⟨_,_,c,g,h,d,_⟩:=right_mk.1 b;have e:loAt 7= -999/\hiAt 7=999:=⟨rfl,rfl⟩;exact⟨t,n,by rw[fQ c],d,aE,aE⟩
def MC(x:Nd):Prop:=wholeB x.text true=true/\(((x.kind=5\/x.kind=6)/\∃b,x=.mk x.kind x.text 0 [b]/\jH b)\/(x.kind=1/\x=.mk 1 x.text 0 x.kids/\∀y∈x.kids,PB y)\/
 (x.kind=0/\x=.mk 0 x.text x.n []/\ -999<=x.n/\x.n<=999)\/(x.kind=2/\x=.mk 2 x.text x.n []/\0<=x.n/\x.n<=3)\/((x.kind=3\/x.kind=4)/\x=.mk x.kind x.text 0 []))
theorem BF{x:Nd}(l:rightN x=true)(h:0<=x.kind)(i:x.kind<=6):MC x:=by
 obtain⟨k,t,n,m⟩:=x;have h:0<=k:=h;have i:k<=6:=i;obtain⟨_,_,c,p,q,o,g⟩:=right_mk.1 l;have a:k=0\/k=1\/k=2\/k=3\/k=4\/k=5\/k=6:=aE;refine⟨by rcases a with rfl|rfl|rfl|rfl|rfl|rfl|rfl<;>exact o,?_⟩;rcases a with rfl|rfl|rfl|rfl|rfl|rfl|rfl
 .have d:loAt 0= -999/\hiAt 0=999:=⟨rfl,rfl⟩;exact .inr (.inr (.inl ⟨rfl,by rw[fQ c];rfl,by simp only[yA];omega,by simp only[yA];omega⟩))
 .have d:loAt 1=0/\hiAt 1=0:=⟨rfl,rfl⟩;exact .inr (.inl ⟨rfl,by rw[show n=0 by omega];rfl,λy j=>MB (g y j) (B5.1 (show(m.all λy=>isItemK y.kind)=true from c) y j)⟩)
 .have d:loAt 2=0/\hiAt 2=3:=⟨rfl,rfl⟩;exact .inr (.inr (.inr (.inl ⟨rfl,by rw[fQ c];rfl,by simp only[yA];omega,by simp only[yA];omega⟩)))
 .have d:loAt 3=0/\hiAt 3=0:=⟨rfl,rfl⟩;exact .inr (.inr (.inr (.inr ⟨.inl rfl,by rw[fQ c,show n=0 by omega];rfl⟩)))
 .have d:loAt 4=0/\hiAt 4=0:=⟨rfl,rfl⟩;exact .inr (.inr (.inr (.inr ⟨.inr rfl,by rw[fQ c,show n=0 by omega];rfl⟩)))
 .have d:loAt 5=0/\hiAt 5=0:=⟨rfl,rfl⟩;obtain⟨b,rfl,e⟩:=oH (f:=isBlockK) c;exact .inl ⟨.inl rfl,b,by rw[show n=0 by omega];rfl,gW (g b bB) e⟩
 .have d:loAt 6=0/\hiAt 6=0:=⟨rfl,rfl⟩;obtain⟨b,rfl,e⟩:=oH (f:=isBlockK) c;exact .inl ⟨.inr rfl,b,by rw[show n=0 by omega];rfl,gW (g b bB) e⟩
theorem aBI:prog.follows .mixedOrders=true:=by kernel_rfl
theorem aAX(a b:Nm):(decide (a.who=b.who)&&decide (a.seq=b.seq))=decide (a=b):=by
 cases a;cases b;simp[Bool.decide_and]
theorem aAY(a b:Df):(a.name==b.name&&a.text==b.text)=decide (a=b):=by
 cases a;cases b;simp[C3]
theorem iY{p:Prop}(h:p:=by kernel_rfl):p:=h
section
variable{P:Program} {T:TypeId->cX} {N:Nat} {w0:dF} {X:Nat->Prop} {Q:LX->eJ->dR->Prop} {env:eJ} {H:dR}
theorem MD(hT:fX P T)(hW:Cn T){id:Nat}{l:List Oper}(h:(fG P T N l (λ_=>none) env H).ok/\Q .normal (fG P T N l (λ_=>none) env H).env (fG P T N l (λ_=>none) env H).H):
 fF P N w0 X (.region id l.toArray false) Q env H:=AC hT hW (λ_=>none) (λ_=>⟨rfl,λ_ h=>h⟩) h
theorem fF.ro(hT:fX P T)(hW:Cn T){id:Nat}{l:List Oper}(a:Nat->Option jP)(h:(fG P T N l a env H).ok/\Q .normal (fG P T N l a env H).env (fG P T N l a env H).H)
 (b:∀d,tP (a d):=by intro d;first|exact BG ⟨rfl,λ_ h=>h⟩|exact⟨rfl,λ_ h=>h⟩|(split<;>exact⟨rfl,λ_ h=>h⟩)):fF P N w0 X (.region id l.toArray false) Q env H:=AC hT hW a b h
theorem ME(hT:fX P T)(hW:Cn T){id:Nat}{l:List Oper}{y:Code}(h:(fG P T N l (λ_=>none) env H).ok/\zP (fF P N w0 X y Q) Q .normal (fG P T N l (λ_=>none) env H).env (fG P T N l (λ_=>none) env H).H):
 fF P N w0 X (.seq (.region id l.toArray false) y) Q env H:=fF.seq (MD hT hW h)
theorem ZV(hT:fX P T)(hW:Cn T){id:Nat}{l:List Oper}{y:Code}(a:Nat->Option jP)(h:(fG P T N l a env H).ok/\zP (fF P N w0 X y Q) Q .normal (fG P T N l a env H).env (fG P T N l a env H).H)
 (b:∀d,tP (a d):=by intro d;first|exact BG ⟨rfl,λ_ h=>h⟩|exact⟨rfl,λ_ h=>h⟩|(split<;>exact⟨rfl,λ_ h=>h⟩)):fF P N w0 X (.seq (.region id l.toArray false) y) Q env H:=fF.seq (fF.ro hT hW a h b)
theorem aD{id:Nat}{l:List Oper}{y:Code}(h:(fG prog Eng.T N l (λ_=>none) env H).ok/\zP (fF prog N w0 X y Q) Q .normal (fG prog Eng.T N l (λ_=>none) env H).env (fG prog Eng.T N l (λ_=>none) env H).H):
 fF prog N w0 X (.seq (.region id l.toArray false) y) Q env H:=ME hT hW h
theorem aJ{id:Nat}{l:List Oper}(h:(fG prog Eng.T N l (λ_=>none) env H).ok/\Q .normal (fG prog Eng.T N l (λ_=>none) env H).env (fG prog Eng.T N l (λ_=>none) env H).H):
 fF prog N w0 X (.region id l.toArray false) Q env H:=MD hT hW h
theorem eP{id:Nat}{l:List Oper}{y z:Code}(h:(fG prog Eng.T N l (λ_=>none) env H).ok/\zP (fF prog N w0 X y (zP (fF prog N w0 X z Q) Q)) (zP (fF prog N w0 X z Q) Q) .normal (fG prog Eng.T N l (λ_=>none) env H).env (fG prog Eng.T N l (λ_=>none) env H).H):
 fF prog N w0 X (.seq (.seq (.region id l.toArray false) y) z) Q env H:=fF.seq (ME hT hW h)
theorem bE{id:Nat}{l:List Oper}{x y:Code}{c:Operand}(h:(fG prog Eng.T N l (λ_=>none) env H).ok/\Om (kI (fG prog Eng.T N l (λ_=>none) env H).env c) (fF prog N w0 X x Q (fG prog Eng.T N l (λ_=>none) env H).env (fG prog Eng.T N l (λ_=>none) env H).H) (fF prog N w0 X y Q (fG prog Eng.T N l (λ_=>none) env H).env (fG prog Eng.T N l (λ_=>none) env H).H)):
 fF prog N w0 X (.seq (.region id l.toArray false) (.cond c x y)) Q env H:=ME hT hW ⟨h.1,aM h.2⟩
abbrev bG{id:Nat}{l:List Oper}(orc:Nat->Option jP)(h:(fG prog Eng.T N l orc env H).ok/\Q .normal (fG prog Eng.T N l orc env H).env (fG prog Eng.T N l orc env H).H)
 (hdet:∀d,tP (orc d):=by intro d;first|exact BG ⟨rfl,λ_ h=>h⟩|exact⟨rfl,λ_ h=>h⟩|(split<;>exact⟨rfl,λ_ h=>h⟩)):fF prog N w0 X (.region id l.toArray false) Q env H:=fF.ro hT hW orc h hdet
abbrev dH{id:Nat}{l:List Oper}{y:Code}(orc:Nat->Option jP)(h:(fG prog Eng.T N l orc env H).ok/\zP (fF prog N w0 X y Q) Q .normal (fG prog Eng.T N l orc env H).env (fG prog Eng.T N l orc env H).H)
 (hdet:∀d,tP (orc d):=by intro d;first|exact BG ⟨rfl,λ_ h=>h⟩|exact⟨rfl,λ_ h=>h⟩|(split<;>exact⟨rfl,λ_ h=>h⟩)):fF prog N w0 X (.seq (.region id l.toArray false) y) Q env H:=ZV hT hW orc h hdet
end
section
variable{P:Program} {T:TypeId->cX} {N:Nat} {w0:dF} {X:Nat->Prop} {Q:LX->eJ->dR->Prop} {env env':eJ} {H H':dR}
theorem aA{d:List Nat}(f:w0.pins=d)(a:List Nat)(σ:List (Nat×Nat))(e:bA (a.map λt=>(t,ren σ 8 (env t)))=env':=by simp)(hH:aK (σ.map λp=>(p.2,cZ σ (H p.1)))=H':=by simp)
 (g:(σ.map (·.2)).Nodup:=by decide)(c:(σ.map (·.1)).Nodup:=by decide)(b:(d.all λid=>dN σ id==some id)=true:=by rfl):iH w0 env H env' H':=
 pK a σ g c (λid hid=>by rw[f]at hid;simpa using B5.1 b id hid) e hH
theorem bT{f:FuncId}{g:Func}{c:Code}{a:List DV}{r:RV}{b:Bool}{n t:Nat}(l:prog.funcs[f]? =some g)(k:g.body=some c)(m:g.ntmps=n)(i:g.results= #[.tmp t])
 (h:∀w0 X,w0.pins=[]->fF prog n w0 X c (XS t b r) (iA a) (aK []))(e:(g.name== "runtime.NumGoroutine")=false:=by kernel_rfl)(d:a.length<=n:=by simp)(j:∀o,r≠ .tup o:=by intro _ h;cases h):Ok prog f a ⟨r,b⟩:=Ok.ret l e k m d i j h
theorem Cx{f:FuncId}{g:Func}{c:Code}{a:List DV}{r:RV}{b:Bool}{n t:Nat}{k:TypeId}(m:prog.funcs[f]? =some g)(l:g.body=some c)(o:g.ntmps=n)(i:g.results= #[.cell t k])
 (h:∀w0 X,w0.pins=[]->fF prog n w0 X c (XT Eng.T t k b r) (iA a) (aK []))(e:(g.name== "runtime.NumGoroutine")=false:=by kernel_rfl)(d:a.length<=n:=by simp)(j:∀p,r≠ .tup p:=by intro _ h;cases h):Ok prog f a ⟨r,b⟩:=Ok.cell hT m e l o d i j h
theorem pD{f:FuncId}{g:Func}{c:Code}{a:List LV}{h e:List (Nat×bI)}{n:Nat}(k:prog.funcs[f]? =some g)(j:g.body=some c)(l:g.ntmps=n)(i:g.results= #[])
 (m:∀w0 X,w0.pins=h.map (·.1)->fF prog n w0 X c (Gk w0 e) (HM a) (aK h))(d:(g.name== "runtime.NumGoroutine")=false:=by kernel_rfl)(b:a.length<=n:=by simp):mE prog f a h e (.tup []):=Uq k d j l b i m
theorem nL{f:FuncId}{g:Func}{c:Code}{a:List LV}{h e:List (Nat×bI)}{j:LV}{n t:Nat}(l:prog.funcs[f]? =some g)(k:g.body=some c)(m:g.ntmps=n)(i:g.results= #[.tmp t])
 (o:∀w0 X,w0.pins=h.map (·.1)->fF prog n w0 X c (Ot w0 t e j) (HM a) (aK h))(d:(g.name== "runtime.NumGoroutine")=false:=by kernel_rfl)(b:a.length<=n:=by simp):mE prog f a h e j:=mE.one l d k m b i o
theorem lA{f:FuncId}{g:Func}{c:Code}{a:List LV}{h e:List (Nat×bI)}{j:LV}{n t:Nat}{k:TypeId}(m:prog.funcs[f]? =some g)(l:g.body=some c)(o:g.ntmps=n)(i:g.results= #[.cell t k])
 (p:∀w0 X,w0.pins=h.map (·.1)->fF prog n w0 X c (Pv w0 Eng.T t k e j) (HM a) (aK h))(d:(g.name== "runtime.NumGoroutine")=false:=by kernel_rfl)(b:a.length<=n:=by simp):mE prog f a h e j:=mE.cell hT m d l o b i p
abbrev aF{P:Program}{N:Nat}{w0:dF}{X:Nat->Prop}{Q:LX->eJ->dR->Prop}{env:eJ}{H:dR}{x y:Code}(h:fF P N w0 X x (zP (fF P N w0 X y Q) Q) env H):=fF.seq h
abbrev aH{P:Program}{N:Nat}{w0:dF}{X:Nat->Prop}{Q:LX->eJ->dR->Prop}{env:eJ}{H:dR}(h:Q .ret env H):fF P N w0 X .ret Q env H:=fF.ret h
abbrev aG{P:Program}{N:Nat}{w0:dF}{X:Nat->Prop}{Q:LX->eJ->dR->Prop}{env:eJ}{H:dR}(h:Q .normal env H):fF P N w0 X .skip Q env H:=fF.skip h
abbrev bP{P:Program}{N:Nat}{w0:dF}{X:Nat->Prop}{Q:LX->eJ->dR->Prop}{env:eJ}{H:dR}{id:Nat}(h:Q (.exit id) env H):fF P N w0 X (.exit id) Q env H:=fF.exit h
abbrev aW{P:Program}{N:Nat}{w0:dF}{X:Nat->Prop}{Q:LX->eJ->dR->Prop}{env:eJ}{H:dR}{id:Nat}{c:Code}(h:fF P N w0 X c (vM id Q) env H):fF P N w0 X (.block id c) Q env H:=fF.block h
abbrev eG{P:Program}{N:Nat}{w0:dF}{X:Nat->Prop}{Q:LX->eJ->dR->Prop}{env:eJ}{H:dR}{id:Nat}{x y:Code}(h:fF P N w0 X x (vM id (zP (fF P N w0 X y Q) Q)) env H):fF P N w0 X (.seq (.block id x) y) Q env H:=fF.seq (fF.block h)
abbrev fE{P:Program}{N:Nat}{w0:dF}{X:Nat->Prop}{Q:LX->eJ->dR->Prop}{env:eJ}{H:dR}{x y z:Code}(h:fF P N w0 X x (zP (fF P N w0 X y (zP (fF P N w0 X z Q) Q)) (zP (fF P N w0 X z Q) Q)) env H):fF P N w0 X (.seq (.seq x y) z) Q env H:=fF.seq (fF.seq h)
def og(n:Nat)(x:jP)(d:Nat):Option jP:=if d=n then some x else none
@[simp] theorem aBr{n:Nat}{x:jP}:og n x n=some x:=if_pos rfl
theorem BG{n d:Nat}{x:jP}(h:tP (some x)):tP (og n x d):=by
 unfold og;split
 .exact h
 .exact⟨rfl,λ_ h=>h⟩
@[simp] theorem aBQ{n d:Nat}{x:jP}(h:d≠n):og n x d=none:=if_neg h
abbrev oh(n:Nat)(A:List (Nat×bI))(B:LV):Nat->Option jP:=og n (.gen ⟨[(0,0)],[],[],A,B⟩)
def clG(l:List Oper):List (List Nat):=l.foldl (λacc o=>acc++[o.after.toList.foldl (λs e=>if Region.binds .any e then(if s.contains e.on then s else e.on::s)++((acc.getD e.on []).filter λi=> !(i==e.on||s.contains i))else s) []]) []
def clC(l:List Oper)(j:Nat):List Nat:=(clG l).getD j []
theorem fF.rd{id:Nat}{l:List Oper}(a e:List (List Nat))(b:Nat->Option jP)
 (h:(zA prog Eng.T N l b (lk a) (lk e) ⟨env,H,True⟩).ok/\Q .normal (zA prog Eng.T N l b (lk a) (lk e) ⟨env,H,True⟩).env (zA prog Eng.T N l b (lk a) (lk e) ⟨env,H,True⟩).H)
 (f:Ef l (clC l) (lk a) (lk e)=true:=by kernel_rfl)(c:∀d,tP (b d):=by intro d;first|exact BG ⟨rfl,λ_ h=>h⟩|exact⟨rfl,λ_ h=>h⟩|(split<;>exact⟨rfl,λ_ h=>h⟩)):fF prog N w0 X (.region id l.toArray true) Q env H:=
 Mg hT hW (by kernel_rfl) (clC l) (lk a) (lk e) f b c h
end
attribute[simp] fG fL iU cB kI pJ mH Co cP cD kH.plain kH.cond kH.fail zP vM iA pH fN qN memless HE nZ xQ Qr bok rF iL strip Gd kM Bt cU zA gK jG iV jF yZ lk cZ dN dD eN cT Dz gZ IN mZ qF cV oA fO lD iR Mi Mj Js Mk QS QT QU Ml Jt Mm Ju Mn QW QX Ra Rb Mo Re FS Dw mkAgg zN FR fY bU gI bI.live TK.isNone TK.agg TK.isBool TK.isStr TK.isStruct Op.operands Call.operands eY jA jQ iJ sN Dx Oe lE iT rZ bQ frozen rM TY TZ Oo QQ Ub Uc Ud Uh Oq QR Uj Uk Ul Un aAQ XU ZJ ZK ZM ZN ZP Uo TW QP Mh Nm.d Df.d Ed.d aBA fT qO aBB TX aAX aAY HP HQ aBC aBD aAS aBE aBF aAT aAU aAV ZT aBG aBH aAW fZ eU pY Zu pZ lF lH lG sP Tr TK.isInt Ua Ui ZL QZ xO lI sO At uZ xP nW Dy IM Cc uS aAP sM iG kJ sL lC pX lB uY lJ lK gN HM Rf HN Rg Rh cZ Uf Ug ZI Eh Ri Ur Rc Rd Mq gY xN TK.isPtr lL dC Us Jv Ou Ue Um ZO QV QY Mp
attribute[local simp] aR bJ bF aO aL aX aP
attribute[local simp] kH.cond Nd.d_eq nd_t nd_dr nd_td ndsD
structure BC where
 b:Bool
theorem Yb{a b:Nat}:(if a<b then(b:Int)else(a:Int))=((max a b:Nat):Int):=by split<;>omega
theorem nM{x:Nd}{i:Nat}(a:i<x.kids.length):weighN x.kids[i]<weighN x:=by
 have:=weigh_mem (A2 a);rw[weighN_eq x];omega
theorem nN(x:Nd):x.kids.length<weighN x:=by
 have:=weigh_len (l:=x.kids);rw[weighN_eq x];omega
theorem eS(n m:Int)(a: -9223372036854775808<=n)(c:n<=9223372036854775807)(b:m≠0):Ok prog 51 [aI n,aI m] ⟨.d (aI (bS n m)),true⟩:=by
 refine bT func51 rfl ntmps51 results51 λe X d=>?_;apply aD;simp;apply aF;apply bE;simp;refine⟨λa=>?_,λa=>?_⟩
 .apply aJ;simp;refine⟨aE,?_⟩;apply aD;simp;refine⟨b,?_⟩;apply aH;simp[bS,a]
 .apply aG;simp;apply aD;simp;refine⟨b,?_⟩;apply aH;have:¬n<0:=aE;simp[bS,this]
theorem JI(l:List Int)(i m:Int)(d:∀n∈l, -9223372036854775808<=n/\n<=9223372036854775807)(f:m≠0):Ok prog 107 [.sl (l.map aI),aI i,aI m] ⟨.d (aI (eA l i m)),true⟩:=by
 refine bT func107 rfl ntmps107 results107 λh X g=>?_;apply aD;simp;apply fE;refine fF.len (t:=0) rfl λb=>?_;simp at b;apply aJ;simp;apply aM;simp;refine⟨λc=>?_,λc e=>?_⟩
 .apply aD;simp;apply aH;simp[eA,c]
 .obtain⟨k,rfl⟩:=Int.eq_ofNat_of_zero_le c;have a:k<l.length:=aE;apply aG;simp;refine dH (og 20 (.plain ⟨.d (aI (bS l[k] m)),true⟩)) ?_;simp[e,a];refine⟨eS _ _ (d _ (A2 a)).1 (d _ (A2 a)).2 f,?_⟩;apply aH;simp[eA,a];omega
theorem MF(x:Nd)(j:weighN x<=1000000000)(f:∀y∈x.kids,weighN y<=1000000000->Ok prog 164 [y.d] ⟨.d (aI (depthN y)),true⟩):Ok prog 164 [x.d] ⟨.d (aI (depthN x)),true⟩:=by
 refine bT func164 rfl ntmps164 results164 λk X c=>?_;apply aD;simp;apply aD;simp;apply eP;simp;apply aW;refine aZ (ι:=Nat) (λi=>bA [(3,.d (aI (depthL (x.kids.take i)))),(7,.d (ndsD x.kids)),(8,.d (aI x.kids.length)),(9,.d (aI i))]) (λi=>aK []) (λi=>i<=x.kids.length) (λi=>x.kids.length-i) 0 (aA c [3,7,8,9] [] (by simp[depthL])) (A9 _) λi d=>?_;apply aD;simp;apply aF;apply aM;simp;refine⟨λb=>?_,λb=>?_⟩
 .apply aG;simp;apply eG;apply aF;have a:i<x.kids.length:=aE;apply aJ;simp[a];have e:=f _ (A2 a) (by have:=nM a;omega);refine bG (og 15 (.plain ⟨.d (aI (depthN x.kids[i])),true⟩)) ?_;simp;refine⟨by simpa using e,?_⟩;have:=nN x;apply aJ;simp;refine⟨aE,?_⟩;refine On.mk (i+1) (aA c [3,7,8,9] [] (by simp[depthL_succ a,Yb])) ?_ ?_
  .omega
  .omega
 .apply bP;simp;apply aF;have a:i=x.kids.length:=aE;subst a;rw[B6];have g:=depth_size x;have h:=size_weigh x;have b:=depthN_eq x;apply aJ;simp;refine⟨aE,?_⟩;apply aH;simp[b]
theorem UP(x:Nd)(a:weighN x<=1000000000):Ok prog 164 [x.d] ⟨.d (aI (depthN x)),true⟩:=by
 revert a;exact pC (p:=λx=>weighN x<=1000000000->Ok prog 164 [x.d] ⟨.d (aI (depthN x)),true⟩) (λk t n c b a=>MF _ a b) x
section
attribute[local simp] aR bJ bF aO aL aX aP
attribute[local simp] kH.cond Nd.d_eq nd_t nd_dr nd_td ndsD
def pE{α:Type}(p:α->Bool)(l:List α):Int:=match l.findIdx? p with|some i=>i|none=> -1
theorem yG{α:Type}{p:α->Bool}{l:List α}{i:Nat}(h:l.findIdx? p=some i):pE p l=i:=by simp[pE,h]
theorem yH{α:Type}{p:α->Bool}{l:List α}(h:l.findIdx? p=none):pE p l= -1:=by simp[pE,h]
theorem Cy{α:Type}{p:α->Bool}{l:List α}:decide (0<=pE p l)=l.any p:=by
 unfold pE;split
 .rename_i i a;obtain⟨b,c,_⟩:=List.findIdx?_eq_some_iff_getElem.1 a;have:l.any p=true:=ZU b c;rw[this];simp
 .rename_i a;rw[List.findIdx?_eq_none_iff]at a;have:l.any p=false:=by rw[List.any_eq_false];intro x d;rw[a x d];simp
  rw[this];simp
theorem HU{α:Type}{p:α->Bool}{l:List α}:0<=pE p l↔l.any p=true:=by
 rw[<-Cy];simp
theorem sG(l:List bC)(n:bC):Ok prog 155 [qO l,.str n] ⟨.d (aI (pE (λx=>decide (n=x)) l)),true⟩:=by
 refine bT func155 rfl ntmps155 results155 λf X e=>?_;refine fF.len (t:=0) rfl λc=>?_;simp at c;apply aD;simp;apply eP;simp;apply aW;refine aZ (ι:=Nat) (λi=>bA [(0,.d (qO l)),(1,.d (.str n)),(7,.d (aI l.length)),(8,.d (aI i))]) (λi=>aK []) (λi=>i<=l.length/\Ya (λx=>decide (n=x)) l i) (λi=>l.length-i) 0 (aA e [0,1,7,8] []) (⟨A9 _,Ya.zero⟩) λi a=>?_;apply aD;simp;apply aF;apply aM;simp;refine⟨λb=>?_,λb=>?_⟩
 .apply aG;simp;apply eG;apply aD;simp;apply aD;simp[b];apply aM;simp;refine⟨λd=>?_,λd=>?_⟩
  .apply aD;simp;apply aH;simp[yG (a.2.found b (by simpa using d))]
  .apply aG;simp;apply aJ;simp;refine⟨aE,?_⟩;refine On.mk (i+1) (aA e [0,1,7,8] []) ?_ ?_
   .exact⟨b,a.2.succ b (by simpa using d)⟩
   .omega
 .apply bP;simp;apply aD;simp;apply aH;simp[yH (a.2.none aE)]
theorem JJ(l:List bC)(n:bC):Ok prog 121 [qO l,.str n] ⟨.d (.bool (decide (n∈l))),true⟩:=by
 refine bT func121 rfl ntmps121 results121 λb X a=>?_;apply aD;simp;refine dH (og 7 (.plain ⟨.d (aI (pE (λx=>decide (n=x)) l)),true⟩)) ?_;simp;refine⟨sG l n,?_⟩;apply aH;simp[HU]
theorem MG(l:List Nd)(p:Nd->Bool)(g:FuncId)(d:List DV)(h:∀x∈l,Ok prog g (x.d::d) ⟨.d (.bool (p x)),true⟩):Ok prog 259 [ndsD l,.fn g d] ⟨.d (aI (pE p l)),true⟩:=by
 refine bT func259 rfl ntmps259 results259 λj X f=>?_;refine fF.len (t:=0) rfl λc=>?_;simp at c;apply aD;simp;apply eP;simp;apply aW;refine aZ (ι:=Nat) (λi=>bA [(0,.d (ndsD l)),(1,.d (.fn g d)),(7,.d (aI l.length)),(8,.d (aI i))]) (λi=>aK []) (λi=>i<=l.length/\Ya p l i) (λi=>l.length-i) 0 (aA f [0,1,7,8] []) (⟨A9 _,Ya.zero⟩) λi a=>?_;apply aD;simp;apply aF;apply aM;simp;refine⟨λb=>?_,λb=>?_⟩
 .apply aG;simp;apply eG;apply aD;simp;refine dH (og 16 (.plain ⟨.d (.bool (p l[i])),true⟩)) ?_;simp[b];refine⟨by simpa using h l[i] (A2 b),?_⟩;apply aM;simp;refine⟨λe=>?_,λe=>?_⟩
  .apply aD;simp;apply aH;simp[yG (a.2.found b e)]
  .apply aG;simp;apply aJ;simp;refine⟨aE,?_⟩;refine On.mk (i+1) (aA f [0,1,7,8] []) ?_ ?_
   .exact⟨b,a.2.succ b e⟩
   .omega
 .apply bP;simp;apply aD;simp;apply aH;simp[yH (a.2.none aE)]
theorem JK(l:List Nd)(p:Nd->Bool)(g:FuncId)(a:List DV)(b:∀x∈l,Ok prog g (x.d::a) ⟨.d (.bool (p x)),true⟩):Ok prog 178 [ndsD l,.fn g a] ⟨.d (.bool (l.any p)),true⟩:=by
 refine bT func178 rfl ntmps178 results178 λd X c=>?_;apply aD;simp;refine dH (og 7 (.plain ⟨.d (aI (pE p l)),true⟩)) ?_;simp;refine⟨by simpa using MG l p g a b,?_⟩;apply aH;simp[<-Cy]
theorem Rp(k:Int):Ok prog 293 [aI k] ⟨.d (.bool (isStmtK k)),true⟩:=by
 refine bT func293 rfl ntmps293 results293 λb X a=>?_;apply aD;simp;apply aD;simp;apply aH;simp[isStmtK]
theorem Rq(k:Int):Ok prog 292 [aI k] ⟨.d (.bool (isItemK k)),true⟩:=by
 refine bT func292 rfl ntmps292 results292 λb X a=>?_;apply aD;simp;apply aD;simp;apply aH;simp[isItemK]
theorem qS(k:Int):Ok prog 295 [aI k] ⟨.d (.bool (isBlockK k)),true⟩:=by
 refine bT func295 rfl ntmps295 results295 λb X a=>?_;apply aD;simp;apply aD;simp;apply aH;simp[isBlockK]
theorem nO(k:Int):Ok prog 296 [aI k] ⟨.d (.bool (isExprK k)),true⟩:=by
 refine bT func296 rfl ntmps296 results296 λb X a=>?_;apply aD;simp;apply aD;simp;apply aH;simp[isExprK]
theorem MH(k:Int):Ok prog 297 [aI k] ⟨.d (.bool (isPlaceK k)),true⟩:=by
 refine bT func297 rfl ntmps297 results297 λb X a=>?_;apply aD;simp;apply aD;simp;apply aH;simp[isPlaceK]
theorem MI(k:Int):Ok prog 298 [aI k] ⟨.d (.bool (isLocalK k)),true⟩:=by
 refine bT func298 rfl ntmps298 results298 λb X a=>?_;apply aD;simp;apply aD;simp;apply aH;simp[isLocalK]
theorem Yc(x:Nd)(g:FuncId)(f:Int->Bool)(a:∀k,Ok prog g [aI k] ⟨.d (.bool (f k)),true⟩):Ok prog 326 [x.d,.ro [.fn g []]] ⟨.d (.bool (!f x.kind)),true⟩:=by
 refine bT func326 rfl ntmps326 results326 λc X b=>?_;apply aD;simp;refine dH (og 7 (.plain ⟨.d (.bool (f x.kind)),true⟩)) ?_;simp;refine⟨a _,?_⟩;apply aH;simp
theorem UQ(x:Nd)(g:FuncId)(f:Int->Bool)(a:∀k,Ok prog g [aI k] ⟨.d (.bool (f k)),true⟩):Ok prog 291 [x.d,.fn g []] ⟨.d (.bool (x.kids.all λy=>f y.kind)),true⟩:=by
 refine bT func291 rfl ntmps291 results291 λc X b=>?_;apply aD;simp;refine dH (og 8 (.plain ⟨.d (.bool (x.kids.any λy=> !f y.kind)),true⟩)) ?_;simp;refine⟨by simpa using JK x.kids (λy=> !f y.kind) _ _ λy _=>Yc y g f a,?_⟩;apply aH;simp[C1]
theorem Gv:∀{ks:List Nd} {fs:List (Int->Bool)},ks.length≠fs.length->kidsB ks fs=false
 |[],[],h=>absurd rfl h
 |[],_::_,_=>rfl
 |_::_,[],_=>rfl
 |x::r,f::l,h=>by rw[kidsB,Gv (ks:=r) (fs:=l) (by simpa using h),Bool.and_false]
theorem Eq:∀{ks:List Nd} {fs:List (Int->Bool)},ks.length=fs.length->(kidsB ks fs=true↔∀(i:Nat) (c:i<ks.length) (d:i<fs.length),fs[i] ks[i].kind=true)
 |[],[],_=>⟨λ_ i h=>by simp at h,λ_=>rfl⟩
 |[],_::_,h=>by simp at h
 |_::_,[],h=>by simp at h
 |x::r,f::l,h=>by
  rw[kidsB,A3,Eq (ks:=r) (fs:=l) (by simpa using h)];constructor
  .rintro⟨c,d⟩ i a b;cases i with
   |zero=>exact c
   |succ i=>exact d i (by simpa using a) (by simpa using b)
  .intro h;exact⟨h 0 bB bB,λi a b=>h (i+1) (by simpa using a) (by simpa using b)⟩
structure Yd(gs:List FuncId)(fs:List (Int->Bool)):Prop where
 len:gs.length=fs.length
 ok:∀(i:Nat) (h1:i<gs.length) (h2:i<fs.length) (k:Int),Ok prog gs[i] [aI k] ⟨.d (.bool (fs[i] k)),true⟩
def Rr(g:FuncId):DV:=.fn g []
theorem pN(x:Nd)(c:List FuncId)(b:List (Int->Bool))(l:Yd c b)(r:c.length<=100):Ok prog 294 [x.d,.sl (c.map Rr)] ⟨.d (.bool (kidsB x.kids b)),true⟩:=by
 refine bT func294 rfl ntmps294 results294 λv X n=>?_;have p:=l.len;apply aD;simp;apply aF;apply bE;simp;refine⟨λk=>?_,λk=>?_⟩
 .apply aD;simp;apply aH;simp;exact Gv aE
 .apply aG;simp;apply fE;have a:x.kids.length=b.length:=aE;have t:x.kids.length<=100:=aE;apply aJ;simp;apply aW;refine aZ (ι:=Nat) (λi=>bA [(1,.d (.sl (c.map Rr))),(14,.d (ndsD x.kids)),(15,.d (aI x.kids.length)),(16,.d (aI i))]) (λi=>aK []) (λi=>i<=x.kids.length/\∀(j:Nat) (k:j<x.kids.length) (u:j<b.length),j<i->b[j] x.kids[j].kind=true) (λi=>x.kids.length-i) 0 (aA n [1,14,15,16] []) (⟨A9 _,λj _ _ h=>absurd h (D2 _)⟩) λi d=>?_;apply aD;simp;apply aF;apply aM;simp;refine⟨λo=>?_,λo=>?_⟩
  .apply aG;simp;apply eG;apply aF;have m:i<x.kids.length:=aE;have e:i<b.length:=aE;have f:i<c.length:=aE;apply aJ;simp[m];apply aF;have s:=l.ok i f e x.kids[i].kind;refine fF.rd [] [[],[],[],[],[],[],[27]] (og 27 (.plain ⟨.d (.bool (b[i] x.kids[i].kind)),true⟩)) ?_;simp[f,Rr,eN];refine⟨s,?_⟩;apply aM;simp;refine⟨λg=>?_,λg=>?_⟩
   .apply aD;simp;apply aH;simp;rw[<-Bool.not_eq_true,Eq a];intro h;have:=h i m e;simp[g]at this
   .apply aG;simp;apply aJ;simp;refine⟨aE,?_⟩;refine On.mk (i+1) (aA n [1,14,15,16] []) ?_ ?_
    .refine⟨aE,λj q1 q2 q3=>?_⟩;rcases D5 j i with q|q
     .exact d.2 j q1 q2 q
     .have:j=i:=aE;subst this;simpa using g
    .omega
  .apply bP;simp;apply aD;simp;apply aH;simp;rw[Eq a];exact λj q1 q2=>d.2 j q1 q2 aE
theorem Yd.nil:Yd [] []:=⟨rfl,λi h=>by simp at h⟩
theorem Yd.cons{g:FuncId}{f:Int->Bool}{b:List FuncId}{a:List (Int->Bool)}(h:∀k,Ok prog g [aI k] ⟨.d (.bool (f k)),true⟩)(c:Yd b a):Yd (g::b) (f::a):=
 ⟨by simp[c.len],λi d e k=>by
   cases i with
   |zero=>exact h k
   |succ i=>exact c.ok i (by simpa using d) (by simpa using e) k⟩
theorem Rs(x:Nd):Ok prog 237 [x.d] ⟨.d (.bool (shapedB x)),true⟩:=by
 refine bT func237 rfl ntmps237 results237 λV X a=>?_;apply aD;simp;apply eP;simp;apply aW;apply bE;simp;refine⟨λQ=>?_,λQ=>?_⟩
 .apply aF;have I:=UQ x 292 isItemK λk=>Rq k;refine bG (og 8 (.plain ⟨.d (.bool (x.kids.all λy=>isItemK y.kind)),true⟩)) ?_;simp;refine⟨by simpa using I,?_⟩;apply aH;simp;unfold shapedB shapedK;repeat(first|rw[if_pos aE]|rw[if_neg aE])
  try simp[c]
 .apply bE;simp;refine⟨λS=>?_,λS=>?_⟩
  .apply aF;have J:=UQ x 293 isStmtK λk=>Rp k;refine bG (og 12 (.plain ⟨.d (.bool (x.kids.all λy=>isStmtK y.kind)),true⟩)) ?_;simp;refine⟨by simpa using J,?_⟩;apply aH;simp;unfold shapedB shapedK;repeat(first|rw[if_pos aE]|rw[if_neg aE])
   try simp[c]
  .refine bH (ι:=BC) (λ⟨b⟩=>bA [(1,.bx 1 0),(4,.d (aI x.kind)),(13,.d (.bool b))]) (λ⟨b⟩=>aK [(1,.box false [.d (aI x.kind),.d (.str x.text),.d (aI x.n),.d (ndsD x.kids)])]) (λ⟨b⟩=>b=true↔(x.kind=5\/x.kind=6)) ?_ λ⟨b⟩ u=>?_
   .apply bE;simp;refine⟨λO=>?_,λO=>?_⟩
    .apply aG;simp;refine XV.mk ⟨decide (x.kind=5)⟩ (aA a [1,4,13] [(1,1)]) ?_;simp[O]
    .apply aJ;simp;refine XV.mk ⟨decide (x.kind=6)⟩ (aA a [1,4,13] [(1,1)]) ?_;simp only[decide_eq_true_eq];omega
   .apply aM;simp;refine⟨λH=>?_,λH=>?_⟩
    .have U:=u.1 H;apply aF;have K:=pN x [295] [isBlockK] (Yd.cons (λk=>qS k) Yd.nil) bK;refine bG (og 18 (.plain ⟨.d (.bool (kidsB x.kids [isBlockK])),true⟩)) ?_;simp;refine⟨by simpa [Rr]using K,?_⟩;apply aH;simp;unfold shapedB shapedK;repeat(first|rw[if_pos aE]|rw[if_neg aE])
     try simp[c]
    .have U:¬(x.kind=5\/x.kind=6):=λq=>by simp[u.2 q]at H
     refine bH (ι:=BC) (λ⟨b⟩=>bA [(1,.bx 1 0),(4,.d (aI x.kind)),(19,.d (.bool b))]) (λ⟨b⟩=>aK [(1,.box false [.d (aI x.kind),.d (.str x.text),.d (aI x.n),.d (ndsD x.kids)])]) (λ⟨b⟩=>b=true↔(x.kind=9\/x.kind=15\/x.kind=22\/x.kind=24)) ?_ λ⟨b⟩ e=>?_
     .apply bE;simp;refine⟨λP=>?_,λP=>?_⟩
      .apply aG;simp;refine XV.mk ⟨decide (x.kind=9)⟩ (aA a [1,4,19] [(1,1)]) ?_;simp[P]
      .apply bE;simp;refine⟨λl=>?_,λl=>?_⟩
       .apply aG;simp;refine XV.mk ⟨decide (x.kind=15)⟩ (aA a [1,4,19] [(1,1)]) ?_;simp[l]
       .apply bE;simp;refine⟨λm=>?_,λm=>?_⟩
        .apply aG;simp;refine XV.mk ⟨decide (x.kind=22)⟩ (aA a [1,4,19] [(1,1)]) ?_;simp[m]
        .apply aJ;simp;refine XV.mk ⟨decide (x.kind=24)⟩ (aA a [1,4,19] [(1,1)]) ?_;simp only[decide_eq_true_eq];omega
     .apply aM;simp;refine⟨λh=>?_,λh=>?_⟩
      .have L:=e.1 h;apply aF;have v:=pN x [296] [isExprK] (Yd.cons (λk=>nO k) Yd.nil) bK;refine bG (og 26 (.plain ⟨.d (.bool (kidsB x.kids [isExprK])),true⟩)) ?_;simp;refine⟨by simpa [Rr]using v,?_⟩;apply aH;simp;unfold shapedB shapedK;repeat(first|rw[if_pos aE]|rw[if_neg aE])
       try simp[c]
      .have L:¬(x.kind=9\/x.kind=15\/x.kind=22\/x.kind=24):=λq=>by simp[e.2 q]at h
       apply bE;simp;refine⟨λE=>?_,λE=>?_⟩
       .apply aF;have w:=pN x [297,296] [isPlaceK,isExprK] (Yd.cons (λk=>MH k) (Yd.cons (λk=>nO k) Yd.nil)) bK;refine bG (og 31 (.plain ⟨.d (.bool (kidsB x.kids [isPlaceK,isExprK])),true⟩)) ?_;simp;refine⟨⟨bK,by simpa [Rr]using w⟩,?_⟩;apply aH;simp;unfold shapedB shapedK;repeat(first|rw[if_pos aE]|rw[if_neg aE])
        try simp[c]
       .apply bE;simp;refine⟨λF=>?_,λF=>?_⟩
        .apply aF;have d:=pN x [296,295] [isExprK,isBlockK] (Yd.cons (λk=>nO k) (Yd.cons (λk=>qS k) Yd.nil)) bK;have D:=pN x [296,295,295] [isExprK,isBlockK,isBlockK] (Yd.cons (λk=>nO k) (Yd.cons (λk=>qS k) (Yd.cons (λk=>qS k) Yd.nil))) bK;cases c:kidsB x.kids [isExprK,isBlockK]<;>rw[c]at d
         .refine bG (λ|36=>some<| .plain ⟨.d (.bool (decide (0=1))),true⟩|40=>some<| .plain ⟨.d (.bool (kidsB x.kids [isExprK,isBlockK,isBlockK])),true⟩|_=>none) ?_;simp;refine⟨⟨⟨⟨bK,by simpa [Rr]using d⟩,bK⟩,by simpa [Rr]using D⟩,?_⟩;apply aH;simp;unfold shapedB shapedK;repeat(first|rw[if_pos aE]|rw[if_neg aE])
          try simp[c]
         .refine bG (λ|36=>some<| .plain ⟨.d (.bool (decide (1=1))),true⟩|40=>some<| .plain ⟨.d (.bool (kidsB x.kids [isExprK,isBlockK,isBlockK])),true⟩|_=>none) ?_;simp;refine⟨⟨bK,by simpa [Rr]using d⟩,?_⟩;apply aH;simp;unfold shapedB shapedK;repeat(first|rw[if_pos aE]|rw[if_neg aE])
          try simp[c]
        .apply bE;simp;refine⟨λG=>?_,λG=>?_⟩
         .apply aF;have z:=pN x [296,295] [isExprK,isBlockK] (Yd.cons (λk=>nO k) (Yd.cons (λk=>qS k) Yd.nil)) bK;refine bG (og 46 (.plain ⟨.d (.bool (kidsB x.kids [isExprK,isBlockK])),true⟩)) ?_;simp;refine⟨⟨bK,by simpa [Rr]using z⟩,?_⟩;apply aH;simp;unfold shapedB shapedK;repeat(first|rw[if_pos aE]|rw[if_neg aE])
          try simp[c]
         .refine bH (ι:=BC) (λ⟨b⟩=>bA [(1,.bx 1 0),(4,.d (aI x.kind)),(47,.d (.bool b))]) (λ⟨b⟩=>aK [(1,.box false [.d (aI x.kind),.d (.str x.text),.d (aI x.n),.d (ndsD x.kids)])]) (λ⟨b⟩=>b=true↔(x.kind=16\/x.kind=23)) ?_ λ⟨b⟩ f=>?_
          .apply bE;simp;refine⟨λn=>?_,λn=>?_⟩
           .apply aG;simp;refine XV.mk ⟨decide (x.kind=16)⟩ (aA a [1,4,47] [(1,1)]) ?_;simp[n]
           .apply aJ;simp;refine XV.mk ⟨decide (x.kind=23)⟩ (aA a [1,4,47] [(1,1)]) ?_;simp only[decide_eq_true_eq];omega
          .apply aM;simp;refine⟨λi=>?_,λi=>?_⟩
           .have M:=f.1 i;apply aF;have A:=pN x [298] [isLocalK] (Yd.cons (λk=>MI k) Yd.nil) bK;refine bG (og 52 (.plain ⟨.d (.bool (kidsB x.kids [isLocalK])),true⟩)) ?_;simp;refine⟨by simpa [Rr]using A,?_⟩;apply aH;simp;unfold shapedB shapedK;repeat(first|rw[if_pos aE]|rw[if_neg aE])
            try simp[c]
           .have M:¬(x.kind=16\/x.kind=23):=λq=>by simp[f.2 q]at i
            refine bH (ι:=BC) (λ⟨b⟩=>bA [(1,.bx 1 0),(4,.d (aI x.kind)),(53,.d (.bool b))]) (λ⟨b⟩=>aK [(1,.box false [.d (aI x.kind),.d (.str x.text),.d (aI x.n),.d (ndsD x.kids)])]) (λ⟨b⟩=>b=true↔(x.kind=26\/x.kind=27\/x.kind=28\/x.kind=29\/x.kind=30\/x.kind=31)) ?_ λ⟨b⟩ g=>?_
            .apply bE;simp;refine⟨λo=>?_,λo=>?_⟩
             .apply aG;simp;refine XV.mk ⟨decide (x.kind=26)⟩ (aA a [1,4,53] [(1,1)]) ?_;simp[o]
             .apply bE;simp;refine⟨λp=>?_,λp=>?_⟩
              .apply aG;simp;refine XV.mk ⟨decide (x.kind=27)⟩ (aA a [1,4,53] [(1,1)]) ?_;simp[p]
              .apply bE;simp;refine⟨λr=>?_,λr=>?_⟩
               .apply aG;simp;refine XV.mk ⟨decide (x.kind=28)⟩ (aA a [1,4,53] [(1,1)]) ?_;simp[r]
               .apply bE;simp;refine⟨λs=>?_,λs=>?_⟩
                .apply aG;simp;refine XV.mk ⟨decide (x.kind=29)⟩ (aA a [1,4,53] [(1,1)]) ?_;simp[s]
                .apply bE;simp;refine⟨λt=>?_,λt=>?_⟩
                 .apply aG;simp;refine XV.mk ⟨decide (x.kind=30)⟩ (aA a [1,4,53] [(1,1)]) ?_;simp[t]
                 .apply aJ;simp;refine XV.mk ⟨decide (x.kind=31)⟩ (aA a [1,4,53] [(1,1)]) ?_;simp only[decide_eq_true_eq];omega
            .apply aM;simp;refine⟨λj=>?_,λj=>?_⟩
             .have N:=g.1 j;apply aF;have B:=pN x [296,296] [isExprK,isExprK] (Yd.cons (λk=>nO k) (Yd.cons (λk=>nO k) Yd.nil)) bK;refine bG (og 62 (.plain ⟨.d (.bool (kidsB x.kids [isExprK,isExprK])),true⟩)) ?_;simp;refine⟨⟨bK,by simpa [Rr]using B⟩,?_⟩;apply aH;simp;unfold shapedB shapedK;repeat(first|rw[if_pos aE]|rw[if_neg aE])
              try simp[c]
             .have N:¬(x.kind=26\/x.kind=27\/x.kind=28\/x.kind=29\/x.kind=30\/x.kind=31):=λq=>by simp[g.2 q]at j
              apply aG;simp;apply aF;have C:=pN x [] [] Yd.nil bK;refine bG (og 64 (.plain ⟨.d (.bool (kidsB x.kids [])),true⟩)) ?_;simp;refine⟨by simpa [Rr]using C,?_⟩;apply aH;simp;unfold shapedB shapedK;repeat(first|rw[if_pos aE]|rw[if_neg aE])
              try simp[c]
theorem BH:Cb.length=12:=rfl
theorem UR{k:Int}(a:26<=k)(b:k<=31):B4 2 (List.drop ((k-26).toNat*2) Cb)=[.str (signAt k),aI (levelAt k)]:=by
 have:k=26\/k=27\/k=28\/k=29\/k=30\/k=31:=aE;rcases this with rfl|rfl|rfl|rfl|rfl|rfl<;>rfl
theorem Ru{k:Int}(a:26<=k)(b:k<=31):Cb[(k-26).toNat*2+1]?.getD default=aI (levelAt k):=by
 have:k=26\/k=27\/k=28\/k=29\/k=30\/k=31:=aE;rcases this with rfl|rfl|rfl|rfl|rfl|rfl<;>rfl
theorem US(x:Nd):Ok prog 351 [x.d] ⟨.d (aI (lvlN x.kind)),true⟩:=by
 refine bT func351 rfl ntmps351 results351 λd X c=>?_;apply aD;simp;apply aF;apply bE;simp;refine⟨λa b=>?_,λg=>?_⟩
 .apply aF;have q1:=Ru a b;have q2:=BH;apply aJ;simp[q1];refine⟨⟨⟨aE,aE⟩,aE⟩,?_⟩;apply aH;simp[lvlN,a,b]
 .apply aG;simp;apply aD;simp;apply aH;simp;rw[lvlN,if_neg aE]
theorem PC(n:Nat):(decS n).length<=3:=by unfold decS;split<;>(try split)<;>simp
theorem cH(n:Int):(itoaS n).length<=4:=by
 have a:=PC n.natAbs;have b:=PC n.toNat;unfold itoaS;split
 .simp only[A1];omega
 .omega
theorem qA(c:Bool)(t:bC):(paren c t).length<=t.length+2:=by cases c<;>simp[paren]
theorem JL(k:Int)(h:26<=k/\k<=31):(signAt k).length<=2:=by
 have:k=26\/k=27\/k=28\/k=29\/k=30\/k=31:=aE;rcases this with rfl|rfl|rfl|rfl|rfl|rfl<;>decide
theorem dJ(x:Nd):rightN x=true->isExprK x.kind=true->(exprT x).length<=8*weighN x:=by
 refine pC (p:=λx=>rightN x=true->isExprK x.kind=true->(exprT x).length<=8*weighN x) (λk t n f g=>?_) x;intro o m;have q:weighN (.mk k t n f)=weighL f+t.length+1:=by rw[weighN]
 rcases tW o m with⟨_,_,_,e⟩|⟨c,_⟩|c|⟨c,_⟩|⟨c,d⟩|⟨y,a,b,c,d,h,e,i,j,l⟩
 .rw[e];have:=cH (Nd.mk k t n f).n;simp only[exprT,if_true,weighN];omega
 .rw[c];simp[exprT,weighN];omega
 .rw[c];simp[exprT,weighN,sKind];omega
 .rw[c];simp[exprT,weighN];omega
 .rw[c];simp[exprT,weighN];omega
 .injection h with i1 i2 i3 i4
  subst i1;subst i2;subst i3;subst i4;have v:=g a bB e i;have w:=g b bB j l;have r:=qA (decide (lvlN a.kind<(if levelAt k=1 then 2 else levelAt k))) (exprT a);have s:=qA (decide (lvlN b.kind<levelAt k+1)) (exprT b);have u:=JL k ⟨c,d⟩;rw[Gt c d,q];simp only[weighL,A0,A1,A7];omega
end
end Go.Eng
namespace Go.Proofs
open Go.Shelf
def Tryz.itoaLay_ren:Go.Shelf.Ren:=⟨λ|171=>167|243=>241|246=>301|283=>328|284=>329|285=>330|286=>331|129=>208|317=>352|318=>353|319=>354|320=>355|337=>366|338=>367|n=>n,λ|3=>3|9=>9|2=>2|4=>4|171=>313|0=>0|53=>93|37=>38|5=>5|173=>315|212=>329|51=>90|20=>20|213=>330|46=>166|232=>99|233=>92|n=>n,λ|17=>8|18=>9|19=>10|n=>n⟩
theorem Tryz.itoaLay:Go.Proofs.LaysM.n171 prog Tryz.itoaLay_ren:={
 mixed:=by kernel_rfl,
 f129:=func208.trans (congrArg some (by kernel_rfl)),
 f171:=func167.trans (congrArg some (by kernel_rfl)),
 f243:=func241.trans (congrArg some (by kernel_rfl)),
 f246:=func301.trans (congrArg some (by kernel_rfl)),
 f283:=func328.trans (congrArg some (by kernel_rfl)),
 f284:=func329.trans (congrArg some (by kernel_rfl)),
 f285:=func330.trans (congrArg some (by kernel_rfl)),
 f286:=func331.trans (congrArg some (by kernel_rfl)),
 f317:=func352.trans (congrArg some (by kernel_rfl)),
 f318:=func353.trans (congrArg some (by kernel_rfl)),
 f319:=func354.trans (congrArg some (by kernel_rfl)),
 f320:=func355.trans (congrArg some (by kernel_rfl)),
 f337:=func366.trans (congrArg some (by kernel_rfl)),
 f338:=func367.trans (congrArg some (by kernel_rfl)),
 t0:=underlying0,
 a0:=isAgg0,
 z0:=sizeOf0,
 v0:=zeroValue0,
 t2:=underlying2,
 a2:=isAgg2,
 z2:=sizeOf2,
 v2:=zeroValue2,
 t3:=underlying3,
 a3:=isAgg3,
 z3:=sizeOf3,
 v3:=zeroValue3,
 t4:=underlying4,
 a4:=isAgg4,
 z4:=sizeOf4,
 v4:=zeroValue4,
 t5:=underlying5,
 a5:=isAgg5,
 z5:=sizeOf5,
 v5:=zeroValue5,
 t9:=underlying9,
 a9:=isAgg9,
 z9:=sizeOf9,
 v9:=zeroValue9,
 t20:=underlying20,
 a20:=isAgg20,
 z20:=sizeOf20,
 v20:=zeroValue20,
 t37:=underlying38,
 a37:=isAgg38,
 z37:=sizeOf38,
 v37:=zeroValue38,
 t46:=underlying166,
 a46:=isAgg166,
 z46:=sizeOf166,
 v46:=zeroValue166,
 t51:=underlying90,
 a51:=isAgg90,
 z51:=sizeOf90,
 v51:=zeroValue90,
 t53:=underlying93,
 a53:=isAgg93,
 z53:=sizeOf93,
 v53:=zeroValue93,
 t171:=underlying313,
 a171:=isAgg313,
 z171:=sizeOf313,
 v171:=zeroValue313,
 t173:=underlying315,
 a173:=isAgg315,
 z173:=sizeOf315,
 v173:=zeroValue315,
 t212:=underlying329,
 a212:=isAgg329,
 z212:=sizeOf329,
 v212:=zeroValue329,
 t213:=underlying330,
 a213:=isAgg330,
 z213:=sizeOf330,
 t232:=underlying99,
 a232:=isAgg99,
 z232:=sizeOf99,
 v232:=zeroValue99,
 t233:=underlying92,
 a233:=isAgg92,
 z233:=sizeOf92,
 v233:=zeroValue92,
 g17:=by kernel_rfl,
 g18:=by kernel_rfl,
 g19:=by kernel_rfl,
 i0:=by kernel_rfl,
 i2:=by kernel_rfl,
 i3:=by kernel_rfl,
 i4:=by kernel_rfl,
 i5:=by kernel_rfl,
 i9:=by kernel_rfl,
 i20:=by kernel_rfl,
 i37:=by kernel_rfl,
 i46:=by kernel_rfl,
 i51:=by kernel_rfl,
 i53:=by kernel_rfl,
 i171:=by kernel_rfl,
 i173:=by kernel_rfl,
 i212:=by kernel_rfl,
 i232:=by kernel_rfl,
 i233:=by kernel_rfl,
 m17:=by kernel_rfl,
 m18:=by kernel_rfl,
 m19:=by kernel_rfl}
end Go.Proofs
namespace Go.Eng
theorem PD{n:Nat}(h:n<1000):Lib.decDigits n=decS n:=by
 unfold decS;by_cases a:n<10
 .rw[if_pos a,Lib.decDigits,dif_pos a]
 .rw[if_neg a,Lib.decDigits,dif_neg a];by_cases b:n<100
  .rw[if_pos b,Lib.decDigits,dif_pos aE];rfl
  .rw[if_neg b,Lib.decDigits,dif_neg aE,Lib.decDigits,dif_pos aE,Nat.div_div_eq_div_mul];rfl
theorem UT{n:Int}(a: -999<=n)(b:n<=999):Lib.itoa n=itoaS n:=by
 unfold Lib.itoa itoaS;split
 .rw[PD aE]
 .rw[PD aE]
theorem Rv:Od=Lib.pow10Tab.map λz=>DV.int .u64 z:=iY
theorem Ye{w:World}{X:Nat->Prop}(h:zM w X){a:String}(m:prog.globalNamed a=some 8):Lib.TabIs prog w a .u64 Lib.pow10Tab:=by
 obtain⟨g,d,t,n,j,e⟩:=h 8 Od rfl;unfold Lib.TabIs World.var?;rw[m];simp only[Option.bind_some,j,Option.some.injEq];rw[Rv]at g e;cases g with
 |ro _ _ _ us hb hul hu1 hlt hcell hp=>
  apply Array.ext_getElem?;intro i;by_cases c:i<d.size
  .have f:i<Lib.pow10Tab.length:=by rw[e,C2]at c;exact c
   have l:i<us.length:=(by rw[hul,C2];exact f);have b:=hcell i us[i] (B1 l);have k:=hp i (.int .u64 Lib.pow10Tab[i]) us[i] (by simp[f]) (B1 l);generalize us[i]=u at b k;cases k;rw[Nat.zero_add]at b;unfold World.cell? at b;simp[j]at b;rw[b];simp[f]
  .rw[Array.getElem?_eq_none aE];rw[e,C2]at c;rw[List.getElem?_toArray,List.getElem?_eq_none (by simpa using c)]
theorem AP(n:Int)(b: -999<=n)(c:n<=999):Ok prog 167 [aI n] ⟨.d (.str (itoaS n)),true⟩:=by
 refine⟨⟨_,func167,iY,rfl⟩,λw X i d a=>?_⟩
 match i,a.1 with
 |[v],_=>
  have h:=a.2 0 _ _ rfl rfl;cases h;refine(Go.Proofs.Any.strconv_Itoa Tryz.itoaLay n aE aE w (Ye d.2 iY)).mono ?_;rintro e l ⟨rfl,k,g,rfl⟩;refine⟨_,rfl,⟨rfl,rfl,rfl,?_,λj f=>Go.Sort.heap_grow_old (w.drewN k) g f,Nat.le_add_right _ _⟩,none,?_⟩
  .simp[Sort.grow]
  .rw[UT b c];exact .str _
section
attribute[local simp] aR bJ bF aO aL aX aP
attribute[local simp] kH.cond Nd.d_eq nd_t nd_dr nd_td ndsD
theorem UU{x:Nd}(h:x.kind=32):exprT x=itoaS x.n:=by cases x;simp only[fJ]at h;subst h;unfold exprT;simp
theorem UV{x:Nd}(h:x.kind=33):exprT x=36::x.text:=by cases x;simp only[fJ]at h;subst h;unfold exprT;simp
theorem UW{x:Nd}(h:x.kind=36):exprT x=sKind:=by cases x;simp only[fJ]at h;subst h;unfold exprT;simp
theorem UX{x:Nd}(h:x.kind=34\/x.kind=35):exprT x=x.text:=by cases x;simp only[fJ]at h;rcases h with rfl|rfl<;>(unfold exprT;simp)
theorem Er{x:Nd}(e:rightN x=true)(d:isExprK x.kind=true):(26<=x.kind/\x.kind<=36)/\(x.kind=32->exprT x=itoaS x.n/\0<=x.n/\x.n<=999)/\(x.kind=33->exprT x=36::x.text)/\(x.kind=36->exprT x=sKind)/\
 (x.kind=34\/x.kind=35->exprT x=x.text)/\(x.kind<=31->∃a b,x.kids=[a,b]/\rightN a=true/\isExprK a.kind=true/\rightN b=true/\isExprK b.kind=true/\
   exprT x=paren (decide (lvlN a.kind<(if levelAt x.kind=1 then 2 else levelAt x.kind))) (exprT a)++32::(signAt x.kind++32::paren (decide (lvlN b.kind<levelAt x.kind+1)) (exprT b))):=by
 refine⟨isExprK_iff.1 d,λh=>⟨UU h,?_⟩,UV,UW,UX,λh=>?_⟩
 .obtain⟨k,t,n,r⟩:=x;have h:k=32:=h;subst h;obtain⟨_,_,_,o,p,_⟩:=right_mk.1 e;exact⟨o,p⟩
 .rcases tW e d with⟨c,_⟩|⟨c,_⟩|c|⟨c,_⟩|⟨c,_⟩|⟨q,a,b,c,f,g,i,j,l,m⟩
  .omega
  .rw[c]at h;exact absurd h bB
  .rw[c]at h;exact absurd h bB
  .rw[c]at h;exact absurd h bB
  .rw[c]at h;exact absurd h bB
  .rw[g];exact⟨a,b,rfl,i,j,l,m,Gt c f⟩
theorem Gw(x:Nd)(a:Int)(c:Ok prog 300 [x.d] ⟨.d (.str (exprT x)),true⟩)(e:(exprT x).length<=10000000000):Ok prog 327 [x.d,aI a] ⟨.d (.str (paren (decide (lvlN x.kind<a)) (exprT x))),true⟩:=by
 refine bT func327 rfl ntmps327 results327 λg X f=>?_;apply aD;simp;apply fE;have d:=US x;refine bG (og 6 (.plain ⟨.d (aI (lvlN x.kind)),true⟩)) ?_;simp;refine⟨by simpa using d,?_⟩;apply aM;simp;refine⟨λb=>?_,λb=>?_⟩
 .refine dH (og 10 (.plain ⟨.d (.str (exprT x)),true⟩)) ?_;simp;refine⟨⟨⟨by simpa using c,aE⟩,aE⟩,?_⟩;apply aH;simp[paren,b]
 .apply aG;simp;refine dH (og 14 (.plain ⟨.d (.str (exprT x)),true⟩)) ?_;simp;refine⟨by simpa using c,?_⟩;apply aH;simp[paren];intro h;omega
theorem Rw(x:Nd)(L:rightN x=true)(J:isExprK x.kind=true)(P:weighN x<=1000000000)(z:∀y∈x.kids,rightN y=true->isExprK y.kind=true->weighN y<=1000000000->Ok prog 300 [y.d] ⟨.d (.str (exprT y)),true⟩):Ok prog 300 [x.d] ⟨.d (.str (exprT x)),true⟩:=by
 refine bT func300 rfl ntmps300 results300 λY X p=>?_;obtain⟨r,t,u,w,v,s⟩:=Er L J;have n:=weighN_eq x;apply aD;simp;apply eP;simp;apply aW;apply bE;simp;refine⟨λC=>?_,λC=>?_⟩
 .apply aF;obtain⟨q1,q2,q3⟩:=t C;have K:=AP x.n aE q3;refine bG (og 11 (.plain ⟨.d (.str (itoaS x.n)),true⟩)) ?_;simp;refine⟨K,?_⟩;apply aH;simp[q1]
 .apply bE;simp;refine⟨λD=>?_,λD=>?_⟩
  .apply aD;simp;refine⟨aE,?_⟩;apply aH;simp[u D]
  .apply bE;simp;refine⟨λE=>?_,λE=>?_⟩
   .apply aD;simp;apply aH;simp[w E,sKind]
   .refine bH (ι:=BC) (λ⟨b⟩=>bA [(1,.bx 1 0),(19,.d (.bool b))]) (λ⟨b⟩=>aK [(1,.box false [.d (aI x.kind),.d (.str x.text),.d (aI x.n),.d (ndsD x.kids)])]) (λ⟨b⟩=>b=true↔(x.kind=34\/x.kind=35)) ?_ λ⟨b⟩ d=>?_
    .apply bE;simp;refine⟨λF=>?_,λF=>?_⟩
     .apply aG;simp;refine XV.mk ⟨decide (x.kind=34)⟩ (aA p [1,19] [(1,1)]) ?_;simp[F]
     .apply aJ;simp;refine XV.mk ⟨decide (x.kind=35)⟩ (aA p [1,19] [(1,1)]) ?_;simp only[decide_eq_true_eq];omega
    .apply aM;simp;refine⟨λf=>?_,λf=>?_⟩
     .have o:=d.1 f;apply aD;simp;apply aH;simp[v o]
     .have o:¬(x.kind=34\/x.kind=35):=λq=>by simp[d.2 q]at f
      apply aG;simp;apply aF;have c:x.kind<=31:=aE;obtain⟨a,e,m,H,A,I,B,l⟩:=s c;have q1:=UR (k:=x.kind) r.1 c;have q2:=BH;obtain⟨j,h⟩:∃j:Int,j=if levelAt x.kind=1 then 2 else levelAt x.kind:=⟨_,rfl⟩;rw[<-h]at l;apply aJ;simp[q1];refine⟨⟨⟨aE,aE⟩,aE⟩,?_⟩;apply aD;simp;refine bH (ι:=Unit) (λi=>bA [(1,.bx 1 0),(3,.bx 3 0),(4,.d (aI j))]) (λi=>aK [(1,.box false [.d (aI x.kind),.d (.str x.text),.d (aI x.n),.d (ndsD x.kids)]),(3,.box false [.d (.str (signAt x.kind)),.d (aI (levelAt x.kind))])]) (λi=>True) ?_ λi G=>?_
      .apply bE;simp;refine⟨λg=>?_,λg=>?_⟩
       .apply aJ;simp;exact(aA p [1,3,4] [(1,1),(3,3)] (by simp[h,g]))
       .apply aG;simp;exact(aA p [1,3,4] [(1,1),(3,3)] (by simp[h,g]))
      .apply aF;rw[m]at n z;simp only[weighL]at n;have Q:=dJ a H A;have S:=dJ e I B;have U:=qA (decide (lvlN a.kind<j)) (exprT a);have V:=qA (decide (lvlN e.kind<levelAt x.kind+1)) (exprT e);have W:=JL x.kind ⟨r.1,c⟩;have M:=Gw a j (z a bB H A aE) aE;have N:=Gw e (levelAt x.kind+1) (z e bB I B aE) aE;have O:=(Ro r.1 c).2.1;refine fF.rd [[],[],[],[],[],[],[51],[38,51],[38,51],[51],[51],[38],[38],[38],[38],[38],[38],[38]] [[],[],[],[],[],[38],[],[],[],[],[],[],[],[],[],[],[],[],[51]] (λ|38=>some<| .plain ⟨.d (.str (paren (decide (lvlN a.kind<j)) (exprT a))),true⟩|51=>some<| .plain ⟨.d (.str (paren (decide (lvlN e.kind<levelAt x.kind+1)) (exprT e))),true⟩|_=>none) ?_;simp[m];refine⟨⟨⟨⟨⟨⟨⟨by simpa using M,aE⟩,aE⟩,aE⟩,aE⟩,by simpa using N⟩,aE⟩,?_⟩;apply aH;simp[l]
theorem AQ(x:Nd):rightN x=true->isExprK x.kind=true->weighN x<=1000000000->Ok prog 300 [x.d] ⟨.d (.str (exprT x)),true⟩:=
 pC (p:=λx=>rightN x=true->isExprK x.kind=true->weighN x<=1000000000->Ok prog 300 [x.d] ⟨.d (.str (exprT x)),true⟩) (λ_ _ _ _ d b a c=>Rw _ b a c d) x
theorem UY:uX=wordsL.map DV.str:=rfl
theorem nP:uX.length=26:=rfl
theorem yI{k:Int}(b:0<=k)(c:k<26):uX[k.toNat]?.getD default=.str (wordAt k):=by
 have a:k.toNat<wordsL.length:=by rw[words_len];omega
 rw[UY,List.getElem?_map,B1 a];simp[wordAt,B8,a]
theorem sW(k:Int):(wordAt k).length<=7:=by
 unfold wordAt;rw[B8];cases e:wordsL[k.toNat]? with
 |none=>simp
 |some w=>
  have:=List.mem_of_getElem? e;have h:∀w∈wordsL,w.length<=7:=bK;exact h w this
theorem sH:∀(a b:List Nd),stmtsT (a++b)=stmtsT a++stmtsT b
 |[],b=>by simp[stmtsT]
 |x::a,b=>by simp[stmtsT,sH a b]
theorem Cz{l:List Nd}{i:Nat}(a:i<l.length):stmtsT (l.take (i+1))=stmtsT (l.take i)++(stmtT l[i]++[32]):=by
 rw[<-B2 a,sH];simp[stmtsT]
theorem MJ{l:List Nd}{i:Nat}(a:i<l.length):withE (l.take (i+1))=withE (l.take i)++32::exprT l[i]:=by
 unfold withE;rw[<-B2 a,B0];simp
theorem yJ{l:List Nd}(h:∀e∈l,rightN e=true/\isExprK e.kind=true):(withE l).length<=9*weighL l:=by
 induction l with
 |nil=>simp[withE]
 |cons a r ih=>
  have c:=ih λy b=>h y (A8 _ b);have d:=dJ a (h a bB).1 (h a bB).2;have f:1<=weighN a:=by rw[weighN_eq];omega
  have e:withE (a::r)=32::exprT a++withE r:=by simp[withE]
  rw[e,weighL];simp only[A0,A1];omega
def Rx(t e:bC):bC:=36::t++32::61::32::(e++[59])
def Ry(p e:bC):bC:=p++32::61::32::(e++[59])
def PE(w e b:bC):bC:=w++32::(e++32::b)
def Gx(a c:bC):bC:=a++32::(sElse++32::c)
theorem Es{l:List Nd}(h:∀e∈l,rightN e=true/\isExprK e.kind=true)(i:Nat):(withE (l.take i)).length<=9*weighL l:=by
 have a:=yJ h;have b:withE (l.take i)++withE (l.drop i)=withE l:=by unfold withE;rw[<-B0,B3]
 rw[<-b,A0]at a;omega
theorem PF{x e:Nd}(h:x.kind=9)(a:x.kids=[e]):stmtT x=Rx x.text (exprT e):=by
 cases x;simp only[fJ,qP]at h a;subst a;subst h;simp[stmtT,Rx]
theorem JM{x p e:Nd}(h:x.kind=10)(a:x.kids=[p,e]):stmtT x=Ry (exprT p) (exprT e):=by
 cases x;simp only[fJ,qP]at h a;subst a;subst h;simp[stmtT,Ry]
theorem Gy{x e b:Nd}(h:x.kind=11\/x.kind=12)(a:x.kids=[e,b]):stmtT x=PE (wordAt x.kind) (exprT e) (blockT b):=by
 cases x;simp only[fJ,qP]at h a;subst a;rcases h with rfl|rfl<;>simp[stmtT,PE]
theorem Gz{x e b c:Nd}(h:x.kind=11\/x.kind=12)(a:x.kids=[e,b,c]):stmtT x=Gx (PE (wordAt x.kind) (exprT e) (blockT b)) (blockT c):=by
 cases x;simp only[fJ,qP]at h a;subst a;rcases h with rfl|rfl<;>simp[stmtT,PE,Gx]
theorem PG{x:Nd}(h:13<=x.kind):stmtT x=wordAt x.kind++midT x.kind x.text++withN x.n++withE x.kids++[59]:=by
 cases x;exact Gu _ _ _ h
theorem sX(x:Nd):blockT x=123::32::(stmtsT x.kids++[125]):=by cases x;unfold blockT;rfl
def Yf(x:Nd):Prop:=rightN x=true/\isExprK x.kind=true
theorem Et{x:Nd}(o:rightN x=true)(l:isStmtK x.kind=true):(9<=x.kind/\x.kind<=25)/\(x.kind=9->∃k:0<x.kids.length,Yf x.kids[0]/\stmtT x=Rx x.text (exprT x.kids[0]))/\
 (x.kind=10->∃(k:0<x.kids.length) (a:1<x.kids.length),Yf x.kids[0]/\Yf x.kids[1]/\stmtT x=Ry (exprT x.kids[0]) (exprT x.kids[1]))/\
 (x.kind=11\/x.kind=12->∃(k:0<x.kids.length) (a:1<x.kids.length),Yf x.kids[0]/\jH x.kids[1]/\((x.kids.length=2/\stmtT x=PE (wordAt x.kind) (exprT x.kids[0]) (blockT x.kids[1]))\/
   ∃d:2<x.kids.length,jH x.kids[2]/\stmtT x=Gx (PE (wordAt x.kind) (exprT x.kids[0]) (blockT x.kids[1])) (blockT x.kids[2])))/\
 (13<=x.kind->Mz x.kind x.text x.n x.kids):=by
 refine⟨isStmtK_iff.1 l,?_⟩;rcases Ep o l with⟨s,e,g,a,d,f⟩|⟨p,e,g,a,d,f,i⟩|⟨q,e,b,j,g,a,d,f,i⟩|⟨e,b,c,g,a,d,f,i,m,n⟩|⟨q,s,t,r,a,d,g,f⟩
 .subst g;exact⟨λ_=>⟨bB,⟨d,f⟩,PF rfl rfl⟩,λh=>by simp at h,λh=>by simp at h,λh=>by simp at h⟩
 .subst g;exact⟨λh=>by simp at h,λ_=>⟨bB,bB,⟨a,qR d⟩,⟨f,i⟩,JM rfl rfl⟩,λh=>by simp at h,λh=>by simp at h⟩
 .subst g;exact⟨λh=>by simp at h;omega,λh=>by simp at h;omega,λ_=>⟨bB,bB,⟨a,d⟩,gW f i,.inl ⟨rfl,Gy j rfl⟩⟩,λh=>by simp at h;omega⟩
 .subst g;exact⟨λh=>by simp at h,λh=>by simp at h,λ_=>⟨bB,bB,⟨a,d⟩,gW f i,.inr ⟨bB,gW m n,Gz (.inl rfl) rfl⟩⟩,λh=>by simp at h⟩
 .subst g;exact⟨λh=>by simp at h;omega,λh=>by simp at h;omega,λh=>by simp at h;omega,λ_=>f⟩
theorem HV(k:Int)(t:bC):(midT k t).length<=t.length+2:=by
 unfold midT;split
 .simp
 .split<;>simp
theorem BI(n:Int):(withN n).length<=5:=by
 have:=cH n;unfold withN;split
 .simp only[A1];omega
 .simp
theorem uP{l:List Nd}(h:∀y∈l,(stmtT y).length+1<=40*weighN y)(i:Nat):(stmtsT (l.take i)).length<=40*weighL l:=by
 have c:∀l:List Nd,(∀y∈l,(stmtT y).length+1<=40*weighN y)->(stmtsT l).length<=40*weighL l:=λl=>by
  induction l with
  |nil=>intro _;simp[stmtsT]
  |cons a r ih=>
   intro h;have d:=ih λy e=>h y (A8 _ e);have b:=h a bB;have f:1<=weighN a:=by rw[weighN_eq];omega
   simp only[stmtsT,weighL,A0,A1];omega
 have d:=c l h;have b:=sH (l.take i) (l.drop i);rw[B3]at b;rw[b,A0]at d;omega
theorem eT(x:Nd):(rightN x=true->isStmtK x.kind=true->(stmtT x).length+1<=40*weighN x)/\(jH x->(blockT x).length<=40*weighN x):=by
 refine pC (p:=λx=>(rightN x=true->isStmtK x.kind=true->(stmtT x).length+1<=40*weighN x)/\(jH x->(blockT x).length<=40*weighN x)) (λk t n w m=>⟨?_,?_⟩) x
 .intro D C;have q:weighN (.mk k t n w)=weighL w+t.length+1:=by rw[weighN]
  have E:=sW k;rcases Ep D C with⟨G,e,d,g,i,f⟩|⟨p,e,d,g,i,f,o⟩|⟨F,e,b,u,d,g,i,f,o⟩|⟨e,b,c,d,g,i,f,o,A,B⟩|⟨F,G,H,z,g,i,d,f⟩
  .injection d with i1 i2 i3 i4
   subst i1;subst i2;subst i4;have:=dJ e i f;rw[PF rfl rfl,q];simp only[Rx,weighL,A0,A1,A7,Mx];omega
  .injection d with i1 i2 i3 i4
   subst i1;subst i4;have:=dJ e f o;have:=dJ p g (qR i);rw[JM rfl rfl,q];simp only[Ry,weighL,A0,A1,A7];omega
  .injection d with i1 i2 i3 i4
   subst i1;subst i4;have:=dJ e g i;have:=(m b bB).2 (gW f o);rw[Gy (x:=.mk k t n [e,b]) u rfl,q];simp only[PE,weighL,A0,A1,fJ];omega
  .injection d with i1 i2 i3 i4
   subst i1;subst i4;have:=dJ e g i;have:=(m b bB).2 (gW f o);have:=(m c bB).2 (gW A B);rw[Gz (.inl rfl) rfl,q];simp only[PE,Gx,weighL,A0,A1,fJ,show sElse.length=4 from rfl];omega
  .injection d with i1 i2 i3 i4
   subst i1;subst i2;subst i3;subst i4;have:=yJ (yF f).2.2.2;have:=HV k t;have:=BI n;rw[Gu _ _ _ g,q];simp only[A0,A1,A7];omega
 .rintro⟨z,d,s⟩;injection d with i1 i2 i3 i4
  subst i4;have v:∀l:List Nd,(∀y∈l,(stmtT y).length+1<=40*weighN y)->(stmtsT l).length<=40*weighL l:=λl=>by
   induction l with
   |nil=>intro _;simp[stmtsT]
   |cons a r m=>
    intro h;have g:=m λy s=>h y (A8 _ s);have i:=h a bB;have f:1<=weighN a:=by rw[weighN_eq];omega
    simp only[stmtsT,weighL,A0,A1];omega
  have:=v w λy j=>(m y j).1 (s y j).1 (s y j).2;rw[sX,weighN];simp only[qP,A0,A1,A7];omega
theorem MK(x:Nd)(d:jH x)(p:weighN x<=1000000000)(o:∀y∈x.kids,Ok prog 240 [y.d] ⟨.d (.str (stmtT y)),true⟩):Ok prog 166 [x.d] ⟨.d (.str (blockT x)),true⟩:=by
 refine bT func166 rfl ntmps166 results166 λv X e=>?_;have b:=(eT x).2 d;have n:=nN x;have a:∀y∈x.kids,rightN y=true/\isStmtK y.kind=true:=by obtain⟨q,rfl,h⟩:=d;exact h
 apply aD;simp;apply aD;simp;apply eP;simp;apply aW;refine aZ (ι:=Nat) (λi=>bA [(3,.d (.str (123::32::stmtsT (x.kids.take i)))),(7,.d (ndsD x.kids)),(8,.d (aI x.kids.length)),(9,.d (aI i))]) (λi=>aK []) (λi=>i<=x.kids.length) (λi=>x.kids.length-i) 0 (aA e [3,7,8,9] [] (by simp[stmtsT])) (A9 _) λi k=>?_;apply aD;simp;apply aF;apply aM;simp;refine⟨λj=>?_,λj=>?_⟩
 .apply aG;simp;apply eG;apply aF;have c:i<x.kids.length:=aE;apply aJ;simp[c];have m:=o _ (A2 c);have f:=a _ (A2 c);have r:=(eT x.kids[i]).1 f.1 f.2;have s:=nM c;have t:=uP (l:=x.kids) (λy g=>(eT y).1 (a y g).1 (a y g).2) i;have u:=weighN_eq x;refine bG (og 15 (.plain ⟨.d (.str (stmtT x.kids[i])),true⟩)) ?_;simp;refine⟨⟨⟨by simpa using m,aE⟩,aE⟩,?_⟩;apply aJ;simp;refine⟨aE,?_⟩;refine On.mk (i+1) (aA e [3,7,8,9] [] (by simp[Cz c])) ?_ ?_
  .omega
  .omega
 .apply bP;simp;apply aF;have c:i=x.kids.length:=aE;subst c;rw[B6];rw[sX]at b;simp only[A0,A1]at b;apply aJ;simp;refine⟨aE,?_⟩;apply aH;simp[sX]
theorem Rz(x:Nd)(hr:rightN x=true)(Y:isStmtK x.kind=true)(hw:weighN x<=1000000000)(A:∀y∈x.kids,jH y->Ok prog 166 [y.d] ⟨.d (.str (blockT y)),true⟩):Ok prog 240 [x.d] ⟨.d (.str (stmtT x)),true⟩:=by
 refine bT func240 rfl ntmps240 results240 λN X c=>?_;obtain⟨f0,f9,F,G,H⟩:=Et hr Y;have a0:=weighN_eq x;have Z:=(eT x).1 hr Y;have wl:=sW x.kind;have q2:=nP;have a:∀(i:Nat) (f:i<x.kids.length),weighN x.kids[i]<weighN x:=λi f=>nM f;apply aD;simp;apply eP;simp;apply aW;apply bE;simp;refine⟨λJ=>?_,λJ=>?_⟩
 .apply aF;obtain⟨h,d,e⟩:=f9 J;have N:=a 0 h;have l0:=dJ _ d.1 d.2;have s:=AQ _ d.1 d.2 aE;refine fF.rd [[19],[19],[19],[19]] [[],[],[],[],[],[],[],[],[19]] (og 19 (.plain ⟨.d (.str (exprT x.kids[0])),true⟩)) ?_;simp[h];refine⟨⟨⟨⟨⟨aE,aE⟩,by simpa using s⟩,aE⟩,aE⟩,?_⟩;apply aH;simp[e,Rx]
 .apply bE;simp;refine⟨λQ=>?_,λQ=>?_⟩
  .apply aF;obtain⟨h,r,d,B,e⟩:=F Q;have N:=a 0 h;have w1:=a 1 r;have l0:=dJ _ d.1 d.2;have l1:=dJ _ B.1 B.2;have s:=AQ _ d.1 d.2 aE;have D:=AQ _ B.1 B.2 aE;refine fF.rd [[],[],[],[],[],[34],[28],[28],[28],[28]] [[],[],[],[],[28],[],[],[],[],[],[34]] (λ|28=>some<| .plain ⟨.d (.str (exprT x.kids[0])),true⟩|34=>some<| .plain ⟨.d (.str (exprT x.kids[1])),true⟩|_=>none) ?_;simp[h,r];refine⟨by(repeat' with_reducible apply And.intro)<;>first|omega|(simpa using s)|(simpa using D),?_⟩;apply aH;simp[e,Ry]
  .refine bH (ι:=BC) (λ⟨b⟩=>bA [(1,.bx 1 0),(37,.d (.bool b))]) (λ⟨b⟩=>aK [(1,.box false [.d (aI x.kind),.d (.str x.text),.d (aI x.n),.d (ndsD x.kids)])]) (λ⟨b⟩=>b=true↔(x.kind=11\/x.kind=12)) ?_ λ⟨b⟩ z=>?_
   .apply bE;simp;refine⟨λS=>?_,λS=>?_⟩
    .apply aG;simp;refine XV.mk ⟨decide (x.kind=11)⟩ (aA c [1,37] [(1,1)]) ?_;simp[S]
    .apply aJ;simp;refine XV.mk ⟨decide (x.kind=12)⟩ (aA c [1,37] [(1,1)]) ?_;simp only[decide_eq_true_eq];omega
   .apply aM;simp;refine⟨λL=>?_,λL=>?_⟩
    .have q8:=z.1 L;apply aF;obtain⟨h,r,d,O,e⟩:=G q8;have N:=a 0 h;have w1:=a 1 r;have l0:=dJ _ d.1 d.2;have l1:=(eT x.kids[1]).2 O;have s:=AQ _ d.1 d.2 aE;have D:=A _ (A2 r) O;have q1:=yI (k:=x.kind) aE aE;refine fF.rd [[49,56],[49,56],[49,56],[49,56],[49,56],[],[],[],[],[],[56],[56],[49],[49],[49],[49]] [[],[],[],[],[],[],[],[],[],[49],[],[],[],[],[],[],[56]] (λ|49=>some<| .plain ⟨.d (.str (exprT x.kids[0])),true⟩|56=>some<| .plain ⟨.d (.str (blockT x.kids[1])),true⟩|_=>none) ?_;simp[h,r,q1];refine⟨⟨⟨⟨⟨⟨⟨⟨⟨aE,aE⟩,aE⟩,by simpa using s⟩,aE⟩,aE⟩,aE⟩,by simpa using D⟩,aE⟩,?_⟩;apply aF;apply bE;simp;refine⟨λh9=>?_,λh9=>?_⟩
     .have o:2<x.kids.length:=aE;rcases e with⟨e,_⟩|⟨_,P,e⟩
      .omega
      have w2:=a 2 o;have l2:=(eT x.kids[2]).2 P;have c2:=A _ (A2 o) P;refine bG (og 67 (.plain ⟨.d (.str (blockT x.kids[2])),true⟩)) ?_;simp[o];refine⟨by(repeat' with_reducible apply And.intro)<;>first|omega|(simpa using c2),?_⟩;apply aD;simp;apply aH;simp[e,PE,Gx,sElse]
     .apply aG;simp;apply aD;simp;apply aH;rcases e with⟨_,e⟩|⟨J,_,_⟩
      .simp[e,PE]
      .omega
    .have q8:¬(x.kind=11\/x.kind=12):=λq=>by simp[z.2 q]at L
     apply aG;simp;apply aF;have M:=H aE;obtain⟨g1,g2,g3,I⟩:=yF M;have e:=PG (x:=x) aE;have ml:=HV x.kind x.text;have nl:=BI x.n;have kl:=yJ I;have q1:=yI (k:=x.kind) aE aE;apply aJ;simp[q1];refine⟨by(repeat' with_reducible apply And.intro)<;>omega,?_⟩;refine bH (ι:=Unit) (λi=>bA [(1,.bx 1 0),(4,.d (.str (wordAt x.kind++midT x.kind x.text)))]) (λi=>aK [(1,.box false [.d (aI x.kind),.d (.str x.text),.d (aI x.n),.d (ndsD x.kids)])]) (λi=>True) ?_ λi U=>?_
     .apply aD;simp;apply aW;refine bH (ι:=BC) (λ⟨b⟩=>bA [(1,.bx 1 0),(4,.d (.str (wordAt x.kind))),(76,.d (aI x.kind)),(82,.d (.bool b))]) (λ⟨b⟩=>aK [(1,.box false [.d (aI x.kind),.d (.str x.text),.d (aI x.n),.d (ndsD x.kids)])]) (λ⟨b⟩=>b=true↔(x.kind=19\/x.kind=20)) ?_ λ⟨b⟩ l=>?_
      .apply bE;simp;refine⟨λt=>?_,λt=>?_⟩
       .apply aG;simp;refine XV.mk ⟨decide (x.kind=19)⟩ (aA c [1,4,76,82] [(1,1)]) ?_;simp[t]
       .apply aJ;simp;refine XV.mk ⟨decide (x.kind=20)⟩ (aA c [1,4,76,82] [(1,1)]) ?_;simp only[decide_eq_true_eq];omega
      .apply aM;simp;refine⟨λn=>?_,λn=>?_⟩
       .have g:=l.1 n;apply aJ;simp;refine⟨by(repeat' with_reducible apply And.intro)<;>omega,?_⟩;exact(aA c [1,4] [(1,1)] (by simp[midT,g]))
       .have g:¬(x.kind=19\/x.kind=20):=λq=>by simp[l.2 q]at n
        refine bH (ι:=BC) (λ⟨b⟩=>bA [(1,.bx 1 0),(4,.d (.str (wordAt x.kind))),(76,.d (aI x.kind)),(90,.d (.bool b))]) (λ⟨b⟩=>aK [(1,.box false [.d (aI x.kind),.d (.str x.text),.d (aI x.n),.d (ndsD x.kids)])]) (λ⟨b⟩=>b=true↔(x.kind=21\/x.kind=25\/x.kind=24)) ?_ λ⟨b⟩ j=>?_
        .apply bE;simp;refine⟨λu=>?_,λu=>?_⟩
         .apply aG;simp;refine XV.mk ⟨decide (x.kind=21)⟩ (aA c [1,4,76,90] [(1,1)]) ?_;simp[u]
         .apply bE;simp;refine⟨λv=>?_,λv=>?_⟩
          .apply aG;simp;refine XV.mk ⟨decide (x.kind=25)⟩ (aA c [1,4,76,90] [(1,1)]) ?_;simp[v]
          .apply aJ;simp;refine XV.mk ⟨decide (x.kind=24)⟩ (aA c [1,4,76,90] [(1,1)]) ?_;simp only[decide_eq_true_eq];omega
        .apply aM;simp;refine⟨λm=>?_,λm=>?_⟩
         .have p:=j.1 m;apply aG;simp;exact(aA c [1,4] [(1,1)] (by simp[midT,g,p]))
         .have p:¬(x.kind=21\/x.kind=25\/x.kind=24):=λq=>by simp[j.2 q]at m
          apply aJ;simp;refine⟨by(repeat' with_reducible apply And.intro)<;>omega,?_⟩;exact(aA c [1,4] [(1,1)] (by simp[midT,g,p]))
     .refine bH (ι:=Unit) (λi=>bA [(1,.bx 1 0),(4,.d (.str (wordAt x.kind++(midT x.kind x.text++withN x.n))))]) (λi=>aK [(1,.box false [.d (aI x.kind),.d (.str x.text),.d (aI x.n),.d (ndsD x.kids)])]) (λi=>True) ?_ λi V=>?_
      .apply bE;simp;refine⟨λw=>?_,λw=>?_⟩
       .have E:=AP x.n aE g3;have hn:withN x.n=32::itoaS x.n:=by unfold withN;rw[if_pos w]
        have il:=cH x.n;refine bG (og 100 (.plain ⟨.d (.str (itoaS x.n)),true⟩)) ?_;simp;refine⟨by(repeat' with_reducible apply And.intro)<;>first|omega|(simpa using E)|(simp only[A0];omega),?_⟩;exact(aA c [1,4] [(1,1)] (by simp[hn]))
       .apply aG;simp;exact(aA c [1,4] [(1,1)] (by simp[withN,show¬0<x.n by omega]))
      .apply eP;simp;apply aW;refine aZ (ι:=Nat) (λi=>bA [(4,.d (.str (wordAt x.kind++(midT x.kind x.text++(withN x.n++withE (x.kids.take i)))))),(104,.d (ndsD x.kids)),(105,.d (aI x.kids.length)),(106,.d (aI i))]) (λi=>aK []) (λi=>i<=x.kids.length) (λi=>x.kids.length-i) 0 (aA c [4,104,105,106] [] (by simp[withE])) (A9 _) λi W=>?_;apply aD;simp;apply aF;apply aM;simp;refine⟨λK=>?_,λK=>?_⟩
       .apply aG;simp;apply eG;apply aF;have f:i<x.kids.length:=aE;apply aJ;simp[f];have C:=I _ (A2 f);have wi:=a i f;have li:=dJ _ C.1 C.2;have E:=AQ _ C.1 C.2 aE;have lt:=Es I i;refine bG (og 112 (.plain ⟨.d (.str (exprT x.kids[i])),true⟩)) ?_;simp;refine⟨by(repeat' with_reducible apply And.intro)<;>first|omega|(simpa using E)|(simp only[A0];omega),?_⟩;have:=nN x;apply aJ;simp;refine⟨aE,?_⟩;refine On.mk (i+1) (aA c [4,104,105,106] [] (by simp[MJ f])) ?_ ?_
        .omega
        .omega
       .apply bP;simp;apply aF;have f:i=x.kids.length:=aE;subst f;rw[B6];apply aJ;simp;refine⟨by first|omega|(simp only[A0];omega),?_⟩;apply aH;simp[e]
theorem aAZ(x:Nd):(rightN x=true->isStmtK x.kind=true->weighN x<=1000000000->Ok prog 240 [x.d] ⟨.d (.str (stmtT x)),true⟩)/\(jH x->weighN x<=1000000000->Ok prog 166 [x.d] ⟨.d (.str (blockT x)),true⟩):=by
 refine pC (p:=λx=>(rightN x=true->isStmtK x.kind=true->weighN x<=1000000000->Ok prog 240 [x.d] ⟨.d (.str (stmtT x)),true⟩)/\(jH x->weighN x<=1000000000->Ok prog 166 [x.d] ⟨.d (.str (blockT x)),true⟩)) (λk t n g f=>⟨?_,?_⟩) x
 .intro i h d;have c:∀y∈g,weighN y<=1000000000:=λy a=>by have:=weigh_mem a;rw[weighN]at d;omega
  exact Rz _ i h d λy a e=>(f y a).2 e (c y a)
 .intro e d;have c:∀y∈g,weighN y<=1000000000:=λy a=>by have:=weigh_mem a;rw[weighN]at d;omega
  obtain⟨l,j,a⟩:=id e;injection j with i1 i2 i3 i4
  exact MK _ e d λy b=>(f y b).1 (a y (i4▸b)).1 (a y (i4▸b)).2 (c y b)
theorem RA{x:Nd}:(itemT x).length<=9*weighN x:=by
 have:=cH x.n;rw[weighN_eq];simp only[itemT,A0,A1,A7];omega
theorem qT:∀l:List Nd,(l.flatMap itemT).length<=9*weighL l
 |[]=>bB
 |a::r=>by
  have b:=qT r;have c:=RA (x:=a);simp only[List.flatMap_cons,weighL,A0];omega
theorem Eu{l:List Nd}{i:Nat}(a:i<l.length):(l.take (i+1)).flatMap itemT=(l.take i).flatMap itemT++itemT l[i]:=by
 rw[<-B2 a,B0];simp
theorem wE{l:List Nd}(i:Nat):((l.take i).flatMap itemT).length<=9*weighL l:=by
 have a:=qT l;have b:(l.take i).flatMap itemT++(l.drop i).flatMap itemT=l.flatMap itemT:=by rw[<-B0,B3]
 rw[<-b,A0]at a;omega
def kR(l:List Nd):bC:=l.flatMap itemT
theorem PH(x:Nd)(f:MC x)(S:weighN x<=1000000000):Ok prog 88 [x.d] ⟨.d (.str (textT x)),true⟩:=by
 refine bT func88 rfl ntmps88 results88 λY X s=>?_;obtain⟨Q,f⟩:=f;have r:=weighN_eq x;have Z:=sW x.kind;have q2:=nP;have M:0<=x.kind/\x.kind<=6:=by rcases f with⟨h|h,_⟩|⟨h,_⟩|⟨h,_⟩|⟨h,_⟩|⟨h|h,_⟩<;>omega
 have q1:=yI (k:=x.kind) aE aE;have U:=cH x.n;apply aD;simp;apply aF;refine fF.rd [] [] (λ_=>none) ?_;simp[q1];refine⟨by(repeat' with_reducible apply And.intro)<;>omega,?_⟩;apply eP;simp;apply aW;refine bH (ι:=BC) (λ⟨b⟩=>bA [(1,.bx 1 0),(3,.d (.str (wordAt x.kind++32::x.text))),(15,.d (aI x.kind)),(16,.d (.bool b))]) (λ⟨b⟩=>aK [(1,.box false [.d (aI x.kind),.d (.str x.text),.d (aI x.n),.d (ndsD x.kids)])]) (λ⟨b⟩=>b=true↔(x.kind=5\/x.kind=6)) ?_ λ⟨b⟩ p=>?_
 .apply bE;simp;refine⟨λz=>?_,λz=>?_⟩
  .apply aG;simp;refine XV.mk ⟨decide (x.kind=5)⟩ (aA s [1,3,15,16] [(1,1)]) ?_;simp[z]
  .apply aJ;simp;refine XV.mk ⟨decide (x.kind=6)⟩ (aA s [1,3,15,16] [(1,1)]) ?_;simp only[decide_eq_true_eq];omega
 .apply aM;simp;refine⟨λt=>?_,λt=>?_⟩
  .have m:=p.1 t;apply aF;have u:∃b,x=.mk x.kind x.text 0 [b]/\jH b:=by
    rcases f with⟨_,h⟩|⟨h,_⟩|⟨h,_⟩|⟨h,_⟩|⟨h|h,_⟩<;>first|exact h|omega
   obtain⟨c,E,A⟩:=u;have g:x.kids=[c]:=by rw[E];rfl
   rw[g]at r;simp only[weighL]at r;have K:=(eT c).2 A;have G:=(aAZ c).2 A aE;refine bG (og 25 (.plain ⟨.d (.str (blockT c)),true⟩)) ?_;simp[g];refine⟨⟨⟨aE,by simpa using G⟩,aE⟩,?_⟩;apply aH;simp[textT,m,g]
  .have m:¬(x.kind=5\/x.kind=6):=λq=>by simp[p.2 q]at t
   apply bE;simp;refine⟨λo=>?_,λo=>?_⟩
   .apply aF;have v:∀y∈x.kids,PB y:=by
     rcases f with⟨h|h,_⟩|⟨_,_,h⟩|⟨h,_⟩|⟨h,_⟩|⟨h|h,_⟩<;>first|exact h|omega
    apply aJ;simp;refine⟨aE,?_⟩;apply eP;simp;apply aW;refine aZ (ι:=Nat) (λi=>bA [(3,.d (.str (wordAt x.kind++32::(x.text++32::123::32::kR (x.kids.take i))))),(32,.d (ndsD x.kids)),(33,.d (aI x.kids.length)),(34,.d (aI i))]) (λi=>aK []) (λi=>i<=x.kids.length) (λi=>x.kids.length-i) 0 (aA s [3,32,33,34] [] (by simp[kR])) (A9 _) λi D=>?_;apply aD;simp;apply aF;apply aM;simp;refine⟨λC=>?_,λC=>?_⟩
    .apply aG;simp;apply eG;apply aF;have j:i<x.kids.length:=aE;apply aJ;simp[j];obtain⟨W,I,F,N,O,P⟩:=v _ (A2 j);have L:x.kids[i].n=I:=by rw[F];rfl
     have n:=AP x.kids[i].n aE aE;have w:=wE (l:=x.kids) i;have V:=cH x.kids[i].n;have J:=nM j;rw[weighN_eq x.kids[i]]at J;have H:(kR (x.kids.take i)).length<=9*weighL x.kids:=w;refine fF.rd [[44],[44],[44],[44]] [[],[],[],[],[],[],[44]] (og 44 (.plain ⟨.d (.str (itoaS x.kids[i].n)),true⟩)) ?_;simp;refine⟨by(repeat' with_reducible apply And.intro)<;>first|omega|exact n|(simp only[A0,A1];omega),?_⟩;have:=nN x;apply aJ;simp;refine⟨aE,?_⟩;refine On.mk (i+1) (aA s [3,32,33,34] [] (by simp[kR,Eu j,itemT])) ?_ ?_
     .omega
     .omega
    .apply bP;simp;apply aF;have j:i=x.kids.length:=aE;subst j;rw[B6];have w:=qT x.kids;have H:(kR x.kids).length<=9*weighL x.kids:=w;apply aJ;simp;refine⟨aE,?_⟩;apply aH;simp[textT,m,o,kR]
   .apply bE;simp;refine⟨λa=>?_,λa=>?_⟩
    .have d: -999<=x.n/\x.n<=999:=by
      rcases f with⟨h|h,_⟩|⟨h,_⟩|⟨_,_,h⟩|⟨h,_⟩|⟨h|h,_⟩<;>omega
     have n:=AP x.n d.1 d.2;refine bG (og 56 (.plain ⟨.d (.str (itoaS x.n)),true⟩)) ?_;simp;refine⟨by(repeat' with_reducible apply And.intro)<;>first|omega|exact n,?_⟩;apply aD;simp;refine⟨aE,?_⟩;apply aH;simp[textT,m,o,a]
    .apply bE;simp;refine⟨λe=>?_,λe=>?_⟩
     .have B:0<=x.n/\x.n<=3:=by
       rcases f with⟨h|h,_⟩|⟨h,_⟩|⟨h,_⟩|⟨_,_,h⟩|⟨h|h,_⟩<;>omega
      have n:=AP x.n aE aE;refine bG (og 64 (.plain ⟨.d (.str (itoaS x.n)),true⟩)) ?_;simp;refine⟨by(repeat' with_reducible apply And.intro)<;>first|omega|exact n,?_⟩;apply aD;simp;refine⟨aE,?_⟩;apply aH;simp[textT,m,o,a,e]
     .apply aG;simp;apply aD;simp;refine⟨aE,?_⟩;apply aH;simp[textT,m,o,a,e]
end
section
attribute[local simp] aR bJ bF aO aL aX aP
attribute[local simp] kH.cond Nd.d_eq nd_t nd_dr nd_td ndsD aQ
theorem zX(c:UInt8):letterB c=(decide (97<=(c.toNat:Int))&&decide ((c.toNat:Int)<=122)):=by
 unfold letterB;congr 1<;>(rw[decide_eq_decide,C4];exact⟨λh=>by have:(97:UInt8).toNat=97:=rfl;have:(122:UInt8).toNat=122:=rfl;omega,λh=>by have:(97:UInt8).toNat=97:=rfl;have:(122:UInt8).toNat=122:=rfl;omega⟩)
theorem BJ(c:UInt8):digitB c=(decide (48<=(c.toNat:Int))&&decide ((c.toNat:Int)<=57)):=by
 unfold digitB;congr 1<;>(rw[decide_eq_decide,C4];exact⟨λh=>by have:(48:UInt8).toNat=48:=rfl;have:(57:UInt8).toNat=57:=rfl;omega,λh=>by have:(48:UInt8).toNat=48:=rfl;have:(57:UInt8).toNat=57:=rfl;omega⟩)
theorem yK(c:UInt8):Ok prog 228 [.int .u8 (c.toNat:Int)] ⟨.d (.bool (letterB c)),true⟩:=by
 refine bT func228 rfl ntmps228 results228 λb X a=>?_;apply aD;simp;apply aD;simp;apply aH;simp[zX]
theorem wF(c:UInt8):Ok prog 230 [.int .u8 (c.toNat:Int)] ⟨.d (.bool (digitB c)),true⟩:=by
 refine bT func230 rfl ntmps230 results230 λb X a=>?_;apply aD;simp;apply aD;simp;apply aH;simp[BJ]
theorem UZ(s:bC)(p:UInt8->Bool)(g:FuncId)(n:∀c:UInt8,Ok prog g [.int .u8 (c.toNat:Int)] ⟨.d (.bool (p c)),true⟩)(d:s.length<=9223372036854775807):Ok prog 231 [.str s,.fn g []] ⟨.d (aI (runP p s)),true⟩:=by
 refine bT func231 rfl ntmps231 results231 λr X e=>?_;apply aD;simp;apply aD;simp;apply eG;refine aZ (ι:=Nat) (λi=>bA [(0,.d (.str s)),(1,.d (.fn g [])),(5,.d (aI i))]) (λi=>aK []) (λi=>i<=s.length/\∀(j:Nat) (h:j<s.length),j<i->p s[j]=true) (λi=>s.length-i) 0 (aA e [0,1,5] []) (⟨A9 _,λj _ h=>absurd h (D2 _)⟩) λi a=>?_;apply fE;have m:=n (s.getD i 0);refine bG (og 15 (.plain ⟨.d (.bool (p (s.getD i 0))),true⟩)) ?_;simp[eN];refine⟨λ_=>by simpa using m,?_⟩;apply aM;simp;refine⟨λk l=>?_,λg=>?_⟩
 .apply aG;simp;apply aW;apply aJ;simp;refine⟨aE,?_⟩;refine On.mk (i+1) (aA e [0,1,5] []) ?_ ?_
  .refine⟨aE,λj b q=>?_⟩;rcases D5 j i with f|f
   .exact a.2 j b f
   .have:j=i:=aE;subst this;simpa [k]using l
  .omega
 .apply bP;simp;apply aD;simp;apply aH;simp;have o:=runP_eq (p:=p) (s:=s) a.1 (λj b=>a.2 j aE b) (λd=>by
   have:=g d;simpa [d]using this)
  omega
theorem Va(c:UInt8):Ok prog 281 [.int .u8 (c.toNat:Int)] ⟨.d (.bool (letterB c||digitB c)),true⟩:=by
 refine bT func281 rfl ntmps281 results281 λb X a=>?_;apply aD;simp;refine dH (λ|4=>some<| .plain ⟨.d (.bool (letterB c)),true⟩|7=>some<| .plain ⟨.d (.bool (digitB c)),true⟩|_=>none) ?_;simp;refine⟨⟨yK c,λ_=>wF c⟩,?_⟩;apply aH;simp
theorem BK(s:bC):wordN s=if s=[]\/letterB (s[0]?.getD 0)=false then 0 else if 16<runP (λc=>letterB c||digitB c) s then 0 else runP (λc=>letterB c||digitB c) s:=by
 cases s with
 |nil=>rfl
 |cons c r=>
  have e:((c::r)[0]?.getD 0)=c:=rfl;rw[e];unfold wordN;generalize runP (λc=>letterB c||digitB c) (c::r)=n;by_cases q:letterB c=true
  .simp only[q,if_true];by_cases h:n<=16
   .simp[h,show¬16<n by omega]
   .simp[h,show 16<n by omega]
  .simp[q]
theorem HW(s:bC)(e:s.length<=9223372036854775807):Ok prog 229 [.str s] ⟨.d (aI (wordN s)),true⟩:=by
 refine bT func229 rfl ntmps229 results229 λj X i=>?_;apply aD;simp;apply aF;refine dH (og 9 (.plain ⟨.d (.bool (letterB (s.getD 0 0))),true⟩)) ?_;simp;refine⟨⟨λh=>B7.2 h,λ_=>yK _⟩,?_⟩;apply aM;simp;refine⟨λg=>?_,λa b=>?_⟩
 .apply aD;simp;apply aH;simp;rw[BK,if_pos g];rfl
 .apply aG;simp;apply aF;have f:=UZ s (λc=>letterB c||digitB c) 281 (λc=>Va c) e;refine bG (og 13 (.plain ⟨.d (aI (runP (λc=>letterB c||digitB c) s)),true⟩)) ?_;simp;refine⟨by simpa using f,?_⟩;apply aF;apply bE;simp;refine⟨λd=>?_,λd=>?_⟩
  .apply aD;simp;apply aH;simp;rw[BK,if_neg,if_pos aE]
   .rfl
   intro q;rcases q with q|q
   .exact a (by simpa using q)
   .simp[q]at b
  .apply aG;simp;apply aD;simp;apply aH;simp;rw[BK,if_neg,if_neg aE];intro q;rcases q with q|q
   .exact a (by simpa using q)
   .simp[q]at b
theorem zY:B4 26 uX=wordsL.map DV.str:=rfl
theorem JN(s:bC):Ok prog 284 [.str s] ⟨.d (.bool (reservedB s)),true⟩:=by
 refine bT func284 rfl ntmps284 results284 λc X b=>?_;apply aD;simp;apply aF;have a:=JJ wordsL s;have q2:=nP;refine bG (og 12 (.plain ⟨.d (.bool (decide (s∈wordsL))),true⟩)) ?_;simp[zY];refine⟨⟨λ_ _=>aE,λ_ _=>a⟩,?_⟩;apply aH;simp;show _=(decide (s=[101,108,115,101])||decide (s=[107,105,110,100])||decide (s∈wordsL));simp only[C3]
theorem GA(s:bC):Ok prog 234 [.str s] ⟨.d (.bool (isNameB s)),true⟩:=by
 refine bT func234 rfl ntmps234 results234 λb X a=>?_;apply aD;simp;refine dH (λ|8=>some<| .plain ⟨.d (.bool (letterB (s.getD 0 0))),true⟩|12=>some<| .plain ⟨.d (.bool (reservedB s)),true⟩|_=>none) ?_;simp;refine⟨⟨⟨λh=>B7.2 h,λ_=>yK _⟩,λ_ _=>JN s⟩,?_⟩;apply aH;cases s<;>simp[isNameB]
theorem AR(s:bC)(b:Bool)(e:s.length<=9223372036854775807):Ok prog 299 [.str s,.bool b] ⟨.d (.bool (wholeB s b)),true⟩:=by
 refine bT func299 rfl ntmps299 results299 λg X f=>?_;apply aD;simp;refine dH (λ|9=>some<| .plain ⟨.d (aI (wordN s)),true⟩|19=>some<| .plain ⟨.d (.bool (isNameB s)),true⟩|_=>none) ?_;simp;refine⟨⟨⟨λ_=>HW s e,λ_ _ _=>GA s⟩,λa c d=>⟨⟨a,c⟩,d⟩⟩,?_⟩;apply aH;simp;rw[Bool.eq_iff_iff];simp[wholeB];intro _ _;omega
end
end Go.Eng
namespace Go.Proofs
open Go.Shelf
def Tryz.idxLay_ren:Go.Shelf.Ren:=⟨λ|217=>283|266=>317|n=>n,λ|9=>9|5=>5|3=>3|n=>n,λ|n=>n⟩
theorem Tryz.idxLay:Go.Proofs.Lays.n217 prog Tryz.idxLay_ren:={
 mixed:=by kernel_rfl,
 f217:=func283.trans (congrArg some (by kernel_rfl)),
 f266:=func317.trans (congrArg some (by kernel_rfl)),
 t3:=underlying3,
 a3:=isAgg3,
 z3:=sizeOf3,
 v3:=zeroValue3,
 t5:=underlying5,
 a5:=isAgg5,
 z5:=sizeOf5,
 v5:=zeroValue5,
 t9:=underlying9,
 a9:=isAgg9,
 z9:=sizeOf9,
 v9:=zeroValue9}
end Go.Proofs
namespace Go.Eng
section
attribute[local simp] aR bJ bF aO aL aX aP
attribute[local simp] kH.cond Nd.d_eq nd_t nd_dr nd_td ndsD aQ
def uT(c:UInt8)(s:bC):Int:=match cutAt c s with|some q=>q.1.length|none=> -1
theorem PI(c:UInt8):∀s:bC,Lib.indexByte s c=uT c s
 |[]=>rfl
 |d::r=>by
  have a:=PI c r;unfold Lib.indexByte uT cutAt;unfold uT at a;by_cases h:d=c
  .simp[h]
  .rw[if_neg h];rw[if_neg (by simpa using h)];rw[a];cases cutAt c r with
   |none=>simp
   |some q=>
    simp only[D1,A1];rw[if_neg bB];rfl
theorem BL{c:UInt8}{s:bC}{q:bC×bC}(h:cutAt c s=some q):s.take q.1.length=q.1/\s.drop (q.1.length+1)=q.2/\q.1.length+1+q.2.length=s.length:=by
 have e:=JH (a:=q.1) (b:=q.2) h;rw[e];refine⟨bB,?_,kD⟩;rw[show q.1.length+1=(q.1++[c]).length by simp,show q.1++c::q.2=(q.1++[c])++q.2 by simp,List.drop_left]
theorem AS(s:bC)(c:UInt8):Ok prog 283 [.str s,.int .u8 (c.toNat:Int)] ⟨.d (aI (uT c s)),true⟩:=by
 refine⟨⟨_,func283,iY,rfl⟩,λw X f g a=>?_⟩
 match f,a.1 with
 |[u,v],_=>
  have b:=a.2 0 _ _ rfl rfl;have d:=a.2 1 _ _ rfl rfl;cases b;cases d;refine(Go.Proofs.Any.stringslite_IndexByte Tryz.idxLay ⟨s.toArray⟩ (c.toNat:Int) w).mono ?_;rintro e h ⟨rfl,rfl⟩;refine⟨_,rfl,Ar.refl _ _,none,?_⟩;have e:((c.toNat:Int).toNat.toUInt8)=c:=bB;rw[e];simp only[];rw[PI];exact .int _ _
theorem RB(s:bC)(c:UInt8)(b:s.length<=9223372036854775807):Ok prog 312 [.str s,.str [c]] ⟨.d (aI (uT c s)),true⟩:=by
 refine bT func312 rfl ntmps312 results312 λe X d=>?_;apply aD;simp;apply aD;simp;apply eG;apply bE;simp;refine⟨λg=>?_,λg=>?_⟩
 .apply aD;simp;apply aH;simp[<-g,uT,cutAt]
 .apply bE;simp;apply aF;have a:=AS s c;refine bG (og 30 (.plain ⟨.d (aI (uT c s)),true⟩)) ?_;simp;refine⟨a,?_⟩;apply aH;simp
def zZ(c:UInt8)(s:bC):bC:=match cutAt c s with|some q=>q.1|none=>s
def Aa(c:UInt8)(s:bC):bC:=match cutAt c s with|some q=>q.2|none=>[]
def AT(c:UInt8)(s:bC):Bool:=(cutAt c s).isSome
theorem Yg(s:bC)(c:UInt8)(f:s.length<=9223372036854775807):Ok prog 258 [.str s,.str [c]] ⟨.tup [.d (.str (zZ c s)),.d (.str (Aa c s)),.d (.bool (AT c s))],true⟩:=by
 refine AH hT func258 iY (c:=_) rfl ntmps258 bB results258 bB (by rfl) λj X i=>?_;apply aD;simp;apply fE;have d:=RB s c f;refine bG (og 10 (.plain ⟨.d (aI (uT c s)),true⟩)) ?_;simp;refine⟨d,?_⟩;apply bE;simp;refine⟨λa=>?_,λa=>?_⟩
 .apply aF;obtain⟨q,b⟩:∃q,cutAt c s=some q:=by
   unfold uT at a;cases e:cutAt c s with
   |none=>rw[e]at a;simp at a
   |some q=>exact⟨q,rfl⟩
  have h:uT c s=(q.1.length:Int):=by unfold uT;rw[b]
  obtain⟨p1,p2,p3⟩:=BL b;refine fF.rd [] [] (λ_=>none) ?_;simp[h,p1,p2];refine⟨⟨⟨aE,aE,aE⟩,aE,aE⟩,?_⟩;apply aH;simp[zZ,Aa,AT,b]
 .apply aG;simp;apply aD;simp;apply aH;have g:cutAt c s=none:=by
   unfold uT at a;cases e:cutAt c s with
   |none=>rfl
   |some q=>rw[e]at a;simp at a;omega
  simp[zZ,Aa,AT,g]
theorem Vb(s:bC)(c:UInt8)(b:s.length<=9223372036854775807):Ok prog 177 [.str s,.str [c]] ⟨.tup [.d (.str (zZ c s)),.d (.str (Aa c s)),.d (.bool (AT c s))],true⟩:=by
 refine AH hT func177 iY (c:=_) rfl ntmps177 bB results177 bB (by rfl) λe X d=>?_;apply aD;simp;apply aF;have a:=Yg s c b;refine bG (og 9 (.plain ⟨.tup [.d (.str (zZ c s)),.d (.str (Aa c s)),.d (.bool (AT c s))],true⟩)) ?_;simp[bM];refine⟨a,?_⟩;apply aH;simp
end
structure cY where
 bk:Int
 kind:Int
 name:bC
 field:bC
def cY.d(u:cY):DV:=.agg [aI u.kind,.str u.name,.str u.field]
def GB:List Int:=[34,35,13,14,17,18,15,16,22,23]
def wG:List Int:=[0,1,5,5,3,3,2,2,4,4]
def ZW(k:Int):Option Int:=(GB.findIdx? (λx=>decide (k=x))).map λj=>wG.getD j 0
def yL(k:Int)(t:bC):List cY:=match ZW k with
 |some f=>[⟨k,f,zZ 46 t,Aa 46 t⟩]
 |none=>[]
mutual
def bX:Nd->List cY
 | .mk k t _ ks=>yL k t++gL ks
def gL:List Nd->List cY
 |[]=>[]
 |x::r=>bX x++gL r
end
theorem usesN_eq(x:Nd):bX x=yL x.kind x.text++gL x.kids:=by cases x;rw[bX];rfl
theorem usesL_append:∀(a b:List Nd),gL (a++b)=gL a++gL b
 |[],_=>rfl
 |x::a,b=>by rw[C9,gL,gL,usesL_append a b,List.append_assoc]
theorem usesL_succ{l:List Nd}{i:Nat}(a:i<l.length):gL (l.take (i+1))=gL (l.take i)++bX l[i]:=by
 rw[List.take_succ_eq_append_getElem a,usesL_append,gL,gL,List.append_nil]
theorem findD_int(k:Int):∀(l:List Int) (i:Nat),iG (aI k) (l.map aI) i=some ((l.findIdx? (λx=>decide (k=x))).map (·+i))
 |[],i=>rfl
 |x::r,i=>by
  have e:kJ (aI k) (aI x)=some (decide (k=x)):=by simp[kJ,FR]
  rw[List.map_cons,iG,e,List.findIdx?_cons];by_cases h:k=x
  .simp[h]
  .simp only[h,decide_false,C5,if_false];rw[findD_int k r (i+1)];cases r.findIdx? (λx=>decide (k=x))with
   |none=>rfl
   |some j=>simp;omega
def fitD:DV:=.mp (GB.map aI) (wG.map aI)
section
attribute[local simp] aR bJ bF aO aL aX aP
attribute[local simp] kH.cond Nd.d_eq nd_t nd_dr nd_td ndsD
theorem isEmpty_dec(l:bC):l.isEmpty=decide (l=[]):=by cases l<;>simp
def bndD(l:List (Int×Int)):List DV:=l.flatMap λp=>[aI p.1,aI p.2]
theorem glob1_eq:FP=bndD boundsL:=iY
theorem glob1_len:FP.length=74:=iY
theorem bndD_at:∀(l:List (Int×Int)) (k:Nat),k<l.length->(bndD l)[k*2]?.getD default=aI (l.getD k (0,0)).1/\(bndD l)[k*2+1]?.getD default=aI (l.getD k (0,0)).2
 |p::l,0,_=>⟨rfl,rfl⟩
 |p::l,k+1,h=>by
  have a:=bndD_at l k (by simpa using h);have e:bndD (p::l)=aI p.1::aI p.2::bndD l:=rfl;rw[e,show(k+1)*2=k*2+1+1 by omega];exact a
theorem glob1_lo{k:Int}(h:0<=k/\k<37):FP[k.toNat*2]?.getD default=aI (loAt k):=by
 rw[glob1_eq];exact(bndD_at boundsL k.toNat (by rw[bounds_len];omega)).1
theorem glob1_hi{k:Int}(h:0<=k/\k<37):FP[k.toNat*2+1]?.getD default=aI (hiAt k):=by
 rw[glob1_eq];exact(bndD_at boundsL k.toNat (by rw[bounds_len];omega)).2
theorem cutA_len(c:UInt8)(s:bC):(zZ c s).length<=s.length:=by
 unfold zZ;cases h:cutAt c s with
 |none=>simp
 |some q=>have:=BL h;simp;omega
theorem cutB_len(c:UInt8)(s:bC):(Aa c s).length<=s.length:=by
 unfold Aa;cases h:cutAt c s with
 |none=>simp
 |some q=>have:=BL h;simp;omega
theorem fieldB_eq(t:bC):fieldB t=(AT 46 t&&wholeB (zZ 46 t) true&&wholeB (Aa 46 t) true):=by
 unfold fieldB AT zZ Aa;cases cutAt 46 t with
 |none=>rfl
 |some q=>rfl
theorem worded_ok(x:Nd)(z:0<=x.kind/\x.kind<37)(D:x.text.length<=9223372036854775807):Ok prog 238 [x.d] ⟨.d (.bool (wordedB x)),true⟩:=by
 refine bT func238 rfl ntmps238 results238 λP X a=>?_;apply aD;simp;apply fE;have B:=glob1_lo z;have C:=glob1_hi z;have N:=glob1_len;refine fF.rd [] [] (λ_=>none) ?_;simp[B,C];refine⟨⟨⟨⟨z,aE⟩,λ_=>z⟩,λ_=>aE⟩,?_⟩;apply aM;simp;refine⟨λg=>?_,λw y=>?_⟩
 .apply aD;simp;apply aH;simp;unfold wordedB wordedK;rw[Bool.eq_false_iff];intro h;simp only[A3,decide_eq_true_eq]at h;omega
 .apply aG;simp;apply eP;simp;apply aW;refine bH (ι:=BC) (λ⟨b⟩=>bA [(1,.bx 1 0),(25,.d (aI x.kind)),(26,.d (.bool b))]) (λ⟨b⟩=>aK [(1,.box false [.d (aI x.kind),.d (.str x.text),.d (aI x.n),.d (ndsD x.kids)])]) (λ⟨b⟩=>b=true↔(x.kind=9\/x.kind=19\/x.kind=20\/x.kind=33)) ?_ λ⟨b⟩ v=>?_
  .apply bE;simp;refine⟨λI=>?_,λI=>?_⟩
   .apply aG;simp;refine XV.mk ⟨decide (x.kind=9)⟩ (aA a [1,25,26] [(1,1)]) ?_;simp[I]
   .apply bE;simp;refine⟨λJ=>?_,λJ=>?_⟩
    .apply aG;simp;refine XV.mk ⟨decide (x.kind=19)⟩ (aA a [1,25,26] [(1,1)]) ?_;simp[J]
    .apply bE;simp;refine⟨λK=>?_,λK=>?_⟩
     .apply aG;simp;refine XV.mk ⟨decide (x.kind=20)⟩ (aA a [1,25,26] [(1,1)]) ?_;simp[K]
     .apply aJ;simp;refine XV.mk ⟨decide (x.kind=33)⟩ (aA a [1,25,26] [(1,1)]) ?_;simp only[decide_eq_true_eq];omega
  .apply aM;simp;refine⟨λA=>?_,λA=>?_⟩
   .have O:=v.1 A;apply aF;have E:=AR x.text false D;refine bG (og 33 (.plain ⟨.d (.bool (wholeB x.text false)),true⟩)) ?_;simp;refine⟨E,?_⟩;apply aH;simp;unfold wordedB wordedK textB;simp only[w,y,decide_true,C0];repeat(first|rw[if_pos aE]|rw[if_neg aE])
    try rw[fieldB_eq]
    try simp
    try exact isEmpty_dec _
   .have O:¬(x.kind=9\/x.kind=19\/x.kind=20\/x.kind=33):=λq=>by simp[v.2 q]at A
    apply bE;simp;refine⟨λL=>?_,λL=>?_⟩
    .apply aF;have M:=Vb x.text 46 D;refine bG (og 39 (.plain ⟨.tup [.d (.str (zZ 46 x.text)),.d (.str (Aa 46 x.text)),.d (.bool (AT 46 x.text))],true⟩)) ?_;simp[bM];refine⟨M,?_⟩;apply aF;have F:=AR (zZ 46 x.text) true (by have:=cutA_len 46 x.text;omega);have G:=AR (Aa 46 x.text) true (by have:=cutB_len 46 x.text;omega);refine bG (λ|46=>some<| .plain ⟨.d (.bool (wholeB (zZ 46 x.text) true)),true⟩|50=>some<| .plain ⟨.d (.bool (wholeB (Aa 46 x.text) true)),true⟩|_=>none) ?_;simp;refine⟨⟨λ_=>F,λ_ _=>G⟩,?_⟩;apply aH;simp;unfold wordedB wordedK textB;simp only[w,y,decide_true,C0];repeat(first|rw[if_pos aE]|rw[if_neg aE])
     try rw[fieldB_eq]
     try simp
     try exact isEmpty_dec _
    .refine bH (ι:=BC) (λ⟨b⟩=>bA [(1,.bx 1 0),(25,.d (aI x.kind)),(52,.d (.bool b))]) (λ⟨b⟩=>aK [(1,.box false [.d (aI x.kind),.d (.str x.text),.d (aI x.n),.d (ndsD x.kids)])]) (λ⟨b⟩=>b=true↔(x.kind=8\/x.kind=10\/x.kind=11\/x.kind=12\/x.kind=21\/x.kind=24\/x.kind=25\/x.kind=26\/x.kind=27\/x.kind=28\/x.kind=29\/x.kind=30\/x.kind=31\/x.kind=32\/x.kind=36)) ?_ λ⟨b⟩ c=>?_
     .apply bE;simp;refine⟨λe=>?_,λe=>?_⟩
      .apply aG;simp;refine XV.mk ⟨decide (x.kind=8)⟩ (aA a [1,25,52] [(1,1)]) ?_;simp[e]
      .apply bE;simp;refine⟨λf=>?_,λf=>?_⟩
       .apply aG;simp;refine XV.mk ⟨decide (x.kind=10)⟩ (aA a [1,25,52] [(1,1)]) ?_;simp[f]
       .apply bE;simp;refine⟨λi=>?_,λi=>?_⟩
        .apply aG;simp;refine XV.mk ⟨decide (x.kind=11)⟩ (aA a [1,25,52] [(1,1)]) ?_;simp[i]
        .apply bE;simp;refine⟨λj=>?_,λj=>?_⟩
         .apply aG;simp;refine XV.mk ⟨decide (x.kind=12)⟩ (aA a [1,25,52] [(1,1)]) ?_;simp[j]
         .apply bE;simp;refine⟨λk=>?_,λk=>?_⟩
          .apply aG;simp;refine XV.mk ⟨decide (x.kind=21)⟩ (aA a [1,25,52] [(1,1)]) ?_;simp[k]
          .apply bE;simp;refine⟨λl=>?_,λl=>?_⟩
           .apply aG;simp;refine XV.mk ⟨decide (x.kind=24)⟩ (aA a [1,25,52] [(1,1)]) ?_;simp[l]
           .apply bE;simp;refine⟨λm=>?_,λm=>?_⟩
            .apply aG;simp;refine XV.mk ⟨decide (x.kind=25)⟩ (aA a [1,25,52] [(1,1)]) ?_;simp[m]
            .apply bE;simp;refine⟨λn=>?_,λn=>?_⟩
             .apply aG;simp;refine XV.mk ⟨decide (x.kind=26)⟩ (aA a [1,25,52] [(1,1)]) ?_;simp[n]
             .apply bE;simp;refine⟨λo=>?_,λo=>?_⟩
              .apply aG;simp;refine XV.mk ⟨decide (x.kind=27)⟩ (aA a [1,25,52] [(1,1)]) ?_;simp[o]
              .apply bE;simp;refine⟨λp=>?_,λp=>?_⟩
               .apply aG;simp;refine XV.mk ⟨decide (x.kind=28)⟩ (aA a [1,25,52] [(1,1)]) ?_;simp[p]
               .apply bE;simp;refine⟨λr=>?_,λr=>?_⟩
                .apply aG;simp;refine XV.mk ⟨decide (x.kind=29)⟩ (aA a [1,25,52] [(1,1)]) ?_;simp[r]
                .apply bE;simp;refine⟨λs=>?_,λs=>?_⟩
                 .apply aG;simp;refine XV.mk ⟨decide (x.kind=30)⟩ (aA a [1,25,52] [(1,1)]) ?_;simp[s]
                 .apply bE;simp;refine⟨λt=>?_,λt=>?_⟩
                  .apply aG;simp;refine XV.mk ⟨decide (x.kind=31)⟩ (aA a [1,25,52] [(1,1)]) ?_;simp[t]
                  .apply bE;simp;refine⟨λu=>?_,λu=>?_⟩
                   .apply aG;simp;refine XV.mk ⟨decide (x.kind=32)⟩ (aA a [1,25,52] [(1,1)]) ?_;simp[u]
                   .apply aJ;simp;refine XV.mk ⟨decide (x.kind=36)⟩ (aA a [1,25,52] [(1,1)]) ?_;simp only[decide_eq_true_eq];omega
     .apply aM;simp;refine⟨λd=>?_,λd=>?_⟩
      .have H:=c.1 d;apply aD;simp;apply aH;simp;unfold wordedB wordedK textB;simp only[w,y,decide_true,C0];repeat(first|rw[if_pos aE]|rw[if_neg aE])
       try rw[fieldB_eq]
       try simp
       try exact isEmpty_dec _
      .have H:¬(x.kind=8\/x.kind=10\/x.kind=11\/x.kind=12\/x.kind=21\/x.kind=24\/x.kind=25\/x.kind=26\/x.kind=27\/x.kind=28\/x.kind=29\/x.kind=30\/x.kind=31\/x.kind=32\/x.kind=36):=λq=>by simp[c.2 q]at d
       apply aG;simp;apply aF;have E:=AR x.text true D;refine bG (og 73 (.plain ⟨.d (.bool (wholeB x.text true)),true⟩)) ?_;simp;refine⟨E,?_⟩;apply aH;simp;unfold wordedB wordedK textB;simp only[w,y,decide_true,C0];repeat(first|rw[if_pos aE]|rw[if_neg aE])
       try rw[fieldB_eq]
       try simp
       try exact isEmpty_dec _
theorem right1_ok(x:Nd)(a:Ok prog 165 [x.d] ⟨.d (.bool (rightN x)),true⟩):Ok prog 239 [x.d] ⟨.d (.bool (!rightN x)),true⟩:=by
 refine bT func239 rfl ntmps239 results239 λc X b=>?_;apply aD;simp;refine dH (og 4 (.plain ⟨.d (.bool (rightN x)),true⟩)) ?_;simp;refine⟨by simpa using a,?_⟩;apply aH;simp
theorem right_step(x:Nd)(j:weighN x<=1000000000)(h:∀y∈x.kids,weighN y<=1000000000->Ok prog 165 [y.d] ⟨.d (.bool (rightN y)),true⟩):Ok prog 165 [x.d] ⟨.d (.bool (rightN x)),true⟩:=by
 refine bT func165 rfl ntmps165 results165 λk X i=>?_;apply aD;simp;apply aF;have g:=Rs x;have a:=worded_ok x;have f:x.text.length<=9223372036854775807:=by have:=weighN_eq x;omega
 have e:=JK x.kids (λy=> !rightN y) 239 [] (λy b=>right1_ok y (h y b (by have:=weigh_mem b;have:=weighN_eq x;omega)));refine bG (λ|13=>some<| .plain ⟨.d (.bool (shapedB x)),true⟩|17=>some<| .plain ⟨.d (.bool (wordedB x)),true⟩|22=>some<| .plain ⟨.d (.bool (x.kids.any λy=> !rightN y)),true⟩|_=>none) ?_;simp;refine⟨⟨⟨λ_ _=>by simpa using g,λc d _=>by simpa using a ⟨c,d⟩ f⟩,λ_ _ _ _=>e⟩,?_⟩;apply aH;simp;rw[rightN_eq,C1]
theorem right_ok(x:Nd):weighN x<=1000000000->Ok prog 165 [x.d] ⟨.d (.bool (rightN x)),true⟩:=
 pC (p:=λx=>weighN x<=1000000000->Ok prog 165 [x.d] ⟨.d (.bool (rightN x)),true⟩) (λ_ _ _ _ c a=>right_step _ a (λy b=>c y b)) x
theorem Valid_ok(x:Nd)(c:weighN x<=1000000000):Ok prog 87 [x.d] ⟨.d (.bool (validB x)),true⟩:=by
 refine bT func87 rfl ntmps87 results87 λj X i=>?_;apply aD;simp;apply aF;have e:=UP x c;have f:=right_ok x c;have g:=PH x;have h:=@BF x;refine bG (λ|13=>some<| .plain ⟨.d (aI (depthN x)),true⟩|18=>some<| .plain ⟨.d (.bool (rightN x)),true⟩|22=>some<| .plain ⟨.d (.str (textT x)),true⟩|_=>none) ?_;simp;refine⟨⟨⟨λ_ _=>by simpa using e,λ_ _ _=>by simpa using f⟩,λa b _ d=>by simpa using g (h d a b) c⟩,?_⟩;apply aH;simp[validB];rw[show decide ((depthN x:Int)<=24)=decide (depthN x<=24) from by rw[decide_eq_decide];omega,show decide (((textT x).length:Int)<=1024)=decide ((textT x).length<=1024) from by rw[decide_eq_decide];omega]
theorem valid_def{x:Nd}(h:validB x=true):MC x:=by
 simp only[validB,A3,decide_eq_true_eq]at h;exact BF h.1.2 h.1.1.1.1 h.1.1.1.2
theorem Print_ok(x:Nd)(b:weighN x<=1000000000):Ok prog 26 [x.d] ⟨.d (.str (printS x)),true⟩:=by
 refine bT func26 rfl ntmps26 results26 λg X f=>?_;apply aD;simp;apply fE;have e:=Valid_ok x b;refine bG (og 4 (.plain ⟨.d (.bool (validB x)),true⟩)) ?_;simp;refine⟨by simpa using e,?_⟩;apply aM;simp;refine⟨λa=>?_,λa=>?_⟩
 .apply aD;simp;apply aH;simp[printS,a]
 .apply aG;simp;apply aF;have d:=valid_def a;have c:=PH x d b;refine bG (og 7 (.plain ⟨.d (.str (textT x)),true⟩)) ?_;simp;refine⟨by simpa using c,?_⟩;apply aH;simp[printS,a]
end
end Go.Eng
