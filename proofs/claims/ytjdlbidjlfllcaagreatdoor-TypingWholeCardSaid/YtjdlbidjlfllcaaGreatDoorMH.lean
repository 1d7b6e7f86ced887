/- Part 8 of the proof. No condition. -/
import Derived.Test.YtjdlbidjlfllcaaGreatDoorMG
open Go.Proofs
set_option linter.unusedVariables false
set_option linter.unusedSimpArgs false
set_option maxRecDepth 20000
set_option maxHeartbeats 4000000
namespace Go.Eng
section
attribute[local simp] hZ.cond Nd.d_eq nd_t nd_dr nd_td ndsD aO bH jQ cS cI
attribute[local simp] iZ zK zL zM GW
theorem Hb(n:Nat):jT n 182 (λq=>exprP false (q.l.length+1) q):=
 ⟨λq _ hg=>(BH (q.l.length+1)).ok q (Nat.lt_succ_self _) hg,λq hq hg=>(vU n).le q hq hg⟩
theorem BK:∀n,Jv n (stmtP false n)
 |0=>λq h=>absurd h (Nat.not_lt_zero _)
 |n+1=>BJ (exprO_stk false) (blockB_stk (stmtP_stk false n)) (vU (n+1)) (oS (stmtP_stk false n) (oT n))
theorem BL:∀n:Nat,n<=1100000->jT n 162 (stmtP false n)
 |0,_=>⟨λq h _=>absurd h (Nat.not_lt_zero _),λq h _=>absurd h (Nat.not_lt_zero _)⟩
 |n+1,h=>by
  have hB:jT n 125 (blockB (stmtP false n)):=
   ⟨λq hq hg=>GT q n (stmtP false n) (BL n (by omega)) (BK n) hq hg (by omega),λq hq hg=>(oS (stmtP_stk false n) (oT n)).le q hq hg⟩
  refine⟨λq hq hg=>?_,λq hq hg=>(oT (n+1)).le q hq hg⟩;exact Jx q n (λq=>exprP false (q.l.length+1) q) (blockB (stmtP false n)) (Hb (n+1)) hB hq hg
theorem jT.block(n:Nat)(h:n<=1100000):jT n 125 (blockP false n):=
 ⟨λq hq hg=>GT q n (stmtP false n) (BL n h) (BK n) hq hg (by omega),λq hq hg=>(oS (stmtP_stk false n) (oT n)).le q hq hg⟩
theorem Sr(s:aJ):defKind s=lE (λx=>decide (s=x)) (wordsL.take 7):=by
 unfold defKind;have e2:(λi=>decide (wordsL.getD i []=s))=λi=>decide (s=wordsL.getD i []):=by funext i;rw[decide_eq_decide];exact eq_comm
 have e:=uW (λx=>decide (s=x)) [] (wordsL.take 7);split
 ·rename_i h;subst h;rfl
 ·unfold lE;rw[<-e];rw[e2];rfl
theorem MZ{s:aJ}: -1<=defKind s/\defKind s<=6:=by
 unfold defKind;split
 ·omega
 ·split
  ·rename_i i e;have:=List.mem_of_find?_eq_some e;simp at this;omega
  ·omega
theorem Ql{s:aJ}(h:0<=defKind s):wordAt (defKind s)=s/\s≠[]:=by
 unfold defKind at*;split at h
 ·omega
 ·rename_i hs;split at h
  ·rename_i i e;have:=List.find?_some e;simp only[decide_eq_true_eq]at this;rw[if_neg hs];exact⟨this,hs⟩
  ·omega
theorem Ss{p:PS}(h:defKind p.peek<0):defP false p=(.mk 0 [] 0 [],p.fail 2):=by unfold defP;simp only[];rw[if_pos h]
theorem rS{p:PS}(h:¬defKind p.peek<0):p.skip=p.took (wordAt (defKind p.peek)):=by
 obtain⟨h1,h2⟩:=Ql (s:=p.peek) (by omega);rw[h1,bQ (dO.2 ⟨h2,rfl⟩)]
section
variable{p q:PS} {t:aJ} {k:Int} (hk:defKind p.peek=k) (h:¬k<0) (hn:nameP (p.took (wordAt k))=(t,q))
include hk h hn
theorem Na(h5:k=5\/k=6):defP false p=(.mk k t 0 [(blockP false (q.l.length+1) q).1],(blockP false (q.l.length+1) q).2):=by
 subst hk;unfold defP;simp only[];rw[if_neg h,rS h,hn,if_pos h5]
theorem St(h1:k=1):defP false p=(.mk k t 0 (itemsF ((q.need [123]).l.length+1) [] (q.need [123])).1,(itemsF ((q.need [123]).l.length+1) [] (q.need [123])).2.need [125]):=by
 subst hk;unfold defP;simp only[];rw[if_neg h,rS h,hn,if_neg (by omega),if_pos h1]
theorem Su(h1:k=0):defP false p=(.mk k t (numberP (q.need [61])).1 [],(numberP (q.need [61])).2.need [59]):=by
 subst hk;unfold defP;simp only[];rw[if_neg h,rS h,hn,if_neg (by omega),if_neg (by omega),if_pos h1]
theorem Qm(h1:k=2):defP false p=(.mk k t (numeralP 2 q).1 [],(numeralP 2 q).2.need [59]):=by
 subst hk;unfold defP;simp only[];rw[if_neg h,rS h,hn,if_neg (by omega),if_neg (by omega),if_neg (by omega),if_pos h1]
theorem Qn(h1:¬(k=5\/k=6))(h2:¬k=1)(h3:¬k=0)(h4:¬k=2):defP false p=(.mk k t 0 [],q.need [59]):=by
 subst hk;unfold defP;simp only[];rw[if_neg h,rS h,hn,if_neg h1,if_neg h2,if_neg h3,if_neg h4]
end
theorem Nb{ks:List Nd}{q:PS}(h:q.e=0->q.peek=[125]):∀f,itemsF f ks q=(ks,q)
 |0=>rfl
 |f+1=>by
  rw[itemsF,if_pos];by_cases e:q.e=0
  ·exact .inr (h e)
  ·exact .inl e
theorem Qo{ks:List Nd}{q:PS}{f:Nat}(hf:q.l.length<f)(h:q.e=0)(hp:¬q.peek=[125]):
 itemsF f ks q=itemsF (f-1) (ks++[.mk 7 (nameP q).1 (numberP ((nameP q).2.need [61])).1 []]) ((numberP ((nameP q).2.need [61])).2.need [59]):=by
 obtain⟨k,rfl⟩:∃k,f=k+1:=⟨f-1,by omega⟩;rw[itemsF,if_neg]
 ·rfl
 ·rintro(e|e)
  ·exact e h
  ·exact hp e
theorem Nc{q:PS}(h:bB q.l):((numberP ((nameP q).2.need [61])).2.need [59]).l.length<=q.l.length/\bB ((numberP ((nameP q).2.need [61])).2.need [59]).l/\
 (((numberP ((nameP q).2.need [61])).2.need [59]).e=0->((numberP ((nameP q).2.need [61])).2.need [59]).l.length<q.l.length):=by
 have g1:=cP h;have g2:=bM (s:=[61]) g1.2.1;have g3:=vS g2.2;have g4:=bM (s:=[59]) g3.2.1;refine⟨by omega,g4.2,λe=>?_⟩;have e1:=(need_e e).1;have l1:=eS e1;have:(numberP ((nameP q).2.need [61])).2.need [59]=(numberP ((nameP q).2.need [61])).2.skip:=by rw[EN e1,bQ e1]
 rw[this];omega
theorem Hc:∀x∈List.take 26 tQ,(aI x).length=1:=by
 intro x hx;rw[uK]at hx;obtain⟨a,_,rfl⟩:=List.mem_map.1 hx;rfl
theorem Hd:List.take 7 tQ=(wordsL.take 7).map DV.str:=rfl
structure WM where
 n:Int
 q:PS
theorem TR(p:PS)(hg:bB p.l)(hb:p.l.length<=1000000):jA Tryz.prog 73 [.bx 0 0] (cS p) (cS (defP false p).2) (.d (defP false p).1.d):=by
 unfold cS;refine fK Tryz.func73 rfl Tryz.ntmps73 Tryz.results73 λw0 X hp=>?_;refine aA ?_;simp;refine aD ?_;have hi:=nX (wordsL.take 7) p.peek;have q2:=mD;rw[<-Sr]at hi;have hr:=MZ (s:=p.peek);refine eO.rd [[0]] [[],[],[0]] (λ|8=>some (.gen ⟨[(0,0)],[],[],cS p,.d (.str p.peek)⟩)|9=>some<| .plain ⟨.d (aH (defKind p.peek)),true⟩|_=>none) ?_;simp[Hd];refine⟨⟨⟨⟨by omega,Hc⟩,jH p⟩,by simpa using hi⟩,?_⟩;refine aD ?_;refine aX hT hW (λ|14=>some (.gen ⟨[(0,0)],[],[],cS p,.d (.str p.peek)⟩)|_=>none) ?_;simp[tH];refine⟨λ_=>jH p,?_⟩;refine aC ?_;simp;refine⟨λh2=>?_,λh2 h2b=>?_⟩
 ·have h2:defKind p.peek<0:=by
   rcases h2 with h|h
   ·exact h
   ·rw[h];decide
  refine aX hT hW (λ|18=>some (.gen ⟨[(0,0)],[],[],cS (p.fail 2),.tup []⟩)|_=>none) ?_;simp;refine⟨tG p 2,?_⟩;refine aA ?_;simp;refine aF ?_;simp;have e:=Ss h2;refine aU (x:=(defP false p).1.d) (by simp[e]) ?_;simp;exact aB hp [0] [(0,0)] (hH:=by simp[e])
 ·have hlt:¬defKind p.peek<0:=by omega
  refine aE ?_;simp;refine aD ?_;have hlt:¬defKind p.peek<0:=by omega
  have wat:=vX (k:=defKind p.peek) (by omega) (by omega);have htk:=gP p (wordAt (defKind p.peek));refine eO.ro hT hW (λ|24=>some (.gen ⟨[(0,0)],[],[],cS (p.took (wordAt (defKind p.peek))),.d (.bool (p.is (wordAt (defKind p.peek))))⟩)|_=>none) ?_;simp[wat];refine⟨⟨⟨by omega,by omega⟩,htk⟩,?_⟩;refine aD ?_;have hna:=wG (p.took (wordAt (defKind p.peek)));have gt:=dC (s:=wordAt (defKind p.peek)) hg;have gl:=cP gt;have lt:(p.took (wordAt (defKind p.peek))).l.length<=p.l.length:=by unfold PS.took;split;exact dA;exact Nat.le_refl _
  refine eO.ro hT hW (λ|27=>some (.gen ⟨[(0,0)],[],[],cS (nameP (p.took (wordAt (defKind p.peek)))).2,.d (.str (nameP (p.took (wordAt (defKind p.peek)))).1)⟩)|_=>none) ?_;simp;refine⟨hna,?_⟩;obtain⟨k,hk⟩:∃k,defKind p.peek=k:=⟨_,rfl⟩;obtain⟨⟨t,q⟩,hn⟩:∃x,nameP (p.took (wordAt (defKind p.peek)))=x:=⟨_,rfl⟩;simp only[hn]at gl;have lq:q.l.length<=p.l.length:=by omega
  simp only[hn];rw[hk]at hlt hn hr|-;refine aZ (ι:=WM) (λ⟨n,r⟩=>aQ [(0,.bx 0 0),(2,.bx 2 0),(4,.bx 4 0)]) (λ⟨n,r⟩=>aG [(0,.box false [.d (jQ r.l),.d (aH r.e)]),(2,.box false [.d (aH 0),.d (.str []),.d (aH 0),.nl]),(4,.box false [.d (aH k),.d (.str t),.d (aH n),.nl])]) (λ⟨n,r⟩=>defP false p=(.mk k t n [],r.need [59])) ?_ λ⟨n,r⟩ hc27=>?_
  ·refine aA ?_;simp;refine aL ?_;refine aZ (ι:=BC) (λ⟨b⟩=>aQ [(0,.bx 0 0),(2,.bx 2 0),(4,.bx 4 0),(29,.d (aH k)),(30,.d (.bool b))]) (λ⟨b⟩=>aG [(0,.box false [.d (jQ q.l),.d (aH q.e)]),(2,.box false [.d (aH 0),.d (.str []),.d (aH 0),.nl]),(4,.box false [.d (aH k),.d (.str t),.d (aH 0),.nl])]) (λ⟨b⟩=>b=true↔(k=5\/k=6)) ?_ λ⟨b⟩ hc10=>?_
   ·refine aA ?_;simp;refine aC ?_;simp;refine⟨λh8=>?_,λh8=>?_⟩
    ·refine aE ?_;simp;refine RJ.mk ⟨decide (k=5)⟩ (aB hp [0,2,4,29,30] [(0,0),(2,2),(4,4)]) ?_;simp[h8]
    ·refine aM ?_;simp;refine RJ.mk ⟨decide (k=6)⟩ (aB hp [0,2,4,29,30] [(0,0),(2,2),(4,4)]) ?_;simp only[decide_eq_true_eq];omega
   ·refine aC ?_;simp;refine⟨λh10=>?_,λh10=>?_⟩
    ·have q10:=hc10.1 h10;refine aD ?_;have hbl:=(jT.block (q.l.length+1) (by omega)).ok q (Nat.lt_succ_self _) gl.2.1;refine eO.ro hT hW (λ|34=>some (.gen ⟨[(0,0)],[],[],cS (blockP false (q.l.length+1) q).2,.d (blockP false (q.l.length+1) q).1.d⟩)|_=>none) ?_;simp;refine⟨by simpa using hbl,?_⟩;refine aA ?_;simp;refine aF ?_;simp;have e:=Na hk hlt hn q10;refine aU (x:=(defP false p).1.d) (by simp[e]) ?_;simp;exact aB hp [0] [(0,0)] (hH:=by simp[e])
    ·have q10:¬(k=5\/k=6):=λz=>by simp[hc10.2 z]at h10
     refine aA ?_;simp;refine aC ?_;simp;refine⟨λh12=>?_,λh12=>?_⟩
     ·refine aD ?_;have hne:=iD q [123];have gn:=bM (s:=[123]) gl.2.1;refine eO.ro hT hW (λ|41=>some (.gen ⟨[(0,0)],[],[],cS (q.need [123]),.tup []⟩)|_=>none) ?_;simp;refine⟨hne,?_⟩;refine mP (fz:=false) (cs:=[.d (aH k),.d (.str t),.d (aH 0),.nl]) 4 3 1066 4 (by decide) ⟨by simp,by simp,by simp,?_⟩;simp;refine aD ?_;refine aL ?_;refine aS (ι:=Vj) (λ⟨f,ks,r⟩=>aQ [(0,.bx 0 0),(2,.bx 2 0),(4,.bx 4 0)]) (λ⟨f,ks,r⟩=>aG [(0,.box false [.d (jQ r.l),.d (aH r.e)]),(2,.box false [.d (aH 0),.d (.str []),.d (aH 0),.nl]),(4,.box false [.d (aH k),.d (.str t),.d (aH 0),.ow 1066 0 ks.length]),(1066,.row false 4 (ks.map Nd.d))]) (λ⟨f,ks,r⟩=>(r.e=0->r.l.length<f)/\bB r.l/\r.l.length<=p.l.length/\ks.length+r.l.length<=p.l.length+(if r.e=0 then 0 else 1)/\itemsF ((q.need [123]).l.length+1) [] (q.need [123])=itemsF f ks r) (λ⟨f,ks,r⟩=>2*r.l.length+(if r.e=0 then 1 else 0)) ⟨(q.need [123]).l.length+1,[],q.need [123]⟩ (aB hp [0,2,4] [(0,0),(2,2),(4,4),(1066,1066)]) (⟨λ_=>Nat.lt_succ_self _,gn.2,by have:=gn.1;omega,by have:=gn.1;simp only[List.length_nil];omega,rfl⟩) λ⟨f,ks,r⟩ hi14=>?_;refine aD ?_;refine aD ?_;have hpk:=jH r;refine eO.ro hT hW (λ|49=>some (.gen ⟨[(0,0)],[],[],cS r,.d (.str r.peek)⟩)|_=>none) ?_;simp[tH];refine⟨λ_=>hpk,?_⟩;refine aC ?_;simp;refine⟨λg1 g2=>?_,λg=>?_⟩
      ·refine aE ?_;simp;refine aL ?_;refine aD ?_;have ha:r.l.length<=p.l.length:=hi14.2.2.1;have hks:ks.length+r.l.length<=p.l.length:=by have z:=hi14.2.2.2.1;simp only[g1,if_true]at z;omega
       have hle:=Nc (q:=r) hi14.2.1;have hn15:=wG r;have g15:=cP (p:=r) hi14.2.1;have g16:=bM (s:=[61]) g15.2.1;refine eO.ro hT hW (λ|53=>some (.gen ⟨[(0,0)],[],[],cS (nameP r).2,.d (.str (nameP r).1)⟩)|_=>none) ?_;simp;refine⟨hn15,?_⟩;refine aD ?_;have hn16:=iD (nameP r).2 [61];refine eO.ro hT hW (λ|56=>some (.gen ⟨[(0,0)],[],[],cS ((nameP r).2.need [61]),.tup []⟩)|_=>none) ?_;simp;refine⟨hn16,?_⟩;refine aD ?_;have hn17:=Dw ((nameP r).2.need [61]) g16.2;refine eO.ro hT hW (λ|58=>some (.gen ⟨[(0,0)],[],[],cS (numberP ((nameP r).2.need [61])).2,.d (aH (numberP ((nameP r).2.need [61])).1)⟩)|_=>none) ?_;simp;refine⟨hn17,?_⟩;refine aD ?_;have hn18:=iD (numberP ((nameP r).2.need [61])).2 [59];refine eO.ro hT hW (λ|61=>some (.gen ⟨[(0,0)],[],[],cS ((numberP ((nameP r).2.need [61])).2.need [59]),.tup []⟩)|_=>none) ?_;simp;refine⟨hn18,?_⟩;refine aM ?_;simp;refine⟨⟨by omega,by omega⟩,?_⟩;refine Ks.mk ⟨f-1,ks++[.mk 7 (nameP r).1 (numberP ((nameP r).2.need [61])).1 []],(numberP ((nameP r).2.need [61])).2.need [59]⟩ (aB hp [0,2,4] [(0,0),(2,2),(4,4),(66,1066)]) ?_ ?_
       ·refine⟨λe=>?_,hle.2.1,?_,?_,?_⟩
        ·show((numberP ((nameP r).2.need [61])).2.need [59]).l.length<f-1;have z:=hi14.1 g1;have h:=hle.2.2 e;omega
        ·show((numberP ((nameP r).2.need [61])).2.need [59]).l.length<=p.l.length;omega
        ·show(ks++[Nd.mk 7 (nameP r).1 (numberP ((nameP r).2.need [61])).1 []]).length+((numberP ((nameP r).2.need [61])).2.need [59]).l.length<=p.l.length+(if((numberP ((nameP r).2.need [61])).2.need [59]).e=0 then 0 else 1);rw[List.length_append,List.length_singleton];by_cases e:((numberP ((nameP r).2.need [61])).2.need [59]).e=0
         ·rw[if_pos e];have h:=hle.2.2 e;omega
         ·rw[if_neg e];omega
        ·rw[hi14.2.2.2.2];exact Qo (hi14.1 g1) g1 g2
       ·show 2*((numberP ((nameP r).2.need [61])).2.need [59]).l.length+(if((numberP ((nameP r).2.need [61])).2.need [59]).e=0 then 1 else 0)<2*r.l.length+(if r.e=0 then 1 else 0);rw[if_pos g1];by_cases e:((numberP ((nameP r).2.need [61])).2.need [59]).e=0
        ·rw[if_pos e];have h:=hle.2.2 e;omega
        ·rw[if_neg e];omega
      ·refine bT ?_;simp;refine aD ?_;have hn20:=iD r [125];refine eO.ro hT hW (λ|69=>some (.gen ⟨[(0,0)],[],[],cS (r.need [125]),.tup []⟩)|_=>none) ?_;simp;refine⟨hn20,?_⟩;refine aA ?_;simp;refine aF ?_;simp;have e:defP false p=(.mk k t 0 ks,r.need [125]):=by rw[St hk hlt hn h12,hi14.2.2.2.2,Nb g]
       refine aU (x:=(defP false p).1.d) (by simp[e]) ?_;simp;exact aB hp [0] [(0,0)] (hH:=by simp[e])
     ·refine aA ?_;simp;refine aC ?_;simp;refine⟨λh22=>?_,λh22=>?_⟩
      ·refine aD ?_;have hne:=iD q [61];have gn:=bM (s:=[61]) gl.2.1;refine eO.ro hT hW (λ|74=>some (.gen ⟨[(0,0)],[],[],cS (q.need [61]),.tup []⟩)|_=>none) ?_;simp;refine⟨hne,?_⟩;have hnu:=Dw (q.need [61]) gn.2;refine eO.ro hT hW (λ|76=>some (.gen ⟨[(0,0)],[],[],cS (numberP (q.need [61])).2,.d (aH (numberP (q.need [61])).1)⟩)|_=>none) ?_;simp;refine⟨hnu,?_⟩;refine RJ.mk ⟨(numberP (q.need [61])).1,(numberP (q.need [61])).2⟩ (aB hp [0,2,4] [(0,0),(2,2),(4,4)]) ?_;exact Su hk hlt hn h22
      ·refine aA ?_;simp;refine aC ?_;simp;refine⟨λh25=>?_,λh25=>?_⟩
       ·have hnu:=mZ q 2 gl.2.1 (by decide);refine eO.ro hT hW (λ|81=>some (.gen ⟨[(0,0)],[],[],cS (numeralP 2 q).2,.d (aH (numeralP 2 q).1)⟩)|_=>none) ?_;simp;refine⟨hnu,?_⟩;refine RJ.mk ⟨(numeralP 2 q).1,(numeralP 2 q).2⟩ (aB hp [0,2,4] [(0,0),(2,2),(4,4)]) ?_;exact Qm hk hlt hn h25
       ·refine aE ?_;simp;refine RJ.mk ⟨0,q⟩ (aB hp [0,2,4] [(0,0),(2,2),(4,4)]) ?_;exact Qn hk hlt hn q10 h12 h22 h25
  ·refine aD ?_;have hne:=iD r [59];refine eO.ro hT hW (λ|84=>some (.gen ⟨[(0,0)],[],[],cS (r.need [59]),.tup []⟩)|_=>none) ?_;simp;refine⟨hne,?_⟩;refine aA ?_;simp;refine aF ?_;simp;refine aU (x:=(defP false p).1.d) (by simp[hc27]) ?_;simp;exact aB hp [0] [(0,0)] (hH:=by simp[hc27])
end
section
attribute[local simp] hZ.cond Nd.d_eq nd_t nd_dr nd_td ndsD aO bH cI dH wI wJ wK lD
theorem Qp{p:PS}(h:defKind p.peek<0):defP true p=(.mk 0 [] 0 [],p.fail 2):=by unfold defP;simp only[];rw[if_pos h]
section
variable{p q:PS} {t:aJ} {k:Int} (hk:defKind p.peek=k) (h:¬k<0) (hn:nameP p.skip=(t,q))
include hk h hn
theorem JD(h5:k=5\/k=6):defP true p=(.mk k t 0 [(blockP true (q.l.length+1) q).1],(blockP true (q.l.length+1) q).2):=by
 subst hk;unfold defP;simp only[];rw[if_neg h,hn,if_pos h5]
theorem Qq(h1:k=1):defP true p=(.mk k t 0 (itemsF ((q.need [123]).l.length+1) [] (q.need [123])).1,(itemsF ((q.need [123]).l.length+1) [] (q.need [123])).2.need [125]):=by
 subst hk;unfold defP;simp only[];rw[if_neg h,hn,if_neg (by omega),if_pos h1]
theorem Qr(h1:k=0):defP true p=(.mk k t (numberP (q.need [61])).1 [],(numberP (q.need [61])).2.need [59]):=by
 subst hk;unfold defP;simp only[];rw[if_neg h,hn,if_neg (by omega),if_neg (by omega),if_pos h1]
theorem Nf(h1:k=2):defP true p=(.mk k t (numeralP 2 q).1 [],(numeralP 2 q).2.need [59]):=by
 subst hk;unfold defP;simp only[];rw[if_neg h,hn,if_neg (by omega),if_neg (by omega),if_neg (by omega),if_pos h1]
theorem Ng(h1:¬(k=5\/k=6))(h2:¬k=1)(h3:¬k=0)(h4:¬k=2):defP true p=(.mk k t 0 [],q.need [59]):=by
 subst hk;unfold defP;simp only[];rw[if_neg h,hn,if_neg h1,if_neg h2,if_neg h3,if_neg h4]
end
theorem iY.item{T:List Tk}{q:PS}(f:iY T q):iY T ((numberP ((nameP q).2.need [61])).2.need [59]):=f.name.need.number.need
theorem iY.items{T:List Tk}:∀(g:Nat) (ks:List Nd) (p:PS),iY T p->iY T (itemsF g ks p).2
 |0,_,_,f=>f
 |g+1,ks,p,f=>by
  rw[itemsF];split
  ·exact f
  ·exact iY.items g _ _ f.item
theorem US{s:aJ}{T:List Tk}(c:zE s T){p:PS}(f:iY T p):iY T (defP true p).2:=by
 obtain⟨k,hk⟩:∃k,defKind p.peek=k:=⟨_,rfl⟩;obtain⟨⟨t,q⟩,hn⟩:∃x,nameP p.skip=x:=⟨_,rfl⟩;have fq:iY T q:=by have:=f.skip.name;rw[hn]at this;exact this
 by_cases h:k<0
 ·rw[Qp (by omega)];exact f.fail (.inl rfl)
 ·by_cases h1:k=5\/k=6
  ·rw[JD hk h hn h1];exact((RR.blockT c (q.l.length+1)).fs q (Nat.lt_succ_self _) fq).1
  ·by_cases h2:k=1
   ·rw[Qq hk h hn h2];exact(iY.items _ _ _ fq.need).need
   ·by_cases h3:k=0
    ·rw[Qr hk h hn h3];exact fq.need.number.need
    ·by_cases h4:k=2
     ·rw[Nf hk h hn h4];exact fq.numeral.need
     ·rw[Ng hk h hn h1 h2 h3 h4];exact fq.need
end
section
attribute[local simp] hZ.cond Nd.d_eq nd_t nd_dr nd_td ndsD aO
end
def Wt(x:PS->Nd×PS):Prop:=∀p:PS,bB p.l->weighN (x p).1+41*(x p).2.l.length<=41*p.l.length+40/\bB (x p).2.l
theorem BM:Wt placeP:=λp h=>by
 have a:=cP h;have t1:=lV h;unfold placeP;split
 ·have b:=cP (cN a.2.1);have t2:=lV (p:=(nameP p).2.skip) (cN a.2.1);have s:=dA (p:=(nameP p).2);refine⟨?_,b.2.1⟩;simp only[weighN,weighL,List.length_append,List.length_cons];omega
 ·refine⟨?_,a.2.1⟩;simp only[weighN,weighL];omega
theorem Sv{ex:PS->Nd×PS}(hx:Wt ex):Wt (factP ex):=λp h=>by
 unfold factP;split
 ·have a:=hx p.skip (cN h);have s:=dA (p:=p);have n:=fL (p:=(ex p.skip).2) (s:=[41]);exact⟨by simp only;omega,(bM a.2).2⟩
 ·split
  ·have s:=dA (p:=p);exact⟨by simp only[weighN,weighL,List.length_nil];omega,cN h⟩
  ·split
   ·split
    ·have a:=dZ (k:=32) h;exact⟨by simp only[weighN,weighL,List.length_nil];omega,a.2.1⟩
    ·split
     ·have a:=dB h;have t:(localP p).1.length<=17:=by
       by_cases q:p.peek.take 1=[36]
       ·rw[(gX q).2];have:=jI h;simp only[List.length_drop];omega
       ·rw[kI q];simp
      exact⟨by simp only[weighN,weighL];omega,a.2.1⟩
     ·exact BM p h
   ·exact BM p h
theorem DD{lv:Int}{x:PS->Nd×PS}(hx:Wt x)(B:Nat):∀(f:Nat) (n:Nd) (p:PS),bB p.l->weighN n+41*p.l.length<=B->weighN (chainF lv x f n p).1+41*(chainF lv x f n p).2.l.length<=B/\bB (chainF lv x f n p).2.l
 |0,_,_,h,hn=>⟨hn,h⟩
 |f+1,n,p,h,hn=>by
  have o:=sV (lv:=lv) h;unfold chainF;split
  ·exact⟨hn,h⟩
  ·split
   ·exact⟨by simp only;omega,o.2⟩
   ·rename_i q;have ol:=Ak (lv:=lv) (q:=p) (by omega);have a:=hx (opP lv p).2 o.2;refine DD hx B f _ _ a.2 ?_;simp only[weighN,weighL,List.length_nil];omega
theorem DE{lv:Int}{x:PS->Nd×PS}(hx:Wt x):Wt (chainP lv x):=λp h=>DD hx _ _ _ _ (hx p h).2 (hx p h).1
theorem Qs{ex:PS->Nd×PS}(hx:Wt ex):Wt (sumP ex):=DE (DE (Sv hx))
theorem Qt{ex:PS->Nd×PS}(hx:Wt ex):Wt (exprB ex):=λp h=>by
 have a:=Qs hx p h;have o:=sV (lv:=1) a.2;by_cases q:0<=(opP 1 (sumP ex p).2).1
 ·have ol:=Ak q;have b:=Qs hx (opP 1 (sumP ex p).2).2 o.2;rw[yA q];refine⟨?_,b.2⟩;simp only[weighN,weighL,List.length_nil];omega
 ·rw[yB (by omega)];exact⟨by simp only;omega,o.2⟩
theorem He:∀f,Wt (exprP false f)
 |0=>λp h=>⟨by
   have:weighN (default:Nd)<=40:=(by decide);show weighN default+41*p.l.length<=_;omega,h⟩
 |f+1=>λp h=>by
  rw[exprP,if_neg (by simp)];exact Qt (He f) p h
def Ws(n:Nat)(x:PS->Nd×PS):Prop:=∀p:PS,p.l.length<n->bB p.l->weighN (x p).1+240*(x p).2.l.length<=240*p.l.length+90/\bB (x p).2.l/\((x p).2.e=0->weighN (x p).1+240*(x p).2.l.length<=240*p.l.length)
def Wb(n:Nat)(x:PS->Nd×PS):Prop:=∀p:PS,p.l.length<n->bB p.l->weighN (x p).1+240*(x p).2.l.length<=240*p.l.length+91/\bB (x p).2.l
theorem qE(a b:List Nd):weighL (a++b)=weighL a+weighL b:=by
 induction a with
 |nil=>simp[weighL]
 |cons x a ih=>simp only[List.cons_append,weighL,ih];omega
theorem DF{m:Nat}{st:PS->Nd×PS}(hs:Ws m st)(B:Nat):∀(f:Nat) (ks:List Nd) (p:PS),p.l.length<m->bB p.l->weighL ks+240*p.l.length<=B+90->(p.e=0->weighL ks+240*p.l.length<=B)->
 weighL (stmtsF st f ks p).1+240*(stmtsF st f ks p).2.l.length<=B+90/\bB (stmtsF st f ks p).2.l
 |0,_,_,_,h,h1,_=>⟨h1,h⟩
 |f+1,ks,p,hm,h,h1,h2=>by
  unfold stmtsF;split
  ·exact⟨h1,h⟩
  ·rename_i q;have e0:p.e=0:=Classical.byContradiction λz=>q (.inl z);have a:=hs p hm h;have b:=h2 e0;refine DF hs B f _ _ (by have:=a.1;omega) a.2.1 ?_ λz=>?_
   ·rw[qE];simp only[weighL];have:=a.1;omega
   ·rw[qE];simp only[weighL];have:=a.2.2 z;omega
theorem DG{m:Nat}{st:PS->Nd×PS}(hs:Ws m st):Wb m (blockB st):=λp hm h=>by
 have n:=fL (p:=p) (s:=[123]);have g:=(bM (s:=[123]) h).2;unfold blockB;simp only[];have a:=DF hs (240*(p.need [123]).l.length) ((p.need [123]).l.length+1) [] (p.need [123]) (by omega) g (by simp only[weighL];omega) (λ_=>by simp only[weighL];omega);have m:=fL (p:=(stmtsF st ((p.need [123]).l.length+1) [] (p.need [123])).2) (s:=[125]);refine⟨?_,(bM a.2).2⟩;simp only[weighN,List.length_nil];have:=a.1;omega
theorem Sw{ex:PS->Nd×PS}(hx:Wt ex){k:Int}:∀p:PS,bB p.l->weighN (cmdP ex k p).1+240*(cmdP ex k p).2.l.length<=240*p.l.length+90/\bB (cmdP ex k p).2.l:=λp h=>by
 have a:=pA (k:=k) h;have t:(cmdA k p).1.length<=17:=by
  unfold cmdA;split
  ·by_cases q:p.peek.take 1=[36]
   ·rw[(gX q).2];have:=jI h;simp only[List.length_drop];omega
   ·rw[kI q];simp
  ·split
   ·simp
   ·exact lV h
 by_cases h1:k=15\/k=22\/k=24
 ·rw[BI h1];have b:=hx (cmdA k p).2 a.2;refine⟨?_,b.2⟩;simp only[weighN,weighL];omega
 ·by_cases h2:k=16\/k=23
  ·rw[Al h1 h2];have b:=dB a.2;have t2:(localP (cmdA k p).2).1.length<=17:=by
    by_cases q:(cmdA k p).2.peek.take 1=[36]
    ·rw[(gX q).2];have:=jI a.2;simp only[List.length_drop];omega
    ·rw[kI q];simp
   refine⟨?_,b.2.1⟩;simp only[weighN,weighL];omega
  ·by_cases h3:k=19\/k=21\/k=25
   ·rw[tI h1 h2 h3];have b:=dZ (k:=k) a.2;refine⟨?_,b.2.1⟩;simp only[weighN,weighL];omega
   ·rw[pB h1 h2 h3];refine⟨?_,a.2⟩;simp only[weighN,weighL];omega
theorem JE{p:PS}(h:bB p.l)(he3:(placeP p).2.e=0):(placeP p).2.l.length<p.l.length:=by
 unfold placeP at he3|-;have nm:(nameP p).2.e=0->(nameP p).2.l.length<p.l.length:=λz=>by
  cases q:isNameB p.peek with
  |false=>rw[mY q]at z;exact absurd z (fail_e (by decide))
  |true=>
   have ip:p.is p.peek=true:=dO.2 ⟨λe=>(by rw[e]at q;cases q),rfl⟩;have lp:=eS ip;rw[qB q,bQ ip];simp only;omega
 have ng:=cP h;split at he3
 ·rename_i z;rw[if_pos z];have z2:(nameP p).2.skip.e=0:=nameP_stk _ he3;have z3:(nameP p).2.e=0:=z2;have ll:=(cP (p:=(nameP p).2.skip) (cN ng.2.1)).1;have l3:=dA (p:=(nameP p).2);have:=nm z3;simp only;omega
 ·rename_i z;rw[if_neg z];exact nm he3
theorem Qu{m:Nat}{ex bl:PS->Nd×PS}(hs:Stk ex)(hx:Wt ex)(hb:Wb m bl):Ws (m+1) (stmtB ex bl):=λp hm h=>by
 obtain⟨k,hk⟩:∃k,kindP p.peek=k:=⟨_,rfl⟩;by_cases h1:k=11\/k=12
 ·have ip:=gY (p:=p) (by omega);have lp:=eS ip;rw[<-bQ ip]at lp;have e0:=hx (p.took p.peek) (dC h);have b0:=hb (ex (p.took p.peek)).2 (by have:=e0.1;omega) e0.2;by_cases h2:k=11/\(bl (ex (p.took p.peek)).2).2.is sElse=true
  ·rw[Am hk h2.1 h2.2];have l2:=eS h2.2;rw[<-bQ h2.2]at l2;have c0:=hb ((bl (ex (p.took p.peek)).2).2.took sElse) (by have:=e0.1;have:=b0.1;omega) (dC b0.2);refine⟨?_,c0.2,λ_=>?_⟩<;>(simp only[weighN,weighL,List.length_nil];omega)
  ·rw[KS hk h1 (λq=>by
    cases z:(bl (ex (p.took p.peek)).2).2.is sElse with
    |false=>rfl
    |true=>exact absurd ⟨q,z⟩ h2)]
   refine⟨?_,b0.2,λ_=>?_⟩<;>(simp only[weighN,weighL,List.length_nil];omega)
 ·by_cases h3:12<k
  ·have ip:=gY (p:=p) (by omega);have lp:=eS ip;rw[<-bQ ip]at lp;have c0:=Sw hx (k:=k) (p.took p.peek) (dC h);rw[ES hk h3];have n:=fL (p:=(cmdP ex k (p.took p.peek)).2) (s:=[59]);refine⟨?_,(bM c0.2).2,λ_=>?_⟩<;>(simp only;omega)
  ·by_cases h4:p.peek.take 1=[36]
   ·obtain⟨i1,i2⟩:=gX h4;have ip:p.is p.peek=true:=dO.2 ⟨λe=>(by rw[e]at h4;cases h4),rfl⟩;have lp:=eS ip;rw[<-bQ ip]at lp;have t:=jI h;rw[wN hk h1 h3 h4,i2];have n1:=fL (p:=p.took p.peek) (s:=[61]);have e0:=hx ((p.took p.peek).need [61]) (bM (dC h)).2;have n2:=fL (p:=(ex ((p.took p.peek).need [61])).2) (s:=[59]);refine⟨?_,(bM e0.2).2,λ_=>?_⟩<;>(simp only[weighN,weighL,List.length_drop];omega)
   ·rw[wO hk h1 h3 h4];have a:=BM p h;have le:=(iW (p.l.length+1) p (Nat.lt_succ_self _) h).1;have n1:=fL (p:=(placeP p).2) (s:=[61]);have e0:=hx ((placeP p).2.need [61]) (bM a.2).2;have n2:=fL (p:=(ex ((placeP p).2.need [61])).2) (s:=[59]);refine⟨?_,(bM e0.2).2,λz=>?_⟩
    ·simp only[weighN,weighL,List.length_nil];omega
    ·have z:((ex ((placeP p).2.need [61])).2.need [59]).e=0:=z;have pe:=JE h (need_e (hs _ (need_e z).2)).2;simp only[weighN,weighL,List.length_nil];omega
theorem Hf:∀f,Ws f (stmtP false f)
 |0=>λp hm _=>absurd hm (Nat.not_lt_zero _)
 |f+1=>Qu (exprO_stk false) (λp h=>He _ p h) (DG (Hf f))
theorem Nh{p:PS}(z:(nameP p).2.e=0):(nameP p).2.l.length<p.l.length:=by
 cases q:isNameB p.peek with
 |false=>rw[mY q]at z;exact absurd z (fail_e (by decide))
 |true=>
  have ip:p.is p.peek=true:=dO.2 ⟨λe=>(by rw[e]at q;cases q),rfl⟩;have lp:=eS ip;rw[qB q,bQ ip];simp only;omega
theorem DH(B:Nat):∀(f:Nat) (ks:List Nd) (p:PS),bB p.l->weighL ks+240*p.l.length<=B+90->(p.e=0->weighL ks+240*p.l.length<=B)->
 weighL (itemsF f ks p).1+240*(itemsF f ks p).2.l.length<=B+90/\bB (itemsF f ks p).2.l
 |0,_,_,h,h1,_=>⟨h1,h⟩
 |f+1,ks,p,h,h1,h2=>by
  unfold itemsF;split
  ·exact⟨h1,h⟩
  ·rename_i q;have e0:p.e=0:=Classical.byContradiction λz=>q (.inl z);have b:=h2 e0;have a:=cP h;have t:=lV h;have g1:=bM (s:=[61]) a.2.1;have v:=vS g1.2;have g2:=bM (s:=[59]) v.2.1;simp only[];refine DH B f _ _ g2.2 ?_ λz=>?_
   ·rw[qE];simp only[weighN,weighL];omega
   ·have z1:=numberP_stk _ (need_e z).2;have ne:=Nh (need_e z1).2;rw[qE];simp only[weighN,weighL];omega
theorem JF{p:PS}(h:bB p.l):weighN (defP false p).1<=240*p.l.length+300:=by
 have s:=dA (p:=p);have a:=cP (cN h);have t:=lV (cN h);unfold defP;simp only[];split
 ·simp only[weighN,weighL,List.length_nil];omega
 ·split
  ·have b:=DG (Hf ((nameP p.skip).2.l.length+1)) (nameP p.skip).2 (Nat.lt_succ_self _) a.2.1;have b1:weighN (blockP false ((nameP p.skip).2.l.length+1) (nameP p.skip).2).1<=240*(nameP p.skip).2.l.length+91:=by
    have:=b.1;show weighN (blockB (stmtP false ((nameP p.skip).2.l.length+1)) (nameP p.skip).2).1<=_;omega
   simp only[weighN,weighL];omega
  ·split
   ·have g1:=bM (s:=[123]) a.2.1;have i:=DH (240*((nameP p.skip).2.need [123]).l.length) (((nameP p.skip).2.need [123]).l.length+1) [] ((nameP p.skip).2.need [123]) g1.2 (by simp only[weighL];omega) (λ_=>by simp only[weighL];omega);have i1:=i.1;simp only[weighN];omega
   ·split
    ·simp only[weighN,weighL];omega
    ·split
     ·simp only[weighN,weighL];omega
     ·simp only[weighN,weighL];omega
theorem tJ:∀(f:Nat) (s:aJ) (i:Int),(scanF f s i).1.length<=f
 |0,_,_=>Nat.le_refl _
 |f+1,s,i=>by
  unfold scanF;split
  ·simp
  ·split
   ·have:=tJ f (by assumption) (i+1);omega
   ·split
    ·simp
    ·simp only[List.length_cons];exact Nat.succ_le_succ (tJ f _ _)
theorem zN{s:aJ}(hl:s.length<=1024):weighN (defP false ⟨(scanS s).1,0⟩).1<=1000000000:=by
 have h1:(scanS s).1.length<=s.length:=tJ _ _ _;have h2:=JF (p:=⟨(scanS s).1,0⟩) (pS _ _ _);have h3:(PS.mk (scanS s).1 0).l.length=(scanS s).1.length:=rfl;omega
section
attribute[local simp] hZ.cond Nd.d_eq nd_t nd_dr nd_td ndsD aO bH cI dH
end
section
attribute[local simp] hZ.cond Nd.d_eq nd_t nd_dr nd_td ndsD aO bH cI iZ zK zL zM GW Int.add_assoc
def UG(L:List Int)(i:Nat):List (Nat×aP):=[(0,.box false [.d (.sl (L.map aH)),.d (aH i)])]
def Vp(L:List Int):Prop:=∀n∈L, -9223372036854775808<=n/\n<=9223372036854775807
attribute[local simp] UG
end
section
attribute[local simp] hZ.cond Nd.d_eq nd_t nd_dr nd_td ndsD aO bH iZ Int.add_assoc cI zK zL zM GW UG
end
section
attribute[local simp] hZ.cond Nd.d_eq nd_t nd_dr nd_td ndsD aO bH iZ Int.add_assoc cI zK zL zM GW UG
def WN(L:List Int)(bl:Nat->Nd×Nat)(k:Int)(i:Nat):Nd×Nat:=
 if k=9 then(.mk k (ownM L i) 0 [(valueM L 2 (i+1)).1],(valueM L 2 (i+1)).2)
 else if k=10 then(.mk k [] 0 [(placeM L i).1,(valueM L 2 (placeM L i).2).1],(valueM L 2 (placeM L i).2).2)
 else if k=11\/k=12 then
  (if k=11 then(if sR L (bl (valueM L 1 i).2).2 2=0 then(.mk k [] 0 [(valueM L 1 i).1,(bl (valueM L 1 i).2).1,(bl ((bl (valueM L 1 i).2).2+1)).1],(bl ((bl (valueM L 1 i).2).2+1)).2)else(.mk k [] 0 [(valueM L 1 i).1,(bl (valueM L 1 i).2).1],(bl (valueM L 1 i).2).2+1))
  else(.mk k [] 0 [(valueM L 1 i).1,(bl (valueM L 1 i).2).1],(bl (valueM L 1 i).2).2))
 else if k=13\/k=14\/k=17\/k=18 then(.mk k (callM L i) 0 [],i+1)
 else if k=15\/k=22 then(.mk k (callM L i) 0 [(valueM L 1 (i+1)).1],(valueM L 1 (i+1)).2)
 else if k=16\/k=23 then(.mk k (callM L i) 0 [.mk 33 (ownM L (i+1)) 0 []],i+2)
 else if k=19 then(.mk k (ownM L i) (2+sR L (i+1) 5) [],i+2)
 else if k=20 then(.mk k (ownM L i) 0 [],i+1)
 else if k=21 then(.mk k [] (1+sR L i 9) [],i+1)
 else if k=25 then(.mk k [] (1+sR L i 99) [],i+1)
 else(.mk k [] 0 [(valueM L 2 i).1],(valueM L 2 i).2)
end
section
attribute[local simp] hZ.cond Nd.d_eq nd_t nd_dr nd_td ndsD aO bH iZ Int.add_assoc cI zK zL zM GW UG
section
variable{L:List Int} {k:Int} {t:aJ} (hk:treeKinds.getD (sR L 0 10).toNat 0=k) (ht:callM L 1=t)
include hk ht
end
end
section
attribute[local simp] hZ.cond Nd.d_eq nd_t nd_dr nd_td ndsD aO iZ cI zK zL zM GW
def UH(n:Int):Prop:= -9223372036854775808<=n/\n<=9223372036854775807
end
section
attribute[local simp] hZ.cond Nd.d_eq nd_t nd_dr nd_td ndsD aO bH jQ cS cI
theorem BN{s:aJ}{R:Nd×PS}(hR:defP false ⟨(scanS s).1,0⟩=R)(hl:s.length<=1024){x:Tk}{r:List Tk}(h:R.2.l=x::r):parseS s=(zeroNd,x.at_,if R.2.e≠0 then R.2.e else 2):=by
 unfold parseS;rw[if_neg (by omega)];simp only[];rw[hR,h]
theorem Hg{s:aJ}{R:Nd×PS}(hR:defP false ⟨(scanS s).1,0⟩=R)(hl:s.length<=1024)(h:R.2.l=[])(h2:¬R.2.e=0\/(scanS s).2<s.length):parseS s=(zeroNd,(scanS s).2,2):=by
 unfold parseS;rw[if_neg (by omega)];simp only[];rw[hR,h];simp only[];rw[if_pos h2]
theorem DI{s:aJ}{R:Nd×PS}(hR:defP false ⟨(scanS s).1,0⟩=R)(hl:s.length<=1024)(h:R.2.l=[])(h2:¬(¬R.2.e=0\/(scanS s).2<s.length)):parseS s=if validB R.1 then(R.1,0,0)else(zeroNd,0,4):=by
 unfold parseS;rw[if_neg (by omega)];simp only[];rw[hR,h];simp only[];rw[if_neg h2]
theorem JG(s:aJ)(R:Nd×PS)(hR:defP false ⟨(scanS s).1,0⟩=R)(hD:s.length<=1024->jA Tryz.prog 73 [.bx 0 0] (cS ⟨(scanS s).1,0⟩) (cS R.2) (.d R.1.d))(hw:s.length<=1024->weighN R.1<=1000000000):Ok Tryz.prog 44 [.str s] ⟨.tup [.d (parseS s).1.d,.d (aH (parseS s).2.1),.d (aH (parseS s).2.2)],false⟩:=by
 refine vO hT Tryz.func44 (by kernel_rfl) (c:=_) rfl Tryz.ntmps44 (by simp) Tryz.results44 (by simp) (by rfl) λw0 X hp=>?_;refine aA ?_;simp;refine aD ?_;refine aA ?_;simp;refine aC ?_;simp;refine⟨λh1=>?_,λh1=>?_⟩
 ·refine aA ?_;simp;refine aF ?_;have e:parseS s=(zeroNd,1024,4):=by unfold parseS;rw[if_pos (by omega)]
  simp[e,zeroNd]
 ·refine aE ?_;simp;refine aD ?_;have hs:=Sd s (by omega);refine eO.ro hT hW (λ|15=>some<| .plain ⟨.tup [.d (.sl ((scanS s).1.map Tk.d)),.d (aH (scanS s).2)],true⟩|_=>none) ?_;simp[aR];refine⟨hs,?_⟩;refine aA ?_;simp;refine aD ?_;have hd:=hD (by omega);refine eO.ro hT hW (λ|22=>some (.gen ⟨[(20,0)],[],[],cS R.2,.d R.1.d⟩)|_=>none) ?_;simp;refine⟨by simpa using hd,?_⟩;refine aD ?_;refine aL ?_;refine aA ?_;simp;refine aC ?_;simp;refine⟨λg1 g2=>?_,λg=>?_⟩
  ·refine aD ?_;obtain⟨x,r,hxr⟩:=List.exists_cons_of_length_pos g2;have hx2:(aI x.d).length=2:=rfl;refine eO.rd [[],[2],[2],[2],[2],[2],[2],[2],[2],[2],[2],[2]] [[],[],[],[],[],[],[],[],[],[],[],[],[2]] (λ_=>none) ?_;simp[hxr,Tk.d];refine aF ?_;have e:=BN hR (by omega) hxr;simp[e,zeroNd,g1]
  ·refine aA ?_;simp;refine aC ?_;simp;refine⟨λh8=>?_,λh8=>?_⟩
   ·refine aD ?_;obtain⟨x,r,hxr⟩:=List.exists_cons_of_length_pos h8;refine eO.rd [[],[2],[2],[2],[2],[2],[2],[2]] [[],[],[],[],[],[],[],[],[2]] (λ_=>none) ?_;simp[hxr,Tk.d];refine aF ?_;have e:=BN hR (by omega) hxr;have g9:R.2.e=0:=Classical.byContradiction λq=>by have:=g q;rw[this]at hxr;cases hxr
    simp[e,zeroNd,g9]
   ·refine aA ?_;simp;refine aC ?_;simp;refine⟨λh10=>?_,λh10 h11=>?_⟩
    ·refine aA ?_;simp;refine aF ?_;have e:=Hg hR (by omega) h8 h10;simp[e,zeroNd]
    ·refine aD ?_;have hv:=GD R.1 (hw (by omega));refine eO.ro hT hW (λ|80=>some<| .plain ⟨.d (.bool (validB R.1)),true⟩|_=>none) ?_;simp;refine⟨by simpa using hv,?_⟩;refine aC ?_;simp;refine⟨λh12=>?_,λh12=>?_⟩
     ·refine aA ?_;simp;refine aF ?_;have e:=DI hR (by omega) h8 (by omega);simp[e,h12,zeroNd]
     ·refine aE ?_;simp;refine aA ?_;simp;refine aF ?_;have e:=DI hR (by omega) h8 (by omega);simp[e,h12]
end
theorem BO(s:aJ):Ok Tryz.prog 44 [.str s] ⟨.tup [.d (parseS s).1.d,.d (aH (parseS s).2.1),.d (aH (parseS s).2.2)],false⟩:=
 JG s _ rfl (λhl=>TR ⟨(scanS s).1,0⟩ (pS _ _ _) (by have:=tJ s.length s 0;show(scanF s.length s 0).1.length<=1000000;omega)) λhl=>zN hl
section
set_option maxRecDepth 10000
set_option maxHeartbeats 4000000
attribute[local simp] hZ.cond Nd.d_eq nd_t nd_dr nd_td ndsD aO iZ cI zK zL zM GW
end
section
attribute[local simp] hZ.cond Nd.d_eq nd_t nd_dr nd_td ndsD aO
def UI(w:aJ):Nat->aJ
 |0=>[]
 |n+1=>UI w n++w
theorem pC(s:aJ):weighN (parseS s).1<=1000000000:=by
 by_cases h:1024<s.length
 ·unfold parseS;rw[if_pos h];decide
 ·obtain⟨R,hR⟩:∃R,defP false ⟨(scanS s).1,0⟩=R:=⟨_,rfl⟩;have hw:=zN (s:=s) (by omega);rw[hR]at hw;unfold parseS;rw[if_neg h];simp only[];rw[hR];have z:weighN zeroNd<=1000000000:=by decide
  split
  ·exact z
  ·split
   ·exact z
   ·split
    ·exact hw
    ·exact z
theorem TS(w:aJ):UI w 0=[]:=rfl
attribute[local simp] TS
end
section
attribute[local simp] hZ.cond Nd.d_eq nd_t nd_dr nd_td ndsD aO bA
def EW(ts:List Nd)(d:Df):Int:=
 if(parseS d.text).2.2≠0 then(parseS d.text).2.2
 else if(parseS d.text).1.text≠d.name then 11
 else if(lB ts d.name).isSome=true\/(dG (cX (bP (parseS d.text).1))).length<(bP (parseS d.text).1).length then 7 else 0
def An(ts:List Nd):List Df->List Nd×Int×Int
 |[]=>(ts,((ts.length:Nat):Int),0)
 |d::r=>if EW ts d=0 then An (ts++[(parseS d.text).1]) r else(ts,((ts.length:Nat):Int),EW ts d)
def cR(l:List Df):List Nd×Int×Int:=if 24<l.length then([],0,4)else An [] l
theorem Ni(n:Nat):lQ (n+1)=lQ n++[aH (n:Int)]:=by unfold lQ;rw[List.range_succ,List.map_append];rfl
theorem TT{H:cT}{id:Nat}{ts:List Nd}{n i:Nat}{name:aJ}(hm:lB ts name=none)(hi:n=i)(h:H id=.map false (lF ts) (lQ n)):
 bN T H 52 (.mp id) (.d (.str name)) (.d (aH (i:Int)))=⟨.junk,True,[(id,.map false (lF ts++[.str name]) (lQ (n+1)))]⟩:=by
 subst hi;unfold bN;simp only[Vq,h,oU,hm,Ni];simp[oD,bJ,eV]
theorem Sx{H:cT}{ts:List Nd}{id n:Nat}(hn:n=ts.length){name:aJ}(h:H id=.map false (lF ts) (lQ n)):cB T H 52 (.mp id) (.d (.str name)) true=⟨.tup [.d (aH (Ri ts name)),.d (.bool (lB ts name).isSome)],True,[]⟩:=by
 subst hn;unfold Ri;cases q:lB ts name with
 |none=>simp[cB,oE,h,oU,q]
 |some j=>
  have:=KM (rP q);simp[cB,oE,h,oU,q,this]
theorem EX(s:aJ):(bP (parseS s).1).length<=1000000000:=by
 have h1:=zC (parseS s).1.kids;have h2:=weighN_eq (parseS s).1;have h3:=weigh_len (l:=(parseS s).1.kids);have h4:=pC s;show(iC (parseS s).1.kids).length<=_;omega
theorem Sy{l:List Df}{i:Nat}(h:i<l.length):l.drop i=l[i]::l.drop (i+1):=List.drop_eq_getElem_cons h
theorem qF{ts:List Nd}{d:Df}{r:List Df}(h:EW ts d≠0):An ts (d::r)=(ts,((ts.length:Nat):Int),EW ts d):=by rw[An,if_neg h]
theorem EY{ts:List Nd}{d:Df}{r:List Df}(h:EW ts d=0):An ts (d::r)=An (ts++[(parseS d.text).1]) r:=by rw[An,if_pos h]
theorem Nj(ts:List Nd)(t:Nd):lF (ts++[t])=lF ts++[.str t.text]:=by unfold lF;simp
theorem Sz(l:List Df):Ok Tryz.prog 61 [eC l] ⟨.tup [.d (uO (cR l).1),.d (aH (cR l).2.1),.d (aH (cR l).2.2)],false⟩:=by
 refine vO hT Tryz.func61 (by kernel_rfl) (c:=_) rfl Tryz.ntmps61 (by simp) Tryz.results61 (by simp) (by rfl) λw0 X hp=>?_;refine aA ?_;simp;refine aA ?_;simp;refine mP (fz:=false) (cs:=[.nl,.mp 14]) 5 0 1078 4 (by decide) ⟨by simp,by simp,by simp,?_⟩;simp;refine aD ?_;refine aA ?_;simp;refine aC ?_;simp;refine⟨λh2=>?_,λh2=>?_⟩
 ·refine aA ?_;simp;refine aF ?_;simp[cR,uO,lF,lQ,show 24<l.length by omega]
 ·refine aE ?_;simp;refine aD ?_;refine aA ?_;simp;refine aL ?_;refine aS (ι:=Nat×List Nd) (λ⟨i,ts⟩=>aQ [(0,.d (eC l)),(2,.bx 2 0),(5,.bx 5 0),(20,.d (eC l)),(21,.d (aH (l.length:Nat))),(22,.d (aH (i:Nat)))]) (λ⟨i,ts⟩=>aG [(2,.box false [.nl,.d (.val (.map none))]),(5,.box false [.ow 1078 0 ts.length,.mp 14]),(14,.map false (lF ts) (lQ ts.length)),(1078,.row false 4 (ts.map Nd.d))]) (λ⟨i,ts⟩=>i<=l.length/\ts.length=i/\cR l=An ts (l.drop i)) (λ⟨i,ts⟩=>l.length-i) (0,[]) (aB hp [0,2,5,20,21,22] [(2,2),(5,5),(14,14),(1078,1078)] (hH:=by simp[lF,lQ])) (⟨Nat.zero_le _,rfl,by unfold cR;rw[if_neg (by omega)];rfl⟩) λ⟨i,ts⟩ hi5=>?_;obtain⟨hi1,hi2,hi3⟩:=hi5;have hti:List.take i (List.map Nd.d ts)=List.map Nd.d ts:=List.take_of_length_le (by rw[List.length_map,hi2];exact Nat.le_refl _);refine aA ?_;simp;refine aD ?_;refine aC ?_;simp;refine⟨λh5=>?_,λh5=>?_⟩
  ·refine aE ?_;simp;refine aD ?_;refine aL ?_;refine aD ?_;have hi:i<l.length:=by omega
   obtain⟨d,hd⟩:∃d,l[i]=d:=⟨_,rfl⟩;rw[Sy hi,hd]at hi3;refine aM ?_;simp[hi,hd];refine aD ?_;have kp:=BO d.text;obtain⟨P,hP⟩:∃P,parseS d.text=P:=⟨_,rfl⟩;have hwt:=pC d.text;have hfl:=EX d.text;rw[hP]at kp hwt hfl;obtain⟨x,hx⟩:∃x,P.1=x:=⟨_,rfl⟩;have hrd:EW ts d=if P.2.2≠0 then P.2.2 else if P.1.text≠d.name then 11 else if(lB ts d.name).isSome=true\/(dG (cX (bP P.1))).length<(bP P.1).length then 7 else 0:=by unfold EW;rw[hP]
   rw[hx]at kp hwt hfl hrd;refine eO.ro hT hW (λ|30=>some<| .plain ⟨.tup [.d x.d,.d (aH P.2.1),.d (aH P.2.2)],false⟩|_=>none) ?_;simp[aR];refine⟨by simpa using kp,?_⟩;refine aD ?_;refine aA ?_;simp;refine aC ?_;simp;refine⟨λh8=>?_,λh8=>?_⟩
   ·have he:EW ts d=P.2.2:=(by rw[hrd,if_pos h8]);rw[qF (by rw[he];exact h8),he]at hi3;refine aA ?_;simp;refine aF ?_;simp[hi3,uO,hi2,hti]
   ·have h8':¬P.2.2≠0:=by simpa using h8
    rw[if_neg h8']at hrd;refine aE ?_;simp;refine aD ?_;refine aA ?_;simp;refine aC ?_;simp;refine⟨λh10=>?_,λh10=>?_⟩
    ·have he:EW ts d=11:=by rw[hrd,if_pos (by simpa using h10)]
     rw[qF (by rw[he];decide),he]at hi3;refine aA ?_;simp;refine aF ?_;simp[hi3,uO,hi2,hti]
    ·have h10':¬x.text≠d.name:=by simpa using h10
     rw[if_neg h10']at hrd;refine aE ?_;simp;refine aD ?_;have kf:=Dl x hwt;simp at kf;refine eO.ro hT hW (λ|47=>some<| .plain ⟨.own 1 ((bP x).map .str),true⟩|_=>none) ?_;simp;refine⟨by simpa using kf,?_⟩;refine aD ?_;have ks:=uP (bP x) (by omega);refine eO.ro hT hW (λ|49=>some (.gen ⟨[(47,0)],[],[],[(0,.row false 1 ((cX (bP x)).map .str))],.tup []⟩)|_=>none) ?_;simp;refine⟨by simpa using ks,?_⟩;refine aD ?_;refine aA ?_;simp[Sx (ts:=ts) rfl,aR];refine aD ?_;by_cases hat:(lB ts d.name).isSome=true
     ·refine sN hT hW (λ_=>none) (by intro d;first|exact⟨rfl,λ_ h=>h⟩|(split<;>exact⟨rfl,λ_ h=>h⟩)) ?_;simp[hat];have he:EW ts d=7:=by rw[hrd,if_pos (.inl hat)]
      rw[qF (by rw[he];decide),he]at hi3;refine aC ?_;simp[hat];refine aA ?_;simp;refine aF ?_;simp[hi3,uO,hi2,hti]
     ·have hat':lB ts d.name=none:=by simpa using hat
      have hsl:=gO (bP x);have kc:=GJ (cX (bP x)) (by omega);have kd:=Co (cX (bP x)) (by omega);have hdl:=pZ (cX (bP x));have htk:List.take (bP x).length (List.map DV.str (cX (bP x)))=List.map DV.str (cX (bP x)):=List.take_of_length_le (by rw[List.length_map,hsl];exact Nat.le_refl _);refine eO.ro hT hW (λ|61=>some<| .plain ⟨.own 1 ((cX (bP x)).map .str),true⟩|62=>some (.gen ⟨[(61,0)],[],[],[(0,.row false 1 ((dG (cX (bP x))).map .str++List.replicate ((cX (bP x)).length-(dG (cX (bP x))).length) (.str [])))],.ow 0 0 (dG (cX (bP x))).length⟩)|_=>none) ?_;simp[hat',hsl,htk];refine⟨⟨by simpa using kc,by simpa [hsl]using kd⟩,?_⟩;refine aC ?_;simp;refine⟨λh15=>?_,λh15=>?_⟩
      ·have he:EW ts d=7:=by rw[hrd,if_pos (.inr (by omega))]
       rw[qF (by rw[he];decide),he]at hi3;refine aA ?_;simp;refine aF ?_;simp[hi3,uO,hi2,hti]
      ·have he:EW ts d=0:=by rw[hrd,if_neg (by rintro(h|h);exact hat h;omega)]
       rw[EY he,hP,hx]at hi3;refine aE ?_;simp;refine eO.rd [[77,78,1078],[77,78,1078],[5,77,78,1078],[5,77,78,1078],[77],[77],[],[],[],[5,77,78,1078]] [[],[],[],[],[],[],[],[77],[78,1078],[],[],[5],[14]] (λ_=>none) ?_;simp[TT (ts:=ts) hat' hi2];refine⟨⟨by omega,by omega⟩,?_⟩;refine aM ?_;simp;refine⟨by omega,?_⟩;refine Ks.mk (i+1,ts++[x]) (aB hp [0,2,5,20,21,22] [(2,2),(5,5),(14,14),(78,1078)] (hH:=by simp[Nj,h10])) ?_ ?_
       ·exact⟨by omega,by simp[hi2],hi3⟩
       ·omega
  ·refine bT ?_;simp;refine aA ?_;simp;refine aF ?_;have e:i=l.length:=by omega
   rw[e,List.drop_length,An]at hi3;rw[e]at hti;simp[hi3,uO,hi2,e,hti]
end
section
attribute[local simp] hZ.cond Nd.d_eq nd_t nd_dr nd_td ndsD aO bA
theorem Hh:∀(l:List Df) (ts:List Nd),(∀t∈ts,∃s,t=(parseS s).1)->(∀t∈(An ts l).1,∃s,t=(parseS s).1)/\ts.length<=(An ts l).1.length/\(An ts l).1.length<=ts.length+l.length/\((An ts l).2.2=0->(An ts l).1.length=ts.length+l.length/\(An ts l).2.1=((ts.length+l.length:Nat):Int))
 |[],ts,h=>⟨h,Nat.le_refl _,Nat.le_refl _,λ_=>⟨rfl,rfl⟩⟩
 |d::r,ts,h=>by
  by_cases e:EW ts d=0
  ·rw[EY e];obtain⟨h1,h2,h3,h4⟩:=Hh r (ts++[(parseS d.text).1]) λt ht=>by
    rcases List.mem_append.1 ht with ht|ht
    ·exact h t ht
    ·exact⟨d.text,by simpa using ht⟩
   simp only[List.length_append,List.length_cons,List.length_nil]at h2 h3 h4|-;refine⟨h1,by omega,by omega,λe=>?_⟩;obtain⟨h5,h6⟩:=h4 e;exact⟨by omega,by rw[h6];congr 1;omega⟩
  ·rw[qF e];exact⟨h,Nat.le_refl _,by simp,λh=>absurd h e⟩
theorem qG(l:List Df):(∀t∈(cR l).1,∃s,t=(parseS s).1)/\(cR l).1.length<=24/\((cR l).2.2=0->l.length<=24/\(cR l).1.length=l.length/\(cR l).2.1=(l.length:Int)):=by
 unfold cR;by_cases h:24<l.length
 ·rw[if_pos h];exact⟨by simp,by simp,λh=>by simp at h⟩
 ·rw[if_neg h];obtain⟨h1,h2,h3,h4⟩:=Hh l [] (by simp);simp only[List.length_nil,Nat.zero_add]at h3 h4;exact⟨h1,by omega,λe=>⟨by omega,(h4 e).1,(h4 e).2⟩⟩
theorem Nk(M:List Nat){H:cT}{k:Nat}:cB T H 89 (.d (.mp (wF M) (Cn M))) (.d (aH (k:Int))) false=⟨.d (.bool (decide (k∈M))),True,[]⟩:=GG M rfl
def BP(k:Int):Bool:=decide (k=14)
def EZ(ts:List Nd)(i:Nat):Bool:=decide (Ck ts (ts.getD i default)≠0)
def Fa(ts:List Nd)(i:Nat):Bool:=decide (i∈gJ ts BP i)
def cQ(p:Nat->Bool)(n:Nat):Option Nat:=(List.range n).find? p
theorem rT{p:Nat->Bool}{n i:Nat}(hi:i<n)(h:∀j<i,p j=false)(h1:p i=true):cQ p n=some i:=by
 unfold cQ;rw[List.find?_eq_some_iff_append];refine⟨h1,List.range i,(List.range (n-i-1)).map (·+(i+1)),?_,λj hj=>by simp[h j (List.mem_range.1 hj)]⟩;apply List.ext_getElem
 ·simp;omega
 ·intro k h2 h3;rw[List.getElem_range,List.getElem_append];split
  ·simp
  ·rename_i hk;simp only[List.length_range,Nat.not_lt]at hk;rw[List.getElem_cons];split
   ·rename_i e;simp only[List.length_range]at e;omega
   ·rename_i e;simp only[List.length_range]at e;simp;omega
theorem rU{p:Nat->Bool}{n:Nat}(h:∀j<n,p j=false):cQ p n=none:=by
 unfold cQ;rw[List.find?_eq_none];intro j hj;simp[h j (List.mem_range.1 hj)]
def jK(l:List Df):List Nd×Int×Int:=
 if(cR l).2.2≠0 then cR l
 else match cQ (EZ (cR l).1) (cR l).1.length with
  |some i=>((cR l).1,(i:Int),Ck (cR l).1 ((cR l).1.getD i default))
  |none=>match cQ (Fa (cR l).1) (cR l).1.length with
   |some i=>((cR l).1,(i:Int),13)
   |none=>((cR l).1,(l.length:Int),0)
theorem BQ(l:List Df):Ok Tryz.prog 28 [eC l] ⟨.tup [.d (uO (jK l).1),.d (aH (jK l).2.1),.d (aH (jK l).2.2)],false⟩:=by
 refine vO hT Tryz.func28 (by kernel_rfl) (c:=_) rfl Tryz.ntmps28 (by simp) Tryz.results28 (by simp) (by rfl) λw0 X hp=>?_;obtain⟨R,hR⟩:∃R,cR l=R:=⟨_,rfl⟩;obtain⟨ts,hts⟩:∃ts,R.1=ts:=⟨_,rfl⟩;have kr:=Sz l;have sp:=qG l;have hC:jK l=if(cR l).2.2≠0 then cR l else match cQ (EZ (cR l).1) (cR l).1.length with|some i=>((cR l).1,(i:Int),Ck (cR l).1 ((cR l).1.getD i default))|none=>match cQ (Fa (cR l).1) (cR l).1.length with|some i=>((cR l).1,(i:Int),13)|none=>((cR l).1,(l.length:Int),0):=rfl
 rw[hR]at kr sp hC;rw[hts]at kr sp hC;have hw:∀t∈ts,weighN t<=1000000000:=λt ht=>by obtain⟨s,rfl⟩:=sp.1 t ht;exact pC s
 have hl24:ts.length<=24:=sp.2.1;refine aA ?_;simp;refine aX hT hW (λ|14=>some<| .plain ⟨.tup [.d (uO ts),.d (aH R.2.1),.d (aH R.2.2)],false⟩|_=>none) ?_;simp[aR];refine⟨⟨by simpa using kr,by simp[uO]⟩,?_⟩;simp[uO];refine aD ?_;refine aA ?_;simp;refine aC ?_;simp;refine⟨λh2=>?_,λh2=>?_⟩
 ·rw[if_pos h2]at hC;refine aA ?_;simp;refine aF ?_;simp[hC,hts,uO]
 ·have h2':R.2.2=0:=by simpa using h2
  obtain⟨hln,htl,_⟩:=sp.2.2 h2';rw[if_neg (by simpa using h2')]at hC;refine aE ?_;simp;refine aD ?_;refine aA ?_;simp;refine aL ?_;refine aS (ι:=Nat) (λi=>aQ [(0,.d (eC l)),(2,.bx 2 0),(5,.bx 5 0),(24,.d (ndsD ts)),(25,.d (aH (ts.length:Nat))),(26,.d (aH (i:Nat)))]) (λi=>aG [(2,.box false [.nl,.d (.val (.map none))]),(5,.box false [.d (ndsD ts),.d (.mp (lF ts) (lQ ts.length))])]) (λi=>i<=ts.length/\∀j<i,EZ ts j=false) (λi=>ts.length-i) 0 (aB hp [0,2,5,24,25,26] [(2,2),(5,5)]) (⟨Nat.zero_le _,λj h=>absurd h (Nat.not_lt_zero _)⟩) λi hi5=>?_;refine aA ?_;simp;refine aD ?_;refine aC ?_;simp;refine⟨λh5=>?_,λh5=>?_⟩
  ·refine aE ?_;simp;refine aD ?_;refine aL ?_;refine aD ?_;have hi:i<ts.length:=by omega
   obtain⟨t,ht⟩:∃t,ts[i]=t:=⟨_,rfl⟩;have htm:t∈ts:=by rw[<-ht];exact List.getElem_mem hi
   have hget:ts.getD i default=t:=(by rw[List.getD_eq_getElem?_getD,List.getElem?_eq_getElem hi,ht];rfl);have hbi:EZ ts i=decide (Ck ts t≠0):=by unfold EZ;rw[hget]
   have km:=Ji ts t (hw t htm) hw;refine aM ?_;simp[hi,ht];refine aX hT hW (λ|33=>some<| .plain ⟨.d (aH (Ck ts t)),true⟩|_=>none) ?_;simp;refine⟨by simpa [uO]using km,?_⟩;refine aA ?_;simp;refine aC ?_;simp;refine⟨λh8=>?_,λh8=>?_⟩
   ·have hf:=rT hi hi5.2 (by rw[hbi];simpa using h8);rw[hf]at hC;simp only[hget]at hC;refine aA ?_;simp;refine aF ?_;simp[hC,uO]
   ·have hbad:EZ ts i=false:=by rw[hbi];simpa using h8
    refine aE ?_;simp;refine aM ?_;simp;refine⟨by omega,?_⟩;refine Ks.mk (i+1) (aB hp [0,2,5,24,25,26] [(2,2),(5,5)]) ?_ ?_
    ·refine⟨by omega,λj hj=>?_⟩;rcases Nat.lt_succ_iff_lt_or_eq.1 hj with hj|rfl
     ·exact hi5.2 j hj
     ·exact hbad
    ·omega
  ·refine bT ?_;simp;refine aD ?_;refine aD ?_;have hn1:=rU (p:=EZ ts) (n:=ts.length) λj hj=>hi5.2 j (by omega);rw[hn1]at hC;refine aM ?_;simp;refine aL ?_;refine aS (ι:=Nat) (λi=>aQ [(0,.d (eC l)),(2,.bx 2 0),(5,.bx 5 0),(42,.d (aH (ts.length:Nat))),(43,.d (aH (i:Nat)))]) (λi=>aG [(2,.box false [.nl,.d (.val (.map none))]),(5,.box false [.d (ndsD ts),.d (.mp (lF ts) (lQ ts.length))])]) (λi=>i<=ts.length/\∀j<i,Fa ts j=false) (λi=>ts.length-i) 0 (aB hp [0,2,5,42,43] [(2,2),(5,5)]) (⟨Nat.zero_le _,λj h=>absurd h (Nat.not_lt_zero _)⟩) λi hi12=>?_;refine aA ?_;simp;refine aD ?_;refine aC ?_;simp;refine⟨λh12=>?_,λh12=>?_⟩
   ·refine aE ?_;simp;refine aD ?_;refine aL ?_;refine aA ?_;simp;refine aD ?_;have hi:i<ts.length:=by omega
    have kre:=Bx ts BP 63 i hw (λk=>MH k) hi;refine eO.ro hT hW (λ|48=>some<| .plain ⟨.d (.mp (wF (gJ ts BP i)) (Cn (gJ ts BP i))),false⟩|_=>none) ?_;simp[Nk (gJ ts BP i)];refine⟨by simpa [uO]using kre,?_⟩;refine aC ?_;simp;refine⟨λh14=>?_,λh14=>?_⟩
    ·have hf:=rT hi hi12.2 (by simpa [Fa]using h14);rw[hf]at hC;refine aA ?_;simp;refine aF ?_;simp[hC,uO]
    ·have hbad:Fa ts i=false:=by simpa [Fa]using h14
     refine aE ?_;simp;refine aM ?_;simp;refine⟨by omega,?_⟩;refine Ks.mk (i+1) (aB hp [0,2,5,42,43] [(2,2),(5,5)]) ?_ ?_
     ·refine⟨by omega,λj hj=>?_⟩;rcases Nat.lt_succ_iff_lt_or_eq.1 hj with hj|rfl
      ·exact hi12.2 j hj
      ·exact hbad
     ·omega
   ·refine bT ?_;simp;refine aA ?_;simp;refine aF ?_;have hn2:=rU (p:=Fa ts) (n:=ts.length) λj hj=>hi12.2 j (by omega);rw[hn2]at hC;simp[hC,uO]
end
section
attribute[local simp] hZ.cond Nd.d_eq nd_t nd_dr nd_td ndsD aO bA
def Fb(a b:aJ):Int:=if Op.bytesLess a b=true then -1 else if a=b then 0 else 1
theorem KY{a b:aJ}:Fb a b<0↔Op.bytesLess a b=true:=by
 unfold Fb;by_cases h1:Op.bytesLess a b=true
 ·rw[if_pos h1];simp[h1]
 ·rw[if_neg h1];split<;>simp[h1]
def Ab(out:List Df)(x:Df):List Df:=mQ (nW (λy=>Op.bytesLess x.name y.name) out out.length) x out
def cM(l:List Df):List Df:=l.foldl Ab []
theorem Qv(out:List Df)(x:Df):(Ab out x).length=out.length+1:=pQ
theorem mE(l:List Df):(cM l).length=l.length:=by
 have:∀(l out:List Df),(l.foldl Ab out).length=out.length+l.length:=λl=>by
  induction l with
  |nil=>intro out;rfl
  |cons x r ih=>intro out;rw[List.foldl_cons,ih,Qv,List.length_cons];omega
 rw[cM,this];simp
theorem JH{l:List Df}{i:Nat}(h:i<l.length):cM (l.take (i+1))=Ab (cM (l.take i)) l[i]:=by
 unfold cM;rw[List.take_succ_eq_append_getElem h,List.foldl_append];rfl
def nD(A o t:List Df)(x:Df)(j:Nat):List Df:=A++(mQ j x o++t)
theorem Qw{A o t:List Df}{x:Df}{j:Nat}:(nD A o t x j).length=A.length+o.length+1+t.length:=by
 unfold nD;rw[List.length_append,List.length_append,pQ];omega
theorem SA{A o t:List Df}{x:Df}{j:Nat}(hj:j<=o.length)(h:A.length+j<(nD A o t x j).length):(nD A o t x j)[A.length+j]=x:=by
 have h0:(nD A o t x j)[A.length+j]? =some x:=by
  unfold nD mQ;rw[List.getElem?_append_right (by omega),Nat.add_sub_cancel_left,List.getElem?_append_left (by simp;omega),List.getElem?_append_right (by simp;omega)];simp[Nat.min_eq_left hj]
 rw[List.getElem?_eq_getElem h]at h0;exact Option.some.inj h0
theorem Nl{A o t:List Df}{x:Df}{j:Nat}(hj:j<o.length)(h:A.length+j<(nD A o t x (j+1)).length):(nD A o t x (j+1))[A.length+j]=o[j]:=by
 have h0:(nD A o t x (j+1))[A.length+j]? =some o[j]:=by
  unfold nD mQ;rw[List.getElem?_append_right (by omega),Nat.add_sub_cancel_left,List.getElem?_append_left (by simp;omega),List.getElem?_append_left (by simp;omega),List.getElem?_take_of_lt (by omega),List.getElem?_eq_getElem hj]
 rw[List.getElem?_eq_getElem h]at h0;exact Option.some.inj h0
theorem Nn{A o t:List Df}{x:Df}{j:Nat}(hj:j<o.length):((nD A o t x (j+1)).set (A.length+(j+1)) o[j]).set (A.length+j) x=nD A o t x j:=by
 unfold nD mQ;have e1:o.take (j+1)=o.take j++[o[j]]:=List.take_succ_eq_append_getElem hj;have e2:o.drop j=o[j]::o.drop (j+1):=List.drop_eq_getElem_cons hj;have hl:(o.take j).length=j:=by simp;omega
 rw[e1,e2];rw[List.set_append_right _ _ (by omega),Nat.add_sub_cancel_left,List.set_append_right _ _ (by omega),Nat.add_sub_cancel_left];congr 1;simp only[List.append_assoc,List.cons_append,List.nil_append];rw[List.set_append_right _ _ (by omega),hl,show j+1-j=1 by omega,List.set_append_right _ _ (by omega),hl,Nat.sub_self];rfl
theorem Qx{A o t s:List Df}{x:Df}{a j:Nat}(ha:A.length=a)(e:s=nD A o t x j)(hj:j<=o.length)(h:a+j<s.length):s[a+j]=x:=by
 subst e;subst ha;exact SA hj h
theorem JI{A o t s:List Df}{x:Df}{a j:Nat}(ha:A.length=a)(e:s=nD A o t x (j+1))(hj:j<o.length)(h:a+j<s.length):s[a+j]=o[j]:=by
 subst e;subst ha;exact Nl hj h
def Is{α:Type}(a b:α):Prop:=a=b
theorem zO(s:aJ):Ok Tryz.prog 71 [.str s] ⟨.d (.bool false),true⟩:=by
 refine bF Tryz.func71 rfl Tryz.ntmps71 Tryz.results71 λw0 X hp=>?_;refine aA ?_;simp;refine aA ?_;simp;refine aF ?_;simp
theorem Np(a b:aJ):Ok Tryz.prog 41 [.str a,.str b] ⟨.d (aH (Fb a b)),true⟩:=by
 refine bF Tryz.func41 rfl Tryz.ntmps41 Tryz.results41 λw0 X hp=>?_;refine aA ?_;simp;refine aX hT hW (λ|8=>some<| .plain ⟨.d (.bool false),true⟩|_=>none) ?_;simp;refine⟨zO a,?_⟩;refine aX hT hW (λ|10=>some<| .plain ⟨.d (.bool false),true⟩|_=>none) ?_;simp;refine⟨zO b,?_⟩;refine aD ?_;refine aA ?_;simp;refine aC ?_;simp;refine aE ?_;simp;refine aD ?_;refine aA ?_;simp;refine aC ?_;simp;refine aE ?_;simp;refine aD ?_;refine aA ?_;simp;refine aC ?_;simp;refine⟨λh9=>?_,λh9=>?_⟩
 ·refine aA ?_;simp;refine aF ?_;simp[Fb,h9]
 ·refine aE ?_;simp;refine aD ?_;refine aA ?_;simp;refine aC ?_;simp;refine⟨λh11 h12=>?_,λh11=>?_⟩
  ·refine aA ?_;simp;refine aF ?_;simp[Fb,h9,h12]
  ·refine aE ?_;simp;refine aA ?_;simp;refine aF ?_;have e:=h11 h9;subst e;simp[Fb,h9]
theorem Qy(a b:Df):Ok Tryz.prog 40 [a.d,b.d] ⟨.d (aH (Fb a.name b.name)),true⟩:=by
 refine bF Tryz.func40 rfl Tryz.ntmps40 Tryz.results40 λw0 X hp=>?_;refine aA ?_;simp;refine aX hT hW (λ|9=>some<| .plain ⟨.d (aH (Fb a.name b.name)),true⟩|_=>none) ?_;simp;refine⟨Np _ _,?_⟩;refine aF ?_;simp
theorem Qz(A C D:List Df)(hl:(A++C++D).length<=1000000):jA Tryz.prog 117 [.ow 0 0 (A++C++D).length,.d (aH A.length),.d (aH (A.length+C.length)),.d (.fn 40 [])] [(0,.row false 2 ((A++C++D).map Df.d))] [(0,.row false 2 ((A++cM C++D).map Df.d))] (.tup []):=by
 obtain⟨N,hN⟩:∃N,(A++C++D).length=N:=⟨_,rfl⟩;obtain⟨a,ha⟩:∃a,A.length=a:=⟨_,rfl⟩;have hs1:A++C++D=A++(cM (C.take 1)++(C.drop 1++D)):=by cases C<;>simp[cM,Ab,mQ,nW]
 rw[hN]at hl|-;rw[ha];have hNl:a+C.length+D.length=N:=by rw[<-hN,<-ha];simp;omega
 refine pU Tryz.func117 rfl Tryz.ntmps117 Tryz.results117 λw0 X hp=>?_;refine aA ?_;simp;refine⟨by omega,?_⟩;refine aL ?_;refine aS (ι:=Nat×List Df) (λ⟨i,r⟩=>aQ [(0,.ow 0 0 N),(1,.d (aH a)),(2,.d (aH (a+C.length))),(3,.d (.fn 40 [])),(8,.d (aH (a+i)))]) (λ⟨i,r⟩=>aG [(0,.row false 2 (r.map Df.d))]) (λ⟨i,r⟩=>1<=i/\i<=C.length+1/\r=A++(cM (C.take i)++(C.drop i++D))) (λ⟨i,r⟩=>C.length+1-i) (1,A++C++D) (aB hp [0,1,2,3,8] [(0,0)]) (⟨by omega,by omega,hs1⟩) λ⟨i,r⟩ hi1=>?_;refine aD ?_;refine aA ?_;simp;refine aC ?_;simp;refine⟨λh1=>?_,λh1=>?_⟩
 ·refine aE ?_;simp;refine aZ (ι:=List Df) (λs=>aQ [(0,.ow 0 0 N),(1,.d (aH a)),(2,.d (aH (a+C.length))),(3,.d (.fn 40 [])),(8,.d (aH (a+i)))]) (λs=>aG [(0,.row false 2 (s.map Df.d))]) (λs=>Is s (A++(cM (C.take (i+1))++(C.drop (i+1)++D)))) ?_ λs hc2=>?_
  ·refine aL ?_;refine aD ?_;have hi:i<C.length:=by omega
   obtain⟨hi1,hi2,hr⟩:=hi1;obtain⟨x,hx⟩:∃x,C[i]=x:=⟨_,rfl⟩;obtain⟨o,ho⟩:∃o,cM (C.take i)=o:=⟨_,rfl⟩;have hol:o.length=i:=by rw[<-ho,mE,List.length_take];omega
   obtain⟨t,ht⟩:∃t,C.drop (i+1)++D=t:=⟨_,rfl⟩;have hcd:C.drop i=x::C.drop (i+1):=by rw[<-hx];exact List.drop_eq_getElem_cons hi
   have hr0:r=nD A o t x i:=by
    have e1:o.take i=o:=List.take_of_length_le (by rw[hol];exact Nat.le_refl _);have e2:o.drop i=[]:=List.drop_of_length_le (by rw[hol];exact Nat.le_refl _);rw[hr,ho,hcd,<-ht];unfold nD mQ;rw[e1,e2];simp
   have hlen:∀j,(nD A o t x j).length=N:=λj=>by rw[Qw,<-hNl,<-ht,hol,ha,List.length_append,List.length_drop];omega
   have hfin:∀j,j<=i->nW (λy=>Op.bytesLess x.name y.name) o i=j->nD A o t x j=A++(cM (C.take (i+1))++(C.drop (i+1)++D)):=λj _ hj=>by
    rw[JH hi,ho,hx];unfold Ab nD;rw[hol,hj,<-ht]
   refine aM ?_;simp;refine aL ?_;refine aS (ι:=Nat×List Df) (λ⟨j,s⟩=>aQ [(0,.ow 0 0 N),(1,.d (aH a)),(2,.d (aH (a+C.length))),(3,.d (.fn 40 [])),(8,.d (aH (a+i))),(9,.d (aH (a+j)))]) (λ⟨j,s⟩=>aG [(0,.row false 2 (s.map Df.d))]) (λ⟨j,s⟩=>j<=i/\s=nD A o t x j/\nW (λy=>Op.bytesLess x.name y.name) o i=nW (λy=>Op.bytesLess x.name y.name) o j) (λ⟨j,s⟩=>j) (i,r) (aB hp [0,1,2,3,8,9] [(0,0)]) (⟨Nat.le_refl _,hr0,rfl⟩) λ⟨j,s⟩ hi4=>?_;refine aD ?_;refine aD ?_;rcases j with _|j
   ·refine eO.rd [] [[],[],[],[],[],[],[],[],[],[],[],[],[],[],[32]] (λ_=>none) ?_;simp[Nat.zero_le];refine aC ?_;simp[Nat.zero_le];refine bT ?_;simp;refine RJ.mk s (aB hp [0,1,2,3,8] [(0,0)]) ?_;exact hi4.2.1.trans (hfin 0 (Nat.zero_le _) (by rw[hi4.2.2];rfl))
   ·have g1:a+(j+1)<s.length:=by rw[hi4.2.1,hlen];have:=hi4.1;omega
    have hjo:j<o.length:=by have:=hi4.1;omega
    have gx:s[a+(j+1)]=x:=Qx ha hi4.2.1 (by omega) g1;have gp:s[a+j]=o[j]:=JI ha hi4.2.1 hjo (by omega);refine eO.rd [] [[],[],[],[],[],[],[],[],[],[],[],[],[],[],[32]] (λ|32=>some<| .plain ⟨.d (aH (Fb s[a+(j+1)].name s[a+j].name)),true⟩|_=>none) ?_;simp[g1,(show a+j<s.length by omega),(show(a:Int)<(a:Int)+((j:Int)+1)by omega),(show((a:Int)+((j:Int)+1)).toNat=a+(j+1)by omega),(show a+(j+1)- 1=a+j by omega)];have hsN:s.length=N:=by rw[hi4.2.1,hlen]
    refine⟨⟨⟨⟨⟨by omega,by omega⟩,by omega⟩,by omega⟩,by simpa using Qy s[a+(j+1)] s[a+j]⟩,?_⟩;refine aC ?_;simp;refine⟨λh4=>?_,λh4=>?_⟩
    ·refine aE ?_;simp;refine aD ?_;refine aL ?_;refine eO.rd [[],[],[0],[0],[0]] [[],[],[],[],[],[],[],[],[],[],[],[],[],[],[],[0],[],[0]] (λ_=>none) ?_;simp[g1,(show a+j<s.length by omega),(show((a:Int)+((j:Int)+1)).toNat=a+(j+1)by omega),(show a+(j+1)- 1=a+j by omega)];refine⟨by omega,?_⟩;refine aM ?_;simp;refine⟨by omega,?_⟩;refine Ks.mk (j,(s.set (a+(j+1)) s[a+j]).set (a+j) s[a+(j+1)]) (aB hp [0,1,2,3,8,9] [(0,0)] (by simp[show(a:Int)+((j:Int)+1)- 1=a+j by omega]) (by simp[List.map_set,Df.d])) ?_ ?_
     ·have hp4:Op.bytesLess x.name o[j].name=true:=KY.1 (by rw[gx,gp]at h4;exact h4);refine⟨by dsimp only;omega,?_,?_⟩
      ·show(s.set (a+(j+1)) s[a+j]).set (a+j) s[a+(j+1)]=nD A o t x j;rw[gx,gp,hi4.2.1,<-ha];exact Nn hjo
      ·show _=nW _ o j;rw[hi4.2.2];exact KB hjo hp4
     ·omega
    ·refine bT ?_;simp;refine RJ.mk s (aB hp [0,1,2,3,8] [(0,0)]) ?_;have hp4:¬Op.bytesLess x.name o[j].name=true:=λe=>by rw[gx,gp]at h4;have:=KY.2 e;omega
     exact hi4.2.1.trans (hfin (j+1) hi4.1 (by rw[hi4.2.2];exact CP λi' hi' hlt=>(by have e:i'=j:=(by omega);subst e;simpa using hp4)))
  ·refine aM ?_;simp;refine⟨by omega,?_⟩;refine Ks.mk (i+1,s) (aB hp [0,1,2,3,8] [(0,0)] (by simp[show(a:Int)+(i:Int)+1=a+((i:Int)+1)by omega])) ?_ ?_
   ·exact⟨by dsimp only;omega,by dsimp only;omega,hc2⟩
   ·omega
 ·refine bT ?_;simp;obtain⟨_,hi2,hr⟩:=hi1;have hr':r=A++(cM C++D):=by rw[hr,List.take_of_length_le (by omega),List.drop_of_length_le (by omega),List.nil_append]
  exact aB hp [] [(0,0)] (hH:=by simp[hr'])
end
section
attribute[local simp] hZ.cond Nd.d_eq nd_t nd_dr nd_td ndsD aO bA
theorem Nq(l:List Df)(hl:l.length<20):jA Tryz.prog 70 [.ow 0 0 l.length,.d (aH l.length),.d (.fn 40 [])] [(0,.row false 2 (l.map Df.d))] [(0,.row false 2 ((cM l).map Df.d))] (.tup []):=by
 refine pU Tryz.func70 rfl Tryz.ntmps70 Tryz.results70 λw0 X hp=>?_;refine aA ?_;simp;refine aA ?_;simp;refine aD ?_;refine aL ?_;refine aS (ι:=Nat) (λi=>aQ [(0,.ow 0 0 l.length),(1,.d (aH (l.length:Nat))),(2,.d (.fn 40 [])),(6,.d (aH 20)),(7,.d (aH 0)),(8,.d (aH 20))]) (λi=>aG [(0,.row false 2 (l.map Df.d))]) (λi=>True) (λi=>0) 0 (aB hp [0,1,2,6,7,8] [(0,0)]) (trivial) λi hi2=>?_;refine aD ?_;refine aA ?_;simp;refine aC ?_;simp[(show¬(20<=(l.length:Int))by omega)];refine bT ?_;simp;refine aD ?_;have ki:=Qz [] l [] (by simp;omega);refine eO.ro hT hW (λ|27=>some (.gen ⟨[(0,0)],[],[],[(0,.row false 2 ((cM l).map Df.d))],.tup []⟩)|_=>none) ?_;simp;refine⟨by simpa using ki,?_⟩;refine aL ?_;refine aS (ι:=Nat) (λi=>aQ [(0,.ow 0 0 l.length),(1,.d (aH (l.length:Nat))),(2,.d (.fn 40 [])),(6,.d (aH 20)),(7,.d (aH 0)),(8,.d (aH 20))]) (λi=>aG [(0,.row false 2 ((cM l).map Df.d))]) (λi=>True) (λi=>0) 0 (aB hp [0,1,2,6,7,8] [(0,0)]) (trivial) λi hi7=>?_;refine aD ?_;refine aA ?_;simp;refine aC ?_;simp[(show¬(20<(l.length:Int))by omega)];refine bT ?_;simp;exact aB hp [] [(0,0)]
theorem Cq(l:List Df)(hl:l.length<20):jA Tryz.prog 39 [.ow 0 0 l.length,.d (.fn 40 [])] [(0,.row false 2 (l.map Df.d))] [(0,.row false 2 ((cM l).map Df.d))] (.tup []):=by
 refine pU Tryz.func39 rfl Tryz.ntmps39 Tryz.results39 λw0 X hp=>?_;have ks:=Nq l hl;refine eO.ro hT hW (λ|8=>some (.gen ⟨[(0,0)],[],[],[(0,.row false 2 ((cM l).map Df.d))],.tup []⟩)|_=>none) ?_;simp;refine⟨by simpa using ks,?_⟩;exact aB hp [] [(0,0)]
theorem JJ(l:List Df)(hl:l.length<=1000000000000):Ok Tryz.prog 38 [eC l] ⟨.own 2 (l.map Df.d),true⟩:=by
 refine bF Tryz.func38 rfl Tryz.ntmps38 Tryz.results38 λw0 X hp=>?_;refine aA ?_;simp;refine aD ?_;refine aD ?_;refine Bc hT hW 4 (decide (l=[])) (λ_=>none) (λ_=>⟨rfl,λ_ h=>h⟩) (by kernel_rfl) λb1 hb1=>?_;simp;refine aC ?_;simp;refine⟨λh1=>?_,λh1=>?_⟩
 ·refine aA ?_;simp;refine aF ?_;have:=hb1 h1;simp at this;simp[this]
 ·refine aE ?_;simp;refine aA ?_;simp;refine⟨by omega,?_⟩;refine aF ?_;simp
theorem Fc(l:List Df)(hl:l.length<20):Ok Tryz.prog 15 [eC l] ⟨.own 2 ((cM l).map Df.d),true⟩:=by
 refine bF Tryz.func15 rfl Tryz.ntmps15 Tryz.results15 λw0 X hp=>?_;refine aA ?_;simp;refine aD ?_;have kc:=JJ l (by omega);refine eO.ro hT hW (λ|5=>some<| .plain ⟨.own 2 (l.map Df.d),true⟩|_=>none) ?_;simp;refine⟨by simpa using kc,?_⟩;refine aD ?_;have ks:=Cq l hl;refine eO.ro hT hW (λ|7=>some (.gen ⟨[(5,0)],[],[],[(0,.row false 2 ((cM l).map Df.d))],.tup []⟩)|_=>none) ?_;simp;refine⟨by simpa using ks,?_⟩;refine aA ?_;simp;refine aF ?_;have htk:List.take l.length (List.map Df.d (cM l))=List.map Df.d (cM l):=List.take_of_length_le (by rw[List.length_map,mE];exact Nat.le_refl _);simp[mE,htk]
theorem QA(l:List Df):Ok Tryz.prog 8 [eC l] ⟨.tup [.d (aH (jK l).2.1),.d (aH (jK l).2.2)],true⟩:=by
 refine Ok.two Tryz.func8 (by kernel_rfl) (c:=_) rfl Tryz.ntmps8 (by simp) Tryz.results8 rfl λw0 X hp=>?_;refine aA ?_;simp;refine aD ?_;have kc:=BQ l;refine eO.ro hT hW (λ|9=>some<| .plain ⟨.tup [.d (uO (jK l).1),.d (aH (jK l).2.1),.d (aH (jK l).2.2)],false⟩|_=>none) ?_;simp[aR];refine⟨⟨by simpa using kc,by simp[uO]⟩,?_⟩;simp[uO];refine aA ?_;simp;refine aF ?_;simp
def fM(ts:List Nd):List aJ:=(ts.filter λt=>decide (t.kind=6)).map Nd.text
theorem Hi{ts:List Nd}{i:Nat}(h:i<ts.length):fM (ts.take (i+1))=if ts[i].kind=6 then fM (ts.take i)++[ts[i].text]else fM (ts.take i):=by
 unfold fM;rw[List.take_succ_eq_append_getElem h,List.filter_append,List.map_append];by_cases e:ts[i].kind=6<;>simp[e]
theorem BR(ts:List Nd):(fM ts).length<=ts.length:=by unfold fM;rw[List.length_map];exact List.length_filter_le _ _
def Fd(l:List Df):List aJ:=if(jK l).2.2≠0 then []else cX (fM (jK l).1)
theorem Fe(l:List Df):(jK l).1=(cR l).1:=by
 unfold jK;split
 ·rfl
 ·split
  ·rfl
  ·split<;>rfl
theorem QB(l:List Df):Ok Tryz.prog 12 [eC l] ⟨.own 1 ((Fd l).map .str),true⟩:=by
 refine bF Tryz.func12 rfl Tryz.ntmps12 Tryz.results12 λw0 X hp=>?_;obtain⟨ts,hts⟩:∃ts,(jK l).1=ts:=⟨_,rfl⟩;have hl24:ts.length<=24:=by rw[<-hts,Fe];exact(qG l).2.1
 have hTe:Fd l=if(jK l).2.2≠0 then []else cX (fM ts):=by rw[<-hts];rfl
 refine aA ?_;simp;refine aD ?_;have kc:=BQ l;rw[hts]at kc;refine eO.ro hT hW (λ|11=>some<| .plain ⟨.tup [.d (uO ts),.d (aH (jK l).2.1),.d (aH (jK l).2.2)],false⟩|_=>none) ?_;simp[aR];refine⟨⟨by simpa using kc,by simp[uO]⟩,?_⟩;simp[uO];refine aD ?_;refine aA ?_;simp;refine aC ?_;simp;refine⟨λh2=>?_,λh2=>?_⟩
 ·rw[if_pos h2]at hTe;refine aA ?_;simp;refine aF ?_;simp[hTe]
 ·rw[if_neg (by simpa using h2)]at hTe;refine aE ?_;simp;refine aA ?_;simp;refine aD ?_;refine aA ?_;simp;refine aL ?_;refine aS (ι:=Nat) (λi=>aQ [(6,.ow 6 0 (fM (ts.take i)).length),(18,.d (ndsD ts)),(19,.d (aH (ts.length:Nat))),(20,.d (aH (i:Nat)))]) (λi=>aG [(6,.row false 1 ((fM (ts.take i)).map .str))]) (λi=>i<=ts.length) (λi=>ts.length-i) 0 (aB hp [6,18,19,20] [(6,6)] (by simp[fM]) (by simp[fM])) (Nat.zero_le _) λi hi6=>?_;refine aA ?_;simp;refine aD ?_;refine aC ?_;simp;refine⟨λh6=>?_,λh6=>?_⟩
  ·refine aE ?_;simp;refine aD ?_;refine aL ?_;refine aD ?_;have hi:i<ts.length:=by omega
   obtain⟨t,ht⟩:∃t,ts[i]=t:=⟨_,rfl⟩;have hn:=Hi hi;have hfl:=BR (ts.take i);rw[List.length_take]at hfl;rw[ht]at hn;refine aM ?_;simp[hi,ht];refine aA ?_;simp;refine aC ?_;simp;refine⟨λh8=>?_,λh8=>?_⟩
   ·simp only[if_pos h8]at hn;refine aM ?_;simp;refine⟨by omega,?_⟩;refine aM ?_;simp;refine⟨by omega,?_⟩;refine Ks.mk (i+1) (aB hp [6,18,19,20] [(31,6)] (by simp[hn]) (by simp[hn])) ?_ ?_
    ·omega
    ·omega
   ·simp only[if_neg h8]at hn;refine aE ?_;simp;refine aM ?_;simp;refine⟨by omega,?_⟩;refine Ks.mk (i+1) (aB hp [6,18,19,20] [(6,6)] (by simp[hn]) (by simp[hn])) ?_ ?_
    ·omega
    ·omega
  ·refine bT ?_;simp;refine aD ?_;have e:i=ts.length:=by omega
   subst e;rw[List.take_length];have hfl:=BR ts;have ks:=uP (fM ts) (by omega);refine eO.ro hT hW (λ|34=>some (.gen ⟨[(6,0)],[],[],[(0,.row false 1 ((cX (fM ts)).map .str))],.tup []⟩)|_=>none) ?_;simp;refine⟨by simpa using ks,?_⟩;refine aA ?_;simp;refine aF ?_;have htk:List.take (fM ts).length (List.map DV.str (cX (fM ts)))=List.map DV.str (cX (fM ts)):=List.take_of_length_le (by rw[List.length_map,gO];exact Nat.le_refl _);simp[hTe,gO,htk]
def nU(d:Df):aJ:=if(parseS d.text).2.2≠0 then d.text else printS (parseS d.text).1
theorem BS(d:Df):Ok Tryz.prog 67 [d.d] ⟨.d (.str (nU d)),true⟩:=by
 refine bF Tryz.func67 rfl Tryz.ntmps67 Tryz.results67 λw0 X hp=>?_;obtain⟨P,hP⟩:∃P,parseS d.text=P:=⟨_,rfl⟩;have kp:=BO d.text;have hwt:=pC d.text;have hM:nU d=if P.2.2≠0 then d.text else printS P.1:=by unfold nU;rw[hP]
 rw[hP]at kp hwt;obtain⟨x,hx⟩:∃x,P.1=x:=⟨_,rfl⟩;rw[hx]at kp hwt hM;refine aA ?_;simp;refine aX hT hW (λ|9=>some<| .plain ⟨.tup [.d x.d,.d (aH P.2.1),.d (aH P.2.2)],false⟩|_=>none) ?_;simp[aR];refine⟨by simpa using kp,?_⟩;refine aD ?_;refine aA ?_;simp;refine aC ?_;simp;refine⟨λh2=>?_,λh2=>?_⟩
 ·rw[if_pos h2]at hM;refine aA ?_;simp;refine aF ?_;simp[hM]
 ·rw[if_neg (by simpa using h2)]at hM;refine aE ?_;simp;refine aD ?_;have kr:=PK x hwt;refine eO.ro hT hW (λ|18=>some<| .plain ⟨.d (.str (printS x)),true⟩|_=>none) ?_;simp;refine⟨by simpa using kr,?_⟩;refine aF ?_;simp[hM]
end
open Go.Proofs Go.Sort Go.Shelf Go.RowKit
theorem TU{w:World}{E:Nat->Prop}{s:aJ}{v:Value}(h:RD w E (.str s) v):v=pW s:=by cases h;rfl
def rV(e:MapEntry):aJ:=match e.key with
 | .string b=>b.data.toList
 |_=>[]
theorem Ff(s:List aJ)(ds:List DV)(hN:s.length*16<=140737488355328):
 Lk Tryz.prog 134 [.nl,.d (.fn 82 [.ro [.mp (s.map .str) ds]])] []
  (λfin ret=>∃p:List aJ,p.Perm s/\fin=[(0,.dead),(1,.row false 1 (p.map .str))]/\ret=.ow 1 0 p.length):=by
 refine⟨⟨_,Tryz.func134,by kernel_rfl,by rfl⟩,λw X β vs m0 hvl hr=>?_⟩
 match vs,hvl with
 |[v0,v1],_=>
 have r0:=hr 0 _ _ rfl rfl;have r1:=hr 1 _ _ rfl rfl;obtain⟨a0,rfl⟩:∃a,v0=.slice a 0 0:=by cases r0 with|nl a=>exact⟨a,rfl⟩
 obtain⟨Bm,ob,b,clock,arr,rfl,hcell,hblk,hk,hborn,hkey⟩:∃Bm ob b clock arr,v1=.func (.func 82) #[] #[.pointer (some ⟨Bm,ob,none⟩)]/\w.cell? ⟨Bm,ob,none⟩=some (.map (some b))/\w.heap[b]? =some (.map arr clock)/\
  (s.map DV.str).length=arr.size/\eR arr clock/\∀(i:Nat) (d:DV) (e:MapEntry),(s.map DV.str)[i]? =some d->arr[i]? =some e->RD w (Ex X β (aG [])) d e.key:=by
  cases r1 with
  |d _ _ h=>cases h with
   |fn _ _ us hl hc=>
    match us,hl with
    |[u],_=>
    have h0:=hc 0 _ u rfl rfl;cases h0 with
    |ro _ Bm ob us2 hBm hul _ _ hcell h=>
     match us2,hul with
     |[u2],_=>
     have h2:=h 0 _ u2 rfl rfl;have hc2:=hcell 0 u2 rfl;cases h2 with
     |mp _ _ b clock arr hb _ hblk hk _ hborn hkey _=>exact⟨Bm,ob,b,clock,arr,rfl,by simpa using hc2,hblk,hk,hborn,hkey⟩
 rw[List.length_map]at hk;have hkeys:∀(i:Nat) (h1:i<s.length) (h2:i<arr.size),arr[i].key=pW s[i]:=λi h1 h2=>TU (hkey i _ _ (by simp[h1]) (Array.getElem?_eq_getElem h2));have hk2:∀e∈arr.toList,e.key=pW (rV e):=λe he=>by
  obtain⟨i,hi,rfl⟩:=List.getElem_of_mem he;have hi':i<arr.size:=by simpa using hi
  have:=hkeys i (by omega) hi';simp only[Array.getElem_toList];simp[rV,this,pW]
 have hmap:arr.toList.map rV=s:=by
  apply List.ext_getElem (by simpa using hk.symm);intro i h1 h2;have:=hkeys i h2 (by omega);simp[rV,this,pW]
 obtain⟨m,_⟩:=qW m0 (d:=0) (by simp[aG,dX]) (s:=1) (by decide);refine(EL w (.slice a0 0 0) [] none ⟨rfl,by simp,.inl ⟨rfl,rfl,a0,rfl⟩⟩ (λg hg=>by cases hg) hcell (by simp) hblk (by simp) hborn rV hk2 (by rw[<-hk];simpa using hN)).mono ?_;rintro e w' ⟨v,ss,gb,rfl,hp,hr',hst,hhd⟩;rw[hmap]at hp;obtain⟨β',hm,hR⟩:=m.appended mX (id:=0) (new:=1) (l:=[]) (by rw[aK];rfl) (by rw[bO _ _ (by decide)];simp[aG,dX]) (.inl ⟨rfl,rfl⟩) hr' hst hhd;have hfin:aG [(0,.dead),(1,.row false 1 (ss.map .str))]=bR (bR (bR (aG []) 0 (.row false 1 [])) 0 .dead) 1 (.row false 1 (ss.map .str)):=by
  funext j;simp only[aG,dX,bR];by_cases h0:j=0<;>by_cases h1:j=1<;>simp_all
 exact⟨v,β',_,_,⟨ss,hp,rfl,rfl⟩,rfl,by rw[hfin];simpa using hm,by rw[hfin];simpa using hR⟩
theorem JK(s:List aJ)(ds:List DV)(hN:s.length*16<=140737488355328):Rm Tryz.prog 81 [.fn 82 [.ro [.mp (s.map .str) ds]]] (λr=>(λv=>∃p:List aJ,p.Perm s/\v=.own 1 (p.map .str)) r.v/\r.fresh=true):=by
 refine Rm.ret (Rel:=λv=>∃p:List aJ,p.Perm s/\v=.own 1 (p.map .str)) Tryz.func81 (by kernel_rfl) (c:=_) rfl Tryz.ntmps81 (by simp) Tryz.results81 λw0 X hp=>?_;refine aA ?_;simp;refine aD ?_;refine Gh hT hW 4 [] [(1,4)] [1] (λfin ret=>∃p:List aJ,p.Perm s/\fin=[(0,.dead),(1,.row false 1 (p.map .str))]/\ret=.ow 1 0 p.length) _ _ ⟨s,List.Perm.refl _,rfl,rfl⟩ (λ|99=>none|_=>none) (by intro d;first|exact⟨rfl,λ_ h=>h⟩|(split<;>exact⟨rfl,λ_ h=>h⟩)) (by kernel_rfl) λr1 hr1=>?_;obtain⟨fin1,ret1⟩:=r1;obtain⟨p,hp1,rfl,rfl⟩:=hr1;simp;refine⟨Ff s ds hN,?_⟩;refine aF ?_;simp only[OW];refine⟨_,⟨p,hp1,rfl⟩,by simp,?_⟩;simp
theorem Nr(s:List aJ)(ds:List DV)(hN:s.length<=8000000000000):Ok Tryz.prog 46 [.fn 82 [.ro [.mp (s.map .str) ds]]] ⟨.own 1 ((cX s).map .str),true⟩:=by
 refine bF Tryz.func46 rfl Tryz.ntmps46 Tryz.results46 λw0 X hp=>?_;refine aA ?_;simp;refine aD ?_;refine II hT hW 5 (λr=>(∃p:List aJ,p.Perm s/\r.v=.own 1 (p.map .str))/\r.fresh=true) true ⟨.own 1 (s.map .str),true⟩ ⟨⟨⟨s,List.Perm.refl _,rfl⟩,rfl⟩,rfl⟩ (λ|99=>none|_=>none) (by intro d;first|exact⟨rfl,λ_ h=>h⟩|(split<;>exact⟨rfl,λ_ h=>h⟩)) (by kernel_rfl) λr1 hr1=>?_;obtain⟨v1,f1⟩:=r1;obtain⟨⟨p,hp1,hv⟩,hf⟩:=hr1;dsimp only at hv hf;subst hv;subst hf;have hpl:=hp1.length_eq;simp;refine⟨JK s ds (by omega),?_⟩;refine aX hT hW (λ|7=>some (.gen ⟨[(5,0)],[],[],[(0,.row false 1 ((cX p).map .str))],.tup []⟩)|_=>none) ?_;simp;refine⟨by simpa using uP p (by omega),?_⟩;refine aA ?_;simp;refine aF ?_;rw[<-Jf hp1];simp[gO];rw[List.take_of_length_le (by simp[gO])]
theorem JL(ks vs:List DV):Ok Tryz.prog 47 [.mp ks vs] ⟨.d (.fn 82 [.ro [.mp ks vs]]),false⟩:=by
 refine bF Tryz.func47 rfl Tryz.ntmps47 Tryz.results47 λw0 X hp=>?_;refine aA ?_;simp;refine aA ?_;simp;refine aF ?_;simp
section
attribute[local simp] hZ.cond Nd.d_eq nd_t nd_dr nd_td ndsD aO bA rJ wB bZ.d
def yF(M:List aJ)(s:aJ):List aJ:=if s∈M then M else M++[s]
def dJ(us:List bZ):List aJ:=us.foldl (λM u=>yF M u.name) []
theorem Hj{us:List bZ}{i:Nat}{u:bZ}(h:us[i]? =some u):dJ (us.take (i+1))=yF (dJ (us.take i)) u.name:=by
 obtain⟨hi,he⟩:=List.getElem?_eq_some_iff.1 h;unfold dJ;rw[List.take_succ_eq_append_getElem hi,List.foldl_append,he];rfl
theorem JM(us:List bZ):(dJ us).length<=us.length:=by
 have:∀(us:List bZ) (M:List aJ),(us.foldl (λM u=>yF M u.name) M).length<=M.length+us.length:=λus=>by
  induction us with
  |nil=>intro M;exact Nat.le_refl _
  |cons u r ih=>
   intro M;rw[List.foldl_cons];refine Nat.le_trans (ih _) ?_;unfold yF;split<;>simp<;>omega
 simpa [dJ]using this us []
mutual
theorem DJ:∀x:Nd,(aW x).length<=weighN x
 | .mk k t n ks=>by
   have h:=DK ks;have h2:(tC k t).length<=1:=by unfold tC;split<;>simp
   rw[aW,weighN,List.length_append];omega
theorem DK:∀l:List Nd,(eU l).length<=weighL l
 |[]=>Nat.le_refl _
 |x::r=>by
  have h1:=DJ x;have h2:=DK r;rw[eU,weighL,List.length_append];omega
end
theorem Hk(s:aJ):∀(M:List aJ) (i:Nat),fO (.str s) (M.map .str) i=some ((M.findIdx? (λx=>decide (s=x))).map (·+i))
 |[],i=>rfl
 |x::r,i=>by
  have e:gT (.str s) (.str x)=some (decide (s=x)):=by
   simp only[gT,Fr,Option.some.injEq];by_cases h:s=x<;>simp[h]
  rw[List.map_cons,fO,e,List.findIdx?_cons];by_cases h:s=x
  ·simp[h]
  ·simp only[h,decide_false,Bool.false_eq_true,if_false];rw[Hk s r (i+1)];cases r.findIdx? (λx=>decide (s=x))with
   |none=>rfl
   |some j=>simp;omega
def NK(M:List aJ):List DV:=M.map λ_=>.bool true
theorem QC(M:List aJ){H:cT}{id:Nat}{s:aJ}(h:H id=.map false (M.map .str) (NK M)):
 bN T H 73 (.mp id) (.d (.str s)) (.d (.bool true))=⟨.junk,True,[(id,.map false ((yF M s).map .str) (NK (yF M s)))]⟩:=by
 unfold bN yF;simp only[Vr,h,Hk];by_cases hm:s∈M
 ·obtain⟨j,hj,hl⟩:∃j,(M.findIdx? λx=>decide (s=x))=some j/\j<M.length:=by
   cases q:(M.findIdx? λx=>decide (s=x))with
   |none=>rw[List.findIdx?_eq_none_iff]at q;have:=q s hm;simp at this
   |some j=>exact⟨j,rfl,(List.findIdx?_eq_some_iff_getElem.1 q).1⟩
  have hs:(NK M).set j (.bool true)=NK M:=by
   unfold NK;apply List.ext_getElem (by simp);intro i h1 h2;rw[List.getElem_set];split<;>simp
  simp[hj,hm,hs,oD,eV]
 ·have hn:(M.findIdx? λx=>decide (s=x))=none:=by
   rw[List.findIdx?_eq_none_iff];intro x hx;simp;intro e;subst e;exact hm hx
  simp[hn,hm,oD,eV,NK]
def gR(l:List Df)(name:aJ):Int:=lE (λd=>decide (d.name=name)) l
def lW:Option Nat->Int
 |some i=>(i:Int)
 |none=> -1
theorem jL{α:Type}(p:α->Bool)(l:List α):lE p l=lW (l.findIdx? p):=by unfold lE lW;cases l.findIdx? p<;>rfl
def BT(l:List Df):Option Nat->List aJ×Int
 |none=>([],6)
 |some i=>if(parseS (l.getD i default).text).2.2≠0 then([],(parseS (l.getD i default).text).2.2)else(cX (dJ (aW (parseS (l.getD i default).text).1)),0)
def DL(l:List Df)(name:aJ):List aJ×Int:=BT l (l.findIdx? λd=>decide (d.name=name))
theorem JN(l:List Df)(p:Df->Bool)(g:FuncId)(cs:List DV)(hg:∀x∈l,Ok Tryz.prog g (x.d::cs) ⟨.d (.bool (p x)),true⟩):Ok Tryz.prog 42 [eC l,.fn g cs] ⟨.d (aH (lE p l)),true⟩:=by
 refine bF Tryz.func42 rfl Tryz.ntmps42 Tryz.results42 λw0 X hp=>?_;refine eO.len (t:=0) rfl λhlen=>?_;simp at hlen;refine aA ?_;simp;refine aD ?_;refine aA ?_;simp;refine aL ?_;refine aS (ι:=Nat) (λi=>aQ [(0,.d (eC l)),(1,.d (.fn g cs)),(7,.d (aH l.length)),(8,.d (aH i))]) (λi=>aG []) (λi=>i<=l.length/\Rg p l i) (λi=>l.length-i) 0 (aB hp [0,1,7,8] []) (⟨Nat.zero_le _,Rg.zero⟩) λi hi2=>?_;refine aA ?_;simp;refine aD ?_;refine aC ?_;simp;refine⟨λh2=>?_,λh2=>?_⟩
 ·refine aE ?_;simp;refine aD ?_;refine aL ?_;refine aA ?_;simp;refine aX hT hW (λ|16=>some<| .plain ⟨.d (.bool (p l[i])),true⟩|_=>none) ?_;simp[h2];refine⟨hg l[i] (List.getElem_mem h2),?_⟩;refine aC ?_;simp;refine⟨λh4=>?_,λh4=>?_⟩
  ·refine aA ?_;simp;refine aF ?_;simp[sX (hi2.2.found h2 h4)]
  ·refine aE ?_;simp;refine aM ?_;simp;refine⟨by omega,?_⟩;refine Ks.mk (i+1) (aB hp [0,1,7,8] []) ?_ ?_
   ·exact⟨h2,hi2.2.succ h2 h4⟩
   ·omega
 ·refine bT ?_;simp;refine aA ?_;simp;refine aF ?_;simp[sY (hi2.2.none (by omega))]
theorem Ns(d:Df)(name:aJ):Ok Tryz.prog 43 [d.d,.ro [.str name]] ⟨.d (.bool (decide (d.name=name))),true⟩:=by
 refine bF Tryz.func43 rfl Tryz.ntmps43 Tryz.results43 λw0 X hp=>?_;refine aA ?_;simp;refine aA ?_;simp;refine aF ?_;simp;by_cases h:d.name=name<;>simp[h]
theorem Fg(l:List Df)(name:aJ):Ok Tryz.prog 18 [eC l,.str name] ⟨.tup [.own 1 ((DL l name).1.map .str),.d (aH (DL l name).2)],true⟩:=by
 refine Ok.two Tryz.func18 (by kernel_rfl) (c:=_) rfl Tryz.ntmps18 (by simp) Tryz.results18 rfl λw0 X hp=>?_;obtain⟨oi,hoi⟩:∃oi,l.findIdx? (λd=>decide (d.name=name))=oi:=⟨_,rfl⟩;have hU:DL l name=BT l oi:=by unfold DL;rw[hoi]
 have hI:lE (λd=>decide (d.name=name)) l=lW oi:=by rw[jL,hoi]
 refine aA ?_;simp;refine dT (fI.freeze [3]) ?_;simp;refine aD ?_;have ki:=JN l (λd=>decide (d.name=name)) 43 [.ro [.str name]] λx _=>Ns x name;refine eO.ro hT hW (λ|15=>some<| .plain ⟨.d (aH (lE (λd=>decide (d.name=name)) l)),true⟩|_=>none) ?_;simp;refine⟨by simpa using ki,?_⟩;refine aD ?_;refine aA ?_;simp;refine aC ?_;simp;refine⟨λh2=>?_,λh2=>?_⟩
 ·have hn:oi=none:=by cases oi with|none=>rfl|some i=>rw[hI]at h2;simp[lW]at h2;omega
  subst hn;simp only[BT]at hU;refine aA ?_;simp;refine aF ?_;simp[hU]
 ·obtain⟨i,rfl⟩:∃i,oi=some i:=by cases oi with|some i=>exact⟨i,rfl⟩|none=>rw[hI]at h2;simp[lW]at h2
  simp only[BT]at hU;simp only[lW]at hI;have hil:i<l.length:=(List.findIdx?_eq_some_iff_getElem.1 hoi).1;obtain⟨d,hd⟩:∃d,l[i]=d:=⟨_,rfl⟩;have hget:l.getD i default=d:=by rw[List.getD_eq_getElem?_getD,List.getElem?_eq_getElem hil,hd];rfl
  rw[hget]at hU;obtain⟨P,hP⟩:∃P,parseS d.text=P:=⟨_,rfl⟩;have kp:=BO d.text;have hwt:=pC d.text;rw[hP]at kp hwt hU;obtain⟨x,hx⟩:∃x,P.1=x:=⟨_,rfl⟩;rw[hx]at kp hwt hU;refine aE ?_;simp;refine aX hT hW (λ|24=>some<| .plain ⟨.tup [.d x.d,.d (aH P.2.1),.d (aH P.2.2)],false⟩|_=>none) ?_;simp[aR,hI,hil,hd];refine⟨by simpa using kp,?_⟩;refine aD ?_;refine aA ?_;simp;refine aC ?_;simp;refine⟨λh5=>?_,λh5=>?_⟩
  ·rw[if_pos h5]at hU;refine aA ?_;simp;refine aF ?_;simp[hU]
  ·rw[if_neg (by simpa using h5)]at hU;refine aE ?_;simp;refine aA ?_;simp;refine aD ?_;refine aD ?_;have ku:=ED x;simp at ku;refine eO.ro hT hW (λ|33=>some<| .plain ⟨.d (.fn 75 [.ro [aH x.kind,.str x.text,aH x.n,.sl (x.kids.map Nd.d)]]),false⟩|_=>none) ?_;simp;refine⟨by simpa using ku,?_⟩;refine aL ?_;refine dT (aB hp [10,33] [(10,10),(31,31)] (env':=aQ [(10,.bx 10 0),(33,.d (.fn 75 [.ro [aH x.kind,.str x.text,aH x.n,.sl (x.kids.map Nd.d)]]))]) (H':=aG [(10,.box false [.mp 31]),(31,.map false [] [])]) (by simp) (by simp)) ?_;refine eO.rangeFunc (items:=(aW x).map wB) (by simpa using xS x hwt) (by simp) (by intro it hit;obtain⟨u,_,rfl⟩:=List.mem_map.1 hit;rfl) (by simp) (by kernel_rfl) (by kernel_rfl) (λi=>aG [(10,.box false [.mp 31]),(31,.map false ((dJ ((aW x).take i)).map .str) (NK (dJ ((aW x).take i))))]) (λi=>aG [(10,.box false [.mp 31]),(12,.box false [.d (aH (nZ x i).kind),.d (.str (nZ x i).name),.d (.str (nZ x i).field)]),(31,.map false ((dJ ((aW x).take (i+1))).map .str) (NK (dJ ((aW x).take (i+1)))))]) (rfl) [10,31] (by decide) (by simp[hp]) (λi id h=>by simpa using kX id h) (λi=>aQ [(10,.bx 10 0),(12,.bx 12 0)]) (λi=>aG [(10,.box false [.mp 31]),(12,.box false [.d (aH (nZ x i).kind),.d (.str (nZ x i).name),.d (.str (nZ x i).field)]),(31,.map false ((dJ ((aW x).take i)).map .str) (NK (dJ ((aW x).take i))))]) [10,12,31] (λi id h=>by simpa using kX id h) (λi hi=>?_) (λw1 X1 i it hp hit=>?_) (λw1 X1 i it hp hit=>?_) ?_
   ·simp
   ·obtain⟨u,hu,rfl⟩:=dF hit;have hU:=tF hu;refine aM ?_;simp;exact aB hp [10,12] [(10,10),(12,12),(31,31)] (by simp[hU]) (by simp[hU])
   ·obtain⟨u,hu,rfl⟩:=dF hit;have hU:=tF hu;have hs:=Hj hu;simp[hU];refine aL ?_;refine aM ?_;simp[QC (dJ ((aW x).take i))];exact aB hp [] [(10,10),(12,12),(31,31)] (hH:=by simp[hU,hs])
   ·refine aD ?_;have hnl:=JM (aW x);have hul:=DJ x;have ks:=Nr (dJ (aW x)) (NK (dJ (aW x))) (by omega);have kk:=JL ((dJ (aW x)).map .str) (NK (dJ (aW x)));refine eO.ro hT hW (λ|40=>some<| .plain ⟨.d (.fn 82 [.ro [.mp ((dJ (aW x)).map .str) (NK (dJ (aW x)))]]),false⟩|41=>some<| .plain ⟨.own 1 ((cX (dJ (aW x))).map .str),true⟩|_=>none) ?_;simp;refine⟨⟨by simpa using kk,by simpa using ks⟩,?_⟩;refine aF ?_;have htk:List.take (dJ (aW x)).length (List.map DV.str (cX (dJ (aW x))))=List.map DV.str (cX (dJ (aW x))):=List.take_of_length_le (by rw[List.length_map,gO];exact Nat.le_refl _);simp[hU,gO,htk]
theorem Nt(a b:Df):Ok Tryz.prog 66 [a.d,b.d] ⟨.d (.bool (decide (a.name=b.name/\nU a=nU b))),true⟩:=by
 refine bF Tryz.func66 rfl Tryz.ntmps66 Tryz.results66 λw0 X hp=>?_;refine aA ?_;simp;refine aD ?_;have ka:=BS a;have kb:=BS b;refine eO.rd [[],[],[],[],[],[],[],[],[12]] [[],[],[],[],[],[],[],[12],[],[14]] (λ|12=>some<| .plain ⟨.d (.str (nU a)),true⟩|14=>some<| .plain ⟨.d (.str (nU b)),true⟩|_=>none) ?_;simp;refine⟨⟨λ_=>by simpa using ka,λ_=>by simpa using kb⟩,?_⟩;refine aF ?_;simp;by_cases h1:a.name=b.name<;>by_cases h2:nU a=nU b<;>simp[h1,h2]
def JO(d:Df):aJ×aJ:=(d.name,nU d)
theorem KZ{a b:Df}:JO a=JO b↔a.name=b.name/\nU a=nU b:=by simp[JO]
def BU(a b:List Df):Bool:=decide (a.map JO=b.map JO)
theorem Nu{a b:List Df}(h:BU a b=true):a.length=b.length:=by
 have:=congrArg List.length (of_decide_eq_true h);simpa using this
theorem QD(l m:List Df):Ok Tryz.prog 65 [eC l,eC m,.fn 66 []] ⟨.d (.bool (BU l m)),true⟩:=by
 refine bF Tryz.func65 rfl Tryz.ntmps65 Tryz.results65 λw0 X hp=>?_;refine eO.len (t:=0) rfl λhlen=>?_;simp at hlen;refine aA ?_;simp;refine aD ?_;refine aA ?_;simp;refine aC ?_;simp;refine⟨λh1=>?_,λh1=>?_⟩
 ·refine aA ?_;simp;refine aF ?_;simp;rw[Bool.eq_false_iff];intro q;exact h1 (by rw[Nu q])
 ·refine aE ?_;simp;refine aD ?_;refine aA ?_;simp;refine aL ?_;refine aS (ι:=Nat) (λi=>aQ [(0,.d (eC l)),(1,.d (eC m)),(2,.d (.fn 66 [])),(15,.d (eC l)),(16,.d (aH l.length)),(17,.d (aH i))]) (λi=>aG []) (λi=>i<=l.length/\(l.map JO).take i=(m.map JO).take i) (λi=>l.length-i) 0 (aB hp [0,1,2,15,16,17] []) (⟨Nat.zero_le _,rfl⟩) λi hi4=>?_;refine aA ?_;simp;refine aD ?_;refine aC ?_;simp;refine⟨λh4=>?_,λh4=>?_⟩
  ·refine aE ?_;simp;refine aD ?_;refine aL ?_;refine aD ?_;have hi:i<l.length:=by omega
   refine aM ?_;simp[hi];refine aD ?_;have hm:i<m.length:=by omega
   refine aM ?_;simp[hm];refine aD ?_;have hs:=Nt l[i] m[i];refine eO.ro hT hW (λ|29=>some<| .plain ⟨.d (.bool (decide (l[i].name=m[i].name/\nU l[i]=nU m[i]))),true⟩|_=>none) ?_;simp;refine⟨by simpa using hs,?_⟩;refine aC ?_;simp;refine⟨λh7=>?_,λh7 h7'=>?_⟩
   ·refine aA ?_;simp;refine aF ?_;simp;rw[Bool.eq_false_iff];intro q;have q':=congrArg (·[i]?) (of_decide_eq_true q);simp only[List.getElem?_map,List.getElem?_eq_getElem hi,List.getElem?_eq_getElem hm,Option.map_some,Option.some.injEq]at q';have:=KZ.1 q';rcases h7 with h|h
    ·exact h this.1
    ·exact h this.2
   ·refine aE ?_;simp;refine aM ?_;simp;refine⟨by omega,?_⟩;refine Ks.mk (i+1) (aB hp [0,1,2,15,16,17] []) ?_ ?_
    ·refine⟨by omega,?_⟩;have hm:i<m.length:=by omega
     rw[List.take_succ_eq_append_getElem (by simpa using hi),List.take_succ_eq_append_getElem (by simpa using hm),hi4.2,List.getElem_map,List.getElem_map,KZ.2 ⟨h7,h7'⟩]
    ·omega
  ·refine bT ?_;simp;refine aA ?_;simp;refine aF ?_;simp;have e:i=l.length:=by omega
   have e2:i=m.length:=(by omega);have h:=hi4.2;rw[List.take_of_length_le (by simp;omega),List.take_of_length_le (by simp;omega)]at h;exact decide_eq_true h
theorem Nv(a b:List Df)(ha:a.length<20)(hb:b.length<20):Ok Tryz.prog 34 [eC a,eC b] ⟨.d (.bool (BU (cM a) (cM b))),true⟩:=by
 refine bF Tryz.func34 rfl Tryz.ntmps34 Tryz.results34 λw0 X hp=>?_;refine aA ?_;simp;refine aD ?_;have k1:=Fc a ha;have k2:=Fc b hb;have k3:=QD (cM a) (cM b);have l1:=mE a;have l2:=mE b;have t1:List.take a.length (List.map Df.d (cM a))=List.map Df.d (cM a):=List.take_of_length_le (by rw[List.length_map,l1];exact Nat.le_refl _);have t2:List.take b.length (List.map Df.d (cM b))=List.map Df.d (cM b):=List.take_of_length_le (by rw[List.length_map,l2];exact Nat.le_refl _);refine eO.ro hT hW (λ|6=>some<| .plain ⟨.own 2 ((cM a).map Df.d),true⟩|8=>some<| .plain ⟨.own 2 ((cM b).map Df.d),true⟩|9=>some<| .plain ⟨.d (.bool (BU (cM a) (cM b))),true⟩|_=>none) ?_;simp[l1,l2,t1,t2];refine⟨⟨⟨by simpa using k1,by simpa using k2⟩,by simpa using k3⟩,?_⟩;refine aF ?_;simp
end
section
attribute[local simp] hZ.cond Nd.d_eq nd_t nd_dr nd_td ndsD aO bA
def bZ.r(u:bZ):DV:=.agg [aH u.bk,aH u.kind,.str u.name,.str u.field]
theorem use_mem{l:List bZ}{y:DV}(h:y∈l.map bZ.r):(aI y).length=4:=by obtain⟨u,_,rfl⟩:=List.mem_map.1 h;rfl
theorem us_t{l:List bZ}{k:Nat}:(∀y∈List.take k (List.map bZ.r l),(aI y).length=4)↔True:=iff_true_intro λ_ h=>use_mem (List.mem_of_mem_take h)
theorem us_m{l:List bZ}:(∀y∈List.map bZ.r l,(aI y).length=4)↔True:=iff_true_intro λ_ h=>use_mem h
theorem us_d{u:bZ}:(aI u.r).length=4:=rfl
attribute[local simp] us_t us_m us_d bZ.r
end
section
attribute[local simp] hZ.cond Nd.d_eq nd_t nd_dr nd_td ndsD aO bA bH
def firstE(l:List Df)(d:Df)(i:Nat):Int:=
 if(parseS d.text).2.2≠0 then(parseS d.text).2.2
 else if(parseS d.text).1.text≠d.name then 11
 else if gR l d.name<(i:Int)then 7
 else if(bP (parseS d.text).1).Nodup then 0 else 7
theorem nodup_take_succ{f:List aJ}{k:Nat}(hk:k<f.length):(f.take (k+1)).Nodup↔(f.take k).Nodup/\f[k]∉f.take k:=by
 rw[List.take_succ_eq_append_getElem hk,List.nodup_append];constructor
 ·rintro⟨h1,_,h3⟩;exact⟨h1,λhm=>h3 _ hm _ (by simp) rfl⟩
 ·rintro⟨h1,h2⟩;exact⟨h1,by simp,λa ha b hb e=>h2 (by simp at hb;rw[<-hb,<-e];exact ha)⟩
theorem nodup_take{f:List aJ}(h:f.Nodup)(k:Nat):(f.take k).Nodup:=h.sublist (List.take_sublist _ _)
def putS(l:List aJ)(s:aJ):List aJ:=if s∈l then l else mQ (nW (λy=>Op.bytesLess s y) l l.length) s l
end
section
attribute[local simp] hZ.cond Nd.d_eq nd_t nd_dr nd_td ndsD aO bA bH us_t us_m us_d bZ.r
def tAt(l:List Df)(name:aJ):Nd:=(parseS (l.getD (gR l name).toNat default).text).1
def p1(l:List Df)(u:bZ):Bool:=decide (gR l u.name<0)
def p2(l:List Df)(u:bZ):Bool:=decide ((tAt l u.name).kind≠u.kind)
def p3(l:List Df)(u:bZ):Bool:=decide (u.kind=1/\u.field∉bP (tAt l u.name))
def secondE(l:List Df)(us:List bZ):Int:=if us.any (p1 l)=true then 6 else if us.any (p2 l)=true then 12 else if us.any (p3 l)=true then 6 else 0
theorem idxN_lt{l:List Df}{name:aJ}(h:0<=gR l name):∃i d,gR l name=((i:Nat):Int)/\l[i]? =some d/\tAt l name=(parseS d.text).1:=by
 unfold gR at h;rw[jL]at h;cases q:l.findIdx? (λd=>decide (d.name=name))with
 |none=>rw[q]at h;simp[lW]at h
 |some i=>
  have hi:=(List.findIdx?_eq_some_iff_getElem.1 q).1;have e:gR l name=(i:Nat):=by unfold gR;rw[jL,q];rfl
  refine⟨i,l[i],e,List.getElem?_eq_getElem hi,?_⟩;unfold tAt;rw[e,Int.toNat_natCast,List.getD_eq_getElem?_getD,List.getElem?_eq_getElem hi];rfl
end
section
attribute[local simp] hZ.cond Nd.d_eq nd_t nd_dr nd_td ndsD aO bA bH us_t us_m us_d bZ.r
def cbR(c:Bool)(k:Int):Bool:= !c||decide (k=14)
def bfsS(c:Bool)(st:List aJ×List aJ)(u:bZ):List aJ×List aJ:=if cbR c u.bk=true/\u.name∉st.1 then(putS st.1 u.name,st.2++[u.name])else st
def bfsN(l:List Df)(c:Bool)(st:List aJ×List aJ)(nm:aJ):List aJ×List aJ:=if gR l nm<0 then st else(aW (tAt l nm)).foldl (bfsS c) st
def bfsF(l:List Df)(c:Bool):Nat->Nat->List aJ×List aJ->List aJ
 |0,_,st=>st.1
 |f+1,n,st=>match st.2[n]? with
  |none=>st.1
  |some nm=>bfsF l c f (n+1) (bfsN l c st nm)
def allU(l:List Df):List aJ:=l.flatMap λd=>(aW (parseS d.text).1).map bZ.name
def reachR(l:List Df)(name:aJ)(c:Bool):List aJ:=bfsF l c ((allU l).length+2) 0 ([],[name])
def muS(U out:List aJ):Nat:=(U.filter λu=>decide (u∉out)).length
structure BfsJ(U:List aJ)(st:List aJ×List aJ):Prop where
 room:st.1.length+muS U st.1<=U.length
 two:st.2.length=st.1.length+1
theorem putS_new{l:List aJ}{s:aJ}(h:s∉l):(putS l s).length=l.length+1:=by unfold putS;rw[if_neg h,pQ]
theorem mem_putS{l:List aJ}{s x:aJ}:x∈putS l s↔x=s\/x∈l:=by
 unfold putS;split
 ·rename_i h;exact⟨.inr,λhx=>hx.elim (λe=>e▸h) id⟩
 ·exact ML
theorem muS_put{U out:List aJ}{s:aJ}(hs:s∈U)(h:s∉out):muS U (putS out s)<muS U out:=by
 unfold muS;exact uR (x:=s) (λy hy=>by simp[mem_putS]at hy|-;exact hy.2) hs (by simpa using h) (by simp[mem_putS])
theorem bfsS_J{U:List aJ}{c:Bool}{st:List aJ×List aJ}{u:bZ}(hu:u.name∈U)(h:BfsJ U st):BfsJ U (bfsS c st u)/\muS U (bfsS c st u).1+(bfsS c st u).2.length<=muS U st.1+st.2.length:=by
 unfold bfsS;split
 ·rename_i hc;have h1:=muS_put hu hc.2;have h2:=putS_new hc.2;have h3:=h.room;have h4:=h.two;refine⟨⟨?_,?_⟩,?_⟩
  ·show(putS st.1 u.name).length+muS U (putS st.1 u.name)<=U.length;omega
  ·show(st.2++[u.name]).length=(putS st.1 u.name).length+1;rw[List.length_append,List.length_singleton];omega
  ·show muS U (putS st.1 u.name)+(st.2++[u.name]).length<=_;rw[List.length_append,List.length_singleton];omega
 ·exact⟨h,Nat.le_refl _⟩
theorem uses_allU{l:List Df}{nm:aJ}(h:0<=gR l nm):∀u∈aW (tAt l nm),u.name∈allU l:=λu hu=>by
 obtain⟨i,d,_,hd,ht⟩:=idxN_lt h;rw[ht]at hu;exact List.mem_flatMap.2 ⟨d,List.mem_of_getElem? hd,List.mem_map.2 ⟨u,hu,rfl⟩⟩
theorem muS_nil(U:List aJ):muS U []=U.length:=by unfold muS;rw[List.filter_eq_self.2 (by simp)]
end
section
attribute[local simp] hZ.cond Nd.d_eq nd_t nd_dr nd_td ndsD aO bA
def q1(l:List Df)(i:Nat):Bool:=decide (firstE l (l.getD i default) i≠0)
def q2(l:List Df)(i:Nat):Bool:=decide (secondE l (aW (parseS (l.getD i default).text).1)≠0)
def q3(l:List Df)(i:Nat):Bool:=decide ((l.getD i default).name∈reachR l (l.getD i default).name true)
def chkR3(l:List Df):Int×Int:=match cQ (q3 l) l.length with
 |some i=>((i:Int),13)
 |none=>((l.length:Int),0)
def chkR2(l:List Df):Int×Int:=match cQ (q2 l) l.length with
 |some i=>((i:Int),secondE l (aW (parseS (l.getD i default).text).1))
 |none=>chkR3 l
def chkR1(l:List Df):Int×Int:=match cQ (q1 l) l.length with
 |some i=>((i:Int),firstE l (l.getD i default) i)
 |none=>chkR2 l
def chkR(l:List Df):Int×Int:=if 24<l.length then(0,4)else chkR1 l
end
section
attribute[local simp] hZ.cond Nd.d_eq nd_t nd_dr nd_td ndsD aO bA
theorem RSameDefs_ok(a b:List Df)(ha:a.length<=1000000000000):Ok Tryz.prog 14 [eC a,eC b] ⟨.d (.bool (decide (a=b))),true⟩:=by
 refine bF Tryz.func14 rfl Tryz.ntmps14 Tryz.results14 λw0 X hp=>?_;refine aA ?_;simp;refine aD ?_;refine aA ?_;simp;refine aC ?_;simp;refine⟨λh1=>?_,λh1=>?_⟩
 ·refine aA ?_;simp;refine aF ?_;simp;exact λe=>h1 (by rw[e])
 ·refine aE ?_;simp;refine aD ?_;refine aA ?_;simp;refine aL ?_;refine aS (ι:=Nat) (λi=>aQ [(0,.d (eC a)),(1,.d (eC b)),(5,.d (aH (i:Nat)))]) (λi=>aG []) (λi=>i<=a.length/\a.take i=b.take i) (λi=>a.length-i) 0 (aB hp [0,1,5] []) (⟨Nat.zero_le _,rfl⟩) λi hi4=>?_;refine aD ?_;refine aA ?_;simp;refine aC ?_;simp;refine⟨λh4=>?_,λh4=>?_⟩
  ·refine aE ?_;simp;refine aD ?_;refine aL ?_;refine aD ?_;have hi:i<a.length:=by omega
   have hib:i<b.length:=(by omega);refine eO.rd [] [] (λ_=>none) ?_;simp[hi,hib];refine aC ?_;simp;refine⟨λh6=>?_,λh6=>?_⟩
   ·refine aA ?_;simp;refine aF ?_;simp;intro e;subst e;simp at h6
   ·refine aE ?_;simp;refine aM ?_;simp;refine⟨by omega,?_⟩;refine Ks.mk (i+1) (aB hp [0,1,5] []) ?_ ?_
    ·refine⟨by omega,?_⟩;rw[List.take_succ_eq_append_getElem hi,List.take_succ_eq_append_getElem hib,hi4.2,h6]
    ·omega
  ·refine bT ?_;simp;refine aA ?_;simp;refine aF ?_;simp;have e:i=a.length:=by omega
   have:=hi4.2;rw[e,List.take_length]at this;have h1':a.length=b.length:=by omega
   rw[this,h1',List.take_length]
end
section
attribute[local simp] hZ.cond Nd.d_eq nd_t nd_dr nd_td ndsD aO bA
theorem folF_in(ts:List Nd)(b:Int->Bool):∀(f i:Nat) (M:List Nat),M.Nodup->(∀k∈M,k<ts.length)->(fA ts b f i M).Nodup/\∀k∈fA ts b f i M,k<ts.length
 |0,_,_,hn,hk=>⟨hn,hk⟩
 |f+1,i,M,hn,hk=>by
  rw[xV];have key:∀(us:List bZ) (M:List Nat),M.Nodup->(∀k∈M,k<ts.length)->(us.foldl (gQ ts b (fA ts b f)) M).Nodup/\∀k∈us.foldl (gQ ts b (fA ts b f)) M,k<ts.length:=λus=>by
   induction us with
   |nil=>exact λM h1 h2=>⟨h1,h2⟩
   |cons u r ihu=>
    intro M h1 h2;rw[List.foldl_cons];have h3:(gQ ts b (fA ts b f) M u).Nodup/\∀k∈gQ ts b (fA ts b f) M u,k<ts.length:=by
     unfold gQ;split
     ·rename_i k hk;split
      ·rename_i hb;refine folF_in ts b f k (M++[k]) ?_ λk' hk'=>?_
       ·rw[List.nodup_append];exact⟨h1,by simp,λx hx y hy e=>by simp at hy;subst hy;subst e;exact hb.2 hx⟩
       ·rcases List.mem_append.1 hk' with h|h
        ·exact h2 k' h
        ·simp at h;subst h;exact rP hk
      ·exact⟨h1,h2⟩
     ·exact⟨h1,h2⟩
    exact ihu _ h3.1 h3.2
  exact key _ M hn hk
theorem reachI_in(ts:List Nd)(b:Int->Bool)(i:Nat):(gJ ts b i).Nodup/\∀k∈gJ ts b i,k<ts.length:=folF_in ts b _ i [] List.nodup_nil (by simp)
theorem insD_perm(out:List Df)(x:Df):(Ab out x).Perm (x::out):=by
 unfold Ab mQ;refine List.perm_middle.trans ?_;rw[List.take_append_drop]
theorem sortD_perm(l:List Df):(cM l).Perm l:=by
 have:∀(l out:List Df),(l.foldl Ab out).Perm (out++l):=λl=>by
  induction l with
  |nil=>intro out;rw[List.append_nil];exact List.Perm.refl _
  |cons x r ih=>
   intro out;rw[List.foldl_cons];exact(ih _).trans (((insD_perm out x).append_right r).trans (by simpa using(List.perm_middle (a:=x) (l₁:=out) (l₂:=r)).symm))
 simpa [cM]using this l []
def allB(_:Int):Bool:=true
def restK(i:Nat)(S:List Nat):List Nat:=S.filter λk=>decide (k≠i)
def sliceAt(l:List Df)(ts:List Nd)(i:Nat):List Df:=l.getD i default::(restK i (gJ ts allB i)).map λk=>l.getD k default
def sliceP(l:List Df)(name:aJ):List Df×Int:=
 if(jK l).2.2≠0 then([],(jK l).2.2)
 else match lB (jK l).1 name with
  |none=>([],6)
  |some i=>(cM (sliceAt l (jK l).1 i),0)
theorem restK_len{n i:Nat}{S:List Nat}(h1:S.Nodup)(h2:∀k∈S,k<n)(hi:i<n):(restK i S).length<n:=by
 have h3:(i::restK i S).Nodup:=List.nodup_cons.2 ⟨λh=>by simp[restK]at h,h1.filter _⟩;have:=Bv h3 (m:=List.range n) λk hk=>by
  rcases List.mem_cons.1 hk with rfl|hk
  ·exact List.mem_range.2 hi
  ·exact List.mem_range.2 (h2 k (List.mem_filter.1 hk).1)
 rw[List.length_cons,List.length_range]at this;omega
theorem nodup_injM{α β:Type}{f:α->β}:∀{l:List α},(l.map f).Nodup->∀a∈l,∀b∈l,f a=f b->a=b
 |x::l,h,a,ha,b,hb,e=>by
  obtain⟨h1,h2⟩:=List.nodup_cons.1 h;rcases List.mem_cons.1 ha with ea|ha'
  ·rcases List.mem_cons.1 hb with eb|hb'
   ·rw[ea,eb]
   ·exact absurd (List.mem_map.2 ⟨b,hb',by rw[<-e,ea]⟩) h1
  ·rcases List.mem_cons.1 hb with eb|hb'
   ·exact absurd (List.mem_map.2 ⟨a,ha',by rw[e,eb]⟩) h1
   ·exact nodup_injM h2 a ha' b hb' e
theorem insD_sorted{out:List Df}{x:Df}(h:out.Pairwise λa b=>a.name<=b.name):(Ab out x).Pairwise λa b=>a.name<=b.name:=by
 obtain⟨s1,s2⟩:=xX (p:=λy:Df=>Op.bytesLess x.name y.name) (out:=out) out.length (Nat.le_refl _);have hle:=Ey (p:=λy:Df=>Op.bytesLess x.name y.name) (out:=out) out.length;unfold Ab mQ;generalize nW (λy:Df=>Op.bytesLess x.name y.name) out out.length=k at*;have hb:∀a∈out.take k,a.name<=x.name:=λa ha=>by
  obtain⟨i,hi,rfl⟩:=List.getElem_of_mem ha;rw[List.getElem_take];rw[List.length_take]at hi;obtain⟨k',rfl⟩:∃k',k=k'+1:=⟨k-1,by omega⟩;have hk':i<=k':=by omega
  have hlt:k'<out.length:=by omega
  have h0:=s2 k' hlt rfl;rw[bytesLess_eq,decide_eq_false_iff_not,List.not_lt]at h0;by_cases e:i=k'
  ·subst e;exact h0
  ·exact List.le_trans (List.pairwise_iff_getElem.1 h i k' (by omega) hlt (by omega)) h0
 have ha:∀b∈out.drop k,x.name<=b.name:=λb hb=>by
  obtain⟨i,hi,rfl⟩:=List.getElem_of_mem hb;rw[List.getElem_drop];rw[List.length_drop]at hi;have h0:=s1 (k+i) (by omega) (by omega) (by omega);rw[bytesLess_eq,decide_eq_true_eq]at h0;exact List.le_of_lt h0
 refine List.pairwise_append.2 ⟨h.sublist (List.take_sublist _ _),List.pairwise_cons.2 ⟨ha,h.sublist (List.drop_sublist _ _)⟩,λa ha' b hb'=>?_⟩;rcases List.mem_cons.1 hb' with rfl|hb'
 ·exact hb a ha'
 ·exact List.le_trans (hb a ha') (ha b hb')
theorem sortD_sorted(l:List Df):(cM l).Pairwise λa b=>a.name<=b.name:=by
 have:∀(l out:List Df),(out.Pairwise λa b=>a.name<=b.name)->(l.foldl Ab out).Pairwise λa b=>a.name<=b.name:=λl=>by
  induction l with
  |nil=>exact λout h=>h
  |cons x r ih=>exact λout h=>ih _ (insD_sorted h)
 exact this l [] List.Pairwise.nil
theorem sortD_uniq{l m:List Df}(hp:l.Perm m)(hn:(l.map Df.name).Nodup):cM l=cM m:=by
 refine List.Perm.eq_of_pairwise (le:=λa b:Df=>a.name<=b.name) (λa b ha hb h1 h2=>?_) (sortD_sorted l) (sortD_sorted m) (((sortD_perm l).trans hp).trans (sortD_perm m).symm);exact nodup_injM hn a ((sortD_perm l).mem_iff.1 ha) b (hp.mem_iff.2 ((sortD_perm m).mem_iff.1 hb)) (List.le_antisymm h1 h2)
theorem rdF_names:∀(l:List Df) (ts:List Nd),(An ts l).2.2=0->(ts.map Nd.text).Nodup->(An ts l).1.map Nd.text=ts.map Nd.text++l.map Df.name/\((An ts l).1.map Nd.text).Nodup
 |[],ts,_,h=>⟨by simp[An],by simpa [An]using h⟩
 |d::r,ts,he,h=>by
  by_cases e:EW ts d=0
  ·rw[EY e]at he|-;have ht:(parseS d.text).1.text=d.name/\lB ts d.name=none:=by
    unfold EW at e;split at e
    ·exact absurd e (by assumption)
    ·split at e
     ·cases e
     ·rename_i h1;split at e
      ·cases e
      ·rename_i h2;exact⟨Classical.byContradiction h1,by cases q:lB ts d.name with
        |none=>rfl
        |some j=>exact absurd (.inl (by rw[q];rfl)) h2⟩
   obtain⟨h1,h2⟩:=rdF_names r (ts++[(parseS d.text).1]) he (by
    rw[List.map_append,List.nodup_append];refine⟨h,by simp,λx hx y hy e=>?_⟩;simp at hy;subst hy;subst e;rw[ht.1]at hx;obtain⟨t,ht',hte⟩:=List.mem_map.1 hx;have:=ht.2;unfold lB at this;rw[List.findIdx?_eq_none_iff]at this;have:=this t ht';simp[hte]at this)
   refine⟨?_,h2⟩;rw[h1,List.map_append];simp[ht.1]
  ·rw[qF e]at he;exact absurd he e
theorem readP_names{l:List Df}(h:(cR l).2.2=0):(cR l).1.map Nd.text=l.map Df.name/\(l.map Df.name).Nodup:=by
 unfold cR at h|-;split at h
 ·cases h
 ·rename_i h24;rw[if_neg h24];obtain⟨h1,h2⟩:=rdF_names l [] h (by simp);exact⟨by simpa using h1,by rw[h1]at h2;simpa using h2⟩
theorem chkP_ok{l:List Df}(h:(jK l).2.2=0):(cR l).2.2=0:=by
 unfold jK at h;split at h
 ·exact h
 ·rename_i h0;exact Classical.byContradiction h0
theorem perm_erase{α:Type}{l:List α}{j:Nat}(h:j<l.length):l.Perm (l[j]::l.eraseIdx j):=by
 have e:l=l.take j++l[j]::l.drop (j+1):=by
  have:=List.take_append_drop j l;rw[List.drop_eq_getElem_cons h]at this;exact this.symm
 have e2:l.eraseIdx j=l.take j++l.drop (j+1):=List.eraseIdx_eq_take_drop_succ ..;rw[e2]
 conv=>lhs;rw[e]
 exact List.perm_middle
theorem nkD_get{S:List Nat}{j:Nat}(h:j<(wF S).length):(wF S)[j]=aH ((S[j]'(by simpa [wF]using h):Nat):Int):=by simp[wF]
theorem nkD_erase(S:List Nat)(j:Nat):(wF S).eraseIdx j=wF (S.eraseIdx j):=by
 unfold wF;rw[List.eraseIdx_eq_take_drop_succ,List.eraseIdx_eq_take_drop_succ,List.map_append,List.map_take,List.map_drop]
theorem trD_erase(S:List Nat)(j:Nat):(Cn S).eraseIdx j=Cn (S.eraseIdx j):=by
 unfold Cn;rw[List.eraseIdx_eq_take_drop_succ,List.eraseIdx_eq_take_drop_succ,List.map_append,List.map_take,List.map_drop]
theorem ren_it{σ:List (Nat×Nat)}{n id:Nat}:ren σ (n+1) (.it id)=match cV σ id with|some j=>.it j|none=>.junk:=rfl
attribute[local simp] nkD_erase trD_erase ren_it
theorem restK_erase{S:List Nat}{i j:Nat}(h:j<S.length):(restK i S).Perm (if S[j]=i then restK i (S.eraseIdx j)else S[j]::restK i (S.eraseIdx j)):=by
 have:=(perm_erase h).filter λk=>decide (k≠i);refine List.Perm.trans this ?_;by_cases e:S[j]=i
 ·rw[if_pos e,List.filter_cons_of_neg (by simpa using e)];exact List.Perm.refl _
 ·rw[if_neg e,List.filter_cons_of_pos (by simpa using e)];exact List.Perm.refl _
theorem names_nodup{l:List Df}(h:(l.map Df.name).Nodup):∀{S:List Nat},S.Nodup->(∀k∈S,k<l.length)->((S.map λk=>l.getD k default).map Df.name).Nodup
 |[],_,_=>by simp
 |a::S,hn,hk=>by
  obtain⟨h1,h2⟩:=List.nodup_cons.1 hn;rw[List.map_cons,List.map_cons,List.nodup_cons];refine⟨λhm=>?_,names_nodup h h2 λk hk'=>hk k (List.mem_cons_of_mem _ hk')⟩;rw[List.map_map]at hm;obtain⟨b,hb,e⟩:=List.mem_map.1 hm;have ha:=hk a (List.mem_cons_self ..);have hb':=hk b (List.mem_cons_of_mem _ hb);simp only[Function.comp,List.getD_eq_getElem?_getD,List.getElem?_eq_getElem ha,List.getElem?_eq_getElem hb',Option.getD_some]at e;have this:=List.pairwise_iff_getElem.1 h;have hab:a≠b:=λq=>h1 (q▸hb);rcases Nat.lt_or_gt_of_ne hab with q|q
  ·exact this a b (by simpa using ha) (by simpa using hb') q (by simpa using e.symm)
  ·exact this b a (by simpa using hb') (by simpa using ha) q (by simpa using e)
theorem sliceAt_eq(l:List Df)(ts:List Nd)(i:Nat):sliceAt l ts i=(i::restK i (gJ ts allB i)).map λk=>l.getD k default:=rfl
theorem sliceAt_names{l:List Df}{ts:List Nd}{i:Nat}(h:(l.map Df.name).Nodup)(hl:ts.length=l.length)(hi:i<ts.length):((sliceAt l ts i).map Df.name).Nodup:=by
 obtain⟨h1,h2⟩:=reachI_in ts allB i;rw[sliceAt_eq];refine names_nodup h (List.nodup_cons.2 ⟨λh=>by simp[restK]at h,h1.filter _⟩) λk hk=>?_;rcases List.mem_cons.1 hk with rfl|hk
 ·omega
 ·have:=h2 k (List.mem_filter.1 hk).1;omega
theorem Slice_ok(l:List Df)(name:aJ)(hl:l.length<20):Ok Tryz.prog 20 [eC l,.str name] ⟨.tup [.own 2 ((sliceP l name).1.map Df.d),.d (aH (sliceP l name).2)],true⟩:=by
 refine Ok.two Tryz.func20 (by kernel_rfl) (c:=_) rfl Tryz.ntmps20 (by simp) Tryz.results20 rfl λw0 X hp=>?_;obtain⟨C,hC⟩:∃C,jK l=C:=⟨_,rfl⟩;obtain⟨ts,hts⟩:∃ts,C.1=ts:=⟨_,rfl⟩;have kc:=BQ l;have hS:sliceP l name=if C.2.2≠0 then([],C.2.2)else match lB ts name with|none=>([],6)|some i=>(cM (sliceAt l ts i),0):=by rw[<-hts,<-hC];rfl
 have h1C:=Fe l;have hok:=chkP_ok (l:=l);have sp:=qG l;rw[hC]at kc hok h1C;rw[hts]at kc h1C;rw[<-h1C]at sp;have hw:∀t∈ts,weighN t<=1000000000:=λt ht=>by obtain⟨s,rfl⟩:=sp.1 t ht;exact pC s
 refine aA ?_;simp;refine aX hT hW (λ|15=>some<| .plain ⟨.tup [.d (uO ts),.d (aH C.2.1),.d (aH C.2.2)],false⟩|_=>none) ?_;simp[aR];refine⟨⟨by simpa using kc,by simp[uO]⟩,?_⟩;simp[uO];refine aD ?_;refine aA ?_;simp;refine aC ?_;simp;refine⟨λh2=>?_,λh2=>?_⟩
 ·rw[if_pos h2]at hS;refine aA ?_;simp;refine aF ?_;simp[hS]
 ·have h2':C.2.2=0:=by simpa using h2
  rw[if_neg (by simpa using h2')]at hS;have hlen:=(sp.2.2 (hok h2')).2.1;refine aE ?_;simp;refine aA ?_;simp[EJ,aR];refine aD ?_;refine aA ?_;simp;refine aC ?_;simp;refine⟨λh5=>?_,λh5=>?_⟩
  ·have hn:lB ts name=none:=by simpa using h5
   rw[hn]at hS;dsimp only at hS;refine aA ?_;simp;refine aF ?_;simp[hS]
  ·obtain⟨i,hi⟩:∃i,lB ts name=some i:=by cases h:lB ts name<;>simp_all
   rw[hi]at hS;dsimp only at hS;have hil:i<ts.length:=rP hi;have hat:Ri ts name=(i:Nat):=by unfold Ri;rw[hi];rfl
   have hrn:=reachI_in ts allB i;refine aE ?_;simp;refine aA ?_;simp[hat,(show i<l.length by omega)];refine aD ?_;refine aD ?_;have kre:=Bx ts allB 52 i hw (λk=>MI k) hil;refine eO.ro hT hW (λ|38=>some<| .plain ⟨.d (.mp (wF (gJ ts allB i)) (Cn (gJ ts allB i))),false⟩|_=>none) ?_;simp[hat];refine⟨by simpa [uO]using kre,?_⟩;refine aL ?_;refine aS (ι:=List Nat×List Df) (λ⟨S,out⟩=>aQ [(0,.d (eC l)),(9,.d (aH (i:Nat))),(11,.ow 35 0 out.length),(39,.it 39)]) (λ⟨S,out⟩=>aG [(35,.row false 2 (out.map Df.d)),(39,.iter false (wF S) (Cn S))]) (λ⟨S,out⟩=>(out++(restK i S).map λk=>l.getD k default).Perm (sliceAt l ts i)/\(∀k∈S,k<l.length)) (λ⟨S,out⟩=>S.length) (gJ ts allB i,[l.getD i default]) (aB hp [0,9,11,39] [(35,35),(39,39)] (hH:=by simp[List.getElem?_eq_getElem (show i<l.length by omega)])) (⟨by simp[sliceAt],λk hk=>by have:=hrn.2 k hk;omega⟩) λ⟨S,out⟩ hi9=>?_;obtain⟨hi9,hi9k⟩:=hi9;have hol:out.length<20:=by
    have e1:=hi9.length_eq;have e2:=restK_len hrn.1 hrn.2 hil;simp only[sliceAt_eq,List.length_append,List.length_map,List.length_cons]at e1;omega
   refine Es (it:=39) (id:=39) (ks:=wF S) (vs:=Cn S) rfl rfl rfl rfl rfl rfl rfl rfl rfl rfl rfl rfl rfl rfl rfl (by decide) (by decide) (by simp) (by simp) (λhk=>?_) (λj hj=>?_)
   ·have hS0:S=[]:=by simpa [wF]using hk
    subst hS0;simp;refine aD ?_;have hpo:out.Perm (sliceAt l ts i):=by simpa [restK]using hi9
    have ks:=Fc out hol;have he:cM out=cM (sliceAt l ts i):=by
     have hns:=sliceAt_names (ts:=ts) (i:=i) (readP_names (hok h2')).2 hlen hil;exact(sortD_uniq hpo.symm hns).symm
    refine eO.ro hT hW (λ|55=>some<| .plain ⟨.own 2 ((cM out).map Df.d),true⟩|_=>none) ?_;simp;refine⟨by simpa using ks,?_⟩;refine aF ?_;have hsl:=mE out;have htk:List.take out.length (List.map Df.d (cM out))=List.map Df.d (cM out):=List.take_of_length_le (by rw[List.length_map,hsl];exact Nat.le_refl _);rw[he]at hsl htk;simp[hS,he,hsl,htk]
   ·have hjS:j<S.length:=by simpa [wF]using hj
    obtain⟨k,hkj⟩:∃k,S[j]=k:=⟨_,rfl⟩;have hkl:k<l.length:=hi9k k (by rw[<-hkj];exact List.getElem_mem hjS);have hpe:=restK_erase (i:=i) hjS;simp[nkD_get,hkj];refine aA ?_;simp;refine aC ?_;simp;refine⟨λh11=>?_,λh11=>?_⟩
    ·refine aM ?_;simp[hkl];refine⟨by omega,?_⟩;refine Ks.mk (S.eraseIdx j,out++[l[k]]) (aB hp [0,9,11,39] [(53,35),(39,39)]) ?_ ?_
     ·refine⟨?_,λk' hk'=>hi9k k' ((List.eraseIdx_sublist S j).subset hk')⟩;rw[hkj,if_neg (by omega)]at hpe;have hpm:=(hpe.map λk=>l.getD k default).append_left out;refine List.Perm.trans ?_ (hpm.symm.trans hi9);simp[List.getElem?_eq_getElem hkl]
     ·have:=List.length_eraseIdx_of_lt hjS;show(S.eraseIdx j).length<S.length;omega
    ·refine aE ?_;simp;refine Ks.mk (S.eraseIdx j,out) (aB hp [0,9,11,39] [(35,35),(39,39)]) ?_ ?_
     ·refine⟨?_,λk' hk'=>hi9k k' ((List.eraseIdx_sublist S j).subset hk')⟩;rw[hkj,if_pos (by omega)]at hpe;have hpm:=(hpe.map λk=>l.getD k default).append_left out;exact hpm.symm.trans hi9
     ·have:=List.length_eraseIdx_of_lt hjS;show(S.eraseIdx j).length<S.length;omega
end
theorem aJ.sto:Uj (λa b:aJ=>Op.bytesLess a b):=by
 refine⟨λa=>?_,λa b c h1 h2=>?_,λa b h1 h2=>?_⟩
 ·rw[bytesLess_eq,decide_eq_false_iff_not];exact List.lt_irrefl a
 ·rw[bytesLess_eq,decide_eq_true_eq]at*;exact List.lt_trans h1 h2
 ·rw[bytesLess_eq,decide_eq_false_iff_not,List.not_lt]at h1 h2;exact List.le_antisymm h2 h1
theorem dedup_sub{α:Type}[DecidableEq α]:∀l:List α,(dG l).Sublist l
 |a::b::r=>by
  have ih:=dedup_sub (b::r);simp only[dG];split
  ·exact ih.cons _
  ·exact ih.cons_cons _
 |[]=>List.Sublist.refl _
 |[_]=>List.Sublist.refl _
theorem dedup_nodup{α:Type}[DecidableEq α]:∀{l:List α},l.Nodup->dG l=l
 |a::b::r,h=>by
  have h1:=List.nodup_cons.1 h;simp only[dG];rw[if_neg (λe=>h1.1 (by rw[e];exact List.mem_cons_self ..)),dedup_nodup h1.2]
 |[],_=>rfl
 |[_],_=>rfl
theorem rising_nodup{α:Type}{lt:α->α->Bool}(O:Uj lt){l:List α}(h:dR lt l):l.Nodup:=h.imp λ{a b} h e=>by subst e;rw[O.irrefl]at h;cases h
theorem doubles{f:List aJ}:(dG (cX f)).length<f.length↔¬f.Nodup:=by
 have hp:(cX f).Perm f:=List.mergeSort_perm f _;have hl:=gO f;constructor
 ·intro h hn;rw[dedup_nodup (hp.nodup_iff.2 hn),hl]at h;exact Nat.lt_irrefl _ h
 ·intro h;refine Classical.byContradiction λhc=>h ?_;have hle:=pZ (cX f);have e:dG (cX f)=cX f:=(dedup_sub (cX f)).eq_of_length (by omega);have hr:dR (λa b:aJ=>Op.bytesLess a b) (dG (cX f)):=lT aJ.sto ((lR f).imp λ{a b} h=>by
   rw[bytesLess_eq,decide_eq_false_iff_not,List.not_lt];exact h)
  rw[e]at hr;exact hp.nodup_iff.1 (rising_nodup aJ.sto hr)
def treeD(d:Df):Nd:=(parseS d.text).1
theorem idx_before{l:List Df}{ts:List Nd}{i:Nat}{d:Df}(hd:l[i]? =some d)(ht:ts.map Nd.text=(l.take i).map Df.name):gR l d.name<(i:Int)↔(lB ts d.name).isSome=true:=by
 obtain⟨hi,hde⟩:=List.getElem?_eq_some_iff.1 hd;have hlt:ts.length=i:=by have:=congrArg List.length ht;simpa [Nat.min_eq_left (Nat.le_of_lt hi)]using this
 have hat:∀j (hj:j<ts.length),ts[j].text=(l[j]'(by omega)).name:=λj hj=>by
  have:=congrArg (·[j]?) ht;simpa [List.getElem?_eq_getElem hj,List.getElem?_take,show j<i by omega,List.getElem?_eq_getElem (show j<l.length by omega)]using this
 cases q:l.findIdx? (λe=>decide (e.name=d.name))with
 |none=>
  rw[List.findIdx?_eq_none_iff]at q;have:=q d (List.mem_of_getElem? hd);simp at this
 |some j=>
  have e:gR l d.name=(j:Nat):=by unfold gR;rw[jL,q];rfl
  obtain⟨hj,hj1,hj2⟩:=List.findIdx?_eq_some_iff_getElem.1 q;rw[e];constructor
  ·intro h;have hji:j<i:=by omega
   cases r:lB ts d.name with
   |some _=>rfl
   |none=>
    unfold lB at r;rw[List.findIdx?_eq_none_iff]at r;have:=r ts[j] (List.getElem_mem (by omega));rw[hat j (by omega)]at this;simp at hj1 this;exact absurd hj1.symm this
  ·intro h;obtain⟨k,hk⟩:=Option.isSome_iff_exists.1 h;unfold lB at hk;obtain⟨hk1,hk2,_⟩:=List.findIdx?_eq_some_iff_getElem.1 hk;simp at hk2;rw[hat k hk1]at hk2;have:¬k<j:=λhkj=>by
    have:=hj2 k hkj;simp[hk2]at this
   omega
theorem rdE_first{l:List Df}{ts:List Nd}{i:Nat}{d:Df}(hd:l[i]? =some d)(ht:ts.map Nd.text=(l.take i).map Df.name):EW ts d=firstE l d i:=by
 unfold EW firstE;have h1:=idx_before hd ht;have h2:=doubles (f:=bP (parseS d.text).1);by_cases a:(parseS d.text).2.2≠0
 ·rw[if_pos a,if_pos a]
 ·rw[if_neg a,if_neg a];by_cases b:(parseS d.text).1.text≠d.name
  ·rw[if_pos b,if_pos b]
  ·rw[if_neg b,if_neg b];by_cases c:gR l d.name<(i:Int)
   ·rw[if_pos c,if_pos (.inl (h1.1 c))]
   ·rw[if_neg c];by_cases e:(bP (parseS d.text).1).Nodup
    ·rw[if_pos e,if_neg];rintro(h|h)
     ·exact c (h1.2 h)
     ·exact h2.1 h e
    ·rw[if_neg e,if_pos (.inr (h2.2 e))]
theorem rdE_text{ts:List Nd}{d:Df}(e:EW ts d=0):(treeD d).text=d.name:=by
 unfold EW at e;split at e
 ·exact absurd e (by assumption)
 ·split at e
  ·cases e
  ·rename_i h1;exact Classical.byContradiction h1
theorem rdF_first{l:List Df}:∀(m i:Nat) (ts:List Nd),i+m=l.length->ts=(l.take i).map treeD->ts.map Nd.text=(l.take i).map Df.name->(∀j<i,q1 l j=false)->
 (match cQ (q1 l) l.length with|some k=>(An ts (l.drop i)).2=((k:Int),firstE l (l.getD k default) k)/\(An ts (l.drop i)).2.2≠0|none=>An ts (l.drop i)=(l.map treeD,(l.length:Int),0))
 |0,i,ts,hm,ht,_,hq=>by
  have hi:i=l.length:=by omega
  subst hi;rw[rU hq,List.drop_length,An,ht,List.take_length];simp
 |m+1,i,ts,hm,ht,hn,hq=>by
  have hi:i<l.length:=by omega
  have hd:l[i]? =some l[i]:=List.getElem?_eq_getElem hi;have hg:l.getD i default=l[i]:=by rw[List.getD_eq_getElem?_getD,hd];rfl
  have he:=rdE_first hd hn;rw[List.drop_eq_getElem_cons hi];by_cases c:firstE l l[i] i=0
  ·have hq':q1 l i=false:=by unfold q1;rw[hg];simpa using c
   have htx:=rdE_text (he.trans c);have ht2:l.take (i+1)=l.take i++[l[i]]:=List.take_succ_eq_append_getElem hi;have ih:=rdF_first (l:=l) m (i+1) (ts++[treeD l[i]]) (by omega) (by rw[ht2,List.map_append,ht];rfl) (by rw[ht2,List.map_append,List.map_append,hn];simp[htx]) λj hj=>by
    rcases Nat.lt_succ_iff_lt_or_eq.1 hj with hj|rfl
    ·exact hq j hj
    ·exact hq'
   rw[EY (he.trans c)];exact ih
  ·have hf:cQ (q1 l) l.length=some i:=rT hi hq (by unfold q1;rw[hg];simpa using c);rw[hf,qF (by rw[he];exact c),he];have hl:ts.length=i:=by rw[ht];simp;omega
   simp only[hg,hl];exact⟨trivial,c⟩
theorem readP_first{l:List Df}(h:l.length<=24):(match cQ (q1 l) l.length with|some k=>(cR l).2=((k:Int),firstE l (l.getD k default) k)/\(cR l).2.2≠0|none=>cR l=(l.map treeD,(l.length:Int),0)):=by
 have:=rdF_first (l:=l) l.length 0 [] (by omega) (by simp) (by simp) (λj h=>absurd h (Nat.not_lt_zero _));unfold cR;rw[if_neg (by omega)];simpa using this
def combE(a b:Int):Int:=if b=0 then a else gI a b
def clsB(a b c:Bool):Int:=if a=true then 6 else if b=true then 12 else if c=true then -1 else 0
def clsE(e:bZ->Int)(us:List bZ):Int:=clsB (us.any λu=>decide (e u=6)) (us.any λu=>decide (e u=12)) (us.any λu=>decide (e u= -1))
theorem combE_four{a b:Int}(ha:lG a)(hb:lG b):lG (combE a b):=by
 rcases ha with rfl|rfl|rfl|rfl<;>rcases hb with rfl|rfl|rfl|rfl<;>simp[combE,gI,GF,lG]
theorem combE_assoc{a b c:Int}(ha:lG a)(hb:lG b)(hc:lG c):combE (combE a b) c=combE a (combE b c):=by
 rcases ha with rfl|rfl|rfl|rfl<;>rcases hb with rfl|rfl|rfl|rfl<;>rcases hc with rfl|rfl|rfl|rfl<;>decide
theorem clsB_four(a b c:Bool):lG (clsB a b c):=by cases a<;>cases b<;>cases c<;>simp[clsB,lG]
theorem clsE_four(e:bZ->Int)(us:List bZ):lG (clsE e us):=clsB_four _ _ _
theorem clsE_cons{e:bZ->Int}{u:bZ}{us:List bZ}(h:lG (e u)):clsE e (u::us)=combE (e u) (clsE e us):=by
 unfold clsE;simp only[List.any_cons];generalize us.any (λu=>decide (e u=6))=a;generalize us.any (λu=>decide (e u=12))=b;generalize us.any (λu=>decide (e u= -1))=c;generalize e u=x at*;rcases h with rfl|rfl|rfl|rfl<;>cases a<;>cases b<;>cases c<;>decide
theorem misF_cls(ts:List Nd)(us:List bZ):xT ts us=clsE (fT ts) us:=by
 have key:∀(us:List bZ) (o:Int),lG o->us.foldl (λout u=>if fT ts u=0 then out else gI out (fT ts u)) o=combE o (clsE (fT ts) us):=λus=>by
  induction us with
  |nil=>intro o _;simp[clsE,clsB,combE]
  |cons u r ih=>
   intro o ho;have he:=xU ts u;have hc:(if fT ts u=0 then o else gI o (fT ts u))=combE o (fT ts u):=rfl;rw[List.foldl_cons,hc,ih _ (combE_four ho he),combE_assoc ho he (clsE_four _ r),clsE_cons he]
 have:=key us 0 (.inl rfl);rw[xT,this];rcases clsE_four (fT ts) us with h|h|h|h<;>rw[h]<;>decide
theorem atN_find{l:List Df}{ts:List Nd}(h:ts.map Nd.text=l.map Df.name)(nm:aJ):lB ts nm=l.findIdx? λd=>decide (d.name=nm):=by
 have h1:(ts.map Nd.text).findIdx? (λs=>decide (nm=s))=ts.findIdx? (λt=>decide (nm=t.text)):=by rw[List.findIdx?_map];rfl
 have h2:(l.map Df.name).findIdx? (λs=>decide (nm=s))=l.findIdx? (λd=>decide (nm=d.name)):=by rw[List.findIdx?_map];rfl
 unfold lB;rw[<-h1,h,h2];congr 1;funext d;simp[eq_comm]
theorem idxN_at{l:List Df}{ts:List Nd}(h:ts.map Nd.text=l.map Df.name)(nm:aJ):gR l nm=lW (lB ts nm):=by
 rw[atN_find h];unfold gR;rw[jL]
theorem tAt_at{l:List Df}(h:(l.map treeD).map Nd.text=l.map Df.name){nm:aJ}{j:Nat}(hj:lB (l.map treeD) nm=some j):tAt l nm=(l.map treeD).getD j default:=by
 have hlt:=rP hj;have hlt':j<l.length:=by simpa using hlt
 unfold tAt;rw[idxN_at h,hj];simp only[lW,Int.toNat_natCast];rw[List.getD_eq_getElem?_getD,List.getD_eq_getElem?_getD,List.getElem?_eq_getElem hlt',List.getElem?_eq_getElem hlt,Option.getD_some,Option.getD_some,List.getElem_map];rfl
theorem any_congr'{us:List bZ}{p q:bZ->Bool}(h:∀u∈us,p u=q u):us.any p=us.any q:=by
 induction us with
 |nil=>rfl
 |cons u r ih=>rw[List.any_cons,List.any_cons,h u (List.mem_cons_self ..),ih λv hv=>h v (List.mem_cons_of_mem _ hv)]
theorem mis_second{l:List Df}(h:(l.map treeD).map Nd.text=l.map Df.name)(x:Nd):Ck (l.map treeD) x=secondE l (aW x):=by
 have e1:∀u,p1 l u=decide (fT (l.map treeD) u=6):=λu=>by
  unfold p1 fT;rw[idxN_at h];cases hj:lB (l.map treeD) u.name with
  |none=>simp[lW]
  |some j=>
   simp only[lW];have:¬((j:Int)<0):=by omega
   split
   ·simp[this]
   ·split<;>simp[this]
 have hE:∀u j,lB (l.map treeD) u.name=some j->fT (l.map treeD) u=if((l.map treeD).getD j default).kind≠u.kind then 12 else if u.kind=1/\u.field∉bP ((l.map treeD).getD j default)then -1 else 0:=λu j hj=>by unfold fT;rw[hj]
 have e2:∀u,p1 l u=false->p2 l u=decide (fT (l.map treeD) u=12):=λu hu=>by
  unfold p1 at hu;rw[idxN_at h]at hu;unfold p2;cases hj:lB (l.map treeD) u.name with
  |none=>rw[hj]at hu;simp[lW]at hu
  |some j=>
   rw[tAt_at h hj,hE u j hj];generalize(l.map treeD).getD j default=y;by_cases hk:y.kind≠u.kind
   ·rw[if_pos hk];simp[hk]
   ·rw[if_neg hk];by_cases hf:u.kind=1/\u.field∉bP y
    ·rw[if_pos hf];simpa using hk
    ·rw[if_neg hf];simpa using hk
 have e3:∀u,p1 l u=false->p2 l u=false->p3 l u=decide (fT (l.map treeD) u= -1):=λu hu hu2=>by
  unfold p1 at hu;rw[idxN_at h]at hu;unfold p2 at hu2;unfold p3;cases hj:lB (l.map treeD) u.name with
  |none=>rw[hj]at hu;simp[lW]at hu
  |some j=>
   rw[tAt_at h hj]at hu2|-;rw[hE u j hj];generalize(l.map treeD).getD j default=y at*;rw[if_neg (by simpa using hu2)];by_cases hf:u.kind=1/\u.field∉bP y
   ·rw[if_pos hf];simp only[hf,not_false_eq_true,and_self]
   ·rw[if_neg hf,decide_eq_false hf];rfl
 unfold Ck;rw[misF_cls];unfold clsE clsB secondE;rw[any_congr' (p:=p1 l) λu _=>e1 u];by_cases h6:(aW x).any (λu=>decide (fT (l.map treeD) u=6))=true
 ·simp only[h6,if_true];decide
 ·have h1:∀u∈aW x,p1 l u=false:=λu hu=>by
   rw[e1];have:=λq=>h6 (List.any_eq_true.2 ⟨u,hu,q⟩);simpa using this
  rw[any_congr' (p:=p2 l) λu hu=>e2 u (h1 u hu)];simp only[if_neg h6];by_cases h12:(aW x).any (λu=>decide (fT (l.map treeD) u=12))=true
  ·simp only[h12,if_true];decide
  ·have h2:∀u∈aW x,p2 l u=false:=λu hu=>by
    rw[e2 u (h1 u hu)];have:=λq=>h12 (List.any_eq_true.2 ⟨u,hu,q⟩);simpa using this
   rw[any_congr' (p:=p3 l) λu hu=>e3 u (h1 u hu) (h2 u hu)];simp only[if_neg h12];by_cases hm:(aW x).any (λu=>decide (fT (l.map treeD) u= -1))=true
   ·simp only[hm,if_true]
   ·simp only[if_neg hm];decide
end Go.Eng
