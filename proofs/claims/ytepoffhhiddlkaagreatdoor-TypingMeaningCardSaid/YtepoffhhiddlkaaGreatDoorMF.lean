/- Part 6 of the proof. No condition. -/
import Derived.Test.YtepoffhhiddlkaaGreatDoorME
import Derived.Shelf.Strings.Search1
import Derived.Test.YtepoffhhiddlkaaGreatDoorProg
import Derived.Shelf.Strconv.Atoi
open Go.Proofs
open Go.Proofs.Tryz
set_option linter.unusedVariables false
set_option linter.unusedSimpArgs false
set_option maxRecDepth 20000
set_option maxHeartbeats 4000000
open List renaming drop_eq_getElem_cons→A0,length_cons→A1,length_append→A2,getElem_mem→A3,drop_eq_nil_of_le→A4,getElem?_eq_getElem→A5,length_drop→A6,getElem_cons_zero→A8,drop_drop→A9,take_length→B2,take_append_getElem→B4,length_take→B7,length_singleton→C3,flatMap_append→C4,length_pos_iff→C5,mem_cons→C6,take→D5,drop→D8
open Nat renaming zero_le→A7,eq_zero_or_pos→B3,not_lt_zero→C0,le_succ_of_le→C8,add_zero→D6,le_refl→D7
open Int renaming eq_ofNat_of_zero_le→B8,natCast_add→D2,add_assoc→D4
open Option renaming getD_some→B9,map_some→D1
open Bool renaming true_and→B5,and_eq_true→B6,beq_eq_decide_eq→C2,eq_iff_iff→D0,and_assoc→D3
open Classical renaming byContradiction→B0,not_and_iff_not_or_not→C7
open UInt8 renaming toNat_inj→B1,le_iff_toNat_le→C1,ofNat→C9
namespace Go.Eng
section
attribute[local simp] aR bK bE aO aL aZ aP
attribute[local simp] kJ.cond Nd.d_eq nd_t nd_dr nd_td ndsD
theorem Rr(x:Nd)(hr:rightN x=true)(Y:isStmtK x.kind=true)(hw:weighN x<=1000000000)(A:∀y∈x.kids,BlockR y->Ok prog 166 [y.d] ⟨.d (.str (blockT y)),true⟩):Ok prog 240 [x.d] ⟨.d (.str (stmtT x)),true⟩:=by
 refine bU func240 rfl ntmps240 results240 λN X c=>?_;obtain⟨f0,f9,F,G,H⟩:=Ek hr Y;have a0:=weighN_eq x;have Z:=(eS x).1 hr Y;have wl:=sN x.kind;have q2:=nJ;have a:∀(i:Nat) (f:i<x.kids.length),weighN x.kids[i]<weighN x:=λi f=>nG f;apply aE;simp;apply eT;simp;apply aY;apply bF;simp;refine⟨λJ=>?_,λJ=>?_⟩
 .apply aF;obtain⟨h,d,e⟩:=f9 J;have N:=a 0 h;have l0:=dG _ d.1 d.2;have s:=AI _ d.1 d.2 aD;refine fF.rd [[19],[19],[19],[19]] [[],[],[],[],[],[],[],[],[19]] (og 19 (.plain ⟨.d (.str (exprT x.kids[0])),true⟩)) ?_;simp[h];refine⟨⟨⟨⟨⟨aD,aD⟩,by simpa using s⟩,aD⟩,aD⟩,?_⟩;apply aH;simp[e,Rp]
 .apply bF;simp;refine⟨λQ=>?_,λQ=>?_⟩
  .apply aF;obtain⟨h,r,d,B,e⟩:=F Q;have N:=a 0 h;have w1:=a 1 r;have l0:=dG _ d.1 d.2;have l1:=dG _ B.1 B.2;have s:=AI _ d.1 d.2 aD;have D:=AI _ B.1 B.2 aD;refine fF.rd [[],[],[],[],[],[34],[28],[28],[28],[28]] [[],[],[],[],[28],[],[],[],[],[],[34]] (λ|28=>some<| .plain ⟨.d (.str (exprT x.kids[0])),true⟩|34=>some<| .plain ⟨.d (.str (exprT x.kids[1])),true⟩|_=>none) ?_;simp[h,r];refine⟨by(repeat' with_reducible apply And.intro)<;>first|omega|(simpa using s)|(simpa using D),?_⟩;apply aH;simp[e,Rq]
  .refine bI (ι:=BC) (λ⟨b⟩=>bB [(1,.bx 1 0),(37,.d (.bool b))]) (λ⟨b⟩=>aK [(1,.box false [.d (aI x.kind),.d (.str x.text),.d (aI x.n),.d (ndsD x.kids)])]) (λ⟨b⟩=>b=true↔(x.kind=11\/x.kind=12)) ?_ λ⟨b⟩ z=>?_
   .apply bF;simp;refine⟨λS=>?_,λS=>?_⟩
    .apply aG;simp;refine Xv.mk ⟨decide (x.kind=11)⟩ (aA c [1,37] [(1,1)]) ?_;simp[S]
    .apply aJ;simp;refine Xv.mk ⟨decide (x.kind=12)⟩ (aA c [1,37] [(1,1)]) ?_;simp only[decide_eq_true_eq];omega
   .apply aM;simp;refine⟨λL=>?_,λL=>?_⟩
    .have q8:=z.1 L;apply aF;obtain⟨h,r,d,O,e⟩:=G q8;have N:=a 0 h;have w1:=a 1 r;have l0:=dG _ d.1 d.2;have l1:=(eS x.kids[1]).2 O;have s:=AI _ d.1 d.2 aD;have D:=A _ (A3 r) O;have q1:=yD (k:=x.kind) aD aD;refine fF.rd [[49,56],[49,56],[49,56],[49,56],[49,56],[],[],[],[],[],[56],[56],[49],[49],[49],[49]] [[],[],[],[],[],[],[],[],[],[49],[],[],[],[],[],[],[56]] (λ|49=>some<| .plain ⟨.d (.str (exprT x.kids[0])),true⟩|56=>some<| .plain ⟨.d (.str (blockT x.kids[1])),true⟩|_=>none) ?_;simp[h,r,q1];refine⟨⟨⟨⟨⟨⟨⟨⟨⟨aD,aD⟩,aD⟩,by simpa using s⟩,aD⟩,aD⟩,aD⟩,by simpa using D⟩,aD⟩,?_⟩;apply aF;apply bF;simp;refine⟨λh9=>?_,λh9=>?_⟩
     .have o:2<x.kids.length:=aD;rcases e with⟨e,_⟩|⟨_,P,e⟩
      .omega
      have w2:=a 2 o;have l2:=(eS x.kids[2]).2 P;have c2:=A _ (A3 o) P;refine bH (og 67 (.plain ⟨.d (.str (blockT x.kids[2])),true⟩)) ?_;simp[o];refine⟨by(repeat' with_reducible apply And.intro)<;>first|omega|(simpa using c2),?_⟩;apply aE;simp;apply aH;simp[e,Pv,Gh,sElse]
     .apply aG;simp;apply aE;simp;apply aH;rcases e with⟨_,e⟩|⟨J,_,_⟩
      .simp[e,Pv]
      .omega
    .have q8:¬(x.kind=11\/x.kind=12):=λq=>by simp[z.2 q]at L
     apply aG;simp;apply aF;have M:=H aD;obtain⟨g1,g2,g3,I⟩:=cmd_facts M;have e:=Px (x:=x) aD;have ml:=HK x.kind x.text;have nl:=BF x.n;have kl:=yE I;have q1:=yD (k:=x.kind) aD aD;apply aJ;simp[q1];refine⟨by(repeat' with_reducible apply And.intro)<;>omega,?_⟩;refine bI (ι:=Unit) (λi=>bB [(1,.bx 1 0),(4,.d (.str (wordAt x.kind++midT x.kind x.text)))]) (λi=>aK [(1,.box false [.d (aI x.kind),.d (.str x.text),.d (aI x.n),.d (ndsD x.kids)])]) (λi=>True) ?_ λi U=>?_
     .apply aE;simp;apply aY;refine bI (ι:=BC) (λ⟨b⟩=>bB [(1,.bx 1 0),(4,.d (.str (wordAt x.kind))),(76,.d (aI x.kind)),(82,.d (.bool b))]) (λ⟨b⟩=>aK [(1,.box false [.d (aI x.kind),.d (.str x.text),.d (aI x.n),.d (ndsD x.kids)])]) (λ⟨b⟩=>b=true↔(x.kind=19\/x.kind=20)) ?_ λ⟨b⟩ l=>?_
      .apply bF;simp;refine⟨λt=>?_,λt=>?_⟩
       .apply aG;simp;refine Xv.mk ⟨decide (x.kind=19)⟩ (aA c [1,4,76,82] [(1,1)]) ?_;simp[t]
       .apply aJ;simp;refine Xv.mk ⟨decide (x.kind=20)⟩ (aA c [1,4,76,82] [(1,1)]) ?_;simp only[decide_eq_true_eq];omega
      .apply aM;simp;refine⟨λn=>?_,λn=>?_⟩
       .have g:=l.1 n;apply aJ;simp;refine⟨by(repeat' with_reducible apply And.intro)<;>omega,?_⟩;exact(aA c [1,4] [(1,1)] (by simp[midT,g]))
       .have g:¬(x.kind=19\/x.kind=20):=λq=>by simp[l.2 q]at n
        refine bI (ι:=BC) (λ⟨b⟩=>bB [(1,.bx 1 0),(4,.d (.str (wordAt x.kind))),(76,.d (aI x.kind)),(90,.d (.bool b))]) (λ⟨b⟩=>aK [(1,.box false [.d (aI x.kind),.d (.str x.text),.d (aI x.n),.d (ndsD x.kids)])]) (λ⟨b⟩=>b=true↔(x.kind=21\/x.kind=25\/x.kind=24)) ?_ λ⟨b⟩ j=>?_
        .apply bF;simp;refine⟨λu=>?_,λu=>?_⟩
         .apply aG;simp;refine Xv.mk ⟨decide (x.kind=21)⟩ (aA c [1,4,76,90] [(1,1)]) ?_;simp[u]
         .apply bF;simp;refine⟨λv=>?_,λv=>?_⟩
          .apply aG;simp;refine Xv.mk ⟨decide (x.kind=25)⟩ (aA c [1,4,76,90] [(1,1)]) ?_;simp[v]
          .apply aJ;simp;refine Xv.mk ⟨decide (x.kind=24)⟩ (aA c [1,4,76,90] [(1,1)]) ?_;simp only[decide_eq_true_eq];omega
        .apply aM;simp;refine⟨λm=>?_,λm=>?_⟩
         .have p:=j.1 m;apply aG;simp;exact(aA c [1,4] [(1,1)] (by simp[midT,g,p]))
         .have p:¬(x.kind=21\/x.kind=25\/x.kind=24):=λq=>by simp[j.2 q]at m
          apply aJ;simp;refine⟨by(repeat' with_reducible apply And.intro)<;>omega,?_⟩;exact(aA c [1,4] [(1,1)] (by simp[midT,g,p]))
     .refine bI (ι:=Unit) (λi=>bB [(1,.bx 1 0),(4,.d (.str (wordAt x.kind++(midT x.kind x.text++withN x.n))))]) (λi=>aK [(1,.box false [.d (aI x.kind),.d (.str x.text),.d (aI x.n),.d (ndsD x.kids)])]) (λi=>True) ?_ λi V=>?_
      .apply bF;simp;refine⟨λw=>?_,λw=>?_⟩
       .have E:=AH x.n aD g3;have hn:withN x.n=32::itoaS x.n:=by unfold withN;rw[if_pos w]
        have il:=cI x.n;refine bH (og 100 (.plain ⟨.d (.str (itoaS x.n)),true⟩)) ?_;simp;refine⟨by(repeat' with_reducible apply And.intro)<;>first|omega|(simpa using E)|(simp only[A2];omega),?_⟩;exact(aA c [1,4] [(1,1)] (by simp[hn]))
       .apply aG;simp;exact(aA c [1,4] [(1,1)] (by simp[withN,show¬0<x.n by omega]))
      .apply eT;simp;apply aY;refine bC (ι:=Nat) (λi=>bB [(4,.d (.str (wordAt x.kind++(midT x.kind x.text++(withN x.n++withE (x.kids.take i)))))),(104,.d (ndsD x.kids)),(105,.d (aI x.kids.length)),(106,.d (aI i))]) (λi=>aK []) (λi=>i<=x.kids.length) (λi=>x.kids.length-i) 0 (aA c [4,104,105,106] [] (by simp[withE])) (A7 _) λi W=>?_;apply aE;simp;apply aF;apply aM;simp;refine⟨λK=>?_,λK=>?_⟩
       .apply aG;simp;apply eE;apply aF;have f:i<x.kids.length:=aD;apply aJ;simp[f];have C:=I _ (A3 f);have wi:=a i f;have li:=dG _ C.1 C.2;have E:=AI _ C.1 C.2 aD;have lt:=Ej I i;refine bH (og 112 (.plain ⟨.d (.str (exprT x.kids[i])),true⟩)) ?_;simp;refine⟨by(repeat' with_reducible apply And.intro)<;>first|omega|(simpa using E)|(simp only[A2];omega),?_⟩;have:=nH x;apply aJ;simp;refine⟨aD,?_⟩;refine Oe.mk (i+1) (aA c [4,104,105,106] [] (by simp[MA f])) ?_ ?_
        .omega
        .omega
       .apply bQ;simp;apply aF;have f:i=x.kids.length:=aD;subst f;rw[B2];apply aJ;simp;refine⟨by first|omega|(simp only[A2];omega),?_⟩;apply aH;simp[e]
theorem aAy(x:Nd):(rightN x=true->isStmtK x.kind=true->weighN x<=1000000000->Ok prog 240 [x.d] ⟨.d (.str (stmtT x)),true⟩)/\(BlockR x->weighN x<=1000000000->Ok prog 166 [x.d] ⟨.d (.str (blockT x)),true⟩):=by
 refine iU (p:=λx=>(rightN x=true->isStmtK x.kind=true->weighN x<=1000000000->Ok prog 240 [x.d] ⟨.d (.str (stmtT x)),true⟩)/\(BlockR x->weighN x<=1000000000->Ok prog 166 [x.d] ⟨.d (.str (blockT x)),true⟩)) (λk t n g f=>⟨?_,?_⟩) x
 .intro i h d;have c:∀y∈g,weighN y<=1000000000:=λy a=>by have:=weigh_mem a;rw[weighN]at d;omega
  exact Rr _ i h d λy a e=>(f y a).2 e (c y a)
 .intro e d;have c:∀y∈g,weighN y<=1000000000:=λy a=>by have:=weigh_mem a;rw[weighN]at d;omega
  obtain⟨l,j,a⟩:=id e;injection j with i1 i2 i3 i4
  exact MB _ e d λy b=>(f y b).1 (a y (i4▸b)).1 (a y (i4▸b)).2 (c y b)
theorem Rs{x:Nd}:(itemT x).length<=9*weighN x:=by
 have:=cI x.n;rw[weighN_eq];simp only[itemT,A2,A1,List.length_nil];omega
theorem qG:∀l:List Nd,(l.flatMap itemT).length<=9*weighL l
 |[]=>bA
 |a::r=>by
  have b:=qG r;have c:=Rs (x:=a);simp only[List.flatMap_cons,weighL,A2];omega
theorem El{l:List Nd}{i:Nat}(a:i<l.length):(l.take (i+1)).flatMap itemT=(l.take i).flatMap itemT++itemT l[i]:=by
 rw[<-B4 a,C4];simp
theorem wA{l:List Nd}(i:Nat):((l.take i).flatMap itemT).length<=9*weighL l:=by
 have a:=qG l;have b:(l.take i).flatMap itemT++(l.drop i).flatMap itemT=l.flatMap itemT:=by rw[<-C4,List.take_append_drop]
 rw[<-b,A2]at a;omega
def kW(l:List Nd):aV:=l.flatMap itemT
theorem Py(x:Nd)(f:DefR x)(S:weighN x<=1000000000):Ok prog 88 [x.d] ⟨.d (.str (textT x)),true⟩:=by
 refine bU func88 rfl ntmps88 results88 λY X s=>?_;obtain⟨Q,f⟩:=f;have r:=weighN_eq x;have Z:=sN x.kind;have q2:=nJ;have M:0<=x.kind/\x.kind<=6:=by rcases f with⟨h|h,_⟩|⟨h,_⟩|⟨h,_⟩|⟨h,_⟩|⟨h|h,_⟩<;>omega
 have q1:=yD (k:=x.kind) aD aD;have U:=cI x.n;apply aE;simp;apply aF;refine fF.rd [] [] (λ_=>none) ?_;simp[q1];refine⟨by(repeat' with_reducible apply And.intro)<;>omega,?_⟩;apply eT;simp;apply aY;refine bI (ι:=BC) (λ⟨b⟩=>bB [(1,.bx 1 0),(3,.d (.str (wordAt x.kind++32::x.text))),(15,.d (aI x.kind)),(16,.d (.bool b))]) (λ⟨b⟩=>aK [(1,.box false [.d (aI x.kind),.d (.str x.text),.d (aI x.n),.d (ndsD x.kids)])]) (λ⟨b⟩=>b=true↔(x.kind=5\/x.kind=6)) ?_ λ⟨b⟩ p=>?_
 .apply bF;simp;refine⟨λz=>?_,λz=>?_⟩
  .apply aG;simp;refine Xv.mk ⟨decide (x.kind=5)⟩ (aA s [1,3,15,16] [(1,1)]) ?_;simp[z]
  .apply aJ;simp;refine Xv.mk ⟨decide (x.kind=6)⟩ (aA s [1,3,15,16] [(1,1)]) ?_;simp only[decide_eq_true_eq];omega
 .apply aM;simp;refine⟨λt=>?_,λt=>?_⟩
  .have m:=p.1 t;apply aF;have u:∃b,x=.mk x.kind x.text 0 [b]/\BlockR b:=by
    rcases f with⟨_,h⟩|⟨h,_⟩|⟨h,_⟩|⟨h,_⟩|⟨h|h,_⟩<;>first|exact h|omega
   obtain⟨c,E,A⟩:=u;have g:x.kids=[c]:=by rw[E];rfl
   rw[g]at r;simp only[weighL]at r;have K:=(eS c).2 A;have G:=(aAy c).2 A aD;refine bH (og 25 (.plain ⟨.d (.str (blockT c)),true⟩)) ?_;simp[g];refine⟨⟨⟨aD,by simpa using G⟩,aD⟩,?_⟩;apply aH;simp[textT,m,g]
  .have m:¬(x.kind=5\/x.kind=6):=λq=>by simp[p.2 q]at t
   apply bF;simp;refine⟨λo=>?_,λo=>?_⟩
   .apply aF;have v:∀y∈x.kids,ItemR y:=by
     rcases f with⟨h|h,_⟩|⟨_,_,h⟩|⟨h,_⟩|⟨h,_⟩|⟨h|h,_⟩<;>first|exact h|omega
    apply aJ;simp;refine⟨aD,?_⟩;apply eT;simp;apply aY;refine bC (ι:=Nat) (λi=>bB [(3,.d (.str (wordAt x.kind++32::(x.text++32::123::32::kW (x.kids.take i))))),(32,.d (ndsD x.kids)),(33,.d (aI x.kids.length)),(34,.d (aI i))]) (λi=>aK []) (λi=>i<=x.kids.length) (λi=>x.kids.length-i) 0 (aA s [3,32,33,34] [] (by simp[kW])) (A7 _) λi D=>?_;apply aE;simp;apply aF;apply aM;simp;refine⟨λC=>?_,λC=>?_⟩
    .apply aG;simp;apply eE;apply aF;have j:i<x.kids.length:=aD;apply aJ;simp[j];obtain⟨W,I,F,N,O,P⟩:=v _ (A3 j);have L:x.kids[i].n=I:=by rw[F];rfl
     have n:=AH x.kids[i].n aD aD;have w:=wA (l:=x.kids) i;have V:=cI x.kids[i].n;have J:=nG j;rw[weighN_eq x.kids[i]]at J;have H:(kW (x.kids.take i)).length<=9*weighL x.kids:=w;refine fF.rd [[44],[44],[44],[44]] [[],[],[],[],[],[],[44]] (og 44 (.plain ⟨.d (.str (itoaS x.kids[i].n)),true⟩)) ?_;simp;refine⟨by(repeat' with_reducible apply And.intro)<;>first|omega|exact n|(simp only[A2,A1];omega),?_⟩;have:=nH x;apply aJ;simp;refine⟨aD,?_⟩;refine Oe.mk (i+1) (aA s [3,32,33,34] [] (by simp[kW,El j,itemT])) ?_ ?_
     .omega
     .omega
    .apply bQ;simp;apply aF;have j:i=x.kids.length:=aD;subst j;rw[B2];have w:=qG x.kids;have H:(kW x.kids).length<=9*weighL x.kids:=w;apply aJ;simp;refine⟨aD,?_⟩;apply aH;simp[textT,m,o,kW]
   .apply bF;simp;refine⟨λa=>?_,λa=>?_⟩
    .have d: -999<=x.n/\x.n<=999:=by
      rcases f with⟨h|h,_⟩|⟨h,_⟩|⟨_,_,h⟩|⟨h,_⟩|⟨h|h,_⟩<;>omega
     have n:=AH x.n d.1 d.2;refine bH (og 56 (.plain ⟨.d (.str (itoaS x.n)),true⟩)) ?_;simp;refine⟨by(repeat' with_reducible apply And.intro)<;>first|omega|exact n,?_⟩;apply aE;simp;refine⟨aD,?_⟩;apply aH;simp[textT,m,o,a]
    .apply bF;simp;refine⟨λe=>?_,λe=>?_⟩
     .have B:0<=x.n/\x.n<=3:=by
       rcases f with⟨h|h,_⟩|⟨h,_⟩|⟨h,_⟩|⟨_,_,h⟩|⟨h|h,_⟩<;>omega
      have n:=AH x.n aD aD;refine bH (og 64 (.plain ⟨.d (.str (itoaS x.n)),true⟩)) ?_;simp;refine⟨by(repeat' with_reducible apply And.intro)<;>first|omega|exact n,?_⟩;apply aE;simp;refine⟨aD,?_⟩;apply aH;simp[textT,m,o,a,e]
     .apply aG;simp;apply aE;simp;refine⟨aD,?_⟩;apply aH;simp[textT,m,o,a,e]
end
section
attribute[local simp] aR bK bE aO aL aZ aP
attribute[local simp] kJ.cond Nd.d_eq nd_t nd_dr nd_td ndsD aU
theorem zT(c:UInt8):letterB c=(decide (97<=(c.toNat:Int))&&decide ((c.toNat:Int)<=122)):=by
 unfold letterB;congr 1<;>(rw[decide_eq_decide,C1];exact⟨λh=>by have:(97:UInt8).toNat=97:=rfl;have:(122:UInt8).toNat=122:=rfl;omega,λh=>by have:(97:UInt8).toNat=97:=rfl;have:(122:UInt8).toNat=122:=rfl;omega⟩)
theorem BG(c:UInt8):digitB c=(decide (48<=(c.toNat:Int))&&decide ((c.toNat:Int)<=57)):=by
 unfold digitB;congr 1<;>(rw[decide_eq_decide,C1];exact⟨λh=>by have:(48:UInt8).toNat=48:=rfl;have:(57:UInt8).toNat=57:=rfl;omega,λh=>by have:(48:UInt8).toNat=48:=rfl;have:(57:UInt8).toNat=57:=rfl;omega⟩)
theorem yF(c:UInt8):Ok prog 228 [.int .u8 (c.toNat:Int)] ⟨.d (.bool (letterB c)),true⟩:=by
 refine bU func228 rfl ntmps228 results228 λb X a=>?_;apply aE;simp;apply aE;simp;apply aH;simp[zT]
theorem wB(c:UInt8):Ok prog 230 [.int .u8 (c.toNat:Int)] ⟨.d (.bool (digitB c)),true⟩:=by
 refine bU func230 rfl ntmps230 results230 λb X a=>?_;apply aE;simp;apply aE;simp;apply aH;simp[BG]
theorem UB(s:aV)(p:UInt8->Bool)(g:FuncId)(n:∀c:UInt8,Ok prog g [.int .u8 (c.toNat:Int)] ⟨.d (.bool (p c)),true⟩)(d:s.length<=9223372036854775807):Ok prog 231 [.str s,.fn g []] ⟨.d (aI (runP p s)),true⟩:=by
 refine bU func231 rfl ntmps231 results231 λr X e=>?_;apply aE;simp;apply aE;simp;apply eE;refine bC (ι:=Nat) (λi=>bB [(0,.d (.str s)),(1,.d (.fn g [])),(5,.d (aI i))]) (λi=>aK []) (λi=>i<=s.length/\∀(j:Nat) (h:j<s.length),j<i->p s[j]=true) (λi=>s.length-i) 0 (aA e [0,1,5] []) (⟨A7 _,λj _ h=>absurd h (C0 _)⟩) λi a=>?_;apply fL;have m:=n (s.getD i 0);refine bH (og 15 (.plain ⟨.d (.bool (p (s.getD i 0))),true⟩)) ?_;simp[eM];refine⟨λ_=>by simpa using m,?_⟩;apply aM;simp;refine⟨λk l=>?_,λg=>?_⟩
 .apply aG;simp;apply aY;apply aJ;simp;refine⟨aD,?_⟩;refine Oe.mk (i+1) (aA e [0,1,5] []) ?_ ?_
  .refine⟨aD,λj b q=>?_⟩;rcases Nat.lt_or_ge j i with f|f
   .exact a.2 j b f
   .have:j=i:=aD;subst this;simpa [k]using l
  .omega
 .apply bQ;simp;apply aE;simp;apply aH;simp;have o:=runP_eq (p:=p) (s:=s) a.1 (λj b=>a.2 j aD b) (λd=>by
   have:=g d;simpa [d]using this)
  omega
theorem UC(c:UInt8):Ok prog 281 [.int .u8 (c.toNat:Int)] ⟨.d (.bool (letterB c||digitB c)),true⟩:=by
 refine bU func281 rfl ntmps281 results281 λb X a=>?_;apply aE;simp;refine dF (λ|4=>some<| .plain ⟨.d (.bool (letterB c)),true⟩|7=>some<| .plain ⟨.d (.bool (digitB c)),true⟩|_=>none) ?_;simp;refine⟨⟨yF c,λ_=>wB c⟩,?_⟩;apply aH;simp
theorem BH(s:aV):wordN s=if s=[]\/letterB (s[0]?.getD 0)=false then 0 else if 16<runP (λc=>letterB c||digitB c) s then 0 else runP (λc=>letterB c||digitB c) s:=by
 cases s with
 |nil=>rfl
 |cons c r=>
  have e:((c::r)[0]?.getD 0)=c:=rfl;rw[e];unfold wordN;generalize runP (λc=>letterB c||digitB c) (c::r)=n;by_cases q:letterB c=true
  .simp only[q,if_true];by_cases h:n<=16
   .simp[h,show¬16<n by omega]
   .simp[h,show 16<n by omega]
  .simp[q]
theorem HL(s:aV)(e:s.length<=9223372036854775807):Ok prog 229 [.str s] ⟨.d (aI (wordN s)),true⟩:=by
 refine bU func229 rfl ntmps229 results229 λj X i=>?_;apply aE;simp;apply aF;refine dF (og 9 (.plain ⟨.d (.bool (letterB (s.getD 0 0))),true⟩)) ?_;simp;refine⟨⟨λh=>C5.2 h,λ_=>yF _⟩,?_⟩;apply aM;simp;refine⟨λg=>?_,λa b=>?_⟩
 .apply aE;simp;apply aH;simp;rw[BH,if_pos g];rfl
 .apply aG;simp;apply aF;have f:=UB s (λc=>letterB c||digitB c) 281 (λc=>UC c) e;refine bH (og 13 (.plain ⟨.d (aI (runP (λc=>letterB c||digitB c) s)),true⟩)) ?_;simp;refine⟨by simpa using f,?_⟩;apply aF;apply bF;simp;refine⟨λd=>?_,λd=>?_⟩
  .apply aE;simp;apply aH;simp;rw[BH,if_neg,if_pos aD]
   .rfl
   intro q;rcases q with q|q
   .exact a (by simpa using q)
   .simp[q]at b
  .apply aG;simp;apply aE;simp;apply aH;simp;rw[BH,if_neg,if_neg aD];intro q;rcases q with q|q
   .exact a (by simpa using q)
   .simp[q]at b
theorem zU:D5 26 uS=wordsL.map DV.str:=rfl
theorem JE(s:aV):Ok prog 284 [.str s] ⟨.d (.bool (reservedB s)),true⟩:=by
 refine bU func284 rfl ntmps284 results284 λc X b=>?_;apply aE;simp;apply aF;have a:=JA wordsL s;have q2:=nJ;refine bH (og 12 (.plain ⟨.d (.bool (decide (s∈wordsL))),true⟩)) ?_;simp[zU];refine⟨⟨λ_ _=>aD,λ_ _=>a⟩,?_⟩;apply aH;simp;show _=(decide (s=[101,108,115,101])||decide (s=[107,105,110,100])||decide (s∈wordsL));simp only[C2]
theorem Gk(s:aV):Ok prog 234 [.str s] ⟨.d (.bool (isNameB s)),true⟩:=by
 refine bU func234 rfl ntmps234 results234 λb X a=>?_;apply aE;simp;refine dF (λ|8=>some<| .plain ⟨.d (.bool (letterB (s.getD 0 0))),true⟩|12=>some<| .plain ⟨.d (.bool (reservedB s)),true⟩|_=>none) ?_;simp;refine⟨⟨⟨λh=>C5.2 h,λ_=>yF _⟩,λ_ _=>JE s⟩,?_⟩;apply aH;cases s<;>simp[isNameB]
theorem AJ(s:aV)(b:Bool)(e:s.length<=9223372036854775807):Ok prog 299 [.str s,.bool b] ⟨.d (.bool (wholeB s b)),true⟩:=by
 refine bU func299 rfl ntmps299 results299 λg X f=>?_;apply aE;simp;refine dF (λ|9=>some<| .plain ⟨.d (aI (wordN s)),true⟩|19=>some<| .plain ⟨.d (.bool (isNameB s)),true⟩|_=>none) ?_;simp;refine⟨⟨⟨λ_=>HL s e,λ_ _ _=>Gk s⟩,λa c d=>⟨⟨a,c⟩,d⟩⟩,?_⟩;apply aH;simp;rw[D0];simp[wholeB];intro _ _;omega
end
end Go.Eng
namespace Go.Proofs
open Go.Shelf
def Tryz.idxLay_ren:Go.Shelf.Ren:=⟨λ|217=>283|266=>317|n=>n,λ|9=>9|5=>5|3=>3|n=>n,λ|n=>n⟩
theorem Tryz.idxLay:Go.Proofs.Lays.n217 prog Tryz.idxLay_ren:={
 mixed:=by kernel_rfl,
 f217:=func283.trans (congrArg some (by kernel_rfl)),
 f266:=func317.trans (congrArg some (by kernel_rfl)),
 t3:=underlying3,
 a3:=isAgg3,
 z3:=sizeOf3,
 v3:=zeroValue3,
 t5:=underlying5,
 a5:=isAgg5,
 z5:=sizeOf5,
 v5:=zeroValue5,
 t9:=underlying9,
 a9:=isAgg9,
 z9:=sizeOf9,
 v9:=zeroValue9}
end Go.Proofs
namespace Go.Eng
section
attribute[local simp] aR bK bE aO aL aZ aP
attribute[local simp] kJ.cond Nd.d_eq nd_t nd_dr nd_td ndsD aU
def uN(c:UInt8)(s:aV):Int:=match cutAt c s with|some q=>q.1.length|none=> -1
theorem Pz(c:UInt8):∀s:aV,Lib.indexByte s c=uN c s
 |[]=>rfl
 |d::r=>by
  have a:=Pz c r;unfold Lib.indexByte uN cutAt;unfold uN at a;by_cases h:d=c
  .simp[h]
  .rw[if_neg h];rw[if_neg (by simpa using h)];rw[a];cases cutAt c r with
   |none=>simp
   |some q=>
    simp only[D1,A1];rw[if_neg bA];rfl
theorem BI{c:UInt8}{s:aV}{q:aV×aV}(h:cutAt c s=some q):s.take q.1.length=q.1/\s.drop (q.1.length+1)=q.2/\q.1.length+1+q.2.length=s.length:=by
 have e:=Ef (a:=q.1) (b:=q.2) h;rw[e];refine⟨bA,?_,kH⟩;rw[show q.1.length+1=(q.1++[c]).length by simp,show q.1++c::q.2=(q.1++[c])++q.2 by simp,List.drop_left]
theorem AK(s:aV)(c:UInt8):Ok prog 283 [.str s,.int .u8 (c.toNat:Int)] ⟨.d (aI (uN c s)),true⟩:=by
 refine⟨⟨_,func283,jM,rfl⟩,λw X f g a=>?_⟩
 match f,a.1 with
 |[u,v],_=>
  have b:=a.2 0 _ _ rfl rfl;have d:=a.2 1 _ _ rfl rfl;cases b;cases d;refine(Go.Proofs.Any.stringslite_IndexByte Tryz.idxLay ⟨s.toArray⟩ (c.toNat:Int) w).mono ?_;rintro e h ⟨rfl,rfl⟩;refine⟨_,rfl,Ah.refl _ _,none,?_⟩;have e:((c.toNat:Int).toNat.toUInt8)=c:=bA;rw[e];simp only[];rw[Pz];exact .int _ _
theorem Ru(s:aV)(c:UInt8)(b:s.length<=9223372036854775807):Ok prog 312 [.str s,.str [c]] ⟨.d (aI (uN c s)),true⟩:=by
 refine bU func312 rfl ntmps312 results312 λe X d=>?_;apply aE;simp;apply aE;simp;apply eE;apply bF;simp;refine⟨λg=>?_,λg=>?_⟩
 .apply aE;simp;apply aH;simp[<-g,uN,cutAt]
 .apply bF;simp;apply aF;have a:=AK s c;refine bH (og 30 (.plain ⟨.d (aI (uN c s)),true⟩)) ?_;simp;refine⟨a,?_⟩;apply aH;simp
def zV(c:UInt8)(s:aV):aV:=match cutAt c s with|some q=>q.1|none=>s
def zW(c:UInt8)(s:aV):aV:=match cutAt c s with|some q=>q.2|none=>[]
def AL(c:UInt8)(s:aV):Bool:=(cutAt c s).isSome
theorem XG(s:aV)(c:UInt8)(f:s.length<=9223372036854775807):Ok prog 258 [.str s,.str [c]] ⟨.tup [.d (.str (zV c s)),.d (.str (zW c s)),.d (.bool (AL c s))],true⟩:=by
 refine Aw hT func258 jM (c:=_) rfl ntmps258 bA results258 bA (by rfl) λj X i=>?_;apply aE;simp;apply fL;have d:=Ru s c f;refine bH (og 10 (.plain ⟨.d (aI (uN c s)),true⟩)) ?_;simp;refine⟨d,?_⟩;apply bF;simp;refine⟨λa=>?_,λa=>?_⟩
 .apply aF;obtain⟨q,b⟩:∃q,cutAt c s=some q:=by
   unfold uN at a;cases e:cutAt c s with
   |none=>rw[e]at a;simp at a
   |some q=>exact⟨q,rfl⟩
  have h:uN c s=(q.1.length:Int):=by unfold uN;rw[b]
  obtain⟨p1,p2,p3⟩:=BI b;refine fF.rd [] [] (λ_=>none) ?_;simp[h,p1,p2];refine⟨⟨⟨aD,aD,aD⟩,aD,aD⟩,?_⟩;apply aH;simp[zV,zW,AL,b]
 .apply aG;simp;apply aE;simp;apply aH;have g:cutAt c s=none:=by
   unfold uN at a;cases e:cutAt c s with
   |none=>rfl
   |some q=>rw[e]at a;simp at a;omega
  simp[zV,zW,AL,g]
theorem UD(s:aV)(c:UInt8)(b:s.length<=9223372036854775807):Ok prog 177 [.str s,.str [c]] ⟨.tup [.d (.str (zV c s)),.d (.str (zW c s)),.d (.bool (AL c s))],true⟩:=by
 refine Aw hT func177 jM (c:=_) rfl ntmps177 bA results177 bA (by rfl) λe X d=>?_;apply aE;simp;apply aF;have a:=XG s c b;refine bH (og 9 (.plain ⟨.tup [.d (.str (zV c s)),.d (.str (zW c s)),.d (.bool (AL c s))],true⟩)) ?_;simp[bM];refine⟨a,?_⟩;apply aH;simp
end
section
attribute[local simp] aR bK bE aO aL aZ aP
attribute[local simp] kJ.cond Nd.d_eq nd_t nd_dr nd_td ndsD
theorem rA(l:aV):l.isEmpty=decide (l=[]):=by cases l<;>simp
def UE(l:List (Int×Int)):List DV:=l.flatMap λp=>[aI p.1,aI p.2]
theorem JF:Fz=UE boundsL:=jM
theorem Gl:Fz.length=74:=jM
theorem HM:∀(l:List (Int×Int)) (k:Nat),k<l.length->(UE l)[k*2]?.getD default=aI (l.getD k (0,0)).1/\(UE l)[k*2+1]?.getD default=aI (l.getD k (0,0)).2
 |p::l,0,_=>⟨rfl,rfl⟩
 |p::l,k+1,h=>by
  have a:=HM l k (by simpa using h);have e:UE (p::l)=aI p.1::aI p.2::UE l:=rfl;rw[e,show(k+1)*2=k*2+1+1 by omega];exact a
theorem JG{k:Int}(h:0<=k/\k<37):Fz[k.toNat*2]?.getD default=aI (loAt k):=by
 rw[JF];exact(HM boundsL k.toNat (by rw[bounds_len];omega)).1
theorem JH{k:Int}(h:0<=k/\k<37):Fz[k.toNat*2+1]?.getD default=aI (hiAt k):=by
 rw[JF];exact(HM boundsL k.toNat (by rw[bounds_len];omega)).2
theorem UF(c:UInt8)(s:aV):(zV c s).length<=s.length:=by
 unfold zV;cases h:cutAt c s with
 |none=>simp
 |some q=>have:=BI h;simp;omega
theorem UG(c:UInt8)(s:aV):(zW c s).length<=s.length:=by
 unfold zW;cases h:cutAt c s with
 |none=>simp
 |some q=>have:=BI h;simp;omega
theorem yG(t:aV):fieldB t=(AL 46 t&&wholeB (zV 46 t) true&&wholeB (zW 46 t) true):=by
 unfold fieldB AL zV zW;cases cutAt 46 t with
 |none=>rfl
 |some q=>rfl
theorem Rv(x:Nd)(z:0<=x.kind/\x.kind<37)(D:x.text.length<=9223372036854775807):Ok prog 238 [x.d] ⟨.d (.bool (wordedB x)),true⟩:=by
 refine bU func238 rfl ntmps238 results238 λP X a=>?_;apply aE;simp;apply fL;have B:=JG z;have C:=JH z;have N:=Gl;refine fF.rd [] [] (λ_=>none) ?_;simp[B,C];refine⟨⟨⟨⟨z,aD⟩,λ_=>z⟩,λ_=>aD⟩,?_⟩;apply aM;simp;refine⟨λg=>?_,λw y=>?_⟩
 .apply aE;simp;apply aH;simp;unfold wordedB wordedK;rw[Bool.eq_false_iff];intro h;simp only[B6,decide_eq_true_eq]at h;omega
 .apply aG;simp;apply eT;simp;apply aY;refine bI (ι:=BC) (λ⟨b⟩=>bB [(1,.bx 1 0),(25,.d (aI x.kind)),(26,.d (.bool b))]) (λ⟨b⟩=>aK [(1,.box false [.d (aI x.kind),.d (.str x.text),.d (aI x.n),.d (ndsD x.kids)])]) (λ⟨b⟩=>b=true↔(x.kind=9\/x.kind=19\/x.kind=20\/x.kind=33)) ?_ λ⟨b⟩ v=>?_
  .apply bF;simp;refine⟨λI=>?_,λI=>?_⟩
   .apply aG;simp;refine Xv.mk ⟨decide (x.kind=9)⟩ (aA a [1,25,26] [(1,1)]) ?_;simp[I]
   .apply bF;simp;refine⟨λJ=>?_,λJ=>?_⟩
    .apply aG;simp;refine Xv.mk ⟨decide (x.kind=19)⟩ (aA a [1,25,26] [(1,1)]) ?_;simp[J]
    .apply bF;simp;refine⟨λK=>?_,λK=>?_⟩
     .apply aG;simp;refine Xv.mk ⟨decide (x.kind=20)⟩ (aA a [1,25,26] [(1,1)]) ?_;simp[K]
     .apply aJ;simp;refine Xv.mk ⟨decide (x.kind=33)⟩ (aA a [1,25,26] [(1,1)]) ?_;simp only[decide_eq_true_eq];omega
  .apply aM;simp;refine⟨λA=>?_,λA=>?_⟩
   .have O:=v.1 A;apply aF;have E:=AJ x.text false D;refine bH (og 33 (.plain ⟨.d (.bool (wholeB x.text false)),true⟩)) ?_;simp;refine⟨E,?_⟩;apply aH;simp;unfold wordedB wordedK textB;simp only[w,y,decide_true,B5];repeat(first|rw[if_pos aD]|rw[if_neg aD])
    try rw[yG]
    try simp
    try exact rA _
   .have O:¬(x.kind=9\/x.kind=19\/x.kind=20\/x.kind=33):=λq=>by simp[v.2 q]at A
    apply bF;simp;refine⟨λL=>?_,λL=>?_⟩
    .apply aF;have M:=UD x.text 46 D;refine bH (og 39 (.plain ⟨.tup [.d (.str (zV 46 x.text)),.d (.str (zW 46 x.text)),.d (.bool (AL 46 x.text))],true⟩)) ?_;simp[bM];refine⟨M,?_⟩;apply aF;have F:=AJ (zV 46 x.text) true (by have:=UF 46 x.text;omega);have G:=AJ (zW 46 x.text) true (by have:=UG 46 x.text;omega);refine bH (λ|46=>some<| .plain ⟨.d (.bool (wholeB (zV 46 x.text) true)),true⟩|50=>some<| .plain ⟨.d (.bool (wholeB (zW 46 x.text) true)),true⟩|_=>none) ?_;simp;refine⟨⟨λ_=>F,λ_ _=>G⟩,?_⟩;apply aH;simp;unfold wordedB wordedK textB;simp only[w,y,decide_true,B5];repeat(first|rw[if_pos aD]|rw[if_neg aD])
     try rw[yG]
     try simp
     try exact rA _
    .refine bI (ι:=BC) (λ⟨b⟩=>bB [(1,.bx 1 0),(25,.d (aI x.kind)),(52,.d (.bool b))]) (λ⟨b⟩=>aK [(1,.box false [.d (aI x.kind),.d (.str x.text),.d (aI x.n),.d (ndsD x.kids)])]) (λ⟨b⟩=>b=true↔(x.kind=8\/x.kind=10\/x.kind=11\/x.kind=12\/x.kind=21\/x.kind=24\/x.kind=25\/x.kind=26\/x.kind=27\/x.kind=28\/x.kind=29\/x.kind=30\/x.kind=31\/x.kind=32\/x.kind=36)) ?_ λ⟨b⟩ c=>?_
     .apply bF;simp;refine⟨λe=>?_,λe=>?_⟩
      .apply aG;simp;refine Xv.mk ⟨decide (x.kind=8)⟩ (aA a [1,25,52] [(1,1)]) ?_;simp[e]
      .apply bF;simp;refine⟨λf=>?_,λf=>?_⟩
       .apply aG;simp;refine Xv.mk ⟨decide (x.kind=10)⟩ (aA a [1,25,52] [(1,1)]) ?_;simp[f]
       .apply bF;simp;refine⟨λi=>?_,λi=>?_⟩
        .apply aG;simp;refine Xv.mk ⟨decide (x.kind=11)⟩ (aA a [1,25,52] [(1,1)]) ?_;simp[i]
        .apply bF;simp;refine⟨λj=>?_,λj=>?_⟩
         .apply aG;simp;refine Xv.mk ⟨decide (x.kind=12)⟩ (aA a [1,25,52] [(1,1)]) ?_;simp[j]
         .apply bF;simp;refine⟨λk=>?_,λk=>?_⟩
          .apply aG;simp;refine Xv.mk ⟨decide (x.kind=21)⟩ (aA a [1,25,52] [(1,1)]) ?_;simp[k]
          .apply bF;simp;refine⟨λl=>?_,λl=>?_⟩
           .apply aG;simp;refine Xv.mk ⟨decide (x.kind=24)⟩ (aA a [1,25,52] [(1,1)]) ?_;simp[l]
           .apply bF;simp;refine⟨λm=>?_,λm=>?_⟩
            .apply aG;simp;refine Xv.mk ⟨decide (x.kind=25)⟩ (aA a [1,25,52] [(1,1)]) ?_;simp[m]
            .apply bF;simp;refine⟨λn=>?_,λn=>?_⟩
             .apply aG;simp;refine Xv.mk ⟨decide (x.kind=26)⟩ (aA a [1,25,52] [(1,1)]) ?_;simp[n]
             .apply bF;simp;refine⟨λo=>?_,λo=>?_⟩
              .apply aG;simp;refine Xv.mk ⟨decide (x.kind=27)⟩ (aA a [1,25,52] [(1,1)]) ?_;simp[o]
              .apply bF;simp;refine⟨λp=>?_,λp=>?_⟩
               .apply aG;simp;refine Xv.mk ⟨decide (x.kind=28)⟩ (aA a [1,25,52] [(1,1)]) ?_;simp[p]
               .apply bF;simp;refine⟨λr=>?_,λr=>?_⟩
                .apply aG;simp;refine Xv.mk ⟨decide (x.kind=29)⟩ (aA a [1,25,52] [(1,1)]) ?_;simp[r]
                .apply bF;simp;refine⟨λs=>?_,λs=>?_⟩
                 .apply aG;simp;refine Xv.mk ⟨decide (x.kind=30)⟩ (aA a [1,25,52] [(1,1)]) ?_;simp[s]
                 .apply bF;simp;refine⟨λt=>?_,λt=>?_⟩
                  .apply aG;simp;refine Xv.mk ⟨decide (x.kind=31)⟩ (aA a [1,25,52] [(1,1)]) ?_;simp[t]
                  .apply bF;simp;refine⟨λu=>?_,λu=>?_⟩
                   .apply aG;simp;refine Xv.mk ⟨decide (x.kind=32)⟩ (aA a [1,25,52] [(1,1)]) ?_;simp[u]
                   .apply aJ;simp;refine Xv.mk ⟨decide (x.kind=36)⟩ (aA a [1,25,52] [(1,1)]) ?_;simp only[decide_eq_true_eq];omega
     .apply aM;simp;refine⟨λd=>?_,λd=>?_⟩
      .have H:=c.1 d;apply aE;simp;apply aH;simp;unfold wordedB wordedK textB;simp only[w,y,decide_true,B5];repeat(first|rw[if_pos aD]|rw[if_neg aD])
       try rw[yG]
       try simp
       try exact rA _
      .have H:¬(x.kind=8\/x.kind=10\/x.kind=11\/x.kind=12\/x.kind=21\/x.kind=24\/x.kind=25\/x.kind=26\/x.kind=27\/x.kind=28\/x.kind=29\/x.kind=30\/x.kind=31\/x.kind=32\/x.kind=36):=λq=>by simp[c.2 q]at d
       apply aG;simp;apply aF;have E:=AJ x.text true D;refine bH (og 73 (.plain ⟨.d (.bool (wholeB x.text true)),true⟩)) ?_;simp;refine⟨E,?_⟩;apply aH;simp;unfold wordedB wordedK textB;simp only[w,y,decide_true,B5];repeat(first|rw[if_pos aD]|rw[if_neg aD])
       try rw[yG]
       try simp
       try exact rA _
theorem Rw(x:Nd)(a:Ok prog 165 [x.d] ⟨.d (.bool (rightN x)),true⟩):Ok prog 239 [x.d] ⟨.d (.bool (!rightN x)),true⟩:=by
 refine bU func239 rfl ntmps239 results239 λc X b=>?_;apply aE;simp;refine dF (og 4 (.plain ⟨.d (.bool (rightN x)),true⟩)) ?_;simp;refine⟨by simpa using a,?_⟩;apply aH;simp
theorem MC(x:Nd)(j:weighN x<=1000000000)(h:∀y∈x.kids,weighN y<=1000000000->Ok prog 165 [y.d] ⟨.d (.bool (rightN y)),true⟩):Ok prog 165 [x.d] ⟨.d (.bool (rightN x)),true⟩:=by
 refine bU func165 rfl ntmps165 results165 λk X i=>?_;apply aE;simp;apply aF;have g:=Rl x;have a:=Rv x;have f:x.text.length<=9223372036854775807:=by have:=weighN_eq x;omega
 have e:=JB x.kids (λy=> !rightN y) 239 [] (λy b=>Rw y (h y b (by have:=weigh_mem b;have:=weighN_eq x;omega)));refine bH (λ|13=>some<| .plain ⟨.d (.bool (shapedB x)),true⟩|17=>some<| .plain ⟨.d (.bool (wordedB x)),true⟩|22=>some<| .plain ⟨.d (.bool (x.kids.any λy=> !rightN y)),true⟩|_=>none) ?_;simp;refine⟨⟨⟨λ_ _=>by simpa using g,λc d _=>by simpa using a ⟨c,d⟩ f⟩,λ_ _ _ _=>e⟩,?_⟩;apply aH;simp;rw[rightN_eq,List.all_eq_not_any_not]
theorem UH(x:Nd):weighN x<=1000000000->Ok prog 165 [x.d] ⟨.d (.bool (rightN x)),true⟩:=
 iU (p:=λx=>weighN x<=1000000000->Ok prog 165 [x.d] ⟨.d (.bool (rightN x)),true⟩) (λ_ _ _ _ c a=>MC _ a (λy b=>c y b)) x
theorem JI(x:Nd)(c:weighN x<=1000000000):Ok prog 87 [x.d] ⟨.d (.bool (validB x)),true⟩:=by
 refine bU func87 rfl ntmps87 results87 λj X i=>?_;apply aE;simp;apply aF;have e:=Ur x c;have f:=UH x c;have g:=Py x;have h:=@right_def x;refine bH (λ|13=>some<| .plain ⟨.d (aI (depthN x)),true⟩|18=>some<| .plain ⟨.d (.bool (rightN x)),true⟩|22=>some<| .plain ⟨.d (.str (textT x)),true⟩|_=>none) ?_;simp;refine⟨⟨⟨λ_ _=>by simpa using e,λ_ _ _=>by simpa using f⟩,λa b _ d=>by simpa using g (h d a b) c⟩,?_⟩;apply aH;simp[validB];rw[show decide ((depthN x:Int)<=24)=decide (depthN x<=24) from by rw[decide_eq_decide];omega,show decide (((textT x).length:Int)<=1024)=decide ((textT x).length<=1024) from by rw[decide_eq_decide];omega]
theorem Rx{x:Nd}(h:validB x=true):DefR x:=by
 simp only[validB,B6,decide_eq_true_eq]at h;exact right_def h.1.2 h.1.1.1.1 h.1.1.1.2
theorem JJ(x:Nd)(b:weighN x<=1000000000):Ok prog 26 [x.d] ⟨.d (.str (printS x)),true⟩:=by
 refine bU func26 rfl ntmps26 results26 λg X f=>?_;apply aE;simp;apply fL;have e:=JI x b;refine bH (og 4 (.plain ⟨.d (.bool (validB x)),true⟩)) ?_;simp;refine⟨by simpa using e,?_⟩;apply aM;simp;refine⟨λa=>?_,λa=>?_⟩
 .apply aE;simp;apply aH;simp[printS,a]
 .apply aG;simp;apply aF;have d:=Rx a;have c:=Py x d b;refine bH (og 7 (.plain ⟨.d (.str (textT x)),true⟩)) ?_;simp;refine⟨by simpa using c,?_⟩;apply aH;simp[printS,a]
end
section
attribute[local simp] aR bK bE aO aL aZ aP
attribute[local simp] kJ.cond Nd.d_eq nd_t nd_dr nd_td ndsD aU
theorem zG(s t:aV)(a:s.length<=9223372036854775807)(c:t.length<=9223372036854775807):Ok prog 282 [.str s,.str t] ⟨.d (.bool (decide (s.take t.length=t))),true⟩:=by
 refine bU func282 rfl ntmps282 results282 λd X b=>?_;apply aE;simp;apply aE;simp;apply aH;simp;rw[C2,D0];simp only[B6,decide_eq_true_eq];refine⟨λh=>h.2,λh=>⟨?_,h⟩⟩;have e:=congrArg List.length h;rw[B7]at e;omega
theorem pH(s t:aV)(a:s.length<=9223372036854775807)(b:t.length<=9223372036854775807):Ok prog 232 [.str s,.str t] ⟨.d (.bool (decide (s.take t.length=t))),true⟩:=by
 refine bU func232 rfl ntmps232 results232 λd X c=>?_;apply aE;simp;apply aF;have h:=zG s t a b;refine bH (og 7 (.plain ⟨.d (.bool (decide (s.take t.length=t))),true⟩)) ?_;simp;refine⟨h,?_⟩;apply aH;simp
theorem CN(s:aV)(c:UInt8):Ok prog 233 [.str s,.int .u8 (c.toNat:Int)] ⟨.d (aI (uN c s)),true⟩:=by
 refine bU func233 rfl ntmps233 results233 λb X a=>?_;apply aE;simp;apply aF;have h:=AK s c;refine bH (og 7 (.plain ⟨.d (aI (uN c s)),true⟩)) ?_;simp;refine⟨h,?_⟩;apply aH;simp
theorem iI(c:UInt8)(r:aV):nextN (c::r)=if letterB c then wordN (c::r)else if c=36 then(if 0<wordN r then wordN r+1 else 0)
 else if digitB c then(if runP digitB (c::r)<=3 then runP digitB (c::r)else 0)
 else if(c::r).take 2=[60,61]\/(c::r).take 2=[61,61]then 2 else if c∈signs then 1 else 0:=rfl
theorem Ry{c:UInt8}:((c.toNat:Int)=36)↔c=36:=by
 rw[<-B1];have:(36:UInt8).toNat=36:=rfl;omega
theorem oE(c:UInt8)(r:aV)(a b:UInt8):(c::r).take 2=[a,b]↔c=a/\r.take 1=[b]:=bA
theorem Em(c:UInt8):∀l:aV,0<=uN c l↔c∈l
 |[]=>by simp[uN,cutAt]
 |d::l=>by
  have a:=Em c l;unfold uN at a|-;unfold cutAt;by_cases h:d=c
  .simp[h]
  .rw[if_neg h];have b:¬c=d:=λe=>h e.symm;cases q:cutAt c l with
   |none=>rw[q]at a;simp only[Option.map_none,C6,b,false_or];exact a
   |some q2=>rw[q]at a;simp only[D1,C6,b,false_or,A1];exact⟨λ_=>a.1 bA,λ_=>aD⟩
theorem XH(c:UInt8)(r:aV)(i:(c::r).length<=9223372036854775807):Ok prog 154 [.str (c::r)] ⟨.d (aI (nextN (c::r))),true⟩:=by
 refine bU func154 rfl ntmps154 results154 λA X y=>?_;have z:r.length+1<=9223372036854775807:=by simpa using i
 apply aE;simp;apply eE;apply aF;have s:=yF c;refine bH (og 8 (.plain ⟨.d (.bool (letterB c)),true⟩)) ?_;simp;refine⟨s,?_⟩;apply aM;simp;refine⟨λa=>?_,λa=>?_⟩
 .apply aF;have u:=HL (c::r) i;refine bH (og 10 (.plain ⟨.d (aI (wordN (c::r))),true⟩)) ?_;simp;refine⟨u,?_⟩;apply aH;simp;rw[iI,if_pos a]
 .apply bF;simp;refine⟨λb=>?_,λb=>?_⟩
  .apply fL;have v:=HL r aD;refine bH (og 17 (.plain ⟨.d (aI (wordN r)),true⟩)) ?_;simp;refine⟨⟨aD,v⟩,?_⟩;apply bF;simp;refine⟨λp=>?_,λp=>?_⟩
   .apply aF;have x:=DZ r;apply aJ;simp;refine⟨aD,?_⟩;apply aH;simp;rw[iI,if_neg (by simp[a]),if_pos (Ry.1 b),if_pos p];rfl
   .apply aG;simp;apply aE;simp;apply aH;simp;rw[iI,if_neg (by simp[a]),if_pos (Ry.1 b),if_neg aD];rfl
  .apply aF;have t:=wB c;refine bH (og 25 (.plain ⟨.d (.bool (digitB c)),true⟩)) ?_;simp;refine⟨t,?_⟩;apply aM;simp;refine⟨λd=>?_,λd=>?_⟩
   .apply fL;have w:=UB (c::r) digitB 230 (λc=>wB c) i;refine bH (og 27 (.plain ⟨.d (aI (runP digitB (c::r))),true⟩)) ?_;simp;refine⟨w,?_⟩;apply bF;simp;refine⟨λj=>?_,λj=>?_⟩
    .apply aE;simp;apply aH;simp;rw[iI,if_neg (by simp[a]),if_neg (λe=>b (Ry.2 e)),if_pos d,if_pos aD]
    .apply aG;simp;apply aE;simp;apply aH;simp;rw[iI,if_neg (by simp[a]),if_neg (λe=>b (Ry.2 e)),if_pos d,if_neg aD];rfl
   .apply aF;have l:=pH (c::r) [60,61] i bG;have k:=pH (c::r) [61,61] i bG;refine bH (λ|33=>some<| .plain ⟨.d (.bool (decide ((c::r).take 2=[60,61]))),true⟩|36=>some<| .plain ⟨.d (.bool (decide ((c::r).take 2=[61,61]))),true⟩|_=>none) ?_;simp;refine⟨⟨⟨by simpa using l,λ_=>by simpa using k⟩,λh=>C7.1 λq=>h q.1 q.2⟩,?_⟩;apply aM;simp;refine⟨λg=>?_,λn o=>?_⟩
    .apply aE;simp;apply aH;simp;rw[iI,if_neg (by simp[a]),if_neg (λe=>b (Ry.2 e)),if_neg (by simp[d]),if_pos (by rw[oE,oE];exact g)];rfl
    .apply aF;have m:=CN [40,41,123,125,61,43,45,42,60,59,46] c;refine bH (og 41 (.plain ⟨.d (aI (uN c [40,41,123,125,61,43,45,42,60,59,46])),true⟩)) ?_;simp;refine⟨m,?_⟩;apply aM;simp;refine⟨λf=>?_,λf=>?_⟩
     .apply aE;simp;apply aH;simp;rw[iI,if_neg (by simp[a]),if_neg (λe=>b (Ry.2 e)),if_neg (by simp[d]),if_neg (by rw[oE,oE];rintro(⟨e1,e2⟩|⟨e1,e2⟩);exact n e1 e2;exact o e1 e2),if_pos ((Em c signs).1 f)];rfl
     .apply aG;simp;apply aE;simp;apply aH;simp;rw[iI,if_neg (by simp[a]),if_neg (λe=>b (Ry.2 e)),if_neg (by simp[d]),if_neg (by rw[oE,oE];rintro(⟨e1,e2⟩|⟨e1,e2⟩);exact n e1 e2;exact o e1 e2),if_neg (λe=>by have:=(Em c signs).2 e;unfold signs at this;omega)];rfl
end
section
attribute[local simp] aR bK bE aO aL aZ aP
attribute[local simp] kJ.cond Nd.d_eq nd_t nd_dr nd_td ndsD
theorem Rz(x:Nd):Ok prog 362 [x.d] ⟨.d (aI (lvlN x.kind)),true⟩:=by
 refine bU func362 rfl ntmps362 results362 λo X d=>?_;apply aE;simp;apply eT;simp;apply aY;refine bI (ι:=BC) (λ⟨b⟩=>bB [(1,.bx 1 0),(4,.d (aI (x.kind))),(5,.d (.bool b))]) (λ⟨b⟩=>aK [(1,.box false [.d (aI x.kind),.d (.str x.text),.d (aI x.n),.d (ndsD x.kids)])]) (λ⟨b⟩=>b=true↔(x.kind=26\/x.kind=27\/x.kind=28)) ?_ λ⟨b⟩ a=>?_
 .apply bF;simp;refine⟨λi=>?_,λi=>?_⟩
  .apply aG;simp;refine Xv.mk ⟨decide (x.kind=26)⟩ (aA d [1,4,5] [(1,1)]) ?_;simp[i]
  .apply bF;simp;refine⟨λj=>?_,λj=>?_⟩
   .apply aG;simp;refine Xv.mk ⟨decide (x.kind=27)⟩ (aA d [1,4,5] [(1,1)]) ?_;simp[j]
   .apply aJ;simp;refine Xv.mk ⟨decide (x.kind=28)⟩ (aA d [1,4,5] [(1,1)]) ?_;simp only[decide_eq_true_eq];omega
 .apply aM;simp;refine⟨λf=>?_,λf=>?_⟩
  .have m:=a.1 f;apply aE;simp;apply aH;have e:lvlN x.kind=1:=by rcases m with h|h|h<;>rw[h]<;>rfl
   simp[e]
  .have m:¬(x.kind=26\/x.kind=27\/x.kind=28):=λq=>by simp[a.2 q]at f
   refine bI (ι:=BC) (λ⟨b⟩=>bB [(1,.bx 1 0),(4,.d (aI (x.kind))),(9,.d (.bool b))]) (λ⟨b⟩=>aK [(1,.box false [.d (aI x.kind),.d (.str x.text),.d (aI x.n),.d (ndsD x.kids)])]) (λ⟨b⟩=>b=true↔(x.kind=29\/x.kind=30)) ?_ λ⟨b⟩ c=>?_
   .apply bF;simp;refine⟨λk=>?_,λk=>?_⟩
    .apply aG;simp;refine Xv.mk ⟨decide (x.kind=29)⟩ (aA d [1,4,9] [(1,1)]) ?_;simp[k]
    .apply aJ;simp;refine Xv.mk ⟨decide (x.kind=30)⟩ (aA d [1,4,9] [(1,1)]) ?_;simp only[decide_eq_true_eq];omega
   .apply aM;simp;refine⟨λg=>?_,λg=>?_⟩
    .have n:=c.1 g;apply aE;simp;apply aH;have e:lvlN x.kind=2:=by rcases n with h|h<;>rw[h]<;>rfl
     simp[e]
    .have n:¬(x.kind=29\/x.kind=30):=λq=>by simp[c.2 q]at g
     apply bF;simp;refine⟨λl=>?_,λl=>?_⟩
     .apply aE;simp;apply aH;have e:lvlN x.kind=3:=by rw[l];rfl
      simp[e]
     .apply aG;simp;apply aE;simp;apply aH;have e:lvlN x.kind=4:=by unfold lvlN;rw[if_neg aD]
      simp[e]
theorem En(x:Nd)(a:Int)(b:Ok prog 315 [x.d] ⟨.d (.str (exprT x)),true⟩)(e:(exprT x).length<=10000000000):Ok prog 342 [x.d,aI a] ⟨.d (.str (paren (decide (lvlN x.kind<a)) (exprT x))),true⟩:=by
 refine bU func342 rfl ntmps342 results342 λg X f=>?_;apply aE;simp;apply fL;have d:=Rz x;refine bH (og 6 (.plain ⟨.d (aI (lvlN x.kind)),true⟩)) ?_;simp;refine⟨by simpa using d,?_⟩;apply aM;simp;refine⟨λc=>?_,λc=>?_⟩
 .refine dF (og 10 (.plain ⟨.d (.str (exprT x)),true⟩)) ?_;simp;refine⟨by simpa using b,?_⟩;apply aH;simp[paren];intro h;omega
 .apply aG;simp;refine dF (og 12 (.plain ⟨.d (.str (exprT x)),true⟩)) ?_;simp;refine⟨⟨⟨by simpa using b,aD⟩,aD⟩,?_⟩;apply aH;simp[paren];intro h;omega
theorem PA{x:Int}(a:0<=x)(h:x<256):IntKind.u8.wrap x=x:=by
 unfold IntKind.wrap;simp[IntKind.bits,IntKind.signed];omega
theorem sP(m:Nat):itoaS (m:Int)=decS m:=by unfold itoaS;rw[if_neg aD];rfl
theorem JK{m:Nat}(h:0<m):itoaS (-(m:Int))=45::decS m:=by unfold itoaS;rw[if_pos aD,Int.natAbs_neg];rfl
theorem Gm{n:Nat}(h:n<1000)(b:10<=n):decS n=decS (n / 10)++decS (n%10):=by
 have a:n%10<10:=Nat.mod_lt _ bG;unfold decS;rw[if_neg aD,if_pos a];by_cases q:n<100
 .rw[if_pos q,if_pos aD];rfl
 .rw[if_neg q,if_neg aD,if_pos aD,Nat.div_div_eq_div_mul];rfl
theorem PB{n:Nat}(h:n<10):decS n=[C9 (48+n)]:=by unfold decS;rw[if_pos h]
theorem zH(n:Int)(k: -999<=n)(s:n<=999)(g:∀m:Int,0<=m->m<=999->(n<0\/m<n)->Ok prog 220 [aI m] ⟨.d (.str (itoaS m)),true⟩):Ok prog 220 [aI n] ⟨.d (.str (itoaS n)),true⟩:=by
 refine bU func220 rfl ntmps220 results220 λv X t=>?_;apply aE;simp;apply aF;apply bF;simp;refine⟨λk=>?_,λk=>?_⟩
 .apply aF;obtain⟨m,c⟩:∃m:Nat,n= -(m:Int):=⟨n.natAbs,aD⟩;obtain⟨a,e⟩:∃a,a=m / 10:=⟨_,rfl⟩;obtain⟨b,f⟩:∃b,b=m%10:=⟨_,rfl⟩;have h:n.tdiv 10= -(a:Int):=by subst c e;rw[Int.neg_tdiv];rfl
  have i:n.tmod 10= -(b:Int):=by subst c f;rw[Int.neg_tmod];rfl
  have d:=g (a:Int) aD aD aD;have p:=g (b:Int) aD aD aD;have l:=cI (a:Int);have u:=cI (b:Int);have o:0- -(a:Int)=(a:Int):=aD;have w:0- -(b:Int)=(b:Int):=aD;refine bH (λ|8=>some<| .plain ⟨.d (.str (itoaS (a:Int))),true⟩|13=>some<| .plain ⟨.d (.str (itoaS (b:Int))),true⟩|_=>none) ?_;simp[h,i];refine⟨by(repeat' with_reducible apply And.intro)<;>first|omega|exact d|exact p|(simp only[A1];omega),?_⟩;apply aH;simp;subst c e f;rw[JK aD,sP,sP,Gm (n:=m) aD aD]
 .apply aG;simp;apply aF;apply bF;simp;refine⟨λq=>?_,λq=>?_⟩
  .apply aF;obtain⟨m,c⟩:∃m:Nat,n= -(m:Int):=⟨n.natAbs,aD⟩;have d:=g (m:Int) aD aD aD;have l:=cI (m:Int);have o:0-n=(m:Int):=aD;refine bH (og 19 (.plain ⟨.d (.str (itoaS (m:Int))),true⟩)) ?_;simp[o];refine⟨by(repeat' with_reducible apply And.intro)<;>first|omega|exact d,?_⟩;apply aH;simp;subst c;rw[JK aD,sP]
  .apply aG;simp;apply aF;apply bF;simp;refine⟨λr=>?_,λr=>?_⟩
   .apply aF;obtain⟨m,c⟩:∃m:Nat,n=(m:Int):=⟨n.natAbs,aD⟩;have j:IntKind.u8.wrap (48+n)=48+n:=PA aD aD;apply aJ;simp[j];refine⟨by(repeat' with_reducible apply And.intro)<;>first|omega|decide,?_⟩;apply aH;simp;subst c;rw[sP,PB aD];rfl
   .apply aG;simp;apply aF;obtain⟨m,c⟩:∃m:Nat,n=(m:Int):=⟨n.natAbs,aD⟩;obtain⟨a,e⟩:∃a,a=m / 10:=⟨_,rfl⟩;obtain⟨b,f⟩:∃b,b=m%10:=⟨_,rfl⟩;have h:n.tdiv 10=(a:Int):=by subst c e;rfl
    have i:n.tmod 10=(b:Int):=by subst c f;rfl
    have d:=g (a:Int) aD aD aD;have l:=cI (a:Int);have j:IntKind.u8.wrap (48+(b:Int))=48+(b:Int):=PA aD aD;refine fF.rd [[35],[35],[35],[30],[30],[30],[30],[30],[30]] [[],[],[30],[],[],[],[],[35]] (og 30 (.plain ⟨.d (.str (itoaS (a:Int))),true⟩)) ?_;simp[h,i,j];refine⟨by(repeat' with_reducible apply And.intro)<;>first|omega|exact d|decide,?_⟩;apply aH;simp;subst c e f;rw[sP,sP,Gm (n:=m) aD aD,PB (n:=m%10) aD];rfl
theorem jO(n:Int)(c: -999<=n)(d:n<=999):Ok prog 220 [aI n] ⟨.d (.str (itoaS n)),true⟩:=by
 have b:∀k:Nat,k<=999->Ok prog 220 [aI (k:Int)] ⟨.d (.str (itoaS (k:Int))),true⟩:=λk=>by
  induction k using Nat.strongRecOn with
  |ind k ih=>
   intro f;refine zH _ aD aD λm a _ e=>?_;obtain⟨j,rfl⟩:=B8 a;exact ih j aD aD
 refine zH n c d λm a e _=>?_;obtain⟨j,rfl⟩:=B8 a;exact b j aD
theorem Gn{x a b:Nd}(h:exprT x=paren (decide (lvlN a.kind<(if levelAt x.kind=1 then 2 else levelAt x.kind))) (exprT a)++32::(signAt x.kind++32::paren (decide (lvlN b.kind<levelAt x.kind+1)) (exprT b))){l m:Int}{s:aV}
 (c:(if levelAt x.kind=1 then 2 else levelAt x.kind)=l)(d:levelAt x.kind+1=m)(e:signAt x.kind=s):exprT x=paren (decide (lvlN a.kind<l)) (exprT a)++32::(s++32::paren (decide (lvlN b.kind<m)) (exprT b)):=by
 rw[h,c,d,e]
theorem MD(x:Nd)(hr:rightN x=true)(he:isExprK x.kind=true)(hw:weighN x<=1000000000)(Z:∀y∈x.kids,rightN y=true->isExprK y.kind=true->weighN y<=1000000000->Ok prog 315 [y.d] ⟨.d (.str (exprT y)),true⟩):Ok prog 315 [x.d] ⟨.d (.str (exprT x)),true⟩:=by
 refine bU func315 rfl ntmps315 results315 λw0 X hp=>?_;obtain⟨f0,S,U,W,V,Q⟩:=Ei hr he;have v:=weighN_eq x;apply aE;simp;apply eT;simp;apply aY;apply bF;simp;refine⟨λh2=>?_,λh2=>?_⟩
 .apply aF;obtain⟨q1,q2,q3⟩:=S h2;have hi:=jO x.n aD q3;refine bH (og 11 (.plain ⟨.d (.str (itoaS x.n)),true⟩)) ?_;simp;refine⟨hi,?_⟩;apply aH;simp[q1]
 .apply bF;simp;refine⟨λh4=>?_,λh4=>?_⟩
  .apply aE;simp;refine⟨aD,?_⟩;apply aH;simp[U h4]
  .refine bI (ι:=BC) (λ⟨b⟩=>bB [(1,.bx 1 0),(6,.d (aI (x.kind))),(17,.d (.bool b))]) (λ⟨b⟩=>aK [(1,.box false [.d (aI x.kind),.d (.str x.text),.d (aI x.n),.d (ndsD x.kids)])]) (λ⟨b⟩=>b=true↔(x.kind=34\/x.kind=35)) ?_ λ⟨b⟩ t=>?_
   .apply bF;simp;refine⟨λh6=>?_,λh6=>?_⟩
    .apply aG;simp;refine Xv.mk ⟨decide (x.kind=34)⟩ (aA hp [1,6,17] [(1,1)]) ?_;simp[h6]
    .apply aJ;simp;refine Xv.mk ⟨decide (x.kind=35)⟩ (aA hp [1,6,17] [(1,1)]) ?_;simp only[decide_eq_true_eq];omega
   .apply aM;simp;refine⟨λY=>?_,λY=>?_⟩
    .have q8:=t.1 Y;apply aE;simp;apply aH;simp[V q8]
    .have q8:¬(x.kind=34\/x.kind=35):=λq=>by simp[t.2 q]at Y
     apply bF;simp;refine⟨λh9=>?_,λh9=>?_⟩
     .apply aE;simp;apply aH;simp[W h9,sKind]
     .apply aG;simp;apply aF;have u:x.kind<=31:=aD;obtain⟨a,d,k,ra,ea,rb,eb,e⟩:=Q u;rw[k]at v Z;simp only[weighL]at v;have la:=dG a ra ea;have lb:=dG d rb eb;have p:=λc=>pR c (exprT a);have r:=λc=>pR c (exprT d);have n:=λl=>En a l (Z a bA ra ea aD) aD;have o:=λl=>En d l (Z d bA rb eb aD) aD;apply aJ;simp[k];apply aE;simp[k];apply eT;simp;apply aY;apply bF;simp;refine⟨λf=>?_,λf=>?_⟩
      .apply aF;have a0:=p (decide (lvlN a.kind<2));have a6:=r (decide (lvlN d.kind<2));have w:=n 2;have E:=o 2;have K:=Gn e (l:=2) (m:=2) (s:=[60]) (by rw[f];rfl) (by rw[f];rfl) (by rw[f];rfl);refine fF.rd [[],[],[40],[37]] [[],[37],[],[],[40]] (λ|37=>some<| .plain ⟨.d (.str (paren (decide (lvlN a.kind<2)) (exprT a))),true⟩|40=>some<| .plain ⟨.d (.str (paren (decide (lvlN d.kind<2)) (exprT d))),true⟩|_=>none) ?_;simp;refine⟨by(repeat' with_reducible apply And.intro)<;>first|omega|(simpa using w)|(simpa using E),?_⟩;apply aH;simp[K]
      .apply bF;simp;refine⟨λg=>?_,λg=>?_⟩
       .apply aF;have a1:=p (decide (lvlN a.kind<2));have a7:=r (decide (lvlN d.kind<2));have z:=n 2;have F:=o 2;have L:=Gn e (l:=2) (m:=2) (s:=[60,61]) (by rw[g];rfl) (by rw[g];rfl) (by rw[g];rfl);refine fF.rd [[],[],[48],[45]] [[],[45],[],[],[48]] (λ|45=>some<| .plain ⟨.d (.str (paren (decide (lvlN a.kind<2)) (exprT a))),true⟩|48=>some<| .plain ⟨.d (.str (paren (decide (lvlN d.kind<2)) (exprT d))),true⟩|_=>none) ?_;simp;refine⟨by(repeat' with_reducible apply And.intro)<;>first|omega|(simpa using z)|(simpa using F),?_⟩;apply aH;simp[L]
       .apply bF;simp;refine⟨λh=>?_,λh=>?_⟩
        .apply aF;have a2:=p (decide (lvlN a.kind<2));have a8:=r (decide (lvlN d.kind<2));have A:=n 2;have G:=o 2;have M:=Gn e (l:=2) (m:=2) (s:=[61,61]) (by rw[h];rfl) (by rw[h];rfl) (by rw[h];rfl);refine fF.rd [[],[],[56],[53]] [[],[53],[],[],[56]] (λ|53=>some<| .plain ⟨.d (.str (paren (decide (lvlN a.kind<2)) (exprT a))),true⟩|56=>some<| .plain ⟨.d (.str (paren (decide (lvlN d.kind<2)) (exprT d))),true⟩|_=>none) ?_;simp;refine⟨by(repeat' with_reducible apply And.intro)<;>first|omega|(simpa using A)|(simpa using G),?_⟩;apply aH;simp[M]
        .apply bF;simp;refine⟨λi=>?_,λi=>?_⟩
         .apply aF;have a3:=p (decide (lvlN a.kind<2));have a9:=r (decide (lvlN d.kind<3));have B:=n 2;have H:=o 3;have N:=Gn e (l:=2) (m:=3) (s:=[43]) (by rw[i];rfl) (by rw[i];rfl) (by rw[i];rfl);refine fF.rd [[],[],[64],[61]] [[],[61],[],[],[64]] (λ|61=>some<| .plain ⟨.d (.str (paren (decide (lvlN a.kind<2)) (exprT a))),true⟩|64=>some<| .plain ⟨.d (.str (paren (decide (lvlN d.kind<3)) (exprT d))),true⟩|_=>none) ?_;simp;refine⟨by(repeat' with_reducible apply And.intro)<;>first|omega|(simpa using B)|(simpa using H),?_⟩;apply aH;simp[N]
         .apply bF;simp;refine⟨λj=>?_,λj=>?_⟩
          .apply aF;have a4:=p (decide (lvlN a.kind<2));have b0:=r (decide (lvlN d.kind<3));have C:=n 2;have I:=o 3;have O:=Gn e (l:=2) (m:=3) (s:=[45]) (by rw[j];rfl) (by rw[j];rfl) (by rw[j];rfl);refine fF.rd [[],[],[72],[69]] [[],[69],[],[],[72]] (λ|69=>some<| .plain ⟨.d (.str (paren (decide (lvlN a.kind<2)) (exprT a))),true⟩|72=>some<| .plain ⟨.d (.str (paren (decide (lvlN d.kind<3)) (exprT d))),true⟩|_=>none) ?_;simp;refine⟨by(repeat' with_reducible apply And.intro)<;>first|omega|(simpa using C)|(simpa using I),?_⟩;apply aH;simp[O]
          .apply aG;simp;apply aF;have a5:=p (decide (lvlN a.kind<3));have b1:=r (decide (lvlN d.kind<4));have D:=n 3;have J:=o 4;have P:=Gn e (l:=3) (m:=4) (s:=[42]) (by rw[(show x.kind=31 by omega)];rfl) (by rw[(show x.kind=31 by omega)];rfl) (by rw[(show x.kind=31 by omega)];rfl);refine fF.rd [[],[],[78],[75]] [[],[75],[],[],[78]] (λ|75=>some<| .plain ⟨.d (.str (paren (decide (lvlN a.kind<3)) (exprT a))),true⟩|78=>some<| .plain ⟨.d (.str (paren (decide (lvlN d.kind<4)) (exprT d))),true⟩|_=>none) ?_;simp;refine⟨by(repeat' with_reducible apply And.intro)<;>first|omega|(simpa using D)|(simpa using J),?_⟩;apply aH;simp[P]
theorem qH(x:Nd):rightN x=true->isExprK x.kind=true->weighN x<=1000000000->Ok prog 315 [x.d] ⟨.d (.str (exprT x)),true⟩:=
 iU (p:=λx=>rightN x=true->isExprK x.kind=true->weighN x<=1000000000->Ok prog 315 [x.d] ⟨.d (.str (exprT x)),true⟩) (λ_ _ _ _ d b a c=>MD _ b a c d) x
theorem PC{x:Nd}(h:CmdR x.kind x.text x.n x.kids)(l:x.kind=15\/x.kind=22\/x.kind=16\/x.kind=23\/x.kind=24):∃e,x.kids=[e]/\rightN e=true/\isExprK e.kind=true/\x.n=0:=by
 obtain⟨_,_,_,a⟩:=cmd_facts h;have c:∀e,x.kids=[e]->x.n=0->∃e,x.kids=[e]/\rightN e=true/\isExprK e.kind=true/\x.n=0:=λe i k=>⟨e,i,(a e (by rw[i];simp)).1,(a e (by rw[i];simp)).2,k⟩;rcases h with⟨d,f,b,a⟩|⟨d,f,b,e,a,g,j⟩|⟨d,f,b,u,a,g⟩|⟨d,f,b,a,g⟩|⟨d,f,b,a⟩|⟨d,f,b,a⟩|⟨d,f,b,e,a,g,j⟩
 .omega
 .exact c _ a b
 .exact c _ a b
 .omega
 .omega
 .omega
 .exact c _ a b
theorem UI{x:Nd}(h:CmdR x.kind x.text x.n x.kids)(i:x.kind=13\/x.kind=14\/x.kind=17\/x.kind=18):x.kids=[]/\x.n=0:=by
 rcases h with⟨c,d,a,b⟩|⟨c,d,a,e,b,f,g⟩|⟨c,d,a,u,b,f⟩|⟨c,d,a,b,f⟩|⟨c,d,a,b⟩|⟨c,d,a,b⟩|⟨c,d,a,e,b,f,g⟩<;>first|exact⟨b,a⟩|omega
theorem JL{x:Nd}(h:CmdR x.kind x.text x.n x.kids)(i:x.kind=19\/x.kind=21\/x.kind=25):x.kids=[]/\0<x.n:=by
 rcases h with⟨b,c,d,a⟩|⟨b,c,d,e,a,f,g⟩|⟨b,c,d,u,a,f⟩|⟨b,c,d,a,f⟩|⟨b,c,d,a⟩|⟨b,c,d,a⟩|⟨b,c,d,e,a,f,g⟩<;>first|exact⟨f,aD⟩|exact⟨a,aD⟩|omega
theorem XI{x:Nd}(h:CmdR x.kind x.text x.n x.kids)(i:x.kind=20):x.kids=[]/\x.n=0:=by
 rcases h with⟨c,d,a,b⟩|⟨c,d,a,e,b,f,g⟩|⟨c,d,a,u,b,f⟩|⟨c,d,a,b,f⟩|⟨c,d,a,b⟩|⟨c,d,a,b⟩|⟨c,d,a,e,b,f,g⟩<;>first|exact⟨b,a⟩|omega
theorem JM{x:Nd}(c:rightN x=true)(h:x.kind=12):x.kids.length=2:=by
 obtain⟨k,t,n,ks⟩:=x;have h:k=12:=h;subst h;obtain⟨_,_,d,_⟩:=right_mk.1 c;obtain⟨a,b,e,_⟩:=kids_two (ks:=ks) (f:=isExprK) (g:=isBlockK) d;show ks.length=2;rw[e];rfl
theorem Eo:Ok prog 224 [] ⟨.d (.sl uS),true⟩:=by
 refine bU func224 rfl ntmps224 results224 λb X a=>?_;apply aE;simp;apply aE;simp;refine⟨bG,?_⟩;apply aH;simp;rfl
theorem ME(x:Nd)(d:BlockR x)(p:weighN x<=1000000000)(o:∀y∈x.kids,Ok prog 279 [y.d] ⟨.d (.str (stmtT y)),true⟩):Ok prog 225 [x.d] ⟨.d (.str (blockT x)),true⟩:=by
 refine bU func225 rfl ntmps225 results225 λv X e=>?_;have b:=(eS x).2 d;have n:=nH x;have a:∀y∈x.kids,rightN y=true/\isStmtK y.kind=true:=by obtain⟨q,rfl,h⟩:=d;exact h
 apply aE;simp;apply aE;simp;apply eT;simp;apply aY;refine bC (ι:=Nat) (λi=>bB [(1,.bx 1 0),(3,.d (.str (123::32::stmtsT (x.kids.take i)))),(4,.d (aI i))]) (λi=>aK [(1,.box false [.d (aI x.kind),.d (.str x.text),.d (aI x.n),.d (ndsD x.kids)])]) (λi=>i<=x.kids.length) (λi=>x.kids.length-i) 0 (aA e [1,3,4] [(1,1)] (by simp[stmtsT])) (A7 _) λi k=>?_;apply aF;apply bF;simp;refine⟨λj=>?_,λj=>?_⟩
 .apply aG;simp;apply eE;have c:i<x.kids.length:=aD;have m:=o _ (A3 c);have f:=a _ (A3 c);have r:=(eS x.kids[i]).1 f.1 f.2;have s:=nG c;have t:=uI (l:=x.kids) (λy g=>(eS y).1 (a y g).1 (a y g).2) i;have u:=weighN_eq x;refine bH (og 18 (.plain ⟨.d (.str (stmtT x.kids[i])),true⟩)) ?_;simp[c];refine⟨⟨⟨by simpa using m,aD⟩,aD⟩,?_⟩;apply aJ;simp;refine⟨aD,?_⟩;refine Oe.mk (i+1) (aA e [1,3,4] [(1,1)] (by simp[Cr c])) ?_ ?_
  .omega
  .omega
 .apply bQ;simp;apply aF;have c:i=x.kids.length:=aD;subst c;rw[B2];rw[sO]at b;simp only[A2,A1]at b;apply aJ;simp;refine⟨aD,?_⟩;apply aH;simp[sO]
theorem MF(x:Nd)(Y:rightN x=true)(hk:isStmtK x.kind=true)(hw:weighN x<=1000000000)(v:∀y∈x.kids,BlockR y->Ok prog 225 [y.d] ⟨.d (.str (blockT y)),true⟩):Ok prog 279 [x.d] ⟨.d (.str (stmtT x)),true⟩:=by
 refine bU func279 rfl ntmps279 results279 λo X n=>?_;obtain⟨f0,f9,S,A,U⟩:=Ek Y hk;have a3:=weighN_eq x;have a2:=(eS x).1 Y hk;have wl:=sN x.kind;have a:∀(i:Nat) (hi:i<x.kids.length),weighN x.kids[i]<weighN x:=λi hi=>nG hi;apply aE;simp;apply aE;simp;apply eT;simp;apply aY;apply bF;simp;refine⟨λh3=>?_,λh3=>?_⟩
 .apply aF;obtain⟨l,g,d⟩:=f9 h3;have o:=a 0 l;have L:=dG _ g.1 g.2;have j:=qH _ g.1 g.2 aD;refine fF.rd [[19],[19],[19],[19]] [[],[],[],[],[],[],[],[19]] (og 19 (.plain ⟨.d (.str (exprT x.kids[0])),true⟩)) ?_;simp[l];refine⟨by(repeat' with_reducible apply And.intro)<;>first|omega|(simpa using j),?_⟩;apply aH;simp[d,Rp]
 .apply bF;simp;refine⟨λh5=>?_,λh5=>?_⟩
  .apply aF;obtain⟨l,m,g,P,d⟩:=S h5;have o:=a 0 l;have w1:=a 1 m;have L:=dG _ g.1 g.2;have l1:=dG _ P.1 P.2;have j:=qH _ g.1 g.2 aD;have z:=qH _ P.1 P.2 aD;simp at j z;refine fF.rd [[],[],[],[],[32],[27],[27],[27]] [[],[],[],[27],[],[],[],[],[32]] (λ|27=>some<| .plain ⟨.d (.str (exprT x.kids[0])),true⟩|32=>some<| .plain ⟨.d (.str (exprT x.kids[1])),true⟩|_=>none) ?_;simp[l,m];refine⟨by(repeat' with_reducible apply And.intro)<;>first|omega|with_reducible assumption,?_⟩;apply aH;simp[d,Rq]
  .apply bF;simp;refine⟨λO=>?_,λO=>?_⟩
   .apply aF;obtain⟨l,m,g,w,d⟩:=A (.inr O);have w7:wordAt x.kind=[119,104,105,108,101]:=by rw[O];rfl
    have d:stmtT x=Pv (wordAt x.kind) (exprT x.kids[0]) (blockT x.kids[1]):=by
     rcases d with⟨_,d⟩|⟨h2,_,d⟩
     .exact d
     .exfalso;have:=(JM Y O);omega
    have o:=a 0 l;have w1:=a 1 m;have L:=dG _ g.1 g.2;have l1:=(eS x.kids[1]).2 w;have j:=qH _ g.1 g.2 aD;have z:=v _ (A3 m) w;simp at j z;refine fF.rd [[],[],[],[],[46],[46],[40],[40],[40]] [[],[],[],[40],[],[],[],[],[],[46]] (λ|40=>some<| .plain ⟨.d (.str (exprT x.kids[0])),true⟩|46=>some<| .plain ⟨.d (.str (blockT x.kids[1])),true⟩|_=>none) ?_;simp[l,m];refine⟨by(repeat' with_reducible apply And.intro)<;>first|omega|with_reducible assumption,?_⟩;apply aH;simp[d,Pv,w7]
   .apply bF;simp;refine⟨λW=>?_,λW=>?_⟩
    .apply aF;obtain⟨l,m,g,w,d⟩:=A (.inl W);have w9:wordAt x.kind=[105,102]:=by rw[W];rfl
     have o:=a 0 l;have w1:=a 1 m;have L:=dG _ g.1 g.2;have l1:=(eS x.kids[1]).2 w;have j:=qH _ g.1 g.2 aD;have z:=v _ (A3 m) w;simp at j z;refine fF.rd [[],[],[],[],[59],[59],[53],[53],[53]] [[],[],[],[53],[],[],[],[],[],[59]] (λ|53=>some<| .plain ⟨.d (.str (exprT x.kids[0])),true⟩|59=>some<| .plain ⟨.d (.str (blockT x.kids[1])),true⟩|_=>none) ?_;simp[l,m];refine⟨by(repeat' with_reducible apply And.intro)<;>first|omega|with_reducible assumption,?_⟩;refine bI (ι:=Unit) (λi=>bB [(1,.bx 1 0),(4,.d (.str (stmtT x)))]) (λi=>aK [(1,.box false [.d (aI x.kind),.d (.str x.text),.d (aI x.n),.d (ndsD x.kids)])]) (λi=>True) ?_ λi a1=>?_
     .apply bF;simp;refine⟨λV=>?_,λV=>?_⟩
      .have s:2<x.kids.length:=aD;rcases d with⟨d,_⟩|⟨_,b2,d⟩
       .omega
       have w2:=a 2 s;have l2:=(eS x.kids[2]).2 b2;have c2:=v _ (A3 s) b2;refine bH (og 69 (.plain ⟨.d (.str (blockT x.kids[2])),true⟩)) ?_;simp[s];refine⟨by(repeat' with_reducible apply And.intro)<;>first|omega|(simpa using c2),?_⟩;exact(aA n [1,4] [(1,1)] (by simp[d,Pv,Gh,sElse,w9]))
      .apply aG;simp;exact(aA n [1,4] [(1,1)] (by simp[(d.resolve_right (λ⟨h2,_⟩=>aD)).2,Pv,w9]))
     .apply aE;simp;apply aH;simp
    .apply aG;simp;apply aF;have h:=U aD;obtain⟨g1,g2,g3,g4⟩:=cmd_facts h;have d:=Px (x:=x) aD;have ml:=HK x.kind x.text;have nl:=BF x.n;have kl:=yE g4;have il:=cI x.n;have q1:=yD (k:=x.kind) aD aD;have Z:=Eo;have q2:=nJ;refine fF.rd [[],[72],[72]] [[72]] (og 72 (.plain ⟨.d (.sl uS),true⟩)) ?_;simp[q1];refine⟨by(repeat' with_reducible apply And.intro)<;>first|omega|exact Z,?_⟩;apply eT;simp;apply aY;refine bI (ι:=BC) (λ⟨b⟩=>bB [(1,.bx 1 0),(3,.d (ndsD x.kids)),(5,.d (.str (wordAt x.kind))),(78,.d (aI (x.kind))),(79,.d (.bool b))]) (λ⟨b⟩=>aK [(1,.box false [.d (aI x.kind),.d (.str x.text),.d (aI x.n),.d (ndsD x.kids)])]) (λ⟨b⟩=>b=true↔(x.kind=13\/x.kind=14\/x.kind=17\/x.kind=18)) ?_ λ⟨b⟩ p=>?_
     .apply bF;simp;refine⟨λB=>?_,λB=>?_⟩
      .apply aG;simp;refine Xv.mk ⟨decide (x.kind=13)⟩ (aA n [1,3,5,78,79] [(1,1)]) ?_;simp[B]
      .apply bF;simp;refine⟨λC=>?_,λC=>?_⟩
       .apply aG;simp;refine Xv.mk ⟨decide (x.kind=14)⟩ (aA n [1,3,5,78,79] [(1,1)]) ?_;simp[C]
       .apply bF;simp;refine⟨λD=>?_,λD=>?_⟩
        .apply aG;simp;refine Xv.mk ⟨decide (x.kind=17)⟩ (aA n [1,3,5,78,79] [(1,1)]) ?_;simp[D]
        .apply aJ;simp;refine Xv.mk ⟨decide (x.kind=18)⟩ (aA n [1,3,5,78,79] [(1,1)]) ?_;simp only[decide_eq_true_eq];omega
     .apply aM;simp;refine⟨λt=>?_,λt=>?_⟩
      .have M:=p.1 t;apply aE;simp;refine⟨by(repeat' with_reducible apply And.intro)<;>omega,?_⟩;apply aH;have f:x.kids=[]/\x.n=0:=UI h M;simp[d,f.1,f.2,withN,withE,midT,show¬(x.kind=19\/x.kind=20)by omega,show¬(x.kind=21\/x.kind=25\/x.kind=24)by omega]
      .have M:¬(x.kind=13\/x.kind=14\/x.kind=17\/x.kind=18):=λq=>by simp[p.2 q]at t
       refine bI (ι:=BC) (λ⟨b⟩=>bB [(1,.bx 1 0),(3,.d (ndsD x.kids)),(5,.d (.str (wordAt x.kind))),(78,.d (aI (x.kind))),(90,.d (.bool b))]) (λ⟨b⟩=>aK [(1,.box false [.d (aI x.kind),.d (.str x.text),.d (aI x.n),.d (ndsD x.kids)])]) (λ⟨b⟩=>b=true↔(x.kind=15\/x.kind=22\/x.kind=16\/x.kind=23)) ?_ λ⟨b⟩ r=>?_
       .apply bF;simp;refine⟨λE=>?_,λE=>?_⟩
        .apply aG;simp;refine Xv.mk ⟨decide (x.kind=15)⟩ (aA n [1,3,5,78,90] [(1,1)]) ?_;simp[E]
        .apply bF;simp;refine⟨λF=>?_,λF=>?_⟩
         .apply aG;simp;refine Xv.mk ⟨decide (x.kind=22)⟩ (aA n [1,3,5,78,90] [(1,1)]) ?_;simp[F]
         .apply bF;simp;refine⟨λG=>?_,λG=>?_⟩
          .apply aG;simp;refine Xv.mk ⟨decide (x.kind=16)⟩ (aA n [1,3,5,78,90] [(1,1)]) ?_;simp[G]
          .apply aJ;simp;refine Xv.mk ⟨decide (x.kind=23)⟩ (aA n [1,3,5,78,90] [(1,1)]) ?_;simp only[decide_eq_true_eq];omega
       .apply aM;simp;refine⟨λu=>?_,λu=>?_⟩
        .have a0:=r.1 u;apply aF;have c:∃e,x.kids=[e]/\rightN e=true/\isExprK e.kind=true/\x.n=0:=PC h aD;obtain⟨e,c,N,K,n0⟩:=c;have o:=a 0 (by simp[c]);have L:=dG e N K;have j:=qH e N K (by simp only[c,A8]at o;omega);simp only[c,A8]at o;refine fF.rd [[104],[104],[104],[104],[104],[104]] [[],[],[],[],[],[],[],[],[],[104]] (og 104 (.plain ⟨.d (.str (exprT e)),true⟩)) ?_;simp[c];refine⟨by(repeat' with_reducible apply And.intro)<;>first|omega|(simpa using j),?_⟩;apply aH;simp[d,c,n0,withN,withE,midT,show¬(x.kind=19\/x.kind=20)by omega,show¬(x.kind=21\/x.kind=25\/x.kind=24)by omega]
        .have a0:¬(x.kind=15\/x.kind=22\/x.kind=16\/x.kind=23):=λq=>by simp[r.2 q]at u
         apply bF;simp;refine⟨λH=>?_,λH=>?_⟩
         .apply aF;have Q:=jO x.n aD aD;refine fF.rd [[117],[117],[117],[117],[117],[117]] [[],[],[],[],[],[],[],[],[117]] (og 117 (.plain ⟨.d (.str (itoaS x.n)),true⟩)) ?_;simp;refine⟨by(repeat' with_reducible apply And.intro)<;>first|omega|exact Q,?_⟩;apply aH;have f:x.kids=[]/\0<x.n:=JL h aD;simp[d,f.1,f.2,withN,withE,midT,H]
         .apply bF;simp;refine⟨λI=>?_,λI=>?_⟩
          .apply aE;simp;refine⟨by(repeat' with_reducible apply And.intro)<;>omega,?_⟩;apply aH;have f:x.kids=[]/\x.n=0:=XI h aD;simp[d,f.1,f.2,withN,withE,midT,I]
          .apply bF;simp;refine⟨λJ=>?_,λJ=>?_⟩
           .apply aF;have c:∃e,x.kids=[e]/\rightN e=true/\isExprK e.kind=true/\x.n=0:=PC h aD;obtain⟨e,c,N,K,n0⟩:=c;have o:=a 0 (by simp[c]);have L:=dG e N K;have j:=qH e N K (by simp only[c,A8]at o;omega);simp only[c,A8]at o;refine bH (og 135 (.plain ⟨.d (.str (exprT e)),true⟩)) ?_;simp[c];refine⟨by(repeat' with_reducible apply And.intro)<;>first|omega|(simpa using j),?_⟩;apply aH;simp[d,c,n0,withN,withE,midT,J]
           .apply aG;simp;apply aF;have Q:=jO x.n aD aD;refine bH (og 142 (.plain ⟨.d (.str (itoaS x.n)),true⟩)) ?_;simp;refine⟨by(repeat' with_reducible apply And.intro)<;>first|omega|exact Q,?_⟩;apply aH;have f:x.kids=[]/\0<x.n:=JL h aD;simp[d,f.1,f.2,withN,withE,midT,show¬(x.kind=19\/x.kind=20)by omega,show(x.kind=21\/x.kind=25\/x.kind=24)by omega]
theorem ZA(x:Nd):(rightN x=true->isStmtK x.kind=true->weighN x<=1000000000->Ok prog 279 [x.d] ⟨.d (.str (stmtT x)),true⟩)/\(BlockR x->weighN x<=1000000000->Ok prog 225 [x.d] ⟨.d (.str (blockT x)),true⟩):=by
 refine iU (p:=λx=>(rightN x=true->isStmtK x.kind=true->weighN x<=1000000000->Ok prog 279 [x.d] ⟨.d (.str (stmtT x)),true⟩)/\(BlockR x->weighN x<=1000000000->Ok prog 225 [x.d] ⟨.d (.str (blockT x)),true⟩)) (λk t n g f=>⟨?_,?_⟩) x
 .intro i h d;have c:∀y∈g,weighN y<=1000000000:=λy a=>by have:=weigh_mem a;rw[weighN]at d;omega
  exact MF _ i h d λy a e=>(f y a).2 e (c y a)
 .intro e d;have c:∀y∈g,weighN y<=1000000000:=λy a=>by have:=weigh_mem a;rw[weighN]at d;omega
  obtain⟨l,j,a⟩:=id e;injection j with i1 i2 i3 i4
  exact ME _ e d λy b=>(f y b).1 (a y (i4▸b)).1 (a y (i4▸b)).2 (c y b)
theorem UJ(x:Nd)(d:DefR x)(U:weighN x<=1000000000):Ok prog 151 [x.d] ⟨.d (.str (textT x)),true⟩:=by
 refine bU func151 rfl ntmps151 results151 λZ X o=>?_;obtain⟨S,d⟩:=d;have n:=weighN_eq x;have wl:=sN x.kind;have N:0<=x.kind/\x.kind<=6:=by rcases d with⟨h|h,_⟩|⟨h,_⟩|⟨h,_⟩|⟨h,_⟩|⟨h|h,_⟩<;>omega
 have q1:=yD (k:=x.kind) aD aD;have V:=cI x.n;have u:=Eo;have q2:=nJ;apply aE;simp;apply aF;refine fF.rd [[],[5],[5],[],[],[],[5],[5]] [[5]] (og 5 (.plain ⟨.d (.sl uS),true⟩)) ?_;simp[q1];refine⟨by(repeat' with_reducible apply And.intro)<;>first|omega|exact u,?_⟩;apply eT;simp;apply aY;apply bF;simp;refine⟨λw=>?_,λw=>?_⟩
 .apply aF;have a: -999<=x.n/\x.n<=999:=by
   rcases d with⟨h|h,_⟩|⟨h,_⟩|⟨_,_,h⟩|⟨h,_⟩|⟨h|h,_⟩<;>omega
  have g:=jO x.n a.1 a.2;refine bH (og 22 (.plain ⟨.d (.str (itoaS x.n)),true⟩)) ?_;simp;refine⟨by(repeat' with_reducible apply And.intro)<;>first|omega|exact g,?_⟩;apply aH;simp[textT,w]
 .apply bF;simp;refine⟨λz=>?_,λz=>?_⟩
  .apply aF;have C:0<=x.n/\x.n<=3:=by
    rcases d with⟨h|h,_⟩|⟨h,_⟩|⟨h,_⟩|⟨_,_,h⟩|⟨h|h,_⟩<;>omega
   have g:=jO x.n aD aD;refine bH (og 31 (.plain ⟨.d (.str (itoaS x.n)),true⟩)) ?_;simp;refine⟨by(repeat' with_reducible apply And.intro)<;>first|omega|exact g,?_⟩;apply aH;simp[textT,z]
  .refine bI (ι:=BC) (λ⟨b⟩=>bB [(1,.bx 1 0),(3,.d (.str (wordAt x.kind++32::x.text))),(15,.d (aI (x.kind))),(34,.d (.bool b))]) (λ⟨b⟩=>aK [(1,.box false [.d (aI x.kind),.d (.str x.text),.d (aI x.n),.d (ndsD x.kids)])]) (λ⟨b⟩=>b=true↔(x.kind=3\/x.kind=4)) ?_ λ⟨b⟩ m=>?_
   .apply bF;simp;refine⟨λA=>?_,λA=>?_⟩
    .apply aG;simp;refine Xv.mk ⟨decide (x.kind=3)⟩ (aA o [1,3,15,34] [(1,1)]) ?_;simp[A]
    .apply aJ;simp;refine Xv.mk ⟨decide (x.kind=4)⟩ (aA o [1,3,15,34] [(1,1)]) ?_;simp only[decide_eq_true_eq];omega
   .apply aM;simp;refine⟨λr=>?_,λr=>?_⟩
    .have J:=m.1 r;apply aE;simp;refine⟨aD,?_⟩;apply aH;simp[textT,show¬(x.kind=5\/x.kind=6)by omega,show¬x.kind=1 by omega,show¬x.kind=0 by omega,show¬x.kind=2 by omega]
    .have J:¬(x.kind=3\/x.kind=4):=λq=>by simp[m.2 q]at r
     apply bF;simp;refine⟨λj=>?_,λj=>?_⟩
     .apply aF;have t:∀y∈x.kids,ItemR y:=by
       rcases d with⟨h|h,_⟩|⟨_,_,h⟩|⟨h,_⟩|⟨h,_⟩|⟨h|h,_⟩<;>first|exact h|omega
      apply aJ;simp;refine⟨aD,?_⟩;apply eT;simp;apply aY;refine bC (ι:=Nat) (λi=>bB [(1,.bx 1 0),(3,.d (.str (wordAt x.kind++32::(x.text++32::123::32::kW (x.kids.take i))))),(4,.d (aI i))]) (λi=>aK [(1,.box false [.d (aI x.kind),.d (.str x.text),.d (aI x.n),.d (ndsD x.kids)])]) (λi=>i<=x.kids.length) (λi=>x.kids.length-i) 0 (aA o [1,3,4] [(1,1)] (by simp[kW])) (A7 _) λi D=>?_;apply aF;apply bF;simp;refine⟨λp=>?_,λp=>?_⟩
      .apply aG;simp;apply eE;have f:i<x.kids.length:=aD;obtain⟨Y,I,F,O,P,Q⟩:=t _ (A3 f);have M:x.kids[i].n=I:=by rw[F];rfl
       have g:=jO x.kids[i].n aD aD;have v:=wA (l:=x.kids) i;have W:=cI x.kids[i].n;have K:=nG f;rw[weighN_eq x.kids[i]]at K;have H:(kW (x.kids.take i)).length<=9*weighL x.kids:=v;refine fF.rd [[65],[65],[65],[65],[65],[65],[65],[65],[65]] [[],[],[],[],[],[],[],[],[],[],[],[],[],[],[],[65]] (og 65 (.plain ⟨.d (.str (itoaS x.kids[i].n)),true⟩)) ?_;simp[f];refine⟨by(repeat' with_reducible apply And.intro)<;>first|omega|exact g|(simp only[A2,A1];omega),?_⟩;have:=nH x;apply aJ;simp;refine⟨aD,?_⟩;refine Oe.mk (i+1) (aA o [1,3,4] [(1,1)] (by simp[kW,El f,itemT])) ?_ ?_
       .omega
       .omega
      .apply bQ;simp;apply aF;have f:i=x.kids.length:=aD;subst f;rw[B2];have v:=qG x.kids;have H:(kW x.kids).length<=9*weighL x.kids:=v;apply aJ;simp;refine⟨aD,?_⟩;apply aH;simp[textT,j,kW]
     .apply aG;simp;apply aF;have s:∃b,x=.mk x.kind x.text 0 [b]/\BlockR b:=by
       rcases d with⟨_,h⟩|⟨h,_⟩|⟨h,_⟩|⟨h,_⟩|⟨h|h,_⟩<;>first|exact h|omega
      obtain⟨c,E,B⟩:=s;have e:x.kids=[c]:=by rw[E];rfl
      rw[e]at n;simp only[weighL]at n;have L:=(eS c).2 B;have G:=(ZA c).2 B aD;refine bH (og 76 (.plain ⟨.d (.str (blockT c)),true⟩)) ?_;simp[e];refine⟨by(repeat' with_reducible apply And.intro)<;>first|omega|(simpa using G),?_⟩;apply aH;simp[textT,show x.kind=5\/x.kind=6 by omega,e]
end
section
attribute[local simp] aR bK bE aO aL aZ aP
attribute[local simp] kJ.cond Nd.d_eq nd_t nd_dr nd_td ndsD aU
theorem Ep(p:UInt8->Bool)(s:aV)(i:Nat):firstIs p (s.drop i)=(decide (i<s.length)&&p (s[i]?.getD 0)):=by
 by_cases h:i<s.length
 .rw[A0 h,A5 h];simp[firstIs,h]
 .rw[A4 aD];simp[firstIs,h]
theorem tP(s:aV)(i:Nat)(a:s.length<=9223372036854775807):Ok prog 108 [.str s,aI i] ⟨.d (.bool (firstIs letterB (s.drop i))),true⟩:=by
 refine bU func108 rfl ntmps108 results108 λc X b=>?_;apply aE;simp;apply aE;simp;refine⟨λh _=>h,?_⟩;apply aH;simp;rw[Ep,zT];simp[D3]
theorem yH(s:aV)(i:Nat)(a:s.length<=9223372036854775807):Ok prog 109 [.str s,aI i] ⟨.d (.bool (firstIs digitB (s.drop i))),true⟩:=by
 refine bU func109 rfl ntmps109 results109 λc X b=>?_;apply aE;simp;apply aE;simp;refine⟨λh _=>h,?_⟩;apply aH;simp;rw[Ep,BG];simp[D3]
def Cs(s:aV)(i:Nat):Int:=if 0<wordN (s.drop i)then(i:Int)+wordN (s.drop i)else -1
def ldB(c:UInt8):Bool:=letterB c||digitB c
theorem Eq(p q:UInt8->Bool)(s:aV):(firstIs p s||firstIs q s)=firstIs (λc=>p c||q c) s:=by cases s<;>rfl
theorem JN(s:aV):wordN s=if firstIs letterB s=true then(if runP ldB s<=16 then runP ldB s else 0)else 0:=by
 cases s with
 |nil=>rfl
 |cons c r=>rfl
theorem BJ{p:UInt8->Bool}:∀{s:aV} {k:Nat},(∀m (h:m<k),firstIs p (s.drop m)=true)->firstIs p (s.drop k)=false->runP p s=k
 |[],0,_,_=>rfl
 |[],k+1,h,_=>by have:=h 0 aD;simp[firstIs]at this
 |c::r,0,_,h=>by
  have h:p c=false:=h;simp[runP,h]
 |c::r,k+1,h,h2=>by
  have a:p c=true:=h 0 aD;simp only[runP,a,if_true];rw[BJ (s:=r) (k:=k) (λm b=>h (m+1) aD) h2]
theorem YQ{s:aV}{i k:Nat}(g:firstIs letterB (s.drop (i+k))=true\/firstIs digitB (s.drop (i+k))=true):i+k<s.length:=by
 refine B0 λq=>?_;rw[A4 aD]at g;rcases g with g|g<;>cases g
theorem aAA{s:aV}{i k:Nat}(g:firstIs letterB (s.drop (i+k))=true\/firstIs digitB (s.drop (i+k))=true):firstIs ldB (s.drop (i+k))=true:=by
 show firstIs (λc=>letterB c||digitB c) (s.drop (i+k))=true;rw[<-Eq];rcases g with g|g<;>simp[g]
theorem JO(s:aV)(i:Nat)(w:i<=s.length)(x:s.length<=9223372036854775000):Ok prog 261 [.str s,aI i] ⟨.d (aI (Cs s i)),true⟩:=by
 refine bU func261 rfl ntmps261 results261 λy X p=>?_;apply aE;simp;apply fL;have b:=tP s i aD;refine bH (og 8 (.plain ⟨.d (.bool (firstIs letterB (s.drop i))),true⟩)) ?_;simp;refine⟨b,?_⟩;apply aM;simp;refine⟨λb=>?_,λb=>?_⟩
 .apply aE;simp;apply aH;simp;unfold Cs;have f:wordN (s.drop i)=0:=by rw[JN,if_neg (by simp[b])]
  rw[f,if_neg aD]
 .apply aG;simp;apply aE;simp;apply eE;refine bC (ι:=Nat) (λk=>bB [(0,.d (.str s)),(1,.d (aI i)),(5,.d (aI ((i+k:Nat):Int)))]) (λk=>aK []) (λk=>i+k<=s.length/\∀m,m<k->firstIs ldB (s.drop (i+m))=true) (λk=>s.length-i-k) 0 (aA p [0,1,5] []) (⟨aD,λm h=>absurd h (C0 m)⟩) λk d=>?_;apply fL;have r:=tP s (i+k) aD;have t:=yH s (i+k) aD;refine bH (λ|13=>some<| .plain ⟨.d (.bool (firstIs letterB (s.drop (i+k)))),true⟩|17=>some<| .plain ⟨.d (.bool (firstIs digitB (s.drop (i+k)))),true⟩|_=>none) ?_;simp[-D2];refine⟨⟨r,λ_=>t⟩,?_⟩;apply aM;simp;refine⟨λj=>?_,λg q=>?_⟩
  .apply aG;simp;apply aY;apply aJ;simp;refine⟨aD,?_⟩;refine Oe.mk (k+1) (aA p [0,1,5] [] (by simp[D4])) ?_ ?_
   .have n:i+k<s.length:=YQ j;refine⟨aD,λm o=>?_⟩;by_cases e:m=k
    .rw[e];exact aAA j
    .exact d.2 m aD
   .have n:i+k<s.length:=YQ j;omega
  .apply bQ;simp;apply fL;have v:runP ldB (s.drop i)=k:=BJ (λm o=>by rw[A9];exact d.2 m o) (by
    rw[A9];show firstIs (λc=>letterB c||digitB c) (s.drop (i+k))=false;rw[<-Eq,g,q];rfl)
   have f:=JN (s.drop i);rw[if_pos b,v]at f;have l:0<k:=by
    rcases B3 k with z|z
    .rw[z]at g;rw[D6,b]at g;cases g
    .exact z
   apply aJ;simp;refine⟨aD,?_⟩;apply aM;simp;refine⟨λu=>?_,λu=>?_⟩
   .apply aE;simp;apply aH;simp;unfold Cs;have a:wordN (s.drop i)=0:=by rw[f,if_neg aD]
    rw[a,if_neg aD]
   .apply aG;simp;apply aE;simp;apply aH;simp;unfold Cs;have a:wordN (s.drop i)=k:=by rw[f,if_pos aD]
    rw[a,if_pos l]
theorem UK{k:Nat}(h:k<11):(([40,41,123,125,61,43,45,42,60,59,46]:aV)[k]?.getD 0)∈signs:=by
 have e:([40,41,123,125,61,43,45,42,60,59,46]:aV)=signs:=rfl;rw[e,A5 h,B9];exact A3 h
theorem ZB{a b:UInt8}:((a.toNat:Int)=(b.toNat:Int))↔a=b:=by
 rw[<-B1];omega
theorem JP(c:UInt8):Ok prog 110 [.int .u8 (c.toNat:Int)] ⟨.d (.bool (decide (c∈signs))),true⟩:=by
 refine bU func110 rfl ntmps110 results110 λk X g=>?_;apply aE;simp;apply aE;simp;apply eT;simp;apply aY;refine bC (ι:=Nat) (λi=>bB [(0,.d (.int .u8 (c.toNat:Int))),(3,.d (.str [40,41,123,125,61,43,45,42,60,59,46])),(4,.d (aI i))]) (λi=>aK []) (λi=>i<=11/\c∉signs.take i) (λi=>11-i) 0 (aA g [0,3,4] []) (⟨A7 _,bA⟩) λi a=>?_;apply aF;apply bF;simp;refine⟨λh=>?_,λh=>?_⟩
 .apply aG;simp;apply eE;apply aF;have d:i<11:=aD;have j:i<signs.length:=d;apply aJ;simp;refine⟨aD,?_⟩;apply aM;simp;refine⟨λb=>?_,λb=>?_⟩
  .apply aE;simp;apply aH;simp;have e:=UK d;rw[ZB.1 b]at e;exact e
  .apply aG;simp;apply aJ;simp;refine⟨aD,?_⟩;refine Oe.mk (i+1) (aA g [0,3,4] []) ?_ ?_
   .refine⟨aD,?_⟩;have f:i<signs.length:=d;rw[<-B4 f];simp only[List.mem_append,List.mem_singleton,not_or];refine⟨a.2,λe=>b ?_⟩;rw[e];rw[show([40,41,123,125,61,43,45,42,60,59,46]:aV)=signs from rfl,A5 f];rfl
   .omega
 .apply bQ;simp;apply aE;simp;apply aH;simp;have e:=a.2;rw[List.take_of_length_le (by show 11<=i;omega)]at e;exact e
theorem XJ:valS []=0:=rfl
attribute[local simp] XJ
def sQ(s:aV)(i:Nat):Int:=if 0<nextN (s.drop i)then(i:Int)+nextN (s.drop i)else -1
theorem u61{c:UInt8}:((c.toNat:Int)=61)↔c=61:=by
 rw[<-B1];have:(61:UInt8).toNat=61:=rfl;omega
theorem u60{c:UInt8}:((c.toNat:Int)=60)↔c=60:=by
 rw[<-B1];have:(60:UInt8).toNat=60:=rfl;omega
theorem UL{p:UInt8->Bool}{s:aV}{i k:Nat}(h:∀m,m<k->firstIs p (s.drop (i+m))=true)(a:firstIs p (s.drop (i+k))=false):runP p (s.drop i)=k:=
 BJ (λm b=>by rw[A9];exact h m b) (by rw[A9];exact a)
theorem HN{s:aV}{i:Nat}{c:UInt8}(f:i<s.length)(d:s.drop i=c::s.drop (i+1))(e:s[i]?.getD 0=c):
 ((s.drop i).take 2=[60,61]\/(s.drop i).take 2=[61,61])↔((i:Int)+1<s.length/\((s[i+1]?.getD 0).toNat:Int)=61/\(((s[i]?.getD 0).toNat:Int)=60\/((s[i]?.getD 0).toNat:Int)=61)):=by
 rw[e,d,oE,oE,u60,u61,u61];by_cases h:i+1<s.length
 .rw[A0 h,A5 h];simp only[List.take_succ_cons,List.take_zero,List.cons.injEq,and_true,B9];constructor
  .rintro(⟨a,b⟩|⟨a,b⟩)
   .exact⟨aD,b,.inl a⟩
   .exact⟨aD,b,.inr a⟩
  .rintro⟨_,b,a|a⟩
   .exact .inl ⟨a,b⟩
   .exact .inr ⟨a,b⟩
 .rw[A4 aD];simp;omega
theorem UM(s:aV)(i:Nat)(p:i<s.length)(H:s.length<=1000000000):Ok prog 183 [.str s,aI i] ⟨.d (aI (sQ s i)),true⟩:=by
 refine bU func183 rfl ntmps183 results183 λJ X v=>?_;have d:=A0 p;have o:s[i]?.getD 0=s[i]:=by rw[A5 p];rfl
 generalize s[i]=c at d o;have f:=iI c (s.drop (i+1));rw[<-d]at f;apply aE;simp;apply fL;have a:=tP s i aD;rw[d]at a;refine bH (og 8 (.plain ⟨.d (.bool (letterB c)),true⟩)) ?_;simp;refine⟨a,?_⟩;apply aM;simp;refine⟨λa=>?_,λa=>?_⟩
 .apply aF;have E:=JO s i aD aD;refine bH (og 11 (.plain ⟨.d (aI (Cs s i)),true⟩)) ?_;simp;refine⟨E,?_⟩;apply aH;simp;have e:nextN (s.drop i)=wordN (s.drop i):=by rw[f,if_pos a]
  unfold Cs sQ;rw[e]
 .apply aG;simp;apply eT;simp[o];refine⟨aD,?_⟩;apply aM;simp;refine⟨λl=>?_,λl=>?_⟩
  .apply aF;have F:=JO s (i+1) aD aD;refine bH (og 19 (.plain ⟨.d (aI (Cs s (i+1))),true⟩)) ?_;simp;refine⟨⟨aD,by simpa using F⟩,?_⟩;apply aH;simp;have e:nextN (s.drop i)=if 0<wordN (s.drop (i+1))then wordN (s.drop (i+1))+1 else 0:=by rw[f,if_neg (by simp[a]),if_pos (Ry.1 l)]
   unfold Cs sQ;rw[e];by_cases z:0<wordN (s.drop (i+1))
   .rw[if_pos z,if_pos z,if_pos aD];omega
   .rw[if_neg z,if_neg z,if_neg aD]
  .apply aG;simp;apply fL;have x:=yH s i aD;rw[d]at x;refine bH (og 22 (.plain ⟨.d (.bool (digitB c)),true⟩)) ?_;simp;refine⟨x,?_⟩;apply aM;simp;refine⟨λn=>?_,λn=>?_⟩
   .apply aE;simp;apply eE;refine bC (ι:=Nat) (λk=>bB [(0,.d (.str s)),(1,.d (aI i)),(5,.d (aI ((i+k:Nat):Int)))]) (λk=>aK []) (λk=>i+k<=s.length/\∀m,m<k->firstIs digitB (s.drop (i+m))=true) (λk=>s.length-i-k) 0 (aA v [0,1,5] []) (⟨aD,λm h=>absurd h (C0 m)⟩) λk r=>?_;apply fL;have G:=yH s (i+k) aD;refine bH (og 26 (.plain ⟨.d (.bool (firstIs digitB (s.drop (i+k)))),true⟩)) ?_;simp[-D2];refine⟨G,?_⟩;apply aM;simp;refine⟨λb=>?_,λb=>?_⟩
    .apply aG;simp;apply aY;apply aJ;simp;refine⟨aD,?_⟩;refine Oe.mk (k+1) (aA v [0,1,5] [] (by simp[D4])) ?_ ?_
     .have t:i+k<s.length:=B0 λq=>by rw[A4 aD]at b;cases b
      refine⟨aD,λm I=>?_⟩;by_cases e:m=k
      .rw[e];exact b
      .exact r.2 m aD
     .have t:i+k<s.length:=B0 λq=>by rw[A4 aD]at b;cases b
      omega
    .apply bQ;simp;apply fL;have w:=UL r.2 b;apply aJ;simp;refine⟨aD,?_⟩;apply aM;simp;refine⟨λD=>?_,λD=>?_⟩
     .apply aE;simp;apply aH;simp;have e:nextN (s.drop i)=0:=by rw[f,if_neg (by simp[a]),if_neg (λe=>l (Ry.2 e)),if_pos n,w,if_neg aD]
      unfold sQ;rw[e,if_neg aD]
     .apply aG;simp;apply aE;simp;apply aH;simp;have C:0<k:=by
       rcases B3 k with z|z
       .rw[z,D6,d]at b;exact absurd n (by rw[show digitB c=false from b];simp)
       .exact z
      have e:nextN (s.drop i)=k:=by rw[f,if_neg (by simp[a]),if_neg (λe=>l (Ry.2 e)),if_pos n,w,if_pos aD]
      unfold sQ;rw[e,if_pos C]
   .apply aG;simp;apply eT;simp;refine⟨⟨⟨⟨aD,λ_=>aD⟩,λ_=>aD⟩,aD⟩,?_⟩;apply aM;simp;refine⟨λy A B=>?_,λg=>?_⟩
    .apply aE;simp;refine⟨aD,?_⟩;apply aH;simp;have e:nextN (s.drop i)=2:=by rw[f,if_neg (by simp[a]),if_neg (λe=>l (Ry.2 e)),if_neg (by simp[n]),if_pos ((HN p d o).2 ⟨y,A,B⟩)]
     unfold sQ;rw[e,if_pos bG];rfl
    .apply aG;simp;apply fL;have u:=JP c;refine bH (og 63 (.plain ⟨.d (.bool (decide (c∈signs))),true⟩)) ?_;simp[o];refine⟨⟨aD,u⟩,?_⟩;apply aM;simp;refine⟨λj=>?_,λj=>?_⟩
     .apply aE;simp;refine⟨aD,?_⟩;apply aH;simp;have e:nextN (s.drop i)=1:=by rw[f,if_neg (by simp[a]),if_neg (λe=>l (Ry.2 e)),if_neg (by simp[n]),if_neg (λz=>by have z:=(HN p d o).1 z;exact z.2.2.elim (g z.1 z.2.1).1 (g z.1 z.2.1).2),if_pos j]
      unfold sQ;rw[e,if_pos bG];rfl
     .apply aG;simp;apply aE;simp;apply aH;simp;have e:nextN (s.drop i)=0:=by rw[f,if_neg (by simp[a]),if_neg (λe=>l (Ry.2 e)),if_neg (by simp[n]),if_neg (λz=>by have z:=(HN p d o).1 z;exact z.2.2.elim (g z.1 z.2.1).1 (g z.1 z.2.1).2),if_neg j]
      unfold sQ;rw[e,if_neg bG]
end
section
attribute[local simp] aR bK bE aO aL aZ aP
attribute[local simp] kJ.cond Nd.d_eq nd_t nd_dr nd_td ndsD aU
theorem tQ:∀(f:Nat) (s:aV) (i:Int),s.length<=f->scanF f s i=scanF s.length s i
 |0,s,i,h=>by
  have:s=[]:=List.eq_nil_of_length_eq_zero aD;subst this;rfl
 |f+1,[],i,_=>by simp[scanF]
 |f+1,c::r,i,h=>by
  have a:=tQ f r (i+1) (by simpa using h);simp only[A1,scanF];by_cases q:c=32\/c=10
  .rw[if_pos q,if_pos q,a]
  .rw[if_neg q,if_neg q];by_cases z:nextN (c::r)=0
   .rw[if_pos z,if_pos z]
   .rw[if_neg z,if_neg z];have e:((c::r).drop (nextN (c::r))).length<=r.length:=by rw[A6,A1];omega
    have g:r.length<=f:=by simpa using h
    have b:=tQ f ((c::r).drop (nextN (c::r))) (i+nextN (c::r)) aD;have d:=tQ r.length ((c::r).drop (nextN (c::r))) (i+nextN (c::r)) e;rw[b,d]
termination_by f _ _ _=>f
def oF(s:aV)(k:Nat):List Tk×Int:=scanF (s.drop k).length (s.drop k) k
theorem Gp{s:aV}{k:Nat}(h:s.length<=k):oF s k=([],(k:Int)):=by
 unfold oF;rw[A4 h];rfl
theorem Ct{s:aV}{k:Nat}(h:k<s.length)(a:s[k]=32\/s[k]=10):oF s k=oF s (k+1):=by
 unfold oF;rw[A0 h,A1,scanF,if_pos a];rfl
theorem Er{s:aV}{k:Nat}(h:k<s.length)(b:¬(s[k]=32\/s[k]=10))(a:nextN (s.drop k)=0):oF s k=([],(k:Int)):=by
 unfold oF;rw[A0 h]at a|-;rw[A1,scanF,if_neg b,if_pos a]
theorem Gq{s:aV}{k:Nat}(h:k<s.length)(d:¬(s[k]=32\/s[k]=10))(c:nextN (s.drop k)≠0):
 oF s k=(⟨(s.drop k).take (nextN (s.drop k)),k⟩::(oF s (k+nextN (s.drop k))).1,(oF s (k+nextN (s.drop k))).2):=by
 have b:=vV (s.drop k);have e:(s.drop k).drop (nextN (s.drop k))=s.drop (k+nextN (s.drop k)):=by rw[A9]
 unfold oF;rw[<-e];generalize a:nextN (s.drop k)=m at c b e|-;rw[A0 h]at a b|-;rw[A1,scanF,if_neg d,if_neg (by rw[a];exact c),a];rw[tQ _ _ _ (by rw[A6,A1];omega)]
 push_cast
 rfl
theorem YR{c:UInt8}{n:Nat}(a:n<256):((c.toNat:Int)=n)↔c=C9 n:=by
 rw[<-B1];have:(C9 n).toNat=n:=by simp[UInt8.toNat_ofNat'];omega
 omega
theorem yI{s:aV}{k:Nat}(d:k<s.length):(((s[k]?.getD 0).toNat:Int)=32\/((s[k]?.getD 0).toNat:Int)=10)↔(s[k]=32\/s[k]=10):=by
 rw[A5 d,B9];have a:=YR (c:=s[k]) (n:=32) bG;have b:=YR (c:=s[k]) (n:=10) bG;exact⟨λq=>q.imp a.1 b.1,λq=>q.imp a.2 b.2⟩
theorem PD(s:aV)(k n:Nat):D8 k (D5 ((k:Int)+(n:Int)).toNat s)=D5 n (D8 k s):=by
 rw[show((k:Int)+(n:Int)).toNat=k+n by omega,List.drop_take,show k+n-k=n by omega]
structure ScS where
 k:Nat
 L:List Tk
 deriving Inhabited
theorem UN(s:aV)(t:s.length<=1000000000):Ok prog 85 [.str s] ⟨.tup [.own 2 ((scanS s).1.map Tk.d),.d (aI (scanS s).2)],true⟩:=by
 refine Ok.two func85 jM (c:=_) rfl ntmps85 bA results85 rfl λu X i=>?_;apply aE;simp;refine fF.scope ?_;apply aE;simp;apply aE;simp;apply aF;refine fF.label ?_;simp;apply eE;refine bC (ι:=ScS) (λ⟨k,L⟩=>bB [(0,.d (.str s)),(4,.ow 4 0 L.length),(5,.d (aI k))]) (λ⟨k,L⟩=>aK [(4,.row false 2 (L.map Tk.d))]) (λ⟨k,L⟩=>L.length<=k/\k<=s.length/\scanS s=(L++(oF s k).1,(oF s k).2)) (λ⟨k,L⟩=>s.length-k) ⟨0,[]⟩ (aA i [0,4,5] [(4,4)]) (⟨D7 _,A7 _,by simp[oF,scanS]⟩) λ⟨k,L⟩ d=>?_;apply aF;apply bF;simp;refine⟨λo=>?_,λo=>?_⟩
 .apply aG;simp;apply aY;apply fL;have f:k<s.length:=aD;apply aJ;simp;refine⟨f,?_⟩;apply aY;refine bI (ι:=BC) (λ⟨b⟩=>bB [(0,.d (.str s)),(4,.ow 4 0 L.length),(5,.d (aI k)),(14,.d (.bool b))]) (λ⟨b⟩=>aK [(4,.row false 2 (L.map Tk.d))]) (λ⟨b⟩=>b=true↔(((s[k]?.getD 0).toNat:Int)=32\/((s[k]?.getD 0).toNat:Int)=10)) ?_ λ⟨b⟩ h=>?_
  .apply bF;simp;refine⟨λp=>?_,λp=>?_⟩
   .apply aG;simp;refine Xv.mk ⟨decide (((s[k]?.getD 0).toNat:Int)=32)⟩ (aA i [0,4,5,14] [(4,4)]) ?_;simp[p]
   .apply aJ;simp;refine Xv.mk ⟨decide (((s[k]?.getD 0).toNat:Int)=10)⟩ (aA i [0,4,5,14] [(4,4)]) ?_;simp only[decide_eq_true_eq];omega
  .apply aM;simp;refine⟨λl=>?_,λl=>?_⟩
   .have j:=(yI f).1 (h.1 l);apply aE;simp;refine⟨aD,?_⟩;apply bQ;simp;refine Oe.mk ⟨k+1,L⟩ (aA i [0,4,5] [(4,4)]) ?_ ?_
    .refine⟨C8 d.1,f,?_⟩;rw[d.2.2,Ct f j]
    .show s.length-(k+1)<s.length-k;omega
   .have j:¬(s[k]=32\/s[k]=10):=λq=>by simp[h.2 ((yI f).2 q)]at l
    apply aG;simp;apply aF;have r:=XH s[k] (s.drop (k+1)) kH;rw[<-A0 f]at r;refine bH (og 22 (.plain ⟨.d (aI (nextN (s.drop k))),true⟩)) ?_;simp;refine⟨⟨aD,r⟩,?_⟩;apply aF;apply bF;simp;refine⟨λm=>?_,λm=>?_⟩
    .apply bQ;simp;apply aE;simp;apply aH;simp;have e:=d.2.2;rw[Er f j m]at e;rw[e];exact⟨⟨bA,λa _ c g=>by simp[Tk.d,aQ]at g;rcases g with rfl|rfl<;>rfl⟩,rfl⟩
    .apply aG;simp;apply aF;have n:=vV (s.drop k);rw[A6]at n;apply aJ;simp;refine⟨⟨⟨⟨aD,aD⟩,aD,aD⟩,aD,aD⟩,?_⟩;apply aJ;simp;refine⟨aD,?_⟩;refine Oe.mk ⟨k+nextN (s.drop k),L++[⟨(s.drop k).take (nextN (s.drop k)),k⟩]⟩ (aA i [0,4,5] [(35,4)] (hH:=by simp[Tk.d,PD])) ?_ ?_
     .refine⟨?_,?_,?_⟩
      .show(L++[_]).length<=k+nextN (s.drop k);rw[A2,C3];omega
      .show k+nextN (s.drop k)<=s.length;omega
      .rw[d.2.2,Gq f j m];simp
     .show s.length-(k+nextN (s.drop k))<s.length-k;omega
 .apply bQ;simp;apply aE;simp;apply aH;simp;have e:=d.2.2;rw[Gp o]at e;rw[e];exact⟨⟨bA,λa _ c g=>by simp[Tk.d,aQ]at g;rcases g with rfl|rfl<;>rfl⟩,rfl⟩
theorem XK(s:aV)(a:s.length<=1000000000):Ok prog 85 [.str s] ⟨.tup [.d (.sl ((scanS s).1.map Tk.d)),.d (aI (scanS s).2)],true⟩:=FW (UN s a)
end
section
attribute[local simp] aR bK bE aO aL aZ aP
attribute[local simp] kJ.cond Nd.d_eq nd_t nd_dr nd_td ndsD aU bO
def mP(l:List Tk):DV:=.sl (l.map Tk.d)
theorem aBm:∀t:Tk,(aQ t.d).length=2:=λ_=>rfl
def dU(p:PS):List (Nat×bJ):=[(0,.box false [.d (mP p.l),.d (aI p.e)])]
attribute[local simp] mP dU
theorem dH(c:Prop)[Decidable c](A B:bJ)(x:Nat):cD (λx=>if x=0 then A else B) (if c then []else [(0,A)]) x=if x=0 then A else B:=by
 by_cases h:c<;>by_cases q:x=0<;>simp[h,q,cD,cQ]
attribute[local simp] dH
theorem RA{p:PS}(h:¬p.e=0\/p.l=[]):p.peek=[]:=by
 unfold PS.peek;by_cases q:p.e=0
 .rcases h with h|h
  .exact absurd q h
  .rw[if_neg (by simpa using q),h]
 .rw[if_pos q]
theorem RB{p:PS}{t:Tk}{r:List Tk}(h:p.e=0)(a:p.l=t::r):p.peek=t.text:=by
 unfold PS.peek;rw[if_neg (by simpa using h),a]
theorem nK{p:PS}{s:aV}:p.is s=true↔s≠[]/\p.peek=s:=by simp[PS.is]
theorem dI{p:PS}{s:aV}(h:p.is s=true):p.took s=p.skip:=if_pos h
theorem qI{p:PS}{s:aV}(h:¬p.is s=true):p.took s=p:=if_neg h
theorem mL(p:PS):mH prog 156 [.bx 0 0] (dU p) (dU p) (.d (.str p.peek)):=by
 unfold dU;refine nE func156 rfl ntmps156 results156 λe X b=>?_;apply aE;simp;apply aF;apply bF;simp;refine⟨λg=>?_,λc d=>?_⟩
 .apply aE;simp;apply aH;simp;exact aA b [2] [(0,0)] (by simp[RA g])
 .apply aG;simp;apply aF;obtain⟨t,r,a⟩:=List.exists_cons_of_ne_nil d;apply aJ;simp[a,Tk.d];apply aH;simp;exact aA b [2] [(0,0)] (by simp[RB c a]) (by simp[a])
theorem yJ(p:PS)(e:Int):mH prog 157 [.bx 0 0,.d (aI e)] (dU p) (dU (p.fail e)) (.tup []):=by
 unfold dU;refine oX func157 rfl ntmps157 results157 λc X b=>?_;apply bF;simp;refine⟨λa=>?_,λa=>?_⟩
 .apply aJ;simp;exact aA b [] [(0,0)] (hH:=by simp[PS.fail,a])
 .apply aG;simp;exact aA b [] [(0,0)] (hH:=by simp[PS.fail,a])
theorem kD(p:PS)(s:aV):mH prog 158 [.bx 0 0,.d (.str s)] (dU p) (dU (p.took s)) (.d (.bool (p.is s))):=by
 unfold dU;refine nE func158 rfl ntmps158 results158 λh X c=>?_;apply aE;simp;apply aF;refine dF (oh 9 (dU p) (.d (.str p.peek))) ?_;simp;refine⟨λ_=>mL p,?_⟩;apply aM;simp;refine⟨λg=>?_,λd e=>?_⟩
 .apply aE;simp;apply aH;simp;have b:¬p.is s=true:=λq=>by
   obtain⟨q1,q2⟩:=nK.1 q;rcases g with g|g
   .exact q1 g
   .exact g q2
  exact aA c [4] [(0,0)] (by simp[b]) (by simp[qI b])
 .apply aG;simp;apply aF;have a:p.is s=true:=nK.2 ⟨d,by simpa using e⟩;have f:=iH a;apply aJ;simp;refine⟨⟨aD,λt _=>aBm t⟩,?_⟩;apply aE;simp;apply aH;simp;exact aA c [4] [(0,0)] (by simp[a]) (by simp[dI a,PS.skip])
theorem PE{p:PS}{s:aV}(h:p.is s=true):p.need s=p.took s:=by unfold PS.need PS.took;rw[if_pos h,if_pos h]
theorem UO{p:PS}{s:aV}(h:p.is s=false):p.need s=(p.took s).fail 2:=by
 have a:¬p.is s=true:=by simp[h]
 rw[qI a];unfold PS.need;rw[if_neg a]
theorem AM{p:PS}(h:isNameB p.peek=true):nameP p=(p.peek,p.took p.peek):=by
 have:p.is p.peek=true:=nK.2 ⟨λe=>(by rw[e]at h;cases h),rfl⟩;rw[dI this];unfold nameP;rw[if_pos h]
theorem wC{p:PS}(h:isNameB p.peek=false):nameP p=([],p.fail 2):=by unfold nameP;rw[if_neg (by simp[h])]
theorem kX(p:PS)(s:aV):mH prog 161 [.bx 0 0,.d (.str s)] (dU p) (dU (p.need s)) (.tup []):=by
 unfold dU;refine oX func161 rfl ntmps161 results161 λd X c=>?_;refine dF (oh 6 (dU (p.took s)) (.d (.bool (p.is s)))) ?_;simp;refine⟨kD p s,?_⟩;apply aM;simp;refine⟨λb=>?_,λb=>?_⟩
 .have a:=UO b;refine bH (oh 9 (dU ((p.took s).fail 2)) (.tup [])) ?_;simp;refine⟨yJ (p.took s) 2,?_⟩;exact aA c [] [(0,0)] (hH:=by simp[a])
 .have a:=PE b;apply aG;simp;exact aA c [] [(0,0)] (hH:=by simp[a])
theorem AN(p:PS):mH prog 159 [.bx 0 0] (dU p) (dU (nameP p).2) (.d (.str (nameP p).1)):=by
 unfold dU;refine nE func159 rfl ntmps159 results159 λc X b=>?_;apply aE;simp;refine dF (oh 5 (dU p) (.d (.str p.peek))) ?_;simp;refine⟨mL p,?_⟩;apply aF;refine dF (og 7 (.plain ⟨.d (.bool (isNameB p.peek)),true⟩)) ?_;simp;refine⟨Gk p.peek,?_⟩;apply aM;simp;refine⟨λa=>?_,λa=>?_⟩
 .refine dF (oh 10 (dU (p.fail 2)) (.tup [])) ?_;simp;refine⟨yJ p 2,?_⟩;apply aE;simp;apply aH;simp;exact aA b [2] [(0,0)] (by simp[wC a]) (by simp[wC a])
 .apply aG;simp;refine dF (oh 13 (dU (p.took p.peek)) (.d (.bool (p.is p.peek)))) ?_;simp;refine⟨kD p p.peek,?_⟩;apply aE;simp;apply aH;simp;exact aA b [2] [(0,0)] (by simp[AM a]) (by simp[AM a])
end
section
attribute[local simp] aR bK bE aO aL aZ aP
attribute[local simp] kJ.cond Nd.d_eq nd_t nd_dr nd_td ndsD aU
def Tk.r(t:Tk):DV:=.agg [aI t.at_,aI (t.at_+t.text.length)]
def InT(s:aV)(t:Tk):Prop:=∃a:Nat,t.at_=a/\a+t.text.length<=s.length/\(s.drop a).take t.text.length=t.text
theorem Es(s:aV):∀(f k:Nat),k<=s.length->∀t∈(scanF f (s.drop k) k).1,InT s t
 |0,_,_,t,h=>by simp[scanF]at h
 |f+1,k,hk,t,h=>by
  by_cases b:k<s.length
  .have a:=A0 b;have d:=Es s f (k+1) b;have g:=Es s f (k+nextN (s.drop k));generalize s[k]=c at a;have i:=vV (s.drop k);rw[A6]at i;have e:scanF (f+1) (s.drop k) k=if c=32\/c=10 then scanF f (s.drop (k+1)) ((k:Int)+1)else if nextN (s.drop k)=0 then([],(k:Int))else
    (⟨(s.drop k).take (nextN (s.drop k)),k⟩::(scanF f ((s.drop k).drop (nextN (s.drop k))) ((k:Int)+nextN (s.drop k))).1,(scanF f ((s.drop k).drop (nextN (s.drop k))) ((k:Int)+nextN (s.drop k))).2):=by
    rw[a];rfl
   rw[e]at h;split at h
   .exact d t (by simpa using h)
   .split at h
    .simp at h
    .rw[A9]at h;simp only[C6]at h;rcases h with h|h
     .refine⟨k,by rw[h],?_,?_⟩
      .rw[h];simp only[B7,A6];omega
      .rw[h];simp only[B7];rw[Nat.min_eq_left (by rw[A6];omega)]
     .exact g aD t (by simpa using h)
  .rw[A4 aD]at h;simp[scanF]at h
theorem RC{s:aV}{i:Nat}(h:0<=sQ s i):0<nextN (s.drop i):=by
 unfold sQ at h;split at h
 .assumption
 .omega
theorem JQ{s:aV}{t:Tk}(h:t∈(scanS s).1):InT s t:=Es s s.length 0 (A7 _) t (by simpa [scanS]using h)
theorem RE(s:aV)(w:s.length<=1000000000):Ok prog 106 [.str s] ⟨.tup [.own 2 ((scanS s).1.map Tk.r),.d (aI (scanS s).2)],true⟩:=by
 refine Ok.two func106 jM (c:=_) rfl ntmps106 bA results106 rfl λx X n=>?_;apply aE;simp;apply aE;simp;apply aE;simp;apply eE;refine bC (ι:=ScS) (λ⟨k,L⟩=>bB [(0,.d (.str s)),(4,.ow 4 0 L.length),(5,.d (aI k))]) (λ⟨k,L⟩=>aK [(4,.row false 2 (L.map Tk.r))]) (λ⟨k,L⟩=>L.length<=k/\k<=s.length/\scanS s=(L++(oF s k).1,(oF s k).2)) (λ⟨k,L⟩=>s.length-k) ⟨0,[]⟩ (aA n [0,4,5] [(4,4)]) (⟨D7 _,A7 _,by simp[oF,scanS]⟩) λ⟨k,L⟩ d=>?_;apply aF;apply bF;simp;refine⟨λo=>?_,λo=>?_⟩
 .apply aG;simp;apply aY;apply fL;have f:k<s.length:=aD;apply aJ;simp;refine⟨⟨f,λ_=>f⟩,?_⟩;apply aM;simp;refine⟨λg=>?_,λu v=>?_⟩
  .have l:=(yI f).1 g;apply aE;simp;refine⟨aD,?_⟩;apply bQ;simp;refine Oe.mk ⟨k+1,L⟩ (aA n [0,4,5] [(4,4)]) ?_ ?_
   .refine⟨C8 d.1,f,?_⟩;rw[d.2.2,Ct f l]
   .show s.length-(k+1)<s.length-k;omega
  .have l:¬(s[k]=32\/s[k]=10):=λq=>by have:=(yI f).2 q;omega
   apply aG;simp;apply aF;have t:=UM s k f aD;refine bH (og 25 (.plain ⟨.d (aI (sQ s k)),true⟩)) ?_;simp;refine⟨t,?_⟩;apply aF;apply bF;simp;refine⟨λp=>?_,λp=>?_⟩
   .apply aE;simp;apply aH;simp;have r:nextN (s.drop k)=0:=by
     rcases B3 (nextN (s.drop k))with z|z
     .exact z
     .rw[show sQ s k=(k:Int)+nextN (s.drop k) from if_pos z]at p;omega
    have e:=d.2.2;rw[Er f l r]at e;rw[e];exact⟨⟨bA,λa _ c h=>by simp[Tk.r,aQ]at h;rcases h with rfl|rfl<;>rfl⟩,rfl⟩
   .have j:0<nextN (s.drop k):=RC aD;have i:sQ s k=(k:Int)+nextN (s.drop k):=if_pos j;have m:=vV (s.drop k);rw[A6]at m;have b:min (nextN (s.drop k)) (s.length-k)=nextN (s.drop k):=aD;apply aG;simp;apply aE;simp;refine⟨⟨aD,aD⟩,?_⟩;apply aJ;simp;refine Oe.mk ⟨k+nextN (s.drop k),L++[⟨(s.drop k).take (nextN (s.drop k)),k⟩]⟩ (aA n [0,4,5] [(35,4)] (by simp[i]) (by simp[Tk.r,i,b])) ?_ ?_
    .refine⟨?_,?_,?_⟩
     .show(L++[_]).length<=k+nextN (s.drop k);rw[A2,C3];omega
     .show k+nextN (s.drop k)<=s.length;omega
     .rw[d.2.2,Gq f l aD];simp
    .show s.length-(k+nextN (s.drop k))<s.length-k;omega
 .apply bQ;simp;apply aE;simp;apply aH;simp;have e:=d.2.2;rw[Gp o]at e;rw[e];exact⟨⟨bA,λa _ c h=>by simp[Tk.r,aQ]at h;rcases h with rfl|rfl<;>rfl⟩,rfl⟩
theorem JR(s:aV)(a:s.length<=1000000000):Ok prog 106 [.str s] ⟨.tup [.d (.sl ((scanS s).1.map Tk.r)),.d (aI (scanS s).2)],true⟩:=FW (RE s a)
end
end Go.Eng
namespace Go.Proofs
open Go.Shelf
def Tryz.atoiLay_ren:Go.Shelf.Ren:=⟨λ|172=>236|244=>289|245=>290|247=>321|279=>322|280=>323|281=>324|282=>325|287=>348|316=>349|171=>167|205=>350|321=>364|322=>365|243=>241|246=>301|283=>328|284=>329|285=>330|286=>331|129=>208|317=>352|318=>353|319=>354|320=>355|337=>366|338=>367|n=>n,λ|9=>9|3=>3|75=>260|76=>261|4=>4|5=>5|167=>302|37=>38|0=>0|85=>303|2=>2|168=>305|53=>93|175=>322|46=>166|210=>326|127=>337|145=>340|143=>338|21=>21|171=>313|173=>315|212=>329|51=>90|20=>20|213=>330|232=>99|233=>92|80=>205|n=>n,λ|15=>6|16=>7|17=>8|18=>9|19=>10|n=>n⟩
theorem Tryz.atoiLay:Go.Proofs.Lays.n172 prog Tryz.atoiLay_ren:={
 mixed:=by kernel_rfl,
 f129:=func208.trans (congrArg some (by kernel_rfl)),
 f171:=func167.trans (congrArg some (by kernel_rfl)),
 f172:=func236.trans (congrArg some (by kernel_rfl)),
 f205:=func350.trans (congrArg some (by kernel_rfl)),
 f243:=func241.trans (congrArg some (by kernel_rfl)),
 f244:=func289.trans (congrArg some (by kernel_rfl)),
 f245:=func290.trans (congrArg some (by kernel_rfl)),
 f246:=func301.trans (congrArg some (by kernel_rfl)),
 f247:=func321.trans (congrArg some (by kernel_rfl)),
 f279:=func322.trans (congrArg some (by kernel_rfl)),
 f280:=func323.trans (congrArg some (by kernel_rfl)),
 f281:=func324.trans (congrArg some (by kernel_rfl)),
 f282:=func325.trans (congrArg some (by kernel_rfl)),
 f283:=func328.trans (congrArg some (by kernel_rfl)),
 f284:=func329.trans (congrArg some (by kernel_rfl)),
 f285:=func330.trans (congrArg some (by kernel_rfl)),
 f286:=func331.trans (congrArg some (by kernel_rfl)),
 f287:=func348.trans (congrArg some (by kernel_rfl)),
 f316:=func349.trans (congrArg some (by kernel_rfl)),
 f317:=func352.trans (congrArg some (by kernel_rfl)),
 f318:=func353.trans (congrArg some (by kernel_rfl)),
 f319:=func354.trans (congrArg some (by kernel_rfl)),
 f320:=func355.trans (congrArg some (by kernel_rfl)),
 f321:=func364.trans (congrArg some (by kernel_rfl)),
 f322:=func365.trans (congrArg some (by kernel_rfl)),
 f337:=func366.trans (congrArg some (by kernel_rfl)),
 f338:=func367.trans (congrArg some (by kernel_rfl)),
 t0:=underlying0,
 a0:=isAgg0,
 z0:=sizeOf0,
 v0:=zeroValue0,
 t2:=underlying2,
 a2:=isAgg2,
 z2:=sizeOf2,
 v2:=zeroValue2,
 t3:=underlying3,
 a3:=isAgg3,
 z3:=sizeOf3,
 v3:=zeroValue3,
 t4:=underlying4,
 a4:=isAgg4,
 z4:=sizeOf4,
 v4:=zeroValue4,
 t5:=underlying5,
 a5:=isAgg5,
 z5:=sizeOf5,
 v5:=zeroValue5,
 t9:=underlying9,
 a9:=isAgg9,
 z9:=sizeOf9,
 v9:=zeroValue9,
 t20:=underlying20,
 a20:=isAgg20,
 z20:=sizeOf20,
 v20:=zeroValue20,
 t21:=underlying21,
 a21:=isAgg21,
 z21:=sizeOf21,
 v21:=zeroValue21,
 t37:=underlying38,
 a37:=isAgg38,
 z37:=sizeOf38,
 v37:=zeroValue38,
 t46:=underlying166,
 a46:=isAgg166,
 z46:=sizeOf166,
 v46:=zeroValue166,
 t51:=underlying90,
 a51:=isAgg90,
 z51:=sizeOf90,
 v51:=zeroValue90,
 t53:=underlying93,
 a53:=isAgg93,
 z53:=sizeOf93,
 v53:=zeroValue93,
 t75:=underlying260,
 a75:=isAgg260,
 z75:=sizeOf260,
 v75:=zeroValue260,
 t76:=underlying261,
 a76:=isAgg261,
 z76:=sizeOf261,
 v76:=zeroValue261,
 t85:=underlying303,
 a85:=isAgg303,
 z85:=sizeOf303,
 v85:=zeroValue303,
 t127:=underlying337,
 a127:=isAgg337,
 z127:=sizeOf337,
 v127:=zeroValue337,
 t143:=underlying338,
 a143:=isAgg338,
 z143:=sizeOf338,
 v143:=zeroValue338,
 t145:=underlying340,
 a145:=isAgg340,
 z145:=sizeOf340,
 v145:=zeroValue340,
 t167:=underlying302,
 a167:=isAgg302,
 z167:=sizeOf302,
 v167:=zeroValue302,
 t168:=underlying305,
 a168:=isAgg305,
 z168:=sizeOf305,
 v168:=zeroValue305,
 t171:=underlying313,
 a171:=isAgg313,
 z171:=sizeOf313,
 v171:=zeroValue313,
 t173:=underlying315,
 a173:=isAgg315,
 z173:=sizeOf315,
 v173:=zeroValue315,
 t175:=underlying322,
 a175:=isAgg322,
 z175:=sizeOf322,
 v175:=zeroValue322,
 t210:=underlying326,
 a210:=isAgg326,
 z210:=sizeOf326,
 v210:=zeroValue326,
 t212:=underlying329,
 a212:=isAgg329,
 z212:=sizeOf329,
 v212:=zeroValue329,
 t213:=underlying330,
 a213:=isAgg330,
 z213:=sizeOf330,
 t232:=underlying99,
 a232:=isAgg99,
 z232:=sizeOf99,
 v232:=zeroValue99,
 t233:=underlying92,
 a233:=isAgg92,
 z233:=sizeOf92,
 v233:=zeroValue92,
 g15:=by kernel_rfl,
 g16:=by kernel_rfl,
 g17:=by kernel_rfl,
 g18:=by kernel_rfl,
 g19:=by kernel_rfl}
end Go.Proofs
