/- Part 9 of the proof. No condition. -/
import Derived.Test.YtepoffhhiddlkaaGreatDoorMH
open Go.Proofs
open Go.Proofs.Tryz
set_option linter.unusedVariables false
set_option linter.unusedSimpArgs false
set_option maxRecDepth 20000
set_option maxHeartbeats 4000000
open List renaming length_nil→A0,getD_eq_getElem?_getD→A4,getElem?_eq_getElem→A5,all_eq_true→A6,length_drop→A7,length_append→A8,map_cons→A9,map_nil→B1,getElem_mem→B3,length_cons→B4,getElem_of_mem→B5,drop_zero→B6,exists_cons_of_ne_nil→B7,mem_of_find?_eq_some→B9,getElem?_map→C0,length_singleton→C4,length_pos_iff→C7,getElem_map→D0,length_take→D1,find?_some→D3,take→D7
open Nat renaming not_lt_zero→A1,lt_succ_self→A2,one_le_two_pow→B8,lt_or_ge→C2,zero_le→C5,le_refl→D2,pow_succ→D5,mul_comm→D6
open Int renaming toNat_of_nonneg→C6,toNat_natCast→C8,add_assoc→D4
open Bool renaming and_eq_true→A3,eq_false_iff→B0,true_and→C1,eq_iff_iff→C3,not_eq_true→C9
open Classical renaming byContradiction→B2
namespace Go.Eng
section
attribute[local simp] aW bJ bE aR
attribute[local simp] lB.cond Nd.d_eq nd_t nd_dr nd_td ndsD aX bO dL eI Cn Co Cp pZ Kt
theorem Ve{s:bA}{T:List Tk}{c:Prop}[Decidable c]{f:Nat->bI}{a b:PS}{x:Nat}(h:f 0=.box false [.d (.str s),.d (.sl (T.map Tk.r)),.d (aJ ((T.length:Int)- b.l.length)),.d (.bool (!decide (b.e=0))),.d (.bool (decide (b.e=5)))]):
 cA f (if c then [(0,.box false [.d (.str s),.d (.sl (T.map Tk.r)),.d (aJ ((T.length:Int)- a.l.length)),.d (.bool (!decide (a.e=0))),.d (.bool (decide (a.e=5)))])]else []) x=
  if x=0 then .box false [.d (.str s),.d (.sl (T.map Tk.r)),.d (aJ ((T.length:Int)-(if c then a else b).l.length)),.d (.bool (!decide ((if c then a else b).e=0))),.d (.bool (decide ((if c then a else b).e=5)))]else f x:=by
 by_cases d:c
 .simp only[d,if_true,cA,cK]
 .simp only[d,if_false,cA];split
  .rename_i e;rw[e];exact h
  .rfl
def Zl:bA:=[119,104,105,108,101]
theorem aBB{ex bl:PS->Nd×PS}{k:Int}{p:PS}(b:p.took p.peek=p.skip)(h:k=11)(a:(bl (ex p.skip).2).2.is sElse=true):
 Vc ex bl k p=(.mk k [] 0 [(ex p.skip).1,(bl (ex p.skip).2).1,(bl ((bl (ex p.skip).2).2.took sElse)).1],(bl ((bl (ex p.skip).2).2.took sElse)).2):=by
 unfold Vc;rw[b,if_pos ⟨h,a⟩]
theorem aDh{ex bl:PS->Nd×PS}{k:Int}{p:PS}(b:p.took p.peek=p.skip)(a:k=11->(bl (ex p.skip).2).2.is sElse=false):
 Vc ex bl k p=(.mk k [] 0 [(ex p.skip).1,(bl (ex p.skip).2).1],(bl (ex p.skip).2).2):=by
 unfold Vc;rw[b,if_neg (λz=>by rw[a z.1]at z;exact absurd z.2 bC)]
theorem PO(s:bA)(T:List Tk)(c:Cm s T)(p:PS)(w:bA)(k:Int)(F:k=11\/k=12)(A:w=Zl↔k=12)(a:p.peek≠[])(n:Nat)(ex bl:PS->Nd×PS)(v:RR s T (n+1) 368 ex)(m:RR s T n 307 bl)(K:p.l.length<n+1)(f:lA T p):iP prog 357 [.bx 0 0,.d (.str w)] (eI s T p) (eI s T (Vc ex bl k p).2) (.d (Vc ex bl k p).1.d):=by
 unfold eI;have I:=c.ht;have r:=sZ (T:=T) a;have G:=f.pos a;have g:p.took p.peek=p.skip:=cO (fK.2 ⟨a,rfl⟩);have J:=rQ a;have u:=v.fs p.skip aE f.skip;have t:=m.fs (ex p.skip).2 aE u.1;refine fJ func357 rfl ntmps357 results357 λM X h=>?_;apply aD;simp;apply aD;simp;refine⟨aE,?_⟩;simp only[<-r];apply aD;simp;refine aY (ι:=KC6) (λ⟨j⟩=>aQ [(0,.bx 0 0),(4,.bx 4 0),(5,.bx 5 0)]) (λ⟨j⟩=>aL [(0,.box false [.d (.str s),.d (.sl (T.map Tk.r)),.d (aJ ((T.length:Int)- p.skip.l.length)),.d (.bool (!decide (p.e=0))),.d (.bool (decide (p.e=5)))]),(4,.box false [.d (aJ 0),.d (.str []),.d (aJ 0),.nl]),(5,.box false [.d (aJ j),.d (.str []),.d (aJ 0),.nl])]) (λ⟨j⟩=>k=j) ?_ λ⟨j⟩ q=>?_
 .apply aP;simp;refine⟨λl=>?_,λl=>?_⟩
  .have i:k=12:=A.1 l;apply aI;simp;refine aAV.mk ⟨12⟩ (aA h [0,4,5] [(0,0),(4,4),(5,5)]) ?_;exact i
  .have i:k=11:=F.resolve_right λz=>l (A.2 z);apply aG;simp;refine aAV.mk ⟨11⟩ (aA h [0,4,5] [(0,0),(4,4),(5,5)]) ?_;exact i
 .apply aF;have E:k=j:=q;subst E;have y:=v.ok p.skip aE f.skip;rw[Nd.d_eq]at y;refine fL.rd [[0,21],[0,21]] [[],[],[],[0],[21],[22],[],[5]] (oh 20 (eI s T (ex p.skip).2) (.d (ex p.skip).1.d)) ?_;simp;refine⟨y,?_⟩;apply aF;have D:=m.ok (ex p.skip).2 aE u.1;refine fL.rd [[0,28],[0,28]] [[],[],[],[0],[28],[29,22],[],[5]] (oh 27 (eI s T (bl (ex p.skip).2).2) (.d (bl (ex p.skip).2).1.d)) ?_;simp;refine⟨by simpa using D,?_⟩;apply eG;have H:=yV s T (bl (ex p.skip).2).2 c t.1 sElse bF;refine aU (oh 36 (eI s T ((bl (ex p.skip).2).2.took sElse)) (.d (.bool ((bl (ex p.skip).2).2.is sElse)))) ?_;simp[Ve (b:=(bl (ex p.skip).2).2)];refine⟨λ_=>H,?_⟩;apply aK;simp;refine⟨λd C=>?_,λd=>?_⟩
  .simp only[d,if_true];have L:((bl (ex p.skip).2).2.took sElse).l.length<=(bl (ex p.skip).2).2.l.length:=Kv;have o:=m.ok ((bl (ex p.skip).2).2.took sElse) aE t.1.took;refine fL.rd [[0,42],[0,42]] [[],[],[],[0],[42],[43,29],[],[5]] (oh 41 (eI s T (bl ((bl (ex p.skip).2).2.took sElse)).2) (.d (bl ((bl (ex p.skip).2).2.took sElse)).1.d)) ?_;simp;refine⟨by simpa using o,?_⟩;apply aD;simp;apply aH;simp;subst d;have e:=aBB (ex:=ex) (bl:=bl) g rfl C;refine bH (x:=(Vc ex bl 11 p).1.d) (by simp[e]) ?_;simp;exact aA h [0] [(0,0)] (hH:=by simp[e])
  .have B:(if k=11 then(bl (ex p.skip).2).2.took sElse else(bl (ex p.skip).2).2)=(bl (ex p.skip).2).2:=by
    split
    .rename_i z;exact iF (by simp[d z])
    .rfl
   simp only[B];apply aG;simp;apply aD;simp;apply aH;simp;have e:=aDh (ex:=ex) (bl:=bl) g d;refine bH (x:=(Vc ex bl k p).1.d) (by simp[e]) ?_;simp;exact aA h [0] [(0,0)] (hH:=by simp[e])
def sJ(ex:PS->Nd×PS)(p:PS):Nd×PS:=if 12<kindP p.peek then cmdP ex (kindP p.peek) (p.took p.peek)else Dp ex p
theorem Kx{w:bA}(h:0<=kindP w):wordAt (kindP w)=w/\kindP w<26:=by
 unfold kindP wordI at h|-;split at h
 .omega
 .rename_i b;rw[if_neg b];cases e:(List.range 26).find? (λi=>decide (wordsL.getD i []=w))with
  |none=>rw[e]at h;simp at h
  |some i=>
   have a:=D3 e;have c:=List.mem_range.1 (B9 e);simp only[decide_eq_true_eq]at a;exact⟨a,by simp only;omega⟩
theorem Dq{k:Int}{p:PS}(h:¬(k=19\/k=20))(a:¬(k=21\/k=25\/k=24)):cmdA k p=nameP p:=by unfold cmdA;rw[if_neg h,if_neg a]
theorem MN{k:Int}{p:PS}(h:k=19\/k=20):cmdA k p=localP p:=by unfold cmdA;rw[if_pos h]
theorem Dr{k:Int}{p:PS}(h:k=21\/k=25\/k=24):cmdA k p=([],p):=by unfold cmdA;rw[if_neg aE,if_pos h]
theorem PP(s:bA)(T:List Tk)(c:Cm s T)(p:PS)(w:bA)(hw:p.peek=w)(n:Nat)(g:PS->Nd×PS)(V:RR s T n 368 g)(hn:p.l.length<n)(f:lA T p):iP prog 358 [.bx 0 0,.d (.str w)] (eI s T p) (eI s T (sJ g p).2) (.d (sJ g p).1.d):=by
 unfold eI;have a5:=c.ht;have Y:=wA;have q2:=kR;refine fJ func358 rfl ntmps358 results358 λw0 X m=>?_;apply aD;simp;apply aD;simp;refine aY (ι:=Nat) (λi=>aQ [(0,.bx 0 0),(1,.d (.str w)),(4,.bx 4 0),(5,.d (aJ (i:Int)))]) (λi=>aL [(0,.box false [.d (.str s),.d (.sl (T.map Tk.r)),.d (aJ ((T.length:Int)- p.l.length)),.d (.bool (!decide (p.e=0))),.d (.bool (decide (p.e=5)))]),(4,.box false [.d (aJ 0),.d (.str []),.d (aJ 0),.nl])]) (λi=>13<=i/\i<=26/\(∀j:Nat,13<=j->j<i->wordAt (j:Int)≠w)/\((i:Int)<26->wordAt (i:Int)=w)) ?_ λi v=>?_
 .apply aM;refine aO (ι:=Nat) (λi=>aQ [(0,.bx 0 0),(1,.d (.str w)),(4,.bx 4 0),(5,.d (aJ (i:Int)))]) (λi=>aL [(0,.box false [.d (.str s),.d (.sl (T.map Tk.r)),.d (aJ ((T.length:Int)- p.l.length)),.d (.bool (!decide (p.e=0))),.d (.bool (decide (p.e=5)))]),(4,.box false [.d (aJ 0),.d (.str []),.d (aJ 0),.nl])]) (λi=>13<=i/\i<=26/\∀j:Nat,13<=j->j<i->wordAt (j:Int)≠w) (λi=>26-i) 13 (aA m [0,1,4,5] [(0,0),(4,4)]) (⟨D2 _,bF,λj h1 N=>absurd N aE⟩) λi o=>?_;apply eG;rcases(by have:=o.2.1;omega:¬(i:Int)<26\/(i:Int)<26)with h26|h26
  .refine vG hT hW (λ_=>none) (by intro d;first|exact⟨rfl,λ_ h=>h⟩|(split<;>exact⟨rfl,λ_ h=>h⟩)) ?_;simp[h26];apply aK;simp[h26];apply bG;simp;refine aAV.mk i (aA m [0,1,4,5] [(0,0),(4,4)]) ?_;exact⟨o.1,o.2.1,o.2.2,λz=>absurd z h26⟩
  .have q1:=sX (k:=(i:Int)) aE h26;rw[C8]at q1;refine aU (og 10 (.plain ⟨.d (.sl tN),true⟩)) ?_;simp[h26,q1];refine⟨⟨Y,by have:=o.2.1;omega⟩,?_⟩;apply aK;simp;refine⟨λN=>?_,λN=>?_⟩
   .apply aG;simp;apply aM;apply aI;simp;refine⟨aE,?_⟩;refine QT.mk (i+1) (aA m [0,1,4,5] [(0,0),(4,4)]) ?_ ?_
    .refine⟨aE,aE,λj z1 z2=>?_⟩;by_cases e:j=i
     .rw[e];exact N
     .exact o.2.2 j z1 aE
    .omega
   .apply bG;simp;refine aAV.mk i (aA m [0,1,4,5] [(0,0),(4,4)]) ?_;exact⟨o.1,o.2.1,o.2.2,λ_=>N⟩
 .apply aF;apply aP;simp;refine⟨λh4=>?_,λh4=>?_⟩
  .have P:¬12<kindP p.peek:=λz=>by
    obtain⟨z1,z2⟩:=Kx (w:=p.peek) aE;refine v.2.2.1 (kindP p.peek).toNat aE aE ?_;rw[C6 aE,z1,hw]
   have a:sJ g p=Dp g p:=if_neg P;apply aF;have ha:=PN s T c p w hw n g V hn f;refine aU (oh 23 (eI s T (Dp g p).2) (.d (Dp g p).1.d)) ?_;simp;refine⟨by simpa using ha,?_⟩;apply aH;simp;exact aA m [0] [(0,0)] (by simp[a]) (by simp[a])
  .have hi:13<=i/\i<=25:=by have:=v.1;have:=v.2.1;omega
   have a0:=v.2.2.2 aE;have O:kindP p.peek=(i:Int):=by rw[hw,<-a0];exact Uy aE
   have y:p.peek≠[]:=λe=>by rw[Cr e]at O;omega
   have W:=sZ (T:=T) y;have a4:=f.pos y;have Z:p.took p.peek=p.skip:=cO (fK.2 ⟨y,rfl⟩);have a:sJ g p=cmdP g (i:Int) p.skip:=by unfold sJ;rw[O,Z,if_pos aE]
   have hl:=rQ y;have l:=f.skip;apply aG;simp;apply aD;simp;refine⟨aE,?_⟩;simp only[<-W];apply aD;simp;apply dA;simp;apply aM;refine aY (ι:=BC) (λ⟨b⟩=>aQ [(0,.bx 0 0),(4,.bx 4 0),(6,.bx 6 0),(33,.d (aJ (i:Int))),(34,.d (.bool b))]) (λ⟨b⟩=>aL [(0,.box false [.d (.str s),.d (.sl (T.map Tk.r)),.d (aJ ((T.length:Int)- p.skip.l.length)),.d (.bool (!decide (p.e=0))),.d (.bool (decide (p.e=5)))]),(4,.box false [.d (aJ 0),.d (.str []),.d (aJ 0),.nl]),(6,.box false [.d (aJ (i:Int)),.d (.str []),.d (aJ 0),.nl])]) (λ⟨b⟩=>b=true↔((i:Int)=13\/(i:Int)=14\/(i:Int)=17\/(i:Int)=18)) ?_ λ⟨b⟩ A=>?_
   .apply aP;simp;refine⟨λh9=>?_,λh9=>?_⟩
    .apply aG;simp;refine aAV.mk ⟨decide ((i:Int)=13)⟩ (aA m [0,4,6,33,34] [(0,0),(4,4),(6,6)]) ?_;simp[h9]
    .apply aP;simp;refine⟨λJ=>?_,λJ=>?_⟩
     .apply aG;simp;refine aAV.mk ⟨decide ((i:Int)=14)⟩ (aA m [0,4,6,33,34] [(0,0),(4,4),(6,6)]) ?_;simp[J]
     .apply aP;simp;refine⟨λK=>?_,λK=>?_⟩
      .apply aG;simp;refine aAV.mk ⟨decide ((i:Int)=17)⟩ (aA m [0,4,6,33,34] [(0,0),(4,4),(6,6)]) ?_;simp[K]
      .apply aI;simp;refine aAV.mk ⟨decide ((i:Int)=18)⟩ (aA m [0,4,6,33,34] [(0,0),(4,4),(6,6)]) ?_;simp only[decide_eq_true_eq];omega
   .apply aK;simp;refine⟨λD=>?_,λD=>?_⟩
    .have a1:=A.1 D;have t:=sE s T p.skip c l;refine aU (oh 40 (eI s T (nameP p.skip).2) (.d (.str (nameP p.skip).1))) ?_;simp;refine⟨t,?_⟩;apply aD;simp;apply aH;simp;have e:=uW (ex:=g) (k:=(i:Int)) (p:=p.skip) aE aE aE;rw[Dq aE aE]at e;refine bH (x:=(sJ g p).1.d) (by simp[a,e]) ?_;simp;exact aA m [0] [(0,0)] (hH:=by simp[a,e])
    .have a1:¬((i:Int)=13\/(i:Int)=14\/(i:Int)=17\/(i:Int)=18):=λq=>by simp[A.2 q]at D
     refine aY (ι:=BC) (λ⟨b⟩=>aQ [(0,.bx 0 0),(4,.bx 4 0),(6,.bx 6 0),(33,.d (aJ (i:Int))),(42,.d (.bool b))]) (λ⟨b⟩=>aL [(0,.box false [.d (.str s),.d (.sl (T.map Tk.r)),.d (aJ ((T.length:Int)- p.skip.l.length)),.d (.bool (!decide (p.e=0))),.d (.bool (decide (p.e=5)))]),(4,.box false [.d (aJ 0),.d (.str []),.d (aJ 0),.nl]),(6,.box false [.d (aJ (i:Int)),.d (.str []),.d (aJ 0),.nl])]) (λ⟨b⟩=>b=true↔((i:Int)=15\/(i:Int)=22)) ?_ λ⟨b⟩ B=>?_
     .apply aP;simp;refine⟨λL=>?_,λL=>?_⟩
      .apply aG;simp;refine aAV.mk ⟨decide ((i:Int)=15)⟩ (aA m [0,4,6,33,42] [(0,0),(4,4),(6,6)]) ?_;simp[L]
      .apply aI;simp;refine aAV.mk ⟨decide ((i:Int)=22)⟩ (aA m [0,4,6,33,42] [(0,0),(4,4),(6,6)]) ?_;simp only[decide_eq_true_eq];omega
     .apply aK;simp;refine⟨λE=>?_,λE=>?_⟩
      .have a2:=B.1 E;apply aF;have t:=sE s T p.skip c l;have gl:=(dE (l.good c)).1;refine aU (oh 46 (eI s T (nameP p.skip).2) (.d (.str (nameP p.skip).1))) ?_;simp;refine⟨t,?_⟩;have Q:=V.ok (nameP p.skip).2 aE l.name;refine fL.rd [[0,52],[0,52]] [[],[],[],[0],[52],[53],[],[6]] (oh 51 (eI s T (g (nameP p.skip).2).2) (.d (g (nameP p.skip).2).1.d)) ?_;simp;refine⟨by simpa using Q,?_⟩;apply aD;simp;apply aH;simp;have e:=GB (ex:=g) (k:=(i:Int)) (p:=p.skip) aE;rw[Dq aE aE]at e;refine bH (x:=(sJ g p).1.d) (by simp[a,e]) ?_;simp;exact aA m [0] [(0,0)] (hH:=by simp[a,e])
      .have a2:¬((i:Int)=15\/(i:Int)=22):=λq=>by simp[B.2 q]at E
       refine aY (ι:=BC) (λ⟨b⟩=>aQ [(0,.bx 0 0),(4,.bx 4 0),(6,.bx 6 0),(33,.d (aJ (i:Int))),(55,.d (.bool b))]) (λ⟨b⟩=>aL [(0,.box false [.d (.str s),.d (.sl (T.map Tk.r)),.d (aJ ((T.length:Int)- p.skip.l.length)),.d (.bool (!decide (p.e=0))),.d (.bool (decide (p.e=5)))]),(4,.box false [.d (aJ 0),.d (.str []),.d (aJ 0),.nl]),(6,.box false [.d (aJ (i:Int)),.d (.str []),.d (aJ 0),.nl])]) (λ⟨b⟩=>b=true↔((i:Int)=16\/(i:Int)=23)) ?_ λ⟨b⟩ C=>?_
       .apply aP;simp;refine⟨λM=>?_,λM=>?_⟩
        .apply aG;simp;refine aAV.mk ⟨decide ((i:Int)=16)⟩ (aA m [0,4,6,33,55] [(0,0),(4,4),(6,6)]) ?_;simp[M]
        .apply aI;simp;refine aAV.mk ⟨decide ((i:Int)=23)⟩ (aA m [0,4,6,33,55] [(0,0),(4,4),(6,6)]) ?_;simp only[decide_eq_true_eq];omega
       .apply aK;simp;refine⟨λF=>?_,λF=>?_⟩
        .have a3:=C.1 F;apply aF;have t:=sE s T p.skip c l;refine aU (oh 59 (eI s T (nameP p.skip).2) (.d (.str (nameP p.skip).1))) ?_;simp;refine⟨t,?_⟩;have r:=uT s T (nameP p.skip).2 c l.name;refine fL.rd [[0,66],[0,66]] [[],[],[],[0],[],[66],[67],[],[6]] (oh 64 (eI s T (localP (nameP p.skip).2).2) (.d (.str (localP (nameP p.skip).2).1))) ?_;simp;refine⟨r,?_⟩;apply aD;simp;apply aH;simp;have e:=EV (ex:=g) (k:=(i:Int)) (p:=p.skip) aE aE;rw[Dq aE aE]at e;refine bH (x:=(sJ g p).1.d) (by simp[a,e]) ?_;simp;exact aA m [0] [(0,0)] (hH:=by simp[a,e])
        .have a3:¬((i:Int)=16\/(i:Int)=23):=λq=>by simp[C.2 q]at F
         apply aP;simp;refine⟨λG=>?_,λG=>?_⟩
         .apply aF;have r:=uT s T p.skip c l;refine aU (oh 72 (eI s T (localP p.skip).2) (.d (.str (localP p.skip).1))) ?_;simp;refine⟨r,?_⟩;have u:=kH s T (localP p.skip).2 c l.local (i:Int) 2 6 (.inl (by rw[G];rfl)) (by rw[G];rfl);refine aU (oh 75 (eI s T (numeralP (i:Int) (localP p.skip).2).2) (.d (aJ (numeralP (i:Int) (localP p.skip).2).1))) ?_;simp;refine⟨u,?_⟩;apply aD;simp;apply aH;simp;have e:=Ay (ex:=g) (k:=(i:Int)) (p:=p.skip) aE aE aE;rw[MN aE]at e;refine bH (x:=(sJ g p).1.d) (by simp[a,e]) ?_;simp;exact aA m [0] [(0,0)] (hH:=by simp[a,e])
         .apply aP;simp;refine⟨λS=>?_,λS=>?_⟩
          .have r:=uT s T p.skip c l;refine aU (oh 80 (eI s T (localP p.skip).2) (.d (.str (localP p.skip).1))) ?_;simp;refine⟨r,?_⟩;apply aD;simp;apply aH;simp;have e:=uW (ex:=g) (k:=(i:Int)) (p:=p.skip) aE aE aE;rw[MN aE]at e;refine bH (x:=(sJ g p).1.d) (by simp[a,e]) ?_;simp;exact aA m [0] [(0,0)] (hH:=by simp[a,e])
          .apply aP;simp;refine⟨λH=>?_,λH=>?_⟩
           .have u:=kH s T p.skip c l (i:Int) 1 9 (.inl (by rw[H];rfl)) (by rw[H];rfl);refine aU (oh 85 (eI s T (numeralP (i:Int) p.skip).2) (.d (aJ (numeralP (i:Int) p.skip).1))) ?_;simp;refine⟨u,?_⟩;apply aD;simp;apply aH;simp;have e:=Ay (ex:=g) (k:=(i:Int)) (p:=p.skip) aE aE aE;rw[Dr aE]at e;refine bH (x:=(sJ g p).1.d) (by simp[a,e]) ?_;simp;exact aA m [0] [(0,0)] (hH:=by simp[a,e])
           .apply aP;simp;refine⟨λI=>?_,λI=>?_⟩
            .have u:=kH s T p.skip c l (i:Int) 1 99 (.inl (by rw[I];rfl)) (by rw[I];rfl);refine aU (oh 90 (eI s T (numeralP (i:Int) p.skip).2) (.d (aJ (numeralP (i:Int) p.skip).1))) ?_;simp;refine⟨u,?_⟩;apply aD;simp;apply aH;simp;have e:=Ay (ex:=g) (k:=(i:Int)) (p:=p.skip) aE aE aE;rw[Dr aE]at e;refine bH (x:=(sJ g p).1.d) (by simp[a,e]) ?_;simp;exact aA m [0] [(0,0)] (hH:=by simp[a,e])
            .apply aP;simp;refine⟨λU=>?_,λU=>?_⟩
             .have Q:=V.ok p.skip aE l;rw[Nd.d_eq]at Q;refine fL.rd [[0,98],[0,98]] [[],[],[],[0],[98],[99],[],[6]] (oh 97 (eI s T (g p.skip).2) (.d (g p.skip).1.d)) ?_;simp;refine⟨Q,?_⟩;apply aD;simp;apply aH;simp;have e:=GB (ex:=g) (k:=(i:Int)) (p:=p.skip) aE;rw[Dr aE]at e;refine bH (x:=(sJ g p).1.d) (by simp[a,e]) ?_;simp;exact aA m [0] [(0,0)] (hH:=by simp[a,e])
             .apply aG;simp;apply aD;simp;apply aH;exact absurd (show False by omega) id
theorem aDi{T:List Tk}(j:bT T){n:Nat}{c:PS->Nd×PS}(e:Fs T n c):Fs T n (Dp c):=λp h f=>by
 have d:=f.goodT j;unfold Dp;split
 .obtain⟨a,g⟩:=Fs.need f.local [61];have k:=(eS d).1;obtain⟨b,i⟩:=e ((localP p).2.need [61]) aE a;exact⟨b,by simp only;omega⟩
 .obtain⟨a,g⟩:=Fs.need f.place [61];have k:=(mX (p.l.length+1) p (A2 _) d).1;obtain⟨b,i⟩:=e ((placeP p).2.need [61]) aE a;exact⟨b,by simp only;omega⟩
theorem Fs.cmdA{T:List Tk}(b:bT T){k:Int}{p:PS}(f:lA T p):lA T (cmdA k p).2/\(cmdA k p).2.l.length<=p.l.length:=by
 have a:=f.goodT b;refine⟨?_,(uV a).1⟩;unfold Go.Eng.cmdA;split
 .exact f.local
 .split
  .exact f
  .exact f.name
theorem aDj{T:List Tk}(i:bT T){n:Nat}{d:PS->Nd×PS}(m:Fs T n d)(k:Int):Fs T n (cmdP d k):=λp h f=>by
 obtain⟨a,j⟩:=Fs.cmdA (k:=k) i f;have e:=a.goodT i;by_cases b:k=15\/k=22\/k=24
 .rw[GB b];obtain⟨l,o⟩:=m _ aE a;exact⟨l,by simp only;omega⟩
 .by_cases c:k=16\/k=23
  .rw[EV b c];have:=(eS e).1;exact⟨a.local,by simp only;omega⟩
  .by_cases g:k=19\/k=21\/k=25
   .rw[Ay b c g];have:=(fE (k:=k) e).1;exact⟨a.numeral,by simp only;omega⟩
   .rw[uW b c g];exact⟨a,j⟩
theorem Zm{T:List Tk}(b:bT T){n:Nat}{a:PS->Nd×PS}(c:Fs T n a):Fs T n (sJ a):=λp h f=>by
 unfold sJ;split
 .have g:=Kv (p:=p) (w:=p.peek);obtain⟨d,e⟩:=aDj b c (kindP p.peek) (p.took p.peek) aE f.took;exact⟨d,aE⟩
 .exact aDi b c p h f
theorem SG{ex bl:PS->Nd×PS}{p:PS}(h:kindP p.peek=11\/kindP p.peek=12):stmtB ex bl p=Vc ex bl (kindP p.peek) p:=by
 unfold Vc;split
 .rename_i z;exact EW rfl z.1 z.2
 .rename_i z;refine SC rfl h λq=>?_;cases e:(bl (ex (p.took p.peek)).2).2.is sElse with
  |false=>rfl
  |true=>exact absurd ⟨q,e⟩ z
theorem MO{ex bl:PS->Nd×PS}{p:PS}(h:¬(kindP p.peek=11\/kindP p.peek=12)):stmtB ex bl p=((sJ ex p).1,(sJ ex p).2.need [59]):=by
 unfold sJ;by_cases a:12<kindP p.peek
 .rw[if_pos a,Ku rfl a]
 .rw[if_neg a];unfold Dp;by_cases b:p.peek.take 1=[36]
  .rw[if_pos b,Cs rfl h a b]
  .rw[if_neg b,Ct rfl h a b]
theorem Fs.stmtB{T:List Tk}(k:bT T){n:Nat}{ex bl:PS->Nd×PS}(e:Fs T (n+1) ex)(c:Fs T n bl):Fs T (n+1) (stmtB ex bl):=λp h f=>by
 by_cases d:kindP p.peek=11\/kindP p.peek=12
 .rw[SG d];have m:=sF (lJ (p:=p) aE);obtain⟨b,g⟩:=e (p.took p.peek) aE f.took;obtain⟨a,i⟩:=c (ex (p.took p.peek)).2 aE b;unfold Vc;split
  .have o:=Kv (p:=(bl (ex (p.took p.peek)).2).2) (w:=sElse);obtain⟨j,l⟩:=c ((bl (ex (p.took p.peek)).2).2.took sElse) aE a.took;exact⟨j,by simp only;omega⟩
  .exact⟨a,by simp only;omega⟩
 .rw[MO d];obtain⟨b,g⟩:=Zm k e p h f;obtain⟨a,i⟩:=Fs.need b [59];exact⟨a,by simp only;omega⟩
theorem Zn{w:bA}:w=[105,102]↔kindP w=11:=by
 constructor
 .rintro rfl;decide
 .intro h;have:=(Kx (w:=w) aE).1;rw[h]at this;exact this.symm
theorem PQ{w:bA}:w=Zl↔kindP w=12:=by
 constructor
 .rintro rfl;decide
 .intro h;have:=(Kx (w:=w) aE).1;rw[h]at this;exact this.symm
theorem MP(s:bA)(T:List Tk)(c:Cm s T)(p:PS)(n:Nat)(ex bl:PS->Nd×PS)(d:RR s T (n+1) 368 ex)(t:RR s T n 307 bl)(i:p.l.length<n+1)(f:lA T p):iP prog 335 [.bx 0 0] (eI s T p) (eI s T (stmtB ex bl p).2) (.d (stmtB ex bl p).1.d):=by
 unfold eI;refine fJ func335 rfl ntmps335 results335 λu X m=>?_;apply aD;simp;refine cP (oh 6 (eI s T p) (.d (.str p.peek))) ?_;simp;refine⟨kG s T p c f,?_⟩;apply aF;apply aP;simp;refine⟨λg=>?_,λq r=>?_⟩
 .have b:kindP p.peek=11\/kindP p.peek=12:=g.imp Zn.1 PQ.1;have a:=SG (ex:=ex) (bl:=bl) b;have j:p.peek≠[]:=λe=>by rw[Cr e]at b;omega
  apply aF;have h:=PO s T c p p.peek (kindP p.peek) b PQ j n ex bl d t i f;refine aU (oh 15 (eI s T (Vc ex bl (kindP p.peek) p).2) (.d (Vc ex bl (kindP p.peek) p).1.d)) ?_;simp;refine⟨by simpa using h,?_⟩;apply aH;simp;exact aA m [0] [(0,0)] (by simp[a]) (by simp[a])
 .have b:¬(kindP p.peek=11\/kindP p.peek=12):=λz=>z.elim (λy=>q (Zn.2 y)) (λy=>r (PQ.2 y));have a:=MO (ex:=ex) (bl:=bl) b;apply aG;simp;apply aF;have k:=PP s T c p p.peek rfl (n+1) ex d i f;have o:=Zm c.hg d.fs p i f;refine aU (oh 18 (eI s T (sJ ex p).2) (.d (sJ ex p).1.d)) ?_;simp;refine⟨by simpa using k,?_⟩;apply aF;have l:=jE s T (sJ ex p).2 c o.1 [59] bC;refine aU (oh 20 (eI s T ((sJ ex p).2.need [59])) (.tup [])) ?_;simp;refine⟨l,?_⟩;apply aD;simp;apply aH;simp;exact aA m [0] [(0,0)] (by simp[a]) (by simp[a])
theorem Vf(n:Nat)(q:PS):(stmtP false n q).2=(stmtP true n q).2:=(stmtP_rl n q).1
theorem PR:∀n:Nat,PK n (stmtP false n)
 |0=>λq h _ _=>absurd h (A1 _)
 |n+1=>GC (exprO_stk false) (blockB_stk (stmtP_stk false n)) (BY (n+1)) (qZ (stmtP_stk false n) (rU n))
theorem PK.stmtT(n:Nat):PK n (stmtP true n):=λq h g e=>by
 rw[<-Vf];exact PR n q h g e
theorem SH{s:bA}{T:List Tk}(c:Cm s T):∀n:Nat,RR s T n 335 (stmtP true n)
 |0=>⟨λq h _=>absurd h (A1 _),λq h _=>absurd h (A1 _)⟩
 |n+1=>by
  have a:=RR.block c (SH c n) (PK.stmtT n);have b:=Zk c (n+1);exact⟨λq d f=>MP s T c q n _ _ b a d f,Fs.stmtB c.hg b.fs a.fs⟩
theorem RR.blockT{s:bA}{T:List Tk}(c:Cm s T)(n:Nat):RR s T n 307 (blockP true n):=RR.block c (SH c n) (PK.stmtT n)
end
section
attribute[local simp] aW bJ bE aR
attribute[local simp] lB.cond Nd.d_eq nd_t nd_dr nd_td ndsD aX bO nU dV dL
attribute[local simp] nG Ef Eg Eh ML
theorem MQ(n:Nat):nV n 285 (λq=>exprP false (q.l.length+1) q):=
 ⟨λq _ a=>(GA (q.l.length+1)).ok q (A2 _) a,λq b a=>(BY n).le q b a⟩
theorem GD:∀n,PK n (stmtP false n)
 |0=>λq h=>absurd h (A1 _)
 |n+1=>GC (exprO_stk false) (blockB_stk (stmtP_stk false n)) (BY (n+1)) (qZ (stmtP_stk false n) (rU n))
theorem GE:∀n:Nat,n<=1100000->nV n 235 (stmtP false n)
 |0,_=>⟨λq h _=>absurd h (A1 _),λq h _=>absurd h (A1 _)⟩
 |n+1,h=>by
  have c:nV n 160 (blockB (stmtP false n)):=
   ⟨λq b a=>MI q n (stmtP false n) (GE n aE) (GD n) b a aE,λq b a=>(qZ (stmtP_stk false n) (rU n)).le q b a⟩
  refine⟨λq b a=>?_,λq b a=>(rU (n+1)).le q b a⟩;exact PM q n (λq=>exprP false (q.l.length+1) q) (blockB (stmtP false n)) (MQ (n+1)) c b a
theorem nV.block(n:Nat)(h:n<=1100000):nV n 160 (blockP false n):=
 ⟨λq b a=>MI q n (stmtP false n) (GE n h) (GD n) b a aE,λq b a=>(qZ (stmtP_stk false n) (rU n)).le q b a⟩
theorem aBC(s:bA):defKind s=qA (λx=>decide (s=x)) (wordsL.take 7):=by
 unfold defKind;have a:(λi=>decide (wordsL.getD i []=s))=λi=>decide (s=wordsL.getD i []):=by funext i;rw[decide_eq_decide];exact eq_comm
 have e:=Bs (λx=>decide (s=x)) [] (wordsL.take 7);split
 .rename_i h;subst h;rfl
 .unfold qA;rw[<-e];rw[a];rfl
theorem IM{s:bA}: -1<=defKind s/\defKind s<=6:=by
 unfold defKind;split
 .omega
 .split
  .rename_i i e;have:=B9 e;simp at this;omega
  .omega
theorem GF{s:bA}(h:0<=defKind s):wordAt (defKind s)=s/\s≠[]:=by
 unfold defKind at*;split at h
 .omega
 .rename_i a;split at h
  .rename_i i e;have:=D3 e;simp only[decide_eq_true_eq]at this;rw[if_neg a];exact⟨this,a⟩
  .omega
theorem aBD{p:PS}(h:defKind p.peek<0):defP false p=(.mk 0 [] 0 [],p.fail 2):=by unfold defP;simp only[];rw[if_pos h]
theorem yW{p:PS}(h:¬defKind p.peek<0):p.skip=p.took (wordAt (defKind p.peek)):=by
 obtain⟨a,b⟩:=GF (s:=p.peek) aE;rw[a,cO (fK.2 ⟨b,rfl⟩)]
section
variable{p q:PS} {t:bA} {k:Int} (hk:defKind p.peek=k) (h:¬k<0) (hn:nameP (p.took (wordAt k))=(t,q))
include hk h hn
theorem Vg(a:k=5\/k=6):defP false p=(.mk k t 0 [(blockP false (q.l.length+1) q).1],(blockP false (q.l.length+1) q).2):=by
 subst hk;unfold defP;simp only[];rw[if_neg h,yW h,hn,if_pos a]
theorem aBE(a:k=1):defP false p=(.mk k t 0 (itemsF ((q.need [123]).l.length+1) [] (q.need [123])).1,(itemsF ((q.need [123]).l.length+1) [] (q.need [123])).2.need [125]):=by
 subst hk;unfold defP;simp only[];rw[if_neg h,yW h,hn,if_neg aE,if_pos a]
theorem aBF(a:k=0):defP false p=(.mk k t (numberP (q.need [61])).1 [],(numberP (q.need [61])).2.need [59]):=by
 subst hk;unfold defP;simp only[];rw[if_neg h,yW h,hn,if_neg aE,if_neg aE,if_pos a]
theorem Zo(a:k=2):defP false p=(.mk k t (numeralP 2 q).1 [],(numeralP 2 q).2.need [59]):=by
 subst hk;unfold defP;simp only[];rw[if_neg h,yW h,hn,if_neg aE,if_neg aE,if_neg aE,if_pos a]
theorem Zp(a:¬(k=5\/k=6))(b:¬k=1)(c:¬k=0)(d:¬k=2):defP false p=(.mk k t 0 [],q.need [59]):=by
 subst hk;unfold defP;simp only[];rw[if_neg h,yW h,hn,if_neg a,if_neg b,if_neg c,if_neg d]
end
theorem IN{a:List Nd}{q:PS}(h:q.e=0->q.peek=[125]):∀f,itemsF f a q=(a,q)
 |0=>rfl
 |f+1=>by
  rw[itemsF,if_pos];by_cases e:q.e=0
  .exact .inr (h e)
  .exact .inl e
theorem MR{a:List Nd}{q:PS}{f:Nat}(c:q.l.length<f)(h:q.e=0)(b:¬q.peek=[125]):
 itemsF f a q=itemsF (f-1) (a++[.mk 7 (nameP q).1 (numberP ((nameP q).2.need [61])).1 []]) ((numberP ((nameP q).2.need [61])).2.need [59]):=by
 obtain⟨k,rfl⟩:∃k,f=k+1:=⟨f-1,aE⟩;rw[itemsF,if_neg]
 .rfl
 .rintro(e|e)
  .exact e h
  .exact b e
theorem IP{q:PS}(h:bT q.l):((numberP ((nameP q).2.need [61])).2.need [59]).l.length<=q.l.length/\bT ((numberP ((nameP q).2.need [61])).2.need [59]).l/\
 (((numberP ((nameP q).2.need [61])).2.need [59]).e=0->((numberP ((nameP q).2.need [61])).2.need [59]).l.length<q.l.length):=by
 have b:=dE h;have c:=cE (s:=[61]) b.2.1;have d:=qK c.2;have f:=cE (s:=[59]) d.2.1;refine⟨aE,f.2,λe=>?_⟩;have a:=(need_e e).1;have g:=gQ a;have:(numberP ((nameP q).2.need [61])).2.need [59]=(numberP ((nameP q).2.need [61])).2.skip:=by rw[Ko a,cO a]
 rw[this];omega
theorem MS:∀x∈D7 26 tN,(aV x).length=1:=by
 intro x b;rw[Bi]at b;obtain⟨a,_,rfl⟩:=List.mem_map.1 b;rfl
theorem MT:D7 7 tN=(wordsL.take 7).map DV.str:=rfl
structure DnS where
 n:Int
 q:PS
theorem aDk(p:PS)(hg:bT p.l)(hb:p.l.length<=1000000):iP prog 86 [.bx 0 0] (dV p) (dV (defP false p).2) (.d (defP false p).1.d):=by
 unfold dV;refine fJ func86 rfl ntmps86 results86 λw0 X j=>?_;apply aD;simp;apply aF;have W:=tK (wordsL.take 7) p.peek;have q2:=kR;rw[<-aBC]at W;have hr:=IM (s:=p.peek);refine fL.rd [[0]] [[],[],[0]] (λ|8=>some (.gen ⟨[(0,0)],[],[],dV p,.d (.str p.peek)⟩)|9=>some<| .plain ⟨.d (aJ (defKind p.peek)),true⟩|_=>none) ?_;simp[MT];refine⟨⟨⟨⟨aE,MS⟩,nQ p⟩,by simpa using W⟩,?_⟩;apply aF;refine cP (oh 14 (dV p) (.d (.str p.peek))) ?_;simp[uU];refine⟨λ_=>nQ p,?_⟩;apply aK;simp;refine⟨λL=>?_,λL a0=>?_⟩
 .have L:defKind p.peek<0:=by
   rcases L with h|h
   .exact h
   .rw[h];decide
  refine cP (oh 18 (dV (p.fail 2)) (.tup [])) ?_;simp;refine⟨Aw p 2,?_⟩;apply aD;simp;apply aH;simp;have e:=aBD L;refine bH (x:=(defP false p).1.d) (by simp[e]) ?_;simp;exact aA j [0] [(0,0)] (hH:=by simp[e])
 .have c:¬defKind p.peek<0:=aE;apply aG;simp;apply aF;have c:¬defKind p.peek<0:=aE;have U:=sX (k:=defKind p.peek) aE aE;have S:=kS p (wordAt (defKind p.peek));refine aU (oh 24 (dV (p.took (wordAt (defKind p.peek)))) (.d (.bool (p.is (wordAt (defKind p.peek)))))) ?_;simp[U];refine⟨⟨⟨aE,aE⟩,S⟩,?_⟩;apply aF;have P:=Ck (p.took (wordAt (defKind p.peek)));have Z:=eM (s:=wordAt (defKind p.peek)) hg;have gl:=dE Z;have lt:(p.took (wordAt (defKind p.peek))).l.length<=p.l.length:=by unfold PS.took;split;exact eN;exact D2 _
  refine aU (oh 27 (dV (nameP (p.took (wordAt (defKind p.peek)))).2) (.d (.str (nameP (p.took (wordAt (defKind p.peek)))).1))) ?_;simp;refine⟨P,?_⟩;obtain⟨k,D⟩:∃k,defKind p.peek=k:=⟨_,rfl⟩;obtain⟨⟨t,q⟩,u⟩:∃x,nameP (p.took (wordAt (defKind p.peek)))=x:=⟨_,rfl⟩;simp only[u]at gl;have lq:q.l.length<=p.l.length:=aE;simp only[u];rw[D]at c u hr|-;refine aY (ι:=DnS) (λ⟨n,r⟩=>aQ [(0,.bx 0 0),(2,.bx 2 0),(4,.bx 4 0)]) (λ⟨n,r⟩=>aL [(0,.box false [.d (nU r.l),.d (aJ r.e)]),(2,.box false [.d (aJ 0),.d (.str []),.d (aJ 0),.nl]),(4,.box false [.d (aJ k),.d (.str t),.d (aJ n),.nl])]) (λ⟨n,r⟩=>defP false p=(.mk k t n [],r.need [59])) ?_ λ⟨n,r⟩ o=>?_
  .apply aD;simp;apply aM;refine aY (ι:=BC) (λ⟨b⟩=>aQ [(0,.bx 0 0),(2,.bx 2 0),(4,.bx 4 0),(29,.d (aJ k)),(30,.d (.bool b))]) (λ⟨b⟩=>aL [(0,.box false [.d (nU q.l),.d (aJ q.e)]),(2,.box false [.d (aJ 0),.d (.str []),.d (aJ 0),.nl]),(4,.box false [.d (aJ k),.d (.str t),.d (aJ 0),.nl])]) (λ⟨b⟩=>b=true↔(k=5\/k=6)) ?_ λ⟨b⟩ m=>?_
   .apply aP;simp;refine⟨λV=>?_,λV=>?_⟩
    .apply aG;simp;refine aAV.mk ⟨decide (k=5)⟩ (aA j [0,2,4,29,30] [(0,0),(2,2),(4,4)]) ?_;simp[V]
    .apply aI;simp;refine aAV.mk ⟨decide (k=6)⟩ (aA j [0,2,4,29,30] [(0,0),(2,2),(4,4)]) ?_;simp only[decide_eq_true_eq];omega
   .apply aK;simp;refine⟨λv=>?_,λv=>?_⟩
    .have C:=m.1 v;apply aF;have O:=(nV.block (q.l.length+1) aE).ok q (A2 _) gl.2.1;refine aU (oh 34 (dV (blockP false (q.l.length+1) q).2) (.d (blockP false (q.l.length+1) q).1.d)) ?_;simp;refine⟨by simpa using O,?_⟩;apply aD;simp;apply aH;simp;have e:=Vg D c u C;refine bH (x:=(defP false p).1.d) (by simp[e]) ?_;simp;exact aA j [0] [(0,0)] (hH:=by simp[e])
    .have C:¬(k=5\/k=6):=λz=>by simp[m.2 z]at v
     apply aP;simp;refine⟨λw=>?_,λw=>?_⟩
     .apply aF;have i:=lR q [123];have F:=cE (s:=[123]) gl.2.1;refine aU (oh 41 (dV (q.need [123])) (.tup [])) ?_;simp;refine⟨i,?_⟩;refine iU (fz:=false) (cs:=[.d (aJ k),.d (.str t),.d (aJ 0),.nl]) 4 3 1066 4 bF ⟨bC,bC,bC,?_⟩;simp;apply cR;refine aO (ι:=BlS) (λ⟨f,d,r⟩=>aQ [(0,.bx 0 0),(2,.bx 2 0),(4,.bx 4 0)]) (λ⟨f,d,r⟩=>aL [(0,.box false [.d (nU r.l),.d (aJ r.e)]),(2,.box false [.d (aJ 0),.d (.str []),.d (aJ 0),.nl]),(4,.box false [.d (aJ k),.d (.str t),.d (aJ 0),.ow 1066 0 d.length]),(1066,.row false 4 (d.map Nd.d))]) (λ⟨f,d,r⟩=>(r.e=0->r.l.length<f)/\bT r.l/\r.l.length<=p.l.length/\d.length+r.l.length<=p.l.length+(if r.e=0 then 0 else 1)/\itemsF ((q.need [123]).l.length+1) [] (q.need [123])=itemsF f d r) (λ⟨f,d,r⟩=>2*r.l.length+(if r.e=0 then 1 else 0)) ⟨(q.need [123]).l.length+1,[],q.need [123]⟩ (aA j [0,2,4] [(0,0),(2,2),(4,4),(1066,1066)]) (⟨λ_=>A2 _,F.2,by have:=F.1;omega,by have:=F.1;simp only[A0];omega,rfl⟩) λ⟨f,d,r⟩ a=>?_;apply eG;have Q:=nQ r;refine aU (oh 49 (dV r) (.d (.str r.peek))) ?_;simp[uU];refine⟨λ_=>Q,?_⟩;apply aK;simp;refine⟨λE Y=>?_,λg=>?_⟩
      .apply aG;simp;apply aM;apply aF;have ha:r.l.length<=p.l.length:=a.2.2.1;have a1:d.length+r.l.length<=p.l.length:=by have z:=a.2.2.2.1;simp only[E,if_true]at z;omega
       have l:=IP (q:=r) a.2.1;have G:=Ck r;have M:=dE (p:=r) a.2.1;have N:=cE (s:=[61]) M.2.1;refine aU (oh 53 (dV (nameP r).2) (.d (.str (nameP r).1))) ?_;simp;refine⟨G,?_⟩;apply aF;have H:=lR (nameP r).2 [61];refine aU (oh 56 (dV ((nameP r).2.need [61])) (.tup [])) ?_;simp;refine⟨H,?_⟩;apply aF;have I:=IF ((nameP r).2.need [61]) N.2;refine aU (oh 58 (dV (numberP ((nameP r).2.need [61])).2) (.d (aJ (numberP ((nameP r).2.need [61])).1))) ?_;simp;refine⟨I,?_⟩;apply aF;have J:=lR (numberP ((nameP r).2.need [61])).2 [59];refine aU (oh 61 (dV ((numberP ((nameP r).2.need [61])).2.need [59])) (.tup [])) ?_;simp;refine⟨J,?_⟩;apply aI;simp;refine⟨⟨aE,aE⟩,?_⟩;refine QT.mk ⟨f-1,d++[.mk 7 (nameP r).1 (numberP ((nameP r).2.need [61])).1 []],(numberP ((nameP r).2.need [61])).2.need [59]⟩ (aA j [0,2,4] [(0,0),(2,2),(4,4),(66,1066)]) ?_ ?_
       .refine⟨λe=>?_,l.2.1,?_,?_,?_⟩
        .show((numberP ((nameP r).2.need [61])).2.need [59]).l.length<f-1;have z:=a.1 E;have h:=l.2.2 e;omega
        .show((numberP ((nameP r).2.need [61])).2.need [59]).l.length<=p.l.length;omega
        .show(d++[Nd.mk 7 (nameP r).1 (numberP ((nameP r).2.need [61])).1 []]).length+((numberP ((nameP r).2.need [61])).2.need [59]).l.length<=p.l.length+(if((numberP ((nameP r).2.need [61])).2.need [59]).e=0 then 0 else 1);rw[A8,C4];by_cases e:((numberP ((nameP r).2.need [61])).2.need [59]).e=0
         .rw[if_pos e];have h:=l.2.2 e;omega
         .rw[if_neg e];omega
        .rw[a.2.2.2.2];exact MR (a.1 E) E Y
       .show 2*((numberP ((nameP r).2.need [61])).2.need [59]).l.length+(if((numberP ((nameP r).2.need [61])).2.need [59]).e=0 then 1 else 0)<2*r.l.length+(if r.e=0 then 1 else 0);rw[if_pos E];by_cases e:((numberP ((nameP r).2.need [61])).2.need [59]).e=0
        .rw[if_pos e];have h:=l.2.2 e;omega
        .rw[if_neg e];omega
      .apply bG;simp;apply aF;have K:=lR r [125];refine aU (oh 69 (dV (r.need [125])) (.tup [])) ?_;simp;refine⟨K,?_⟩;apply aD;simp;apply aH;simp;have e:defP false p=(.mk k t 0 d,r.need [125]):=by rw[aBE D c u w,a.2.2.2.2,IN g]
       refine bH (x:=(defP false p).1.d) (by simp[e]) ?_;simp;exact aA j [0] [(0,0)] (hH:=by simp[e])
     .apply aP;simp;refine⟨λy=>?_,λy=>?_⟩
      .apply aF;have i:=lR q [61];have F:=cE (s:=[61]) gl.2.1;refine aU (oh 74 (dV (q.need [61])) (.tup [])) ?_;simp;refine⟨i,?_⟩;have B:=IF (q.need [61]) F.2;refine aU (oh 76 (dV (numberP (q.need [61])).2) (.d (aJ (numberP (q.need [61])).1))) ?_;simp;refine⟨B,?_⟩;refine aAV.mk ⟨(numberP (q.need [61])).1,(numberP (q.need [61])).2⟩ (aA j [0,2,4] [(0,0),(2,2),(4,4)]) ?_;exact aBF D c u y
      .apply aP;simp;refine⟨λA=>?_,λA=>?_⟩
       .have B:=sD q 2 gl.2.1 bF;refine aU (oh 81 (dV (numeralP 2 q).2) (.d (aJ (numeralP 2 q).1))) ?_;simp;refine⟨B,?_⟩;refine aAV.mk ⟨(numeralP 2 q).1,(numeralP 2 q).2⟩ (aA j [0,2,4] [(0,0),(2,2),(4,4)]) ?_;exact Zo D c u A
       .apply aG;simp;refine aAV.mk ⟨0,q⟩ (aA j [0,2,4] [(0,0),(2,2),(4,4)]) ?_;exact Zp D c u C w y A
  .apply aF;have i:=lR r [59];refine aU (oh 84 (dV (r.need [59])) (.tup [])) ?_;simp;refine⟨i,?_⟩;apply aD;simp;apply aH;simp;refine bH (x:=(defP false p).1.d) (by simp[o]) ?_;simp;exact aA j [0] [(0,0)] (hH:=by simp[o])
end
section
attribute[local simp] aW bJ bE aR
attribute[local simp] lB.cond Nd.d_eq nd_t nd_dr nd_td ndsD aX bO dL eI Cn Co Cp pZ
theorem MU{p:PS}(h:defKind p.peek<0):defP true p=(.mk 0 [] 0 [],p.fail 2):=by unfold defP;simp only[];rw[if_pos h]
section
variable{p q:PS} {t:bA} {k:Int} (hk:defKind p.peek=k) (h:¬k<0) (hn:nameP p.skip=(t,q))
include hk h hn
theorem GG(a:k=5\/k=6):defP true p=(.mk k t 0 [(blockP true (q.l.length+1) q).1],(blockP true (q.l.length+1) q).2):=by
 subst hk;unfold defP;simp only[];rw[if_neg h,hn,if_pos a]
theorem MV(a:k=1):defP true p=(.mk k t 0 (itemsF ((q.need [123]).l.length+1) [] (q.need [123])).1,(itemsF ((q.need [123]).l.length+1) [] (q.need [123])).2.need [125]):=by
 subst hk;unfold defP;simp only[];rw[if_neg h,hn,if_neg aE,if_pos a]
theorem MW(a:k=0):defP true p=(.mk k t (numberP (q.need [61])).1 [],(numberP (q.need [61])).2.need [59]):=by
 subst hk;unfold defP;simp only[];rw[if_neg h,hn,if_neg aE,if_neg aE,if_pos a]
theorem IQ(a:k=2):defP true p=(.mk k t (numeralP 2 q).1 [],(numeralP 2 q).2.need [59]):=by
 subst hk;unfold defP;simp only[];rw[if_neg h,hn,if_neg aE,if_neg aE,if_neg aE,if_pos a]
theorem IR(a:¬(k=5\/k=6))(b:¬k=1)(c:¬k=0)(d:¬k=2):defP true p=(.mk k t 0 [],q.need [59]):=by
 subst hk;unfold defP;simp only[];rw[if_neg h,hn,if_neg a,if_neg b,if_neg c,if_neg d]
end
theorem lA.item{T:List Tk}{q:PS}(f:lA T q):lA T ((numberP ((nameP q).2.need [61])).2.need [59]):=f.name.need.number.need
theorem lA.items{T:List Tk}:∀(g:Nat) (a:List Nd) (p:PS),lA T p->lA T (itemsF g a p).2
 |0,_,_,f=>f
 |g+1,a,p,f=>by
  rw[itemsF];split
  .exact f
  .exact lA.items g _ _ f.item
theorem aBG(s:bA)(T:List Tk)(c:Cm s T)(p:PS)(f:lA T p):iP prog 242 [.bx 0 0] (eI s T p) (eI s T (defP true p).2) (.d (defP true p).1.d):=by
 unfold eI;have a9:=c.ht;have a4:=wA;have q2:=kR;obtain⟨w,hw⟩:∃w,p.peek=w:=⟨_,rfl⟩;refine fJ func242 rfl ntmps242 results242 λw0 X o=>?_;apply aD;simp;refine cP (oh 8 (eI s T p) (.d (.str p.peek))) ?_;simp;refine⟨kG s T p c f,?_⟩;simp only[hw];apply aD;simp;refine aY (ι:=Nat) (λi=>aQ [(0,.bx 0 0),(2,.bx 2 0),(3,.d (.str w)),(4,.d (aJ (i:Int)))]) (λi=>aL [(0,.box false [.d (.str s),.d (.sl (T.map Tk.r)),.d (aJ ((T.length:Int)- p.l.length)),.d (.bool (!decide (p.e=0))),.d (.bool (decide (p.e=5)))]),(2,.box false [.d (aJ 0),.d (.str []),.d (aJ 0),.nl])]) (λi=>i<=7/\(∀j:Nat,j<i->wordAt (j:Int)≠w)/\((i:Int)<7->wordAt (i:Int)=w)) ?_ λi J=>?_
 .apply aM;refine aO (ι:=Nat) (λi=>aQ [(0,.bx 0 0),(2,.bx 2 0),(3,.d (.str w)),(4,.d (aJ (i:Int)))]) (λi=>aL [(0,.box false [.d (.str s),.d (.sl (T.map Tk.r)),.d (aJ ((T.length:Int)- p.l.length)),.d (.bool (!decide (p.e=0))),.d (.bool (decide (p.e=5)))]),(2,.box false [.d (aJ 0),.d (.str []),.d (aJ 0),.nl])]) (λi=>i<=7/\∀j:Nat,j<i->wordAt (j:Int)≠w) (λi=>7-i) 0 (aA o [0,2,3,4] [(0,0),(2,2)]) (⟨bF,λj h2=>absurd h2 aE⟩) λi u=>?_;apply eG;rcases(by have:=u.1;omega:¬(i:Int)<7\/(i:Int)<7)with l|l
  .refine vG hT hW (λ_=>none) (by intro d;first|exact⟨rfl,λ_ h=>h⟩|(split<;>exact⟨rfl,λ_ h=>h⟩)) ?_;simp[l];apply aK;simp[l];apply bG;simp;refine aAV.mk i (aA o [0,2,3,4] [(0,0),(2,2)]) ?_;exact⟨u.1,u.2,λz=>absurd z l⟩
  .have q1:=sX (k:=(i:Int)) aE aE;rw[C8]at q1;refine aU (og 12 (.plain ⟨.d (.sl tN),true⟩)) ?_;simp[l,q1];refine⟨⟨a4,aE⟩,?_⟩;apply aK;simp;refine⟨λh3=>?_,λh3=>?_⟩
   .apply aG;simp;apply aM;apply aI;simp;refine⟨aE,?_⟩;refine QT.mk (i+1) (aA o [0,2,3,4] [(0,0),(2,2)]) ?_ ?_
    .refine⟨aE,λj z2=>?_⟩;by_cases e:j=i
     .rw[e];exact h3
     .exact u.2 j aE
    .omega
   .apply bG;simp;refine aAV.mk i (aA o [0,2,3,4] [(0,0),(2,2)]) ?_;exact⟨u.1,u.2,λ_=>h3⟩
 .apply aF;apply aP;simp;refine⟨λh5=>?_,λh5=>?_⟩
  .have a0:defKind p.peek<0:=B2 λz=>by
    obtain⟨z1,z2⟩:=GF (s:=p.peek) aE;have z3:=IM (s:=p.peek);refine J.2.1 (defKind p.peek).toNat aE ?_;rw[C6 aE,z1,hw]
   have ed:=MU a0;apply aD;simp;apply aD;simp;apply aH;simp;refine bH (x:=(defP true p).1.d) (by simp[ed]) ?_;simp;exact aA o [0] [(0,0)] (hH:=by simp[ed])
  .have hi:i<7:=by have:=J.1;omega
   have a5:=J.2.2 aE;have A:defKind p.peek=(i:Int):=by rw[hw,<-a5];exact Yz aE
   have M:p.peek≠[]:=(GF (s:=p.peek) aE).2;have a3:=sZ (T:=T) M;have a7:=f.pos M;have hl:=rQ M;have P:=f.skip;obtain⟨⟨t,q⟩,m⟩:∃x,nameP p.skip=x:=⟨_,rfl⟩;have C:lA T q:=by have:=P.name;rw[m]at this;exact this
   have y:¬(i:Int)<0:=aE;apply aG;simp;apply aD;simp;refine⟨aE,?_⟩;simp only[<-a3];apply aF;have Z:=sE s T p.skip c P;rw[m]at Z;refine aU (oh 36 (eI s T q) (.d (.str t))) ?_;simp;refine⟨Z,?_⟩;refine aY (ι:=DnS) (λ⟨n,r⟩=>aQ [(0,.bx 0 0),(2,.bx 2 0),(5,.bx 5 0)]) (λ⟨n,r⟩=>aL [(0,.box false [.d (.str s),.d (.sl (T.map Tk.r)),.d (aJ ((T.length:Int)- r.l.length)),.d (.bool (!decide (r.e=0))),.d (.bool (decide (r.e=5)))]),(2,.box false [.d (aJ 0),.d (.str []),.d (aJ 0),.nl]),(5,.box false [.d (aJ (i:Int)),.d (.str t),.d (aJ (n)),.nl])]) (λ⟨n,r⟩=>defP true p=(.mk (i:Int) t n [],r.need [59])/\lA T r) ?_ λ⟨n,r⟩ E=>?_
   .apply aD;simp;apply aM;apply aP;simp;refine⟨λa1=>?_,λa1=>?_⟩
    .apply aF;have B:=jE s T q c C [61] bC;refine aU (oh 42 (eI s T (q.need [61])) (.tup [])) ?_;simp;refine⟨B,?_⟩;have L:=Gx s T (q.need [61]) c C.need;refine aU (oh 44 (eI s T (numberP (q.need [61])).2) (.d (aJ (numberP (q.need [61])).1))) ?_;simp;refine⟨L,?_⟩;refine aAV.mk ⟨(numberP (q.need [61])).1,(numberP (q.need [61])).2⟩ (aA o [0,2,5] [(0,0),(2,2),(5,5)]) ?_;exact⟨MW A y m aE,C.need.number⟩
    .apply aP;simp;refine⟨λG=>?_,λG=>?_⟩
     .have L:=kH s T q c C 2 0 3 (.inl rfl) rfl;refine aU (oh 49 (eI s T (numeralP 2 q).2) (.d (aJ (numeralP 2 q).1))) ?_;simp;refine⟨L,?_⟩;refine aAV.mk ⟨(numeralP 2 q).1,(numeralP 2 q).2⟩ (aA o [0,2,5] [(0,0),(2,2),(5,5)]) ?_;exact⟨IQ A y m G,C.numeral⟩
     .apply aP;simp;refine⟨λH=>?_,λH=>?_⟩
      .apply aF;have B:=jE s T q c C [123] bC;have gn:=Fs.need C [123];have a8:=C.le;refine aU (oh 54 (eI s T (q.need [123])) (.tup [])) ?_;simp;refine⟨B,?_⟩;refine iU (fz:=false) (cs:=[.d (aJ (i:Int)),.d (.str t),.d (aJ 0),.nl]) 5 3 1079 4 bF ⟨bC,bC,bC,?_⟩;simp;apply cR;refine aO (ι:=BlS) (λ⟨g,v,r⟩=>aQ [(0,.bx 0 0),(2,.bx 2 0),(5,.bx 5 0)]) (λ⟨g,v,r⟩=>aL [(0,.box false [.d (.str s),.d (.sl (T.map Tk.r)),.d (aJ ((T.length:Int)- r.l.length)),.d (.bool (!decide (r.e=0))),.d (.bool (decide (r.e=5)))]),(2,.box false [.d (aJ 0),.d (.str []),.d (aJ 0),.nl]),(5,.box false [.d (aJ (i:Int)),.d (.str t),.d (aJ (0)),.ow 1079 0 v.length]),(1079,.row false 4 (v.map Nd.d))]) (λ⟨g,v,r⟩=>(r.e=0->r.l.length<g)/\lA T r/\r.l.length<=q.l.length/\v.length+r.l.length<=q.l.length+(if r.e=0 then 0 else 1)/\itemsF ((q.need [123]).l.length+1) [] (q.need [123])=itemsF g v r) (λ⟨g,v,r⟩=>2*r.l.length+(if r.e=0 then 1 else 0)) ⟨(q.need [123]).l.length+1,[],q.need [123]⟩ (aA o [0,2,5] [(0,0),(2,2),(5,5),(1079,1079)]) (⟨λ_=>A2 _,gn.1,gn.2,by have:=gn.2;simp only[A0];omega,rfl⟩) λ⟨g,v,r⟩ a=>?_;apply eG;have N:=kG s T r c a.2.1;refine aU (oh 62 (eI s T r) (.d (.str r.peek))) ?_;simp[uU];refine⟨λ_=>N,?_⟩;apply aK;simp;refine⟨λQ g2=>?_,λg=>?_⟩
       .apply aG;simp;apply aM;apply aF;have ha:r.l.length<=q.l.length:=a.2.2.1;have a6:v.length+r.l.length<=q.l.length:=by have z:=a.2.2.2.1;simp only[Q,if_true]at z;omega
        have K:=IP (q:=r) (a.2.1.good c);have S:=sE s T r c a.2.1;have F:=a.2.1.name;refine aU (oh 66 (eI s T (nameP r).2) (.d (.str (nameP r).1))) ?_;simp;refine⟨S,?_⟩;apply aF;have U:=jE s T (nameP r).2 c F [61] bC;refine aU (oh 69 (eI s T ((nameP r).2.need [61])) (.tup [])) ?_;simp;refine⟨U,?_⟩;apply aF;have V:=Gx s T ((nameP r).2.need [61]) c F.need;refine aU (oh 71 (eI s T (numberP ((nameP r).2.need [61])).2) (.d (aJ (numberP ((nameP r).2.need [61])).1))) ?_;simp;refine⟨V,?_⟩;apply aF;have W:=jE s T (numberP ((nameP r).2.need [61])).2 c F.need.number [59] bC;refine aU (oh 74 (eI s T ((numberP ((nameP r).2.need [61])).2.need [59])) (.tup [])) ?_;simp;refine⟨W,?_⟩;apply aI;simp;refine⟨⟨aE,aE⟩,?_⟩;refine QT.mk ⟨g-1,v++[.mk 7 (nameP r).1 (numberP ((nameP r).2.need [61])).1 []],((numberP ((nameP r).2.need [61])).2.need [59])⟩ (aA o [0,2,5] [(0,0),(2,2),(5,5),(79,1079)]) ?_ ?_
        .refine⟨λe=>?_,a.2.1.item,?_,?_,?_⟩
         .show((numberP ((nameP r).2.need [61])).2.need [59]).l.length<g-1;have z:=a.1 Q;have h:=K.2.2 e;omega
         .show((numberP ((nameP r).2.need [61])).2.need [59]).l.length<=q.l.length;omega
         .show(v++[Nd.mk 7 (nameP r).1 (numberP ((nameP r).2.need [61])).1 []]).length+((numberP ((nameP r).2.need [61])).2.need [59]).l.length<=q.l.length+(if((numberP ((nameP r).2.need [61])).2.need [59]).e=0 then 0 else 1);rw[A8,C4];by_cases e:((numberP ((nameP r).2.need [61])).2.need [59]).e=0
          .rw[if_pos e];have h:=K.2.2 e;omega
          .rw[if_neg e];omega
         .rw[a.2.2.2.2];exact MR (a.1 Q) Q g2
        .show 2*((numberP ((nameP r).2.need [61])).2.need [59]).l.length+(if((numberP ((nameP r).2.need [61])).2.need [59]).e=0 then 1 else 0)<2*r.l.length+(if r.e=0 then 1 else 0);rw[if_pos Q];by_cases e:((numberP ((nameP r).2.need [61])).2.need [59]).e=0
         .rw[if_pos e];have h:=K.2.2 e;omega
         .rw[if_neg e];omega
       .apply bG;simp;apply aF;have Y:=jE s T r c a.2.1 [125] bC;refine aU (oh 82 (eI s T (r.need [125])) (.tup [])) ?_;simp;refine⟨Y,?_⟩;apply aD;simp;apply aH;simp;have e:defP true p=(.mk (i:Int) t 0 v,r.need [125]):=by rw[MV A y m H,a.2.2.2.2,IN g]
        refine bH (x:=(defP true p).1.d) (by simp[e]) ?_;simp;exact aA o [0] [(0,0)] (hH:=by simp[e])
      .refine aY (ι:=BC) (λ⟨b⟩=>aQ [(0,.bx 0 0),(2,.bx 2 0),(5,.bx 5 0),(38,.d (aJ (i:Int))),(84,.d (.bool b))]) (λ⟨b⟩=>aL [(0,.box false [.d (.str s),.d (.sl (T.map Tk.r)),.d (aJ ((T.length:Int)- q.l.length)),.d (.bool (!decide (q.e=0))),.d (.bool (decide (q.e=5)))]),(2,.box false [.d (aJ 0),.d (.str []),.d (aJ 0),.nl]),(5,.box false [.d (aJ (i:Int)),.d (.str t),.d (aJ (0)),.nl])]) (λ⟨b⟩=>b=true↔((i:Int)=5\/(i:Int)=6)) ?_ λ⟨b⟩ D=>?_
       .apply aP;simp;refine⟨λl=>?_,λl=>?_⟩
        .apply aG;simp;refine aAV.mk ⟨decide ((i:Int)=5)⟩ (aA o [0,2,5,38,84] [(0,0),(2,2),(5,5)]) ?_;simp[l]
        .apply aI;simp;refine aAV.mk ⟨decide ((i:Int)=6)⟩ (aA o [0,2,5,38,84] [(0,0),(2,2),(5,5)]) ?_;simp only[decide_eq_true_eq];omega
       .apply aK;simp;refine⟨λI=>?_,λI=>?_⟩
        .have O:=D.1 I;apply aF;have a2:=(RR.blockT c (q.l.length+1)).ok q (A2 _) C;refine fL.rd [[0,91],[0,91]] [[],[],[],[0],[91],[92],[],[5]] (oh 90 (eI s T (blockP true (q.l.length+1) q).2) (.d (blockP true (q.l.length+1) q).1.d)) ?_;simp;refine⟨by simpa using a2,?_⟩;apply aD;simp;apply aH;simp;have e:=GG A y m O;refine bH (x:=(defP true p).1.d) (by simp[e]) ?_;simp;exact aA o [0] [(0,0)] (hH:=by simp[e])
        .have O:¬((i:Int)=5\/(i:Int)=6):=λq=>by simp[D.2 q]at I
         apply aG;simp;refine aAV.mk ⟨0,q⟩ (aA o [0,2,5] [(0,0),(2,2),(5,5)]) ?_;exact⟨IR A y m O H aE G,C⟩
   .apply aF;have B:=jE s T r c E.2 [59] bC;refine aU (oh 96 (eI s T (r.need [59])) (.tup [])) ?_;simp;refine⟨B,?_⟩;apply aD;simp;apply aH;simp;have e:=E.1;refine bH (x:=(defP true p).1.d) (by simp[e]) ?_;simp;exact aA o [0] [(0,0)] (hH:=by simp[e])
theorem lA.def{s:bA}{T:List Tk}(c:Cm s T){p:PS}(f:lA T p):lA T (defP true p).2:=by
 obtain⟨k,d⟩:∃k,defKind p.peek=k:=⟨_,rfl⟩;obtain⟨⟨t,q⟩,a⟩:∃x,nameP p.skip=x:=⟨_,rfl⟩;have b:lA T q:=by have:=f.skip.name;rw[a]at this;exact this
 by_cases h:k<0
 .rw[MU aE];exact f.fail (.inl rfl)
 .by_cases e:k=5\/k=6
  .rw[GG d h a e];exact((RR.blockT c (q.l.length+1)).fs q (A2 _) b).1
  .by_cases g:k=1
   .rw[MV d h a g];exact(lA.items _ _ _ b.need).need
   .by_cases i:k=0
    .rw[MW d h a i];exact b.need.number.need
    .by_cases j:k=2
     .rw[IQ d h a j];exact b.numeral.need
     .rw[IR d h a e g i j];exact b.need
end
section
attribute[local simp] aW bJ bE aR
attribute[local simp] lB.cond Nd.d_eq nd_t nd_dr nd_td ndsD aX
def EC(c:UInt8):Int->Bool:=if c=101 then isExprK else if c=112 then isPlaceK else if c=108 then isLocalK else isBlockK
theorem SI{c:UInt8}{n:Nat}(h:n<256):((c.toNat:Int)=(n:Int))↔c=UInt8.ofNat n:=by
 rw[<-UInt8.toNat_inj,UInt8.toNat_ofNat_of_lt' (show n<UInt8.size from h)];omega
theorem aD9{c:UInt8}:((c.toNat:Int)=101)↔c=101:=SI (n:=101) bF
theorem aEa{c:UInt8}:((c.toNat:Int)=112)↔c=112:=SI (n:=112) bF
theorem aEb{c:UInt8}:((c.toNat:Int)=108)↔c=108:=SI (n:=108) bF
theorem u46{c:UInt8}:((c.toNat:Int)=46)↔c=46:=SI (n:=46) bF
theorem mY(l:List Nd)(t:bA)(z:t.length<=100):Ok prog 359 [ndsD l,.str t] ⟨.d (.bool (kidsB l (t.map EC))),true⟩:=by
 refine bL func359 rfl ntmps359 results359 λA X k=>?_;apply aD;simp;apply aF;apply aP;simp;refine⟨λr=>?_,λr=>?_⟩
 .apply aD;simp;apply aH;simp;exact CX (by rw[List.length_map];omega)
 .apply aG;simp;apply eG;have o:l.length=t.length:=aE;have a:l.length=(t.map EC).length:=by simp[o]
  apply aI;simp;apply aM;refine aO (ι:=Nat) (λi=>aQ [(0,.d (ndsD l)),(1,.d (.str t)),(5,.d (aJ i))]) (λi=>aL []) (λi=>i<=l.length/\∀(j:Nat) (r:j<l.length) (y:j<t.length),j<i->EC t[j] l[j].kind=true) (λi=>l.length-i) 0 (aA k [0,1,5] []) (⟨C5 _,λj _ _ h=>absurd h (A1 _)⟩) λi m=>?_;apply aF;apply aP;simp;refine⟨λx=>?_,λx=>?_⟩
  .apply aG;simp;apply cR;apply aF;have s:i<l.length:=aE;have n:i<t.length:=aE;apply aI;simp[s];apply aD;simp;refine aY (ι:=BC) (λ⟨b⟩=>aQ [(0,.d (ndsD l)),(1,.d (.str t)),(5,.d (aJ i)),(7,.d (.bool b))]) (λ⟨b⟩=>aL []) (λ⟨b⟩=>b=EC t[i] l[i].kind) ?_ λ⟨b⟩ c=>?_
   .apply aD;simp[n];apply aM;apply aP;simp;refine⟨λp=>?_,λp=>?_⟩
    .apply aI;simp;refine aAV.mk ⟨isExprK l[i].kind⟩ (aA k [0,1,5,7] [] (by simp[isExprK])) ?_;simp[EC,aD9.1 p]
    .apply aP;simp;refine⟨λd=>?_,λd=>?_⟩
     .apply aI;simp;refine aAV.mk ⟨isPlaceK l[i].kind⟩ (aA k [0,1,5,7] [] (by simp[isPlaceK])) ?_;simp[EC,aEa.1 d]
     .apply aP;simp;refine⟨λf=>?_,λf=>?_⟩
      .apply aI;simp;refine aAV.mk ⟨isLocalK l[i].kind⟩ (aA k [0,1,5,7] [] (by simp[isLocalK])) ?_;simp[EC,aEb.1 f]
      .apply aG;simp;refine aAV.mk ⟨isBlockK l[i].kind⟩ (aA k [0,1,5,7] [] (by simp[isBlockK])) ?_;have u:¬t[i]=101:=λe=>p (aD9.2 e);have v:¬t[i]=112:=λe=>d (aEa.2 e);have w:¬t[i]=108:=λe=>f (aEb.2 e);simp[EC,u,v,w]
   .apply aP;simp;refine⟨λg=>?_,λg=>?_⟩
    .apply aD;simp;apply aH;simp;rw[<-C9,yP a];intro h;have:=h i s (by simpa using n);simp only[D0]at this;rw[<-c,g]at this;cases this
    .apply aG;simp;apply aI;simp;refine⟨aE,?_⟩;refine QT.mk (i+1) (aA k [0,1,5] []) ?_ ?_
     .refine⟨aE,λj q1 q2 q3=>?_⟩;rcases C2 j i with q|q
      .exact m.2 j q1 q2 q
      .have:j=i:=aE;subst this;rw[<-c];exact g
     .omega
  .apply bG;simp;apply aD;simp;apply aH;simp;rw[yP a];intro j q1 q2;simp only[D0];exact m.2 j q1 (by simpa using q2) aE
theorem MX:EC 101=isExprK:=rfl
theorem aEc:EC 112=isPlaceK:=rfl
theorem aEd:EC 108=isLocalK:=rfl
theorem Zq:EC 98=isBlockK:=rfl
theorem mZ(l:List Nd):kidsB l []=decide (l.length=0):=by cases l<;>simp[kidsB]
theorem Zr(x:Nd)(hl:x.kids.length<=9223372036854775806):Ok prog 336 [x.d] ⟨.d (.bool (shapedB x)),true⟩:=by
 refine bL func336 rfl ntmps336 results336 λw0 X a=>?_;apply aD;simp;apply aD;simp;apply dA;simp;apply aM;apply aP;simp;refine⟨λu=>?_,λu=>?_⟩
 .apply dA;simp;apply aM;refine aO (ι:=Nat) (λi=>aQ [(3,.d (ndsD x.kids)),(4,.d (aJ i))]) (λi=>aL []) (λi=>i<=x.kids.length/\∀(j:Nat) (h:j<x.kids.length),j<i->x.kids[j].kind=7) (λi=>x.kids.length-i) 0 (aA a [3,4] []) (⟨C5 _,λj _ h=>absurd h (A1 _)⟩) λi E=>?_;apply aF;apply aP;simp;refine⟨λh5=>?_,λh5=>?_⟩
  .apply aG;simp;apply cR;apply aF;have D:i<x.kids.length:=aE;apply aI;simp[D];apply aK;simp;refine⟨λV=>?_,λV=>?_⟩
   .apply aD;simp;apply aH;simp;unfold shapedB shapedK;rw[if_pos u,B0];intro h;have:=A6.1 h _ (B3 D);simp[isItemK]at this;exact V this
   .apply aG;simp;apply aI;simp;refine⟨aE,?_⟩;refine QT.mk (i+1) (aA a [3,4] []) ?_ ?_
    .refine⟨aE,λj q1 q2=>?_⟩;rcases C2 j i with q|q
     .exact E.2 j q1 q
     .have:j=i:=aE;subst this;exact V
    .omega
  .apply bG;simp;apply aD;simp;apply aH;simp;unfold shapedB shapedK;rw[if_pos u,A6];intro y Y;obtain⟨j,W,rfl⟩:=B5 Y;simp[isItemK,E.2 j W aE]
 .apply aP;simp;refine⟨λk=>?_,λk=>?_⟩
  .apply dA;simp;apply aM;refine aO (ι:=Nat) (λi=>aQ [(3,.d (ndsD x.kids)),(5,.d (aJ i))]) (λi=>aL []) (λi=>i<=x.kids.length/\∀(j:Nat) (h:j<x.kids.length),j<i->9<=x.kids[j].kind/\x.kids[j].kind<=25) (λi=>x.kids.length-i) 0 (aA a [3,5] []) (⟨C5 _,λj _ h=>absurd h (A1 _)⟩) λi g=>?_;apply aF;apply aP;simp;refine⟨λP=>?_,λP=>?_⟩
   .apply aG;simp;apply cR;apply aF;have D:i<x.kids.length:=aE;apply aI;simp[D];apply aK;simp;refine⟨λa3=>?_,λN O=>?_⟩
    .apply aD;simp;apply aH;simp;unfold shapedB shapedK;rw[if_neg u,if_pos k,B0];intro h;have:=A6.1 h _ (B3 D);simp[isStmtK]at this;omega
    .apply aG;simp;apply aI;simp;refine⟨aE,?_⟩;refine QT.mk (i+1) (aA a [3,5] []) ?_ ?_
     .refine⟨aE,λj q1 q2=>?_⟩;rcases C2 j i with q|q
      .exact g.2 j q1 q
      .have:j=i:=aE;subst this;exact⟨N,O⟩
     .omega
   .apply bG;simp;apply aD;simp;apply aH;simp;unfold shapedB shapedK;rw[if_neg u,if_pos k,A6];intro y Y;obtain⟨j,W,rfl⟩:=B5 Y;simp[isStmtK,g.2 j W aE]
  .refine aY (ι:=BC) (λ⟨b⟩=>aQ [(1,.bx 1 0),(3,.d (ndsD x.kids)),(9,.d (aJ (x.kind))),(46,.d (.bool b))]) (λ⟨b⟩=>aL [(1,.box false [.d (aJ x.kind),.d (.str x.text),.d (aJ x.n),.d (ndsD x.kids)])]) (λ⟨b⟩=>b=true↔(x.kind=5\/x.kind=6)) ?_ λ⟨b⟩ c=>?_
   .apply aP;simp;refine⟨λp=>?_,λp=>?_⟩
    .apply aG;simp;refine aAV.mk ⟨decide (x.kind=5)⟩ (aA a [1,3,9,46] [(1,1)]) ?_;simp[p]
    .apply aI;simp;refine aAV.mk ⟨decide (x.kind=6)⟩ (aA a [1,3,9,46] [(1,1)]) ?_;simp only[decide_eq_true_eq];omega
   .apply aK;simp;refine⟨λl=>?_,λl=>?_⟩
    .have Z:=c.1 l;apply aF;have F:=mY x.kids [98] bF;simp only[A9,B1,Zq]at F;refine aU (og 50 (.plain ⟨.d (.bool (kidsB x.kids [isBlockK])),true⟩)) ?_;simp;refine⟨F,?_⟩;apply aH;simp;unfold shapedB shapedK;repeat(first|rw[if_pos aE]|rw[if_neg aE])
     try rw[mZ]
     try simp
    .have Z:¬(x.kind=5\/x.kind=6):=λq=>by simp[c.2 q]at l
     refine aY (ι:=BC) (λ⟨b⟩=>aQ [(1,.bx 1 0),(3,.d (ndsD x.kids)),(9,.d (aJ (x.kind))),(51,.d (.bool b))]) (λ⟨b⟩=>aL [(1,.box false [.d (aJ x.kind),.d (.str x.text),.d (aJ x.n),.d (ndsD x.kids)])]) (λ⟨b⟩=>b=true↔(x.kind=9\/x.kind=15\/x.kind=22\/x.kind=24)) ?_ λ⟨b⟩ d=>?_
     .apply aP;simp;refine⟨λr=>?_,λr=>?_⟩
      .apply aG;simp;refine aAV.mk ⟨decide (x.kind=9)⟩ (aA a [1,3,9,51] [(1,1)]) ?_;simp[r]
      .apply aP;simp;refine⟨λs=>?_,λs=>?_⟩
       .apply aG;simp;refine aAV.mk ⟨decide (x.kind=15)⟩ (aA a [1,3,9,51] [(1,1)]) ?_;simp[s]
       .apply aP;simp;refine⟨λt=>?_,λt=>?_⟩
        .apply aG;simp;refine aAV.mk ⟨decide (x.kind=22)⟩ (aA a [1,3,9,51] [(1,1)]) ?_;simp[t]
        .apply aI;simp;refine aAV.mk ⟨decide (x.kind=24)⟩ (aA a [1,3,9,51] [(1,1)]) ?_;simp only[decide_eq_true_eq];omega
     .apply aK;simp;refine⟨λm=>?_,λm=>?_⟩
      .have a0:=d.1 m;apply aF;have G:=mY x.kids [101] bF;simp only[A9,B1,MX]at G;refine aU (og 57 (.plain ⟨.d (.bool (kidsB x.kids [isExprK])),true⟩)) ?_;simp;refine⟨G,?_⟩;apply aH;simp;unfold shapedB shapedK;repeat(first|rw[if_pos aE]|rw[if_neg aE])
       try rw[mZ]
       try simp
      .have a0:¬(x.kind=9\/x.kind=15\/x.kind=22\/x.kind=24):=λq=>by simp[d.2 q]at m
       apply aP;simp;refine⟨λQ=>?_,λQ=>?_⟩
       .apply aF;have H:=mY x.kids [112,101] bF;simp only[A9,B1,MX,aEc]at H;refine aU (og 61 (.plain ⟨.d (.bool (kidsB x.kids [isPlaceK,isExprK])),true⟩)) ?_;simp;refine⟨H,?_⟩;apply aH;simp;unfold shapedB shapedK;repeat(first|rw[if_pos aE]|rw[if_neg aE])
        try rw[mZ]
        try simp
       .apply aP;simp;refine⟨λS=>?_,λS=>?_⟩
        .apply aF;have I:=mY x.kids [101,98] bF;have M:=mY x.kids [101,98,98] bF;simp only[A9,B1,MX,Zq]at I M;refine aU (λ|65=>some<| .plain ⟨.d (.bool (kidsB x.kids [isExprK,isBlockK])),true⟩|68=>some<| .plain ⟨.d (.bool (kidsB x.kids [isExprK,isBlockK,isBlockK])),true⟩|_=>none) ?_;simp;refine⟨⟨I,λ_=>M⟩,?_⟩;apply aH;simp;unfold shapedB shapedK;repeat(first|rw[if_pos aE]|rw[if_neg aE])
         try rw[mZ]
         try simp
        .apply aP;simp;refine⟨λU=>?_,λU=>?_⟩
         .apply aF;have J:=mY x.kids [101,98] bF;simp only[A9,B1,MX,Zq]at J;refine aU (og 73 (.plain ⟨.d (.bool (kidsB x.kids [isExprK,isBlockK])),true⟩)) ?_;simp;refine⟨J,?_⟩;apply aH;simp;unfold shapedB shapedK;repeat(first|rw[if_pos aE]|rw[if_neg aE])
          try rw[mZ]
          try simp
         .refine aY (ι:=BC) (λ⟨b⟩=>aQ [(1,.bx 1 0),(3,.d (ndsD x.kids)),(9,.d (aJ (x.kind))),(74,.d (.bool b))]) (λ⟨b⟩=>aL [(1,.box false [.d (aJ x.kind),.d (.str x.text),.d (aJ x.n),.d (ndsD x.kids)])]) (λ⟨b⟩=>b=true↔(x.kind=16\/x.kind=23)) ?_ λ⟨b⟩ e=>?_
          .apply aP;simp;refine⟨λv=>?_,λv=>?_⟩
           .apply aG;simp;refine aAV.mk ⟨decide (x.kind=16)⟩ (aA a [1,3,9,74] [(1,1)]) ?_;simp[v]
           .apply aI;simp;refine aAV.mk ⟨decide (x.kind=23)⟩ (aA a [1,3,9,74] [(1,1)]) ?_;simp only[decide_eq_true_eq];omega
          .apply aK;simp;refine⟨λn=>?_,λn=>?_⟩
           .have a1:=e.1 n;apply aF;have K:=mY x.kids [108] bF;simp only[A9,B1,aEd]at K;refine aU (og 78 (.plain ⟨.d (.bool (kidsB x.kids [isLocalK])),true⟩)) ?_;simp;refine⟨K,?_⟩;apply aH;simp;unfold shapedB shapedK;repeat(first|rw[if_pos aE]|rw[if_neg aE])
            try rw[mZ]
            try simp
           .have a1:¬(x.kind=16\/x.kind=23):=λq=>by simp[e.2 q]at n
            refine aY (ι:=BC) (λ⟨b⟩=>aQ [(1,.bx 1 0),(3,.d (ndsD x.kids)),(9,.d (aJ (x.kind))),(79,.d (.bool b))]) (λ⟨b⟩=>aL [(1,.box false [.d (aJ x.kind),.d (.str x.text),.d (aJ x.n),.d (ndsD x.kids)])]) (λ⟨b⟩=>b=true↔(x.kind=26\/x.kind=27\/x.kind=28\/x.kind=29\/x.kind=30\/x.kind=31)) ?_ λ⟨b⟩ f=>?_
            .apply aP;simp;refine⟨λw=>?_,λw=>?_⟩
             .apply aG;simp;refine aAV.mk ⟨decide (x.kind=26)⟩ (aA a [1,3,9,79] [(1,1)]) ?_;simp[w]
             .apply aP;simp;refine⟨λz=>?_,λz=>?_⟩
              .apply aG;simp;refine aAV.mk ⟨decide (x.kind=27)⟩ (aA a [1,3,9,79] [(1,1)]) ?_;simp[z]
              .apply aP;simp;refine⟨λA=>?_,λA=>?_⟩
               .apply aG;simp;refine aAV.mk ⟨decide (x.kind=28)⟩ (aA a [1,3,9,79] [(1,1)]) ?_;simp[A]
               .apply aP;simp;refine⟨λB=>?_,λB=>?_⟩
                .apply aG;simp;refine aAV.mk ⟨decide (x.kind=29)⟩ (aA a [1,3,9,79] [(1,1)]) ?_;simp[B]
                .apply aP;simp;refine⟨λC=>?_,λC=>?_⟩
                 .apply aG;simp;refine aAV.mk ⟨decide (x.kind=30)⟩ (aA a [1,3,9,79] [(1,1)]) ?_;simp[C]
                 .apply aI;simp;refine aAV.mk ⟨decide (x.kind=31)⟩ (aA a [1,3,9,79] [(1,1)]) ?_;simp only[decide_eq_true_eq];omega
            .apply aK;simp;refine⟨λo=>?_,λo=>?_⟩
             .have a2:=f.1 o;apply aF;have L:=mY x.kids [101,101] bF;simp only[A9,B1,MX]at L;refine aU (og 87 (.plain ⟨.d (.bool (kidsB x.kids [isExprK,isExprK])),true⟩)) ?_;simp;refine⟨L,?_⟩;apply aH;simp;unfold shapedB shapedK;repeat(first|rw[if_pos aE]|rw[if_neg aE])
              try rw[mZ]
              try simp
             .have a2:¬(x.kind=26\/x.kind=27\/x.kind=28\/x.kind=29\/x.kind=30\/x.kind=31):=λq=>by simp[f.2 q]at o
              apply aG;simp;apply aD;simp;apply aH;simp;unfold shapedB shapedK;repeat(first|rw[if_pos aE]|rw[if_neg aE])
              try rw[mZ]
              try simp
theorem MY{k:Int}(b:0<=k)(c:k<37)(d:¬(k=0\/k=7\/k=32\/k=2\/k=19\/k=21\/k=25)):loAt k=0/\hiAt k=0:=by
 obtain⟨n,rfl⟩:=Int.eq_ofNat_of_zero_le b;have a:∀n:Nat,n<37->¬(n=0\/n=7\/n=32\/n=2\/n=19\/n=21\/n=25)->boundsL.getD n (0,0)=(0,0):=bF;have:=a n aE aE;exact⟨congrArg Prod.fst this,congrArg Prod.snd this⟩
theorem PT(k:Int)(p:0<=k)(r:k<37):Ok prog 360 [aJ k] ⟨.tup [.d (aJ (loAt k)),.d (aJ (hiAt k))],true⟩:=by
 refine Ok.two func360 jQ (c:=_) rfl ntmps360 bC results360 rfl λs X n=>?_;apply aD;simp;apply dA;simp;apply aM;refine aY (ι:=BC) (λ⟨b⟩=>aQ [(0,.d (aJ k)),(4,.d (aJ (k))),(5,.d (.bool b))]) (λ⟨b⟩=>aL []) (λ⟨b⟩=>b=true↔(k=0\/k=7)) ?_ λ⟨b⟩ f=>?_
 .apply aP;simp;refine⟨λi=>?_,λi=>?_⟩
  .apply aG;simp;refine aAV.mk ⟨decide (k=0)⟩ (aA n [0,4,5] []) ?_;simp[i]
  .apply aI;simp;refine aAV.mk ⟨decide (k=7)⟩ (aA n [0,4,5] []) ?_;simp only[decide_eq_true_eq];omega
 .apply aK;simp;refine⟨λg=>?_,λg=>?_⟩
  .have o:=f.1 g;apply aD;simp;apply aH;have e:loAt k= -999/\hiAt k=999:=by rcases o with h|h<;>rw[h]<;>exact⟨rfl,rfl⟩
   simp[e.1,e.2]
  .have o:¬(k=0\/k=7):=λq=>by simp[f.2 q]at g
   apply aP;simp;refine⟨λj=>?_,λj=>?_⟩
   .apply aD;simp;apply aH;have e:loAt k=0/\hiAt k=999:=by rw[j];exact⟨rfl,rfl⟩
    simp[e.1,e.2]
   .apply aP;simp;refine⟨λl=>?_,λl=>?_⟩
    .apply aD;simp;apply aH;have e:loAt k=0/\hiAt k=3:=by rw[l];exact⟨rfl,rfl⟩
     simp[e.1,e.2]
    .apply aP;simp;refine⟨λm=>?_,λm=>?_⟩
     .apply aD;simp;apply aH;have e:loAt k=2/\hiAt k=6:=by rw[m];exact⟨rfl,rfl⟩
      simp[e.1,e.2]
     .apply aP;simp;refine⟨λa=>?_,λa=>?_⟩
      .apply aD;simp;apply aH;have e:loAt k=1/\hiAt k=9:=by rw[a];exact⟨rfl,rfl⟩
       simp[e.1,e.2]
      .apply aP;simp;refine⟨λd=>?_,λd=>?_⟩
       .apply aD;simp;apply aH;have e:loAt k=1/\hiAt k=99:=by rw[d];exact⟨rfl,rfl⟩
        simp[e.1,e.2]
       .apply aG;simp;apply aD;simp;apply aH;have e:=MY p r aE;simp[e.1,e.2]
theorem MZ{t:bA}: -1<=iL t 0/\iL t 0<=t.length:=by
 unfold iL;rw[B6];have:=yM t;split<;>omega
theorem Na(t:bA):decide (iL t 0=(t.length:Int))=(decide (t≠[])&&decide (wordN t=t.length)):=by
 unfold iL;rw[B6];cases t with
 |nil=>rfl
 |cons c r=>
  by_cases h:0<wordN (c::r)
  .rw[if_pos h,C3];simp;omega
  .rw[if_neg h,C3];simp;omega
theorem IS(t:bA):fieldB t=true↔∃a b,t=a++46::b/\wholeB a true=true/\wholeB b true=true:=by
 constructor
 .intro h;unfold fieldB at h;cases e:cutAt 46 t with
  |none=>rw[e]at h;cases h
  |some q=>
   rw[e]at h;simp only[A3]at h;exact⟨q.1,q.2,Ga (a:=q.1) (b:=q.2) e,h.1,h.2⟩
 .rintro⟨a,b,rfl,c,d⟩;exact FX c d
theorem yX{a:bA}(h:wholeB a true=true):a≠[]/\wordN a=a.length/\isNameB a=true:=by
 unfold wholeB at h;simp only[A3,decide_eq_true_eq,Bool.not_true,Bool.false_or]at h;exact⟨h.1.1,h.1.2,h.2⟩
theorem Nb{a:bA}(b:a≠[])(c:wordN a=a.length)(d:isNameB a=true):wholeB a true=true:=by
 unfold wholeB;simp[b,c,d]
theorem Nc{a b:bA}(e:wholeB a true=true):iL (a++46::b) 0=(a.length:Int):=by
 obtain⟨c,d,_⟩:=yX e;have f:0<a.length:=C7.2 c;have:=Uw (t:=a) (s:=46::b) d aE rfl;unfold iL;rw[B6,this,if_pos f];simp
theorem Zs{t:bA}{k:Int}(c:iL t 0=k)(h:(k<0\/(t.length:Int)<=k)\/¬(((t[(if k<0 then 0 else k).toNat]?.getD 0).toNat:Int))=46):fieldB t=false:=by
 rw[<-C9,IS];rintro⟨a,b,rfl,d,_⟩;rw[Nc d]at c;subst c;rw[if_neg aE]at h;rw[A8,B4]at h;rcases h with(h|h)|h
 .omega
 .omega
 .apply h;simp
theorem Vh{t:bA}{n:Nat}(d:iL t 0=(n:Int))(B:n<t.length)(h:(((t[n]?.getD 0).toNat:Int))=46):fieldB t=(isNameB (t.take n)&&isNameB (t.drop (n+1))&&decide (iL t (n+1)=(t.length:Int))):=by
 have i:t[n]=46:=by rw[A5 B]at h;exact u46.1 h
 have x:t=t.take n++46::t.drop (n+1):=by rw[<-i,List.getElem_cons_drop,List.take_append_drop]
 have q:0<wordN t/\wordN t=n:=by
  unfold iL at d;rw[B6]at d;split at d<;>omega
 have k:(t.take n).length=n:=by rw[D1];omega
 have l:wordN (t.take n)=n:=by have:=Bf q.1;rw[q.2]at this;exact this
 rw[C3,IS];simp only[A3,decide_eq_true_eq];constructor
 .rintro⟨a,b,e,p,y⟩;have c:a.length=n:=by
   have:=Nc (b:=b) p;rw[<-e,d]at this;omega
  have w:t.take n=a:=by rw[e,<-c];simp
  have m:t.drop (n+1)=b:=by rw[e,<-c];simp
  obtain⟨C,D,r⟩:=yX p;obtain⟨s,u,v⟩:=yX y;refine⟨⟨by rw[w];exact r,by rw[m];exact v⟩,?_⟩;unfold iL;have j:=C7.2 s;rw[m,u,if_pos j,e,A8,B4];omega
 .rintro⟨⟨f,g⟩,o⟩;have A:(t.drop (n+1)).length=t.length-(n+1):=A7;refine⟨_,_,x,Nb (λz=>by rw[z]at f;cases f) (by rw[l,k]) f,Nb (λz=>by rw[z]at g;cases g) ?_ g⟩;unfold iL at o;split at o<;>omega
theorem Vi(x:Nd)(Z:0<=x.kind)(h1:x.kind<37)(hl:x.text.length<=1000000000):Ok prog 337 [x.d] ⟨.d (.bool (wordedB x)),true⟩:=by
 refine bL func337 rfl ntmps337 results337 λw0 X a=>?_;apply aD;simp;apply aF;have hb:=PT x.kind Z h1;refine aU (og 9 (.plain ⟨.tup [.d (aJ (loAt x.kind)),.d (aJ (hiAt x.kind))],true⟩)) ?_;simp[bM];refine⟨hb,?_⟩;apply aF;apply aP;simp;refine⟨λg=>?_,λE F=>?_⟩
 .apply aD;simp;apply aH;simp;unfold wordedB wordedK;rw[B0];intro h;simp only[A3,decide_eq_true_eq]at h;omega
 .apply aG;simp;apply dA;simp;apply aM;refine aY (ι:=BC) (λ⟨b⟩=>aQ [(1,.bx 1 0),(23,.d (aJ (x.kind))),(24,.d (.bool b))]) (λ⟨b⟩=>aL [(1,.box false [.d (aJ x.kind),.d (.str x.text),.d (aJ x.n),.d (ndsD x.kids)])]) (λ⟨b⟩=>b=true↔(x.kind=0\/x.kind=1\/x.kind=2\/x.kind=3\/x.kind=4\/x.kind=5\/x.kind=6\/x.kind=7\/x.kind=13\/x.kind=14\/x.kind=15\/x.kind=16\/x.kind=17\/x.kind=18\/x.kind=22\/x.kind=23\/x.kind=34)) ?_ λ⟨b⟩ c=>?_
  .apply aP;simp;refine⟨λP=>?_,λP=>?_⟩
   .apply aG;simp;refine aAV.mk ⟨decide (x.kind=0)⟩ (aA a [1,23,24] [(1,1)]) ?_;simp[P]
   .apply aP;simp;refine⟨λQ=>?_,λQ=>?_⟩
    .apply aG;simp;refine aAV.mk ⟨decide (x.kind=1)⟩ (aA a [1,23,24] [(1,1)]) ?_;simp[Q]
    .apply aP;simp;refine⟨λS=>?_,λS=>?_⟩
     .apply aG;simp;refine aAV.mk ⟨decide (x.kind=2)⟩ (aA a [1,23,24] [(1,1)]) ?_;simp[S]
     .apply aP;simp;refine⟨λU=>?_,λU=>?_⟩
      .apply aG;simp;refine aAV.mk ⟨decide (x.kind=3)⟩ (aA a [1,23,24] [(1,1)]) ?_;simp[U]
      .apply aP;simp;refine⟨λV=>?_,λV=>?_⟩
       .apply aG;simp;refine aAV.mk ⟨decide (x.kind=4)⟩ (aA a [1,23,24] [(1,1)]) ?_;simp[V]
       .apply aP;simp;refine⟨λj=>?_,λj=>?_⟩
        .apply aG;simp;refine aAV.mk ⟨decide (x.kind=5)⟩ (aA a [1,23,24] [(1,1)]) ?_;simp[j]
        .apply aP;simp;refine⟨λl=>?_,λl=>?_⟩
         .apply aG;simp;refine aAV.mk ⟨decide (x.kind=6)⟩ (aA a [1,23,24] [(1,1)]) ?_;simp[l]
         .apply aP;simp;refine⟨λm=>?_,λm=>?_⟩
          .apply aG;simp;refine aAV.mk ⟨decide (x.kind=7)⟩ (aA a [1,23,24] [(1,1)]) ?_;simp[m]
          .apply aP;simp;refine⟨λo=>?_,λo=>?_⟩
           .apply aG;simp;refine aAV.mk ⟨decide (x.kind=13)⟩ (aA a [1,23,24] [(1,1)]) ?_;simp[o]
           .apply aP;simp;refine⟨λp=>?_,λp=>?_⟩
            .apply aG;simp;refine aAV.mk ⟨decide (x.kind=14)⟩ (aA a [1,23,24] [(1,1)]) ?_;simp[p]
            .apply aP;simp;refine⟨λr=>?_,λr=>?_⟩
             .apply aG;simp;refine aAV.mk ⟨decide (x.kind=15)⟩ (aA a [1,23,24] [(1,1)]) ?_;simp[r]
             .apply aP;simp;refine⟨λs=>?_,λs=>?_⟩
              .apply aG;simp;refine aAV.mk ⟨decide (x.kind=16)⟩ (aA a [1,23,24] [(1,1)]) ?_;simp[s]
              .apply aP;simp;refine⟨λt=>?_,λt=>?_⟩
               .apply aG;simp;refine aAV.mk ⟨decide (x.kind=17)⟩ (aA a [1,23,24] [(1,1)]) ?_;simp[t]
               .apply aP;simp;refine⟨λu=>?_,λu=>?_⟩
                .apply aG;simp;refine aAV.mk ⟨decide (x.kind=18)⟩ (aA a [1,23,24] [(1,1)]) ?_;simp[u]
                .apply aP;simp;refine⟨λv=>?_,λv=>?_⟩
                 .apply aG;simp;refine aAV.mk ⟨decide (x.kind=22)⟩ (aA a [1,23,24] [(1,1)]) ?_;simp[v]
                 .apply aP;simp;refine⟨λw=>?_,λw=>?_⟩
                  .apply aG;simp;refine aAV.mk ⟨decide (x.kind=23)⟩ (aA a [1,23,24] [(1,1)]) ?_;simp[w]
                  .apply aI;simp;refine aAV.mk ⟨decide (x.kind=34)⟩ (aA a [1,23,24] [(1,1)]) ?_;simp only[decide_eq_true_eq];omega
  .apply aK;simp;refine⟨λe=>?_,λe=>?_⟩
   .have K:=c.1 e;apply aF;have J:=wB x.text aE;have M:=uR x.text 0 aE aE;refine fL.rd [[],[],[],[],[],[],[],[48],[48],[48]] [[],[],[44],[],[],[],[48]] (λ|44=>some<| .plain ⟨.d (.bool (isNameB x.text)),true⟩|48=>some<| .plain ⟨.d (aJ (iL x.text 0)),true⟩|_=>none) ?_;simp;refine⟨⟨J,λ_=>M⟩,?_⟩;apply aH;simp;rw[Na];unfold wordedB wordedK textB;simp only[E,F,decide_true,C1];repeat(first|rw[if_pos aE]|rw[if_neg aE])
    unfold wholeB;rw[Bool.and_comm];simp
   .have K:¬(x.kind=0\/x.kind=1\/x.kind=2\/x.kind=3\/x.kind=4\/x.kind=5\/x.kind=6\/x.kind=7\/x.kind=13\/x.kind=14\/x.kind=15\/x.kind=16\/x.kind=17\/x.kind=18\/x.kind=22\/x.kind=23\/x.kind=34):=λq=>by simp[c.2 q]at e
    refine aY (ι:=BC) (λ⟨b⟩=>aQ [(1,.bx 1 0),(23,.d (aJ (x.kind))),(54,.d (.bool b))]) (λ⟨b⟩=>aL [(1,.box false [.d (aJ x.kind),.d (.str x.text),.d (aJ x.n),.d (ndsD x.kids)])]) (λ⟨b⟩=>b=true↔(x.kind=9\/x.kind=19\/x.kind=20\/x.kind=33)) ?_ λ⟨b⟩ d=>?_
    .apply aP;simp;refine⟨λy=>?_,λy=>?_⟩
     .apply aG;simp;refine aAV.mk ⟨decide (x.kind=9)⟩ (aA a [1,23,54] [(1,1)]) ?_;simp[y]
     .apply aP;simp;refine⟨λz=>?_,λz=>?_⟩
      .apply aG;simp;refine aAV.mk ⟨decide (x.kind=19)⟩ (aA a [1,23,54] [(1,1)]) ?_;simp[z]
      .apply aP;simp;refine⟨λA=>?_,λA=>?_⟩
       .apply aG;simp;refine aAV.mk ⟨decide (x.kind=20)⟩ (aA a [1,23,54] [(1,1)]) ?_;simp[A]
       .apply aI;simp;refine aAV.mk ⟨decide (x.kind=33)⟩ (aA a [1,23,54] [(1,1)]) ?_;simp only[decide_eq_true_eq];omega
    .apply aK;simp;refine⟨λf=>?_,λf=>?_⟩
     .have L:=d.1 f;apply aF;have N:=uR x.text 0 aE aE;refine fL.rd [[],[],[],[61],[61],[61]] [[],[],[61]] (og 61 (.plain ⟨.d (aJ (iL x.text 0)),true⟩)) ?_;simp;refine⟨N,?_⟩;apply aH;simp;rw[Na];unfold wordedB wordedK textB;simp only[E,F,decide_true,C1];repeat(first|rw[if_pos aE]|rw[if_neg aE])
      unfold wholeB;simp
     .have L:¬(x.kind=9\/x.kind=19\/x.kind=20\/x.kind=33):=λq=>by simp[d.2 q]at f
      apply aP;simp;refine⟨λI=>?_,λI=>?_⟩
      .apply aF;have O:=uR x.text 0 aE aE;refine aU (og 70 (.plain ⟨.d (aJ (iL x.text 0)),true⟩)) ?_;simp;refine⟨O,?_⟩;obtain⟨k,G⟩:∃k,iL x.text 0=k:=⟨_,rfl⟩;rw[G];have a0: -1<=k/\k<=x.text.length:=by rw[<-G];exact MZ
       apply dA;simp;refine⟨λa1 a2=>by rw[if_neg aE];omega,?_⟩;apply aK;simp;refine⟨λH=>?_,λW Y i=>?_⟩
       .apply aD;simp;apply aH;simp;unfold wordedB wordedK textB;repeat(first|rw[if_pos aE]|rw[if_neg aE])
        rw[Zs G H];simp
       .rw[if_neg aE]at i;obtain⟨n,hn⟩:∃n:Nat,k=(n:Int):=⟨k.toNat,aE⟩;subst hn;have B:=wB (x.text.take n) (by rw[D1];omega);have C:=wB (x.text.drop (n+1)) (by rw[A7];omega);have D:=uR x.text (n+1) aE aE;apply aG;simp;apply aF;refine fQ (fW [1,5] [(1,1)] bF bF (by simp[a])) ?_;simp;refine fL.rd [[],[],[],[],[],[],[],[],[],[],[],[],[],[],[],[],[],[],[],[106],[106],[106]] [[],[],[],[],[92],[],[],[],[],[],[],[99],[],[],[],[],[],[],[106]] (λ|92=>some<| .plain ⟨.d (.bool (isNameB (x.text.take n))),true⟩|99=>some<| .plain ⟨.d (.bool (isNameB (x.text.drop (n+1)))),true⟩|106=>some<| .plain ⟨.d (aJ (iL x.text (n+1))),true⟩|_=>none) ?_;simp;refine⟨⟨⟨⟨⟨⟨⟨aE,B⟩,λ_=>aE⟩,λ_=>aE⟩,λ_=>C⟩,λ_ _=>aE⟩,λ_ _=>by simpa using D⟩,?_⟩;apply aH;simp;unfold wordedB wordedK textB;simp only[E,F,decide_true,C1];repeat(first|rw[if_pos aE]|rw[if_neg aE])
        rw[Vh G aE i]
      .apply aG;simp;apply aD;simp;apply aH;simp;unfold wordedB wordedK textB;simp only[E,F,decide_true,C1];repeat(first|rw[if_pos aE]|rw[if_neg aE])
       exact isEmpty_dec _
theorem Nf(x:Nd)(w:weighN x<=1000000000)(v:∀y∈x.kids,weighN y<=1000000000->Ok prog 308 [y.d] ⟨.d (.bool (rightN y)),true⟩):Ok prog 308 [x.d] ⟨.d (.bool (rightN x)),true⟩:=by
 refine bL func308 rfl ntmps308 results308 λz X k=>?_;have t:=weighN_eq x;have s:=jZ x;apply aD;simp;apply eG;have l:=Zr x aE;have e:=Vi x;simp at l;refine aU (λ|14=>some<| .plain ⟨.d (.bool (shapedB x)),true⟩|19=>some<| .plain ⟨.d (.bool (wordedB x)),true⟩|_=>none) ?_;simp;refine⟨⟨λ_ _=>l,λd m _=>by simpa using e d aE aE⟩,?_⟩;apply aK;simp;refine⟨λg=>?_,λd m n o=>?_⟩
 .apply aD;simp;apply aH;simp;rw[rightN_eq,B0];intro h;simp only[A3,decide_eq_true_eq]at h;rcases g with((g|g)|g)|g
  .omega
  .omega
  .rw[h.1.1.2]at g;cases g
  .rw[h.1.2]at g;cases g
 .apply aG;simp;apply dA;simp;apply aM;refine aO (ι:=Nat) (λi=>aQ [(1,.bx 1 0),(3,.d (aJ i))]) (λi=>aL [(1,.box false [.d (aJ x.kind),.d (.str x.text),.d (aJ x.n),.d (ndsD x.kids)])]) (λi=>i<=x.kids.length/\∀(j:Nat) (h:j<x.kids.length),j<i->rightN x.kids[j]=true) (λi=>x.kids.length-i) 0 (aA k [1,3] [(1,1)]) (⟨C5 _,λj _ h=>absurd h (A1 _)⟩) λi a=>?_;apply aF;apply aP;simp;refine⟨λp=>?_,λp=>?_⟩
  .apply aG;simp;apply cR;apply aF;have c:i<x.kids.length:=aE;have f:=v _ (B3 c) (by have:=kQ c;omega);simp at f;refine aU (og 34 (.plain ⟨.d (.bool (rightN x.kids[i])),true⟩)) ?_;simp[c];refine⟨f,?_⟩;apply aK;simp;refine⟨λb=>?_,λb=>?_⟩
   .apply aD;simp;apply aH;simp;rw[rightN_eq,B0];intro h;simp only[A3,decide_eq_true_eq]at h;have:=A6.1 h.2 _ (B3 c);rw[this]at b;cases b
   .apply aG;simp;apply aI;simp;refine⟨aE,?_⟩;refine QT.mk (i+1) (aA k [1,3] [(1,1)]) ?_ ?_
    .refine⟨aE,λj q1 q2=>?_⟩;rcases C2 j i with q|q
     .exact a.2 j q1 q
     .have:j=i:=aE;subst this;exact b
    .omega
  .apply bG;simp;apply aD;simp;apply aH;simp;rw[rightN_eq];simp only[A3,decide_eq_true_eq];refine⟨⟨⟨⟨d,aE⟩,n⟩,o⟩,A6.2 λy u=>?_⟩;obtain⟨j,r,rfl⟩:=B5 u;exact a.2 j r aE
theorem Vj(x:Nd):weighN x<=1000000000->Ok prog 308 [x.d] ⟨.d (.bool (rightN x)),true⟩:=
 nP (p:=λx=>weighN x<=1000000000->Ok prog 308 [x.d] ⟨.d (.bool (rightN x)),true⟩) (λ_ _ _ _ c a=>Nf _ a (λy b=>c y b)) x
theorem Vk(x:Nd)(c:weighN x<=1000000000):Ok prog 244 [x.d] ⟨.d (.bool (validB x)),true⟩:=by
 refine bL func244 rfl ntmps244 results244 λj X i=>?_;apply aD;simp;apply aF;have e:=Ix x c;have f:=Vj x c;have g:=Cj x;have h:=@uM x;refine aU (λ|13=>some<| .plain ⟨.d (aJ (depthN x)),true⟩|18=>some<| .plain ⟨.d (.bool (rightN x)),true⟩|22=>some<| .plain ⟨.d (.str (textT x)),true⟩|_=>none) ?_;simp;refine⟨⟨⟨λ_ _=>by simpa using e,λ_ _ _=>by simpa using f⟩,λa b _ d=>by simpa using g (h d a b) c⟩,?_⟩;apply aH;simp[validB];rw[show decide ((depthN x:Int)<=24)=decide (depthN x<=24) from by rw[decide_eq_decide];omega,show decide (((textT x).length:Int)<=1024)=decide ((textT x).length<=1024) from by rw[decide_eq_decide];omega]
theorem Vl(x:Nd)(b:weighN x<=1000000000):Ok prog 169 [x.d] ⟨.d (.str (printS x)),true⟩:=by
 refine bL func169 rfl ntmps169 results169 λg X f=>?_;apply aD;simp;apply eG;have e:=Vk x b;refine aU (og 4 (.plain ⟨.d (.bool (validB x)),true⟩)) ?_;simp;refine⟨by simpa using e,?_⟩;apply aK;simp;refine⟨λa=>?_,λa=>?_⟩
 .apply aD;simp;apply aH;simp[printS,a]
 .apply aG;simp;apply aF;have d:=valid_def a;have c:=Cj x d b;refine aU (og 7 (.plain ⟨.d (.str (textT x)),true⟩)) ?_;simp;refine⟨by simpa using c,?_⟩;apply aH;simp[printS,a]
end
def Wt(x:PS->Nd×PS):Prop:=∀p:PS,bT p.l->weighN (x p).1+41*(x p).2.l.length<=41*p.l.length+40/\bT (x p).2.l
theorem GH:Wt placeP:=λp h=>by
 have a:=dE h;have c:=qP h;unfold placeP;split
 .have b:=dE (dJ a.2.1);have t2:=qP (p:=(nameP p).2.skip) (dJ a.2.1);have s:=eN (p:=(nameP p).2);refine⟨?_,b.2.1⟩;simp only[weighN,weighL,A8,B4];omega
 .refine⟨?_,a.2.1⟩;simp only[weighN,weighL];omega
theorem aBH{b:PS->Nd×PS}(c:Wt b):Wt (factP b):=λp h=>by
 unfold factP;split
 .have a:=c p.skip (dJ h);have s:=eN (p:=p);have n:=iX (p:=(b p.skip).2) (s:=[41]);exact⟨by simp only;omega,(cE a.2).2⟩
 .split
  .have s:=eN (p:=p);exact⟨by simp only[weighN,weighL,A0];omega,dJ h⟩
  .split
   .split
    .have a:=fE (k:=32) h;exact⟨by simp only[weighN,weighL,A0];omega,a.2.1⟩
    .split
     .have a:=eS h;have t:(localP p).1.length<=17:=by
       by_cases q:p.peek.take 1=[36]
       .rw[(lI q).2];have:=nR h;simp only[A7];omega
       .rw[oL q];simp
      exact⟨by simp only[weighN,weighL];omega,a.2.1⟩
     .exact GH p h
   .exact GH p h
theorem IT{lv:Int}{x:PS->Nd×PS}(b:Wt x)(B:Nat):∀(f:Nat) (n:Nd) (p:PS),bT p.l->weighN n+41*p.l.length<=B->weighN (chainF lv x f n p).1+41*(chainF lv x f n p).2.l.length<=B/\bT (chainF lv x f n p).2.l
 |0,_,_,h,hn=>⟨hn,h⟩
 |f+1,n,p,h,hn=>by
  have o:=Al (lv:=lv) h;unfold chainF;split
  .exact⟨hn,h⟩
  .split
   .exact⟨by simp only;omega,o.2⟩
   .rename_i q;have c:=EU (lv:=lv) (q:=p) aE;have a:=b (opP lv p).2 o.2;refine IT b B f _ _ a.2 ?_;simp only[weighN,weighL,A0];omega
theorem IU{lv:Int}{x:PS->Nd×PS}(a:Wt x):Wt (chainP lv x):=λp h=>IT a _ _ _ _ (a p h).2 (a p h).1
theorem Zt{a:PS->Nd×PS}(b:Wt a):Wt (sumP a):=IU (IU (aBH b))
theorem Zu{c:PS->Nd×PS}(d:Wt c):Wt (exprB c):=λp h=>by
 have a:=Zt d p h;have o:=Al (lv:=1) a.2;by_cases q:0<=(opP 1 (sumP c p).2).1
 .have e:=EU q;have b:=Zt d (opP 1 (sumP c p).2).2 o.2;rw[Dn q];refine⟨?_,b.2⟩;simp only[weighN,weighL,A0];omega
 .rw[Do aE];exact⟨by simp only;omega,o.2⟩
theorem Ng:∀f,Wt (exprP false f)
 |0=>λp h=>⟨by
   have:weighN (default:Nd)<=40:=bF;show weighN default+41*p.l.length<=_;omega,h⟩
 |f+1=>λp h=>by
  rw[exprP,if_neg bC];exact Zu (Ng f) p h
def Ws(n:Nat)(x:PS->Nd×PS):Prop:=∀p:PS,p.l.length<n->bT p.l->weighN (x p).1+240*(x p).2.l.length<=240*p.l.length+90/\bT (x p).2.l/\((x p).2.e=0->weighN (x p).1+240*(x p).2.l.length<=240*p.l.length)
def Wb(n:Nat)(x:PS->Nd×PS):Prop:=∀p:PS,p.l.length<n->bT p.l->weighN (x p).1+240*(x p).2.l.length<=240*p.l.length+91/\bT (x p).2.l
theorem wG(a b:List Nd):weighL (a++b)=weighL a+weighL b:=by
 induction a with
 |nil=>simp[weighL]
 |cons x a ih=>simp only[List.cons_append,weighL,ih];omega
theorem IV{m:Nat}{d:PS->Nd×PS}(e:Ws m d)(B:Nat):∀(f:Nat) (c:List Nd) (p:PS),p.l.length<m->bT p.l->weighL c+240*p.l.length<=B+90->(p.e=0->weighL c+240*p.l.length<=B)->
 weighL (stmtsF d f c p).1+240*(stmtsF d f c p).2.l.length<=B+90/\bT (stmtsF d f c p).2.l
 |0,_,_,_,h,h1,_=>⟨h1,h⟩
 |f+1,c,p,hm,h,h1,h2=>by
  unfold stmtsF;split
  .exact⟨h1,h⟩
  .rename_i q;have g:p.e=0:=B2 λz=>q (.inl z);have a:=e p hm h;have b:=h2 g;refine IV e B f _ _ (by have:=a.1;omega) a.2.1 ?_ λz=>?_
   .rw[wG];simp only[weighL];have:=a.1;omega
   .rw[wG];simp only[weighL];have:=a.2.2 z;omega
theorem IW{m:Nat}{b:PS->Nd×PS}(c:Ws m b):Wb m (blockB b):=λp d h=>by
 have n:=iX (p:=p) (s:=[123]);have g:=(cE (s:=[123]) h).2;unfold blockB;simp only[];have a:=IV c (240*(p.need [123]).l.length) ((p.need [123]).l.length+1) [] (p.need [123]) aE g (by simp only[weighL];omega) (λ_=>by simp only[weighL];omega);have m:=iX (p:=(stmtsF b ((p.need [123]).l.length+1) [] (p.need [123])).2) (s:=[125]);refine⟨?_,(cE a.2).2⟩;simp only[weighN,A0];have:=a.1;omega
theorem aBI{c:PS->Nd×PS}(g:Wt c){k:Int}:∀p:PS,bT p.l->weighN (cmdP c k p).1+240*(cmdP c k p).2.l.length<=240*p.l.length+90/\bT (cmdP c k p).2.l:=λp h=>by
 have a:=uV (k:=k) h;have t:(cmdA k p).1.length<=17:=by
  unfold cmdA;split
  .by_cases q:p.peek.take 1=[36]
   .rw[(lI q).2];have:=nR h;simp only[A7];omega
   .rw[oL q];simp
  .split
   .simp
   .exact qP h
 by_cases d:k=15\/k=22\/k=24
 .rw[GB d];have b:=g (cmdA k p).2 a.2;refine⟨?_,b.2⟩;simp only[weighN,weighL];omega
 .by_cases e:k=16\/k=23
  .rw[EV d e];have b:=eS a.2;have t2:(localP (cmdA k p).2).1.length<=17:=by
    by_cases q:(cmdA k p).2.peek.take 1=[36]
    .rw[(lI q).2];have:=nR a.2;simp only[A7];omega
    .rw[oL q];simp
   refine⟨?_,b.2.1⟩;simp only[weighN,weighL];omega
  .by_cases f:k=19\/k=21\/k=25
   .rw[Ay d e f];have b:=fE (k:=k) a.2;refine⟨?_,b.2.1⟩;simp only[weighN,weighL];omega
   .rw[uW d e f];refine⟨?_,a.2⟩;simp only[weighN,weighL];omega
theorem PU{p:PS}(h:bT p.l)(a:(placeP p).2.e=0):(placeP p).2.l.length<p.l.length:=by
 unfold placeP at a|-;have c:(nameP p).2.e=0->(nameP p).2.l.length<p.l.length:=λz=>by
  cases q:isNameB p.peek with
  |false=>rw[rZ q]at z;exact absurd z (fail_e bF)
  |true=>
   have b:p.is p.peek=true:=fK.2 ⟨λe=>(by rw[e]at q;cases q),rfl⟩;have k:=gQ b;rw[wE q,cO b];simp only;omega
 have d:=dE h;split at a
 .rename_i z;rw[if_pos z];have f:(nameP p).2.skip.e=0:=nameP_stk _ a;have g:(nameP p).2.e=0:=f;have j:=(dE (p:=(nameP p).2.skip) (dJ d.2.1)).1;have i:=eN (p:=(nameP p).2);have:=c g;simp only;omega
 .rename_i z;rw[if_neg z];exact c a
theorem Zv{m:Nat}{b f:PS->Nd×PS}(y:Stk b)(o:Wt b)(x:Wb m f):Ws (m+1) (stmtB b f):=λp E h=>by
 obtain⟨k,j⟩:∃k,kindP p.peek=k:=⟨_,rfl⟩;by_cases v:k=11\/k=12
 .have c:=lJ (p:=p) aE;have l:=gQ c;rw[<-cO c]at l;have d:=o (p.took p.peek) (eM h);have r:=x (b (p.took p.peek)).2 (by have:=d.1;omega) d.2;by_cases g:k=11/\(f (b (p.took p.peek)).2).2.is sElse=true
  .rw[EW j g.1 g.2];have B:=gQ g.2;rw[<-cO g.2]at B;have u:=x ((f (b (p.took p.peek)).2).2.took sElse) (by have:=d.1;have:=r.1;omega) (eM r.2);refine⟨?_,u.2,λ_=>?_⟩<;>(simp only[weighN,weighL,A0];omega)
  .rw[SC j v (λq=>by
    cases z:(f (b (p.took p.peek)).2).2.is sElse with
    |false=>rfl
    |true=>exact absurd ⟨q,z⟩ g)]
   refine⟨?_,r.2,λ_=>?_⟩<;>(simp only[weighN,weighL,A0];omega)
 .by_cases w:12<k
  .have c:=lJ (p:=p) aE;have l:=gQ c;rw[<-cO c]at l;have u:=aBI o (k:=k) (p.took p.peek) (eM h);rw[Ku j w];have n:=iX (p:=(cmdP b k (p.took p.peek)).2) (s:=[59]);refine⟨?_,(cE u.2).2,λ_=>?_⟩<;>(simp only;omega)
  .by_cases i:p.peek.take 1=[36]
   .obtain⟨F,A⟩:=lI i;have c:p.is p.peek=true:=fK.2 ⟨λe=>(by rw[e]at i;cases i),rfl⟩;have l:=gQ c;rw[<-cO c]at l;have t:=nR h;rw[Cs j v w i,A];have C:=iX (p:=p.took p.peek) (s:=[61]);have d:=o ((p.took p.peek).need [61]) (cE (eM h)).2;have D:=iX (p:=(b ((p.took p.peek).need [61])).2) (s:=[59]);refine⟨?_,(cE d.2).2,λ_=>?_⟩<;>(simp only[weighN,weighL,A7];omega)
   .rw[Ct j v w i];have a:=GH p h;have G:=(mX (p.l.length+1) p (A2 _) h).1;have C:=iX (p:=(placeP p).2) (s:=[61]);have d:=o ((placeP p).2.need [61]) (cE a.2).2;have D:=iX (p:=(b ((placeP p).2.need [61])).2) (s:=[59]);refine⟨?_,(cE d.2).2,λz=>?_⟩
    .simp only[weighN,weighL,A0];omega
    .have z:((b ((placeP p).2.need [61])).2.need [59]).e=0:=z;have H:=PU h (need_e (y _ (need_e z).2)).2;simp only[weighN,weighL,A0];omega
theorem Nh:∀f,Ws f (stmtP false f)
 |0=>λp a _=>absurd a (A1 _)
 |f+1=>Zv (exprO_stk false) (λp h=>Ng _ p h) (IW (Nh f))
theorem Vm{p:PS}(z:(nameP p).2.e=0):(nameP p).2.l.length<p.l.length:=by
 cases q:isNameB p.peek with
 |false=>rw[rZ q]at z;exact absurd z (fail_e bF)
 |true=>
  have a:p.is p.peek=true:=fK.2 ⟨λe=>(by rw[e]at q;cases q),rfl⟩;have b:=gQ a;rw[wE q,cO a];simp only;omega
theorem IX(B:Nat):∀(f:Nat) (c:List Nd) (p:PS),bT p.l->weighL c+240*p.l.length<=B+90->(p.e=0->weighL c+240*p.l.length<=B)->
 weighL (itemsF f c p).1+240*(itemsF f c p).2.l.length<=B+90/\bT (itemsF f c p).2.l
 |0,_,_,h,h1,_=>⟨h1,h⟩
 |f+1,c,p,h,h1,h2=>by
  unfold itemsF;split
  .exact⟨h1,h⟩
  .rename_i q;have d:p.e=0:=B2 λz=>q (.inl z);have b:=h2 d;have a:=dE h;have t:=qP h;have e:=cE (s:=[61]) a.2.1;have v:=qK e.2;have g:=cE (s:=[59]) v.2.1;simp only[];refine IX B f _ _ g.2 ?_ λz=>?_
   .rw[wG];simp only[weighN,weighL];omega
   .have i:=numberP_stk _ (need_e z).2;have j:=Vm (need_e i).2;rw[wG];simp only[weighN,weighL];omega
theorem PV{p:PS}(h:bT p.l):weighN (defP false p).1<=240*p.l.length+300:=by
 have s:=eN (p:=p);have a:=dE (dJ h);have t:=qP (dJ h);unfold defP;simp only[];split
 .simp only[weighN,weighL,A0];omega
 .split
  .have b:=IW (Nh ((nameP p.skip).2.l.length+1)) (nameP p.skip).2 (A2 _) a.2.1;have d:weighN (blockP false ((nameP p.skip).2.l.length+1) (nameP p.skip).2).1<=240*(nameP p.skip).2.l.length+91:=by
    have:=b.1;show weighN (blockB (stmtP false ((nameP p.skip).2.l.length+1)) (nameP p.skip).2).1<=_;omega
   simp only[weighN,weighL];omega
  .split
   .have c:=cE (s:=[123]) a.2.1;have i:=IX (240*((nameP p.skip).2.need [123]).l.length) (((nameP p.skip).2.need [123]).l.length+1) [] ((nameP p.skip).2.need [123]) c.2 (by simp only[weighL];omega) (λ_=>by simp only[weighL];omega);have e:=i.1;simp only[weighN];omega
   .split
    .simp only[weighN,weighL];omega
    .split
     .simp only[weighN,weighL];omega
     .simp only[weighN,weighL];omega
theorem nC:∀(f:Nat) (s:bA) (i:Int),(scanF f s i).1.length<=f
 |0,_,_=>D2 _
 |f+1,s,i=>by
  unfold scanF;split
  .simp
  .split
   .have:=nC f (by assumption) (i+1);omega
   .split
    .simp
    .simp only[B4];exact Nat.succ_le_succ (nC f _ _)
theorem yY{s:bA}(d:s.length<=1024):weighN (defP false ⟨(scanS s).1,0⟩).1<=1000000000:=by
 have a:(scanS s).1.length<=s.length:=nC _ _ _;have b:=PV (p:=⟨(scanS s).1,0⟩) (iW _ _ _);have c:(PS.mk (scanS s).1 0).l.length=(scanS s).1.length:=rfl;omega
section
attribute[local simp] aW bJ bE aR
attribute[local simp] lB.cond Nd.d_eq nd_t nd_dr nd_td ndsD aX bO dL eI
theorem Ei{s:bA}{R:Nd×PS}(a:defP true ⟨(scanS s).1,0⟩=R)(b:s.length<=1024){x:Tk}{r:List Tk}(h:R.2.l=x::r):lY s=(zeroNd,x.at_,if R.2.e≠0 then R.2.e else 2):=by
 unfold lY;rw[if_neg aE];simp only[];rw[a,h]
theorem Ky{s:bA}{R:Nd×PS}(b:defP true ⟨(scanS s).1,0⟩=R)(c:s.length<=1024)(h:R.2.l=[])(a:¬R.2.e=0\/(scanS s).2<s.length):lY s=(zeroNd,(scanS s).2,2):=by
 unfold lY;rw[if_neg aE];simp only[];rw[b,h];simp only[];rw[if_pos a]
theorem PW{s:bA}{R:Nd×PS}(c:defP true ⟨(scanS s).1,0⟩=R)(d:s.length<=1024)(h:R.2.l=[])(a:¬(¬R.2.e=0\/(scanS s).2<s.length))(b:24<depthN R.1\/1024<(textT R.1).length):lY s=(zeroNd,0,4):=by
 unfold lY;rw[if_neg aE];simp only[];rw[c,h];simp only[];rw[if_neg a,if_pos b]
theorem PX{s:bA}{R:Nd×PS}(c:defP true ⟨(scanS s).1,0⟩=R)(d:s.length<=1024)(h:R.2.l=[])(a:¬(¬R.2.e=0\/(scanS s).2<s.length))(b:¬(24<depthN R.1\/1024<(textT R.1).length)):lY s=(R.1,0,0):=by
 unfold lY;rw[if_neg aE];simp only[];rw[c,h];simp only[];rw[if_neg a,if_neg b]
theorem aDl{s:bA}(a:s.length<=1024):Cm s (scanS s).1:=
 ⟨a,Nat.le_trans (nC _ _ _) a,λ_ h=>Gr h,iW _ _ _⟩
theorem Zw{T:List Tk}{q:PS}(f:lA T q)(h:¬(T.length:Int)- q.l.length<T.length):q.l=[]:=List.eq_nil_of_length_eq_zero aE
theorem Ni(s:bA)(T:List Tk)(j:(scanS s).1=T)(R:Nd×PS)(B:defP true ⟨T,0⟩=R):Ok prog 168 [.str s] ⟨.tup [.d (lY s).1.d,.d (aJ (lY s).2.1),.d (aJ (lY s).2.2)],false⟩:=by
 refine Aa hT func168 jQ (c:=_) rfl ntmps168 bC results168 bC (by rfl) λw0 X E=>?_;apply aD;simp;apply aF;apply aP;simp;refine⟨λQ=>?_,λQ=>?_⟩
 .apply aD;simp;apply aH;have e:lY s=(zeroNd,1024,4):=by unfold lY;rw[if_pos aE]
  simp[e,zeroNd]
 .apply aG;simp;apply aF;have K:=Gs s aE;rw[j]at K;have b:s.length<=1024:=aE;have u:=aDl b;rw[j]at u;have G:lA T ⟨T,0⟩:=⟨List.suffix_refl _,.inl rfl⟩;have t:=G.def u;rw[B]at t;have S:=t.le;have V:=u.ht;have a:defP true ⟨(scanS s).1,0⟩=R:=by rw[j];exact B
  refine aU (og 15 (.plain ⟨.tup [.d (.sl (T.map Tk.r)),.d (aJ (scanS s).2)],true⟩)) ?_;simp[bM];refine⟨K,?_⟩;apply aD;simp;apply aF;have J:=aBG s T u ⟨T,0⟩ G;rw[B]at J;refine aU (og 23 (.gen ⟨[(21,0)],[],[],eI s T R.2,.d R.1.d⟩)) ?_;simp;refine⟨by simpa using J,?_⟩;apply eG;refine fL.rd [] [] (λ_=>none) ?_;simp;apply aK;simp;refine⟨λH I=>?_,λg=>?_⟩
  .obtain⟨x,r,f⟩:=B7 (l:=R.2.l) (λe=>by rw[e]at I;simp at I);obtain⟨n,v,i,h,U⟩:=t.at f;have e:=Ei a b f;apply aF;apply aP;simp;refine⟨λA=>?_,λA=>?_⟩
   .apply aF;refine fQ (fW [0,2,7,8] [(2,2),(8,8),(21,21)] bF bF (by simp[E])) ?_;simp;refine fL.rd [[],[2],[2],[2],[2],[2],[2],[2],[2],[2],[2],[2]] [[],[],[],[],[],[],[],[],[],[],[],[],[2]] (λ_=>none) ?_;simp[v,h,Tk.r];refine⟨i,?_⟩;apply aH;simp[e,zeroNd,H,A]
   .apply aG;simp;apply aF;refine fQ (fW [0,2,7,8] [(2,2),(8,8),(21,21)] bF bF (by simp[E])) ?_;simp;refine fL.rd [[],[2],[2],[2],[2],[2],[2],[2],[2],[2],[2],[2]] [[],[],[],[],[],[],[],[],[],[],[],[],[2]] (λ_=>none) ?_;simp[v,h,Tk.r];refine⟨i,?_⟩;apply aH;have P:R.2.e=2:=by rcases t.err with z|z|z;exact absurd z H;exact z;exact absurd z A
    simp[e,zeroNd,P]
  .apply aG;simp;apply eG;refine fL.rd [] [] (λ_=>none) ?_;simp;apply aK;simp;refine⟨λW L=>?_,λk=>?_⟩
   .obtain⟨x,r,f⟩:=B7 (l:=R.2.l) (λe=>by rw[e]at L;simp at L);obtain⟨n,v,i,h,U⟩:=t.at f;have e:=Ei a b f;apply aF;refine fQ (fW [0,2,7,8] [(2,2),(8,8),(21,21)] bF bF (by simp[E])) ?_;simp;refine fL.rd [[],[2],[2],[2],[2],[2],[2],[2],[2],[2],[2],[2]] [[],[],[],[],[],[],[],[],[],[],[],[],[2]] (λ_=>none) ?_;simp[v,h,Tk.r];refine⟨i,?_⟩;apply aH;simp[e,zeroNd,W]
   .have d:R.2.l=[]:=Zw t (by
     by_cases z:R.2.e=0
     .have:=k z;omega
     .have:=g z;omega)
    apply aG;simp;apply aF;apply aP;simp;refine⟨λY=>?_,λw Z=>?_⟩
    .apply aD;simp;apply aH;have e:=Ky a b d (by rcases Y with z|z;exact .inl z;exact .inr aE);simp[e,zeroNd]
    .apply aG;simp;apply eG;have o:=defP_rl ⟨(scanS s).1,0⟩;have m:=o.2 (by rw[o.1,a];exact w);rw[a]at m;have q:=yY b;rw[m]at q;obtain⟨M,N,O⟩:=FZ (p:=⟨(scanS s).1,0⟩) (iW _ _ _) (by rw[o.1,a];exact w);rw[m]at M N O;have D:=uM M N O;have C:=Ix R.1 q;have F:=Cj R.1 D q;refine aU (λ|110=>some<| .plain ⟨.d (aJ (depthN R.1)),true⟩|114=>some<| .plain ⟨.d (.str (textT R.1)),true⟩|_=>none) ?_;simp;refine⟨⟨by simpa using C,λ_=>by simpa using F⟩,?_⟩;apply aK;simp;refine⟨λk6=>?_,λk7 k8=>?_⟩
     .apply aD;simp;apply aH;have e:=PW a b d (λz=>z.elim (λy=>y w) (λy=>aE)) aE;simp[e,zeroNd]
     .apply aG;simp;apply aD;simp;apply aH;have e:=PX a b d (λz=>z.elim (λy=>y w) (λy=>aE)) aE;simp[e]
theorem Vn(s:bA):Ok prog 168 [.str s] ⟨.tup [.d (parseS s).1.d,.d (aJ (parseS s).2.1),.d (aJ (parseS s).2.2)],false⟩:=by
 rw[<-Yx];exact Ni s _ rfl _ rfl
end
section
attribute[local simp] aW bJ bE aR
attribute[local simp] lB.cond Nd.d_eq nd_t nd_dr nd_td ndsD aX bO dL nG Ef Eg Eh ML D4
def jP(L:List Int)(i:Nat):List (Nat×bI):=[(0,.box false [.d (.sl (L.map aJ)),.d (aJ i)])]
def Nj(L:List Int):Prop:=∀n∈L, -9223372036854775808<=n/\n<=9223372036854775807
attribute[local simp] jP
theorem cC(l:List Int)(i m:Int)(h:0<m):0<=eA l i m/\eA l i m<m:=by
 unfold eA;split
 .omega
 .exact dP _ _ h
theorem fT(L:List Int)(i:Nat)(m:Int)(b:Nj L)(f:i<=3000000)(d:m≠0):iP prog 221 [.bx 0 0,.d (aJ m)] (jP L i) (jP L (i+1)) (.d (aJ (eA L i m))):=by
 unfold jP;refine iV func221 rfl ntmps221 results221 λg X e=>?_;apply aD;simp;apply aD;simp;refine⟨aE,?_⟩;apply aF;have c:=Ml L i m b d;have a:(i:Int)+1-1=i:=aE;refine fL.rd [] [[],[],[],[],[],[],[],[],[],[],[22]] (og 22 (.plain ⟨.d (aJ (eA L i m)),true⟩)) ?_;simp[a];refine⟨⟨aE,c⟩,?_⟩;apply aH;simp;exact aA e [4] [(0,0)]
theorem aBJ{L:List Int}{i:Nat}:(callL.map DV.str)[(eA L i 8).toNat]?.getD default=.str (callM L i):=by
 have h:=cC L i 8 bF;have a:(eA L i 8).toNat<callL.length:=by show _<8;omega
 unfold callM;rw[C0,A5 a];simp[A4,a]
theorem aDm{L:List Int}{i:Nat}:(ownL.map DV.str)[(eA L i 4).toNat]?.getD default=.str (ownM L i):=by
 have h:=cC L i 4 bF;have a:(eA L i 4).toNat<ownL.length:=by show _<4;omega
 unfold ownM;rw[C0,A5 a];simp[A4,a]
theorem aDn{L:List Int}{i:Nat}:(numsM.map aJ)[(eA L i 6).toNat]?.getD default=aJ (numsM.getD (eA L i 6).toNat 0):=by
 have h:=cC L i 6 bF;have a:(eA L i 6).toNat<numsM.length:=by show _<6;omega
 rw[C0,A5 a];simp[A4,a]
theorem kI(L:List Int)(i:Nat)(b:Nj L)(d:i<=3000000):iP prog 222 [.bx 0 0] (jP L i) (jP L (i+1)) (.d (.str (callM L i))):=by
 unfold jP;refine iV func222 rfl ntmps222 results222 λg X e=>?_;apply aD;simp;apply aF;have c:=fT L i 8 b d bF;have f:=cC L i 8 bF;have a:=aBJ (L:=L) (i:=i);simp[callL]at a;refine aU (oh 5 (jP L (i+1)) (.d (aJ (eA L i 8)))) ?_;simp[a];refine⟨⟨⟨⟨bF,by simpa using c⟩,aE⟩,aE⟩,?_⟩;apply aH;simp;exact aA e [2] [(0,0)]
theorem Cv(L:List Int)(i:Nat)(b:Nj L)(d:i<=3000000):iP prog 275 [.bx 0 0] (jP L i) (jP L (i+1)) (.d (.str (ownM L i))):=by
 unfold jP;refine iV func275 rfl ntmps275 results275 λg X e=>?_;apply aD;simp;apply aF;have c:=fT L i 4 b d bF;have f:=cC L i 4 bF;have a:=aDm (L:=L) (i:=i);simp[ownL]at a;refine aU (oh 5 (jP L (i+1)) (.d (aJ (eA L i 4)))) ?_;simp[a];refine⟨⟨⟨⟨bF,by simpa using c⟩,aE⟩,aE⟩,?_⟩;apply aH;simp;exact aA e [2] [(0,0)]
theorem oM(L:List Int)(i:Nat):(callM L i).length<=16:=by
 have h:=cC L i 8 bF;unfold callM;have:∀k:Nat,(callL.getD k []).length<=16:=λk=>by
  rw[A4];cases e:callL[k]? with
  |none=>simp
  |some w=>
   have:=List.mem_of_getElem? e;exact(by decide:∀w∈callL,w.length<=16) w this
 exact this _
theorem Zx(L:List Int)(i:Nat)(a:Nj L)(h:i<=2000000):iP prog 277 [.bx 0 0] (jP L i) (jP L (placeM L i).2) (.d (placeM L i).1.d):=by
 unfold jP;refine fJ func277 rfl ntmps277 results277 λl X f=>?_;apply aD;simp;apply eG;have g:=fT L i 3 a aE bF;refine aU (oh 5 (jP L (i+1)) (.d (aJ (eA L i 3)))) ?_;simp;refine⟨by simpa using g,?_⟩;apply aK;simp;refine⟨λd=>?_,λd=>?_⟩
 .apply aF;have b:=kI L (i+1) a aE;refine aU (oh 8 (jP L (i+1+1)) (.d (.str (callM L (i+1))))) ?_;simp;refine⟨by simpa using b,?_⟩;apply aH;simp;have e:placeM L i=(.mk 34 (callM L (i+1)) 0 [],i+2):=by unfold placeM;rw[if_pos d]
  refine bH (x:=(placeM L i).1.d) (by simp[e]) ?_;simp;exact aA f [0] [(0,0)] (hH:=by simp[e])
 .apply aG;simp;apply aF;have b:=kI L (i+1) a aE;refine aU (oh 11 (jP L (i+1+1)) (.d (.str (callM L (i+1))))) ?_;simp;refine⟨by simpa using b,?_⟩;apply aF;have c:=kI L (i+2) a aE;have j:=oM L (i+1);have k:=oM L (i+2);refine aU (oh 15 (jP L (i+2+1)) (.d (.str (callM L (i+2))))) ?_;simp;refine⟨⟨⟨aE,by simpa using c⟩,aE⟩,?_⟩;apply aH;simp;have e:placeM L i=(.mk 35 (callM L (i+1)++46::callM L (i+2)) 0 [],i+3):=by unfold placeM;rw[if_neg aE]
  refine bH (x:=(placeM L i).1.d) (by simp[e]) ?_;simp;exact aA f [0] [(0,0)] (hH:=by simp[e])
end
section
attribute[local simp] aW bJ bE aR
attribute[local simp] lB.cond Nd.d_eq nd_t nd_dr nd_td ndsD aX bO nG D4 dL Ef Eg Eh ML jP
def dI(L:List Int)(d i:Nat):Int:=if d=0\/L.length<i+1 then(eA L i 12).tmod 6 else eA L i 12
theorem gR(L:List Int)(d i:Nat):0<=dI L d i/\dI L d i<12/\(d=0->dI L d i<6):=by
 have h:=cC L i 12 bF;unfold dI;split
 .have:(eA L i 12).tmod 6=eA L i 12%6:=Int.tmod_eq_emod_of_nonneg h.1;rw[this];omega
 .omega
theorem kU{L:List Int}{d i:Nat}(h:dI L d i=0\/dI L d i=1):valueM L d i=(.mk 32 [] (numsM.getD (eA L (i+1) 6).toNat 0) [],i+2):=by
 unfold dI at h;unfold valueM;simp only[];rw[if_pos h]
theorem kV{L:List Int}{d i:Nat}(h:dI L d i=2):valueM L d i=(.mk 33 (ownM L (i+1)) 0 [],i+2):=by
 have a:¬(dI L d i=0\/dI L d i=1):=aE;unfold dI at h a;unfold valueM;simp only[];rw[if_neg a,if_pos h]
theorem gN{L:List Int}{d i:Nat}(h:dI L d i=3\/dI L d i=4):valueM L d i=placeM L (i+1):=by
 have a:¬(dI L d i=0\/dI L d i=1):=aE;have b:¬(dI L d i=2):=aE;unfold dI at h a b;unfold valueM;simp only[];rw[if_neg a,if_neg b,if_pos h]
theorem iY{L:List Int}{d i:Nat}(h:dI L d i=5):valueM L d i=(.mk 36 [] 0 [],i+1):=by
 have a:¬(dI L d i=0\/dI L d i=1):=aE;have b:¬(dI L d i=2):=aE;have c:¬(dI L d i=3\/dI L d i=4):=aE;unfold dI at h a b c;unfold valueM;simp only[];rw[if_neg a,if_neg b,if_neg c,if_pos h]
theorem uX{L:List Int}{e i:Nat}(h:6<=dI L (e+1) i):valueM L (e+1) i=(.mk (26+dI L (e+1) i-6) [] 0 [(valueM L e (i+1)).1,(valueM L e (valueM L e (i+1)).2).1],(valueM L e (valueM L e (i+1)).2).2):=by
 have a:¬(dI L (e+1) i=0\/dI L (e+1) i=1):=aE;have b:¬(dI L (e+1) i=2):=aE;have c:¬(dI L (e+1) i=3\/dI L (e+1) i=4):=aE;have d:¬(dI L (e+1) i=5):=aE;rw[valueM];have f:(if e+1=0\/L.length<i+1 then(eA L i 12).tmod 6 else eA L i 12)=dI L (e+1) i:=rfl;rw[f,if_neg a,if_neg b,if_neg c,if_neg d]
theorem Cw(L:List Int)(i:Nat):(placeM L i).2<=i+3:=by unfold placeM;split<;>simp
theorem Cx(L:List Int):∀(d i:Nat),(valueM L d i).2+1<=i+5*2^d:=λd=>by
 induction d with
 |zero=>
  intro i;obtain⟨l,_,h⟩:=gR L 0 i;have h:=h rfl;by_cases c:dI L 0 i=0\/dI L 0 i=1
  .rw[kU c];simp
  .by_cases f:dI L 0 i=2
   .rw[kV f];simp
   .by_cases g:dI L 0 i=3\/dI L 0 i=4
    .rw[gN g];have:=Cw L (i+1);omega
    .rw[iY aE];simp
 |succ e ih=>
  intro i;have m:1<=2^e:=B8;have g:2^(e+1)=2*2^e:=by rw[D5,D6]
  obtain⟨l,_,_⟩:=gR L (e+1) i;by_cases c:dI L (e+1) i=0\/dI L (e+1) i=1
  .rw[kU c];simp only;omega
  .by_cases f:dI L (e+1) i=2
   .rw[kV f];simp only;omega
   .by_cases j:dI L (e+1) i=3\/dI L (e+1) i=4
    .rw[gN j];have:=Cw L (i+1);omega
    .by_cases k:dI L (e+1) i=5
     .rw[iY k];simp only;omega
     .rw[uX aE];have a:=ih (i+1);have b:=ih (valueM L e (i+1)).2;simp only;omega
theorem Ej(L:List Int)(d i:Nat)(n:Nj L)(F:L.length<=1000000)(K:i+5*2^d<=2000000)(w:∀e,d=e+1->∀j,j+5*2^e<=2000000->iP prog 276 [.bx 0 0,.d (aJ (e:Nat))] (jP L j) (jP L (valueM L e j).2) (.d (valueM L e j).1.d)):iP prog 276 [.bx 0 0,.d (aJ (d:Nat))] (jP L i) (jP L (valueM L d i).2) (.d (valueM L d i).1.d):=by
 have C:1<=2^d:=B8;unfold jP;refine fJ func276 rfl ntmps276 results276 λO X c=>?_;apply aD;simp;apply aF;have s:=fT L i 12 n aE bF;refine aU (oh 8 (jP L (i+1)) (.d (aJ (eA L i 12)))) ?_;simp;refine⟨by simpa using s,?_⟩;refine aY (ι:=KC) (λ⟨k⟩=>aQ [(0,.bx 0 0),(1,.d (aJ (d:Nat))),(4,.bx 4 0),(5,.d (aJ k))]) (λ⟨k⟩=>aL [(0,.box false [.d (.sl (L.map aJ)),.d (aJ ((i+1:Nat):Int))]),(4,.box false [.d (aJ 0),.d (.str []),.d (aJ 0),.nl])]) (λ⟨k⟩=>dI L d i=k) ?_ λ⟨k⟩ a=>?_
 .apply aF;refine fL.rd [] [] (λ_=>none) ?_;simp;apply aK;simp;refine⟨λA=>?_,λA B=>?_⟩
  .apply aI;simp;refine aAV.mk ⟨(eA L i 12).tmod 6⟩ (aA c [0,1,4,5] [(0,0),(4,4)]) ?_;unfold dI;rw[if_pos aE]
  .apply aG;simp;refine aAV.mk ⟨eA L i 12⟩ (aA c [0,1,4,5] [(0,0),(4,4)]) ?_;unfold dI;rw[if_neg aE]
 .apply dA;simp;apply aM;refine aY (ι:=BC) (λ⟨b⟩=>aQ [(0,.bx 0 0),(1,.d (aJ (d:Nat))),(4,.bx 4 0),(5,.d (aJ k)),(25,.d (aJ (k))),(26,.d (.bool b))]) (λ⟨b⟩=>aL [(0,.box false [.d (.sl (L.map aJ)),.d (aJ ((i+1:Nat):Int))]),(4,.box false [.d (aJ 0),.d (.str []),.d (aJ 0),.nl])]) (λ⟨b⟩=>b=true↔(k=0\/k=1)) ?_ λ⟨b⟩ m=>?_
  .apply aP;simp;refine⟨λv=>?_,λv=>?_⟩
   .apply aG;simp;refine aAV.mk ⟨decide (k=0)⟩ (aA c [0,1,4,5,25,26] [(0,0),(4,4)]) ?_;simp[v]
   .apply aI;simp;refine aAV.mk ⟨decide (k=1)⟩ (aA c [0,1,4,5,25,26] [(0,0),(4,4)]) ?_;simp only[decide_eq_true_eq];omega
  .apply aK;simp;refine⟨λr=>?_,λr=>?_⟩
   .have J:=m.1 r;apply aF;have s:=fT L (i+1) 6 n aE bF;have M:=cC L ((i:Int)+1) 6 bF;have h:=aDn (L:=L) (i:=i+1);simp[numsM]at h;refine aU (oh 31 (jP L (i+1+1)) (.d (aJ (eA L ((i:Int)+1) 6)))) ?_;simp[h];refine⟨⟨⟨⟨bF,by simpa using s⟩,aE⟩,aE⟩,?_⟩;apply aH;simp;have e:=kU (L:=L) (d:=d) (i:=i) (by simp only at a;omega);refine bH (x:=(valueM L d i).1.d) (by simp[e,numsM]) ?_;simp;exact aA c [0] [(0,0)] (hH:=by simp[e])
   .have J:¬(k=0\/k=1):=λq=>by simp[m.2 q]at r
    apply aP;simp;refine⟨λD=>?_,λD=>?_⟩
    .apply aF;have h:=Cv L (i+1) n aE;refine aU (oh 38 (jP L (i+1+1)) (.d (.str (ownM L (i+1))))) ?_;simp;refine⟨by simpa using h,?_⟩;apply aH;simp;have e:=kV (L:=L) (d:=d) (i:=i) (by simp only at a;omega);refine bH (x:=(valueM L d i).1.d) (by simp[e]) ?_;simp;exact aA c [0] [(0,0)] (hH:=by simp[e])
    .refine aY (ι:=BC) (λ⟨b⟩=>aQ [(0,.bx 0 0),(1,.d (aJ (d:Nat))),(4,.bx 4 0),(5,.d (aJ k)),(25,.d (aJ (k))),(40,.d (.bool b))]) (λ⟨b⟩=>aL [(0,.box false [.d (.sl (L.map aJ)),.d (aJ ((i+1:Nat):Int))]),(4,.box false [.d (aJ 0),.d (.str []),.d (aJ 0),.nl])]) (λ⟨b⟩=>b=true↔(k=3\/k=4)) ?_ λ⟨b⟩ f=>?_
     .apply aP;simp;refine⟨λl=>?_,λl=>?_⟩
      .apply aG;simp;refine aAV.mk ⟨decide (k=3)⟩ (aA c [0,1,4,5,25,40] [(0,0),(4,4)]) ?_;simp[l]
      .apply aI;simp;refine aAV.mk ⟨decide (k=4)⟩ (aA c [0,1,4,5,25,40] [(0,0),(4,4)]) ?_;simp only[decide_eq_true_eq];omega
     .apply aK;simp;refine⟨λg=>?_,λg=>?_⟩
      .have t:=f.1 g;apply aF;have h:=Zx L (i+1) n aE;refine aU (oh 44 (jP L (placeM L (i+1)).2) (.d (placeM L (i+1)).1.d)) ?_;simp;refine⟨by simpa using h,?_⟩;apply aH;simp;have e:=gN (L:=L) (d:=d) (i:=i) (by simp only at a;omega);refine bH (x:=(valueM L d i).1.d) (by simp[e]) ?_;simp;exact aA c [0] [(0,0)] (hH:=by simp[e])
      .have t:¬(k=3\/k=4):=λq=>by simp[f.2 q]at g
       apply aP;simp;refine⟨λp=>?_,λp=>?_⟩
       .apply aD;simp;apply aH;simp;have e:=iY (L:=L) (d:=d) (i:=i) (by simp only at a;omega);refine bH (x:=(valueM L d i).1.d) (by simp[e]) ?_;simp;exact aA c [0] [(0,0)] (hH:=by simp[e])
       .apply aG;simp;apply aF;have E:6<=k/\k<12:=by have:=gR L d i;simp only at a;omega
        obtain⟨e,rfl⟩:∃e,d=e+1:=⟨d-1,by have:=gR L d i;simp only at a;omega⟩;have H:2^(e+1)=2*2^e:=by rw[D5,D6]
        have I:1<=2^e:=B8;have G:e<2^e:=Nat.lt_two_pow_self;have y:=w e rfl (i+1) aE;have N:=Cx L e (i+1);have z:=w e rfl (valueM L e (i+1)).2 aE;have u:((e:Int)+1)- 1=e:=aE;refine aU (oh 51 (jP L (valueM L e (i+1)).2) (.d (valueM L e (i+1)).1.d)) ?_;simp[u];refine⟨⟨aE,by simpa using y⟩,?_⟩;apply aF;refine fL.rd [[0,60],[0,60],[0,60],[0]] [[],[],[],[],[],[],[],[0],[60],[],[4]] (oh 59 (jP L (valueM L e (valueM L e (i+1)).2).2) (.d (valueM L e (valueM L e (i+1)).2).1.d)) ?_;simp[u];refine⟨⟨⟨⟨⟨aE,aE⟩,aE⟩,by simpa using z⟩,bF⟩,?_⟩;apply aH;simp;have o:=uX (L:=L) (e:=e) (i:=i) (by simp only at a;omega);rw[show dI L (e+1) i=k from a]at o;refine bH (x:=(valueM L (e+1) i).1.d) (by simp[o]) ?_;simp;exact aA c [0] [(0,0)] (hH:=by simp[o])
theorem uY(L:List Int)(c:Nj L)(a:L.length<=1000000):∀(d i:Nat),i+5*2^d<=2000000->iP prog 276 [.bx 0 0,.d (aJ (d:Nat))] (jP L i) (jP L (valueM L d i).2) (.d (valueM L d i).1.d):=λd=>by
 induction d with
 |zero=>exact λi b=>Ej L 0 i c a b λe f=>aE
 |succ d ihd=>
  intro i b;refine Ej L (d+1) i c a b λe f j g=>?_;have:e=d:=aE;subst this;exact ihd j g
end
end Go.Eng
