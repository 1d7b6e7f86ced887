/- Part 8 of the proof. No condition. -/
import Derived.Test.YtjdlbidjlfllcaaGreatDoorMG
open Go.Proofs
open Go.Proofs.Tryz
set_option linter.unusedVariables false
set_option linter.unusedSimpArgs false
set_option maxRecDepth 20000
set_option maxHeartbeats 4000000
namespace Go.Eng
section
attribute[local simp] kQ.cond Nd.d_eq nd_t nd_dr nd_td ndsD aZ bP mQ dN dD
theorem Cm(k:IntKind)(n:Int):(Value.int k n).oneCell'=true:=rfl
theorem Cn(x:ByteArray):(Value.string x).oneCell'=true:=rfl
theorem Co(x:Option Addr)(a b:Nat):(Value.slice x a b).oneCell'=true:=rfl
theorem KN(a b c d:Value):(∀(i:Nat) (x:i<4),([a,b,c,d][i]'(x)).oneCell'=true)↔(a.oneCell'=true/\b.oneCell'=true/\c.oneCell'=true/\d.oneCell'=true):=by
 constructor
 ·intro h;exact⟨h 0 bC,h 1 bC,h 2 bC,h 3 bC⟩
 ·rintro⟨h1,h2,h3,h4⟩ i hi
  match i,hi with
  |0,_=>exact h1
  |1,_=>exact h2
  |2,_=>exact h3
  |3,_=>exact h4
attribute[local simp] mE Cm Cn Co KN
theorem Sq{c:Prop}[Decidable c]{f:Nat->bB}{a b:PS}{x:Nat}(h:f 0=.box false [.d (.sl (b.l.map Tk.d)),.d (aI b.e)]):
 bW f (if c then [(0,.box false [.d (.sl (a.l.map Tk.d)),.d (aI a.e)])]else []) x=if x=0 then .box false [.d (.sl ((if c then a else b).l.map Tk.d)),.d (aI (if c then a else b).e)]else f x:=by
 by_cases hc:c
 ·simp only[hc,if_true,bW,cE]
 ·simp only[hc,if_false,bW];split
  ·rename_i e;rw[e];exact h
  ·rfl
structure KC where
 k:Int
structure StS where
 x:Nd
 q:PS
theorem NX(p:PS)(n:Nat)(ex bl:PS->Nd×PS)(hE:mR (n+1) 182 ex)(hB:mR n 125 bl)(hn:p.l.length<n+1)(hg:bM p.l):iG prog 162 [.bx 0 0] (dN p) (dN (stmtB ex bl p).2) (.d (stmtB ex bl p).1.d):=by
 unfold dN;refine iG.cell hT func162 bY (c:=_) rfl ntmps162 aM results162 λw0 X hp=>?_;apply aD;simp;refine cJ (λ|7=>some (.gen ⟨[(0,0)],[],[],dN p,.d (.str p.peek)⟩)|_=>none) ?_;simp;refine⟨mI p,?_⟩;apply aD;simp;refine aY (ι:=KC) (λ⟨k⟩=>aR [(0,.bx 0 0),(2,.bx 2 0),(3,.d (.str p.peek)),(4,.d (aI k))]) (λ⟨k⟩=>aL [(0,.box false [.d (mQ p.l),.d (aI p.e)]),(2,.box false [.d (aI 0),.d (.str []),.d (aI 0),.nl])]) (λ⟨k⟩=>kindP p.peek=k) ?_ λ⟨k⟩ hc5=>?_
 ·apply aV;simp;refine⟨λh3=>?_,λh3=>?_⟩
  ·have hi:=rI wordsL p.peek;have q2:=jV;rw[<-Ye h3]at hi;refine aP (λ|12=>some<| .plain ⟨.d (aI (kindP p.peek)),true⟩|_=>none) ?_;simp[yT];refine⟨⟨aE,hi⟩,?_⟩;refine XG.mk ⟨kindP p.peek⟩ (aA hp [0,2,3,4] [(0,0),(2,2)]) ?_;rfl
  ·apply aF;simp;refine XG.mk ⟨-1⟩ (aA hp [0,2,3,4] [(0,0),(2,2)]) ?_;exact Av h3
 ·apply aD;simp;refine aY (ι:=StS) (λ⟨x,q⟩=>aR [(0,.bx 0 0),(2,.bx 2 0),(5,.bx 5 0)]) (λ⟨x,q⟩=>aL [(0,.box false [.d (mQ q.l),.d (aI q.e)]),(2,.box false [.d (aI 0),.d (.str []),.d (aI 0),.nl]),(5,.box false [.d (aI x.kind),.d (.str x.text),.d (aI x.n),.d (ndsD x.kids)])]) (λ⟨x,q⟩=>stmtB ex bl p=(x,q.need [59])) ?_ λ⟨x,q⟩ hc22=>?_
  ·apply aO;apply aV;simp;refine⟨λg=>?_,λg1 g2=>?_⟩
   ·apply aG;have ip:=kP (p:=p) aE;have lp:=gE ip;rw[<-cH ip]at lp;have gp:=dY (s:=p.peek) hg;refine aP (λ|39=>some (.gen ⟨[(0,0)],[],[],dN (p.took p.peek),.d (.bool (p.is p.peek))⟩)|_=>none) ?_;simp;refine⟨jX p p.peek,?_⟩;refine hZ (fz:=false) (cs:=[.d (aI k),.d (.str []),.d (aI 0),.nl]) 5 3 1048 4 bC ⟨aM,aM,aM,?_⟩;simp;apply aG;have he:=hE.ok (p.took p.peek) aE gp;have le:=hE.le (p.took p.peek) aE gp;have hb:=hB.ok (ex (p.took p.peek)).2 aE le.2;have lb:=hB.le (ex (p.took p.peek)).2 aE le.2;refine eW.rd [[0,47],[0,47],[47],[47],[0,47],[47],[0,47],[0],[],[5],[5],[0,5,47,48,1048],[5],[5],[48],[48]] [[],[],[],[0],[],[0],[],[47],[48,1048],[],[48],[],[],[48],[],[5]] (λ|43=>some (.gen ⟨[(0,0)],[],[],dN (ex (p.took p.peek)).2,.d (ex (p.took p.peek)).1.d⟩)|45=>some (.gen ⟨[(0,0)],[],[],dN (bl (ex (p.took p.peek)).2).2,.d (bl (ex (p.took p.peek)).2).1.d⟩)|_=>none) ?_;simp;refine⟨⟨⟨by simpa using he,by simpa using hb⟩,bC⟩,?_⟩;apply eA;have ht:=jX (bl (ex (p.took p.peek)).2).2 sElse;refine aP (λ|57=>some (.gen ⟨[(0,0)],[],[],dN ((bl (ex (p.took p.peek)).2).2.took sElse),.d (.bool ((bl (ex (p.took p.peek)).2).2.is sElse))⟩)|_=>none) ?_;simp[Sq (b:=(bl (ex (p.took p.peek)).2).2)];refine⟨λ_=>ht,?_⟩;apply aJ;simp;refine⟨λg3 g4=>?_,λg3=>?_⟩
    ·simp only[g3,if_true];have gt:=dY (s:=sElse) lb.2;have lt:((bl (ex (p.took p.peek)).2).2.took sElse).l.length<=(bl (ex (p.took p.peek)).2).2.l.length:=by rw[cH g4];exact dZ
     have hb2:=hB.ok ((bl (ex (p.took p.peek)).2).2.took sElse) aE gt;refine eW.rd [[0,64],[0,64],[64],[64],[0,64],[0],[],[5],[5],[65],[65]] [[],[],[],[0],[],[64],[65,48],[],[65],[],[5]] (λ|62=>some (.gen ⟨[(0,0)],[],[],dN (bl ((bl (ex (p.took p.peek)).2).2.took sElse)).2,.d (bl ((bl (ex (p.took p.peek)).2).2.took sElse)).1.d⟩)|_=>none) ?_;simp;refine⟨by simpa using hb2,?_⟩;apply aD;simp;apply aH;simp;have e:=CZ (ex:=ex) (bl:=bl) hc5 g3 g4;refine bA (x:=(stmtB ex bl p).1.d) (by simp[e,g3]) ?_;simp;exact aA hp [0] [(0,0)] (hH:=by simp[e])
    ·have eq:(if k=11 then(bl (ex (p.took p.peek)).2).2.took sElse else(bl (ex (p.took p.peek)).2).2)=(bl (ex (p.took p.peek)).2).2:=by
      split
      ·rename_i z;exact gR (by simp[g3 z])
      ·rfl
     simp only[eq];apply aF;simp;apply aD;simp;apply aH;simp;have e:=PU (ex:=ex) (bl:=bl) hc5 g g3;refine bA (x:=(stmtB ex bl p).1.d) (by simp[e]) ?_;simp;exact aA hp [0] [(0,0)] (hH:=by simp[e])
   ·apply aV;simp;refine⟨λh15=>?_,λh15=>?_⟩
    ·apply aG;have ip:=kP (p:=p) (by have:=hc5;simp only at this;omega);have lp:=gE ip;rw[<-cH ip]at lp;have gp:=dY (s:=p.peek) hg;refine aP (λ|74=>some (.gen ⟨[(0,0)],[],[],dN (p.took p.peek),.d (.bool (p.is p.peek))⟩)|_=>none) ?_;simp;refine⟨jX p p.peek,?_⟩;have kr:=yR (s:=p.peek) (by have:=hc5;simp only at this;omega);have hcm:=NW (p.took p.peek) (n+1) ex k (by have:=hc5;simp only at this;omega) hE aE gp;refine aP (λ|76=>some (.gen ⟨[(0,0),(5,1)],[],[],cdH (cmdP ex k (p.took p.peek)).2 (cmdP ex k (p.took p.peek)).1,.tup []⟩)|_=>none) ?_;simp[cdH];refine⟨by simpa [cdH]using hcm,?_⟩;refine XG.mk ⟨(cmdP ex k (p.took p.peek)).1,(cmdP ex k (p.took p.peek)).2⟩ (aA hp [0,2,5] [(0,0),(2,2),(5,5)]) ?_;exact IA hc5 h15
    ·apply aG;have hpf:=oY p.peek [36] (by have:=mJ hg;omega) bC;refine aP (λ|79=>some<| .plain ⟨.d (.bool (decide (p.peek.take 1=[36]))),true⟩|_=>none) ?_;simp;refine⟨hpf,?_⟩;apply aJ;simp;refine⟨λh18=>?_,λh18=>?_⟩
     ·apply aG;have hlo:=Ap p hg;have gl:=eE hg;refine aP (λ|81=>some (.gen ⟨[(0,0)],[],[],dN (localP p).2,.d (.str (localP p).1)⟩)|_=>none) ?_;simp;refine⟨hlo,?_⟩;apply aG;have hne:=kX (localP p).2 [61];have gn:=cA (s:=[61]) gl.2.1;refine aP (λ|84=>some (.gen ⟨[(0,0)],[],[],dN ((localP p).2.need [61]),.tup []⟩)|_=>none) ?_;simp;refine⟨hne,?_⟩;have hx:=hE.ok ((localP p).2.need [61]) (by have:=gl.1;omega) gn.2;refine aP (λ|86=>some (.gen ⟨[(0,0)],[],[],dN (ex ((localP p).2.need [61])).2,.d (ex ((localP p).2.need [61])).1.d⟩)|_=>none) ?_;simp;refine⟨by simpa using hx,?_⟩;refine gZ (bN 5 [87] (fz:=false) (cs:=[.d (aI 9),.d (.str (localP p).1),.d (aI 0),.ow 87 0 1]) (ds:=[aI 9,.str (localP p).1,aI 0,.sl [(ex ((localP p).2.need [61])).1.d]]) aM aM aM (by simp[bB.mut])) ?_;simp;refine XG.mk ⟨.mk 9 (localP p).1 0 [(ex ((localP p).2.need [61])).1],(ex ((localP p).2.need [61])).2⟩ (aA hp [0,2,5] [(0,0),(2,2),(5,5)]) ?_;exact Aw hc5 aE aE h18
     ·apply aG;have hpl:=KG p hg;have gl:=lV (p.l.length+1) p (Nat.lt_succ_self _) hg;refine aP (λ|16=>some (.gen ⟨[(0,0)],[],[],dN (placeP p).2,.d (placeP p).1.d⟩)|_=>none) ?_;simp;refine⟨by simpa using hpl,?_⟩;apply aG;have hne:=kX (placeP p).2 [61];have gn:=cA (s:=[61]) gl.2.1;refine aP (λ|20=>some (.gen ⟨[(0,0)],[],[],dN ((placeP p).2.need [61]),.tup []⟩)|_=>none) ?_;simp;refine⟨hne,?_⟩;have hx:=hE.ok ((placeP p).2.need [61]) (by have:=gl.1;omega) gn.2;refine eW.rd [[0,26],[0,26],[26],[26],[0,26],[0],[],[5],[5],[27],[27]] [[],[],[],[0],[],[26],[27,17],[],[27],[],[5]] (λ|24=>some (.gen ⟨[(0,0)],[],[],dN (ex ((placeP p).2.need [61])).2,.d (ex ((placeP p).2.need [61])).1.d⟩)|_=>none) ?_;simp;refine⟨by simpa using hx,?_⟩;refine gZ (bN 5 [27] (fz:=false) (cs:=[.d (aI 10),.d (.str []),.d (aI 0),.ow 27 0 2]) (ds:=[aI 10,.str [],aI 0,.sl [(placeP p).1.d,(ex ((placeP p).2.need [61])).1.d]]) aM aM aM (by simp[bB.mut])) ?_;simp;refine XG.mk ⟨.mk 10 [] 0 [(placeP p).1,(ex ((placeP p).2.need [61])).1],(ex ((placeP p).2.need [61])).2⟩ (aA hp [0,2,5] [(0,0),(2,2),(5,5)]) ?_;exact Ay hc5 aE aE h18
  ·apply aG;have hne:=kX q [59];refine aP (λ|90=>some (.gen ⟨[(0,0)],[],[],dN (q.need [59]),.tup []⟩)|_=>none) ?_;simp;refine⟨hne,?_⟩;apply aD;simp;apply aH;simp;exact aA hp [0] [(0,0)] (by simp[hc22]) (by simp[hc22])
end
section
attribute[local simp] kQ.cond Nd.d_eq nd_t nd_dr nd_td ndsD aZ bP dD dU Ar As At oI Iz
theorem Fs.need{T:List Tk}{p:PS}(f:kF T p)(w:aW):kF T (p.need w)/\(p.need w).l.length<=p.l.length:=⟨f.need,iB⟩
theorem KO{T:List Tk}{m:Nat}{st:PS->Nd×PS}(hs:Fs T m st):∀(f:Nat) (ks:List Nd) (p:PS),p.l.length<m->kF T p->kF T (stmtsF st f ks p).2/\(stmtsF st f ks p).2.l.length<=p.l.length
 |0,_,p,_,hf=>⟨hf,Nat.le_refl _⟩
 |f+1,ks,p,hm,hf=>by
  rw[stmtsF];split
  ·exact⟨hf,Nat.le_refl _⟩
  ·obtain⟨a1,a2⟩:=hs p hm hf;obtain⟨b1,b2⟩:=KO hs f (ks++[(st p).1]) (st p).2 aE a1;exact⟨b1,Nat.le_trans b2 a2⟩
theorem Fs.block{T:List Tk}{m:Nat}{st:PS->Nd×PS}(hs:Fs T m st):Fs T m (blockB st):=λp hm hf=>by
 obtain⟨a1,a2⟩:=Fs.need hf [123];obtain⟨b1,b2⟩:=KO hs ((p.need [123]).l.length+1) [] (p.need [123]) aE a1;obtain⟨c1,c2⟩:=Fs.need b1 [125];exact⟨c1,Nat.le_trans c2 (Nat.le_trans b2 a2)⟩
theorem VH{T:List Tk}(hg:bM T)(m:Nat):Fs T m λq=>exprP true (q.l.length+1) q:=λq _ f=>IC hg (q.l.length+1) q (Nat.lt_succ_self _) f
theorem VI{s:aW}{T:List Tk}(c:Aq s T)(m:Nat):RR s T m 219 λq=>exprP true (q.l.length+1) q:=
 ⟨λq _ f=>(PX c (q.l.length+1)).ok q (Nat.lt_succ_self _) f,VH c.hg m⟩
def Bu(ex:PS->Nd×PS)(p:PS):Nd×PS:=
 if p.peek.take 1=[36]then(.mk 9 (localP p).1 0 [(ex ((localP p).2.need [61])).1],(ex ((localP p).2.need [61])).2)
 else(.mk 10 [] 0 [(placeP p).1,(ex ((placeP p).2.need [61])).1],(ex ((placeP p).2.need [61])).2)
def Sr(ex bl:PS->Nd×PS)(k:Int)(p:PS):Nd×PS:=
 if k=11/\(bl (ex (p.took p.peek)).2).2.is sElse=true then
  (.mk k [] 0 [(ex (p.took p.peek)).1,(bl (ex (p.took p.peek)).2).1,(bl ((bl (ex (p.took p.peek)).2).2.took sElse)).1],(bl ((bl (ex (p.took p.peek)).2).2.took sElse)).2)
 else(.mk k [] 0 [(ex (p.took p.peek)).1,(bl (ex (p.took p.peek)).2).1],(bl (ex (p.took p.peek)).2).2)
theorem Ss(s:aW)(T:List Tk)(c:Aq s T)(p:PS)(n:Nat)(st:PS->Nd×PS)(hS:RR s T n 174 st)(hE:NV n st)(hn:p.l.length<n)(f:kF T p):iG prog 141 [.bx 0 0] (dU s T p) (dU s T (blockB st p).2) (.d (blockB st p).1.d):=by
 unfold dU;have htt:=c.ht;have hpT:=f.le;refine iG.cell hT func141 bY (c:=_) rfl ntmps141 aM results141 λw0 X hp=>?_;apply aD;simp;apply aD;simp;refine hZ (fz:=false) (cs:=[.d (aI 8),.d (.str []),.d (aI 0),.nl]) 3 3 1022 4 bC ⟨aM,aM,aM,?_⟩;simp;apply aG;have hn2:=iI s T p c f [123] aM;have gl:=Fs.need f [123];refine aP (λ|6=>some (.gen ⟨[(0,0)],[],[],dU s T (p.need [123]),.tup []⟩)|_=>none) ?_;simp;refine⟨hn2,?_⟩;apply dH;refine aU (ι:=BlS) (λ⟨f,ks,q⟩=>aR [(0,.bx 0 0),(2,.bx 2 0),(3,.bx 3 0)]) (λ⟨f,ks,q⟩=>aL [(0,.box false [.d (.str s),.d (.sl (T.map Tk.r)),.d (aI ((T.length:Int)- q.l.length)),.d (.bool (!decide (q.e=0))),.d (.bool (decide (q.e=5)))]),(2,.box false [.d (aI 0),.d (.str []),.d (aI 0),.nl]),(3,.box false [.d (aI 8),.d (.str []),.d (aI 0),.ow 1022 0 ks.length]),(1022,.row false 4 (ks.map Nd.d))]) (λ⟨f,ks,q⟩=>(q.e=0->q.l.length<f)/\kF T q/\q.l.length<=p.l.length/\ks.length+q.l.length<=p.l.length+(if q.e=0 then 0 else 1)/\stmtsF st ((p.need [123]).l.length+1) [] (p.need [123])=stmtsF st f ks q) (λ⟨f,ks,q⟩=>2*q.l.length+(if q.e=0 then 1 else 0)) ⟨(p.need [123]).l.length+1,[],p.need [123]⟩ (aA hp [0,2,3] [(0,0),(2,2),(3,3),(1022,1022)]) (⟨λ_=>Nat.lt_succ_self _,gl.1,gl.2,by have:=gl.2;simp only[List.length_nil];omega,rfl⟩) λ⟨f,ks,q⟩ hi3=>?_;apply eA;have hpk:=jK s T q c hi3.2.1;refine aP (λ|14=>some (.gen ⟨[(0,0)],[],[],dU s T q,.d (.str q.peek)⟩)|_=>none) ?_;simp[sO];refine⟨λ_=>hpk,?_⟩;apply aJ;simp;refine⟨λg1 g2=>?_,λg=>?_⟩
 ·apply aF;simp;apply aO;have ha:q.l.length<=p.l.length:=hi3.2.2.1;have hk:ks.length+q.l.length<=p.l.length:=by have z:=hi3.2.2.2.1;simp only[g1,if_true]at z;omega
  have hs:=hS.ok q aE hi3.2.1;have hle:=hS.fs q aE hi3.2.1;have heat:=hE q aE (hi3.2.1.good c) g1;refine eW.rd [[0,21],[0,21]] [[],[],[],[0],[21],[22,1022],[],[3]] (λ|20=>some (.gen ⟨[(0,0)],[],[],dU s T (st q).2,.d (st q).1.d⟩)|_=>none) ?_;simp;refine⟨⟨by simpa using hs,aE,aE⟩,?_⟩;refine Pq.mk ⟨f-1,ks++[(st q).1],(st q).2⟩ (aA hp [0,2,3] [(0,0),(2,2),(3,3),(22,1022)]) ?_ ?_
  ·refine⟨λe=>?_,hle.1,?_,?_,?_⟩
   ·show(st q).2.l.length<f-1;have z:=hi3.1 g1;rcases heat with h|h
    ·exact absurd e h
    ·omega
   ·show(st q).2.l.length<=p.l.length;omega
   ·show(ks++[(st q).1]).length+(st q).2.l.length<=p.l.length+(if(st q).2.e=0 then 0 else 1);rw[List.length_append,List.length_singleton];by_cases e:(st q).2.e=0
    ·rw[if_pos e];rcases heat with h|h
     ·exact absurd e h
     ·omega
    ·rw[if_neg e];omega
   ·rw[hi3.2.2.2.2];exact KJ (hi3.1 g1) g1 g2
  ·show 2*(st q).2.l.length+(if(st q).2.e=0 then 1 else 0)<2*q.l.length+(if q.e=0 then 1 else 0);rw[if_pos g1];by_cases e:(st q).2.e=0
   ·rw[if_pos e];rcases heat with h|h
    ·exact absurd e h
    ·omega
   ·rw[if_neg e];omega
 ·apply bE;simp;apply aG;have hn5:=iI s T q c hi3.2.1 [125] aM;refine aP (λ|25=>some (.gen ⟨[(0,0)],[],[],dU s T (q.need [125]),.tup []⟩)|_=>none) ?_;simp;refine⟨hn5,?_⟩;apply aD;simp;apply aH;simp;have e:blockB st p=(.mk 8 [] 0 ks,q.need [125]):=by unfold blockB;simp only[];rw[hi3.2.2.2.2,GQ g]
  refine bA (x:=(blockB st p).1.d) (by simp[e]) ?_;simp;exact aA hp [0] [(0,0)] (hH:=by simp[e])
theorem RR.block{s:aW}{T:List Tk}(c:Aq s T){n:Nat}{st:PS->Nd×PS}(hS:RR s T n 174 st)(hE:NV n st):RR s T n 141 (blockB st):=
 ⟨λq hq f=>Ss s T c q n st hS hE hq f,Fs.block hS.fs⟩
theorem NY(s:aW)(T:List Tk)(c:Aq s T)(p:PS)(w:aW)(hw:p.peek=w)(n:Nat)(ex:PS->Nd×PS)(hE:RR s T n 219 ex)(hn:p.l.length<n)(f:kF T p):iG prog 220 [.bx 0 0,.d (.str w)] (dU s T p) (dU s T (Bu ex p).2) (.d (Bu ex p).1.d):=by
 unfold dU;have gp:=f.good c;refine iG.cell hT func220 bY (c:=_) rfl ntmps220 aM results220 λw0 X hp=>?_;apply aD;simp;apply aG;apply aV;simp;refine⟨λg1 g2=>?_,λg=>?_⟩
 ·have gd:p.peek.take 1=[36]:=at0.2 ⟨by rw[hw];omega,by rw[hw];exact g2⟩;apply aG;have hlo:=sN s T p c f;have gl:=(eE gp).1;refine aP (λ|16=>some (.gen ⟨[(0,0)],[],[],dU s T (localP p).2,.d (.str (localP p).1)⟩)|_=>none) ?_;simp;refine⟨hlo,?_⟩;apply aG;have hne:=iI s T (localP p).2 c f.local [61] aM;have gn:=Fs.need f.local [61];refine aP (λ|19=>some (.gen ⟨[(0,0)],[],[],dU s T ((localP p).2.need [61]),.tup []⟩)|_=>none) ?_;simp;refine⟨hne,?_⟩;apply aG;have hx:=hE.ok ((localP p).2.need [61]) aE gn.1;refine eW.rd [[0,24],[0,24]] [[],[],[],[0],[24],[25],[],[5]] (λ|23=>some (.gen ⟨[(0,0)],[],[],dU s T (ex ((localP p).2.need [61])).2,.d (ex ((localP p).2.need [61])).1.d⟩)|_=>none) ?_;simp;refine⟨by simpa using hx,?_⟩;apply aD;simp;apply aH;simp;have e:Bu ex p=(.mk 9 (localP p).1 0 [(ex ((localP p).2.need [61])).1],(ex ((localP p).2.need [61])).2):=if_pos gd;refine bA (x:=(Bu ex p).1.d) (by simp[e]) ?_;simp;exact aA hp [0] [(0,0)] (hH:=by simp[e])
 ·have gd:¬p.peek.take 1=[36]:=λz=>by have y:=at0.1 z;rw[hw]at y;have:=g aE;omega
  apply aF;simp;apply aD;simp;apply aG;have hpl:=GS s T p c f;have gl:=(lV (p.l.length+1) p (Nat.lt_succ_self _) gp).1;refine eW.rd [[0,33],[0,33]] [[],[],[],[0],[33],[34],[],[6]] (λ|32=>some (.gen ⟨[(0,0)],[],[],dU s T (placeP p).2,.d (placeP p).1.d⟩)|_=>none) ?_;simp;refine⟨by simpa using hpl,?_⟩;apply aG;have hne:=iI s T (placeP p).2 c f.place [61] aM;have gn:=Fs.need f.place [61];refine aP (λ|37=>some (.gen ⟨[(0,0)],[],[],dU s T ((placeP p).2.need [61]),.tup []⟩)|_=>none) ?_;simp;refine⟨hne,?_⟩;apply aG;have hx:=hE.ok ((placeP p).2.need [61]) aE gn.1;refine eW.rd [[0,42],[0,42]] [[],[],[],[0],[42],[43,34],[],[6]] (λ|41=>some (.gen ⟨[(0,0)],[],[],dU s T (ex ((placeP p).2.need [61])).2,.d (ex ((placeP p).2.need [61])).1.d⟩)|_=>none) ?_;simp;refine⟨by simpa using hx,?_⟩;apply aD;simp;apply aH;simp;have e:Bu ex p=(.mk 10 [] 0 [(placeP p).1,(ex ((placeP p).2.need [61])).1],(ex ((placeP p).2.need [61])).2):=if_neg gd;refine bA (x:=(Bu ex p).1.d) (by simp[e]) ?_;simp;exact aA hp [0] [(0,0)] (hH:=by simp[e])
end
section
attribute[local simp] kQ.cond Nd.d_eq nd_t nd_dr nd_td ndsD aZ bP dD dU Ar As At oI Iz
theorem St{s:aW}{T:List Tk}{c:Prop}[Decidable c]{f:Nat->bB}{a b:PS}{x:Nat}(h:f 0=.box false [.d (.str s),.d (.sl (T.map Tk.r)),.d (aI ((T.length:Int)- b.l.length)),.d (.bool (!decide (b.e=0))),.d (.bool (decide (b.e=5)))]):
 bW f (if c then [(0,.box false [.d (.str s),.d (.sl (T.map Tk.r)),.d (aI ((T.length:Int)- a.l.length)),.d (.bool (!decide (a.e=0))),.d (.bool (decide (a.e=5)))])]else []) x=
  if x=0 then .box false [.d (.str s),.d (.sl (T.map Tk.r)),.d (aI ((T.length:Int)-(if c then a else b).l.length)),.d (.bool (!decide ((if c then a else b).e=0))),.d (.bool (decide ((if c then a else b).e=5)))]else f x:=by
 by_cases hc:c
 ·simp only[hc,if_true,bW,cE]
 ·simp only[hc,if_false,bW];split
  ·rename_i e;rw[e];exact h
  ·rfl
def VJ:aW:=[119,104,105,108,101]
theorem Yh{ex bl:PS->Nd×PS}{k:Int}{p:PS}(hs:p.took p.peek=p.skip)(h:k=11)(he:(bl (ex p.skip).2).2.is sElse=true):
 Sr ex bl k p=(.mk k [] 0 [(ex p.skip).1,(bl (ex p.skip).2).1,(bl ((bl (ex p.skip).2).2.took sElse)).1],(bl ((bl (ex p.skip).2).2.took sElse)).2):=by
 unfold Sr;rw[hs,if_pos ⟨h,he⟩]
theorem ZY{ex bl:PS->Nd×PS}{k:Int}{p:PS}(hs:p.took p.peek=p.skip)(he:k=11->(bl (ex p.skip).2).2.is sElse=false):
 Sr ex bl k p=(.mk k [] 0 [(ex p.skip).1,(bl (ex p.skip).2).1],(bl (ex p.skip).2).2):=by
 unfold Sr;rw[hs,if_neg (λz=>by rw[he z.1]at z;exact absurd z.2 aM)]
theorem NZ(s:aW)(T:List Tk)(c:Aq s T)(p:PS)(w:aW)(k:Int)(hk:k=11\/k=12)(hw:w=VJ↔k=12)(hpk:p.peek≠[])(n:Nat)(ex bl:PS->Nd×PS)(hE:RR s T (n+1) 219 ex)(hB:RR s T n 141 bl)(hn:p.l.length<n+1)(f:kF T p):iG prog 203 [.bx 0 0,.d (.str w)] (dU s T p) (dU s T (Sr ex bl k p).2) (.d (Sr ex bl k p).1.d):=by
 unfold dU;have htt:=c.ht;have hsk:=rA (T:=T) hpk;have hps:=f.pos hpk;have htk:p.took p.peek=p.skip:=cH (eV.2 ⟨hpk,rfl⟩);have hl:=pW hpk;have fx:=hE.fs p.skip aE f.skip;have fb:=hB.fs (ex p.skip).2 aE fx.1;refine iG.cell hT func203 bY (c:=_) rfl ntmps203 aM results203 λw0 X hp=>?_;apply aD;simp;apply aD;simp;refine⟨aE,?_⟩;simp only[<-hsk];apply aD;simp;refine aY (ι:=KC6) (λ⟨j⟩=>aR [(0,.bx 0 0),(4,.bx 4 0),(5,.bx 5 0)]) (λ⟨j⟩=>aL [(0,.box false [.d (.str s),.d (.sl (T.map Tk.r)),.d (aI ((T.length:Int)- p.skip.l.length)),.d (.bool (!decide (p.e=0))),.d (.bool (decide (p.e=5)))]),(4,.box false [.d (aI 0),.d (.str []),.d (aI 0),.nl]),(5,.box false [.d (aI j),.d (.str []),.d (aI 0),.nl])]) (λ⟨j⟩=>k=j) ?_ λ⟨j⟩ hc5=>?_
 ·apply aV;simp;refine⟨λh3=>?_,λh3=>?_⟩
  ·have ek:k=12:=hw.1 h3;apply aK;simp;refine XG.mk ⟨12⟩ (aA hp [0,4,5] [(0,0),(4,4),(5,5)]) ?_;exact ek
  ·have ek:k=11:=hk.resolve_right λz=>h3 (hw.2 z);apply aF;simp;refine XG.mk ⟨11⟩ (aA hp [0,4,5] [(0,0),(4,4),(5,5)]) ?_;exact ek
 ·apply aG;have hj:k=j:=hc5;subst hj;have he:=hE.ok p.skip aE f.skip;rw[Nd.d_eq]at he;refine eW.rd [[0,21],[0,21]] [[],[],[],[0],[21],[22],[],[5]] (λ|20=>some (.gen ⟨[(0,0)],[],[],dU s T (ex p.skip).2,.d (ex p.skip).1.d⟩)|_=>none) ?_;simp;refine⟨he,?_⟩;apply aG;have hb:=hB.ok (ex p.skip).2 aE fx.1;refine eW.rd [[0,28],[0,28]] [[],[],[],[0],[28],[29,22],[],[5]] (λ|27=>some (.gen ⟨[(0,0)],[],[],dU s T (bl (ex p.skip).2).2,.d (bl (ex p.skip).2).1.d⟩)|_=>none) ?_;simp;refine⟨by simpa using hb,?_⟩;apply eA;have ht:=vU s T (bl (ex p.skip).2).2 c fb.1 sElse bC;refine aP (λ|36=>some (.gen ⟨[(0,0)],[],[],dU s T ((bl (ex p.skip).2).2.took sElse),.d (.bool ((bl (ex p.skip).2).2.is sElse))⟩)|_=>none) ?_;simp[St (b:=(bl (ex p.skip).2).2)];refine⟨λ_=>ht,?_⟩;apply aJ;simp;refine⟨λg3 g4=>?_,λg3=>?_⟩
  ·simp only[g3,if_true];have lt:((bl (ex p.skip).2).2.took sElse).l.length<=(bl (ex p.skip).2).2.l.length:=IB;have hb2:=hB.ok ((bl (ex p.skip).2).2.took sElse) aE fb.1.took;refine eW.rd [[0,42],[0,42]] [[],[],[],[0],[42],[43,29],[],[5]] (λ|41=>some (.gen ⟨[(0,0)],[],[],dU s T (bl ((bl (ex p.skip).2).2.took sElse)).2,.d (bl ((bl (ex p.skip).2).2.took sElse)).1.d⟩)|_=>none) ?_;simp;refine⟨by simpa using hb2,?_⟩;apply aD;simp;apply aH;simp;subst g3;have e:=Yh (ex:=ex) (bl:=bl) htk rfl g4;refine bA (x:=(Sr ex bl 11 p).1.d) (by simp[e]) ?_;simp;exact aA hp [0] [(0,0)] (hH:=by simp[e])
  ·have eq:(if k=11 then(bl (ex p.skip).2).2.took sElse else(bl (ex p.skip).2).2)=(bl (ex p.skip).2).2:=by
    split
    ·rename_i z;exact gR (by simp[g3 z])
    ·rfl
   simp only[eq];apply aF;simp;apply aD;simp;apply aH;simp;have e:=ZY (ex:=ex) (bl:=bl) htk g3;refine bA (x:=(Sr ex bl k p).1.d) (by simp[e]) ?_;simp;exact aA hp [0] [(0,0)] (hH:=by simp[e])
def qN(ex:PS->Nd×PS)(p:PS):Nd×PS:=if 12<kindP p.peek then cmdP ex (kindP p.peek) (p.took p.peek)else Bu ex p
theorem ID{w:aW}(h:0<=kindP w):wordAt (kindP w)=w/\kindP w<26:=by
 unfold kindP wordI at h|-;split at h
 ·omega
 ·rename_i hw;rw[if_neg hw];cases e:(List.range 26).find? (λi=>decide (wordsL.getD i []=w))with
  |none=>rw[e]at h;simp at h
  |some i=>
   have h1:=List.find?_some e;have h2:=List.mem_range.1 (List.mem_of_find?_eq_some e);simp only[decide_eq_true_eq]at h1;exact⟨h1,by simp only;omega⟩
theorem Bv{k:Int}{p:PS}(h:¬(k=19\/k=20))(h2:¬(k=21\/k=25\/k=24)):cmdA k p=nameP p:=by unfold cmdA;rw[if_neg h,if_neg h2]
theorem KP{k:Int}{p:PS}(h:k=19\/k=20):cmdA k p=localP p:=by unfold cmdA;rw[if_pos h]
theorem Bw{k:Int}{p:PS}(h:k=21\/k=25\/k=24):cmdA k p=([],p):=by unfold cmdA;rw[if_neg aE,if_pos h]
theorem Oa(s:aW)(T:List Tk)(c:Aq s T)(p:PS)(w:aW)(hw:p.peek=w)(n:Nat)(ex:PS->Nd×PS)(hE:RR s T n 219 ex)(hn:p.l.length<n)(f:kF T p):iG prog 204 [.bx 0 0,.d (.str w)] (dU s T p) (dU s T (qN ex p).2) (.d (qN ex p).1.d):=by
 unfold dU;have htt:=c.ht;have hst:=tP;have q2:=jV;refine iG.cell hT func204 bY (c:=_) rfl ntmps204 aM results204 λw0 X hp=>?_;apply aD;simp;apply aD;simp;refine aY (ι:=Nat) (λi=>aR [(0,.bx 0 0),(1,.d (.str w)),(4,.bx 4 0),(5,.d (aI (i:Int)))]) (λi=>aL [(0,.box false [.d (.str s),.d (.sl (T.map Tk.r)),.d (aI ((T.length:Int)- p.l.length)),.d (.bool (!decide (p.e=0))),.d (.bool (decide (p.e=5)))]),(4,.box false [.d (aI 0),.d (.str []),.d (aI 0),.nl])]) (λi=>13<=i/\i<=26/\(∀j:Nat,13<=j->j<i->wordAt (j:Int)≠w)/\((i:Int)<26->wordAt (i:Int)=w)) ?_ λi hc4=>?_
 ·apply aO;refine aU (ι:=Nat) (λi=>aR [(0,.bx 0 0),(1,.d (.str w)),(4,.bx 4 0),(5,.d (aI (i:Int)))]) (λi=>aL [(0,.box false [.d (.str s),.d (.sl (T.map Tk.r)),.d (aI ((T.length:Int)- p.l.length)),.d (.bool (!decide (p.e=0))),.d (.bool (decide (p.e=5)))]),(4,.box false [.d (aI 0),.d (.str []),.d (aI 0),.nl])]) (λi=>13<=i/\i<=26/\∀j:Nat,13<=j->j<i->wordAt (j:Int)≠w) (λi=>26-i) 13 (aA hp [0,1,4,5] [(0,0),(4,4)]) (⟨Nat.le_refl _,bC,λj h1 h2=>absurd h2 aE⟩) λi hi2=>?_;apply eA;rcases(by have:=hi2.2.1;omega:¬(i:Int)<26\/(i:Int)<26)with h26|h26
  ·refine tC hT hW (λ_=>none) (by intro d;first|exact⟨rfl,λ_ h=>h⟩|(split<;>exact⟨rfl,λ_ h=>h⟩)) ?_;simp[h26];apply aJ;simp[h26];apply bE;simp;refine XG.mk i (aA hp [0,1,4,5] [(0,0),(4,4)]) ?_;exact⟨hi2.1,hi2.2.1,hi2.2.2,λz=>absurd z h26⟩
  ·have q1:=qY (k:=(i:Int)) aE h26;rw[Int.toNat_natCast]at q1;refine aP (λ|10=>some<| .plain ⟨.d (.sl rM),true⟩|_=>none) ?_;simp[h26,q1];refine⟨⟨hst,by have:=hi2.2.1;omega⟩,?_⟩;apply aJ;simp;refine⟨λh2=>?_,λh2=>?_⟩
   ·apply aF;simp;apply aO;apply aK;simp;refine⟨aE,?_⟩;refine Pq.mk (i+1) (aA hp [0,1,4,5] [(0,0),(4,4)]) ?_ ?_
    ·refine⟨aE,aE,λj z1 z2=>?_⟩;by_cases e:j=i
     ·rw[e];exact h2
     ·exact hi2.2.2 j z1 aE
    ·omega
   ·apply bE;simp;refine XG.mk i (aA hp [0,1,4,5] [(0,0),(4,4)]) ?_;exact⟨hi2.1,hi2.2.1,hi2.2.2,λ_=>h2⟩
 ·apply aG;apply aV;simp;refine⟨λh4=>?_,λh4=>?_⟩
  ·have hlow:¬12<kindP p.peek:=λz=>by
    obtain⟨z1,z2⟩:=ID (w:=p.peek) aE;refine hc4.2.2.1 (kindP p.peek).toNat aE aE ?_;rw[Int.toNat_of_nonneg aE,z1,hw]
   have esm:qN ex p=Bu ex p:=if_neg hlow;apply aG;have ha:=NY s T c p w hw n ex hE hn f;refine aP (λ|23=>some (.gen ⟨[(0,0)],[],[],dU s T (Bu ex p).2,.d (Bu ex p).1.d⟩)|_=>none) ?_;simp;refine⟨by simpa using ha,?_⟩;apply aH;simp;exact aA hp [0] [(0,0)] (by simp[esm]) (by simp[esm])
  ·have hi:13<=i/\i<=25:=by have:=hc4.1;have:=hc4.2.1;omega
   have hwi:=hc4.2.2.2 aE;have hki:kindP p.peek=(i:Int):=by rw[hw,<-hwi];exact RI aE
   have hpk:p.peek≠[]:=λe=>by rw[Av e]at hki;omega
   have hsk:=rA (T:=T) hpk;have hps:=f.pos hpk;have htk:p.took p.peek=p.skip:=cH (eV.2 ⟨hpk,rfl⟩);have esm:qN ex p=cmdP ex (i:Int) p.skip:=by unfold qN;rw[hki,htk,if_pos aE]
   have hl:=pW hpk;have fsk:=f.skip;apply aF;simp;apply aD;simp;refine⟨aE,?_⟩;simp only[<-hsk];apply aD;simp;apply dT;simp;apply aO;refine aY (ι:=BC) (λ⟨b⟩=>aR [(0,.bx 0 0),(4,.bx 4 0),(6,.bx 6 0),(33,.d (aI (i:Int))),(34,.d (.bool b))]) (λ⟨b⟩=>aL [(0,.box false [.d (.str s),.d (.sl (T.map Tk.r)),.d (aI ((T.length:Int)- p.skip.l.length)),.d (.bool (!decide (p.e=0))),.d (.bool (decide (p.e=5)))]),(4,.box false [.d (aI 0),.d (.str []),.d (aI 0),.nl]),(6,.box false [.d (aI (i:Int)),.d (.str []),.d (aI 0),.nl])]) (λ⟨b⟩=>b=true↔((i:Int)=13\/(i:Int)=14\/(i:Int)=17\/(i:Int)=18)) ?_ λ⟨b⟩ hc13=>?_
   ·apply aV;simp;refine⟨λh9=>?_,λh9=>?_⟩
    ·apply aF;simp;refine XG.mk ⟨decide ((i:Int)=13)⟩ (aA hp [0,4,6,33,34] [(0,0),(4,4),(6,6)]) ?_;simp[h9]
    ·apply aV;simp;refine⟨λh10=>?_,λh10=>?_⟩
     ·apply aF;simp;refine XG.mk ⟨decide ((i:Int)=14)⟩ (aA hp [0,4,6,33,34] [(0,0),(4,4),(6,6)]) ?_;simp[h10]
     ·apply aV;simp;refine⟨λh11=>?_,λh11=>?_⟩
      ·apply aF;simp;refine XG.mk ⟨decide ((i:Int)=17)⟩ (aA hp [0,4,6,33,34] [(0,0),(4,4),(6,6)]) ?_;simp[h11]
      ·apply aK;simp;refine XG.mk ⟨decide ((i:Int)=18)⟩ (aA hp [0,4,6,33,34] [(0,0),(4,4),(6,6)]) ?_;simp only[decide_eq_true_eq];omega
   ·apply aJ;simp;refine⟨λh13=>?_,λh13=>?_⟩
    ·have q13:=hc13.1 h13;have hna:=qG s T p.skip c fsk;refine aP (λ|40=>some (.gen ⟨[(0,0)],[],[],dU s T (nameP p.skip).2,.d (.str (nameP p.skip).1)⟩)|_=>none) ?_;simp;refine⟨hna,?_⟩;apply aD;simp;apply aH;simp;have e:=sQ (ex:=ex) (k:=(i:Int)) (p:=p.skip) aE aE aE;rw[Bv aE aE]at e;refine bA (x:=(qN ex p).1.d) (by simp[esm,e]) ?_;simp;exact aA hp [0] [(0,0)] (hH:=by simp[esm,e])
    ·have q13:¬((i:Int)=13\/(i:Int)=14\/(i:Int)=17\/(i:Int)=18):=λq=>by simp[hc13.2 q]at h13
     refine aY (ι:=BC) (λ⟨b⟩=>aR [(0,.bx 0 0),(4,.bx 4 0),(6,.bx 6 0),(33,.d (aI (i:Int))),(42,.d (.bool b))]) (λ⟨b⟩=>aL [(0,.box false [.d (.str s),.d (.sl (T.map Tk.r)),.d (aI ((T.length:Int)- p.skip.l.length)),.d (.bool (!decide (p.e=0))),.d (.bool (decide (p.e=5)))]),(4,.box false [.d (aI 0),.d (.str []),.d (aI 0),.nl]),(6,.box false [.d (aI (i:Int)),.d (.str []),.d (aI 0),.nl])]) (λ⟨b⟩=>b=true↔((i:Int)=15\/(i:Int)=22)) ?_ λ⟨b⟩ hc16=>?_
     ·apply aV;simp;refine⟨λh14=>?_,λh14=>?_⟩
      ·apply aF;simp;refine XG.mk ⟨decide ((i:Int)=15)⟩ (aA hp [0,4,6,33,42] [(0,0),(4,4),(6,6)]) ?_;simp[h14]
      ·apply aK;simp;refine XG.mk ⟨decide ((i:Int)=22)⟩ (aA hp [0,4,6,33,42] [(0,0),(4,4),(6,6)]) ?_;simp only[decide_eq_true_eq];omega
     ·apply aJ;simp;refine⟨λh16=>?_,λh16=>?_⟩
      ·have q16:=hc16.1 h16;apply aG;have hna:=qG s T p.skip c fsk;have gl:=(cV (fsk.good c)).1;refine aP (λ|46=>some (.gen ⟨[(0,0)],[],[],dU s T (nameP p.skip).2,.d (.str (nameP p.skip).1)⟩)|_=>none) ?_;simp;refine⟨hna,?_⟩;have hx:=hE.ok (nameP p.skip).2 aE fsk.name;refine eW.rd [[0,52],[0,52]] [[],[],[],[0],[52],[53],[],[6]] (λ|51=>some (.gen ⟨[(0,0)],[],[],dU s T (ex (nameP p.skip).2).2,.d (ex (nameP p.skip).2).1.d⟩)|_=>none) ?_;simp;refine⟨by simpa using hx,?_⟩;apply aD;simp;apply aH;simp;have e:=EE (ex:=ex) (k:=(i:Int)) (p:=p.skip) aE;rw[Bv aE aE]at e;refine bA (x:=(qN ex p).1.d) (by simp[esm,e]) ?_;simp;exact aA hp [0] [(0,0)] (hH:=by simp[esm,e])
      ·have q16:¬((i:Int)=15\/(i:Int)=22):=λq=>by simp[hc16.2 q]at h16
       refine aY (ι:=BC) (λ⟨b⟩=>aR [(0,.bx 0 0),(4,.bx 4 0),(6,.bx 6 0),(33,.d (aI (i:Int))),(55,.d (.bool b))]) (λ⟨b⟩=>aL [(0,.box false [.d (.str s),.d (.sl (T.map Tk.r)),.d (aI ((T.length:Int)- p.skip.l.length)),.d (.bool (!decide (p.e=0))),.d (.bool (decide (p.e=5)))]),(4,.box false [.d (aI 0),.d (.str []),.d (aI 0),.nl]),(6,.box false [.d (aI (i:Int)),.d (.str []),.d (aI 0),.nl])]) (λ⟨b⟩=>b=true↔((i:Int)=16\/(i:Int)=23)) ?_ λ⟨b⟩ hc20=>?_
       ·apply aV;simp;refine⟨λh18=>?_,λh18=>?_⟩
        ·apply aF;simp;refine XG.mk ⟨decide ((i:Int)=16)⟩ (aA hp [0,4,6,33,55] [(0,0),(4,4),(6,6)]) ?_;simp[h18]
        ·apply aK;simp;refine XG.mk ⟨decide ((i:Int)=23)⟩ (aA hp [0,4,6,33,55] [(0,0),(4,4),(6,6)]) ?_;simp only[decide_eq_true_eq];omega
       ·apply aJ;simp;refine⟨λh20=>?_,λh20=>?_⟩
        ·have q20:=hc20.1 h20;apply aG;have hna:=qG s T p.skip c fsk;refine aP (λ|59=>some (.gen ⟨[(0,0)],[],[],dU s T (nameP p.skip).2,.d (.str (nameP p.skip).1)⟩)|_=>none) ?_;simp;refine⟨hna,?_⟩;have hlo:=sN s T (nameP p.skip).2 c fsk.name;refine eW.rd [[0,66],[0,66]] [[],[],[],[0],[],[66],[67],[],[6]] (λ|64=>some (.gen ⟨[(0,0)],[],[],dU s T (localP (nameP p.skip).2).2,.d (.str (localP (nameP p.skip).2).1)⟩)|_=>none) ?_;simp;refine⟨hlo,?_⟩;apply aD;simp;apply aH;simp;have e:=CY (ex:=ex) (k:=(i:Int)) (p:=p.skip) aE aE;rw[Bv aE aE]at e;refine bA (x:=(qN ex p).1.d) (by simp[esm,e]) ?_;simp;exact aA hp [0] [(0,0)] (hH:=by simp[esm,e])
        ·have q20:¬((i:Int)=16\/(i:Int)=23):=λq=>by simp[hc20.2 q]at h20
         apply aV;simp;refine⟨λh22=>?_,λh22=>?_⟩
         ·apply aG;have hlo:=sN s T p.skip c fsk;refine aP (λ|72=>some (.gen ⟨[(0,0)],[],[],dU s T (localP p.skip).2,.d (.str (localP p.skip).1)⟩)|_=>none) ?_;simp;refine⟨hlo,?_⟩;have hnu:=jL s T (localP p.skip).2 c fsk.local (i:Int) 2 6 (.inl (by rw[h22];rfl)) (by rw[h22];rfl);refine aP (λ|75=>some (.gen ⟨[(0,0)],[],[],dU s T (numeralP (i:Int) (localP p.skip).2).2,.d (aI (numeralP (i:Int) (localP p.skip).2).1)⟩)|_=>none) ?_;simp;refine⟨hnu,?_⟩;apply aD;simp;apply aH;simp;have e:=xN (ex:=ex) (k:=(i:Int)) (p:=p.skip) aE aE aE;rw[KP aE]at e;refine bA (x:=(qN ex p).1.d) (by simp[esm,e]) ?_;simp;exact aA hp [0] [(0,0)] (hH:=by simp[esm,e])
         ·apply aV;simp;refine⟨λh25=>?_,λh25=>?_⟩
          ·have hlo:=sN s T p.skip c fsk;refine aP (λ|80=>some (.gen ⟨[(0,0)],[],[],dU s T (localP p.skip).2,.d (.str (localP p.skip).1)⟩)|_=>none) ?_;simp;refine⟨hlo,?_⟩;apply aD;simp;apply aH;simp;have e:=sQ (ex:=ex) (k:=(i:Int)) (p:=p.skip) aE aE aE;rw[KP aE]at e;refine bA (x:=(qN ex p).1.d) (by simp[esm,e]) ?_;simp;exact aA hp [0] [(0,0)] (hH:=by simp[esm,e])
          ·apply aV;simp;refine⟨λh27=>?_,λh27=>?_⟩
           ·have hnu:=jL s T p.skip c fsk (i:Int) 1 9 (.inl (by rw[h27];rfl)) (by rw[h27];rfl);refine aP (λ|85=>some (.gen ⟨[(0,0)],[],[],dU s T (numeralP (i:Int) p.skip).2,.d (aI (numeralP (i:Int) p.skip).1)⟩)|_=>none) ?_;simp;refine⟨hnu,?_⟩;apply aD;simp;apply aH;simp;have e:=xN (ex:=ex) (k:=(i:Int)) (p:=p.skip) aE aE aE;rw[Bw aE]at e;refine bA (x:=(qN ex p).1.d) (by simp[esm,e]) ?_;simp;exact aA hp [0] [(0,0)] (hH:=by simp[esm,e])
           ·apply aV;simp;refine⟨λh29=>?_,λh29=>?_⟩
            ·have hnu:=jL s T p.skip c fsk (i:Int) 1 99 (.inl (by rw[h29];rfl)) (by rw[h29];rfl);refine aP (λ|90=>some (.gen ⟨[(0,0)],[],[],dU s T (numeralP (i:Int) p.skip).2,.d (aI (numeralP (i:Int) p.skip).1)⟩)|_=>none) ?_;simp;refine⟨hnu,?_⟩;apply aD;simp;apply aH;simp;have e:=xN (ex:=ex) (k:=(i:Int)) (p:=p.skip) aE aE aE;rw[Bw aE]at e;refine bA (x:=(qN ex p).1.d) (by simp[esm,e]) ?_;simp;exact aA hp [0] [(0,0)] (hH:=by simp[esm,e])
            ·apply aV;simp;refine⟨λh31=>?_,λh31=>?_⟩
             ·have hx:=hE.ok p.skip aE fsk;rw[Nd.d_eq]at hx;refine eW.rd [[0,98],[0,98]] [[],[],[],[0],[98],[99],[],[6]] (λ|97=>some (.gen ⟨[(0,0)],[],[],dU s T (ex p.skip).2,.d (ex p.skip).1.d⟩)|_=>none) ?_;simp;refine⟨hx,?_⟩;apply aD;simp;apply aH;simp;have e:=EE (ex:=ex) (k:=(i:Int)) (p:=p.skip) aE;rw[Bw aE]at e;refine bA (x:=(qN ex p).1.d) (by simp[esm,e]) ?_;simp;exact aA hp [0] [(0,0)] (hH:=by simp[esm,e])
             ·apply aF;simp;apply aD;simp;apply aH;exact absurd (show False by omega) id
theorem ZZ{T:List Tk}(hg:bM T){n:Nat}{ex:PS->Nd×PS}(hx:Fs T n ex):Fs T n (Bu ex):=λp h f=>by
 have gp:=f.goodT hg;unfold Bu;split
 ·obtain⟨a1,a2⟩:=Fs.need f.local [61];have l1:=(eE gp).1;obtain⟨b1,b2⟩:=hx ((localP p).2.need [61]) aE a1;exact⟨b1,by simp only;omega⟩
 ·obtain⟨a1,a2⟩:=Fs.need f.place [61];have l1:=(lV (p.l.length+1) p (Nat.lt_succ_self _) gp).1;obtain⟨b1,b2⟩:=hx ((placeP p).2.need [61]) aE a1;exact⟨b1,by simp only;omega⟩
theorem Fs.cmdA{T:List Tk}(hg:bM T){k:Int}{p:PS}(f:kF T p):kF T (cmdA k p).2/\(cmdA k p).2.l.length<=p.l.length:=by
 have gp:=f.goodT hg;refine⟨?_,(sP gp).1⟩;unfold Go.Eng.cmdA;split
 ·exact f.local
 ·split
  ·exact f
  ·exact f.name
theorem aAa{T:List Tk}(hg:bM T){n:Nat}{ex:PS->Nd×PS}(hx:Fs T n ex)(k:Int):Fs T n (cmdP ex k):=λp h f=>by
 obtain⟨a1,a2⟩:=Fs.cmdA (k:=k) hg f;have ga:=a1.goodT hg;by_cases h1:k=15\/k=22\/k=24
 ·rw[EE h1];obtain⟨b1,b2⟩:=hx _ aE a1;exact⟨b1,by simp only;omega⟩
 ·by_cases h2:k=16\/k=23
  ·rw[CY h1 h2];have:=(eE ga).1;exact⟨a1.local,by simp only;omega⟩
  ·by_cases h3:k=19\/k=21\/k=25
   ·rw[xN h1 h2 h3];have:=(eR (k:=k) ga).1;exact⟨a1.numeral,by simp only;omega⟩
   ·rw[sQ h1 h2 h3];exact⟨a1,a2⟩
theorem VK{T:List Tk}(hg:bM T){n:Nat}{ex:PS->Nd×PS}(hx:Fs T n ex):Fs T n (qN ex):=λp h f=>by
 unfold qN;split
 ·have l1:=IB (p:=p) (w:=p.peek);obtain⟨a1,a2⟩:=aAa hg hx (kindP p.peek) (p.took p.peek) aE f.took;exact⟨a1,aE⟩
 ·exact ZZ hg hx p h f
theorem PY{ex bl:PS->Nd×PS}{p:PS}(h:kindP p.peek=11\/kindP p.peek=12):stmtB ex bl p=Sr ex bl (kindP p.peek) p:=by
 unfold Sr;split
 ·rename_i z;exact CZ rfl z.1 z.2
 ·rename_i z;refine PU rfl h λq=>?_;cases e:(bl (ex (p.took p.peek)).2).2.is sElse with
  |false=>rfl
  |true=>exact absurd ⟨q,e⟩ z
theorem KQ{ex bl:PS->Nd×PS}{p:PS}(h:¬(kindP p.peek=11\/kindP p.peek=12)):stmtB ex bl p=((qN ex p).1,(qN ex p).2.need [59]):=by
 unfold qN;by_cases h2:12<kindP p.peek
 ·rw[if_pos h2,IA rfl h2]
 ·rw[if_neg h2];unfold Bu;by_cases h3:p.peek.take 1=[36]
  ·rw[if_pos h3,Aw rfl h h2 h3]
  ·rw[if_neg h3,Ay rfl h h2 h3]
theorem Fs.stmtB{T:List Tk}(hg:bM T){n:Nat}{ex bl:PS->Nd×PS}(hx:Fs T (n+1) ex)(hb:Fs T n bl):Fs T (n+1) (stmtB ex bl):=λp h f=>by
 by_cases hk:kindP p.peek=11\/kindP p.peek=12
 ·rw[PY hk];have l0:=qH (kP (p:=p) aE);obtain⟨a1,a2⟩:=hx (p.took p.peek) aE f.took;obtain⟨b1,b2⟩:=hb (ex (p.took p.peek)).2 aE a1;unfold Sr;split
  ·have l2:=IB (p:=(bl (ex (p.took p.peek)).2).2) (w:=sElse);obtain⟨c1,c2⟩:=hb ((bl (ex (p.took p.peek)).2).2.took sElse) aE b1.took;exact⟨c1,by simp only;omega⟩
  ·exact⟨b1,by simp only;omega⟩
 ·rw[KQ hk];obtain⟨a1,a2⟩:=VK hg hx p h f;obtain⟨b1,b2⟩:=Fs.need a1 [59];exact⟨b1,by simp only;omega⟩
theorem VL{w:aW}:w=[105,102]↔kindP w=11:=by
 constructor
 ·rintro rfl;decide
 ·intro h;have:=(ID (w:=w) aE).1;rw[h]at this;exact this.symm
theorem Ob{w:aW}:w=VJ↔kindP w=12:=by
 constructor
 ·rintro rfl;decide
 ·intro h;have:=(ID (w:=w) aE).1;rw[h]at this;exact this.symm
theorem KR(s:aW)(T:List Tk)(c:Aq s T)(p:PS)(n:Nat)(ex bl:PS->Nd×PS)(hE:RR s T (n+1) 219 ex)(hB:RR s T n 141 bl)(hn:p.l.length<n+1)(f:kF T p):iG prog 174 [.bx 0 0] (dU s T p) (dU s T (stmtB ex bl p).2) (.d (stmtB ex bl p).1.d):=by
 unfold dU;refine iG.cell hT func174 bY (c:=_) rfl ntmps174 aM results174 λw0 X hp=>?_;apply aD;simp;refine cJ (λ|6=>some (.gen ⟨[(0,0)],[],[],dU s T p,.d (.str p.peek)⟩)|_=>none) ?_;simp;refine⟨jK s T p c f,?_⟩;apply aG;apply aV;simp;refine⟨λg=>?_,λg1 g2=>?_⟩
 ·have hk:kindP p.peek=11\/kindP p.peek=12:=g.imp VL.1 Ob.1;have es:=PY (ex:=ex) (bl:=bl) hk;have hpk:p.peek≠[]:=λe=>by rw[Av e]at hk;omega
  apply aG;have hbr:=NZ s T c p p.peek (kindP p.peek) hk Ob hpk n ex bl hE hB hn f;refine aP (λ|15=>some (.gen ⟨[(0,0)],[],[],dU s T (Sr ex bl (kindP p.peek) p).2,.d (Sr ex bl (kindP p.peek) p).1.d⟩)|_=>none) ?_;simp;refine⟨by simpa using hbr,?_⟩;apply aH;simp;exact aA hp [0] [(0,0)] (by simp[es]) (by simp[es])
 ·have hk:¬(kindP p.peek=11\/kindP p.peek=12):=λz=>z.elim (λy=>g1 (VL.2 y)) (λy=>g2 (Ob.2 y));have es:=KQ (ex:=ex) (bl:=bl) hk;apply aF;simp;apply aG;have hsm:=Oa s T c p p.peek rfl (n+1) ex hE hn f;have fm:=VK c.hg hE.fs p hn f;refine aP (λ|18=>some (.gen ⟨[(0,0)],[],[],dU s T (qN ex p).2,.d (qN ex p).1.d⟩)|_=>none) ?_;simp;refine⟨by simpa using hsm,?_⟩;apply aG;have hw5:=iI s T (qN ex p).2 c fm.1 [59] aM;refine aP (λ|20=>some (.gen ⟨[(0,0)],[],[],dU s T ((qN ex p).2.need [59]),.tup []⟩)|_=>none) ?_;simp;refine⟨hw5,?_⟩;apply aD;simp;apply aH;simp;exact aA hp [0] [(0,0)] (by simp[es]) (by simp[es])
theorem Su(n:Nat)(q:PS):(stmtP false n q).2=(stmtP true n q).2:=(stmtP_rl n q).1
theorem Oc:∀n:Nat,NV n (stmtP false n)
 |0=>λq h _ _=>absurd h (Nat.not_lt_zero _)
 |n+1=>EF (exprO_stk false) (blockB_stk (stmtP_stk false n)) (Ab (n+1)) (pH (stmtP_stk false n) (pY n))
theorem NV.stmtT(n:Nat):NV n (stmtP true n):=λq h g e=>by
 rw[<-Su];exact Oc n q h g e
theorem PZ{s:aW}{T:List Tk}(c:Aq s T):∀n:Nat,RR s T n 174 (stmtP true n)
 |0=>⟨λq h _=>absurd h (Nat.not_lt_zero _),λq h _=>absurd h (Nat.not_lt_zero _)⟩
 |n+1=>by
  have hB:=RR.block c (PZ c n) (NV.stmtT n);have hE:=VI c (n+1);exact⟨λq hq f=>KR s T c q n _ _ hE hB hq f,Fs.stmtB c.hg hE.fs hB.fs⟩
theorem RR.blockT{s:aW}{T:List Tk}(c:Aq s T)(n:Nat):RR s T n 141 (blockP true n):=RR.block c (PZ c n) (NV.stmtT n)
end
section
attribute[local simp] kQ.cond Nd.d_eq nd_t nd_dr nd_td ndsD aZ bP mQ dN dD
attribute[local simp] mE Cm Cn Co KN
theorem KS(n:Nat):mR n 182 (λq=>exprP false (q.l.length+1) q):=
 ⟨λq _ hg=>(ED (q.l.length+1)).ok q (Nat.lt_succ_self _) hg,λq hq hg=>(Ab n).le q hq hg⟩
theorem EG:∀n,NV n (stmtP false n)
 |0=>λq h=>absurd h (Nat.not_lt_zero _)
 |n+1=>EF (exprO_stk false) (blockB_stk (stmtP_stk false n)) (Ab (n+1)) (pH (stmtP_stk false n) (pY n))
theorem EH:∀n:Nat,n<=1100000->mR n 162 (stmtP false n)
 |0,_=>⟨λq h _=>absurd h (Nat.not_lt_zero _),λq h _=>absurd h (Nat.not_lt_zero _)⟩
 |n+1,h=>by
  have hB:mR n 125 (blockB (stmtP false n)):=
   ⟨λq hq hg=>KK q n (stmtP false n) (EH n aE) (EG n) hq hg aE,λq hq hg=>(pH (stmtP_stk false n) (pY n)).le q hq hg⟩
  refine⟨λq hq hg=>?_,λq hq hg=>(pY (n+1)).le q hq hg⟩;exact NX q n (λq=>exprP false (q.l.length+1) q) (blockB (stmtP false n)) (KS (n+1)) hB hq hg
theorem mR.block(n:Nat)(h:n<=1100000):mR n 125 (blockP false n):=
 ⟨λq hq hg=>KK q n (stmtP false n) (EH n h) (EG n) hq hg aE,λq hq hg=>(pH (stmtP_stk false n) (pY n)).le q hq hg⟩
theorem Yi(s:aW):defKind s=nZ (λx=>decide (s=x)) (wordsL.take 7):=by
 unfold defKind;have e2:(λi=>decide (wordsL.getD i []=s))=λi=>decide (s=wordsL.getD i []):=by funext i;rw[decide_eq_decide];exact eq_comm
 have e:=zC (λx=>decide (s=x)) [] (wordsL.take 7);split
 ·rename_i h;subst h;rfl
 ·unfold nZ;rw[<-e];rw[e2];rfl
theorem GT{s:aW}: -1<=defKind s/\defKind s<=6:=by
 unfold defKind;split
 ·omega
 ·split
  ·rename_i i e;have:=List.mem_of_find?_eq_some e;simp at this;omega
  ·omega
theorem EI{s:aW}(h:0<=defKind s):wordAt (defKind s)=s/\s≠[]:=by
 unfold defKind at*;split at h
 ·omega
 ·rename_i hs;split at h
  ·rename_i i e;have:=List.find?_some e;simp only[decide_eq_true_eq]at this;rw[if_neg hs];exact⟨this,hs⟩
  ·omega
theorem Yj{p:PS}(h:defKind p.peek<0):defP false p=(.mk 0 [] 0 [],p.fail 2):=by unfold defP;simp only[];rw[if_pos h]
theorem vV{p:PS}(h:¬defKind p.peek<0):p.skip=p.took (wordAt (defKind p.peek)):=by
 obtain⟨h1,h2⟩:=EI (s:=p.peek) aE;rw[h1,cH (eV.2 ⟨h2,rfl⟩)]
section
variable{p q:PS} {t:aW} {k:Int} (hk:defKind p.peek=k) (h:¬k<0) (hn:nameP (p.took (wordAt k))=(t,q))
include hk h hn
theorem Sv(h5:k=5\/k=6):defP false p=(.mk k t 0 [(blockP false (q.l.length+1) q).1],(blockP false (q.l.length+1) q).2):=by
 subst hk;unfold defP;simp only[];rw[if_neg h,vV h,hn,if_pos h5]
theorem Yk(h1:k=1):defP false p=(.mk k t 0 (itemsF ((q.need [123]).l.length+1) [] (q.need [123])).1,(itemsF ((q.need [123]).l.length+1) [] (q.need [123])).2.need [125]):=by
 subst hk;unfold defP;simp only[];rw[if_neg h,vV h,hn,if_neg aE,if_pos h1]
theorem Yl(h1:k=0):defP false p=(.mk k t (numberP (q.need [61])).1 [],(numberP (q.need [61])).2.need [59]):=by
 subst hk;unfold defP;simp only[];rw[if_neg h,vV h,hn,if_neg aE,if_neg aE,if_pos h1]
theorem VM(h1:k=2):defP false p=(.mk k t (numeralP 2 q).1 [],(numeralP 2 q).2.need [59]):=by
 subst hk;unfold defP;simp only[];rw[if_neg h,vV h,hn,if_neg aE,if_neg aE,if_neg aE,if_pos h1]
theorem VN(h1:¬(k=5\/k=6))(h2:¬k=1)(h3:¬k=0)(h4:¬k=2):defP false p=(.mk k t 0 [],q.need [59]):=by
 subst hk;unfold defP;simp only[];rw[if_neg h,vV h,hn,if_neg h1,if_neg h2,if_neg h3,if_neg h4]
end
theorem GU{ks:List Nd}{q:PS}(h:q.e=0->q.peek=[125]):∀f,itemsF f ks q=(ks,q)
 |0=>rfl
 |f+1=>by
  rw[itemsF,if_pos];by_cases e:q.e=0
  ·exact .inr (h e)
  ·exact .inl e
theorem KT{ks:List Nd}{q:PS}{f:Nat}(hf:q.l.length<f)(h:q.e=0)(hp:¬q.peek=[125]):
 itemsF f ks q=itemsF (f-1) (ks++[.mk 7 (nameP q).1 (numberP ((nameP q).2.need [61])).1 []]) ((numberP ((nameP q).2.need [61])).2.need [59]):=by
 obtain⟨k,rfl⟩:∃k,f=k+1:=⟨f-1,aE⟩;rw[itemsF,if_neg]
 ·rfl
 ·rintro(e|e)
  ·exact e h
  ·exact hp e
theorem GV{q:PS}(h:bM q.l):((numberP ((nameP q).2.need [61])).2.need [59]).l.length<=q.l.length/\bM ((numberP ((nameP q).2.need [61])).2.need [59]).l/\
 (((numberP ((nameP q).2.need [61])).2.need [59]).e=0->((numberP ((nameP q).2.need [61])).2.need [59]).l.length<q.l.length):=by
 have g1:=cV h;have g2:=cA (s:=[61]) g1.2.1;have g3:=oT g2.2;have g4:=cA (s:=[59]) g3.2.1;refine⟨aE,g4.2,λe=>?_⟩;have e1:=(need_e e).1;have l1:=gE e1;have:(numberP ((nameP q).2.need [61])).2.need [59]=(numberP ((nameP q).2.need [61])).2.skip:=by rw[Iu e1,cH e1]
 rw[this];omega
theorem KU:∀x∈List.take 26 rM,(aQ x).length=1:=by
 intro x hx;rw[yT]at hx;obtain⟨a,_,rfl⟩:=List.mem_map.1 hx;rfl
theorem KV:List.take 7 rM=(wordsL.take 7).map DV.str:=rfl
structure DnS where
 n:Int
 q:PS
theorem aAb(p:PS)(hg:bM p.l)(hb:p.l.length<=1000000):iG prog 73 [.bx 0 0] (dN p) (dN (defP false p).2) (.d (defP false p).1.d):=by
 unfold dN;refine iG.cell hT func73 bY (c:=_) rfl ntmps73 aM results73 λw0 X hp=>?_;apply aD;simp;apply aG;have hi:=rI (wordsL.take 7) p.peek;have q2:=jV;rw[<-Yi]at hi;have hr:=GT (s:=p.peek);refine eW.rd [[0]] [[],[],[0]] (λ|8=>some (.gen ⟨[(0,0)],[],[],dN p,.d (.str p.peek)⟩)|9=>some<| .plain ⟨.d (aI (defKind p.peek)),true⟩|_=>none) ?_;simp[KV];refine⟨⟨⟨⟨aE,KU⟩,mI p⟩,by simpa using hi⟩,?_⟩;apply aG;refine cJ (λ|14=>some (.gen ⟨[(0,0)],[],[],dN p,.d (.str p.peek)⟩)|_=>none) ?_;simp[sO];refine⟨λ_=>mI p,?_⟩;apply aJ;simp;refine⟨λh2=>?_,λh2 h2b=>?_⟩
 ·have h2:defKind p.peek<0:=by
   rcases h2 with h|h
   ·exact h
   ·rw[h];decide
  refine cJ (λ|18=>some (.gen ⟨[(0,0)],[],[],dN (p.fail 2),.tup []⟩)|_=>none) ?_;simp;refine⟨xM p 2,?_⟩;apply aD;simp;apply aH;simp;have e:=Yj h2;refine bA (x:=(defP false p).1.d) (by simp[e]) ?_;simp;exact aA hp [0] [(0,0)] (hH:=by simp[e])
 ·have hlt:¬defKind p.peek<0:=aE;apply aF;simp;apply aG;have hlt:¬defKind p.peek<0:=aE;have wat:=qY (k:=defKind p.peek) aE aE;have htk:=jX p (wordAt (defKind p.peek));refine aP (λ|24=>some (.gen ⟨[(0,0)],[],[],dN (p.took (wordAt (defKind p.peek))),.d (.bool (p.is (wordAt (defKind p.peek))))⟩)|_=>none) ?_;simp[wat];refine⟨⟨⟨aE,aE⟩,htk⟩,?_⟩;apply aG;have hna:=Ao (p.took (wordAt (defKind p.peek)));have gt:=dY (s:=wordAt (defKind p.peek)) hg;have gl:=cV gt;have lt:(p.took (wordAt (defKind p.peek))).l.length<=p.l.length:=by unfold PS.took;split;exact dZ;exact Nat.le_refl _
  refine aP (λ|27=>some (.gen ⟨[(0,0)],[],[],dN (nameP (p.took (wordAt (defKind p.peek)))).2,.d (.str (nameP (p.took (wordAt (defKind p.peek)))).1)⟩)|_=>none) ?_;simp;refine⟨hna,?_⟩;obtain⟨k,hk⟩:∃k,defKind p.peek=k:=⟨_,rfl⟩;obtain⟨⟨t,q⟩,hn⟩:∃x,nameP (p.took (wordAt (defKind p.peek)))=x:=⟨_,rfl⟩;simp only[hn]at gl;have lq:q.l.length<=p.l.length:=aE;simp only[hn];rw[hk]at hlt hn hr|-;refine aY (ι:=DnS) (λ⟨n,r⟩=>aR [(0,.bx 0 0),(2,.bx 2 0),(4,.bx 4 0)]) (λ⟨n,r⟩=>aL [(0,.box false [.d (mQ r.l),.d (aI r.e)]),(2,.box false [.d (aI 0),.d (.str []),.d (aI 0),.nl]),(4,.box false [.d (aI k),.d (.str t),.d (aI n),.nl])]) (λ⟨n,r⟩=>defP false p=(.mk k t n [],r.need [59])) ?_ λ⟨n,r⟩ hc27=>?_
  ·apply aD;simp;apply aO;refine aY (ι:=BC) (λ⟨b⟩=>aR [(0,.bx 0 0),(2,.bx 2 0),(4,.bx 4 0),(29,.d (aI k)),(30,.d (.bool b))]) (λ⟨b⟩=>aL [(0,.box false [.d (mQ q.l),.d (aI q.e)]),(2,.box false [.d (aI 0),.d (.str []),.d (aI 0),.nl]),(4,.box false [.d (aI k),.d (.str t),.d (aI 0),.nl])]) (λ⟨b⟩=>b=true↔(k=5\/k=6)) ?_ λ⟨b⟩ hc10=>?_
   ·apply aV;simp;refine⟨λh8=>?_,λh8=>?_⟩
    ·apply aF;simp;refine XG.mk ⟨decide (k=5)⟩ (aA hp [0,2,4,29,30] [(0,0),(2,2),(4,4)]) ?_;simp[h8]
    ·apply aK;simp;refine XG.mk ⟨decide (k=6)⟩ (aA hp [0,2,4,29,30] [(0,0),(2,2),(4,4)]) ?_;simp only[decide_eq_true_eq];omega
   ·apply aJ;simp;refine⟨λh10=>?_,λh10=>?_⟩
    ·have q10:=hc10.1 h10;apply aG;have hbl:=(mR.block (q.l.length+1) aE).ok q (Nat.lt_succ_self _) gl.2.1;refine aP (λ|34=>some (.gen ⟨[(0,0)],[],[],dN (blockP false (q.l.length+1) q).2,.d (blockP false (q.l.length+1) q).1.d⟩)|_=>none) ?_;simp;refine⟨by simpa using hbl,?_⟩;apply aD;simp;apply aH;simp;have e:=Sv hk hlt hn q10;refine bA (x:=(defP false p).1.d) (by simp[e]) ?_;simp;exact aA hp [0] [(0,0)] (hH:=by simp[e])
    ·have q10:¬(k=5\/k=6):=λz=>by simp[hc10.2 z]at h10
     apply aV;simp;refine⟨λh12=>?_,λh12=>?_⟩
     ·apply aG;have hne:=kX q [123];have gn:=cA (s:=[123]) gl.2.1;refine aP (λ|41=>some (.gen ⟨[(0,0)],[],[],dN (q.need [123]),.tup []⟩)|_=>none) ?_;simp;refine⟨hne,?_⟩;refine hZ (fz:=false) (cs:=[.d (aI k),.d (.str t),.d (aI 0),.nl]) 4 3 1066 4 bC ⟨aM,aM,aM,?_⟩;simp;apply dH;refine aU (ι:=BlS) (λ⟨f,ks,r⟩=>aR [(0,.bx 0 0),(2,.bx 2 0),(4,.bx 4 0)]) (λ⟨f,ks,r⟩=>aL [(0,.box false [.d (mQ r.l),.d (aI r.e)]),(2,.box false [.d (aI 0),.d (.str []),.d (aI 0),.nl]),(4,.box false [.d (aI k),.d (.str t),.d (aI 0),.ow 1066 0 ks.length]),(1066,.row false 4 (ks.map Nd.d))]) (λ⟨f,ks,r⟩=>(r.e=0->r.l.length<f)/\bM r.l/\r.l.length<=p.l.length/\ks.length+r.l.length<=p.l.length+(if r.e=0 then 0 else 1)/\itemsF ((q.need [123]).l.length+1) [] (q.need [123])=itemsF f ks r) (λ⟨f,ks,r⟩=>2*r.l.length+(if r.e=0 then 1 else 0)) ⟨(q.need [123]).l.length+1,[],q.need [123]⟩ (aA hp [0,2,4] [(0,0),(2,2),(4,4),(1066,1066)]) (⟨λ_=>Nat.lt_succ_self _,gn.2,by have:=gn.1;omega,by have:=gn.1;simp only[List.length_nil];omega,rfl⟩) λ⟨f,ks,r⟩ hi14=>?_;apply eA;have hpk:=mI r;refine aP (λ|49=>some (.gen ⟨[(0,0)],[],[],dN r,.d (.str r.peek)⟩)|_=>none) ?_;simp[sO];refine⟨λ_=>hpk,?_⟩;apply aJ;simp;refine⟨λg1 g2=>?_,λg=>?_⟩
      ·apply aF;simp;apply aO;apply aG;have ha:r.l.length<=p.l.length:=hi14.2.2.1;have hks:ks.length+r.l.length<=p.l.length:=by have z:=hi14.2.2.2.1;simp only[g1,if_true]at z;omega
       have hle:=GV (q:=r) hi14.2.1;have hn15:=Ao r;have g15:=cV (p:=r) hi14.2.1;have g16:=cA (s:=[61]) g15.2.1;refine aP (λ|53=>some (.gen ⟨[(0,0)],[],[],dN (nameP r).2,.d (.str (nameP r).1)⟩)|_=>none) ?_;simp;refine⟨hn15,?_⟩;apply aG;have hn16:=kX (nameP r).2 [61];refine aP (λ|56=>some (.gen ⟨[(0,0)],[],[],dN ((nameP r).2.need [61]),.tup []⟩)|_=>none) ?_;simp;refine⟨hn16,?_⟩;apply aG;have hn17:=GM ((nameP r).2.need [61]) g16.2;refine aP (λ|58=>some (.gen ⟨[(0,0)],[],[],dN (numberP ((nameP r).2.need [61])).2,.d (aI (numberP ((nameP r).2.need [61])).1)⟩)|_=>none) ?_;simp;refine⟨hn17,?_⟩;apply aG;have hn18:=kX (numberP ((nameP r).2.need [61])).2 [59];refine aP (λ|61=>some (.gen ⟨[(0,0)],[],[],dN ((numberP ((nameP r).2.need [61])).2.need [59]),.tup []⟩)|_=>none) ?_;simp;refine⟨hn18,?_⟩;apply aK;simp;refine⟨⟨aE,aE⟩,?_⟩;refine Pq.mk ⟨f-1,ks++[.mk 7 (nameP r).1 (numberP ((nameP r).2.need [61])).1 []],(numberP ((nameP r).2.need [61])).2.need [59]⟩ (aA hp [0,2,4] [(0,0),(2,2),(4,4),(66,1066)]) ?_ ?_
       ·refine⟨λe=>?_,hle.2.1,?_,?_,?_⟩
        ·show((numberP ((nameP r).2.need [61])).2.need [59]).l.length<f-1;have z:=hi14.1 g1;have h:=hle.2.2 e;omega
        ·show((numberP ((nameP r).2.need [61])).2.need [59]).l.length<=p.l.length;omega
        ·show(ks++[Nd.mk 7 (nameP r).1 (numberP ((nameP r).2.need [61])).1 []]).length+((numberP ((nameP r).2.need [61])).2.need [59]).l.length<=p.l.length+(if((numberP ((nameP r).2.need [61])).2.need [59]).e=0 then 0 else 1);rw[List.length_append,List.length_singleton];by_cases e:((numberP ((nameP r).2.need [61])).2.need [59]).e=0
         ·rw[if_pos e];have h:=hle.2.2 e;omega
         ·rw[if_neg e];omega
        ·rw[hi14.2.2.2.2];exact KT (hi14.1 g1) g1 g2
       ·show 2*((numberP ((nameP r).2.need [61])).2.need [59]).l.length+(if((numberP ((nameP r).2.need [61])).2.need [59]).e=0 then 1 else 0)<2*r.l.length+(if r.e=0 then 1 else 0);rw[if_pos g1];by_cases e:((numberP ((nameP r).2.need [61])).2.need [59]).e=0
        ·rw[if_pos e];have h:=hle.2.2 e;omega
        ·rw[if_neg e];omega
      ·apply bE;simp;apply aG;have hn20:=kX r [125];refine aP (λ|69=>some (.gen ⟨[(0,0)],[],[],dN (r.need [125]),.tup []⟩)|_=>none) ?_;simp;refine⟨hn20,?_⟩;apply aD;simp;apply aH;simp;have e:defP false p=(.mk k t 0 ks,r.need [125]):=by rw[Yk hk hlt hn h12,hi14.2.2.2.2,GU g]
       refine bA (x:=(defP false p).1.d) (by simp[e]) ?_;simp;exact aA hp [0] [(0,0)] (hH:=by simp[e])
     ·apply aV;simp;refine⟨λh22=>?_,λh22=>?_⟩
      ·apply aG;have hne:=kX q [61];have gn:=cA (s:=[61]) gl.2.1;refine aP (λ|74=>some (.gen ⟨[(0,0)],[],[],dN (q.need [61]),.tup []⟩)|_=>none) ?_;simp;refine⟨hne,?_⟩;have hnu:=GM (q.need [61]) gn.2;refine aP (λ|76=>some (.gen ⟨[(0,0)],[],[],dN (numberP (q.need [61])).2,.d (aI (numberP (q.need [61])).1)⟩)|_=>none) ?_;simp;refine⟨hnu,?_⟩;refine XG.mk ⟨(numberP (q.need [61])).1,(numberP (q.need [61])).2⟩ (aA hp [0,2,4] [(0,0),(2,2),(4,4)]) ?_;exact Yl hk hlt hn h22
      ·apply aV;simp;refine⟨λh25=>?_,λh25=>?_⟩
       ·have hnu:=qF q 2 gl.2.1 bC;refine aP (λ|81=>some (.gen ⟨[(0,0)],[],[],dN (numeralP 2 q).2,.d (aI (numeralP 2 q).1)⟩)|_=>none) ?_;simp;refine⟨hnu,?_⟩;refine XG.mk ⟨(numeralP 2 q).1,(numeralP 2 q).2⟩ (aA hp [0,2,4] [(0,0),(2,2),(4,4)]) ?_;exact VM hk hlt hn h25
       ·apply aF;simp;refine XG.mk ⟨0,q⟩ (aA hp [0,2,4] [(0,0),(2,2),(4,4)]) ?_;exact VN hk hlt hn q10 h12 h22 h25
  ·apply aG;have hne:=kX r [59];refine aP (λ|84=>some (.gen ⟨[(0,0)],[],[],dN (r.need [59]),.tup []⟩)|_=>none) ?_;simp;refine⟨hne,?_⟩;apply aD;simp;apply aH;simp;refine bA (x:=(defP false p).1.d) (by simp[hc27]) ?_;simp;exact aA hp [0] [(0,0)] (hH:=by simp[hc27])
end
section
attribute[local simp] kQ.cond Nd.d_eq nd_t nd_dr nd_td ndsD aZ bP dD dU Ar As At oI
theorem KW{p:PS}(h:defKind p.peek<0):defP true p=(.mk 0 [] 0 [],p.fail 2):=by unfold defP;simp only[];rw[if_pos h]
section
variable{p q:PS} {t:aW} {k:Int} (hk:defKind p.peek=k) (h:¬k<0) (hn:nameP p.skip=(t,q))
include hk h hn
theorem EJ(h5:k=5\/k=6):defP true p=(.mk k t 0 [(blockP true (q.l.length+1) q).1],(blockP true (q.l.length+1) q).2):=by
 subst hk;unfold defP;simp only[];rw[if_neg h,hn,if_pos h5]
theorem KX(h1:k=1):defP true p=(.mk k t 0 (itemsF ((q.need [123]).l.length+1) [] (q.need [123])).1,(itemsF ((q.need [123]).l.length+1) [] (q.need [123])).2.need [125]):=by
 subst hk;unfold defP;simp only[];rw[if_neg h,hn,if_neg aE,if_pos h1]
theorem KY(h1:k=0):defP true p=(.mk k t (numberP (q.need [61])).1 [],(numberP (q.need [61])).2.need [59]):=by
 subst hk;unfold defP;simp only[];rw[if_neg h,hn,if_neg aE,if_neg aE,if_pos h1]
theorem GW(h1:k=2):defP true p=(.mk k t (numeralP 2 q).1 [],(numeralP 2 q).2.need [59]):=by
 subst hk;unfold defP;simp only[];rw[if_neg h,hn,if_neg aE,if_neg aE,if_neg aE,if_pos h1]
theorem GX(h1:¬(k=5\/k=6))(h2:¬k=1)(h3:¬k=0)(h4:¬k=2):defP true p=(.mk k t 0 [],q.need [59]):=by
 subst hk;unfold defP;simp only[];rw[if_neg h,hn,if_neg h1,if_neg h2,if_neg h3,if_neg h4]
end
theorem kF.item{T:List Tk}{q:PS}(f:kF T q):kF T ((numberP ((nameP q).2.need [61])).2.need [59]):=f.name.need.number.need
theorem kF.items{T:List Tk}:∀(g:Nat) (ks:List Nd) (p:PS),kF T p->kF T (itemsF g ks p).2
 |0,_,_,f=>f
 |g+1,ks,p,f=>by
  rw[itemsF];split
  ·exact f
  ·exact kF.items g _ _ f.item
theorem Ym(s:aW)(T:List Tk)(c:Aq s T)(p:PS)(f:kF T p):iG prog 84 [.bx 0 0] (dU s T p) (dU s T (defP true p).2) (.d (defP true p).1.d):=by
 unfold dU;have htt:=c.ht;have hst:=tP;have q2:=jV;obtain⟨w,hw⟩:∃w,p.peek=w:=⟨_,rfl⟩;refine iG.cell hT func84 bY (c:=_) rfl ntmps84 aM results84 λw0 X hp=>?_;apply aD;simp;refine cJ (λ|8=>some (.gen ⟨[(0,0)],[],[],dU s T p,.d (.str p.peek)⟩)|_=>none) ?_;simp;refine⟨jK s T p c f,?_⟩;simp only[hw];apply aD;simp;refine aY (ι:=Nat) (λi=>aR [(0,.bx 0 0),(2,.bx 2 0),(3,.d (.str w)),(4,.d (aI (i:Int)))]) (λi=>aL [(0,.box false [.d (.str s),.d (.sl (T.map Tk.r)),.d (aI ((T.length:Int)- p.l.length)),.d (.bool (!decide (p.e=0))),.d (.bool (decide (p.e=5)))]),(2,.box false [.d (aI 0),.d (.str []),.d (aI 0),.nl])]) (λi=>i<=7/\(∀j:Nat,j<i->wordAt (j:Int)≠w)/\((i:Int)<7->wordAt (i:Int)=w)) ?_ λi hc5=>?_
 ·apply aO;refine aU (ι:=Nat) (λi=>aR [(0,.bx 0 0),(2,.bx 2 0),(3,.d (.str w)),(4,.d (aI (i:Int)))]) (λi=>aL [(0,.box false [.d (.str s),.d (.sl (T.map Tk.r)),.d (aI ((T.length:Int)- p.l.length)),.d (.bool (!decide (p.e=0))),.d (.bool (decide (p.e=5)))]),(2,.box false [.d (aI 0),.d (.str []),.d (aI 0),.nl])]) (λi=>i<=7/\∀j:Nat,j<i->wordAt (j:Int)≠w) (λi=>7-i) 0 (aA hp [0,2,3,4] [(0,0),(2,2)]) (⟨bC,λj h2=>absurd h2 aE⟩) λi hi3=>?_;apply eA;rcases(by have:=hi3.1;omega:¬(i:Int)<7\/(i:Int)<7)with h26|h26
  ·refine tC hT hW (λ_=>none) (by intro d;first|exact⟨rfl,λ_ h=>h⟩|(split<;>exact⟨rfl,λ_ h=>h⟩)) ?_;simp[h26];apply aJ;simp[h26];apply bE;simp;refine XG.mk i (aA hp [0,2,3,4] [(0,0),(2,2)]) ?_;exact⟨hi3.1,hi3.2,λz=>absurd z h26⟩
  ·have q1:=qY (k:=(i:Int)) aE aE;rw[Int.toNat_natCast]at q1;refine aP (λ|12=>some<| .plain ⟨.d (.sl rM),true⟩|_=>none) ?_;simp[h26,q1];refine⟨⟨hst,aE⟩,?_⟩;apply aJ;simp;refine⟨λh3=>?_,λh3=>?_⟩
   ·apply aF;simp;apply aO;apply aK;simp;refine⟨aE,?_⟩;refine Pq.mk (i+1) (aA hp [0,2,3,4] [(0,0),(2,2)]) ?_ ?_
    ·refine⟨aE,λj z2=>?_⟩;by_cases e:j=i
     ·rw[e];exact h3
     ·exact hi3.2 j aE
    ·omega
   ·apply bE;simp;refine XG.mk i (aA hp [0,2,3,4] [(0,0),(2,2)]) ?_;exact⟨hi3.1,hi3.2,λ_=>h3⟩
 ·apply aG;apply aV;simp;refine⟨λh5=>?_,λh5=>?_⟩
  ·have hneg:defKind p.peek<0:=Classical.byContradiction λz=>by
    obtain⟨z1,z2⟩:=EI (s:=p.peek) aE;have z3:=GT (s:=p.peek);refine hc5.2.1 (defKind p.peek).toNat aE ?_;rw[Int.toNat_of_nonneg aE,z1,hw]
   have ed:=KW hneg;apply aD;simp;apply aD;simp;apply aH;simp;refine bA (x:=(defP true p).1.d) (by simp[ed]) ?_;simp;exact aA hp [0] [(0,0)] (hH:=by simp[ed])
  ·have hi:i<7:=by have:=hc5.1;omega
   have hwi:=hc5.2.2 aE;have hki:defKind p.peek=(i:Int):=by rw[hw,<-hwi];exact UU aE
   have hpk:p.peek≠[]:=(EI (s:=p.peek) aE).2;have hsk:=rA (T:=T) hpk;have hps:=f.pos hpk;have hl:=pW hpk;have fsk:=f.skip;obtain⟨⟨t,q⟩,hnq⟩:∃x,nameP p.skip=x:=⟨_,rfl⟩;have fq:kF T q:=by have:=fsk.name;rw[hnq]at this;exact this
   have hge:¬(i:Int)<0:=aE;apply aF;simp;apply aD;simp;refine⟨aE,?_⟩;simp only[<-hsk];apply aG;have hna:=qG s T p.skip c fsk;rw[hnq]at hna;refine aP (λ|36=>some (.gen ⟨[(0,0)],[],[],dU s T q,.d (.str t)⟩)|_=>none) ?_;simp;refine⟨hna,?_⟩;refine aY (ι:=DnS) (λ⟨n,r⟩=>aR [(0,.bx 0 0),(2,.bx 2 0),(5,.bx 5 0)]) (λ⟨n,r⟩=>aL [(0,.box false [.d (.str s),.d (.sl (T.map Tk.r)),.d (aI ((T.length:Int)- r.l.length)),.d (.bool (!decide (r.e=0))),.d (.bool (decide (r.e=5)))]),(2,.box false [.d (aI 0),.d (.str []),.d (aI 0),.nl]),(5,.box false [.d (aI (i:Int)),.d (.str t),.d (aI (n)),.nl])]) (λ⟨n,r⟩=>defP true p=(.mk (i:Int) t n [],r.need [59])/\kF T r) ?_ λ⟨n,r⟩ hc30=>?_
   ·apply aD;simp;apply aO;apply aV;simp;refine⟨λh11=>?_,λh11=>?_⟩
    ·apply aG;have hne:=iI s T q c fq [61] aM;refine aP (λ|42=>some (.gen ⟨[(0,0)],[],[],dU s T (q.need [61]),.tup []⟩)|_=>none) ?_;simp;refine⟨hne,?_⟩;have hnu:=EA s T (q.need [61]) c fq.need;refine aP (λ|44=>some (.gen ⟨[(0,0)],[],[],dU s T (numberP (q.need [61])).2,.d (aI (numberP (q.need [61])).1)⟩)|_=>none) ?_;simp;refine⟨hnu,?_⟩;refine XG.mk ⟨(numberP (q.need [61])).1,(numberP (q.need [61])).2⟩ (aA hp [0,2,5] [(0,0),(2,2),(5,5)]) ?_;exact⟨KY hki hge hnq aE,fq.need.number⟩
    ·apply aV;simp;refine⟨λh14=>?_,λh14=>?_⟩
     ·have hnu:=jL s T q c fq 2 0 3 (.inl rfl) rfl;refine aP (λ|49=>some (.gen ⟨[(0,0)],[],[],dU s T (numeralP 2 q).2,.d (aI (numeralP 2 q).1)⟩)|_=>none) ?_;simp;refine⟨hnu,?_⟩;refine XG.mk ⟨(numeralP 2 q).1,(numeralP 2 q).2⟩ (aA hp [0,2,5] [(0,0),(2,2),(5,5)]) ?_;exact⟨GW hki hge hnq h14,fq.numeral⟩
     ·apply aV;simp;refine⟨λh16=>?_,λh16=>?_⟩
      ·apply aG;have hne:=iI s T q c fq [123] aM;have gn:=Fs.need fq [123];have hqT:=fq.le;refine aP (λ|54=>some (.gen ⟨[(0,0)],[],[],dU s T (q.need [123]),.tup []⟩)|_=>none) ?_;simp;refine⟨hne,?_⟩;refine hZ (fz:=false) (cs:=[.d (aI (i:Int)),.d (.str t),.d (aI 0),.nl]) 5 3 1079 4 bC ⟨aM,aM,aM,?_⟩;simp;apply dH;refine aU (ι:=BlS) (λ⟨g,ks,r⟩=>aR [(0,.bx 0 0),(2,.bx 2 0),(5,.bx 5 0)]) (λ⟨g,ks,r⟩=>aL [(0,.box false [.d (.str s),.d (.sl (T.map Tk.r)),.d (aI ((T.length:Int)- r.l.length)),.d (.bool (!decide (r.e=0))),.d (.bool (decide (r.e=5)))]),(2,.box false [.d (aI 0),.d (.str []),.d (aI 0),.nl]),(5,.box false [.d (aI (i:Int)),.d (.str t),.d (aI (0)),.ow 1079 0 ks.length]),(1079,.row false 4 (ks.map Nd.d))]) (λ⟨g,ks,r⟩=>(r.e=0->r.l.length<g)/\kF T r/\r.l.length<=q.l.length/\ks.length+r.l.length<=q.l.length+(if r.e=0 then 0 else 1)/\itemsF ((q.need [123]).l.length+1) [] (q.need [123])=itemsF g ks r) (λ⟨g,ks,r⟩=>2*r.l.length+(if r.e=0 then 1 else 0)) ⟨(q.need [123]).l.length+1,[],q.need [123]⟩ (aA hp [0,2,5] [(0,0),(2,2),(5,5),(1079,1079)]) (⟨λ_=>Nat.lt_succ_self _,gn.1,gn.2,by have:=gn.2;simp only[List.length_nil];omega,rfl⟩) λ⟨g,ks,r⟩ hi18=>?_;apply eA;have hpk18:=jK s T r c hi18.2.1;refine aP (λ|62=>some (.gen ⟨[(0,0)],[],[],dU s T r,.d (.str r.peek)⟩)|_=>none) ?_;simp[sO];refine⟨λ_=>hpk18,?_⟩;apply aJ;simp;refine⟨λg1 g2=>?_,λg=>?_⟩
       ·apply aF;simp;apply aO;apply aG;have ha:r.l.length<=q.l.length:=hi18.2.2.1;have hks:ks.length+r.l.length<=q.l.length:=by have z:=hi18.2.2.2.1;simp only[g1,if_true]at z;omega
        have hle:=GV (q:=r) (hi18.2.1.good c);have hn19:=qG s T r c hi18.2.1;have f19:=hi18.2.1.name;refine aP (λ|66=>some (.gen ⟨[(0,0)],[],[],dU s T (nameP r).2,.d (.str (nameP r).1)⟩)|_=>none) ?_;simp;refine⟨hn19,?_⟩;apply aG;have hn20:=iI s T (nameP r).2 c f19 [61] aM;refine aP (λ|69=>some (.gen ⟨[(0,0)],[],[],dU s T ((nameP r).2.need [61]),.tup []⟩)|_=>none) ?_;simp;refine⟨hn20,?_⟩;apply aG;have hn21:=EA s T ((nameP r).2.need [61]) c f19.need;refine aP (λ|71=>some (.gen ⟨[(0,0)],[],[],dU s T (numberP ((nameP r).2.need [61])).2,.d (aI (numberP ((nameP r).2.need [61])).1)⟩)|_=>none) ?_;simp;refine⟨hn21,?_⟩;apply aG;have hn22:=iI s T (numberP ((nameP r).2.need [61])).2 c f19.need.number [59] aM;refine aP (λ|74=>some (.gen ⟨[(0,0)],[],[],dU s T ((numberP ((nameP r).2.need [61])).2.need [59]),.tup []⟩)|_=>none) ?_;simp;refine⟨hn22,?_⟩;apply aK;simp;refine⟨⟨aE,aE⟩,?_⟩;refine Pq.mk ⟨g-1,ks++[.mk 7 (nameP r).1 (numberP ((nameP r).2.need [61])).1 []],((numberP ((nameP r).2.need [61])).2.need [59])⟩ (aA hp [0,2,5] [(0,0),(2,2),(5,5),(79,1079)]) ?_ ?_
        ·refine⟨λe=>?_,hi18.2.1.item,?_,?_,?_⟩
         ·show((numberP ((nameP r).2.need [61])).2.need [59]).l.length<g-1;have z:=hi18.1 g1;have h:=hle.2.2 e;omega
         ·show((numberP ((nameP r).2.need [61])).2.need [59]).l.length<=q.l.length;omega
         ·show(ks++[Nd.mk 7 (nameP r).1 (numberP ((nameP r).2.need [61])).1 []]).length+((numberP ((nameP r).2.need [61])).2.need [59]).l.length<=q.l.length+(if((numberP ((nameP r).2.need [61])).2.need [59]).e=0 then 0 else 1);rw[List.length_append,List.length_singleton];by_cases e:((numberP ((nameP r).2.need [61])).2.need [59]).e=0
          ·rw[if_pos e];have h:=hle.2.2 e;omega
          ·rw[if_neg e];omega
         ·rw[hi18.2.2.2.2];exact KT (hi18.1 g1) g1 g2
        ·show 2*((numberP ((nameP r).2.need [61])).2.need [59]).l.length+(if((numberP ((nameP r).2.need [61])).2.need [59]).e=0 then 1 else 0)<2*r.l.length+(if r.e=0 then 1 else 0);rw[if_pos g1];by_cases e:((numberP ((nameP r).2.need [61])).2.need [59]).e=0
         ·rw[if_pos e];have h:=hle.2.2 e;omega
         ·rw[if_neg e];omega
       ·apply bE;simp;apply aG;have hn24:=iI s T r c hi18.2.1 [125] aM;refine aP (λ|82=>some (.gen ⟨[(0,0)],[],[],dU s T (r.need [125]),.tup []⟩)|_=>none) ?_;simp;refine⟨hn24,?_⟩;apply aD;simp;apply aH;simp;have e:defP true p=(.mk (i:Int) t 0 ks,r.need [125]):=by rw[KX hki hge hnq h16,hi18.2.2.2.2,GU g]
        refine bA (x:=(defP true p).1.d) (by simp[e]) ?_;simp;exact aA hp [0] [(0,0)] (hH:=by simp[e])
      ·refine aY (ι:=BC) (λ⟨b⟩=>aR [(0,.bx 0 0),(2,.bx 2 0),(5,.bx 5 0),(38,.d (aI (i:Int))),(84,.d (.bool b))]) (λ⟨b⟩=>aL [(0,.box false [.d (.str s),.d (.sl (T.map Tk.r)),.d (aI ((T.length:Int)- q.l.length)),.d (.bool (!decide (q.e=0))),.d (.bool (decide (q.e=5)))]),(2,.box false [.d (aI 0),.d (.str []),.d (aI 0),.nl]),(5,.box false [.d (aI (i:Int)),.d (.str t),.d (aI (0)),.nl])]) (λ⟨b⟩=>b=true↔((i:Int)=5\/(i:Int)=6)) ?_ λ⟨b⟩ hc28=>?_
       ·apply aV;simp;refine⟨λh26=>?_,λh26=>?_⟩
        ·apply aF;simp;refine XG.mk ⟨decide ((i:Int)=5)⟩ (aA hp [0,2,5,38,84] [(0,0),(2,2),(5,5)]) ?_;simp[h26]
        ·apply aK;simp;refine XG.mk ⟨decide ((i:Int)=6)⟩ (aA hp [0,2,5,38,84] [(0,0),(2,2),(5,5)]) ?_;simp only[decide_eq_true_eq];omega
       ·apply aJ;simp;refine⟨λh28=>?_,λh28=>?_⟩
        ·have q28:=hc28.1 h28;apply aG;have hbl:=(RR.blockT c (q.l.length+1)).ok q (Nat.lt_succ_self _) fq;refine eW.rd [[0,91],[0,91]] [[],[],[],[0],[91],[92],[],[5]] (λ|90=>some (.gen ⟨[(0,0)],[],[],dU s T (blockP true (q.l.length+1) q).2,.d (blockP true (q.l.length+1) q).1.d⟩)|_=>none) ?_;simp;refine⟨by simpa using hbl,?_⟩;apply aD;simp;apply aH;simp;have e:=EJ hki hge hnq q28;refine bA (x:=(defP true p).1.d) (by simp[e]) ?_;simp;exact aA hp [0] [(0,0)] (hH:=by simp[e])
        ·have q28:¬((i:Int)=5\/(i:Int)=6):=λq=>by simp[hc28.2 q]at h28
         apply aF;simp;refine XG.mk ⟨0,q⟩ (aA hp [0,2,5] [(0,0),(2,2),(5,5)]) ?_;exact⟨GX hki hge hnq q28 h16 aE h14,fq⟩
   ·apply aG;have hne:=iI s T r c hc30.2 [59] aM;refine aP (λ|96=>some (.gen ⟨[(0,0)],[],[],dU s T (r.need [59]),.tup []⟩)|_=>none) ?_;simp;refine⟨hne,?_⟩;apply aD;simp;apply aH;simp;have e:=hc30.1;refine bA (x:=(defP true p).1.d) (by simp[e]) ?_;simp;exact aA hp [0] [(0,0)] (hH:=by simp[e])
theorem kF.def{s:aW}{T:List Tk}(c:Aq s T){p:PS}(f:kF T p):kF T (defP true p).2:=by
 obtain⟨k,hk⟩:∃k,defKind p.peek=k:=⟨_,rfl⟩;obtain⟨⟨t,q⟩,hn⟩:∃x,nameP p.skip=x:=⟨_,rfl⟩;have fq:kF T q:=by have:=f.skip.name;rw[hn]at this;exact this
 by_cases h:k<0
 ·rw[KW aE];exact f.fail (.inl rfl)
 ·by_cases h1:k=5\/k=6
  ·rw[EJ hk h hn h1];exact((RR.blockT c (q.l.length+1)).fs q (Nat.lt_succ_self _) fq).1
  ·by_cases h2:k=1
   ·rw[KX hk h hn h2];exact(kF.items _ _ _ fq.need).need
   ·by_cases h3:k=0
    ·rw[KY hk h hn h3];exact fq.need.number.need
    ·by_cases h4:k=2
     ·rw[GW hk h hn h4];exact fq.numeral.need
     ·rw[GX hk h hn h1 h2 h3 h4];exact fq.need
end
section
attribute[local simp] kQ.cond Nd.d_eq nd_t nd_dr nd_td ndsD aZ
end
def Wt(x:PS->Nd×PS):Prop:=∀p:PS,bM p.l->weighN (x p).1+41*(x p).2.l.length<=41*p.l.length+40/\bM (x p).2.l
theorem EK:Wt placeP:=λp h=>by
 have a:=cV h;have t1:=oZ h;unfold placeP;split
 ·have b:=cV (dB a.2.1);have t2:=oZ (p:=(nameP p).2.skip) (dB a.2.1);have s:=dZ (p:=(nameP p).2);refine⟨?_,b.2.1⟩;simp only[weighN,weighL,List.length_append,List.length_cons];omega
 ·refine⟨?_,a.2.1⟩;simp only[weighN,weighL];omega
theorem Yn{ex:PS->Nd×PS}(hx:Wt ex):Wt (factP ex):=λp h=>by
 unfold factP;split
 ·have a:=hx p.skip (dB h);have s:=dZ (p:=p);have n:=iB (p:=(ex p.skip).2) (s:=[41]);exact⟨by simp only;omega,(cA a.2).2⟩
 ·split
  ·have s:=dZ (p:=p);exact⟨by simp only[weighN,weighL,List.length_nil];omega,dB h⟩
  ·split
   ·split
    ·have a:=eR (k:=32) h;exact⟨by simp only[weighN,weighL,List.length_nil];omega,a.2.1⟩
    ·split
     ·have a:=eE h;have t:(localP p).1.length<=17:=by
       by_cases q:p.peek.take 1=[36]
       ·rw[(kO q).2];have:=mJ h;simp only[List.length_drop];omega
       ·rw[nH q];simp
      exact⟨by simp only[weighN,weighL];omega,a.2.1⟩
     ·exact EK p h
   ·exact EK p h
theorem GY{lv:Int}{x:PS->Nd×PS}(hx:Wt x)(B:Nat):∀(f:Nat) (n:Nd) (p:PS),bM p.l->weighN n+41*p.l.length<=B->weighN (chainF lv x f n p).1+41*(chainF lv x f n p).2.l.length<=B/\bM (chainF lv x f n p).2.l
 |0,_,_,h,hn=>⟨hn,h⟩
 |f+1,n,p,h,hn=>by
  have o:=xD (lv:=lv) h;unfold chainF;split
  ·exact⟨hn,h⟩
  ·split
   ·exact⟨by simp only;omega,o.2⟩
   ·rename_i q;have ol:=CX (lv:=lv) (q:=p) aE;have a:=hx (opP lv p).2 o.2;refine GY hx B f _ _ a.2 ?_;simp only[weighN,weighL,List.length_nil];omega
theorem GZ{lv:Int}{x:PS->Nd×PS}(hx:Wt x):Wt (chainP lv x):=λp h=>GY hx _ _ _ _ (hx p h).2 (hx p h).1
theorem VO{ex:PS->Nd×PS}(hx:Wt ex):Wt (sumP ex):=GZ (GZ (Yn hx))
theorem VP{ex:PS->Nd×PS}(hx:Wt ex):Wt (exprB ex):=λp h=>by
 have a:=VO hx p h;have o:=xD (lv:=1) a.2;by_cases q:0<=(opP 1 (sumP ex p).2).1
 ·have ol:=CX q;have b:=VO hx (opP 1 (sumP ex p).2).2 o.2;rw[Bs q];refine⟨?_,b.2⟩;simp only[weighN,weighL,List.length_nil];omega
 ·rw[Bt aE];exact⟨by simp only;omega,o.2⟩
theorem KZ:∀f,Wt (exprP false f)
 |0=>λp h=>⟨by
   have:weighN (default:Nd)<=40:=bC;show weighN default+41*p.l.length<=_;omega,h⟩
 |f+1=>λp h=>by
  rw[exprP,if_neg aM];exact VP (KZ f) p h
def Ws(n:Nat)(x:PS->Nd×PS):Prop:=∀p:PS,p.l.length<n->bM p.l->weighN (x p).1+240*(x p).2.l.length<=240*p.l.length+90/\bM (x p).2.l/\((x p).2.e=0->weighN (x p).1+240*(x p).2.l.length<=240*p.l.length)
def Wb(n:Nat)(x:PS->Nd×PS):Prop:=∀p:PS,p.l.length<n->bM p.l->weighN (x p).1+240*(x p).2.l.length<=240*p.l.length+91/\bM (x p).2.l
theorem tT(a b:List Nd):weighL (a++b)=weighL a+weighL b:=by
 induction a with
 |nil=>simp[weighL]
 |cons x a ih=>simp only[List.cons_append,weighL,ih];omega
theorem Ha{m:Nat}{st:PS->Nd×PS}(hs:Ws m st)(B:Nat):∀(f:Nat) (ks:List Nd) (p:PS),p.l.length<m->bM p.l->weighL ks+240*p.l.length<=B+90->(p.e=0->weighL ks+240*p.l.length<=B)->
 weighL (stmtsF st f ks p).1+240*(stmtsF st f ks p).2.l.length<=B+90/\bM (stmtsF st f ks p).2.l
 |0,_,_,_,h,h1,_=>⟨h1,h⟩
 |f+1,ks,p,hm,h,h1,h2=>by
  unfold stmtsF;split
  ·exact⟨h1,h⟩
  ·rename_i q;have e0:p.e=0:=Classical.byContradiction λz=>q (.inl z);have a:=hs p hm h;have b:=h2 e0;refine Ha hs B f _ _ (by have:=a.1;omega) a.2.1 ?_ λz=>?_
   ·rw[tT];simp only[weighL];have:=a.1;omega
   ·rw[tT];simp only[weighL];have:=a.2.2 z;omega
theorem Hb{m:Nat}{st:PS->Nd×PS}(hs:Ws m st):Wb m (blockB st):=λp hm h=>by
 have n:=iB (p:=p) (s:=[123]);have g:=(cA (s:=[123]) h).2;unfold blockB;simp only[];have a:=Ha hs (240*(p.need [123]).l.length) ((p.need [123]).l.length+1) [] (p.need [123]) aE g (by simp only[weighL];omega) (λ_=>by simp only[weighL];omega);have m:=iB (p:=(stmtsF st ((p.need [123]).l.length+1) [] (p.need [123])).2) (s:=[125]);refine⟨?_,(cA a.2).2⟩;simp only[weighN,List.length_nil];have:=a.1;omega
theorem Yo{ex:PS->Nd×PS}(hx:Wt ex){k:Int}:∀p:PS,bM p.l->weighN (cmdP ex k p).1+240*(cmdP ex k p).2.l.length<=240*p.l.length+90/\bM (cmdP ex k p).2.l:=λp h=>by
 have a:=sP (k:=k) h;have t:(cmdA k p).1.length<=17:=by
  unfold cmdA;split
  ·by_cases q:p.peek.take 1=[36]
   ·rw[(kO q).2];have:=mJ h;simp only[List.length_drop];omega
   ·rw[nH q];simp
  ·split
   ·simp
   ·exact oZ h
 by_cases h1:k=15\/k=22\/k=24
 ·rw[EE h1];have b:=hx (cmdA k p).2 a.2;refine⟨?_,b.2⟩;simp only[weighN,weighL];omega
 ·by_cases h2:k=16\/k=23
  ·rw[CY h1 h2];have b:=eE a.2;have t2:(localP (cmdA k p).2).1.length<=17:=by
    by_cases q:(cmdA k p).2.peek.take 1=[36]
    ·rw[(kO q).2];have:=mJ a.2;simp only[List.length_drop];omega
    ·rw[nH q];simp
   refine⟨?_,b.2.1⟩;simp only[weighN,weighL];omega
  ·by_cases h3:k=19\/k=21\/k=25
   ·rw[xN h1 h2 h3];have b:=eR (k:=k) a.2;refine⟨?_,b.2.1⟩;simp only[weighN,weighL];omega
   ·rw[sQ h1 h2 h3];refine⟨?_,a.2⟩;simp only[weighN,weighL];omega
theorem Od{p:PS}(h:bM p.l)(he3:(placeP p).2.e=0):(placeP p).2.l.length<p.l.length:=by
 unfold placeP at he3|-;have nm:(nameP p).2.e=0->(nameP p).2.l.length<p.l.length:=λz=>by
  cases q:isNameB p.peek with
  |false=>rw[qE q]at z;exact absurd z (fail_e bC)
  |true=>
   have ip:p.is p.peek=true:=eV.2 ⟨λe=>(by rw[e]at q;cases q),rfl⟩;have lp:=gE ip;rw[tR q,cH ip];simp only;omega
 have ng:=cV h;split at he3
 ·rename_i z;rw[if_pos z];have z2:(nameP p).2.skip.e=0:=nameP_stk _ he3;have z3:(nameP p).2.e=0:=z2;have ll:=(cV (p:=(nameP p).2.skip) (dB ng.2.1)).1;have l3:=dZ (p:=(nameP p).2);have:=nm z3;simp only;omega
 ·rename_i z;rw[if_neg z];exact nm he3
theorem VQ{m:Nat}{ex bl:PS->Nd×PS}(hs:Stk ex)(hx:Wt ex)(hb:Wb m bl):Ws (m+1) (stmtB ex bl):=λp hm h=>by
 obtain⟨k,hk⟩:∃k,kindP p.peek=k:=⟨_,rfl⟩;by_cases h1:k=11\/k=12
 ·have ip:=kP (p:=p) aE;have lp:=gE ip;rw[<-cH ip]at lp;have e0:=hx (p.took p.peek) (dY h);have b0:=hb (ex (p.took p.peek)).2 (by have:=e0.1;omega) e0.2;by_cases h2:k=11/\(bl (ex (p.took p.peek)).2).2.is sElse=true
  ·rw[CZ hk h2.1 h2.2];have l2:=gE h2.2;rw[<-cH h2.2]at l2;have c0:=hb ((bl (ex (p.took p.peek)).2).2.took sElse) (by have:=e0.1;have:=b0.1;omega) (dY b0.2);refine⟨?_,c0.2,λ_=>?_⟩<;>(simp only[weighN,weighL,List.length_nil];omega)
  ·rw[PU hk h1 (λq=>by
    cases z:(bl (ex (p.took p.peek)).2).2.is sElse with
    |false=>rfl
    |true=>exact absurd ⟨q,z⟩ h2)]
   refine⟨?_,b0.2,λ_=>?_⟩<;>(simp only[weighN,weighL,List.length_nil];omega)
 ·by_cases h3:12<k
  ·have ip:=kP (p:=p) aE;have lp:=gE ip;rw[<-cH ip]at lp;have c0:=Yo hx (k:=k) (p.took p.peek) (dY h);rw[IA hk h3];have n:=iB (p:=(cmdP ex k (p.took p.peek)).2) (s:=[59]);refine⟨?_,(cA c0.2).2,λ_=>?_⟩<;>(simp only;omega)
  ·by_cases h4:p.peek.take 1=[36]
   ·obtain⟨i1,i2⟩:=kO h4;have ip:p.is p.peek=true:=eV.2 ⟨λe=>(by rw[e]at h4;cases h4),rfl⟩;have lp:=gE ip;rw[<-cH ip]at lp;have t:=mJ h;rw[Aw hk h1 h3 h4,i2];have n1:=iB (p:=p.took p.peek) (s:=[61]);have e0:=hx ((p.took p.peek).need [61]) (cA (dY h)).2;have n2:=iB (p:=(ex ((p.took p.peek).need [61])).2) (s:=[59]);refine⟨?_,(cA e0.2).2,λ_=>?_⟩<;>(simp only[weighN,weighL,List.length_drop];omega)
   ·rw[Ay hk h1 h3 h4];have a:=EK p h;have le:=(lV (p.l.length+1) p (Nat.lt_succ_self _) h).1;have n1:=iB (p:=(placeP p).2) (s:=[61]);have e0:=hx ((placeP p).2.need [61]) (cA a.2).2;have n2:=iB (p:=(ex ((placeP p).2.need [61])).2) (s:=[59]);refine⟨?_,(cA e0.2).2,λz=>?_⟩
    ·simp only[weighN,weighL,List.length_nil];omega
    ·have z:((ex ((placeP p).2.need [61])).2.need [59]).e=0:=z;have pe:=Od h (need_e (hs _ (need_e z).2)).2;simp only[weighN,weighL,List.length_nil];omega
theorem La:∀f,Ws f (stmtP false f)
 |0=>λp hm _=>absurd hm (Nat.not_lt_zero _)
 |f+1=>VQ (exprO_stk false) (λp h=>KZ _ p h) (Hb (La f))
theorem Sw{p:PS}(z:(nameP p).2.e=0):(nameP p).2.l.length<p.l.length:=by
 cases q:isNameB p.peek with
 |false=>rw[qE q]at z;exact absurd z (fail_e bC)
 |true=>
  have ip:p.is p.peek=true:=eV.2 ⟨λe=>(by rw[e]at q;cases q),rfl⟩;have lp:=gE ip;rw[tR q,cH ip];simp only;omega
theorem Hc(B:Nat):∀(f:Nat) (ks:List Nd) (p:PS),bM p.l->weighL ks+240*p.l.length<=B+90->(p.e=0->weighL ks+240*p.l.length<=B)->
 weighL (itemsF f ks p).1+240*(itemsF f ks p).2.l.length<=B+90/\bM (itemsF f ks p).2.l
 |0,_,_,h,h1,_=>⟨h1,h⟩
 |f+1,ks,p,h,h1,h2=>by
  unfold itemsF;split
  ·exact⟨h1,h⟩
  ·rename_i q;have e0:p.e=0:=Classical.byContradiction λz=>q (.inl z);have b:=h2 e0;have a:=cV h;have t:=oZ h;have g1:=cA (s:=[61]) a.2.1;have v:=oT g1.2;have g2:=cA (s:=[59]) v.2.1;simp only[];refine Hc B f _ _ g2.2 ?_ λz=>?_
   ·rw[tT];simp only[weighN,weighL];omega
   ·have z1:=numberP_stk _ (need_e z).2;have ne:=Sw (need_e z1).2;rw[tT];simp only[weighN,weighL];omega
theorem Oe{p:PS}(h:bM p.l):weighN (defP false p).1<=240*p.l.length+300:=by
 have s:=dZ (p:=p);have a:=cV (dB h);have t:=oZ (dB h);unfold defP;simp only[];split
 ·simp only[weighN,weighL,List.length_nil];omega
 ·split
  ·have b:=Hb (La ((nameP p.skip).2.l.length+1)) (nameP p.skip).2 (Nat.lt_succ_self _) a.2.1;have b1:weighN (blockP false ((nameP p.skip).2.l.length+1) (nameP p.skip).2).1<=240*(nameP p.skip).2.l.length+91:=by
    have:=b.1;show weighN (blockB (stmtP false ((nameP p.skip).2.l.length+1)) (nameP p.skip).2).1<=_;omega
   simp only[weighN,weighL];omega
  ·split
   ·have g1:=cA (s:=[123]) a.2.1;have i:=Hc (240*((nameP p.skip).2.need [123]).l.length) (((nameP p.skip).2.need [123]).l.length+1) [] ((nameP p.skip).2.need [123]) g1.2 (by simp only[weighL];omega) (λ_=>by simp only[weighL];omega);have i1:=i.1;simp only[weighN];omega
   ·split
    ·simp only[weighN,weighL];omega
    ·split
     ·simp only[weighN,weighL];omega
     ·simp only[weighN,weighL];omega
theorem lX:∀(f:Nat) (s:aW) (i:Int),(scanF f s i).1.length<=f
 |0,_,_=>Nat.le_refl _
 |f+1,s,i=>by
  unfold scanF;split
  ·simp
  ·split
   ·have:=lX f (by assumption) (i+1);omega
   ·split
    ·simp
    ·simp only[List.length_cons];exact Nat.succ_le_succ (lX f _ _)
theorem vW{s:aW}(hl:s.length<=1024):weighN (defP false ⟨(scanS s).1,0⟩).1<=1000000000:=by
 have h1:(scanS s).1.length<=s.length:=lX _ _ _;have h2:=Oe (p:=⟨(scanS s).1,0⟩) (iA _ _ _);have h3:(PS.mk (scanS s).1 0).l.length=(scanS s).1.length:=rfl;omega
section
attribute[local simp] kQ.cond Nd.d_eq nd_t nd_dr nd_td ndsD aZ bP dD dU
theorem Cp{s:aW}{R:Nd×PS}(hR:defP true ⟨(scanS s).1,0⟩=R)(hl:s.length<=1024){x:Tk}{r:List Tk}(h:R.2.l=x::r):lE s=(zeroNd,x.at_,if R.2.e≠0 then R.2.e else 2):=by
 unfold lE;rw[if_neg aE];simp only[];rw[hR,h]
theorem IE{s:aW}{R:Nd×PS}(hR:defP true ⟨(scanS s).1,0⟩=R)(hl:s.length<=1024)(h:R.2.l=[])(h2:¬R.2.e=0\/(scanS s).2<s.length):lE s=(zeroNd,(scanS s).2,2):=by
 unfold lE;rw[if_neg aE];simp only[];rw[hR,h];simp only[];rw[if_pos h2]
theorem Of{s:aW}{R:Nd×PS}(hR:defP true ⟨(scanS s).1,0⟩=R)(hl:s.length<=1024)(h:R.2.l=[])(h2:¬(¬R.2.e=0\/(scanS s).2<s.length))(h3:24<depthN R.1\/1024<(textT R.1).length):lE s=(zeroNd,0,4):=by
 unfold lE;rw[if_neg aE];simp only[];rw[hR,h];simp only[];rw[if_neg h2,if_pos h3]
theorem Og{s:aW}{R:Nd×PS}(hR:defP true ⟨(scanS s).1,0⟩=R)(hl:s.length<=1024)(h:R.2.l=[])(h2:¬(¬R.2.e=0\/(scanS s).2<s.length))(h3:¬(24<depthN R.1\/1024<(textT R.1).length)):lE s=(R.1,0,0):=by
 unfold lE;rw[if_neg aE];simp only[];rw[hR,h];simp only[];rw[if_neg h2,if_neg h3]
theorem aAc{s:aW}(hl:s.length<=1024):Aq s (scanS s).1:=
 ⟨hl,Nat.le_trans (lX _ _ _) hl,λ_ h=>Et h,iA _ _ _⟩
theorem VR{T:List Tk}{q:PS}(f:kF T q)(h:¬(T.length:Int)- q.l.length<T.length):q.l=[]:=List.eq_nil_of_length_eq_zero aE
theorem Lb(s:aW)(T:List Tk)(hT1:(scanS s).1=T)(R:Nd×PS)(hR:defP true ⟨T,0⟩=R):Ok prog 49 [.str s] ⟨.tup [.d (lE s).1.d,.d (aI (lE s).2.1),.d (aI (lE s).2.2)],false⟩:=by
 refine wY hT func49 bY (c:=_) rfl ntmps49 aM results49 aM (by rfl) λw0 X hp=>?_;apply aD;simp;apply aG;apply aV;simp;refine⟨λh1=>?_,λh1=>?_⟩
 ·apply aD;simp;apply aH;have e:lE s=(zeroNd,1024,4):=by unfold lE;rw[if_pos aE]
  simp[e,zeroNd]
 ·apply aF;simp;apply aG;have hs:=Eu s aE;rw[hT1]at hs;have hls:s.length<=1024:=aE;have cx:=aAc hls;rw[hT1]at cx;have fx:kF T ⟨T,0⟩:=⟨List.suffix_refl _,.inl rfl⟩;have fR:=fx.def cx;rw[hR]at fR;have hle:=fR.le;have htt:=cx.ht;have hR':defP true ⟨(scanS s).1,0⟩=R:=by rw[hT1];exact hR
  refine aP (λ|15=>some<| .plain ⟨.tup [.d (.sl (T.map Tk.r)),.d (aI (scanS s).2)],true⟩|_=>none) ?_;simp[bD];refine⟨hs,?_⟩;apply aD;simp;apply aG;have hd:=Ym s T cx ⟨T,0⟩ fx;rw[hR]at hd;refine aP (λ|23=>some (.gen ⟨[(21,0)],[],[],dU s T R.2,.d R.1.d⟩)|_=>none) ?_;simp;refine⟨by simpa using hd,?_⟩;apply eA;refine eW.rd [] [] (λ_=>none) ?_;simp;apply aJ;simp;refine⟨λg1 g2=>?_,λg=>?_⟩
  ·obtain⟨x,r,hxr⟩:=List.exists_cons_of_ne_nil (l:=R.2.l) (λe=>by rw[e]at g2;simp at g2);obtain⟨n,hn,hnl,hn2,hm⟩:=fR.at hxr;have e:=Cp hR' hls hxr;apply aG;apply aV;simp;refine⟨λh7=>?_,λh7=>?_⟩
   ·apply aG;refine eI (fX [0,2,7,8] [(2,2),(8,8),(21,21)] bC bC (by simp[hp])) ?_;simp;refine eW.rd [[],[2],[2],[2],[2],[2],[2],[2],[2],[2],[2],[2]] [[],[],[],[],[],[],[],[],[],[],[],[],[2]] (λ_=>none) ?_;simp[hn,hn2,Tk.r];refine⟨hnl,?_⟩;apply aH;simp[e,zeroNd,g1,h7]
   ·apply aF;simp;apply aG;refine eI (fX [0,2,7,8] [(2,2),(8,8),(21,21)] bC bC (by simp[hp])) ?_;simp;refine eW.rd [[],[2],[2],[2],[2],[2],[2],[2],[2],[2],[2],[2]] [[],[],[],[],[],[],[],[],[],[],[],[],[2]] (λ_=>none) ?_;simp[hn,hn2,Tk.r];refine⟨hnl,?_⟩;apply aH;have e5:R.2.e=2:=by rcases fR.err with z|z|z;exact absurd z g1;exact z;exact absurd z h7
    simp[e,zeroNd,e5]
  ·apply aF;simp;apply eA;refine eW.rd [] [] (λ_=>none) ?_;simp;apply aJ;simp;refine⟨λk1 k2=>?_,λk=>?_⟩
   ·obtain⟨x,r,hxr⟩:=List.exists_cons_of_ne_nil (l:=R.2.l) (λe=>by rw[e]at k2;simp at k2);obtain⟨n,hn,hnl,hn2,hm⟩:=fR.at hxr;have e:=Cp hR' hls hxr;apply aG;refine eI (fX [0,2,7,8] [(2,2),(8,8),(21,21)] bC bC (by simp[hp])) ?_;simp;refine eW.rd [[],[2],[2],[2],[2],[2],[2],[2],[2],[2],[2],[2]] [[],[],[],[],[],[],[],[],[],[],[],[],[2]] (λ_=>none) ?_;simp[hn,hn2,Tk.r];refine⟨hnl,?_⟩;apply aH;simp[e,zeroNd,k1]
   ·have hnil:R.2.l=[]:=VR fR (by
     by_cases z:R.2.e=0
     ·have:=k z;omega
     ·have:=g z;omega)
    apply aF;simp;apply aG;apply aV;simp;refine⟨λk3=>?_,λk4 k5=>?_⟩
    ·apply aD;simp;apply aH;have e:=IE hR' hls hnil (by rcases k3 with z|z;exact .inl z;exact .inr aE);simp[e,zeroNd]
    ·apply aF;simp;apply eA;have hrl:=defP_rl ⟨(scanS s).1,0⟩;have heq:=hrl.2 (by rw[hrl.1,hR'];exact k4);rw[hR']at heq;have hwe:=vW hls;rw[heq]at hwe;obtain⟨r1,r2,r3⟩:=DY (p:=⟨(scanS s).1,0⟩) (iA _ _ _) (by rw[hrl.1,hR'];exact k4);rw[heq]at r1 r2 r3;have hdf:=xF r1 r2 r3;have hde:=Si R.1 hwe;have hte:=Kz R.1 hdf hwe;refine aP (λ|110=>some<| .plain ⟨.d (aI (depthN R.1)),true⟩|114=>some<| .plain ⟨.d (.str (textT R.1)),true⟩|_=>none) ?_;simp;refine⟨⟨by simpa using hde,λ_=>by simpa using hte⟩,?_⟩;apply aJ;simp;refine⟨λk6=>?_,λk7 k8=>?_⟩
     ·apply aD;simp;apply aH;have e:=Of hR' hls hnil (λz=>z.elim (λy=>y k4) (λy=>aE)) aE;simp[e,zeroNd]
     ·apply aF;simp;apply aD;simp;apply aH;have e:=Og hR' hls hnil (λz=>z.elim (λy=>y k4) (λy=>aE)) aE;simp[e]
theorem Hd(s:aW):Ok prog 49 [.str s] ⟨.tup [.d (parseS s).1.d,.d (aI (parseS s).2.1),.d (aI (parseS s).2.2)],false⟩:=by
 rw[<-UT];exact Lb s _ rfl _ rfl
end
section
attribute[local simp] kQ.cond Nd.d_eq nd_t nd_dr nd_td ndsD aZ bP dD mE Cm Cn Co KN Int.add_assoc
def iY(L:List Int)(i:Nat):List (Nat×bB):=[(0,.box false [.d (.sl (L.map aI)),.d (aI i)])]
def Lc(L:List Int):Prop:=∀n∈L, -9223372036854775808<=n/\n<=9223372036854775807
attribute[local simp] iY
theorem bU(l:List Int)(i m:Int)(h:0<m):0<=dQ l i m/\dQ l i m<m:=by
 unfold dQ;split
 ·omega
 ·exact dG _ _ h
theorem fD(L:List Int)(i:Nat)(m:Int)(hL:Lc L)(hi:i<=3000000)(hm:m≠0):iG prog 95 [.bx 0 0,.d (aI m)] (iY L i) (iY L (i+1)) (.d (aI (dQ L i m))):=by
 unfold iY;refine iG.one func95 bY (c:=_) rfl ntmps95 aM results95 λw0 X hp=>?_;apply aD;simp;apply aD;simp;refine⟨aE,?_⟩;apply aG;have ha:=Kh L i m hL hm;have e1:(i:Int)+1-1=i:=aE;refine eW.rd [] [[],[],[],[],[],[],[],[],[],[],[22]] (λ|22=>some<| .plain ⟨.d (aI (dQ L i m)),true⟩|_=>none) ?_;simp[e1];refine⟨⟨aE,ha⟩,?_⟩;apply aH;simp;exact aA hp [4] [(0,0)]
theorem Yp{L:List Int}{i:Nat}:(callL.map DV.str)[(dQ L i 8).toNat]?.getD default=.str (callM L i):=by
 have h:=bU L i 8 bC;have hk:(dQ L i 8).toNat<callL.length:=by show _<8;omega
 unfold callM;rw[List.getElem?_map,List.getElem?_eq_getElem hk];simp[List.getD_eq_getElem?_getD,hk]
theorem aAd{L:List Int}{i:Nat}:(ownL.map DV.str)[(dQ L i 4).toNat]?.getD default=.str (ownM L i):=by
 have h:=bU L i 4 bC;have hk:(dQ L i 4).toNat<ownL.length:=by show _<4;omega
 unfold ownM;rw[List.getElem?_map,List.getElem?_eq_getElem hk];simp[List.getD_eq_getElem?_getD,hk]
theorem aAe{L:List Int}{i:Nat}:(numsM.map aI)[(dQ L i 6).toNat]?.getD default=aI (numsM.getD (dQ L i 6).toNat 0):=by
 have h:=bU L i 6 bC;have hk:(dQ L i 6).toNat<numsM.length:=by show _<6;omega
 rw[List.getElem?_map,List.getElem?_eq_getElem hk];simp[List.getD_eq_getElem?_getD,hk]
theorem jM(L:List Int)(i:Nat)(hL:Lc L)(hi:i<=3000000):iG prog 96 [.bx 0 0] (iY L i) (iY L (i+1)) (.d (.str (callM L i))):=by
 unfold iY;refine iG.one func96 bY (c:=_) rfl ntmps96 aM results96 λw0 X hp=>?_;apply aD;simp;apply aG;have ha:=fD L i 8 hL hi bC;have hr:=bU L i 8 bC;have hc:=Yp (L:=L) (i:=i);simp[callL]at hc;refine aP (λ|5=>some (.gen ⟨[(0,0)],[],[],iY L (i+1),.d (aI (dQ L i 8))⟩)|_=>none) ?_;simp[hc];refine⟨⟨⟨⟨bC,by simpa using ha⟩,aE⟩,aE⟩,?_⟩;apply aH;simp;exact aA hp [2] [(0,0)]
theorem AA(L:List Int)(i:Nat)(hL:Lc L)(hi:i<=3000000):iG prog 144 [.bx 0 0] (iY L i) (iY L (i+1)) (.d (.str (ownM L i))):=by
 unfold iY;refine iG.one func144 bY (c:=_) rfl ntmps144 aM results144 λw0 X hp=>?_;apply aD;simp;apply aG;have ha:=fD L i 4 hL hi bC;have hr:=bU L i 4 bC;have hc:=aAd (L:=L) (i:=i);simp[ownL]at hc;refine aP (λ|5=>some (.gen ⟨[(0,0)],[],[],iY L (i+1),.d (aI (dQ L i 4))⟩)|_=>none) ?_;simp[hc];refine⟨⟨⟨⟨bC,by simpa using ha⟩,aE⟩,aE⟩,?_⟩;apply aH;simp;exact aA hp [2] [(0,0)]
theorem nI(L:List Int)(i:Nat):(callM L i).length<=16:=by
 have h:=bU L i 8 bC;unfold callM;have:∀k:Nat,(callL.getD k []).length<=16:=λk=>by
  rw[List.getD_eq_getElem?_getD];cases e:callL[k]? with
  |none=>simp
  |some w=>
   have:=List.mem_of_getElem? e;exact(by decide:∀w∈callL,w.length<=16) w this
 exact this _
theorem VS(L:List Int)(i:Nat)(hL:Lc L)(hi:i<=2000000):iG prog 146 [.bx 0 0] (iY L i) (iY L (placeM L i).2) (.d (placeM L i).1.d):=by
 unfold iY;refine iG.cell hT func146 bY (c:=_) rfl ntmps146 aM results146 λw0 X hp=>?_;apply aD;simp;apply eA;have ha:=fD L i 3 hL aE bC;refine aP (λ|5=>some (.gen ⟨[(0,0)],[],[],iY L (i+1),.d (aI (dQ L i 3))⟩)|_=>none) ?_;simp;refine⟨by simpa using ha,?_⟩;apply aJ;simp;refine⟨λh1=>?_,λh1=>?_⟩
 ·apply aG;have hc:=jM L (i+1) hL aE;refine aP (λ|8=>some (.gen ⟨[(0,0)],[],[],iY L (i+1+1),.d (.str (callM L (i+1)))⟩)|_=>none) ?_;simp;refine⟨by simpa using hc,?_⟩;apply aH;simp;have e:placeM L i=(.mk 34 (callM L (i+1)) 0 [],i+2):=by unfold placeM;rw[if_pos h1]
  refine bA (x:=(placeM L i).1.d) (by simp[e]) ?_;simp;exact aA hp [0] [(0,0)] (hH:=by simp[e])
 ·apply aF;simp;apply aG;have hc:=jM L (i+1) hL aE;refine aP (λ|11=>some (.gen ⟨[(0,0)],[],[],iY L (i+1+1),.d (.str (callM L (i+1)))⟩)|_=>none) ?_;simp;refine⟨by simpa using hc,?_⟩;apply aG;have hc2:=jM L (i+2) hL aE;have l1:=nI L (i+1);have l2:=nI L (i+2);refine aP (λ|15=>some (.gen ⟨[(0,0)],[],[],iY L (i+2+1),.d (.str (callM L (i+2)))⟩)|_=>none) ?_;simp;refine⟨⟨⟨aE,by simpa using hc2⟩,aE⟩,?_⟩;apply aH;simp;have e:placeM L i=(.mk 35 (callM L (i+1)++46::callM L (i+2)) 0 [],i+3):=by unfold placeM;rw[if_neg aE]
  refine bA (x:=(placeM L i).1.d) (by simp[e]) ?_;simp;exact aA hp [0] [(0,0)] (hH:=by simp[e])
end
section
attribute[local simp] kQ.cond Nd.d_eq nd_t nd_dr nd_td ndsD aZ bP mE Int.add_assoc dD Cm Cn Co KN iY
def cY(L:List Int)(d i:Nat):Int:=if d=0\/L.length<i+1 then(dQ L i 12).tmod 6 else dQ L i 12
theorem gF(L:List Int)(d i:Nat):0<=cY L d i/\cY L d i<12/\(d=0->cY L d i<6):=by
 have h:=bU L i 12 bC;unfold cY;split
 ·have:(dQ L i 12).tmod 6=dQ L i 12%6:=Int.tmod_eq_emod_of_nonneg h.1;rw[this];omega
 ·omega
theorem jY{L:List Int}{d i:Nat}(h:cY L d i=0\/cY L d i=1):valueM L d i=(.mk 32 [] (numsM.getD (dQ L (i+1) 6).toNat 0) [],i+2):=by
 unfold cY at h;unfold valueM;simp only[];rw[if_pos h]
theorem jZ{L:List Int}{d i:Nat}(h:cY L d i=2):valueM L d i=(.mk 33 (ownM L (i+1)) 0 [],i+2):=by
 have h0:¬(cY L d i=0\/cY L d i=1):=aE;unfold cY at h h0;unfold valueM;simp only[];rw[if_neg h0,if_pos h]
theorem fZ{L:List Int}{d i:Nat}(h:cY L d i=3\/cY L d i=4):valueM L d i=placeM L (i+1):=by
 have h0:¬(cY L d i=0\/cY L d i=1):=aE;have h1:¬(cY L d i=2):=aE;unfold cY at h h0 h1;unfold valueM;simp only[];rw[if_neg h0,if_neg h1,if_pos h]
theorem iC{L:List Int}{d i:Nat}(h:cY L d i=5):valueM L d i=(.mk 36 [] 0 [],i+1):=by
 have h0:¬(cY L d i=0\/cY L d i=1):=aE;have h1:¬(cY L d i=2):=aE;have h2:¬(cY L d i=3\/cY L d i=4):=aE;unfold cY at h h0 h1 h2;unfold valueM;simp only[];rw[if_neg h0,if_neg h1,if_neg h2,if_pos h]
theorem sR{L:List Int}{e i:Nat}(h:6<=cY L (e+1) i):valueM L (e+1) i=(.mk (26+cY L (e+1) i-6) [] 0 [(valueM L e (i+1)).1,(valueM L e (valueM L e (i+1)).2).1],(valueM L e (valueM L e (i+1)).2).2):=by
 have h0:¬(cY L (e+1) i=0\/cY L (e+1) i=1):=aE;have h1:¬(cY L (e+1) i=2):=aE;have h2:¬(cY L (e+1) i=3\/cY L (e+1) i=4):=aE;have h3:¬(cY L (e+1) i=5):=aE;rw[valueM];have hv:(if e+1=0\/L.length<i+1 then(dQ L i 12).tmod 6 else dQ L i 12)=cY L (e+1) i:=rfl;rw[hv,if_neg h0,if_neg h1,if_neg h2,if_neg h3]
theorem AB(L:List Int)(i:Nat):(placeM L i).2<=i+3:=by unfold placeM;split<;>simp
theorem AC(L:List Int):∀(d i:Nat),(valueM L d i).2+1<=i+5*2^d:=λd=>by
 induction d with
 |zero=>
  intro i;obtain⟨r0,_,r2⟩:=gF L 0 i;have r2:=r2 rfl;by_cases h0:cY L 0 i=0\/cY L 0 i=1
  ·rw[jY h0];simp
  ·by_cases h1:cY L 0 i=2
   ·rw[jZ h1];simp
   ·by_cases h2:cY L 0 i=3\/cY L 0 i=4
    ·rw[fZ h2];have:=AB L (i+1);omega
    ·rw[iC aE];simp
 |succ e ih=>
  intro i;have hp:1<=2^e:=Nat.one_le_two_pow;have h2:2^(e+1)=2*2^e:=by rw[Nat.pow_succ,Nat.mul_comm]
  obtain⟨r0,_,_⟩:=gF L (e+1) i;by_cases h0:cY L (e+1) i=0\/cY L (e+1) i=1
  ·rw[jY h0];simp only;omega
  ·by_cases h1:cY L (e+1) i=2
   ·rw[jZ h1];simp only;omega
   ·by_cases h3:cY L (e+1) i=3\/cY L (e+1) i=4
    ·rw[fZ h3];have:=AB L (i+1);omega
    ·by_cases h4:cY L (e+1) i=5
     ·rw[iC h4];simp only;omega
     ·rw[sR aE];have a:=ih (i+1);have b:=ih (valueM L e (i+1)).2;simp only;omega
theorem Cq(L:List Int)(d i:Nat)(hL:Lc L)(hll:L.length<=1000000)(hi:i+5*2^d<=2000000)(ih:∀e,d=e+1->∀j,j+5*2^e<=2000000->iG prog 145 [.bx 0 0,.d (aI (e:Nat))] (iY L j) (iY L (valueM L e j).2) (.d (valueM L e j).1.d)):iG prog 145 [.bx 0 0,.d (aI (d:Nat))] (iY L i) (iY L (valueM L d i).2) (.d (valueM L d i).1.d):=by
 have h2d:1<=2^d:=Nat.one_le_two_pow;unfold iY;refine iG.cell hT func145 bY (c:=_) rfl ntmps145 aM results145 λw0 X hp=>?_;apply aD;simp;apply aG;have ha:=fD L i 12 hL aE bC;refine aP (λ|8=>some (.gen ⟨[(0,0)],[],[],iY L (i+1),.d (aI (dQ L i 12))⟩)|_=>none) ?_;simp;refine⟨by simpa using ha,?_⟩;refine aY (ι:=KC) (λ⟨k⟩=>aR [(0,.bx 0 0),(1,.d (aI (d:Nat))),(4,.bx 4 0),(5,.d (aI k))]) (λ⟨k⟩=>aL [(0,.box false [.d (.sl (L.map aI)),.d (aI ((i+1:Nat):Int))]),(4,.box false [.d (aI 0),.d (.str []),.d (aI 0),.nl])]) (λ⟨k⟩=>cY L d i=k) ?_ λ⟨k⟩ hc4=>?_
 ·apply aG;refine eW.rd [] [] (λ_=>none) ?_;simp;apply aJ;simp;refine⟨λh2=>?_,λh2 h2b=>?_⟩
  ·apply aK;simp;refine XG.mk ⟨(dQ L i 12).tmod 6⟩ (aA hp [0,1,4,5] [(0,0),(4,4)]) ?_;unfold cY;rw[if_pos aE]
  ·apply aF;simp;refine XG.mk ⟨dQ L i 12⟩ (aA hp [0,1,4,5] [(0,0),(4,4)]) ?_;unfold cY;rw[if_neg aE]
 ·apply dT;simp;apply aO;refine aY (ι:=BC) (λ⟨b⟩=>aR [(0,.bx 0 0),(1,.d (aI (d:Nat))),(4,.bx 4 0),(5,.d (aI k)),(25,.d (aI (k))),(26,.d (.bool b))]) (λ⟨b⟩=>aL [(0,.box false [.d (.sl (L.map aI)),.d (aI ((i+1:Nat):Int))]),(4,.box false [.d (aI 0),.d (.str []),.d (aI 0),.nl])]) (λ⟨b⟩=>b=true↔(k=0\/k=1)) ?_ λ⟨b⟩ hc7=>?_
  ·apply aV;simp;refine⟨λh5=>?_,λh5=>?_⟩
   ·apply aF;simp;refine XG.mk ⟨decide (k=0)⟩ (aA hp [0,1,4,5,25,26] [(0,0),(4,4)]) ?_;simp[h5]
   ·apply aK;simp;refine XG.mk ⟨decide (k=1)⟩ (aA hp [0,1,4,5,25,26] [(0,0),(4,4)]) ?_;simp only[decide_eq_true_eq];omega
  ·apply aJ;simp;refine⟨λh7=>?_,λh7=>?_⟩
   ·have q7:=hc7.1 h7;apply aG;have ha:=fD L (i+1) 6 hL aE bC;have hr:=bU L ((i:Int)+1) 6 bC;have hc:=aAe (L:=L) (i:=i+1);simp[numsM]at hc;refine aP (λ|31=>some (.gen ⟨[(0,0)],[],[],iY L (i+1+1),.d (aI (dQ L ((i:Int)+1) 6))⟩)|_=>none) ?_;simp[hc];refine⟨⟨⟨⟨bC,by simpa using ha⟩,aE⟩,aE⟩,?_⟩;apply aH;simp;have e:=jY (L:=L) (d:=d) (i:=i) (by simp only at hc4;omega);refine bA (x:=(valueM L d i).1.d) (by simp[e,numsM]) ?_;simp;exact aA hp [0] [(0,0)] (hH:=by simp[e])
   ·have q7:¬(k=0\/k=1):=λq=>by simp[hc7.2 q]at h7
    apply aV;simp;refine⟨λh8=>?_,λh8=>?_⟩
    ·apply aG;have hc:=AA L (i+1) hL aE;refine aP (λ|38=>some (.gen ⟨[(0,0)],[],[],iY L (i+1+1),.d (.str (ownM L (i+1)))⟩)|_=>none) ?_;simp;refine⟨by simpa using hc,?_⟩;apply aH;simp;have e:=jZ (L:=L) (d:=d) (i:=i) (by simp only at hc4;omega);refine bA (x:=(valueM L d i).1.d) (by simp[e]) ?_;simp;exact aA hp [0] [(0,0)] (hH:=by simp[e])
    ·refine aY (ι:=BC) (λ⟨b⟩=>aR [(0,.bx 0 0),(1,.d (aI (d:Nat))),(4,.bx 4 0),(5,.d (aI k)),(25,.d (aI (k))),(40,.d (.bool b))]) (λ⟨b⟩=>aL [(0,.box false [.d (.sl (L.map aI)),.d (aI ((i+1:Nat):Int))]),(4,.box false [.d (aI 0),.d (.str []),.d (aI 0),.nl])]) (λ⟨b⟩=>b=true↔(k=3\/k=4)) ?_ λ⟨b⟩ hc12=>?_
     ·apply aV;simp;refine⟨λh10=>?_,λh10=>?_⟩
      ·apply aF;simp;refine XG.mk ⟨decide (k=3)⟩ (aA hp [0,1,4,5,25,40] [(0,0),(4,4)]) ?_;simp[h10]
      ·apply aK;simp;refine XG.mk ⟨decide (k=4)⟩ (aA hp [0,1,4,5,25,40] [(0,0),(4,4)]) ?_;simp only[decide_eq_true_eq];omega
     ·apply aJ;simp;refine⟨λh12=>?_,λh12=>?_⟩
      ·have q12:=hc12.1 h12;apply aG;have hc:=VS L (i+1) hL aE;refine aP (λ|44=>some (.gen ⟨[(0,0)],[],[],iY L (placeM L (i+1)).2,.d (placeM L (i+1)).1.d⟩)|_=>none) ?_;simp;refine⟨by simpa using hc,?_⟩;apply aH;simp;have e:=fZ (L:=L) (d:=d) (i:=i) (by simp only at hc4;omega);refine bA (x:=(valueM L d i).1.d) (by simp[e]) ?_;simp;exact aA hp [0] [(0,0)] (hH:=by simp[e])
      ·have q12:¬(k=3\/k=4):=λq=>by simp[hc12.2 q]at h12
       apply aV;simp;refine⟨λh13=>?_,λh13=>?_⟩
       ·apply aD;simp;apply aH;simp;have e:=iC (L:=L) (d:=d) (i:=i) (by simp only at hc4;omega);refine bA (x:=(valueM L d i).1.d) (by simp[e]) ?_;simp;exact aA hp [0] [(0,0)] (hH:=by simp[e])
       ·apply aF;simp;apply aG;have hk6:6<=k/\k<12:=by have:=gF L d i;simp only at hc4;omega
        obtain⟨e,rfl⟩:∃e,d=e+1:=⟨d-1,by have:=gF L d i;simp only at hc4;omega⟩;have hp2:2^(e+1)=2*2^e:=by rw[Nat.pow_succ,Nat.mul_comm]
        have hpe:1<=2^e:=Nat.one_le_two_pow;have hlt:e<2^e:=Nat.lt_two_pow_self;have c1:=ih e rfl (i+1) aE;have t1:=AC L e (i+1);have c2:=ih e rfl (valueM L e (i+1)).2 aE;have ez:((e:Int)+1)- 1=e:=aE;refine aP (λ|51=>some (.gen ⟨[(0,0)],[],[],iY L (valueM L e (i+1)).2,.d (valueM L e (i+1)).1.d⟩)|_=>none) ?_;simp[ez];refine⟨⟨aE,by simpa using c1⟩,?_⟩;apply aG;refine eW.rd [[0,60],[0,60],[0,60],[0]] [[],[],[],[],[],[],[],[0],[60],[],[4]] (λ|59=>some (.gen ⟨[(0,0)],[],[],iY L (valueM L e (valueM L e (i+1)).2).2,.d (valueM L e (valueM L e (i+1)).2).1.d⟩)|_=>none) ?_;simp[ez];refine⟨⟨⟨⟨⟨aE,aE⟩,aE⟩,by simpa using c2⟩,bC⟩,?_⟩;apply aH;simp;have ev:=sR (L:=L) (e:=e) (i:=i) (by simp only at hc4;omega);rw[show cY L (e+1) i=k from hc4]at ev;refine bA (x:=(valueM L (e+1) i).1.d) (by simp[ev]) ?_;simp;exact aA hp [0] [(0,0)] (hH:=by simp[ev])
theorem sS(L:List Int)(hL:Lc L)(hll:L.length<=1000000):∀(d i:Nat),i+5*2^d<=2000000->iG prog 145 [.bx 0 0,.d (aI (d:Nat))] (iY L i) (iY L (valueM L d i).2) (.d (valueM L d i).1.d):=λd=>by
 induction d with
 |zero=>exact λi hi=>Cq L 0 i hL hll hi λe he=>aE
 |succ d ihd=>
  intro i hi;refine Cq L (d+1) i hL hll hi λe he j hj=>?_;have:e=d:=aE;subst this;exact ihd j hj
end
section
attribute[local simp] kQ.cond Nd.d_eq nd_t nd_dr nd_td ndsD aZ bP mE Int.add_assoc dD Cm Cn Co KN iY
def Qa(L:List Int)(g:FuncId)(d:Nat)(b:Nat)(x:Nat->Nd×Nat):Prop:=∀j,j<=b->iG prog g [.bx 0 0,.d (aI (d:Nat))] (iY L j) (iY L (x j).2) (.d (x j).1.d)
structure SmS where
 c:Nat
 ks:List Nd
 j:Nat
theorem Sx{L:List Int}{st:Nat->Nd×Nat}{m:Nat}{ks:List Nd}{j:Nat}(h:m=0\/L.length<=j):somesM L st m ks j=(ks,j):=by
 cases m with
 |zero=>rfl
 |succ m=>
  unfold somesM;rw[if_pos aE]
theorem VT{L:List Int}{st:Nat->Nd×Nat}{m:Nat}{ks:List Nd}{j:Nat}(h0:0<m)(h:j<L.length):somesM L st m ks j=somesM L st (m-1) (ks++[(st j).1]) (st j).2:=by
 obtain⟨k,rfl⟩:∃k,m=k+1:=⟨m-1,aE⟩;rw[somesM,if_neg aE];rfl
theorem Oh(L:List Int)(d i:Nat)(st:Nat->Nd×Nat)(hL:Lc L)(hll:L.length<=1000000)(b:Nat)(hi:i<=b)(hb:b<=1800000)(hS:Qa L 97 d (b+40000) st)(hle:∀j,(st j).2<=j+10000):iG prog 147 [.bx 0 0,.d (aI (d:Nat))] (iY L i) (iY L (someM L st i).2) (.d (someM L st i).1.d):=by
 unfold iY;refine iG.cell hT func147 bY (c:=_) rfl ntmps147 aM results147 λw0 X hp=>?_;apply aD;simp;apply aD;simp;refine hZ (fz:=false) (cs:=[.d (aI 8),.d (.str []),.d (aI 0),.nl]) 5 3 1034 4 bC ⟨aM,aM,aM,?_⟩;simp;apply aG;have ha:=fD L i 4 hL aE bC;have hr:=bU L i 4 bC;obtain⟨n,hn⟩:∃n:Nat,dQ L i 4=(n:Int):=⟨(dQ L i 4).toNat,aE⟩;have hsm:someM L st i=(.mk 8 [] 0 (somesM L st n [] (i+1)).1,(somesM L st n [] (i+1)).2):=by unfold someM;simp only[];rw[hn];rfl
 rw[hn]at ha;refine aP (λ|10=>some (.gen ⟨[(0,0)],[],[],iY L (i+1),.d (aI (n:Nat))⟩)|_=>none) ?_;simp;refine⟨by simpa using ha,?_⟩;apply dT;simp;apply aO;refine aU (ι:=SmS) (λ⟨c,ks,j⟩=>aR [(0,.bx 0 0),(1,.d (aI (d:Nat))),(4,.bx 4 0),(5,.bx 5 0),(6,.d (aI (n:Nat))),(7,.d (aI (c:Nat)))]) (λ⟨c,ks,j⟩=>aL [(0,.box false [.d (.sl (L.map aI)),.d (aI (j:Nat))]),(4,.box false [.d (aI 0),.d (.str []),.d (aI 0),.nl]),(5,.box false [.d (aI 8),.d (.str []),.d (aI 0),.ow 1034 0 ks.length]),(1034,.row false 4 (ks.map Nd.d))]) (λ⟨c,ks,j⟩=>c<=n/\j<=i+1+c*10000/\ks.length<=c/\somesM L st n [] (i+1)=somesM L st (n-c) ks j) (λ⟨c,ks,j⟩=>n-c) ⟨0,[],i+1⟩ (aA hp [0,1,4,5,6,7] [(0,0),(4,4),(5,5),(1034,1034)]) (⟨Nat.zero_le _,aE,Nat.le_refl _,rfl⟩) λ⟨c,ks,j⟩ hi4=>?_;apply eA;refine eW.rd [] [] (λ_=>none) ?_;simp;apply aJ;simp;refine⟨λg1 g2=>?_,λg=>?_⟩
 ·apply aF;simp;apply dH;have hs:=hS j (by have:=hi4.2.1;omega);have hkl:=hi4.2.2.1;refine eW.rd [[0,33],[0,33]] [[],[],[],[],[0],[33],[34,1034],[],[5]] (λ|32=>some (.gen ⟨[(0,0)],[],[],iY L (st j).2,.d (st j).1.d⟩)|_=>none) ?_;simp;refine⟨by(repeat' with_reducible apply And.intro)<;>first|omega|(simpa using hs),?_⟩;apply aK;simp;refine⟨aE,?_⟩;refine Pq.mk ⟨c+1,ks++[(st j).1],(st j).2⟩ (aA hp [0,1,4,5,6,7] [(0,0),(4,4),(5,5),(34,1034)]) ?_ ?_
  ·refine⟨(show c+1<=n by omega),?_,?_,?_⟩
   ·have:=hle j;show(st j).2<=i+1+(c+1)*10000;omega
   ·show(ks++[(st j).1]).length<=c+1;rw[List.length_append,List.length_singleton];omega
   ·rw[hi4.2.2.2,VT aE aE];rfl
  ·show n-(c+1)<n-c;omega
 ·apply bE;simp;apply aD;simp;apply aH;simp;have e:someM L st i=(.mk 8 [] 0 ks,j):=by rw[hsm,hi4.2.2.2,Sx (by rcases Nat.lt_or_ge c n with q|q;exact .inr (by have:=g aE;omega);exact .inl aE)]
  refine bA (x:=(someM L st i).1.d) (by simp[e]) ?_;simp;exact aA hp [0] [(0,0)] (hH:=by simp[e])
structure NdN where
 x:Nd
 j:Nat
def Oi(L:List Int)(d i:Nat):Int:=if d=0/\(9+dQ L i 17=11\/9+dQ L i 17=12)then 24 else 9+dQ L i 17
def vX(L:List Int)(bl:Nat->Nd×Nat)(k:Int)(i:Nat):Nd×Nat:=
 if k=9 then(.mk k (ownM L i) 0 [(valueM L 2 (i+1)).1],(valueM L 2 (i+1)).2)
 else if k=10 then(.mk k [] 0 [(placeM L i).1,(valueM L 2 (placeM L i).2).1],(valueM L 2 (placeM L i).2).2)
 else if k=11\/k=12 then
  (if k=11 then(if dQ L (bl (valueM L 1 i).2).2 2=0 then(.mk k [] 0 [(valueM L 1 i).1,(bl (valueM L 1 i).2).1,(bl ((bl (valueM L 1 i).2).2+1)).1],(bl ((bl (valueM L 1 i).2).2+1)).2)else(.mk k [] 0 [(valueM L 1 i).1,(bl (valueM L 1 i).2).1],(bl (valueM L 1 i).2).2+1))
  else(.mk k [] 0 [(valueM L 1 i).1,(bl (valueM L 1 i).2).1],(bl (valueM L 1 i).2).2))
 else if k=13\/k=14\/k=17\/k=18 then(.mk k (callM L i) 0 [],i+1)
 else if k=15\/k=22 then(.mk k (callM L i) 0 [(valueM L 1 (i+1)).1],(valueM L 1 (i+1)).2)
 else if k=16\/k=23 then(.mk k (callM L i) 0 [.mk 33 (ownM L (i+1)) 0 []],i+2)
 else if k=19 then(.mk k (ownM L i) (2+dQ L (i+1) 5) [],i+2)
 else if k=20 then(.mk k (ownM L i) 0 [],i+1)
 else if k=21 then(.mk k [] (1+dQ L i 9) [],i+1)
 else if k=25 then(.mk k [] (1+dQ L i 99) [],i+1)
 else(.mk k [] 0 [(valueM L 2 i).1],(valueM L 2 i).2)
theorem gI{L:List Int}{d i:Nat}{bl:Nat->Nd×Nat}{k:Int}(hk:Oi L d i=k):oneB L d bl i=vX L bl k (i+1):=by subst hk;rfl
theorem tU{L:List Int}{d i:Nat}{k:Int}(hk:Oi L d i=k):9<=k/\k<=25/\(k=11\/k=12->0<d):=by
 subst hk;have h:=bU L i 17 bC;unfold Oi;split<;>omega
theorem Yq{c:Prop}[Decidable c]{f:Nat->bB}{l:DV}{a b:Int}{x:Nat}(h:f 0=.box false [.d l,.d (aI b)]):
 bW f (if c then [(0,.box false [.d l,.d (aI a)])]else []) x=if x=0 then .box false [.d l,.d (aI (if c then a else b))]else f x:=by
 by_cases hc:c
 ·simp only[hc,if_true,bW,cE]
 ·simp only[hc,if_false,bW];split
  ·rename_i e;rw[e];exact h
  ·rfl
theorem Qb{L:List Int}{d i C:Nat}{bl:Nat->Nd×Nat}(hb:∀j,(bl j).2<=j+C):(oneB L d bl i).2<=i+40+2*C:=by
 rw[gI rfl];have v1:=λj=>AC L 1 j;have v2:=λj=>AC L 2 j;have pl:=AB L (i+1);unfold vX;have a1:=v1 (i+1);have a2:=v1 (i+2);have a3:=v2 (i+1);have a4:=v2 (i+2);have a5:=v2 (placeM L (i+1)).2;have b1:=hb (valueM L 1 (i+1)).2;have b2:=hb ((bl (valueM L 1 (i+1)).2).2+1);simp only[Nat.add_assoc,Nat.reduceAdd,Nat.reducePow,Nat.reduceMul]at*;split
 ·simp only;omega
 ·split
  ·simp only;omega
  ·split
   ·split
    ·split<;>simp only<;>omega
    ·simp only;omega
   ·split
    ·simp only;omega
    ·split
     ·simp only;omega
     ·split
      ·simp only;omega
      ·split
       ·simp only;omega
       ·split
        ·simp only;omega
        ·split
         ·simp only;omega
         ·split<;>simp only<;>omega
theorem He(L:List Int)(d i:Nat)(bl:Nat->Nd×Nat)(hL:Lc L)(hll:L.length<=1000000)(m:Nat)(hi:i<=m)(hm:m<=1800000)(hd:d<=1000)(hB:∀e,d=e+1->Qa L 147 e (m+30000) bl)(hle:∀j,(bl j).2<=j+20000):iG prog 97 [.bx 0 0,.d (aI (d:Nat))] (iY L i) (iY L (oneB L d bl i).2) (.d (oneB L d bl i).1.d):=by
 unfold iY;refine iG.cell hT func97 bY (c:=_) rfl ntmps97 aM results97 λw0 X hp=>?_;apply aD;simp;apply aG;have ha:=fD L i 17 hL aE bC;have hr:=bU L i 17 bC;refine aP (λ|8=>some (.gen ⟨[(0,0)],[],[],iY L (i+1),.d (aI (dQ L i 17))⟩)|_=>none) ?_;simp;refine⟨by(repeat' with_reducible apply And.intro)<;>first|omega|(simpa using ha),?_⟩;refine aY (ι:=KC) (λ⟨k⟩=>aR [(0,.bx 0 0),(1,.d (aI (d:Nat))),(4,.bx 4 0),(5,.bx 5 0)]) (λ⟨k⟩=>aL [(0,.box false [.d (.sl (L.map aI)),.d (aI ((i+1:Nat):Int))]),(4,.box false [.d (aI 0),.d (.str []),.d (aI 0),.nl]),(5,.box false [.d (aI k),.d (.str []),.d (aI 0),.nl])]) (λ⟨k⟩=>Oi L d i=k) ?_ λ⟨k⟩ hc4=>?_
 ·apply aD;simp;refine⟨λa b=>⟨a,b⟩,?_⟩;apply aJ;simp;refine⟨λg1 g2=>?_,λg=>?_⟩
  ·apply aK;simp;refine XG.mk ⟨24⟩ (aA hp [0,1,4,5] [(0,0),(4,4),(5,5)]) ?_;unfold Oi;rw[if_pos ⟨aE,aE⟩]
  ·apply aF;simp;refine XG.mk ⟨9+dQ L i 17⟩ (aA hp [0,1,4,5] [(0,0),(4,4),(5,5)]) ?_;unfold Oi;rw[if_neg aE]
 ·refine aY (ι:=NdN) (λ⟨x,j⟩=>aR [(0,.bx 0 0),(1,.d (aI (d:Nat))),(4,.bx 4 0),(5,.bx 5 0)]) (λ⟨x,j⟩=>aL [(0,.box false [.d (.sl (L.map aI)),.d (aI (j:Nat))]),(4,.box false [.d (aI 0),.d (.str []),.d (aI 0),.nl]),(5,.box false [.d (aI x.kind),.d (.str x.text),.d (aI x.n),.d (ndsD x.kids)])]) (λ⟨x,j⟩=>oneB L d bl i=(x,j)) ?_ λ⟨x,j⟩ hc41=>?_
  ·apply aD;simp;apply aO;apply aV;simp;refine⟨λh5=>?_,λh5=>?_⟩
   ·apply aG;have hc6:=AA L (i+1) hL aE;refine aP (λ|29=>some (.gen ⟨[(0,0)],[],[],iY L (i+2),.d (.str (ownM L (i+1)))⟩)|_=>none) ?_;simp;refine⟨by simpa using hc6,?_⟩;have hv:=sS L hL hll 2 (i+2) aE;refine aP (λ|32=>some (.gen ⟨[(0,0)],[],[],iY L (valueM L 2 (i+2)).2,.d (valueM L 2 (i+2)).1.d⟩)|_=>none) ?_;simp;refine⟨by simpa using hv,?_⟩;refine gZ (bN 5 [33] (fz:=false) (cs:=[.d (aI k),.d (.str (ownM L (i+1))),.d (aI (0)),.ow 33 0 1]) (ds:=[aI k,.str (ownM L (i+1)),aI (0),.sl [((valueM L 2 (i+2)).1).d]]) aM aM aM (by simp[bB.mut])) ?_;simp;refine XG.mk ⟨.mk k (ownM L (i+1)) (0) [(valueM L 2 (i+2)).1],(valueM L 2 (i+2)).2⟩ (aA hp [0,1,4,5] [(0,0),(4,4),(5,5)]) ?_;rw[gI hc4];unfold vX;repeat(first|rw[if_pos aE]|rw[if_neg aE])
   ·apply aV;simp;refine⟨λh8=>?_,λh8=>?_⟩
    ·apply aG;have hpl:=VS L (i+1) hL aE;have tpl:=AB L (i+1);refine aP (λ|38=>some (.gen ⟨[(0,0)],[],[],iY L (placeM L (i+1)).2,.d (placeM L (i+1)).1.d⟩)|_=>none) ?_;simp;refine⟨by simpa using hpl,?_⟩;have hv:=sS L hL hll 2 (placeM L (i+1)).2 aE;refine eW.rd [[0]] [[],[],[0],[42],[],[5]] (λ|41=>some (.gen ⟨[(0,0)],[],[],iY L (valueM L 2 (placeM L (i+1)).2).2,.d (valueM L 2 (placeM L (i+1)).2).1.d⟩)|_=>none) ?_;simp;refine⟨⟨by simpa using hv,bC⟩,?_⟩;refine gZ (bN 5 [42] (fz:=false) (cs:=[.d (aI k),.d (.str ([])),.d (aI (0)),.ow 42 0 2]) (ds:=[aI k,.str ([]),aI (0),.sl [((placeM L (i+1)).1).d,((valueM L 2 (placeM L (i+1)).2).1).d]]) aM aM aM (by simp[bB.mut])) ?_;simp;refine XG.mk ⟨.mk k ([]) (0) [(placeM L (i+1)).1,(valueM L 2 (placeM L (i+1)).2).1],(valueM L 2 (placeM L (i+1)).2).2⟩ (aA hp [0,1,4,5] [(0,0),(4,4),(5,5)]) ?_;rw[gI hc4];unfold vX;repeat(first|rw[if_pos aE]|rw[if_neg aE])
    ·refine aY (ι:=BC) (λ⟨b⟩=>aR [(0,.bx 0 0),(1,.d (aI (d:Nat))),(4,.bx 4 0),(5,.bx 5 0),(25,.d (aI (k))),(44,.d (.bool b))]) (λ⟨b⟩=>aL [(0,.box false [.d (.sl (L.map aI)),.d (aI ((i+1:Nat):Int))]),(4,.box false [.d (aI 0),.d (.str []),.d (aI 0),.nl]),(5,.box false [.d (aI k),.d (.str []),.d (aI 0),.nl])]) (λ⟨b⟩=>b=true↔(k=11\/k=12)) ?_ λ⟨b⟩ hc13=>?_
     ·apply aV;simp;refine⟨λh11=>?_,λh11=>?_⟩
      ·apply aF;simp;refine XG.mk ⟨decide (k=11)⟩ (aA hp [0,1,4,5,25,44] [(0,0),(4,4),(5,5)]) ?_;simp[h11]
      ·apply aK;simp;refine XG.mk ⟨decide (k=12)⟩ (aA hp [0,1,4,5,25,44] [(0,0),(4,4),(5,5)]) ?_;simp only[decide_eq_true_eq];omega
     ·apply aJ;simp;refine⟨λh13=>?_,λh13=>?_⟩
      ·have q13:=hc13.1 h13;apply aG;obtain⟨e,hde⟩:∃e,d=e+1:=⟨d-1,by have:=(tU hc4).2.2 q13;omega⟩;have hBe:=hB e hde;subst hde;have hv:=sS L hL hll 1 (i+1) aE;have tv:=AC L 1 (i+1);obtain⟨a,ha1⟩:∃a,a=valueM L 1 (i+1):=⟨_,rfl⟩;rw[<-ha1]at hv tv;have hs1:=hBe a.2 aE;obtain⟨b,hb1⟩:∃b,b=bl a.2:=⟨_,rfl⟩;have tb:=hle a.2;rw[<-hb1]at hs1 tb;have hs2:=hBe (b.2+1) aE;obtain⟨c,hc1⟩:∃c,c=bl (b.2+1):=⟨_,rfl⟩;rw[<-hc1]at hs2;have ht2:=fD L b.2 2 hL aE bC;have ez:((e:Int)+1)- 1=e:=aE;refine aP (λ|48=>some (.gen ⟨[(0,0)],[],[],iY L a.2,.d a.1.d⟩)|_=>none) ?_;simp;refine⟨by simpa using hv,?_⟩;apply aG;refine eW.rd [[0,57],[0,57]] [[],[],[],[],[],[0],[57],[58,49],[],[5]] (λ|56=>some (.gen ⟨[(0,0)],[],[],iY L b.2,.d b.1.d⟩)|_=>none) ?_;simp[ez];refine⟨by(repeat' with_reducible apply And.intro)<;>first|omega|(simpa using hs1)|decide,?_⟩;refine cJ (λ|65=>some (.gen ⟨[(0,0)],[],[],iY L (b.2+1),.d (aI (dQ L b.2 2))⟩)|_=>none) ?_;simp[Yq (b:=(b.2:Int))];refine⟨λ_=>by simpa using ht2,?_⟩;apply aJ;simp;refine⟨λg3 g4=>?_,λg3=>?_⟩
       ·simp only[if_pos g3];refine eW.rd [[0,74],[0,74]] [[],[],[],[],[],[0],[74],[75,58],[],[5]] (λ|73=>some (.gen ⟨[(0,0)],[],[],iY L c.2,.d c.1.d⟩)|_=>none) ?_;simp[ez];refine⟨by(repeat' with_reducible apply And.intro)<;>first|omega|(simpa using hs2)|decide,?_⟩;refine gZ (bN 5 [75] (fz:=false) (cs:=[.d (aI k),.d (.str ([])),.d (aI (0)),.ow 75 0 3]) (ds:=[aI k,.str ([]),aI (0),.sl [(a.1).d,(b.1).d,(c.1).d]]) aM aM aM (by simp[bB.mut])) ?_;simp;refine XG.mk ⟨.mk k ([]) (0) [a.1,b.1,c.1],c.2⟩ (aA hp [0,1,4,5] [(0,0),(4,4),(5,5)] (hH:=by simp[g3])) ?_;rw[gI hc4];unfold vX;rw[<-ha1,<-hb1,<-hc1,if_neg aE,if_neg aE,if_pos aE,if_pos g3,if_pos g4]
       ·apply aF;simp;refine gZ (bN 5 [58] (fz:=false) (cs:=[.d (aI k),.d (.str ([])),.d (aI (0)),.ow 58 0 2]) (ds:=[aI k,.str ([]),aI (0),.sl [(a.1).d,(b.1).d]]) aM aM aM (by simp[bB.mut])) ?_;simp;refine XG.mk ⟨.mk k ([]) (0) [a.1,b.1],if k=11 then b.2+1 else b.2⟩ (aA hp [0,1,4,5] [(0,0),(4,4),(5,5)] (hH:=by by_cases hk:k=11<;>simp[hk])) ?_;rw[gI hc4];unfold vX;rw[<-ha1,<-hb1];by_cases hk:k=11
        ·rw[if_neg aE,if_neg aE,if_pos aE,if_pos hk,if_neg (g3 hk)];simp[hk]
        ·rw[if_neg aE,if_neg aE,if_pos aE,if_neg hk];simp[hk]
      ·have q13:¬(k=11\/k=12):=λq=>by simp[hc13.2 q]at h13
       refine aY (ι:=BC) (λ⟨b⟩=>aR [(0,.bx 0 0),(1,.d (aI (d:Nat))),(4,.bx 4 0),(5,.bx 5 0),(25,.d (aI (k))),(77,.d (.bool b))]) (λ⟨b⟩=>aL [(0,.box false [.d (.sl (L.map aI)),.d (aI ((i+1:Nat):Int))]),(4,.box false [.d (aI 0),.d (.str []),.d (aI 0),.nl]),(5,.box false [.d (aI k),.d (.str []),.d (aI 0),.nl])]) (λ⟨b⟩=>b=true↔(k=13\/k=14\/k=17\/k=18)) ?_ λ⟨b⟩ hc21=>?_
       ·apply aV;simp;refine⟨λh17=>?_,λh17=>?_⟩
        ·apply aF;simp;refine XG.mk ⟨decide (k=13)⟩ (aA hp [0,1,4,5,25,77] [(0,0),(4,4),(5,5)]) ?_;simp[h17]
        ·apply aV;simp;refine⟨λh18=>?_,λh18=>?_⟩
         ·apply aF;simp;refine XG.mk ⟨decide (k=14)⟩ (aA hp [0,1,4,5,25,77] [(0,0),(4,4),(5,5)]) ?_;simp[h18]
         ·apply aV;simp;refine⟨λh19=>?_,λh19=>?_⟩
          ·apply aF;simp;refine XG.mk ⟨decide (k=17)⟩ (aA hp [0,1,4,5,25,77] [(0,0),(4,4),(5,5)]) ?_;simp[h19]
          ·apply aK;simp;refine XG.mk ⟨decide (k=18)⟩ (aA hp [0,1,4,5,25,77] [(0,0),(4,4),(5,5)]) ?_;simp only[decide_eq_true_eq];omega
       ·apply aJ;simp;refine⟨λh21=>?_,λh21=>?_⟩
        ·have q21:=hc21.1 h21;have hc6:=jM L (i+1) hL aE;refine aP (λ|83=>some (.gen ⟨[(0,0)],[],[],iY L (i+2),.d (.str (callM L (i+1)))⟩)|_=>none) ?_;simp;refine⟨by simpa using hc6,?_⟩;refine gZ (bN 5 [] (fz:=false) (cs:=[.d (aI k),.d (.str (callM L (i+1))),.d (aI (0)),.nl]) (ds:=[aI k,.str (callM L (i+1)),aI (0),.sl []]) aM aM aM (by simp[bB.mut])) ?_;simp;refine XG.mk ⟨.mk k (callM L (i+1)) (0) [],i+2⟩ (aA hp [0,1,4,5] [(0,0),(4,4),(5,5)]) ?_;rw[gI hc4];unfold vX;repeat(first|rw[if_pos aE]|rw[if_neg aE])
        ·have q21:¬(k=13\/k=14\/k=17\/k=18):=λq=>by simp[hc21.2 q]at h21
         refine aY (ι:=BC) (λ⟨b⟩=>aR [(0,.bx 0 0),(1,.d (aI (d:Nat))),(4,.bx 4 0),(5,.bx 5 0),(25,.d (aI (k))),(85,.d (.bool b))]) (λ⟨b⟩=>aL [(0,.box false [.d (.sl (L.map aI)),.d (aI ((i+1:Nat):Int))]),(4,.box false [.d (aI 0),.d (.str []),.d (aI 0),.nl]),(5,.box false [.d (aI k),.d (.str []),.d (aI 0),.nl])]) (λ⟨b⟩=>b=true↔(k=15\/k=22)) ?_ λ⟨b⟩ hc24=>?_
         ·apply aV;simp;refine⟨λh22=>?_,λh22=>?_⟩
          ·apply aF;simp;refine XG.mk ⟨decide (k=15)⟩ (aA hp [0,1,4,5,25,85] [(0,0),(4,4),(5,5)]) ?_;simp[h22]
          ·apply aK;simp;refine XG.mk ⟨decide (k=22)⟩ (aA hp [0,1,4,5,25,85] [(0,0),(4,4),(5,5)]) ?_;simp only[decide_eq_true_eq];omega
         ·apply aJ;simp;refine⟨λh24=>?_,λh24=>?_⟩
          ·have q24:=hc24.1 h24;apply aG;have hc6:=jM L (i+1) hL aE;refine aP (λ|89=>some (.gen ⟨[(0,0)],[],[],iY L (i+2),.d (.str (callM L (i+1)))⟩)|_=>none) ?_;simp;refine⟨by simpa using hc6,?_⟩;have hv:=sS L hL hll 1 (i+2) aE;refine aP (λ|92=>some (.gen ⟨[(0,0)],[],[],iY L (valueM L 1 (i+2)).2,.d (valueM L 1 (i+2)).1.d⟩)|_=>none) ?_;simp;refine⟨by simpa using hv,?_⟩;refine gZ (bN 5 [93] (fz:=false) (cs:=[.d (aI k),.d (.str (callM L (i+1))),.d (aI (0)),.ow 93 0 1]) (ds:=[aI k,.str (callM L (i+1)),aI (0),.sl [((valueM L 1 (i+2)).1).d]]) aM aM aM (by simp[bB.mut])) ?_;simp;refine XG.mk ⟨.mk k (callM L (i+1)) (0) [(valueM L 1 (i+2)).1],(valueM L 1 (i+2)).2⟩ (aA hp [0,1,4,5] [(0,0),(4,4),(5,5)]) ?_;rw[gI hc4];unfold vX;repeat(first|rw[if_pos aE]|rw[if_neg aE])
          ·have q24:¬(k=15\/k=22):=λq=>by simp[hc24.2 q]at h24
           refine aY (ι:=BC) (λ⟨b⟩=>aR [(0,.bx 0 0),(1,.d (aI (d:Nat))),(4,.bx 4 0),(5,.bx 5 0),(25,.d (aI (k))),(95,.d (.bool b))]) (λ⟨b⟩=>aL [(0,.box false [.d (.sl (L.map aI)),.d (aI ((i+1:Nat):Int))]),(4,.box false [.d (aI 0),.d (.str []),.d (aI 0),.nl]),(5,.box false [.d (aI k),.d (.str []),.d (aI 0),.nl])]) (λ⟨b⟩=>b=true↔(k=16\/k=23)) ?_ λ⟨b⟩ hc28=>?_
           ·apply aV;simp;refine⟨λh26=>?_,λh26=>?_⟩
            ·apply aF;simp;refine XG.mk ⟨decide (k=16)⟩ (aA hp [0,1,4,5,25,95] [(0,0),(4,4),(5,5)]) ?_;simp[h26]
            ·apply aK;simp;refine XG.mk ⟨decide (k=23)⟩ (aA hp [0,1,4,5,25,95] [(0,0),(4,4),(5,5)]) ?_;simp only[decide_eq_true_eq];omega
           ·apply aJ;simp;refine⟨λh28=>?_,λh28=>?_⟩
            ·have q28:=hc28.1 h28;apply aG;have hc6:=jM L (i+1) hL aE;refine aP (λ|99=>some (.gen ⟨[(0,0)],[],[],iY L (i+2),.d (.str (callM L (i+1)))⟩)|_=>none) ?_;simp;refine⟨by simpa using hc6,?_⟩;have hc7:=AA L (i+2) hL aE;refine aP (λ|102=>some (.gen ⟨[(0,0)],[],[],iY L (i+3),.d (.str (ownM L (i+2)))⟩)|_=>none) ?_;simp;refine⟨by simpa using hc7,?_⟩;refine gZ (bN 5 [104] (fz:=false) (cs:=[.d (aI k),.d (.str (callM L (i+1))),.d (aI (0)),.ow 104 0 1]) (ds:=[aI k,.str (callM L (i+1)),aI (0),.sl [(Nd.mk 33 (ownM L (i+2)) 0 []).d]]) aM aM aM (by simp[bB.mut])) ?_;simp;refine XG.mk ⟨.mk k (callM L (i+1)) (0) [Nd.mk 33 (ownM L (i+2)) 0 []],i+3⟩ (aA hp [0,1,4,5] [(0,0),(4,4),(5,5)]) ?_;rw[gI hc4];unfold vX;repeat(first|rw[if_pos aE]|rw[if_neg aE])
            ·have q28:¬(k=16\/k=23):=λq=>by simp[hc28.2 q]at h28
             apply aV;simp;refine⟨λh30=>?_,λh30=>?_⟩
             ·apply aG;have hc6:=AA L (i+1) hL aE;refine aP (λ|109=>some (.gen ⟨[(0,0)],[],[],iY L (i+2),.d (.str (ownM L (i+1)))⟩)|_=>none) ?_;simp;refine⟨by simpa using hc6,?_⟩;have hc7:=fD L (i+2) 5 hL aE bC;have hr7:=bU L ((i:Int)+2) 5 bC;refine aP (λ|112=>some (.gen ⟨[(0,0)],[],[],iY L (i+3),.d (aI (dQ L ((i:Int)+2) 5))⟩)|_=>none) ?_;simp;refine⟨⟨by simpa using hc7,aE⟩,?_⟩;refine gZ (bN 5 [] (fz:=false) (cs:=[.d (aI k),.d (.str (ownM L (i+1))),.d (aI (2+dQ L ((i:Int)+2) 5)),.nl]) (ds:=[aI k,.str (ownM L (i+1)),aI (2+dQ L ((i:Int)+2) 5),.sl []]) aM aM aM (by simp[bB.mut])) ?_;simp;refine XG.mk ⟨.mk k (ownM L (i+1)) (2+dQ L ((i:Int)+2) 5) [],i+3⟩ (aA hp [0,1,4,5] [(0,0),(4,4),(5,5)]) ?_;rw[gI hc4];unfold vX;repeat(first|rw[if_pos aE]|rw[if_neg aE])
              simp
             ·apply aV;simp;refine⟨λh33=>?_,λh33=>?_⟩
              ·have hc6:=AA L (i+1) hL aE;refine aP (λ|118=>some (.gen ⟨[(0,0)],[],[],iY L (i+2),.d (.str (ownM L (i+1)))⟩)|_=>none) ?_;simp;refine⟨by simpa using hc6,?_⟩;refine gZ (bN 5 [] (fz:=false) (cs:=[.d (aI k),.d (.str (ownM L (i+1))),.d (aI (0)),.nl]) (ds:=[aI k,.str (ownM L (i+1)),aI (0),.sl []]) aM aM aM (by simp[bB.mut])) ?_;simp;refine XG.mk ⟨.mk k (ownM L (i+1)) (0) [],i+2⟩ (aA hp [0,1,4,5] [(0,0),(4,4),(5,5)]) ?_;rw[gI hc4];unfold vX;repeat(first|rw[if_pos aE]|rw[if_neg aE])
              ·apply aV;simp;refine⟨λh35=>?_,λh35=>?_⟩
               ·have hc7:=fD L (i+1) 9 hL aE bC;have hr7:=bU L ((i:Int)+1) 9 bC;refine aP (λ|123=>some (.gen ⟨[(0,0)],[],[],iY L (i+2),.d (aI (dQ L ((i:Int)+1) 9))⟩)|_=>none) ?_;simp;refine⟨⟨by simpa using hc7,aE⟩,?_⟩;refine gZ (bN 5 [] (fz:=false) (cs:=[.d (aI k),.d (.str ([])),.d (aI (1+dQ L ((i:Int)+1) 9)),.nl]) (ds:=[aI k,.str ([]),aI (1+dQ L ((i:Int)+1) 9),.sl []]) aM aM aM (by simp[bB.mut])) ?_;simp;refine XG.mk ⟨.mk k ([]) (1+dQ L ((i:Int)+1) 9) [],i+2⟩ (aA hp [0,1,4,5] [(0,0),(4,4),(5,5)]) ?_;rw[gI hc4];unfold vX;repeat(first|rw[if_pos aE]|rw[if_neg aE])
                simp
               ·apply aV;simp;refine⟨λh37=>?_,λh37=>?_⟩
                ·have hc7:=fD L (i+1) 99 hL aE bC;have hr7:=bU L ((i:Int)+1) 99 bC;refine aP (λ|129=>some (.gen ⟨[(0,0)],[],[],iY L (i+2),.d (aI (dQ L ((i:Int)+1) 99))⟩)|_=>none) ?_;simp;refine⟨⟨by simpa using hc7,aE⟩,?_⟩;refine gZ (bN 5 [] (fz:=false) (cs:=[.d (aI k),.d (.str ([])),.d (aI (1+dQ L ((i:Int)+1) 99)),.nl]) (ds:=[aI k,.str ([]),aI (1+dQ L ((i:Int)+1) 99),.sl []]) aM aM aM (by simp[bB.mut])) ?_;simp;refine XG.mk ⟨.mk k ([]) (1+dQ L ((i:Int)+1) 99) [],i+2⟩ (aA hp [0,1,4,5] [(0,0),(4,4),(5,5)]) ?_;rw[gI hc4];unfold vX;repeat(first|rw[if_pos aE]|rw[if_neg aE])
                 simp
                ·apply aG;have hk24:k=24:=by have:=tU hc4;omega
                 subst hk24;apply aK;simp;apply aJ;simp;have hv:=sS L hL hll 2 (i+1) aE;refine aP (λ|135=>some (.gen ⟨[(0,0)],[],[],iY L (valueM L 2 (i+1)).2,.d (valueM L 2 (i+1)).1.d⟩)|_=>none) ?_;simp;refine⟨by simpa using hv,?_⟩;refine gZ (bN 5 [136] (fz:=false) (cs:=[.d (aI 24),.d (.str ([])),.d (aI (0)),.ow 136 0 1]) (ds:=[aI 24,.str ([]),aI (0),.sl [((valueM L 2 (i+1)).1).d]]) aM aM aM (by simp[bB.mut])) ?_;simp;refine XG.mk ⟨.mk 24 ([]) (0) [(valueM L 2 (i+1)).1],(valueM L 2 (i+1)).2⟩ (aA hp [0,1,4,5] [(0,0),(4,4),(5,5)]) ?_;rw[gI hc4];unfold vX;repeat(first|rw[if_pos aE]|rw[if_neg aE])
  ·apply aD;simp;apply aH;simp;refine bA (x:=(oneB L d bl i).1.d) (by simp[hc41]) ?_;simp;exact aA hp [0] [(0,0)] (hH:=by simp[hc41])
theorem Ld{L:List Int}{st:Nat->Nd×Nat}{C:Nat}(h:∀j,(st j).2<=j+C):∀(m:Nat) (ks:List Nd) (j:Nat),(somesM L st m ks j).2<=j+m*C
 |0,ks,j=>by simp[somesM]
 |m+1,ks,j=>by
  unfold somesM;split
  ·simp
  ·have a:=Ld (L:=L) h m (ks++[(st j).1]) (st j).2;have b:=h j;rw[Nat.succ_mul];omega
theorem Qc{L:List Int}{st:Nat->Nd×Nat}{C:Nat}(h:∀j,(st j).2<=j+C)(i:Nat):(someM L st i).2<=i+1+3*C:=by
 have hr:=bU L i 4 bC;have a:=Ld (L:=L) h (dQ L i 4).toNat [] (i+1);have b:(dQ L i 4).toNat*C<=3*C:=Nat.mul_le_mul_right C aE;show(somesM L st (dQ L i 4).toNat [] (i+1)).2<=_;omega
def EL:Nat->Nat
 |0=>40
 |d+1=>40+2*(1+3*EL d)
theorem IF(L:List Int):∀d i,(oneM L d i).2<=i+EL d
 |0,i=>by
  have h:∀j:Nat,((λ_=>default:Nat->Nd×Nat) j).2<=j+0:=λj=>Nat.zero_le _;have:=Qb (L:=L) (d:=0) (i:=i) h;rw[oneM];simp only[EL];omega
 |d+1,i=>by
  have h:=λj=>Qc (L:=L) (IF L d) j;have:=Qb (L:=L) (d:=d+1) (i:=i) (bl:=someM L (oneM L d)) (C:=1+3*EL d) λj=>by have:=h j;omega
  rw[oneM];simp only[EL];omega
theorem Le{d:Nat}(h:d<=2):EL d<=2000:=by
 have:∀d:Nat,d<3->EL d<=2000:=bC;exact this d aE
theorem Qd(L:List Int)(hL:Lc L)(hll:L.length<=1000000):∀(d:Nat),d<=2->∀b,b+70000*d<=1800000->Qa L 97 d b (oneM L d)
 |0,_,b,hb=>λj hj=>He L 0 j (λ_=>default) hL hll b hj aE aE (λe he=>aE) λj=>by show 0<=j+20000;omega
 |d+1,hd,b,hb=>λj hj=>by
  have hst:=Le (d:=d) aE;have hle:=λj=>Qc (L:=L) (IF L d) j;obtain⟨c,hc⟩:∃c,c=b+30000:=⟨_,rfl⟩;have h1:=Qd L hL hll d aE (c+40000) aE;have h2:Qa L 147 d c (someM L (oneM L d)):=λi hi=>Oh L d i (oneM L d) hL hll c hi aE h1 λj=>by have:=IF L d j;omega
  refine He L (d+1) j (someM L (oneM L d)) hL hll b hj aE aE (λe he=>?_) λj=>?_
  ·have:e=d:=aE;rw[this,<-hc];exact h2
  ·have:=hle j;omega
end
end Go.Eng
