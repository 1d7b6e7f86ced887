/- Part 8 of the proof. No condition. -/
import Derived.Test.YtjdlbidjlfllcaaGreatDoorMG
open Go.Proofs
set_option linter.unusedVariables false
set_option linter.unusedSimpArgs false
set_option maxRecDepth 20000
set_option maxHeartbeats 4000000
namespace Go.Eng
section
attribute[local simp] jO.cond Nd.d_eq nd_t nd_dr nd_td ndsD aQ bL lH dE cV
theorem Bf(k:IntKind)(n:Int):(Value.int k n).oneCell'=true:=rfl
theorem Bg(x:ByteArray):(Value.string x).oneCell'=true:=rfl
theorem Bh(x:Option Addr)(a b:Nat):(Value.slice x a b).oneCell'=true:=rfl
theorem Jc(a b c d:Value):(∀(i:Nat) (x:i<4),([a,b,c,d][i]'(x)).oneCell'=true)↔(a.oneCell'=true/\b.oneCell'=true/\c.oneCell'=true/\d.oneCell'=true):=by
 constructor
 ·intro h;exact⟨h 0 (by decide),h 1 (by decide),h 2 (by decide),h 3 (by decide)⟩
 ·rintro⟨h1,h2,h3,h4⟩ i hi
  match i,hi with
  |0,_=>exact h1
  |1,_=>exact h2
  |2,_=>exact h3
  |3,_=>exact h4
attribute[local simp] kY Bf Bg Bh Jc
theorem PX{c:Prop}[Decidable c]{f:Nat->aV}{a b:PS}{x:Nat}(h:f 0=.box false [.d (.sl (b.l.map Tk.d)),.d (aG b.e)]):
 bQ f (if c then [(0,.box false [.d (.sl (a.l.map Tk.d)),.d (aG a.e)])]else []) x=if x=0 then .box false [.d (.sl ((if c then a else b).l.map Tk.d)),.d (aG (if c then a else b).e)]else f x:=by
 by_cases hc:c
 ·simp only[hc,if_true,bQ,bY]
 ·simp only[hc,if_false,bQ];split
  ·rename_i e;rw[e];exact h
  ·rfl
structure KC where
 k:Int
structure StS where
 x:Nd
 q:PS
theorem LT(p:PS)(n:Nat)(ex bl:PS->Nd×PS)(hE:lJ (n+1) 182 ex)(hB:lJ n 125 bl)(hn:p.l.length<n+1)(hg:bH p.l):iE Tryz.prog 162 [.bx 0 0] (dE p) (dE (stmtB ex bl p).2) (.d (stmtB ex bl p).1.d):=by
 unfold dE;refine eR Tryz.func162 rfl Tryz.ntmps162 Tryz.results162 λw0 X hp=>?_;refine aA ?_;simp;refine aX hT hW (λ|7=>some (.gen ⟨[(0,0)],[],[],dE p,.d (.str p.peek)⟩)|_=>none) ?_;simp;refine⟨lC p,?_⟩;refine aA ?_;simp;refine aP (ι:=KC) (λ⟨k⟩=>aO [(0,.bx 0 0),(2,.bx 2 0),(3,.d (.str p.peek)),(4,.d (aG k))]) (λ⟨k⟩=>aI [(0,.box false [.d (lH p.l),.d (aG p.e)]),(2,.box false [.d (aG 0),.d (.str []),.d (aG 0),.nl])]) (λ⟨k⟩=>kindP p.peek=k) ?_ λ⟨k⟩ hc5=>?_
 ·refine aA ?_;simp;refine aC ?_;simp;refine⟨λh3=>?_,λh3=>?_⟩
  ·have hi:=qA wordsL p.peek;have q2:=iW;rw[<-Vt h3]at hi;refine eF.ro hT hW (λ|12=>some<| .plain ⟨.d (aG (kindP p.peek)),true⟩|_=>none) ?_;simp[xA];refine⟨⟨by omega,hi⟩,?_⟩;refine UV.mk ⟨kindP p.peek⟩ (aB hp [0,2,3,4] [(0,0),(2,2)]) ?_;rfl
  ·refine aE ?_;simp;refine UV.mk ⟨-1⟩ (aB hp [0,2,3,4] [(0,0),(2,2)]) ?_;exact yX h3
 ·refine aA ?_;simp;refine aP (ι:=StS) (λ⟨x,q⟩=>aO [(0,.bx 0 0),(2,.bx 2 0),(5,.bx 5 0)]) (λ⟨x,q⟩=>aI [(0,.box false [.d (lH q.l),.d (aG q.e)]),(2,.box false [.d (aG 0),.d (.str []),.d (aG 0),.nl]),(5,.box false [.d (aG x.kind),.d (.str x.text),.d (aG x.n),.d (ndsD x.kids)])]) (λ⟨x,q⟩=>stmtB ex bl p=(x,q.need [59])) ?_ λ⟨x,q⟩ hc22=>?_
  ·refine aH ?_;refine aA ?_;simp;refine aC ?_;simp;refine⟨λg=>?_,λg1 g2=>?_⟩
   ·refine aD ?_;have ip:=jM (p:=p) (by omega);have lp:=fK ip;rw[<-cB ip]at lp;have gp:=dO (s:=p.peek) hg;refine eF.ro hT hW (λ|39=>some (.gen ⟨[(0,0)],[],[],dE (p.took p.peek),.d (.bool (p.is p.peek))⟩)|_=>none) ?_;simp;refine⟨iY p p.peek,?_⟩;refine gH (fz:=false) (cs:=[.d (aG k),.d (.str []),.d (aG 0),.nl]) 5 3 1048 4 (by decide) ⟨by simp,by simp,by simp,?_⟩;simp;refine aD ?_;have he:=hE.ok (p.took p.peek) (by omega) gp;have le:=hE.le (p.took p.peek) (by omega) gp;have hb:=hB.ok (ex (p.took p.peek)).2 (by omega) le.2;have lb:=hB.le (ex (p.took p.peek)).2 (by omega) le.2;refine eF.rd [[0,47],[0,47],[47],[47],[0,47],[47],[0,47],[0],[],[5],[5],[0,5,47,48,1048],[5],[5],[48],[48]] [[],[],[],[0],[],[0],[],[47],[48,1048],[],[48],[],[],[48],[],[5]] (λ|43=>some (.gen ⟨[(0,0)],[],[],dE (ex (p.took p.peek)).2,.d (ex (p.took p.peek)).1.d⟩)|45=>some (.gen ⟨[(0,0)],[],[],dE (bl (ex (p.took p.peek)).2).2,.d (bl (ex (p.took p.peek)).2).1.d⟩)|_=>none) ?_;simp;refine⟨⟨⟨by simpa using he,by simpa using hb⟩,by decide⟩,?_⟩;refine aD ?_;refine aD ?_;have ht:=iY (bl (ex (p.took p.peek)).2).2 sElse;refine eF.ro hT hW (λ|57=>some (.gen ⟨[(0,0)],[],[],dE ((bl (ex (p.took p.peek)).2).2.took sElse),.d (.bool ((bl (ex (p.took p.peek)).2).2.is sElse))⟩)|_=>none) ?_;simp[PX (b:=(bl (ex (p.took p.peek)).2).2)];refine⟨λ_=>ht,?_⟩;refine aC ?_;simp;refine⟨λg3 g4=>?_,λg3=>?_⟩
    ·simp only[g3,if_true];have gt:=dO (s:=sElse) lb.2;have lt:((bl (ex (p.took p.peek)).2).2.took sElse).l.length<=(bl (ex (p.took p.peek)).2).2.l.length:=by rw[cB g4];exact dP
     have hb2:=hB.ok ((bl (ex (p.took p.peek)).2).2.took sElse) (by omega) gt;refine eF.rd [[0,64],[0,64],[64],[64],[0,64],[0],[],[5],[5],[65],[65]] [[],[],[],[0],[],[64],[65,48],[],[65],[],[5]] (λ|62=>some (.gen ⟨[(0,0)],[],[],dE (bl ((bl (ex (p.took p.peek)).2).2.took sElse)).2,.d (bl ((bl (ex (p.took p.peek)).2).2.took sElse)).1.d⟩)|_=>none) ?_;simp;refine⟨by simpa using hb2,?_⟩;refine aA ?_;simp;refine aF ?_;simp;have e:=BP (ex:=ex) (bl:=bl) hc5 g3 g4;refine aU (x:=(stmtB ex bl p).1.d) (by simp[e,g3]) ?_;simp;exact aB hp [0] [(0,0)] (hH:=by simp[e])
    ·have eq:(if k=11 then(bl (ex (p.took p.peek)).2).2.took sElse else(bl (ex (p.took p.peek)).2).2)=(bl (ex (p.took p.peek)).2).2:=by
      split
      ·rename_i z;exact fW (by simp[g3 z])
      ·rfl
     simp only[eq];refine aE ?_;simp;refine aA ?_;simp;refine aF ?_;simp;have e:=NL (ex:=ex) (bl:=bl) hc5 g g3;refine aU (x:=(stmtB ex bl p).1.d) (by simp[e]) ?_;simp;exact aB hp [0] [(0,0)] (hH:=by simp[e])
   ·refine aA ?_;simp;refine aC ?_;simp;refine⟨λh15=>?_,λh15=>?_⟩
    ·refine aD ?_;have ip:=jM (p:=p) (by have:=hc5;simp only at this;omega);have lp:=fK ip;rw[<-cB ip]at lp;have gp:=dO (s:=p.peek) hg;refine eF.ro hT hW (λ|74=>some (.gen ⟨[(0,0)],[],[],dE (p.took p.peek),.d (.bool (p.is p.peek))⟩)|_=>none) ?_;simp;refine⟨iY p p.peek,?_⟩;have kr:=wY (s:=p.peek) (by have:=hc5;simp only at this;omega);have hcm:=LS (p.took p.peek) (n+1) ex k (by have:=hc5;simp only at this;omega) hE (by omega) gp;refine eF.ro hT hW (λ|76=>some (.gen ⟨[(0,0),(5,1)],[],[],Yf (cmdP ex k (p.took p.peek)).2 (cmdP ex k (p.took p.peek)).1,.tup []⟩)|_=>none) ?_;simp[Yf];refine⟨by simpa [Yf]using hcm,?_⟩;refine UV.mk ⟨(cmdP ex k (p.took p.peek)).1,(cmdP ex k (p.took p.peek)).2⟩ (aB hp [0,2,5] [(0,0),(2,2),(5,5)]) ?_;exact GT hc5 h15
    ·refine aD ?_;have hpf:=nP p.peek [36] (by have:=lD hg;omega) (by decide);refine eF.ro hT hW (λ|79=>some<| .plain ⟨.d (.bool (decide (p.peek.take 1=[36]))),true⟩|_=>none) ?_;simp;refine⟨hpf,?_⟩;refine aC ?_;simp;refine⟨λh18=>?_,λh18=>?_⟩
     ·refine aD ?_;have hlo:=yR p hg;have gl:=dR hg;refine eF.ro hT hW (λ|81=>some (.gen ⟨[(0,0)],[],[],dE (localP p).2,.d (.str (localP p).1)⟩)|_=>none) ?_;simp;refine⟨hlo,?_⟩;refine aD ?_;have hne:=jU (localP p).2 [61];have gn:=bT (s:=[61]) gl.2.1;refine eF.ro hT hW (λ|84=>some (.gen ⟨[(0,0)],[],[],dE ((localP p).2.need [61]),.tup []⟩)|_=>none) ?_;simp;refine⟨hne,?_⟩;have hx:=hE.ok ((localP p).2.need [61]) (by have:=gl.1;omega) gn.2;refine eF.ro hT hW (λ|86=>some (.gen ⟨[(0,0)],[],[],dE (ex ((localP p).2.need [61])).2,.d (ex ((localP p).2.need [61])).1.d⟩)|_=>none) ?_;simp;refine⟨by simpa using hx,?_⟩;refine gG (bJ 5 [87] (fz:=false) (cs:=[.d (aG 9),.d (.str (localP p).1),.d (aG 0),.ow 87 0 1]) (ds:=[aG 9,.str (localP p).1,aG 0,.sl [(ex ((localP p).2.need [61])).1.d]]) (by simp) (by simp) (by simp) (by simp[aV.mut])) ?_;simp;refine UV.mk ⟨.mk 9 (localP p).1 0 [(ex ((localP p).2.need [61])).1],(ex ((localP p).2.need [61])).2⟩ (aB hp [0,2,5] [(0,0),(2,2),(5,5)]) ?_;exact yY hc5 (by omega) (by omega) h18
     ·refine aD ?_;have hpl:=IV p hg;have gl:=kQ (p.l.length+1) p (Nat.lt_succ_self _) hg;refine eF.ro hT hW (λ|16=>some (.gen ⟨[(0,0)],[],[],dE (placeP p).2,.d (placeP p).1.d⟩)|_=>none) ?_;simp;refine⟨by simpa using hpl,?_⟩;refine aD ?_;have hne:=jU (placeP p).2 [61];have gn:=bT (s:=[61]) gl.2.1;refine eF.ro hT hW (λ|20=>some (.gen ⟨[(0,0)],[],[],dE ((placeP p).2.need [61]),.tup []⟩)|_=>none) ?_;simp;refine⟨hne,?_⟩;have hx:=hE.ok ((placeP p).2.need [61]) (by have:=gl.1;omega) gn.2;refine eF.rd [[0,26],[0,26],[26],[26],[0,26],[0],[],[5],[5],[27],[27]] [[],[],[],[0],[],[26],[27,17],[],[27],[],[5]] (λ|24=>some (.gen ⟨[(0,0)],[],[],dE (ex ((placeP p).2.need [61])).2,.d (ex ((placeP p).2.need [61])).1.d⟩)|_=>none) ?_;simp;refine⟨by simpa using hx,?_⟩;refine gG (bJ 5 [27] (fz:=false) (cs:=[.d (aG 10),.d (.str []),.d (aG 0),.ow 27 0 2]) (ds:=[aG 10,.str [],aG 0,.sl [(placeP p).1.d,(ex ((placeP p).2.need [61])).1.d]]) (by simp) (by simp) (by simp) (by simp[aV.mut])) ?_;simp;refine UV.mk ⟨.mk 10 [] 0 [(placeP p).1,(ex ((placeP p).2.need [61])).1],(ex ((placeP p).2.need [61])).2⟩ (aB hp [0,2,5] [(0,0),(2,2),(5,5)]) ?_;exact yZ hc5 (by omega) (by omega) h18
  ·refine aD ?_;have hne:=jU q [59];refine eF.ro hT hW (λ|90=>some (.gen ⟨[(0,0)],[],[],dE (q.need [59]),.tup []⟩)|_=>none) ?_;simp;refine⟨hne,?_⟩;refine aA ?_;simp;refine aF ?_;simp;exact aB hp [0] [(0,0)] (by simp[hc22]) (by simp[hc22])
end
section
attribute[local simp] jO.cond Nd.d_eq nd_t nd_dr nd_td ndsD aQ bL cV dK yT yU yV mZ GS
theorem Fs.need{T:List Tk}{p:PS}(f:jF T p)(w:aM):jF T (p.need w)/\(p.need w).l.length<=p.l.length:=⟨f.need,gK⟩
theorem Jd{T:List Tk}{m:Nat}{st:PS->Nd×PS}(hs:Fs T m st):∀(f:Nat) (ks:List Nd) (p:PS),p.l.length<m->jF T p->jF T (stmtsF st f ks p).2/\(stmtsF st f ks p).2.l.length<=p.l.length
 |0,_,p,_,hf=>⟨hf,Nat.le_refl _⟩
 |f+1,ks,p,hm,hf=>by
  rw[stmtsF];split
  ·exact⟨hf,Nat.le_refl _⟩
  ·obtain⟨a1,a2⟩:=hs p hm hf;obtain⟨b1,b2⟩:=Jd hs f (ks++[(st p).1]) (st p).2 (by omega) a1;exact⟨b1,Nat.le_trans b2 a2⟩
theorem Fs.block{T:List Tk}{m:Nat}{st:PS->Nd×PS}(hs:Fs T m st):Fs T m (blockB st):=λp hm hf=>by
 obtain⟨a1,a2⟩:=Fs.need hf [123];obtain⟨b1,b2⟩:=Jd hs ((p.need [123]).l.length+1) [] (p.need [123]) (by omega) a1;obtain⟨c1,c2⟩:=Fs.need b1 [125];exact⟨c1,Nat.le_trans c2 (Nat.le_trans b2 a2)⟩
theorem Ti{T:List Tk}(hg:bH T)(m:Nat):Fs T m λq=>exprP true (q.l.length+1) q:=λq _ f=>GV hg (q.l.length+1) q (Nat.lt_succ_self _) f
theorem Tj{s:aM}{T:List Tk}(c:yS s T)(m:Nat):RR s T m 219 λq=>exprP true (q.l.length+1) q:=
 ⟨λq _ f=>(NO c (q.l.length+1)).ok q (Nat.lt_succ_self _) f,Ti c.hg m⟩
def Ar(ex:PS->Nd×PS)(p:PS):Nd×PS:=
 if p.peek.take 1=[36]then(.mk 9 (localP p).1 0 [(ex ((localP p).2.need [61])).1],(ex ((localP p).2.need [61])).2)
 else(.mk 10 [] 0 [(placeP p).1,(ex ((placeP p).2.need [61])).1],(ex ((placeP p).2.need [61])).2)
def PY(ex bl:PS->Nd×PS)(k:Int)(p:PS):Nd×PS:=
 if k=11/\(bl (ex (p.took p.peek)).2).2.is sElse=true then
  (.mk k [] 0 [(ex (p.took p.peek)).1,(bl (ex (p.took p.peek)).2).1,(bl ((bl (ex (p.took p.peek)).2).2.took sElse)).1],(bl ((bl (ex (p.took p.peek)).2).2.took sElse)).2)
 else(.mk k [] 0 [(ex (p.took p.peek)).1,(bl (ex (p.took p.peek)).2).1],(bl (ex (p.took p.peek)).2).2)
theorem PZ(s:aM)(T:List Tk)(c:yS s T)(p:PS)(n:Nat)(st:PS->Nd×PS)(hS:RR s T n 174 st)(hE:LR n st)(hn:p.l.length<n)(f:jF T p):iE Tryz.prog 141 [.bx 0 0] (dK s T p) (dK s T (blockB st p).2) (.d (blockB st p).1.d):=by
 unfold dK;have htt:=c.ht;have hpT:=f.le;refine eR Tryz.func141 rfl Tryz.ntmps141 Tryz.results141 λw0 X hp=>?_;refine aA ?_;simp;refine aA ?_;simp;refine gH (fz:=false) (cs:=[.d (aG 8),.d (.str []),.d (aG 0),.nl]) 3 3 1022 4 (by decide) ⟨by simp,by simp,by simp,?_⟩;simp;refine aD ?_;have hn2:=gP s T p c f [123] (by simp);have gl:=Fs.need f [123];refine eF.ro hT hW (λ|6=>some (.gen ⟨[(0,0)],[],[],dK s T (p.need [123]),.tup []⟩)|_=>none) ?_;simp;refine⟨hn2,?_⟩;refine aD ?_;refine aH ?_;refine aR (ι:=Yx) (λ⟨f,ks,q⟩=>aO [(0,.bx 0 0),(2,.bx 2 0),(3,.bx 3 0)]) (λ⟨f,ks,q⟩=>aI [(0,.box false [.d (.str s),.d (.sl (T.map Tk.r)),.d (aG ((T.length:Int)- q.l.length)),.d (.bool (!decide (q.e=0))),.d (.bool (decide (q.e=5)))]),(2,.box false [.d (aG 0),.d (.str []),.d (aG 0),.nl]),(3,.box false [.d (aG 8),.d (.str []),.d (aG 0),.ow 1022 0 ks.length]),(1022,.row false 4 (ks.map Nd.d))]) (λ⟨f,ks,q⟩=>(q.e=0->q.l.length<f)/\jF T q/\q.l.length<=p.l.length/\ks.length+q.l.length<=p.l.length+(if q.e=0 then 0 else 1)/\stmtsF st ((p.need [123]).l.length+1) [] (p.need [123])=stmtsF st f ks q) (λ⟨f,ks,q⟩=>2*q.l.length+(if q.e=0 then 1 else 0)) ⟨(p.need [123]).l.length+1,[],p.need [123]⟩ (aB hp [0,2,3] [(0,0),(2,2),(3,3),(1022,1022)]) (⟨λ_=>Nat.lt_succ_self _,gl.1,gl.2,by have:=gl.2;simp only[List.length_nil];omega,rfl⟩) λ⟨f,ks,q⟩ hi3=>?_;refine aD ?_;refine aD ?_;have hpk:=iM s T q c hi3.2.1;refine eF.ro hT hW (λ|14=>some (.gen ⟨[(0,0)],[],[],dK s T q,.d (.str q.peek)⟩)|_=>none) ?_;simp[rA];refine⟨λ_=>hpk,?_⟩;refine aC ?_;simp;refine⟨λg1 g2=>?_,λg=>?_⟩
 ·refine aE ?_;simp;refine aH ?_;have ha:q.l.length<=p.l.length:=hi3.2.2.1;have hk:ks.length+q.l.length<=p.l.length:=by have z:=hi3.2.2.2.1;simp only[g1,if_true]at z;omega
  have hs:=hS.ok q (by omega) hi3.2.1;have hle:=hS.fs q (by omega) hi3.2.1;have heat:=hE q (by omega) (hi3.2.1.good c) g1;refine eF.rd [[0,21],[0,21]] [[],[],[],[0],[21],[22,1022],[],[3]] (λ|20=>some (.gen ⟨[(0,0)],[],[],dK s T (st q).2,.d (st q).1.d⟩)|_=>none) ?_;simp;refine⟨⟨by simpa using hs,by omega,by omega⟩,?_⟩;refine Nf.mk ⟨f-1,ks++[(st q).1],(st q).2⟩ (aB hp [0,2,3] [(0,0),(2,2),(3,3),(22,1022)]) ?_ ?_
  ·refine⟨λe=>?_,hle.1,?_,?_,?_⟩
   ·show(st q).2.l.length<f-1;have z:=hi3.1 g1;rcases heat with h|h
    ·exact absurd e h
    ·omega
   ·show(st q).2.l.length<=p.l.length;omega
   ·show(ks++[(st q).1]).length+(st q).2.l.length<=p.l.length+(if(st q).2.e=0 then 0 else 1);rw[List.length_append,List.length_singleton];by_cases e:(st q).2.e=0
    ·rw[if_pos e];rcases heat with h|h
     ·exact absurd e h
     ·omega
    ·rw[if_neg e];omega
   ·rw[hi3.2.2.2.2];exact IY (hi3.1 g1) g1 g2
  ·show 2*(st q).2.l.length+(if(st q).2.e=0 then 1 else 0)<2*q.l.length+(if q.e=0 then 1 else 0);rw[if_pos g1];by_cases e:(st q).2.e=0
   ·rw[if_pos e];rcases heat with h|h
    ·exact absurd e h
    ·omega
   ·rw[if_neg e];omega
 ·refine bA ?_;simp;refine aD ?_;have hn5:=gP s T q c hi3.2.1 [125] (by simp);refine eF.ro hT hW (λ|25=>some (.gen ⟨[(0,0)],[],[],dK s T (q.need [125]),.tup []⟩)|_=>none) ?_;simp;refine⟨hn5,?_⟩;refine aA ?_;simp;refine aF ?_;simp;have e:blockB st p=(.mk 8 [] 0 ks,q.need [125]):=by unfold blockB;simp only[];rw[hi3.2.2.2.2,Fp g]
  refine aU (x:=(blockB st p).1.d) (by simp[e]) ?_;simp;exact aB hp [0] [(0,0)] (hH:=by simp[e])
theorem RR.block{s:aM}{T:List Tk}(c:yS s T){n:Nat}{st:PS->Nd×PS}(hS:RR s T n 174 st)(hE:LR n st):RR s T n 141 (blockB st):=
 ⟨λq hq f=>PZ s T c q n st hS hE hq f,Fs.block hS.fs⟩
theorem LU(s:aM)(T:List Tk)(c:yS s T)(p:PS)(w:aM)(hw:p.peek=w)(n:Nat)(ex:PS->Nd×PS)(hE:RR s T n 219 ex)(hn:p.l.length<n)(f:jF T p):iE Tryz.prog 220 [.bx 0 0,.d (.str w)] (dK s T p) (dK s T (Ar ex p).2) (.d (Ar ex p).1.d):=by
 unfold dK;have gp:=f.good c;refine eR Tryz.func220 rfl Tryz.ntmps220 Tryz.results220 λw0 X hp=>?_;refine aA ?_;simp;refine aD ?_;refine aA ?_;simp;refine aC ?_;simp;refine⟨λg1 g2=>?_,λg=>?_⟩
 ·have gd:p.peek.take 1=[36]:=XI.2 ⟨by rw[hw];omega,by rw[hw];exact g2⟩;refine aD ?_;have hlo:=qZ s T p c f;have gl:=(dR gp).1;refine eF.ro hT hW (λ|16=>some (.gen ⟨[(0,0)],[],[],dK s T (localP p).2,.d (.str (localP p).1)⟩)|_=>none) ?_;simp;refine⟨hlo,?_⟩;refine aD ?_;have hne:=gP s T (localP p).2 c f.local [61] (by simp);have gn:=Fs.need f.local [61];refine eF.ro hT hW (λ|19=>some (.gen ⟨[(0,0)],[],[],dK s T ((localP p).2.need [61]),.tup []⟩)|_=>none) ?_;simp;refine⟨hne,?_⟩;refine aD ?_;have hx:=hE.ok ((localP p).2.need [61]) (by omega) gn.1;refine eF.rd [[0,24],[0,24]] [[],[],[],[0],[24],[25],[],[5]] (λ|23=>some (.gen ⟨[(0,0)],[],[],dK s T (ex ((localP p).2.need [61])).2,.d (ex ((localP p).2.need [61])).1.d⟩)|_=>none) ?_;simp;refine⟨by simpa using hx,?_⟩;refine aA ?_;simp;refine aF ?_;simp;have e:Ar ex p=(.mk 9 (localP p).1 0 [(ex ((localP p).2.need [61])).1],(ex ((localP p).2.need [61])).2):=if_pos gd;refine aU (x:=(Ar ex p).1.d) (by simp[e]) ?_;simp;exact aB hp [0] [(0,0)] (hH:=by simp[e])
 ·have gd:¬p.peek.take 1=[36]:=λz=>by have y:=XI.1 z;rw[hw]at y;have:=g (by omega);omega
  refine aE ?_;simp;refine aA ?_;simp;refine aD ?_;have hpl:=Fr s T p c f;have gl:=(kQ (p.l.length+1) p (Nat.lt_succ_self _) gp).1;refine eF.rd [[0,33],[0,33]] [[],[],[],[0],[33],[34],[],[6]] (λ|32=>some (.gen ⟨[(0,0)],[],[],dK s T (placeP p).2,.d (placeP p).1.d⟩)|_=>none) ?_;simp;refine⟨by simpa using hpl,?_⟩;refine aD ?_;have hne:=gP s T (placeP p).2 c f.place [61] (by simp);have gn:=Fs.need f.place [61];refine eF.ro hT hW (λ|37=>some (.gen ⟨[(0,0)],[],[],dK s T ((placeP p).2.need [61]),.tup []⟩)|_=>none) ?_;simp;refine⟨hne,?_⟩;refine aD ?_;have hx:=hE.ok ((placeP p).2.need [61]) (by omega) gn.1;refine eF.rd [[0,42],[0,42]] [[],[],[],[0],[42],[43,34],[],[6]] (λ|41=>some (.gen ⟨[(0,0)],[],[],dK s T (ex ((placeP p).2.need [61])).2,.d (ex ((placeP p).2.need [61])).1.d⟩)|_=>none) ?_;simp;refine⟨by simpa using hx,?_⟩;refine aA ?_;simp;refine aF ?_;simp;have e:Ar ex p=(.mk 10 [] 0 [(placeP p).1,(ex ((placeP p).2.need [61])).1],(ex ((placeP p).2.need [61])).2):=if_neg gd;refine aU (x:=(Ar ex p).1.d) (by simp[e]) ?_;simp;exact aB hp [0] [(0,0)] (hH:=by simp[e])
end
section
attribute[local simp] jO.cond Nd.d_eq nd_t nd_dr nd_td ndsD aQ bL cV dK yT yU yV mZ GS
theorem Qa{s:aM}{T:List Tk}{c:Prop}[Decidable c]{f:Nat->aV}{a b:PS}{x:Nat}(h:f 0=.box false [.d (.str s),.d (.sl (T.map Tk.r)),.d (aG ((T.length:Int)- b.l.length)),.d (.bool (!decide (b.e=0))),.d (.bool (decide (b.e=5)))]):
 bQ f (if c then [(0,.box false [.d (.str s),.d (.sl (T.map Tk.r)),.d (aG ((T.length:Int)- a.l.length)),.d (.bool (!decide (a.e=0))),.d (.bool (decide (a.e=5)))])]else []) x=
  if x=0 then .box false [.d (.str s),.d (.sl (T.map Tk.r)),.d (aG ((T.length:Int)-(if c then a else b).l.length)),.d (.bool (!decide ((if c then a else b).e=0))),.d (.bool (decide ((if c then a else b).e=5)))]else f x:=by
 by_cases hc:c
 ·simp only[hc,if_true,bQ,bY]
 ·simp only[hc,if_false,bQ];split
  ·rename_i e;rw[e];exact h
  ·rfl
def Tl:aM:=[119,104,105,108,101]
theorem Vw{ex bl:PS->Nd×PS}{k:Int}{p:PS}(hs:p.took p.peek=p.skip)(h:k=11)(he:(bl (ex p.skip).2).2.is sElse=true):
 PY ex bl k p=(.mk k [] 0 [(ex p.skip).1,(bl (ex p.skip).2).1,(bl ((bl (ex p.skip).2).2.took sElse)).1],(bl ((bl (ex p.skip).2).2.took sElse)).2):=by
 unfold PY;rw[hs,if_pos ⟨h,he⟩]
theorem Xk{ex bl:PS->Nd×PS}{k:Int}{p:PS}(hs:p.took p.peek=p.skip)(he:k=11->(bl (ex p.skip).2).2.is sElse=false):
 PY ex bl k p=(.mk k [] 0 [(ex p.skip).1,(bl (ex p.skip).2).1],(bl (ex p.skip).2).2):=by
 unfold PY;rw[hs,if_neg (λz=>by rw[he z.1]at z;exact absurd z.2 (by simp))]
theorem LW(s:aM)(T:List Tk)(c:yS s T)(p:PS)(w:aM)(k:Int)(hk:k=11\/k=12)(hw:w=Tl↔k=12)(hpk:p.peek≠[])(n:Nat)(ex bl:PS->Nd×PS)(hE:RR s T (n+1) 219 ex)(hB:RR s T n 141 bl)(hn:p.l.length<n+1)(f:jF T p):iE Tryz.prog 203 [.bx 0 0,.d (.str w)] (dK s T p) (dK s T (PY ex bl k p).2) (.d (PY ex bl k p).1.d):=by
 unfold dK;have htt:=c.ht;have hsk:=pS (T:=T) hpk;have hps:=f.pos hpk;have htk:p.took p.peek=p.skip:=cB (eE.2 ⟨hpk,rfl⟩);have hl:=oL hpk;have fx:=hE.fs p.skip (by omega) f.skip;have fb:=hB.fs (ex p.skip).2 (by omega) fx.1;refine eR Tryz.func203 rfl Tryz.ntmps203 Tryz.results203 λw0 X hp=>?_;refine aA ?_;simp;refine aA ?_;simp;refine⟨by omega,?_⟩;simp only[<-hsk];refine aA ?_;simp;refine aP (ι:=YY) (λ⟨j⟩=>aO [(0,.bx 0 0),(4,.bx 4 0),(5,.bx 5 0)]) (λ⟨j⟩=>aI [(0,.box false [.d (.str s),.d (.sl (T.map Tk.r)),.d (aG ((T.length:Int)- p.skip.l.length)),.d (.bool (!decide (p.e=0))),.d (.bool (decide (p.e=5)))]),(4,.box false [.d (aG 0),.d (.str []),.d (aG 0),.nl]),(5,.box false [.d (aG j),.d (.str []),.d (aG 0),.nl])]) (λ⟨j⟩=>k=j) ?_ λ⟨j⟩ hc5=>?_
 ·refine aA ?_;simp;refine aC ?_;simp;refine⟨λh3=>?_,λh3=>?_⟩
  ·have ek:k=12:=hw.1 h3;refine aJ ?_;simp;refine UV.mk ⟨12⟩ (aB hp [0,4,5] [(0,0),(4,4),(5,5)]) ?_;exact ek
  ·have ek:k=11:=hk.resolve_right λz=>h3 (hw.2 z);refine aE ?_;simp;refine UV.mk ⟨11⟩ (aB hp [0,4,5] [(0,0),(4,4),(5,5)]) ?_;exact ek
 ·refine aD ?_;have hj:k=j:=hc5;subst hj;have he:=hE.ok p.skip (by omega) f.skip;rw[Nd.d_eq]at he;refine eF.rd [[0,21],[0,21]] [[],[],[],[0],[21],[22],[],[5]] (λ|20=>some (.gen ⟨[(0,0)],[],[],dK s T (ex p.skip).2,.d (ex p.skip).1.d⟩)|_=>none) ?_;simp;refine⟨he,?_⟩;refine aD ?_;have hb:=hB.ok (ex p.skip).2 (by omega) fx.1;refine eF.rd [[0,28],[0,28]] [[],[],[],[0],[28],[29,22],[],[5]] (λ|27=>some (.gen ⟨[(0,0)],[],[],dK s T (bl (ex p.skip).2).2,.d (bl (ex p.skip).2).1.d⟩)|_=>none) ?_;simp;refine⟨by simpa using hb,?_⟩;refine aD ?_;refine aD ?_;have ht:=uI s T (bl (ex p.skip).2).2 c fb.1 sElse (by decide);refine eF.ro hT hW (λ|36=>some (.gen ⟨[(0,0)],[],[],dK s T ((bl (ex p.skip).2).2.took sElse),.d (.bool ((bl (ex p.skip).2).2.is sElse))⟩)|_=>none) ?_;simp[Qa (b:=(bl (ex p.skip).2).2)];refine⟨λ_=>ht,?_⟩;refine aC ?_;simp;refine⟨λg3 g4=>?_,λg3=>?_⟩
  ·simp only[g3,if_true];have lt:((bl (ex p.skip).2).2.took sElse).l.length<=(bl (ex p.skip).2).2.l.length:=GU;have hb2:=hB.ok ((bl (ex p.skip).2).2.took sElse) (by omega) fb.1.took;refine eF.rd [[0,42],[0,42]] [[],[],[],[0],[42],[43,29],[],[5]] (λ|41=>some (.gen ⟨[(0,0)],[],[],dK s T (bl ((bl (ex p.skip).2).2.took sElse)).2,.d (bl ((bl (ex p.skip).2).2.took sElse)).1.d⟩)|_=>none) ?_;simp;refine⟨by simpa using hb2,?_⟩;refine aA ?_;simp;refine aF ?_;simp;subst g3;have e:=Vw (ex:=ex) (bl:=bl) htk rfl g4;refine aU (x:=(PY ex bl 11 p).1.d) (by simp[e]) ?_;simp;exact aB hp [0] [(0,0)] (hH:=by simp[e])
  ·have eq:(if k=11 then(bl (ex p.skip).2).2.took sElse else(bl (ex p.skip).2).2)=(bl (ex p.skip).2).2:=by
    split
    ·rename_i z;exact fW (by simp[g3 z])
    ·rfl
   simp only[eq];refine aE ?_;simp;refine aA ?_;simp;refine aF ?_;simp;have e:=Xk (ex:=ex) (bl:=bl) htk g3;refine aU (x:=(PY ex bl k p).1.d) (by simp[e]) ?_;simp;exact aB hp [0] [(0,0)] (hH:=by simp[e])
def pE(ex:PS->Nd×PS)(p:PS):Nd×PS:=if 12<kindP p.peek then cmdP ex (kindP p.peek) (p.took p.peek)else Ar ex p
theorem GW{w:aM}(h:0<=kindP w):wordAt (kindP w)=w/\kindP w<26:=by
 unfold kindP wordI at h|-;split at h
 ·omega
 ·rename_i hw;rw[if_neg hw];cases e:(List.range 26).find? (λi=>decide (wordsL.getD i []=w))with
  |none=>rw[e]at h;simp at h
  |some i=>
   have h1:=List.find?_some e;have h2:=List.mem_range.1 (List.mem_of_find?_eq_some e);simp only[decide_eq_true_eq]at h1;exact⟨h1,by simp only;omega⟩
theorem As{k:Int}{p:PS}(h:¬(k=19\/k=20))(h2:¬(k=21\/k=25\/k=24)):cmdA k p=nameP p:=by unfold cmdA;rw[if_neg h,if_neg h2]
theorem Je{k:Int}{p:PS}(h:k=19\/k=20):cmdA k p=localP p:=by unfold cmdA;rw[if_pos h]
theorem At{k:Int}{p:PS}(h:k=21\/k=25\/k=24):cmdA k p=([],p):=by unfold cmdA;rw[if_neg (by omega),if_pos h]
theorem LY(s:aM)(T:List Tk)(c:yS s T)(p:PS)(w:aM)(hw:p.peek=w)(n:Nat)(ex:PS->Nd×PS)(hE:RR s T n 219 ex)(hn:p.l.length<n)(f:jF T p):iE Tryz.prog 204 [.bx 0 0,.d (.str w)] (dK s T p) (dK s T (pE ex p).2) (.d (pE ex p).1.d):=by
 unfold dK;have htt:=c.ht;have hst:=sE;have q2:=iW;refine eR Tryz.func204 rfl Tryz.ntmps204 Tryz.results204 λw0 X hp=>?_;refine aA ?_;simp;refine aA ?_;simp;refine aP (ι:=Nat) (λi=>aO [(0,.bx 0 0),(1,.d (.str w)),(4,.bx 4 0),(5,.d (aG (i:Int)))]) (λi=>aI [(0,.box false [.d (.str s),.d (.sl (T.map Tk.r)),.d (aG ((T.length:Int)- p.l.length)),.d (.bool (!decide (p.e=0))),.d (.bool (decide (p.e=5)))]),(4,.box false [.d (aG 0),.d (.str []),.d (aG 0),.nl])]) (λi=>13<=i/\i<=26/\(∀j:Nat,13<=j->j<i->wordAt (j:Int)≠w)/\((i:Int)<26->wordAt (i:Int)=w)) ?_ λi hc4=>?_
 ·refine aH ?_;refine aR (ι:=Nat) (λi=>aO [(0,.bx 0 0),(1,.d (.str w)),(4,.bx 4 0),(5,.d (aG (i:Int)))]) (λi=>aI [(0,.box false [.d (.str s),.d (.sl (T.map Tk.r)),.d (aG ((T.length:Int)- p.l.length)),.d (.bool (!decide (p.e=0))),.d (.bool (decide (p.e=5)))]),(4,.box false [.d (aG 0),.d (.str []),.d (aG 0),.nl])]) (λi=>13<=i/\i<=26/\∀j:Nat,13<=j->j<i->wordAt (j:Int)≠w) (λi=>26-i) 13 (aB hp [0,1,4,5] [(0,0),(4,4)]) (⟨Nat.le_refl _,by decide,λj h1 h2=>absurd h2 (by omega)⟩) λi hi2=>?_;refine aD ?_;refine aD ?_;rcases(by have:=hi2.2.1;omega:¬(i:Int)<26\/(i:Int)<26)with h26|h26
  ·refine rM hT hW (λ_=>none) (by intro d;first|exact⟨rfl,λ_ h=>h⟩|(split<;>exact⟨rfl,λ_ h=>h⟩)) ?_;simp[h26];refine aC ?_;simp[h26];refine bA ?_;simp;refine UV.mk i (aB hp [0,1,4,5] [(0,0),(4,4)]) ?_;exact⟨hi2.1,hi2.2.1,hi2.2.2,λz=>absurd z h26⟩
  ·have q1:=pQ (k:=(i:Int)) (by omega) h26;rw[Int.toNat_natCast]at q1;refine eF.ro hT hW (λ|10=>some<| .plain ⟨.d (.sl qD),true⟩|_=>none) ?_;simp[h26,q1];refine⟨⟨hst,by have:=hi2.2.1;omega⟩,?_⟩;refine aC ?_;simp;refine⟨λh2=>?_,λh2=>?_⟩
   ·refine aE ?_;simp;refine aH ?_;refine aJ ?_;simp;refine⟨by omega,?_⟩;refine Nf.mk (i+1) (aB hp [0,1,4,5] [(0,0),(4,4)]) ?_ ?_
    ·refine⟨by omega,by omega,λj z1 z2=>?_⟩;by_cases e:j=i
     ·rw[e];exact h2
     ·exact hi2.2.2 j z1 (by omega)
    ·omega
   ·refine bA ?_;simp;refine UV.mk i (aB hp [0,1,4,5] [(0,0),(4,4)]) ?_;exact⟨hi2.1,hi2.2.1,hi2.2.2,λ_=>h2⟩
 ·refine aD ?_;refine aA ?_;simp;refine aC ?_;simp;refine⟨λh4=>?_,λh4=>?_⟩
  ·have hlow:¬12<kindP p.peek:=λz=>by
    obtain⟨z1,z2⟩:=GW (w:=p.peek) (by omega);refine hc4.2.2.1 (kindP p.peek).toNat (by omega) (by omega) ?_;rw[Int.toNat_of_nonneg (by omega),z1,hw]
   have esm:pE ex p=Ar ex p:=if_neg hlow;refine aD ?_;have ha:=LU s T c p w hw n ex hE hn f;refine eF.ro hT hW (λ|23=>some (.gen ⟨[(0,0)],[],[],dK s T (Ar ex p).2,.d (Ar ex p).1.d⟩)|_=>none) ?_;simp;refine⟨by simpa using ha,?_⟩;refine aF ?_;simp;exact aB hp [0] [(0,0)] (by simp[esm]) (by simp[esm])
  ·have hi:13<=i/\i<=25:=by have:=hc4.1;have:=hc4.2.1;omega
   have hwi:=hc4.2.2.2 (by omega);have hki:kindP p.peek=(i:Int):=by rw[hw,<-hwi];exact Pq (by omega)
   have hpk:p.peek≠[]:=λe=>by rw[yX e]at hki;omega
   have hsk:=pS (T:=T) hpk;have hps:=f.pos hpk;have htk:p.took p.peek=p.skip:=cB (eE.2 ⟨hpk,rfl⟩);have esm:pE ex p=cmdP ex (i:Int) p.skip:=by unfold pE;rw[hki,htk,if_pos (by omega)]
   have hl:=oL hpk;have fsk:=f.skip;refine aE ?_;simp;refine aA ?_;simp;refine⟨by omega,?_⟩;simp only[<-hsk];refine aA ?_;simp;refine aD ?_;refine aA ?_;simp;refine aH ?_;refine aP (ι:=BC) (λ⟨b⟩=>aO [(0,.bx 0 0),(4,.bx 4 0),(6,.bx 6 0),(33,.d (aG (i:Int))),(34,.d (.bool b))]) (λ⟨b⟩=>aI [(0,.box false [.d (.str s),.d (.sl (T.map Tk.r)),.d (aG ((T.length:Int)- p.skip.l.length)),.d (.bool (!decide (p.e=0))),.d (.bool (decide (p.e=5)))]),(4,.box false [.d (aG 0),.d (.str []),.d (aG 0),.nl]),(6,.box false [.d (aG (i:Int)),.d (.str []),.d (aG 0),.nl])]) (λ⟨b⟩=>b=true↔((i:Int)=13\/(i:Int)=14\/(i:Int)=17\/(i:Int)=18)) ?_ λ⟨b⟩ hc13=>?_
   ·refine aA ?_;simp;refine aC ?_;simp;refine⟨λh9=>?_,λh9=>?_⟩
    ·refine aE ?_;simp;refine UV.mk ⟨decide ((i:Int)=13)⟩ (aB hp [0,4,6,33,34] [(0,0),(4,4),(6,6)]) ?_;simp[h9]
    ·refine aA ?_;simp;refine aC ?_;simp;refine⟨λh10=>?_,λh10=>?_⟩
     ·refine aE ?_;simp;refine UV.mk ⟨decide ((i:Int)=14)⟩ (aB hp [0,4,6,33,34] [(0,0),(4,4),(6,6)]) ?_;simp[h10]
     ·refine aA ?_;simp;refine aC ?_;simp;refine⟨λh11=>?_,λh11=>?_⟩
      ·refine aE ?_;simp;refine UV.mk ⟨decide ((i:Int)=17)⟩ (aB hp [0,4,6,33,34] [(0,0),(4,4),(6,6)]) ?_;simp[h11]
      ·refine aJ ?_;simp;refine UV.mk ⟨decide ((i:Int)=18)⟩ (aB hp [0,4,6,33,34] [(0,0),(4,4),(6,6)]) ?_;simp only[decide_eq_true_eq];omega
   ·refine aC ?_;simp;refine⟨λh13=>?_,λh13=>?_⟩
    ·have q13:=hc13.1 h13;have hna:=oW s T p.skip c fsk;refine eF.ro hT hW (λ|40=>some (.gen ⟨[(0,0)],[],[],dK s T (nameP p.skip).2,.d (.str (nameP p.skip).1)⟩)|_=>none) ?_;simp;refine⟨hna,?_⟩;refine aA ?_;simp;refine aF ?_;simp;have e:=rC (ex:=ex) (k:=(i:Int)) (p:=p.skip) (by omega) (by omega) (by omega);rw[As (by omega) (by omega)]at e;refine aU (x:=(pE ex p).1.d) (by simp[esm,e]) ?_;simp;exact aB hp [0] [(0,0)] (hH:=by simp[esm,e])
    ·have q13:¬((i:Int)=13\/(i:Int)=14\/(i:Int)=17\/(i:Int)=18):=λq=>by simp[hc13.2 q]at h13
     refine aP (ι:=BC) (λ⟨b⟩=>aO [(0,.bx 0 0),(4,.bx 4 0),(6,.bx 6 0),(33,.d (aG (i:Int))),(42,.d (.bool b))]) (λ⟨b⟩=>aI [(0,.box false [.d (.str s),.d (.sl (T.map Tk.r)),.d (aG ((T.length:Int)- p.skip.l.length)),.d (.bool (!decide (p.e=0))),.d (.bool (decide (p.e=5)))]),(4,.box false [.d (aG 0),.d (.str []),.d (aG 0),.nl]),(6,.box false [.d (aG (i:Int)),.d (.str []),.d (aG 0),.nl])]) (λ⟨b⟩=>b=true↔((i:Int)=15\/(i:Int)=22)) ?_ λ⟨b⟩ hc16=>?_
     ·refine aA ?_;simp;refine aC ?_;simp;refine⟨λh14=>?_,λh14=>?_⟩
      ·refine aE ?_;simp;refine UV.mk ⟨decide ((i:Int)=15)⟩ (aB hp [0,4,6,33,42] [(0,0),(4,4),(6,6)]) ?_;simp[h14]
      ·refine aJ ?_;simp;refine UV.mk ⟨decide ((i:Int)=22)⟩ (aB hp [0,4,6,33,42] [(0,0),(4,4),(6,6)]) ?_;simp only[decide_eq_true_eq];omega
     ·refine aC ?_;simp;refine⟨λh16=>?_,λh16=>?_⟩
      ·have q16:=hc16.1 h16;refine aD ?_;have hna:=oW s T p.skip c fsk;have gl:=(cO (fsk.good c)).1;refine eF.ro hT hW (λ|46=>some (.gen ⟨[(0,0)],[],[],dK s T (nameP p.skip).2,.d (.str (nameP p.skip).1)⟩)|_=>none) ?_;simp;refine⟨hna,?_⟩;have hx:=hE.ok (nameP p.skip).2 (by omega) fsk.name;refine eF.rd [[0,52],[0,52]] [[],[],[],[0],[52],[53],[],[6]] (λ|51=>some (.gen ⟨[(0,0)],[],[],dK s T (ex (nameP p.skip).2).2,.d (ex (nameP p.skip).2).1.d⟩)|_=>none) ?_;simp;refine⟨by simpa using hx,?_⟩;refine aA ?_;simp;refine aF ?_;simp;have e:=Dn (ex:=ex) (k:=(i:Int)) (p:=p.skip) (by omega);rw[As (by omega) (by omega)]at e;refine aU (x:=(pE ex p).1.d) (by simp[esm,e]) ?_;simp;exact aB hp [0] [(0,0)] (hH:=by simp[esm,e])
      ·have q16:¬((i:Int)=15\/(i:Int)=22):=λq=>by simp[hc16.2 q]at h16
       refine aP (ι:=BC) (λ⟨b⟩=>aO [(0,.bx 0 0),(4,.bx 4 0),(6,.bx 6 0),(33,.d (aG (i:Int))),(55,.d (.bool b))]) (λ⟨b⟩=>aI [(0,.box false [.d (.str s),.d (.sl (T.map Tk.r)),.d (aG ((T.length:Int)- p.skip.l.length)),.d (.bool (!decide (p.e=0))),.d (.bool (decide (p.e=5)))]),(4,.box false [.d (aG 0),.d (.str []),.d (aG 0),.nl]),(6,.box false [.d (aG (i:Int)),.d (.str []),.d (aG 0),.nl])]) (λ⟨b⟩=>b=true↔((i:Int)=16\/(i:Int)=23)) ?_ λ⟨b⟩ hc20=>?_
       ·refine aA ?_;simp;refine aC ?_;simp;refine⟨λh18=>?_,λh18=>?_⟩
        ·refine aE ?_;simp;refine UV.mk ⟨decide ((i:Int)=16)⟩ (aB hp [0,4,6,33,55] [(0,0),(4,4),(6,6)]) ?_;simp[h18]
        ·refine aJ ?_;simp;refine UV.mk ⟨decide ((i:Int)=23)⟩ (aB hp [0,4,6,33,55] [(0,0),(4,4),(6,6)]) ?_;simp only[decide_eq_true_eq];omega
       ·refine aC ?_;simp;refine⟨λh20=>?_,λh20=>?_⟩
        ·have q20:=hc20.1 h20;refine aD ?_;have hna:=oW s T p.skip c fsk;refine eF.ro hT hW (λ|59=>some (.gen ⟨[(0,0)],[],[],dK s T (nameP p.skip).2,.d (.str (nameP p.skip).1)⟩)|_=>none) ?_;simp;refine⟨hna,?_⟩;have hlo:=qZ s T (nameP p.skip).2 c fsk.name;refine eF.rd [[0,66],[0,66]] [[],[],[],[0],[],[66],[67],[],[6]] (λ|64=>some (.gen ⟨[(0,0)],[],[],dK s T (localP (nameP p.skip).2).2,.d (.str (localP (nameP p.skip).2).1)⟩)|_=>none) ?_;simp;refine⟨hlo,?_⟩;refine aA ?_;simp;refine aF ?_;simp;have e:=BO (ex:=ex) (k:=(i:Int)) (p:=p.skip) (by omega) (by omega);rw[As (by omega) (by omega)]at e;refine aU (x:=(pE ex p).1.d) (by simp[esm,e]) ?_;simp;exact aB hp [0] [(0,0)] (hH:=by simp[esm,e])
        ·have q20:¬((i:Int)=16\/(i:Int)=23):=λq=>by simp[hc20.2 q]at h20
         refine aA ?_;simp;refine aC ?_;simp;refine⟨λh22=>?_,λh22=>?_⟩
         ·refine aD ?_;have hlo:=qZ s T p.skip c fsk;refine eF.ro hT hW (λ|72=>some (.gen ⟨[(0,0)],[],[],dK s T (localP p.skip).2,.d (.str (localP p.skip).1)⟩)|_=>none) ?_;simp;refine⟨hlo,?_⟩;have hnu:=iO s T (localP p.skip).2 c fsk.local (i:Int) 2 6 (.inl (by rw[h22];rfl)) (by rw[h22];rfl);refine eF.ro hT hW (λ|75=>some (.gen ⟨[(0,0)],[],[],dK s T (numeralP (i:Int) (localP p.skip).2).2,.d (aG (numeralP (i:Int) (localP p.skip).2).1)⟩)|_=>none) ?_;simp;refine⟨hnu,?_⟩;refine aA ?_;simp;refine aF ?_;simp;have e:=wB (ex:=ex) (k:=(i:Int)) (p:=p.skip) (by omega) (by omega) (by omega);rw[Je (by omega)]at e;refine aU (x:=(pE ex p).1.d) (by simp[esm,e]) ?_;simp;exact aB hp [0] [(0,0)] (hH:=by simp[esm,e])
         ·refine aA ?_;simp;refine aC ?_;simp;refine⟨λh25=>?_,λh25=>?_⟩
          ·have hlo:=qZ s T p.skip c fsk;refine eF.ro hT hW (λ|80=>some (.gen ⟨[(0,0)],[],[],dK s T (localP p.skip).2,.d (.str (localP p.skip).1)⟩)|_=>none) ?_;simp;refine⟨hlo,?_⟩;refine aA ?_;simp;refine aF ?_;simp;have e:=rC (ex:=ex) (k:=(i:Int)) (p:=p.skip) (by omega) (by omega) (by omega);rw[Je (by omega)]at e;refine aU (x:=(pE ex p).1.d) (by simp[esm,e]) ?_;simp;exact aB hp [0] [(0,0)] (hH:=by simp[esm,e])
          ·refine aA ?_;simp;refine aC ?_;simp;refine⟨λh27=>?_,λh27=>?_⟩
           ·have hnu:=iO s T p.skip c fsk (i:Int) 1 9 (.inl (by rw[h27];rfl)) (by rw[h27];rfl);refine eF.ro hT hW (λ|85=>some (.gen ⟨[(0,0)],[],[],dK s T (numeralP (i:Int) p.skip).2,.d (aG (numeralP (i:Int) p.skip).1)⟩)|_=>none) ?_;simp;refine⟨hnu,?_⟩;refine aA ?_;simp;refine aF ?_;simp;have e:=wB (ex:=ex) (k:=(i:Int)) (p:=p.skip) (by omega) (by omega) (by omega);rw[At (by omega)]at e;refine aU (x:=(pE ex p).1.d) (by simp[esm,e]) ?_;simp;exact aB hp [0] [(0,0)] (hH:=by simp[esm,e])
           ·refine aA ?_;simp;refine aC ?_;simp;refine⟨λh29=>?_,λh29=>?_⟩
            ·have hnu:=iO s T p.skip c fsk (i:Int) 1 99 (.inl (by rw[h29];rfl)) (by rw[h29];rfl);refine eF.ro hT hW (λ|90=>some (.gen ⟨[(0,0)],[],[],dK s T (numeralP (i:Int) p.skip).2,.d (aG (numeralP (i:Int) p.skip).1)⟩)|_=>none) ?_;simp;refine⟨hnu,?_⟩;refine aA ?_;simp;refine aF ?_;simp;have e:=wB (ex:=ex) (k:=(i:Int)) (p:=p.skip) (by omega) (by omega) (by omega);rw[At (by omega)]at e;refine aU (x:=(pE ex p).1.d) (by simp[esm,e]) ?_;simp;exact aB hp [0] [(0,0)] (hH:=by simp[esm,e])
            ·refine aA ?_;simp;refine aC ?_;simp;refine⟨λh31=>?_,λh31=>?_⟩
             ·have hx:=hE.ok p.skip (by omega) fsk;rw[Nd.d_eq]at hx;refine eF.rd [[0,98],[0,98]] [[],[],[],[0],[98],[99],[],[6]] (λ|97=>some (.gen ⟨[(0,0)],[],[],dK s T (ex p.skip).2,.d (ex p.skip).1.d⟩)|_=>none) ?_;simp;refine⟨hx,?_⟩;refine aA ?_;simp;refine aF ?_;simp;have e:=Dn (ex:=ex) (k:=(i:Int)) (p:=p.skip) (by omega);rw[At (by omega)]at e;refine aU (x:=(pE ex p).1.d) (by simp[esm,e]) ?_;simp;exact aB hp [0] [(0,0)] (hH:=by simp[esm,e])
             ·refine aE ?_;simp;refine aA ?_;simp;refine aF ?_;exact absurd (show False by omega) id
theorem Xl{T:List Tk}(hg:bH T){n:Nat}{ex:PS->Nd×PS}(hx:Fs T n ex):Fs T n (Ar ex):=λp h f=>by
 have gp:=f.goodT hg;unfold Ar;split
 ·obtain⟨a1,a2⟩:=Fs.need f.local [61];have l1:=(dR gp).1;obtain⟨b1,b2⟩:=hx ((localP p).2.need [61]) (by omega) a1;exact⟨b1,by simp only;omega⟩
 ·obtain⟨a1,a2⟩:=Fs.need f.place [61];have l1:=(kQ (p.l.length+1) p (Nat.lt_succ_self _) gp).1;obtain⟨b1,b2⟩:=hx ((placeP p).2.need [61]) (by omega) a1;exact⟨b1,by simp only;omega⟩
theorem Fs.cmdA{T:List Tk}(hg:bH T){k:Int}{p:PS}(f:jF T p):jF T (cmdA k p).2/\(cmdA k p).2.l.length<=p.l.length:=by
 have gp:=f.goodT hg;refine⟨?_,(rB gp).1⟩;unfold Go.Eng.cmdA;split
 ·exact f.local
 ·split
  ·exact f
  ·exact f.name
theorem Xm{T:List Tk}(hg:bH T){n:Nat}{ex:PS->Nd×PS}(hx:Fs T n ex)(k:Int):Fs T n (cmdP ex k):=λp h f=>by
 obtain⟨a1,a2⟩:=Fs.cmdA (k:=k) hg f;have ga:=a1.goodT hg;by_cases h1:k=15\/k=22\/k=24
 ·rw[Dn h1];obtain⟨b1,b2⟩:=hx _ (by omega) a1;exact⟨b1,by simp only;omega⟩
 ·by_cases h2:k=16\/k=23
  ·rw[BO h1 h2];have:=(dR ga).1;exact⟨a1.local,by simp only;omega⟩
  ·by_cases h3:k=19\/k=21\/k=25
   ·rw[wB h1 h2 h3];have:=(eA (k:=k) ga).1;exact⟨a1.numeral,by simp only;omega⟩
   ·rw[rC h1 h2 h3];exact⟨a1,a2⟩
theorem Tm{T:List Tk}(hg:bH T){n:Nat}{ex:PS->Nd×PS}(hx:Fs T n ex):Fs T n (pE ex):=λp h f=>by
 unfold pE;split
 ·have l1:=GU (p:=p) (w:=p.peek);obtain⟨a1,a2⟩:=Xm hg hx (kindP p.peek) (p.took p.peek) (by omega) f.took;exact⟨a1,by omega⟩
 ·exact Xl hg hx p h f
theorem NP{ex bl:PS->Nd×PS}{p:PS}(h:kindP p.peek=11\/kindP p.peek=12):stmtB ex bl p=PY ex bl (kindP p.peek) p:=by
 unfold PY;split
 ·rename_i z;exact BP rfl z.1 z.2
 ·rename_i z;refine NL rfl h λq=>?_;cases e:(bl (ex (p.took p.peek)).2).2.is sElse with
  |false=>rfl
  |true=>exact absurd ⟨q,e⟩ z
theorem Jf{ex bl:PS->Nd×PS}{p:PS}(h:¬(kindP p.peek=11\/kindP p.peek=12)):stmtB ex bl p=((pE ex p).1,(pE ex p).2.need [59]):=by
 unfold pE;by_cases h2:12<kindP p.peek
 ·rw[if_pos h2,GT rfl h2]
 ·rw[if_neg h2];unfold Ar;by_cases h3:p.peek.take 1=[36]
  ·rw[if_pos h3,yY rfl h h2 h3]
  ·rw[if_neg h3,yZ rfl h h2 h3]
theorem Fs.stmtB{T:List Tk}(hg:bH T){n:Nat}{ex bl:PS->Nd×PS}(hx:Fs T (n+1) ex)(hb:Fs T n bl):Fs T (n+1) (stmtB ex bl):=λp h f=>by
 by_cases hk:kindP p.peek=11\/kindP p.peek=12
 ·rw[NP hk];have l0:=oX (jM (p:=p) (by omega));obtain⟨a1,a2⟩:=hx (p.took p.peek) (by omega) f.took;obtain⟨b1,b2⟩:=hb (ex (p.took p.peek)).2 (by omega) a1;unfold PY;split
  ·have l2:=GU (p:=(bl (ex (p.took p.peek)).2).2) (w:=sElse);obtain⟨c1,c2⟩:=hb ((bl (ex (p.took p.peek)).2).2.took sElse) (by omega) b1.took;exact⟨c1,by simp only;omega⟩
  ·exact⟨b1,by simp only;omega⟩
 ·rw[Jf hk];obtain⟨a1,a2⟩:=Tm hg hx p h f;obtain⟨b1,b2⟩:=Fs.need a1 [59];exact⟨b1,by simp only;omega⟩
theorem Tn{w:aM}:w=[105,102]↔kindP w=11:=by
 constructor
 ·rintro rfl;decide
 ·intro h;have:=(GW (w:=w) (by omega)).1;rw[h]at this;exact this.symm
theorem LZ{w:aM}:w=Tl↔kindP w=12:=by
 constructor
 ·rintro rfl;decide
 ·intro h;have:=(GW (w:=w) (by omega)).1;rw[h]at this;exact this.symm
theorem Jg(s:aM)(T:List Tk)(c:yS s T)(p:PS)(n:Nat)(ex bl:PS->Nd×PS)(hE:RR s T (n+1) 219 ex)(hB:RR s T n 141 bl)(hn:p.l.length<n+1)(f:jF T p):iE Tryz.prog 174 [.bx 0 0] (dK s T p) (dK s T (stmtB ex bl p).2) (.d (stmtB ex bl p).1.d):=by
 unfold dK;refine eR Tryz.func174 rfl Tryz.ntmps174 Tryz.results174 λw0 X hp=>?_;refine aA ?_;simp;refine aX hT hW (λ|6=>some (.gen ⟨[(0,0)],[],[],dK s T p,.d (.str p.peek)⟩)|_=>none) ?_;simp;refine⟨iM s T p c f,?_⟩;refine aD ?_;refine aA ?_;simp;refine aC ?_;simp;refine⟨λg=>?_,λg1 g2=>?_⟩
 ·have hk:kindP p.peek=11\/kindP p.peek=12:=g.imp Tn.1 LZ.1;have es:=NP (ex:=ex) (bl:=bl) hk;have hpk:p.peek≠[]:=λe=>by rw[yX e]at hk;omega
  refine aD ?_;have hbr:=LW s T c p p.peek (kindP p.peek) hk LZ hpk n ex bl hE hB hn f;refine eF.ro hT hW (λ|15=>some (.gen ⟨[(0,0)],[],[],dK s T (PY ex bl (kindP p.peek) p).2,.d (PY ex bl (kindP p.peek) p).1.d⟩)|_=>none) ?_;simp;refine⟨by simpa using hbr,?_⟩;refine aF ?_;simp;exact aB hp [0] [(0,0)] (by simp[es]) (by simp[es])
 ·have hk:¬(kindP p.peek=11\/kindP p.peek=12):=λz=>z.elim (λy=>g1 (Tn.2 y)) (λy=>g2 (LZ.2 y));have es:=Jf (ex:=ex) (bl:=bl) hk;refine aE ?_;simp;refine aD ?_;have hsm:=LY s T c p p.peek rfl (n+1) ex hE hn f;have fm:=Tm c.hg hE.fs p hn f;refine eF.ro hT hW (λ|18=>some (.gen ⟨[(0,0)],[],[],dK s T (pE ex p).2,.d (pE ex p).1.d⟩)|_=>none) ?_;simp;refine⟨by simpa using hsm,?_⟩;refine aD ?_;have hw5:=gP s T (pE ex p).2 c fm.1 [59] (by simp);refine eF.ro hT hW (λ|20=>some (.gen ⟨[(0,0)],[],[],dK s T ((pE ex p).2.need [59]),.tup []⟩)|_=>none) ?_;simp;refine⟨hw5,?_⟩;refine aA ?_;simp;refine aF ?_;simp;exact aB hp [0] [(0,0)] (by simp[es]) (by simp[es])
theorem Qb(n:Nat)(q:PS):(stmtP false n q).2=(stmtP true n q).2:=(stmtP_rl n q).1
theorem Ma:∀n:Nat,LR n (stmtP false n)
 |0=>λq h _ _=>absurd h (Nat.not_lt_zero _)
 |n+1=>Do (exprO_stk false) (blockB_stk (stmtP_stk false n)) (yD (n+1)) (nV (stmtP_stk false n) (oN n))
theorem LR.stmtT(n:Nat):LR n (stmtP true n):=λq h g e=>by
 rw[<-Qb];exact Ma n q h g e
theorem NQ{s:aM}{T:List Tk}(c:yS s T):∀n:Nat,RR s T n 174 (stmtP true n)
 |0=>⟨λq h _=>absurd h (Nat.not_lt_zero _),λq h _=>absurd h (Nat.not_lt_zero _)⟩
 |n+1=>by
  have hB:=RR.block c (NQ c n) (LR.stmtT n);have hE:=Tj c (n+1);exact⟨λq hq f=>Jg s T c q n _ _ hE hB hq f,Fs.stmtB c.hg hE.fs hB.fs⟩
theorem RR.blockT{s:aM}{T:List Tk}(c:yS s T)(n:Nat):RR s T n 141 (blockP true n):=RR.block c (NQ c n) (LR.stmtT n)
end
section
attribute[local simp] jO.cond Nd.d_eq nd_t nd_dr nd_td ndsD aQ bL lH dE cV
attribute[local simp] kY Bf Bg Bh Jc
theorem Jh(n:Nat):lJ n 182 (λq=>exprP false (q.l.length+1) q):=
 ⟨λq _ hg=>(Dm (q.l.length+1)).ok q (Nat.lt_succ_self _) hg,λq hq hg=>(yD n).le q hq hg⟩
theorem Dp:∀n,LR n (stmtP false n)
 |0=>λq h=>absurd h (Nat.not_lt_zero _)
 |n+1=>Do (exprO_stk false) (blockB_stk (stmtP_stk false n)) (yD (n+1)) (nV (stmtP_stk false n) (oN n))
theorem Dq:∀n:Nat,n<=1100000->lJ n 162 (stmtP false n)
 |0,_=>⟨λq h _=>absurd h (Nat.not_lt_zero _),λq h _=>absurd h (Nat.not_lt_zero _)⟩
 |n+1,h=>by
  have hB:lJ n 125 (blockB (stmtP false n)):=
   ⟨λq hq hg=>IZ q n (stmtP false n) (Dq n (by omega)) (Dp n) hq hg (by omega),λq hq hg=>(nV (stmtP_stk false n) (oN n)).le q hq hg⟩
  refine⟨λq hq hg=>?_,λq hq hg=>(oN (n+1)).le q hq hg⟩;exact LT q n (λq=>exprP false (q.l.length+1) q) (blockB (stmtP false n)) (Jh (n+1)) hB hq hg
theorem lJ.block(n:Nat)(h:n<=1100000):lJ n 125 (blockP false n):=
 ⟨λq hq hg=>IZ q n (stmtP false n) (Dq n h) (Dp n) hq hg (by omega),λq hq hg=>(nV (stmtP_stk false n) (oN n)).le q hq hg⟩
theorem Vx(s:aM):defKind s=nA (λx=>decide (s=x)) (wordsL.take 7):=by
 unfold defKind;have e2:(λi=>decide (wordsL.getD i []=s))=λi=>decide (s=wordsL.getD i []):=by funext i;rw[decide_eq_decide];exact eq_comm
 have e:=xJ (λx=>decide (s=x)) [] (wordsL.take 7);split
 ·rename_i h;subst h;rfl
 ·unfold nA;rw[<-e];rw[e2];rfl
theorem Ft{s:aM}: -1<=defKind s/\defKind s<=6:=by
 unfold defKind;split
 ·omega
 ·split
  ·rename_i i e;have:=List.mem_of_find?_eq_some e;simp at this;omega
  ·omega
theorem Dr{s:aM}(h:0<=defKind s):wordAt (defKind s)=s/\s≠[]:=by
 unfold defKind at*;split at h
 ·omega
 ·rename_i hs;split at h
  ·rename_i i e;have:=List.find?_some e;simp only[decide_eq_true_eq]at this;rw[if_neg hs];exact⟨this,hs⟩
  ·omega
theorem Vy{p:PS}(h:defKind p.peek<0):defP false p=(.mk 0 [] 0 [],p.fail 2):=by unfold defP;simp only[];rw[if_pos h]
theorem uJ{p:PS}(h:¬defKind p.peek<0):p.skip=p.took (wordAt (defKind p.peek)):=by
 obtain⟨h1,h2⟩:=Dr (s:=p.peek) (by omega);rw[h1,cB (eE.2 ⟨h2,rfl⟩)]
section
variable{p q:PS} {t:aM} {k:Int} (hk:defKind p.peek=k) (h:¬k<0) (hn:nameP (p.took (wordAt k))=(t,q))
include hk h hn
theorem Qc(h5:k=5\/k=6):defP false p=(.mk k t 0 [(blockP false (q.l.length+1) q).1],(blockP false (q.l.length+1) q).2):=by
 subst hk;unfold defP;simp only[];rw[if_neg h,uJ h,hn,if_pos h5]
theorem Vz(h1:k=1):defP false p=(.mk k t 0 (itemsF ((q.need [123]).l.length+1) [] (q.need [123])).1,(itemsF ((q.need [123]).l.length+1) [] (q.need [123])).2.need [125]):=by
 subst hk;unfold defP;simp only[];rw[if_neg h,uJ h,hn,if_neg (by omega),if_pos h1]
theorem VA(h1:k=0):defP false p=(.mk k t (numberP (q.need [61])).1 [],(numberP (q.need [61])).2.need [59]):=by
 subst hk;unfold defP;simp only[];rw[if_neg h,uJ h,hn,if_neg (by omega),if_neg (by omega),if_pos h1]
theorem To(h1:k=2):defP false p=(.mk k t (numeralP 2 q).1 [],(numeralP 2 q).2.need [59]):=by
 subst hk;unfold defP;simp only[];rw[if_neg h,uJ h,hn,if_neg (by omega),if_neg (by omega),if_neg (by omega),if_pos h1]
theorem Tp(h1:¬(k=5\/k=6))(h2:¬k=1)(h3:¬k=0)(h4:¬k=2):defP false p=(.mk k t 0 [],q.need [59]):=by
 subst hk;unfold defP;simp only[];rw[if_neg h,uJ h,hn,if_neg h1,if_neg h2,if_neg h3,if_neg h4]
end
theorem Fu{ks:List Nd}{q:PS}(h:q.e=0->q.peek=[125]):∀f,itemsF f ks q=(ks,q)
 |0=>rfl
 |f+1=>by
  rw[itemsF,if_pos];by_cases e:q.e=0
  ·exact .inr (h e)
  ·exact .inl e
theorem Ji{ks:List Nd}{q:PS}{f:Nat}(hf:q.l.length<f)(h:q.e=0)(hp:¬q.peek=[125]):
 itemsF f ks q=itemsF (f-1) (ks++[.mk 7 (nameP q).1 (numberP ((nameP q).2.need [61])).1 []]) ((numberP ((nameP q).2.need [61])).2.need [59]):=by
 obtain⟨k,rfl⟩:∃k,f=k+1:=⟨f-1,by omega⟩;rw[itemsF,if_neg]
 ·rfl
 ·rintro(e|e)
  ·exact e h
  ·exact hp e
theorem Fv{q:PS}(h:bH q.l):((numberP ((nameP q).2.need [61])).2.need [59]).l.length<=q.l.length/\bH ((numberP ((nameP q).2.need [61])).2.need [59]).l/\
 (((numberP ((nameP q).2.need [61])).2.need [59]).e=0->((numberP ((nameP q).2.need [61])).2.need [59]).l.length<q.l.length):=by
 have g1:=cO h;have g2:=bT (s:=[61]) g1.2.1;have g3:=nK g2.2;have g4:=bT (s:=[59]) g3.2.1;refine⟨by omega,g4.2,λe=>?_⟩;have e1:=(need_e e).1;have l1:=fK e1;have:(numberP ((nameP q).2.need [61])).2.need [59]=(numberP ((nameP q).2.need [61])).2.skip:=by rw[GN e1,cB e1]
 rw[this];omega
theorem Jj:∀x∈List.take 26 qD,(aK x).length=1:=by
 intro x hx;rw[xA]at hx;obtain⟨a,_,rfl⟩:=List.mem_map.1 hx;rfl
theorem Jk:List.take 7 qD=(wordsL.take 7).map DV.str:=rfl
structure YZ where
 n:Int
 q:PS
theorem Xn(p:PS)(hg:bH p.l)(hb:p.l.length<=1000000):iE Tryz.prog 73 [.bx 0 0] (dE p) (dE (defP false p).2) (.d (defP false p).1.d):=by
 unfold dE;refine eR Tryz.func73 rfl Tryz.ntmps73 Tryz.results73 λw0 X hp=>?_;refine aA ?_;simp;refine aD ?_;have hi:=qA (wordsL.take 7) p.peek;have q2:=iW;rw[<-Vx]at hi;have hr:=Ft (s:=p.peek);refine eF.rd [[0]] [[],[],[0]] (λ|8=>some (.gen ⟨[(0,0)],[],[],dE p,.d (.str p.peek)⟩)|9=>some<| .plain ⟨.d (aG (defKind p.peek)),true⟩|_=>none) ?_;simp[Jk];refine⟨⟨⟨⟨by omega,Jj⟩,lC p⟩,by simpa using hi⟩,?_⟩;refine aD ?_;refine aX hT hW (λ|14=>some (.gen ⟨[(0,0)],[],[],dE p,.d (.str p.peek)⟩)|_=>none) ?_;simp[rA];refine⟨λ_=>lC p,?_⟩;refine aC ?_;simp;refine⟨λh2=>?_,λh2 h2b=>?_⟩
 ·have h2:defKind p.peek<0:=by
   rcases h2 with h|h
   ·exact h
   ·rw[h];decide
  refine aX hT hW (λ|18=>some (.gen ⟨[(0,0)],[],[],dE (p.fail 2),.tup []⟩)|_=>none) ?_;simp;refine⟨wA p 2,?_⟩;refine aA ?_;simp;refine aF ?_;simp;have e:=Vy h2;refine aU (x:=(defP false p).1.d) (by simp[e]) ?_;simp;exact aB hp [0] [(0,0)] (hH:=by simp[e])
 ·have hlt:¬defKind p.peek<0:=by omega
  refine aE ?_;simp;refine aD ?_;have hlt:¬defKind p.peek<0:=by omega
  have wat:=pQ (k:=defKind p.peek) (by omega) (by omega);have htk:=iY p (wordAt (defKind p.peek));refine eF.ro hT hW (λ|24=>some (.gen ⟨[(0,0)],[],[],dE (p.took (wordAt (defKind p.peek))),.d (.bool (p.is (wordAt (defKind p.peek))))⟩)|_=>none) ?_;simp[wat];refine⟨⟨⟨by omega,by omega⟩,htk⟩,?_⟩;refine aD ?_;have hna:=yQ (p.took (wordAt (defKind p.peek)));have gt:=dO (s:=wordAt (defKind p.peek)) hg;have gl:=cO gt;have lt:(p.took (wordAt (defKind p.peek))).l.length<=p.l.length:=by unfold PS.took;split;exact dP;exact Nat.le_refl _
  refine eF.ro hT hW (λ|27=>some (.gen ⟨[(0,0)],[],[],dE (nameP (p.took (wordAt (defKind p.peek)))).2,.d (.str (nameP (p.took (wordAt (defKind p.peek)))).1)⟩)|_=>none) ?_;simp;refine⟨hna,?_⟩;obtain⟨k,hk⟩:∃k,defKind p.peek=k:=⟨_,rfl⟩;obtain⟨⟨t,q⟩,hn⟩:∃x,nameP (p.took (wordAt (defKind p.peek)))=x:=⟨_,rfl⟩;simp only[hn]at gl;have lq:q.l.length<=p.l.length:=by omega
  simp only[hn];rw[hk]at hlt hn hr|-;refine aP (ι:=YZ) (λ⟨n,r⟩=>aO [(0,.bx 0 0),(2,.bx 2 0),(4,.bx 4 0)]) (λ⟨n,r⟩=>aI [(0,.box false [.d (lH r.l),.d (aG r.e)]),(2,.box false [.d (aG 0),.d (.str []),.d (aG 0),.nl]),(4,.box false [.d (aG k),.d (.str t),.d (aG n),.nl])]) (λ⟨n,r⟩=>defP false p=(.mk k t n [],r.need [59])) ?_ λ⟨n,r⟩ hc27=>?_
  ·refine aA ?_;simp;refine aH ?_;refine aP (ι:=BC) (λ⟨b⟩=>aO [(0,.bx 0 0),(2,.bx 2 0),(4,.bx 4 0),(29,.d (aG k)),(30,.d (.bool b))]) (λ⟨b⟩=>aI [(0,.box false [.d (lH q.l),.d (aG q.e)]),(2,.box false [.d (aG 0),.d (.str []),.d (aG 0),.nl]),(4,.box false [.d (aG k),.d (.str t),.d (aG 0),.nl])]) (λ⟨b⟩=>b=true↔(k=5\/k=6)) ?_ λ⟨b⟩ hc10=>?_
   ·refine aA ?_;simp;refine aC ?_;simp;refine⟨λh8=>?_,λh8=>?_⟩
    ·refine aE ?_;simp;refine UV.mk ⟨decide (k=5)⟩ (aB hp [0,2,4,29,30] [(0,0),(2,2),(4,4)]) ?_;simp[h8]
    ·refine aJ ?_;simp;refine UV.mk ⟨decide (k=6)⟩ (aB hp [0,2,4,29,30] [(0,0),(2,2),(4,4)]) ?_;simp only[decide_eq_true_eq];omega
   ·refine aC ?_;simp;refine⟨λh10=>?_,λh10=>?_⟩
    ·have q10:=hc10.1 h10;refine aD ?_;have hbl:=(lJ.block (q.l.length+1) (by omega)).ok q (Nat.lt_succ_self _) gl.2.1;refine eF.ro hT hW (λ|34=>some (.gen ⟨[(0,0)],[],[],dE (blockP false (q.l.length+1) q).2,.d (blockP false (q.l.length+1) q).1.d⟩)|_=>none) ?_;simp;refine⟨by simpa using hbl,?_⟩;refine aA ?_;simp;refine aF ?_;simp;have e:=Qc hk hlt hn q10;refine aU (x:=(defP false p).1.d) (by simp[e]) ?_;simp;exact aB hp [0] [(0,0)] (hH:=by simp[e])
    ·have q10:¬(k=5\/k=6):=λz=>by simp[hc10.2 z]at h10
     refine aA ?_;simp;refine aC ?_;simp;refine⟨λh12=>?_,λh12=>?_⟩
     ·refine aD ?_;have hne:=jU q [123];have gn:=bT (s:=[123]) gl.2.1;refine eF.ro hT hW (λ|41=>some (.gen ⟨[(0,0)],[],[],dE (q.need [123]),.tup []⟩)|_=>none) ?_;simp;refine⟨hne,?_⟩;refine gH (fz:=false) (cs:=[.d (aG k),.d (.str t),.d (aG 0),.nl]) 4 3 1066 4 (by decide) ⟨by simp,by simp,by simp,?_⟩;simp;refine aD ?_;refine aH ?_;refine aR (ι:=Yx) (λ⟨f,ks,r⟩=>aO [(0,.bx 0 0),(2,.bx 2 0),(4,.bx 4 0)]) (λ⟨f,ks,r⟩=>aI [(0,.box false [.d (lH r.l),.d (aG r.e)]),(2,.box false [.d (aG 0),.d (.str []),.d (aG 0),.nl]),(4,.box false [.d (aG k),.d (.str t),.d (aG 0),.ow 1066 0 ks.length]),(1066,.row false 4 (ks.map Nd.d))]) (λ⟨f,ks,r⟩=>(r.e=0->r.l.length<f)/\bH r.l/\r.l.length<=p.l.length/\ks.length+r.l.length<=p.l.length+(if r.e=0 then 0 else 1)/\itemsF ((q.need [123]).l.length+1) [] (q.need [123])=itemsF f ks r) (λ⟨f,ks,r⟩=>2*r.l.length+(if r.e=0 then 1 else 0)) ⟨(q.need [123]).l.length+1,[],q.need [123]⟩ (aB hp [0,2,4] [(0,0),(2,2),(4,4),(1066,1066)]) (⟨λ_=>Nat.lt_succ_self _,gn.2,by have:=gn.1;omega,by have:=gn.1;simp only[List.length_nil];omega,rfl⟩) λ⟨f,ks,r⟩ hi14=>?_;refine aD ?_;refine aD ?_;have hpk:=lC r;refine eF.ro hT hW (λ|49=>some (.gen ⟨[(0,0)],[],[],dE r,.d (.str r.peek)⟩)|_=>none) ?_;simp[rA];refine⟨λ_=>hpk,?_⟩;refine aC ?_;simp;refine⟨λg1 g2=>?_,λg=>?_⟩
      ·refine aE ?_;simp;refine aH ?_;refine aD ?_;have ha:r.l.length<=p.l.length:=hi14.2.2.1;have hks:ks.length+r.l.length<=p.l.length:=by have z:=hi14.2.2.2.1;simp only[g1,if_true]at z;omega
       have hle:=Fv (q:=r) hi14.2.1;have hn15:=yQ r;have g15:=cO (p:=r) hi14.2.1;have g16:=bT (s:=[61]) g15.2.1;refine eF.ro hT hW (λ|53=>some (.gen ⟨[(0,0)],[],[],dE (nameP r).2,.d (.str (nameP r).1)⟩)|_=>none) ?_;simp;refine⟨hn15,?_⟩;refine aD ?_;have hn16:=jU (nameP r).2 [61];refine eF.ro hT hW (λ|56=>some (.gen ⟨[(0,0)],[],[],dE ((nameP r).2.need [61]),.tup []⟩)|_=>none) ?_;simp;refine⟨hn16,?_⟩;refine aD ?_;have hn17:=Fl ((nameP r).2.need [61]) g16.2;refine eF.ro hT hW (λ|58=>some (.gen ⟨[(0,0)],[],[],dE (numberP ((nameP r).2.need [61])).2,.d (aG (numberP ((nameP r).2.need [61])).1)⟩)|_=>none) ?_;simp;refine⟨hn17,?_⟩;refine aD ?_;have hn18:=jU (numberP ((nameP r).2.need [61])).2 [59];refine eF.ro hT hW (λ|61=>some (.gen ⟨[(0,0)],[],[],dE ((numberP ((nameP r).2.need [61])).2.need [59]),.tup []⟩)|_=>none) ?_;simp;refine⟨hn18,?_⟩;refine aJ ?_;simp;refine⟨⟨by omega,by omega⟩,?_⟩;refine Nf.mk ⟨f-1,ks++[.mk 7 (nameP r).1 (numberP ((nameP r).2.need [61])).1 []],(numberP ((nameP r).2.need [61])).2.need [59]⟩ (aB hp [0,2,4] [(0,0),(2,2),(4,4),(66,1066)]) ?_ ?_
       ·refine⟨λe=>?_,hle.2.1,?_,?_,?_⟩
        ·show((numberP ((nameP r).2.need [61])).2.need [59]).l.length<f-1;have z:=hi14.1 g1;have h:=hle.2.2 e;omega
        ·show((numberP ((nameP r).2.need [61])).2.need [59]).l.length<=p.l.length;omega
        ·show(ks++[Nd.mk 7 (nameP r).1 (numberP ((nameP r).2.need [61])).1 []]).length+((numberP ((nameP r).2.need [61])).2.need [59]).l.length<=p.l.length+(if((numberP ((nameP r).2.need [61])).2.need [59]).e=0 then 0 else 1);rw[List.length_append,List.length_singleton];by_cases e:((numberP ((nameP r).2.need [61])).2.need [59]).e=0
         ·rw[if_pos e];have h:=hle.2.2 e;omega
         ·rw[if_neg e];omega
        ·rw[hi14.2.2.2.2];exact Ji (hi14.1 g1) g1 g2
       ·show 2*((numberP ((nameP r).2.need [61])).2.need [59]).l.length+(if((numberP ((nameP r).2.need [61])).2.need [59]).e=0 then 1 else 0)<2*r.l.length+(if r.e=0 then 1 else 0);rw[if_pos g1];by_cases e:((numberP ((nameP r).2.need [61])).2.need [59]).e=0
        ·rw[if_pos e];have h:=hle.2.2 e;omega
        ·rw[if_neg e];omega
      ·refine bA ?_;simp;refine aD ?_;have hn20:=jU r [125];refine eF.ro hT hW (λ|69=>some (.gen ⟨[(0,0)],[],[],dE (r.need [125]),.tup []⟩)|_=>none) ?_;simp;refine⟨hn20,?_⟩;refine aA ?_;simp;refine aF ?_;simp;have e:defP false p=(.mk k t 0 ks,r.need [125]):=by rw[Vz hk hlt hn h12,hi14.2.2.2.2,Fu g]
       refine aU (x:=(defP false p).1.d) (by simp[e]) ?_;simp;exact aB hp [0] [(0,0)] (hH:=by simp[e])
     ·refine aA ?_;simp;refine aC ?_;simp;refine⟨λh22=>?_,λh22=>?_⟩
      ·refine aD ?_;have hne:=jU q [61];have gn:=bT (s:=[61]) gl.2.1;refine eF.ro hT hW (λ|74=>some (.gen ⟨[(0,0)],[],[],dE (q.need [61]),.tup []⟩)|_=>none) ?_;simp;refine⟨hne,?_⟩;have hnu:=Fl (q.need [61]) gn.2;refine eF.ro hT hW (λ|76=>some (.gen ⟨[(0,0)],[],[],dE (numberP (q.need [61])).2,.d (aG (numberP (q.need [61])).1)⟩)|_=>none) ?_;simp;refine⟨hnu,?_⟩;refine UV.mk ⟨(numberP (q.need [61])).1,(numberP (q.need [61])).2⟩ (aB hp [0,2,4] [(0,0),(2,2),(4,4)]) ?_;exact VA hk hlt hn h22
      ·refine aA ?_;simp;refine aC ?_;simp;refine⟨λh25=>?_,λh25=>?_⟩
       ·have hnu:=oV q 2 gl.2.1 (by decide);refine eF.ro hT hW (λ|81=>some (.gen ⟨[(0,0)],[],[],dE (numeralP 2 q).2,.d (aG (numeralP 2 q).1)⟩)|_=>none) ?_;simp;refine⟨hnu,?_⟩;refine UV.mk ⟨(numeralP 2 q).1,(numeralP 2 q).2⟩ (aB hp [0,2,4] [(0,0),(2,2),(4,4)]) ?_;exact To hk hlt hn h25
       ·refine aE ?_;simp;refine UV.mk ⟨0,q⟩ (aB hp [0,2,4] [(0,0),(2,2),(4,4)]) ?_;exact Tp hk hlt hn q10 h12 h22 h25
  ·refine aD ?_;have hne:=jU r [59];refine eF.ro hT hW (λ|84=>some (.gen ⟨[(0,0)],[],[],dE (r.need [59]),.tup []⟩)|_=>none) ?_;simp;refine⟨hne,?_⟩;refine aA ?_;simp;refine aF ?_;simp;refine aU (x:=(defP false p).1.d) (by simp[hc27]) ?_;simp;exact aB hp [0] [(0,0)] (hH:=by simp[hc27])
end
section
attribute[local simp] jO.cond Nd.d_eq nd_t nd_dr nd_td ndsD aQ bL cV dK yT yU yV mZ
theorem Jl{p:PS}(h:defKind p.peek<0):defP true p=(.mk 0 [] 0 [],p.fail 2):=by unfold defP;simp only[];rw[if_pos h]
section
variable{p q:PS} {t:aM} {k:Int} (hk:defKind p.peek=k) (h:¬k<0) (hn:nameP p.skip=(t,q))
include hk h hn
theorem Dt(h5:k=5\/k=6):defP true p=(.mk k t 0 [(blockP true (q.l.length+1) q).1],(blockP true (q.l.length+1) q).2):=by
 subst hk;unfold defP;simp only[];rw[if_neg h,hn,if_pos h5]
theorem Jm(h1:k=1):defP true p=(.mk k t 0 (itemsF ((q.need [123]).l.length+1) [] (q.need [123])).1,(itemsF ((q.need [123]).l.length+1) [] (q.need [123])).2.need [125]):=by
 subst hk;unfold defP;simp only[];rw[if_neg h,hn,if_neg (by omega),if_pos h1]
theorem Jn(h1:k=0):defP true p=(.mk k t (numberP (q.need [61])).1 [],(numberP (q.need [61])).2.need [59]):=by
 subst hk;unfold defP;simp only[];rw[if_neg h,hn,if_neg (by omega),if_neg (by omega),if_pos h1]
theorem Fw(h1:k=2):defP true p=(.mk k t (numeralP 2 q).1 [],(numeralP 2 q).2.need [59]):=by
 subst hk;unfold defP;simp only[];rw[if_neg h,hn,if_neg (by omega),if_neg (by omega),if_neg (by omega),if_pos h1]
theorem Fx(h1:¬(k=5\/k=6))(h2:¬k=1)(h3:¬k=0)(h4:¬k=2):defP true p=(.mk k t 0 [],q.need [59]):=by
 subst hk;unfold defP;simp only[];rw[if_neg h,hn,if_neg h1,if_neg h2,if_neg h3,if_neg h4]
end
theorem jF.item{T:List Tk}{q:PS}(f:jF T q):jF T ((numberP ((nameP q).2.need [61])).2.need [59]):=f.name.need.number.need
theorem jF.items{T:List Tk}:∀(g:Nat) (ks:List Nd) (p:PS),jF T p->jF T (itemsF g ks p).2
 |0,_,_,f=>f
 |g+1,ks,p,f=>by
  rw[itemsF];split
  ·exact f
  ·exact jF.items g _ _ f.item
theorem VB(s:aM)(T:List Tk)(c:yS s T)(p:PS)(f:jF T p):iE Tryz.prog 84 [.bx 0 0] (dK s T p) (dK s T (defP true p).2) (.d (defP true p).1.d):=by
 unfold dK;have htt:=c.ht;have hst:=sE;have q2:=iW;obtain⟨w,hw⟩:∃w,p.peek=w:=⟨_,rfl⟩;refine eR Tryz.func84 rfl Tryz.ntmps84 Tryz.results84 λw0 X hp=>?_;refine aA ?_;simp;refine aX hT hW (λ|8=>some (.gen ⟨[(0,0)],[],[],dK s T p,.d (.str p.peek)⟩)|_=>none) ?_;simp;refine⟨iM s T p c f,?_⟩;simp only[hw];refine aA ?_;simp;refine aP (ι:=Nat) (λi=>aO [(0,.bx 0 0),(2,.bx 2 0),(3,.d (.str w)),(4,.d (aG (i:Int)))]) (λi=>aI [(0,.box false [.d (.str s),.d (.sl (T.map Tk.r)),.d (aG ((T.length:Int)- p.l.length)),.d (.bool (!decide (p.e=0))),.d (.bool (decide (p.e=5)))]),(2,.box false [.d (aG 0),.d (.str []),.d (aG 0),.nl])]) (λi=>i<=7/\(∀j:Nat,j<i->wordAt (j:Int)≠w)/\((i:Int)<7->wordAt (i:Int)=w)) ?_ λi hc5=>?_
 ·refine aH ?_;refine aR (ι:=Nat) (λi=>aO [(0,.bx 0 0),(2,.bx 2 0),(3,.d (.str w)),(4,.d (aG (i:Int)))]) (λi=>aI [(0,.box false [.d (.str s),.d (.sl (T.map Tk.r)),.d (aG ((T.length:Int)- p.l.length)),.d (.bool (!decide (p.e=0))),.d (.bool (decide (p.e=5)))]),(2,.box false [.d (aG 0),.d (.str []),.d (aG 0),.nl])]) (λi=>i<=7/\∀j:Nat,j<i->wordAt (j:Int)≠w) (λi=>7-i) 0 (aB hp [0,2,3,4] [(0,0),(2,2)]) (⟨by decide,λj h2=>absurd h2 (by omega)⟩) λi hi3=>?_;refine aD ?_;refine aD ?_;rcases(by have:=hi3.1;omega:¬(i:Int)<7\/(i:Int)<7)with h26|h26
  ·refine rM hT hW (λ_=>none) (by intro d;first|exact⟨rfl,λ_ h=>h⟩|(split<;>exact⟨rfl,λ_ h=>h⟩)) ?_;simp[h26];refine aC ?_;simp[h26];refine bA ?_;simp;refine UV.mk i (aB hp [0,2,3,4] [(0,0),(2,2)]) ?_;exact⟨hi3.1,hi3.2,λz=>absurd z h26⟩
  ·have q1:=pQ (k:=(i:Int)) (by omega) (by omega);rw[Int.toNat_natCast]at q1;refine eF.ro hT hW (λ|12=>some<| .plain ⟨.d (.sl qD),true⟩|_=>none) ?_;simp[h26,q1];refine⟨⟨hst,by omega⟩,?_⟩;refine aC ?_;simp;refine⟨λh3=>?_,λh3=>?_⟩
   ·refine aE ?_;simp;refine aH ?_;refine aJ ?_;simp;refine⟨by omega,?_⟩;refine Nf.mk (i+1) (aB hp [0,2,3,4] [(0,0),(2,2)]) ?_ ?_
    ·refine⟨by omega,λj z2=>?_⟩;by_cases e:j=i
     ·rw[e];exact h3
     ·exact hi3.2 j (by omega)
    ·omega
   ·refine bA ?_;simp;refine UV.mk i (aB hp [0,2,3,4] [(0,0),(2,2)]) ?_;exact⟨hi3.1,hi3.2,λ_=>h3⟩
 ·refine aD ?_;refine aA ?_;simp;refine aC ?_;simp;refine⟨λh5=>?_,λh5=>?_⟩
  ·have hneg:defKind p.peek<0:=Classical.byContradiction λz=>by
    obtain⟨z1,z2⟩:=Dr (s:=p.peek) (by omega);have z3:=Ft (s:=p.peek);refine hc5.2.1 (defKind p.peek).toNat (by omega) ?_;rw[Int.toNat_of_nonneg (by omega),z1,hw]
   have ed:=Jl hneg;refine aA ?_;simp;refine aA ?_;simp;refine aF ?_;simp;refine aU (x:=(defP true p).1.d) (by simp[ed]) ?_;simp;exact aB hp [0] [(0,0)] (hH:=by simp[ed])
  ·have hi:i<7:=by have:=hc5.1;omega
   have hwi:=hc5.2.2 (by omega);have hki:defKind p.peek=(i:Int):=by rw[hw,<-hwi];exact Sv (by omega)
   have hpk:p.peek≠[]:=(Dr (s:=p.peek) (by omega)).2;have hsk:=pS (T:=T) hpk;have hps:=f.pos hpk;have hl:=oL hpk;have fsk:=f.skip;obtain⟨⟨t,q⟩,hnq⟩:∃x,nameP p.skip=x:=⟨_,rfl⟩;have fq:jF T q:=by have:=fsk.name;rw[hnq]at this;exact this
   have hge:¬(i:Int)<0:=(by omega);refine aE ?_;simp;refine aA ?_;simp;refine⟨by omega,?_⟩;simp only[<-hsk];refine aD ?_;have hna:=oW s T p.skip c fsk;rw[hnq]at hna;refine eF.ro hT hW (λ|36=>some (.gen ⟨[(0,0)],[],[],dK s T q,.d (.str t)⟩)|_=>none) ?_;simp;refine⟨hna,?_⟩;refine aP (ι:=YZ) (λ⟨n,r⟩=>aO [(0,.bx 0 0),(2,.bx 2 0),(5,.bx 5 0)]) (λ⟨n,r⟩=>aI [(0,.box false [.d (.str s),.d (.sl (T.map Tk.r)),.d (aG ((T.length:Int)- r.l.length)),.d (.bool (!decide (r.e=0))),.d (.bool (decide (r.e=5)))]),(2,.box false [.d (aG 0),.d (.str []),.d (aG 0),.nl]),(5,.box false [.d (aG (i:Int)),.d (.str t),.d (aG (n)),.nl])]) (λ⟨n,r⟩=>defP true p=(.mk (i:Int) t n [],r.need [59])/\jF T r) ?_ λ⟨n,r⟩ hc30=>?_
   ·refine aA ?_;simp;refine aH ?_;refine aA ?_;simp;refine aC ?_;simp;refine⟨λh11=>?_,λh11=>?_⟩
    ·refine aD ?_;have hne:=gP s T q c fq [61] (by simp);refine eF.ro hT hW (λ|42=>some (.gen ⟨[(0,0)],[],[],dK s T (q.need [61]),.tup []⟩)|_=>none) ?_;simp;refine⟨hne,?_⟩;have hnu:=Dj s T (q.need [61]) c fq.need;refine eF.ro hT hW (λ|44=>some (.gen ⟨[(0,0)],[],[],dK s T (numberP (q.need [61])).2,.d (aG (numberP (q.need [61])).1)⟩)|_=>none) ?_;simp;refine⟨hnu,?_⟩;refine UV.mk ⟨(numberP (q.need [61])).1,(numberP (q.need [61])).2⟩ (aB hp [0,2,5] [(0,0),(2,2),(5,5)]) ?_;exact⟨Jn hki hge hnq (by omega),fq.need.number⟩
    ·refine aA ?_;simp;refine aC ?_;simp;refine⟨λh14=>?_,λh14=>?_⟩
     ·have hnu:=iO s T q c fq 2 0 3 (.inl rfl) rfl;refine eF.ro hT hW (λ|49=>some (.gen ⟨[(0,0)],[],[],dK s T (numeralP 2 q).2,.d (aG (numeralP 2 q).1)⟩)|_=>none) ?_;simp;refine⟨hnu,?_⟩;refine UV.mk ⟨(numeralP 2 q).1,(numeralP 2 q).2⟩ (aB hp [0,2,5] [(0,0),(2,2),(5,5)]) ?_;exact⟨Fw hki hge hnq h14,fq.numeral⟩
     ·refine aA ?_;simp;refine aC ?_;simp;refine⟨λh16=>?_,λh16=>?_⟩
      ·refine aD ?_;have hne:=gP s T q c fq [123] (by simp);have gn:=Fs.need fq [123];have hqT:=fq.le;refine eF.ro hT hW (λ|54=>some (.gen ⟨[(0,0)],[],[],dK s T (q.need [123]),.tup []⟩)|_=>none) ?_;simp;refine⟨hne,?_⟩;refine gH (fz:=false) (cs:=[.d (aG (i:Int)),.d (.str t),.d (aG 0),.nl]) 5 3 1079 4 (by decide) ⟨by simp,by simp,by simp,?_⟩;simp;refine aD ?_;refine aH ?_;refine aR (ι:=Yx) (λ⟨g,ks,r⟩=>aO [(0,.bx 0 0),(2,.bx 2 0),(5,.bx 5 0)]) (λ⟨g,ks,r⟩=>aI [(0,.box false [.d (.str s),.d (.sl (T.map Tk.r)),.d (aG ((T.length:Int)- r.l.length)),.d (.bool (!decide (r.e=0))),.d (.bool (decide (r.e=5)))]),(2,.box false [.d (aG 0),.d (.str []),.d (aG 0),.nl]),(5,.box false [.d (aG (i:Int)),.d (.str t),.d (aG (0)),.ow 1079 0 ks.length]),(1079,.row false 4 (ks.map Nd.d))]) (λ⟨g,ks,r⟩=>(r.e=0->r.l.length<g)/\jF T r/\r.l.length<=q.l.length/\ks.length+r.l.length<=q.l.length+(if r.e=0 then 0 else 1)/\itemsF ((q.need [123]).l.length+1) [] (q.need [123])=itemsF g ks r) (λ⟨g,ks,r⟩=>2*r.l.length+(if r.e=0 then 1 else 0)) ⟨(q.need [123]).l.length+1,[],q.need [123]⟩ (aB hp [0,2,5] [(0,0),(2,2),(5,5),(1079,1079)]) (⟨λ_=>Nat.lt_succ_self _,gn.1,gn.2,by have:=gn.2;simp only[List.length_nil];omega,rfl⟩) λ⟨g,ks,r⟩ hi18=>?_;refine aD ?_;refine aD ?_;have hpk18:=iM s T r c hi18.2.1;refine eF.ro hT hW (λ|62=>some (.gen ⟨[(0,0)],[],[],dK s T r,.d (.str r.peek)⟩)|_=>none) ?_;simp[rA];refine⟨λ_=>hpk18,?_⟩;refine aC ?_;simp;refine⟨λg1 g2=>?_,λg=>?_⟩
       ·refine aE ?_;simp;refine aH ?_;refine aD ?_;have ha:r.l.length<=q.l.length:=hi18.2.2.1;have hks:ks.length+r.l.length<=q.l.length:=by have z:=hi18.2.2.2.1;simp only[g1,if_true]at z;omega
        have hle:=Fv (q:=r) (hi18.2.1.good c);have hn19:=oW s T r c hi18.2.1;have f19:=hi18.2.1.name;refine eF.ro hT hW (λ|66=>some (.gen ⟨[(0,0)],[],[],dK s T (nameP r).2,.d (.str (nameP r).1)⟩)|_=>none) ?_;simp;refine⟨hn19,?_⟩;refine aD ?_;have hn20:=gP s T (nameP r).2 c f19 [61] (by simp);refine eF.ro hT hW (λ|69=>some (.gen ⟨[(0,0)],[],[],dK s T ((nameP r).2.need [61]),.tup []⟩)|_=>none) ?_;simp;refine⟨hn20,?_⟩;refine aD ?_;have hn21:=Dj s T ((nameP r).2.need [61]) c f19.need;refine eF.ro hT hW (λ|71=>some (.gen ⟨[(0,0)],[],[],dK s T (numberP ((nameP r).2.need [61])).2,.d (aG (numberP ((nameP r).2.need [61])).1)⟩)|_=>none) ?_;simp;refine⟨hn21,?_⟩;refine aD ?_;have hn22:=gP s T (numberP ((nameP r).2.need [61])).2 c f19.need.number [59] (by simp);refine eF.ro hT hW (λ|74=>some (.gen ⟨[(0,0)],[],[],dK s T ((numberP ((nameP r).2.need [61])).2.need [59]),.tup []⟩)|_=>none) ?_;simp;refine⟨hn22,?_⟩;refine aJ ?_;simp;refine⟨⟨by omega,by omega⟩,?_⟩;refine Nf.mk ⟨g-1,ks++[.mk 7 (nameP r).1 (numberP ((nameP r).2.need [61])).1 []],((numberP ((nameP r).2.need [61])).2.need [59])⟩ (aB hp [0,2,5] [(0,0),(2,2),(5,5),(79,1079)]) ?_ ?_
        ·refine⟨λe=>?_,hi18.2.1.item,?_,?_,?_⟩
         ·show((numberP ((nameP r).2.need [61])).2.need [59]).l.length<g-1;have z:=hi18.1 g1;have h:=hle.2.2 e;omega
         ·show((numberP ((nameP r).2.need [61])).2.need [59]).l.length<=q.l.length;omega
         ·show(ks++[Nd.mk 7 (nameP r).1 (numberP ((nameP r).2.need [61])).1 []]).length+((numberP ((nameP r).2.need [61])).2.need [59]).l.length<=q.l.length+(if((numberP ((nameP r).2.need [61])).2.need [59]).e=0 then 0 else 1);rw[List.length_append,List.length_singleton];by_cases e:((numberP ((nameP r).2.need [61])).2.need [59]).e=0
          ·rw[if_pos e];have h:=hle.2.2 e;omega
          ·rw[if_neg e];omega
         ·rw[hi18.2.2.2.2];exact Ji (hi18.1 g1) g1 g2
        ·show 2*((numberP ((nameP r).2.need [61])).2.need [59]).l.length+(if((numberP ((nameP r).2.need [61])).2.need [59]).e=0 then 1 else 0)<2*r.l.length+(if r.e=0 then 1 else 0);rw[if_pos g1];by_cases e:((numberP ((nameP r).2.need [61])).2.need [59]).e=0
         ·rw[if_pos e];have h:=hle.2.2 e;omega
         ·rw[if_neg e];omega
       ·refine bA ?_;simp;refine aD ?_;have hn24:=gP s T r c hi18.2.1 [125] (by simp);refine eF.ro hT hW (λ|82=>some (.gen ⟨[(0,0)],[],[],dK s T (r.need [125]),.tup []⟩)|_=>none) ?_;simp;refine⟨hn24,?_⟩;refine aA ?_;simp;refine aF ?_;simp;have e:defP true p=(.mk (i:Int) t 0 ks,r.need [125]):=by rw[Jm hki hge hnq h16,hi18.2.2.2.2,Fu g]
        refine aU (x:=(defP true p).1.d) (by simp[e]) ?_;simp;exact aB hp [0] [(0,0)] (hH:=by simp[e])
      ·refine aP (ι:=BC) (λ⟨b⟩=>aO [(0,.bx 0 0),(2,.bx 2 0),(5,.bx 5 0),(38,.d (aG (i:Int))),(84,.d (.bool b))]) (λ⟨b⟩=>aI [(0,.box false [.d (.str s),.d (.sl (T.map Tk.r)),.d (aG ((T.length:Int)- q.l.length)),.d (.bool (!decide (q.e=0))),.d (.bool (decide (q.e=5)))]),(2,.box false [.d (aG 0),.d (.str []),.d (aG 0),.nl]),(5,.box false [.d (aG (i:Int)),.d (.str t),.d (aG (0)),.nl])]) (λ⟨b⟩=>b=true↔((i:Int)=5\/(i:Int)=6)) ?_ λ⟨b⟩ hc28=>?_
       ·refine aA ?_;simp;refine aC ?_;simp;refine⟨λh26=>?_,λh26=>?_⟩
        ·refine aE ?_;simp;refine UV.mk ⟨decide ((i:Int)=5)⟩ (aB hp [0,2,5,38,84] [(0,0),(2,2),(5,5)]) ?_;simp[h26]
        ·refine aJ ?_;simp;refine UV.mk ⟨decide ((i:Int)=6)⟩ (aB hp [0,2,5,38,84] [(0,0),(2,2),(5,5)]) ?_;simp only[decide_eq_true_eq];omega
       ·refine aC ?_;simp;refine⟨λh28=>?_,λh28=>?_⟩
        ·have q28:=hc28.1 h28;refine aD ?_;have hbl:=(RR.blockT c (q.l.length+1)).ok q (Nat.lt_succ_self _) fq;refine eF.rd [[0,91],[0,91]] [[],[],[],[0],[91],[92],[],[5]] (λ|90=>some (.gen ⟨[(0,0)],[],[],dK s T (blockP true (q.l.length+1) q).2,.d (blockP true (q.l.length+1) q).1.d⟩)|_=>none) ?_;simp;refine⟨by simpa using hbl,?_⟩;refine aA ?_;simp;refine aF ?_;simp;have e:=Dt hki hge hnq q28;refine aU (x:=(defP true p).1.d) (by simp[e]) ?_;simp;exact aB hp [0] [(0,0)] (hH:=by simp[e])
        ·have q28:¬((i:Int)=5\/(i:Int)=6):=λq=>by simp[hc28.2 q]at h28
         refine aE ?_;simp;refine UV.mk ⟨0,q⟩ (aB hp [0,2,5] [(0,0),(2,2),(5,5)]) ?_;exact⟨Fx hki hge hnq q28 h16 (by omega) h14,fq⟩
   ·refine aD ?_;have hne:=gP s T r c hc30.2 [59] (by simp);refine eF.ro hT hW (λ|96=>some (.gen ⟨[(0,0)],[],[],dK s T (r.need [59]),.tup []⟩)|_=>none) ?_;simp;refine⟨hne,?_⟩;refine aA ?_;simp;refine aF ?_;simp;have e:=hc30.1;refine aU (x:=(defP true p).1.d) (by simp[e]) ?_;simp;exact aB hp [0] [(0,0)] (hH:=by simp[e])
theorem jF.def{s:aM}{T:List Tk}(c:yS s T){p:PS}(f:jF T p):jF T (defP true p).2:=by
 obtain⟨k,hk⟩:∃k,defKind p.peek=k:=⟨_,rfl⟩;obtain⟨⟨t,q⟩,hn⟩:∃x,nameP p.skip=x:=⟨_,rfl⟩;have fq:jF T q:=by have:=f.skip.name;rw[hn]at this;exact this
 by_cases h:k<0
 ·rw[Jl (by omega)];exact f.fail (.inl rfl)
 ·by_cases h1:k=5\/k=6
  ·rw[Dt hk h hn h1];exact((RR.blockT c (q.l.length+1)).fs q (Nat.lt_succ_self _) fq).1
  ·by_cases h2:k=1
   ·rw[Jm hk h hn h2];exact(jF.items _ _ _ fq.need).need
   ·by_cases h3:k=0
    ·rw[Jn hk h hn h3];exact fq.need.number.need
    ·by_cases h4:k=2
     ·rw[Fw hk h hn h4];exact fq.numeral.need
     ·rw[Fx hk h hn h1 h2 h3 h4];exact fq.need
end
section
attribute[local simp] jO.cond Nd.d_eq nd_t nd_dr nd_td ndsD aQ
end
def Wt(x:PS->Nd×PS):Prop:=∀p:PS,bH p.l->weighN (x p).1+41*(x p).2.l.length<=41*p.l.length+40/\bH (x p).2.l
theorem Du:Wt placeP:=λp h=>by
 have a:=cO h;have t1:=nQ h;unfold placeP;split
 ·have b:=cO (cT a.2.1);have t2:=nQ (p:=(nameP p).2.skip) (cT a.2.1);have s:=dP (p:=(nameP p).2);refine⟨?_,b.2.1⟩;simp only[weighN,weighL,List.length_append,List.length_cons];omega
 ·refine⟨?_,a.2.1⟩;simp only[weighN,weighL];omega
theorem VC{ex:PS->Nd×PS}(hx:Wt ex):Wt (factP ex):=λp h=>by
 unfold factP;split
 ·have a:=hx p.skip (cT h);have s:=dP (p:=p);have n:=gK (p:=(ex p.skip).2) (s:=[41]);exact⟨by simp only;omega,(bT a.2).2⟩
 ·split
  ·have s:=dP (p:=p);exact⟨by simp only[weighN,weighL,List.length_nil];omega,cT h⟩
  ·split
   ·split
    ·have a:=eA (k:=32) h;exact⟨by simp only[weighN,weighL,List.length_nil];omega,a.2.1⟩
    ·split
     ·have a:=dR h;have t:(localP p).1.length<=17:=by
       by_cases q:p.peek.take 1=[36]
       ·rw[(jL q).2];have:=lD h;simp only[List.length_drop];omega
       ·rw[lZ q];simp
      exact⟨by simp only[weighN,weighL];omega,a.2.1⟩
     ·exact Du p h
   ·exact Du p h
theorem Fy{lv:Int}{x:PS->Nd×PS}(hx:Wt x)(B:Nat):∀(f:Nat) (n:Nd) (p:PS),bH p.l->weighN n+41*p.l.length<=B->weighN (chainF lv x f n p).1+41*(chainF lv x f n p).2.l.length<=B/\bH (chainF lv x f n p).2.l
 |0,_,_,h,hn=>⟨hn,h⟩
 |f+1,n,p,h,hn=>by
  have o:=vR (lv:=lv) h;unfold chainF;split
  ·exact⟨hn,h⟩
  ·split
   ·exact⟨by simp only;omega,o.2⟩
   ·rename_i q;have ol:=BN (lv:=lv) (q:=p) (by omega);have a:=hx (opP lv p).2 o.2;refine Fy hx B f _ _ a.2 ?_;simp only[weighN,weighL,List.length_nil];omega
theorem Fz{lv:Int}{x:PS->Nd×PS}(hx:Wt x):Wt (chainP lv x):=λp h=>Fy hx _ _ _ _ (hx p h).2 (hx p h).1
theorem Tq{ex:PS->Nd×PS}(hx:Wt ex):Wt (sumP ex):=Fz (Fz (VC hx))
theorem Tr{ex:PS->Nd×PS}(hx:Wt ex):Wt (exprB ex):=λp h=>by
 have a:=Tq hx p h;have o:=vR (lv:=1) a.2;by_cases q:0<=(opP 1 (sumP ex p).2).1
 ·have ol:=BN q;have b:=Tq hx (opP 1 (sumP ex p).2).2 o.2;rw[Ap q];refine⟨?_,b.2⟩;simp only[weighN,weighL,List.length_nil];omega
 ·rw[Aq (by omega)];exact⟨by simp only;omega,o.2⟩
theorem Jo:∀f,Wt (exprP false f)
 |0=>λp h=>⟨by
   have:weighN (default:Nd)<=40:=(by decide);show weighN default+41*p.l.length<=_;omega,h⟩
 |f+1=>λp h=>by
  rw[exprP,if_neg (by simp)];exact Tr (Jo f) p h
def Ws(n:Nat)(x:PS->Nd×PS):Prop:=∀p:PS,p.l.length<n->bH p.l->weighN (x p).1+240*(x p).2.l.length<=240*p.l.length+90/\bH (x p).2.l/\((x p).2.e=0->weighN (x p).1+240*(x p).2.l.length<=240*p.l.length)
def Wb(n:Nat)(x:PS->Nd×PS):Prop:=∀p:PS,p.l.length<n->bH p.l->weighN (x p).1+240*(x p).2.l.length<=240*p.l.length+91/\bH (x p).2.l
theorem sI(a b:List Nd):weighL (a++b)=weighL a+weighL b:=by
 induction a with
 |nil=>simp[weighL]
 |cons x a ih=>simp only[List.cons_append,weighL,ih];omega
theorem FA{m:Nat}{st:PS->Nd×PS}(hs:Ws m st)(B:Nat):∀(f:Nat) (ks:List Nd) (p:PS),p.l.length<m->bH p.l->weighL ks+240*p.l.length<=B+90->(p.e=0->weighL ks+240*p.l.length<=B)->
 weighL (stmtsF st f ks p).1+240*(stmtsF st f ks p).2.l.length<=B+90/\bH (stmtsF st f ks p).2.l
 |0,_,_,_,h,h1,_=>⟨h1,h⟩
 |f+1,ks,p,hm,h,h1,h2=>by
  unfold stmtsF;split
  ·exact⟨h1,h⟩
  ·rename_i q;have e0:p.e=0:=Classical.byContradiction λz=>q (.inl z);have a:=hs p hm h;have b:=h2 e0;refine FA hs B f _ _ (by have:=a.1;omega) a.2.1 ?_ λz=>?_
   ·rw[sI];simp only[weighL];have:=a.1;omega
   ·rw[sI];simp only[weighL];have:=a.2.2 z;omega
theorem FB{m:Nat}{st:PS->Nd×PS}(hs:Ws m st):Wb m (blockB st):=λp hm h=>by
 have n:=gK (p:=p) (s:=[123]);have g:=(bT (s:=[123]) h).2;unfold blockB;simp only[];have a:=FA hs (240*(p.need [123]).l.length) ((p.need [123]).l.length+1) [] (p.need [123]) (by omega) g (by simp only[weighL];omega) (λ_=>by simp only[weighL];omega);have m:=gK (p:=(stmtsF st ((p.need [123]).l.length+1) [] (p.need [123])).2) (s:=[125]);refine⟨?_,(bT a.2).2⟩;simp only[weighN,List.length_nil];have:=a.1;omega
theorem VD{ex:PS->Nd×PS}(hx:Wt ex){k:Int}:∀p:PS,bH p.l->weighN (cmdP ex k p).1+240*(cmdP ex k p).2.l.length<=240*p.l.length+90/\bH (cmdP ex k p).2.l:=λp h=>by
 have a:=rB (k:=k) h;have t:(cmdA k p).1.length<=17:=by
  unfold cmdA;split
  ·by_cases q:p.peek.take 1=[36]
   ·rw[(jL q).2];have:=lD h;simp only[List.length_drop];omega
   ·rw[lZ q];simp
  ·split
   ·simp
   ·exact nQ h
 by_cases h1:k=15\/k=22\/k=24
 ·rw[Dn h1];have b:=hx (cmdA k p).2 a.2;refine⟨?_,b.2⟩;simp only[weighN,weighL];omega
 ·by_cases h2:k=16\/k=23
  ·rw[BO h1 h2];have b:=dR a.2;have t2:(localP (cmdA k p).2).1.length<=17:=by
    by_cases q:(cmdA k p).2.peek.take 1=[36]
    ·rw[(jL q).2];have:=lD a.2;simp only[List.length_drop];omega
    ·rw[lZ q];simp
   refine⟨?_,b.2.1⟩;simp only[weighN,weighL];omega
  ·by_cases h3:k=19\/k=21\/k=25
   ·rw[wB h1 h2 h3];have b:=eA (k:=k) a.2;refine⟨?_,b.2.1⟩;simp only[weighN,weighL];omega
   ·rw[rC h1 h2 h3];refine⟨?_,a.2⟩;simp only[weighN,weighL];omega
theorem Mb{p:PS}(h:bH p.l)(he3:(placeP p).2.e=0):(placeP p).2.l.length<p.l.length:=by
 unfold placeP at he3|-;have nm:(nameP p).2.e=0->(nameP p).2.l.length<p.l.length:=λz=>by
  cases q:isNameB p.peek with
  |false=>rw[oU q]at z;exact absurd z (fail_e (by decide))
  |true=>
   have ip:p.is p.peek=true:=eE.2 ⟨λe=>(by rw[e]at q;cases q),rfl⟩;have lp:=fK ip;rw[sG q,cB ip];simp only;omega
 have ng:=cO h;split at he3
 ·rename_i z;rw[if_pos z];have z2:(nameP p).2.skip.e=0:=nameP_stk _ he3;have z3:(nameP p).2.e=0:=z2;have ll:=(cO (p:=(nameP p).2.skip) (cT ng.2.1)).1;have l3:=dP (p:=(nameP p).2);have:=nm z3;simp only;omega
 ·rename_i z;rw[if_neg z];exact nm he3
theorem Ts{m:Nat}{ex bl:PS->Nd×PS}(hs:Stk ex)(hx:Wt ex)(hb:Wb m bl):Ws (m+1) (stmtB ex bl):=λp hm h=>by
 obtain⟨k,hk⟩:∃k,kindP p.peek=k:=⟨_,rfl⟩;by_cases h1:k=11\/k=12
 ·have ip:=jM (p:=p) (by omega);have lp:=fK ip;rw[<-cB ip]at lp;have e0:=hx (p.took p.peek) (dO h);have b0:=hb (ex (p.took p.peek)).2 (by have:=e0.1;omega) e0.2;by_cases h2:k=11/\(bl (ex (p.took p.peek)).2).2.is sElse=true
  ·rw[BP hk h2.1 h2.2];have l2:=fK h2.2;rw[<-cB h2.2]at l2;have c0:=hb ((bl (ex (p.took p.peek)).2).2.took sElse) (by have:=e0.1;have:=b0.1;omega) (dO b0.2);refine⟨?_,c0.2,λ_=>?_⟩<;>(simp only[weighN,weighL,List.length_nil];omega)
  ·rw[NL hk h1 (λq=>by
    cases z:(bl (ex (p.took p.peek)).2).2.is sElse with
    |false=>rfl
    |true=>exact absurd ⟨q,z⟩ h2)]
   refine⟨?_,b0.2,λ_=>?_⟩<;>(simp only[weighN,weighL,List.length_nil];omega)
 ·by_cases h3:12<k
  ·have ip:=jM (p:=p) (by omega);have lp:=fK ip;rw[<-cB ip]at lp;have c0:=VD hx (k:=k) (p.took p.peek) (dO h);rw[GT hk h3];have n:=gK (p:=(cmdP ex k (p.took p.peek)).2) (s:=[59]);refine⟨?_,(bT c0.2).2,λ_=>?_⟩<;>(simp only;omega)
  ·by_cases h4:p.peek.take 1=[36]
   ·obtain⟨i1,i2⟩:=jL h4;have ip:p.is p.peek=true:=eE.2 ⟨λe=>(by rw[e]at h4;cases h4),rfl⟩;have lp:=fK ip;rw[<-cB ip]at lp;have t:=lD h;rw[yY hk h1 h3 h4,i2];have n1:=gK (p:=p.took p.peek) (s:=[61]);have e0:=hx ((p.took p.peek).need [61]) (bT (dO h)).2;have n2:=gK (p:=(ex ((p.took p.peek).need [61])).2) (s:=[59]);refine⟨?_,(bT e0.2).2,λ_=>?_⟩<;>(simp only[weighN,weighL,List.length_drop];omega)
   ·rw[yZ hk h1 h3 h4];have a:=Du p h;have le:=(kQ (p.l.length+1) p (Nat.lt_succ_self _) h).1;have n1:=gK (p:=(placeP p).2) (s:=[61]);have e0:=hx ((placeP p).2.need [61]) (bT a.2).2;have n2:=gK (p:=(ex ((placeP p).2.need [61])).2) (s:=[59]);refine⟨?_,(bT e0.2).2,λz=>?_⟩
    ·simp only[weighN,weighL,List.length_nil];omega
    ·have z:((ex ((placeP p).2.need [61])).2.need [59]).e=0:=z;have pe:=Mb h (need_e (hs _ (need_e z).2)).2;simp only[weighN,weighL,List.length_nil];omega
theorem Jp:∀f,Ws f (stmtP false f)
 |0=>λp hm _=>absurd hm (Nat.not_lt_zero _)
 |f+1=>Ts (exprO_stk false) (λp h=>Jo _ p h) (FB (Jp f))
theorem Qd{p:PS}(z:(nameP p).2.e=0):(nameP p).2.l.length<p.l.length:=by
 cases q:isNameB p.peek with
 |false=>rw[oU q]at z;exact absurd z (fail_e (by decide))
 |true=>
  have ip:p.is p.peek=true:=eE.2 ⟨λe=>(by rw[e]at q;cases q),rfl⟩;have lp:=fK ip;rw[sG q,cB ip];simp only;omega
theorem FC(B:Nat):∀(f:Nat) (ks:List Nd) (p:PS),bH p.l->weighL ks+240*p.l.length<=B+90->(p.e=0->weighL ks+240*p.l.length<=B)->
 weighL (itemsF f ks p).1+240*(itemsF f ks p).2.l.length<=B+90/\bH (itemsF f ks p).2.l
 |0,_,_,h,h1,_=>⟨h1,h⟩
 |f+1,ks,p,h,h1,h2=>by
  unfold itemsF;split
  ·exact⟨h1,h⟩
  ·rename_i q;have e0:p.e=0:=Classical.byContradiction λz=>q (.inl z);have b:=h2 e0;have a:=cO h;have t:=nQ h;have g1:=bT (s:=[61]) a.2.1;have v:=nK g1.2;have g2:=bT (s:=[59]) v.2.1;simp only[];refine FC B f _ _ g2.2 ?_ λz=>?_
   ·rw[sI];simp only[weighN,weighL];omega
   ·have z1:=numberP_stk _ (need_e z).2;have ne:=Qd (need_e z1).2;rw[sI];simp only[weighN,weighL];omega
theorem Mc{p:PS}(h:bH p.l):weighN (defP false p).1<=240*p.l.length+300:=by
 have s:=dP (p:=p);have a:=cO (cT h);have t:=nQ (cT h);unfold defP;simp only[];split
 ·simp only[weighN,weighL,List.length_nil];omega
 ·split
  ·have b:=FB (Jp ((nameP p.skip).2.l.length+1)) (nameP p.skip).2 (Nat.lt_succ_self _) a.2.1;have b1:weighN (blockP false ((nameP p.skip).2.l.length+1) (nameP p.skip).2).1<=240*(nameP p.skip).2.l.length+91:=by
    have:=b.1;show weighN (blockB (stmtP false ((nameP p.skip).2.l.length+1)) (nameP p.skip).2).1<=_;omega
   simp only[weighN,weighL];omega
  ·split
   ·have g1:=bT (s:=[123]) a.2.1;have i:=FC (240*((nameP p.skip).2.need [123]).l.length) (((nameP p.skip).2.need [123]).l.length+1) [] ((nameP p.skip).2.need [123]) g1.2 (by simp only[weighL];omega) (λ_=>by simp only[weighL];omega);have i1:=i.1;simp only[weighN];omega
   ·split
    ·simp only[weighN,weighL];omega
    ·split
     ·simp only[weighN,weighL];omega
     ·simp only[weighN,weighL];omega
theorem kS:∀(f:Nat) (s:aM) (i:Int),(scanF f s i).1.length<=f
 |0,_,_=>Nat.le_refl _
 |f+1,s,i=>by
  unfold scanF;split
  ·simp
  ·split
   ·have:=kS f (by assumption) (i+1);omega
   ·split
    ·simp
    ·simp only[List.length_cons];exact Nat.succ_le_succ (kS f _ _)
theorem uK{s:aM}(hl:s.length<=1024):weighN (defP false ⟨(scanS s).1,0⟩).1<=1000000000:=by
 have h1:(scanS s).1.length<=s.length:=kS _ _ _;have h2:=Mc (p:=⟨(scanS s).1,0⟩) (gI _ _ _);have h3:(PS.mk (scanS s).1 0).l.length=(scanS s).1.length:=rfl;omega
section
attribute[local simp] jO.cond Nd.d_eq nd_t nd_dr nd_td ndsD aQ bL cV dK
theorem Bi{s:aM}{R:Nd×PS}(hR:defP true ⟨(scanS s).1,0⟩=R)(hl:s.length<=1024){x:Tk}{r:List Tk}(h:R.2.l=x::r):kB s=(zeroNd,x.at_,if R.2.e≠0 then R.2.e else 2):=by
 unfold kB;rw[if_neg (by omega)];simp only[];rw[hR,h]
theorem GX{s:aM}{R:Nd×PS}(hR:defP true ⟨(scanS s).1,0⟩=R)(hl:s.length<=1024)(h:R.2.l=[])(h2:¬R.2.e=0\/(scanS s).2<s.length):kB s=(zeroNd,(scanS s).2,2):=by
 unfold kB;rw[if_neg (by omega)];simp only[];rw[hR,h];simp only[];rw[if_pos h2]
theorem Md{s:aM}{R:Nd×PS}(hR:defP true ⟨(scanS s).1,0⟩=R)(hl:s.length<=1024)(h:R.2.l=[])(h2:¬(¬R.2.e=0\/(scanS s).2<s.length))(h3:24<depthN R.1\/1024<(textT R.1).length):kB s=(zeroNd,0,4):=by
 unfold kB;rw[if_neg (by omega)];simp only[];rw[hR,h];simp only[];rw[if_neg h2,if_pos h3]
theorem Me{s:aM}{R:Nd×PS}(hR:defP true ⟨(scanS s).1,0⟩=R)(hl:s.length<=1024)(h:R.2.l=[])(h2:¬(¬R.2.e=0\/(scanS s).2<s.length))(h3:¬(24<depthN R.1\/1024<(textT R.1).length)):kB s=(R.1,0,0):=by
 unfold kB;rw[if_neg (by omega)];simp only[];rw[hR,h];simp only[];rw[if_neg h2,if_neg h3]
theorem Xo{s:aM}(hl:s.length<=1024):yS s (scanS s).1:=
 ⟨hl,Nat.le_trans (kS _ _ _) hl,λ_ h=>Dc h,gI _ _ _⟩
theorem Tt{T:List Tk}{q:PS}(f:jF T q)(h:¬(T.length:Int)- q.l.length<T.length):q.l=[]:=List.eq_nil_of_length_eq_zero (by omega)
theorem Jq(s:aM)(T:List Tk)(hT1:(scanS s).1=T)(R:Nd×PS)(hR:defP true ⟨T,0⟩=R):Ok Tryz.prog 49 [.str s] ⟨.tup [.d (kB s).1.d,.d (aG (kB s).2.1),.d (aG (kB s).2.2)],false⟩:=by
 refine vN hT Tryz.func49 (by kernel_rfl) (c:=_) rfl Tryz.ntmps49 (by simp) Tryz.results49 (by simp) (by rfl) λw0 X hp=>?_;refine aA ?_;simp;refine aD ?_;refine aA ?_;simp;refine aC ?_;simp;refine⟨λh1=>?_,λh1=>?_⟩
 ·refine aA ?_;simp;refine aF ?_;have e:kB s=(zeroNd,1024,4):=by unfold kB;rw[if_pos (by omega)]
  simp[e,zeroNd]
 ·refine aE ?_;simp;refine aD ?_;have hs:=Dd s (by omega);rw[hT1]at hs;have hls:s.length<=1024:=by omega
  have cx:=Xo hls;rw[hT1]at cx;have fx:jF T ⟨T,0⟩:=⟨List.suffix_refl _,.inl rfl⟩;have fR:=fx.def cx;rw[hR]at fR;have hle:=fR.le;have htt:=cx.ht;have hR':defP true ⟨(scanS s).1,0⟩=R:=by rw[hT1];exact hR
  refine eF.ro hT hW (λ|15=>some<| .plain ⟨.tup [.d (.sl (T.map Tk.r)),.d (aG (scanS s).2)],true⟩|_=>none) ?_;simp[aW];refine⟨hs,?_⟩;refine aA ?_;simp;refine aD ?_;have hd:=VB s T cx ⟨T,0⟩ fx;rw[hR]at hd;refine eF.ro hT hW (λ|23=>some (.gen ⟨[(21,0)],[],[],dK s T R.2,.d R.1.d⟩)|_=>none) ?_;simp;refine⟨by simpa using hd,?_⟩;refine aD ?_;refine aD ?_;refine eF.rd [] [] (λ_=>none) ?_;simp;refine aC ?_;simp;refine⟨λg1 g2=>?_,λg=>?_⟩
  ·obtain⟨x,r,hxr⟩:=List.exists_cons_of_ne_nil (l:=R.2.l) (λe=>by rw[e]at g2;simp at g2);obtain⟨n,hn,hnl,hn2,hm⟩:=fR.at hxr;have e:=Bi hR' hls hxr;refine aD ?_;refine aA ?_;simp;refine aC ?_;simp;refine⟨λh7=>?_,λh7=>?_⟩
   ·refine aD ?_;refine eL (fG [0,2,7,8] [(2,2),(8,8),(21,21)] (by decide) (by decide) (by simp[hp])) ?_;simp;refine eF.rd [[],[2],[2],[2],[2],[2],[2],[2],[2],[2],[2],[2]] [[],[],[],[],[],[],[],[],[],[],[],[],[2]] (λ_=>none) ?_;simp[hn,hn2,Tk.r];refine⟨hnl,?_⟩;refine aF ?_;simp[e,zeroNd,g1,h7]
   ·refine aE ?_;simp;refine aD ?_;refine eL (fG [0,2,7,8] [(2,2),(8,8),(21,21)] (by decide) (by decide) (by simp[hp])) ?_;simp;refine eF.rd [[],[2],[2],[2],[2],[2],[2],[2],[2],[2],[2],[2]] [[],[],[],[],[],[],[],[],[],[],[],[],[2]] (λ_=>none) ?_;simp[hn,hn2,Tk.r];refine⟨hnl,?_⟩;refine aF ?_;have e5:R.2.e=2:=by rcases fR.err with z|z|z;exact absurd z g1;exact z;exact absurd z h7
    simp[e,zeroNd,e5]
  ·refine aE ?_;simp;refine aD ?_;refine aD ?_;refine eF.rd [] [] (λ_=>none) ?_;simp;refine aC ?_;simp;refine⟨λk1 k2=>?_,λk=>?_⟩
   ·obtain⟨x,r,hxr⟩:=List.exists_cons_of_ne_nil (l:=R.2.l) (λe=>by rw[e]at k2;simp at k2);obtain⟨n,hn,hnl,hn2,hm⟩:=fR.at hxr;have e:=Bi hR' hls hxr;refine aD ?_;refine eL (fG [0,2,7,8] [(2,2),(8,8),(21,21)] (by decide) (by decide) (by simp[hp])) ?_;simp;refine eF.rd [[],[2],[2],[2],[2],[2],[2],[2],[2],[2],[2],[2]] [[],[],[],[],[],[],[],[],[],[],[],[],[2]] (λ_=>none) ?_;simp[hn,hn2,Tk.r];refine⟨hnl,?_⟩;refine aF ?_;simp[e,zeroNd,k1]
   ·have hnil:R.2.l=[]:=Tt fR (by
     by_cases z:R.2.e=0
     ·have:=k z;omega
     ·have:=g z;omega)
    refine aE ?_;simp;refine aD ?_;refine aA ?_;simp;refine aC ?_;simp;refine⟨λk3=>?_,λk4 k5=>?_⟩
    ·refine aA ?_;simp;refine aF ?_;have e:=GX hR' hls hnil (by rcases k3 with z|z;exact .inl z;exact .inr (by omega));simp[e,zeroNd]
    ·refine aE ?_;simp;refine aD ?_;refine aD ?_;have hrl:=defP_rl ⟨(scanS s).1,0⟩;have heq:=hrl.2 (by rw[hrl.1,hR'];exact k4);rw[hR']at heq;have hwe:=uK hls;rw[heq]at hwe;obtain⟨r1,r2,r3⟩:=CI (p:=⟨(scanS s).1,0⟩) (gI _ _ _) (by rw[hrl.1,hR'];exact k4);rw[heq]at r1 r2 r3;have hdf:=vT r1 r2 r3;have hde:=PO R.1 hwe;have hte:=IP R.1 hdf hwe;refine eF.ro hT hW (λ|110=>some<| .plain ⟨.d (aG (depthN R.1)),true⟩|114=>some<| .plain ⟨.d (.str (textT R.1)),true⟩|_=>none) ?_;simp;refine⟨⟨by simpa using hde,λ_=>by simpa using hte⟩,?_⟩;refine aC ?_;simp;refine⟨λk6=>?_,λk7 k8=>?_⟩
     ·refine aA ?_;simp;refine aF ?_;have e:=Md hR' hls hnil (λz=>z.elim (λy=>y k4) (λy=>by omega)) (by omega);simp[e,zeroNd]
     ·refine aE ?_;simp;refine aA ?_;simp;refine aF ?_;have e:=Me hR' hls hnil (λz=>z.elim (λy=>y k4) (λy=>by omega)) (by omega);simp[e]
theorem FD(s:aM):Ok Tryz.prog 49 [.str s] ⟨.tup [.d (parseS s).1.d,.d (aG (parseS s).2.1),.d (aG (parseS s).2.2)],false⟩:=by
 rw[<-Su];exact Jq s _ rfl _ rfl
end
section
attribute[local simp] jO.cond Nd.d_eq nd_t nd_dr nd_td ndsD aQ bL cV kY Bf Bg Bh Jc Int.add_assoc
def iB(L:List Int)(i:Nat):List (Nat×aV):=[(0,.box false [.d (.sl (L.map aG)),.d (aG i)])]
def Jr(L:List Int):Prop:=∀n∈L, -9223372036854775808<=n/\n<=9223372036854775807
attribute[local simp] iB
theorem bP(l:List Int)(i m:Int)(h:0<m):0<=dH l i m/\dH l i m<m:=by
 unfold dH;split
 ·omega
 ·exact dD _ _ h
theorem eN(L:List Int)(i:Nat)(m:Int)(hL:Jr L)(hi:i<=3000000)(hm:m≠0):iE Tryz.prog 95 [.bx 0 0,.d (aG m)] (iB L i) (iB L (i+1)) (.d (aG (dH L i m))):=by
 unfold iB;refine gJ Tryz.func95 rfl Tryz.ntmps95 Tryz.results95 λw0 X hp=>?_;refine aA ?_;simp;refine aA ?_;simp;refine⟨by omega,?_⟩;refine aD ?_;have ha:=Ix L i m hL hm;have e1:(i:Int)+1-1=i:=by omega
 refine eF.rd [] [[],[],[],[],[],[],[],[],[],[],[22]] (λ|22=>some<| .plain ⟨.d (aG (dH L i m)),true⟩|_=>none) ?_;simp[e1];refine⟨⟨by omega,ha⟩,?_⟩;refine aF ?_;simp;exact aB hp [4] [(0,0)]
theorem VE{L:List Int}{i:Nat}:(callL.map DV.str)[(dH L i 8).toNat]?.getD default=.str (callM L i):=by
 have h:=bP L i 8 (by decide);have hk:(dH L i 8).toNat<callL.length:=by show _<8;omega
 unfold callM;rw[List.getElem?_map,List.getElem?_eq_getElem hk];simp[List.getD_eq_getElem?_getD,hk]
theorem Xp{L:List Int}{i:Nat}:(ownL.map DV.str)[(dH L i 4).toNat]?.getD default=.str (ownM L i):=by
 have h:=bP L i 4 (by decide);have hk:(dH L i 4).toNat<ownL.length:=by show _<4;omega
 unfold ownM;rw[List.getElem?_map,List.getElem?_eq_getElem hk];simp[List.getD_eq_getElem?_getD,hk]
theorem Xq{L:List Int}{i:Nat}:(numsM.map aG)[(dH L i 6).toNat]?.getD default=aG (numsM.getD (dH L i 6).toNat 0):=by
 have h:=bP L i 6 (by decide);have hk:(dH L i 6).toNat<numsM.length:=by show _<6;omega
 rw[List.getElem?_map,List.getElem?_eq_getElem hk];simp[List.getD_eq_getElem?_getD,hk]
theorem iP(L:List Int)(i:Nat)(hL:Jr L)(hi:i<=3000000):iE Tryz.prog 96 [.bx 0 0] (iB L i) (iB L (i+1)) (.d (.str (callM L i))):=by
 unfold iB;refine gJ Tryz.func96 rfl Tryz.ntmps96 Tryz.results96 λw0 X hp=>?_;refine aA ?_;simp;refine aD ?_;have ha:=eN L i 8 hL hi (by decide);have hr:=bP L i 8 (by decide);have hc:=VE (L:=L) (i:=i);simp[callL]at hc;refine eF.ro hT hW (λ|5=>some (.gen ⟨[(0,0)],[],[],iB L (i+1),.d (aG (dH L i 8))⟩)|_=>none) ?_;simp[hc];refine⟨⟨⟨⟨by decide,by simpa using ha⟩,by omega⟩,by omega⟩,?_⟩;refine aF ?_;simp;exact aB hp [2] [(0,0)]
theorem zB(L:List Int)(i:Nat)(hL:Jr L)(hi:i<=3000000):iE Tryz.prog 144 [.bx 0 0] (iB L i) (iB L (i+1)) (.d (.str (ownM L i))):=by
 unfold iB;refine gJ Tryz.func144 rfl Tryz.ntmps144 Tryz.results144 λw0 X hp=>?_;refine aA ?_;simp;refine aD ?_;have ha:=eN L i 4 hL hi (by decide);have hr:=bP L i 4 (by decide);have hc:=Xp (L:=L) (i:=i);simp[ownL]at hc;refine eF.ro hT hW (λ|5=>some (.gen ⟨[(0,0)],[],[],iB L (i+1),.d (aG (dH L i 4))⟩)|_=>none) ?_;simp[hc];refine⟨⟨⟨⟨by decide,by simpa using ha⟩,by omega⟩,by omega⟩,?_⟩;refine aF ?_;simp;exact aB hp [2] [(0,0)]
theorem mC(L:List Int)(i:Nat):(callM L i).length<=16:=by
 have h:=bP L i 8 (by decide);unfold callM;have:∀k:Nat,(callL.getD k []).length<=16:=λk=>by
  rw[List.getD_eq_getElem?_getD];cases e:callL[k]? with
  |none=>simp
  |some w=>
   have:=List.mem_of_getElem? e;exact(by decide:∀w∈callL,w.length<=16) w this
 exact this _
theorem Tu(L:List Int)(i:Nat)(hL:Jr L)(hi:i<=2000000):iE Tryz.prog 146 [.bx 0 0] (iB L i) (iB L (placeM L i).2) (.d (placeM L i).1.d):=by
 unfold iB;refine eR Tryz.func146 rfl Tryz.ntmps146 Tryz.results146 λw0 X hp=>?_;refine aA ?_;simp;refine aD ?_;refine aD ?_;have ha:=eN L i 3 hL (by omega) (by decide);refine eF.ro hT hW (λ|5=>some (.gen ⟨[(0,0)],[],[],iB L (i+1),.d (aG (dH L i 3))⟩)|_=>none) ?_;simp;refine⟨by simpa using ha,?_⟩;refine aC ?_;simp;refine⟨λh1=>?_,λh1=>?_⟩
 ·refine aD ?_;have hc:=iP L (i+1) hL (by omega);refine eF.ro hT hW (λ|8=>some (.gen ⟨[(0,0)],[],[],iB L (i+1+1),.d (.str (callM L (i+1)))⟩)|_=>none) ?_;simp;refine⟨by simpa using hc,?_⟩;refine aF ?_;simp;have e:placeM L i=(.mk 34 (callM L (i+1)) 0 [],i+2):=by unfold placeM;rw[if_pos h1]
  refine aU (x:=(placeM L i).1.d) (by simp[e]) ?_;simp;exact aB hp [0] [(0,0)] (hH:=by simp[e])
 ·refine aE ?_;simp;refine aD ?_;have hc:=iP L (i+1) hL (by omega);refine eF.ro hT hW (λ|11=>some (.gen ⟨[(0,0)],[],[],iB L (i+1+1),.d (.str (callM L (i+1)))⟩)|_=>none) ?_;simp;refine⟨by simpa using hc,?_⟩;refine aD ?_;have hc2:=iP L (i+2) hL (by omega);have l1:=mC L (i+1);have l2:=mC L (i+2);refine eF.ro hT hW (λ|15=>some (.gen ⟨[(0,0)],[],[],iB L (i+2+1),.d (.str (callM L (i+2)))⟩)|_=>none) ?_;simp;refine⟨⟨⟨by omega,by simpa using hc2⟩,by omega⟩,?_⟩;refine aF ?_;simp;have e:placeM L i=(.mk 35 (callM L (i+1)++46::callM L (i+2)) 0 [],i+3):=by unfold placeM;rw[if_neg (by omega)]
  refine aU (x:=(placeM L i).1.d) (by simp[e]) ?_;simp;exact aB hp [0] [(0,0)] (hH:=by simp[e])
end
section
attribute[local simp] jO.cond Nd.d_eq nd_t nd_dr nd_td ndsD aQ bL kY Int.add_assoc cV Bf Bg Bh Jc iB
def cR(L:List Int)(d i:Nat):Int:=if d=0\/L.length<i+1 then(dH L i 12).tmod 6 else dH L i 12
theorem fL(L:List Int)(d i:Nat):0<=cR L d i/\cR L d i<12/\(d=0->cR L d i<6):=by
 have h:=bP L i 12 (by decide);unfold cR;split
 ·have:(dH L i 12).tmod 6=dH L i 12%6:=Int.tmod_eq_emod_of_nonneg h.1;rw[this];omega
 ·omega
theorem iZ{L:List Int}{d i:Nat}(h:cR L d i=0\/cR L d i=1):valueM L d i=(.mk 32 [] (numsM.getD (dH L (i+1) 6).toNat 0) [],i+2):=by
 unfold cR at h;unfold valueM;simp only[];rw[if_pos h]
theorem jA{L:List Int}{d i:Nat}(h:cR L d i=2):valueM L d i=(.mk 33 (ownM L (i+1)) 0 [],i+2):=by
 have h0:¬(cR L d i=0\/cR L d i=1):=by omega
 unfold cR at h h0;unfold valueM;simp only[];rw[if_neg h0,if_pos h]
theorem fH{L:List Int}{d i:Nat}(h:cR L d i=3\/cR L d i=4):valueM L d i=placeM L (i+1):=by
 have h0:¬(cR L d i=0\/cR L d i=1):=by omega
 have h1:¬(cR L d i=2):=by omega
 unfold cR at h h0 h1;unfold valueM;simp only[];rw[if_neg h0,if_neg h1,if_pos h]
theorem gL{L:List Int}{d i:Nat}(h:cR L d i=5):valueM L d i=(.mk 36 [] 0 [],i+1):=by
 have h0:¬(cR L d i=0\/cR L d i=1):=by omega
 have h1:¬(cR L d i=2):=by omega
 have h2:¬(cR L d i=3\/cR L d i=4):=by omega
 unfold cR at h h0 h1 h2;unfold valueM;simp only[];rw[if_neg h0,if_neg h1,if_neg h2,if_pos h]
theorem rD{L:List Int}{e i:Nat}(h:6<=cR L (e+1) i):valueM L (e+1) i=(.mk (26+cR L (e+1) i-6) [] 0 [(valueM L e (i+1)).1,(valueM L e (valueM L e (i+1)).2).1],(valueM L e (valueM L e (i+1)).2).2):=by
 have h0:¬(cR L (e+1) i=0\/cR L (e+1) i=1):=by omega
 have h1:¬(cR L (e+1) i=2):=by omega
 have h2:¬(cR L (e+1) i=3\/cR L (e+1) i=4):=by omega
 have h3:¬(cR L (e+1) i=5):=by omega
 rw[valueM];have hv:(if e+1=0\/L.length<i+1 then(dH L i 12).tmod 6 else dH L i 12)=cR L (e+1) i:=rfl;rw[hv,if_neg h0,if_neg h1,if_neg h2,if_neg h3]
theorem zC(L:List Int)(i:Nat):(placeM L i).2<=i+3:=by unfold placeM;split<;>simp
theorem zD(L:List Int):∀(d i:Nat),(valueM L d i).2+1<=i+5*2^d:=λd=>by
 induction d with
 |zero=>
  intro i;obtain⟨r0,_,r2⟩:=fL L 0 i;have r2:=r2 rfl;by_cases h0:cR L 0 i=0\/cR L 0 i=1
  ·rw[iZ h0];simp
  ·by_cases h1:cR L 0 i=2
   ·rw[jA h1];simp
   ·by_cases h2:cR L 0 i=3\/cR L 0 i=4
    ·rw[fH h2];have:=zC L (i+1);omega
    ·rw[gL (by omega)];simp
 |succ e ih=>
  intro i;have hp:1<=2^e:=Nat.one_le_two_pow;have h2:2^(e+1)=2*2^e:=by rw[Nat.pow_succ,Nat.mul_comm]
  obtain⟨r0,_,_⟩:=fL L (e+1) i;by_cases h0:cR L (e+1) i=0\/cR L (e+1) i=1
  ·rw[iZ h0];simp only;omega
  ·by_cases h1:cR L (e+1) i=2
   ·rw[jA h1];simp only;omega
   ·by_cases h3:cR L (e+1) i=3\/cR L (e+1) i=4
    ·rw[fH h3];have:=zC L (i+1);omega
    ·by_cases h4:cR L (e+1) i=5
     ·rw[gL h4];simp only;omega
     ·rw[rD (by omega)];have a:=ih (i+1);have b:=ih (valueM L e (i+1)).2;simp only;omega
theorem Bj(L:List Int)(d i:Nat)(hL:Jr L)(hll:L.length<=1000000)(hi:i+5*2^d<=2000000)(ih:∀e,d=e+1->∀j,j+5*2^e<=2000000->iE Tryz.prog 145 [.bx 0 0,.d (aG (e:Nat))] (iB L j) (iB L (valueM L e j).2) (.d (valueM L e j).1.d)):iE Tryz.prog 145 [.bx 0 0,.d (aG (d:Nat))] (iB L i) (iB L (valueM L d i).2) (.d (valueM L d i).1.d):=by
 have h2d:1<=2^d:=Nat.one_le_two_pow;unfold iB;refine eR Tryz.func145 rfl Tryz.ntmps145 Tryz.results145 λw0 X hp=>?_;refine aA ?_;simp;refine aD ?_;have ha:=eN L i 12 hL (by omega) (by decide);refine eF.ro hT hW (λ|8=>some (.gen ⟨[(0,0)],[],[],iB L (i+1),.d (aG (dH L i 12))⟩)|_=>none) ?_;simp;refine⟨by simpa using ha,?_⟩;refine aP (ι:=KC) (λ⟨k⟩=>aO [(0,.bx 0 0),(1,.d (aG (d:Nat))),(4,.bx 4 0),(5,.d (aG k))]) (λ⟨k⟩=>aI [(0,.box false [.d (.sl (L.map aG)),.d (aG ((i+1:Nat):Int))]),(4,.box false [.d (aG 0),.d (.str []),.d (aG 0),.nl])]) (λ⟨k⟩=>cR L d i=k) ?_ λ⟨k⟩ hc4=>?_
 ·refine aD ?_;refine eF.rd [] [] (λ_=>none) ?_;simp;refine aC ?_;simp;refine⟨λh2=>?_,λh2 h2b=>?_⟩
  ·refine aJ ?_;simp;refine UV.mk ⟨(dH L i 12).tmod 6⟩ (aB hp [0,1,4,5] [(0,0),(4,4)]) ?_;unfold cR;rw[if_pos (by omega)]
  ·refine aE ?_;simp;refine UV.mk ⟨dH L i 12⟩ (aB hp [0,1,4,5] [(0,0),(4,4)]) ?_;unfold cR;rw[if_neg (by omega)]
 ·refine aD ?_;refine aA ?_;simp;refine aH ?_;refine aP (ι:=BC) (λ⟨b⟩=>aO [(0,.bx 0 0),(1,.d (aG (d:Nat))),(4,.bx 4 0),(5,.d (aG k)),(25,.d (aG (k))),(26,.d (.bool b))]) (λ⟨b⟩=>aI [(0,.box false [.d (.sl (L.map aG)),.d (aG ((i+1:Nat):Int))]),(4,.box false [.d (aG 0),.d (.str []),.d (aG 0),.nl])]) (λ⟨b⟩=>b=true↔(k=0\/k=1)) ?_ λ⟨b⟩ hc7=>?_
  ·refine aA ?_;simp;refine aC ?_;simp;refine⟨λh5=>?_,λh5=>?_⟩
   ·refine aE ?_;simp;refine UV.mk ⟨decide (k=0)⟩ (aB hp [0,1,4,5,25,26] [(0,0),(4,4)]) ?_;simp[h5]
   ·refine aJ ?_;simp;refine UV.mk ⟨decide (k=1)⟩ (aB hp [0,1,4,5,25,26] [(0,0),(4,4)]) ?_;simp only[decide_eq_true_eq];omega
  ·refine aC ?_;simp;refine⟨λh7=>?_,λh7=>?_⟩
   ·have q7:=hc7.1 h7;refine aD ?_;have ha:=eN L (i+1) 6 hL (by omega) (by decide);have hr:=bP L ((i:Int)+1) 6 (by decide);have hc:=Xq (L:=L) (i:=i+1);simp[numsM]at hc;refine eF.ro hT hW (λ|31=>some (.gen ⟨[(0,0)],[],[],iB L (i+1+1),.d (aG (dH L ((i:Int)+1) 6))⟩)|_=>none) ?_;simp[hc];refine⟨⟨⟨⟨by decide,by simpa using ha⟩,by omega⟩,by omega⟩,?_⟩;refine aF ?_;simp;have e:=iZ (L:=L) (d:=d) (i:=i) (by simp only at hc4;omega);refine aU (x:=(valueM L d i).1.d) (by simp[e,numsM]) ?_;simp;exact aB hp [0] [(0,0)] (hH:=by simp[e])
   ·have q7:¬(k=0\/k=1):=λq=>by simp[hc7.2 q]at h7
    refine aA ?_;simp;refine aC ?_;simp;refine⟨λh8=>?_,λh8=>?_⟩
    ·refine aD ?_;have hc:=zB L (i+1) hL (by omega);refine eF.ro hT hW (λ|38=>some (.gen ⟨[(0,0)],[],[],iB L (i+1+1),.d (.str (ownM L (i+1)))⟩)|_=>none) ?_;simp;refine⟨by simpa using hc,?_⟩;refine aF ?_;simp;have e:=jA (L:=L) (d:=d) (i:=i) (by simp only at hc4;omega);refine aU (x:=(valueM L d i).1.d) (by simp[e]) ?_;simp;exact aB hp [0] [(0,0)] (hH:=by simp[e])
    ·refine aP (ι:=BC) (λ⟨b⟩=>aO [(0,.bx 0 0),(1,.d (aG (d:Nat))),(4,.bx 4 0),(5,.d (aG k)),(25,.d (aG (k))),(40,.d (.bool b))]) (λ⟨b⟩=>aI [(0,.box false [.d (.sl (L.map aG)),.d (aG ((i+1:Nat):Int))]),(4,.box false [.d (aG 0),.d (.str []),.d (aG 0),.nl])]) (λ⟨b⟩=>b=true↔(k=3\/k=4)) ?_ λ⟨b⟩ hc12=>?_
     ·refine aA ?_;simp;refine aC ?_;simp;refine⟨λh10=>?_,λh10=>?_⟩
      ·refine aE ?_;simp;refine UV.mk ⟨decide (k=3)⟩ (aB hp [0,1,4,5,25,40] [(0,0),(4,4)]) ?_;simp[h10]
      ·refine aJ ?_;simp;refine UV.mk ⟨decide (k=4)⟩ (aB hp [0,1,4,5,25,40] [(0,0),(4,4)]) ?_;simp only[decide_eq_true_eq];omega
     ·refine aC ?_;simp;refine⟨λh12=>?_,λh12=>?_⟩
      ·have q12:=hc12.1 h12;refine aD ?_;have hc:=Tu L (i+1) hL (by omega);refine eF.ro hT hW (λ|44=>some (.gen ⟨[(0,0)],[],[],iB L (placeM L (i+1)).2,.d (placeM L (i+1)).1.d⟩)|_=>none) ?_;simp;refine⟨by simpa using hc,?_⟩;refine aF ?_;simp;have e:=fH (L:=L) (d:=d) (i:=i) (by simp only at hc4;omega);refine aU (x:=(valueM L d i).1.d) (by simp[e]) ?_;simp;exact aB hp [0] [(0,0)] (hH:=by simp[e])
      ·have q12:¬(k=3\/k=4):=λq=>by simp[hc12.2 q]at h12
       refine aA ?_;simp;refine aC ?_;simp;refine⟨λh13=>?_,λh13=>?_⟩
       ·refine aA ?_;simp;refine aF ?_;simp;have e:=gL (L:=L) (d:=d) (i:=i) (by simp only at hc4;omega);refine aU (x:=(valueM L d i).1.d) (by simp[e]) ?_;simp;exact aB hp [0] [(0,0)] (hH:=by simp[e])
       ·refine aE ?_;simp;refine aD ?_;have hk6:6<=k/\k<12:=by have:=fL L d i;simp only at hc4;omega
        obtain⟨e,rfl⟩:∃e,d=e+1:=⟨d-1,by have:=fL L d i;simp only at hc4;omega⟩;have hp2:2^(e+1)=2*2^e:=by rw[Nat.pow_succ,Nat.mul_comm]
        have hpe:1<=2^e:=Nat.one_le_two_pow;have hlt:e<2^e:=Nat.lt_two_pow_self;have c1:=ih e rfl (i+1) (by omega);have t1:=zD L e (i+1);have c2:=ih e rfl (valueM L e (i+1)).2 (by omega);have ez:((e:Int)+1)- 1=e:=by omega
        refine eF.ro hT hW (λ|51=>some (.gen ⟨[(0,0)],[],[],iB L (valueM L e (i+1)).2,.d (valueM L e (i+1)).1.d⟩)|_=>none) ?_;simp[ez];refine⟨⟨by omega,by simpa using c1⟩,?_⟩;refine aD ?_;refine eF.rd [[0,60],[0,60],[0,60],[0]] [[],[],[],[],[],[],[],[0],[60],[],[4]] (λ|59=>some (.gen ⟨[(0,0)],[],[],iB L (valueM L e (valueM L e (i+1)).2).2,.d (valueM L e (valueM L e (i+1)).2).1.d⟩)|_=>none) ?_;simp[ez];refine⟨⟨⟨⟨⟨by omega,by omega⟩,by omega⟩,by simpa using c2⟩,by decide⟩,?_⟩;refine aF ?_;simp;have ev:=rD (L:=L) (e:=e) (i:=i) (by simp only at hc4;omega);rw[show cR L (e+1) i=k from hc4]at ev;refine aU (x:=(valueM L (e+1) i).1.d) (by simp[ev]) ?_;simp;exact aB hp [0] [(0,0)] (hH:=by simp[ev])
theorem rE(L:List Int)(hL:Jr L)(hll:L.length<=1000000):∀(d i:Nat),i+5*2^d<=2000000->iE Tryz.prog 145 [.bx 0 0,.d (aG (d:Nat))] (iB L i) (iB L (valueM L d i).2) (.d (valueM L d i).1.d):=λd=>by
 induction d with
 |zero=>exact λi hi=>Bj L 0 i hL hll hi λe he=>by omega
 |succ d ihd=>
  intro i hi;refine Bj L (d+1) i hL hll hi λe he j hj=>?_;have:e=d:=by omega
  subst this;exact ihd j hj
end
section
attribute[local simp] jO.cond Nd.d_eq nd_t nd_dr nd_td ndsD aQ bL kY Int.add_assoc cV Bf Bg Bh Jc iB
def NR(L:List Int)(g:FuncId)(d:Nat)(b:Nat)(x:Nat->Nd×Nat):Prop:=∀j,j<=b->iE Tryz.prog g [.bx 0 0,.d (aG (d:Nat))] (iB L j) (iB L (x j).2) (.d (x j).1.d)
structure Za where
 c:Nat
 ks:List Nd
 j:Nat
theorem Qe{L:List Int}{st:Nat->Nd×Nat}{m:Nat}{ks:List Nd}{j:Nat}(h:m=0\/L.length<=j):somesM L st m ks j=(ks,j):=by
 cases m with
 |zero=>rfl
 |succ m=>
  unfold somesM;rw[if_pos (by omega)]
theorem Tv{L:List Int}{st:Nat->Nd×Nat}{m:Nat}{ks:List Nd}{j:Nat}(h0:0<m)(h:j<L.length):somesM L st m ks j=somesM L st (m-1) (ks++[(st j).1]) (st j).2:=by
 obtain⟨k,rfl⟩:∃k,m=k+1:=⟨m-1,by omega⟩;rw[somesM,if_neg (by omega)];rfl
theorem Mf(L:List Int)(d i:Nat)(st:Nat->Nd×Nat)(hL:Jr L)(hll:L.length<=1000000)(b:Nat)(hi:i<=b)(hb:b<=1800000)(hS:NR L 97 d (b+40000) st)(hle:∀j,(st j).2<=j+10000):iE Tryz.prog 147 [.bx 0 0,.d (aG (d:Nat))] (iB L i) (iB L (someM L st i).2) (.d (someM L st i).1.d):=by
 unfold iB;refine eR Tryz.func147 rfl Tryz.ntmps147 Tryz.results147 λw0 X hp=>?_;refine aA ?_;simp;refine aA ?_;simp;refine gH (fz:=false) (cs:=[.d (aG 8),.d (.str []),.d (aG 0),.nl]) 5 3 1034 4 (by decide) ⟨by simp,by simp,by simp,?_⟩;simp;refine aD ?_;have ha:=eN L i 4 hL (by omega) (by decide);have hr:=bP L i 4 (by decide);obtain⟨n,hn⟩:∃n:Nat,dH L i 4=(n:Int):=⟨(dH L i 4).toNat,by omega⟩;have hsm:someM L st i=(.mk 8 [] 0 (somesM L st n [] (i+1)).1,(somesM L st n [] (i+1)).2):=by unfold someM;simp only[];rw[hn];rfl
 rw[hn]at ha;refine eF.ro hT hW (λ|10=>some (.gen ⟨[(0,0)],[],[],iB L (i+1),.d (aG (n:Nat))⟩)|_=>none) ?_;simp;refine⟨by simpa using ha,?_⟩;refine aD ?_;refine aA ?_;simp;refine aH ?_;refine aR (ι:=Za) (λ⟨c,ks,j⟩=>aO [(0,.bx 0 0),(1,.d (aG (d:Nat))),(4,.bx 4 0),(5,.bx 5 0),(6,.d (aG (n:Nat))),(7,.d (aG (c:Nat)))]) (λ⟨c,ks,j⟩=>aI [(0,.box false [.d (.sl (L.map aG)),.d (aG (j:Nat))]),(4,.box false [.d (aG 0),.d (.str []),.d (aG 0),.nl]),(5,.box false [.d (aG 8),.d (.str []),.d (aG 0),.ow 1034 0 ks.length]),(1034,.row false 4 (ks.map Nd.d))]) (λ⟨c,ks,j⟩=>c<=n/\j<=i+1+c*10000/\ks.length<=c/\somesM L st n [] (i+1)=somesM L st (n-c) ks j) (λ⟨c,ks,j⟩=>n-c) ⟨0,[],i+1⟩ (aB hp [0,1,4,5,6,7] [(0,0),(4,4),(5,5),(1034,1034)]) (⟨Nat.zero_le _,by omega,Nat.le_refl _,rfl⟩) λ⟨c,ks,j⟩ hi4=>?_;refine aD ?_;refine aD ?_;refine eF.rd [] [] (λ_=>none) ?_;simp;refine aC ?_;simp;refine⟨λg1 g2=>?_,λg=>?_⟩
 ·refine aE ?_;simp;refine aD ?_;refine aH ?_;have hs:=hS j (by have:=hi4.2.1;omega);have hkl:=hi4.2.2.1;refine eF.rd [[0,33],[0,33]] [[],[],[],[],[0],[33],[34,1034],[],[5]] (λ|32=>some (.gen ⟨[(0,0)],[],[],iB L (st j).2,.d (st j).1.d⟩)|_=>none) ?_;simp;refine⟨by(repeat' with_reducible apply And.intro)<;>first|omega|(simpa using hs),?_⟩;refine aJ ?_;simp;refine⟨by omega,?_⟩;refine Nf.mk ⟨c+1,ks++[(st j).1],(st j).2⟩ (aB hp [0,1,4,5,6,7] [(0,0),(4,4),(5,5),(34,1034)]) ?_ ?_
  ·refine⟨(show c+1<=n by omega),?_,?_,?_⟩
   ·have:=hle j;show(st j).2<=i+1+(c+1)*10000;omega
   ·show(ks++[(st j).1]).length<=c+1;rw[List.length_append,List.length_singleton];omega
   ·rw[hi4.2.2.2,Tv (by omega) (by omega)];rfl
  ·show n-(c+1)<n-c;omega
 ·refine bA ?_;simp;refine aA ?_;simp;refine aF ?_;simp;have e:someM L st i=(.mk 8 [] 0 ks,j):=by rw[hsm,hi4.2.2.2,Qe (by rcases Nat.lt_or_ge c n with q|q;exact .inr (by have:=g (by omega);omega);exact .inl (by omega))]
  refine aU (x:=(someM L st i).1.d) (by simp[e]) ?_;simp;exact aB hp [0] [(0,0)] (hH:=by simp[e])
structure NdN where
 x:Nd
 j:Nat
def Mg(L:List Int)(d i:Nat):Int:=if d=0/\(9+dH L i 17=11\/9+dH L i 17=12)then 24 else 9+dH L i 17
def uL(L:List Int)(bl:Nat->Nd×Nat)(k:Int)(i:Nat):Nd×Nat:=
 if k=9 then(.mk k (ownM L i) 0 [(valueM L 2 (i+1)).1],(valueM L 2 (i+1)).2)
 else if k=10 then(.mk k [] 0 [(placeM L i).1,(valueM L 2 (placeM L i).2).1],(valueM L 2 (placeM L i).2).2)
 else if k=11\/k=12 then
  (if k=11 then(if dH L (bl (valueM L 1 i).2).2 2=0 then(.mk k [] 0 [(valueM L 1 i).1,(bl (valueM L 1 i).2).1,(bl ((bl (valueM L 1 i).2).2+1)).1],(bl ((bl (valueM L 1 i).2).2+1)).2)else(.mk k [] 0 [(valueM L 1 i).1,(bl (valueM L 1 i).2).1],(bl (valueM L 1 i).2).2+1))
  else(.mk k [] 0 [(valueM L 1 i).1,(bl (valueM L 1 i).2).1],(bl (valueM L 1 i).2).2))
 else if k=13\/k=14\/k=17\/k=18 then(.mk k (callM L i) 0 [],i+1)
 else if k=15\/k=22 then(.mk k (callM L i) 0 [(valueM L 1 (i+1)).1],(valueM L 1 (i+1)).2)
 else if k=16\/k=23 then(.mk k (callM L i) 0 [.mk 33 (ownM L (i+1)) 0 []],i+2)
 else if k=19 then(.mk k (ownM L i) (2+dH L (i+1) 5) [],i+2)
 else if k=20 then(.mk k (ownM L i) 0 [],i+1)
 else if k=21 then(.mk k [] (1+dH L i 9) [],i+1)
 else if k=25 then(.mk k [] (1+dH L i 99) [],i+1)
 else(.mk k [] 0 [(valueM L 2 i).1],(valueM L 2 i).2)
theorem fO{L:List Int}{d i:Nat}{bl:Nat->Nd×Nat}{k:Int}(hk:Mg L d i=k):oneB L d bl i=uL L bl k (i+1):=by subst hk;rfl
theorem sJ{L:List Int}{d i:Nat}{k:Int}(hk:Mg L d i=k):9<=k/\k<=25/\(k=11\/k=12->0<d):=by
 subst hk;have h:=bP L i 17 (by decide);unfold Mg;split<;>omega
theorem VF{c:Prop}[Decidable c]{f:Nat->aV}{l:DV}{a b:Int}{x:Nat}(h:f 0=.box false [.d l,.d (aG b)]):
 bQ f (if c then [(0,.box false [.d l,.d (aG a)])]else []) x=if x=0 then .box false [.d l,.d (aG (if c then a else b))]else f x:=by
 by_cases hc:c
 ·simp only[hc,if_true,bQ,bY]
 ·simp only[hc,if_false,bQ];split
  ·rename_i e;rw[e];exact h
  ·rfl
theorem NS{L:List Int}{d i C:Nat}{bl:Nat->Nd×Nat}(hb:∀j,(bl j).2<=j+C):(oneB L d bl i).2<=i+40+2*C:=by
 rw[fO rfl];have v1:=λj=>zD L 1 j;have v2:=λj=>zD L 2 j;have pl:=zC L (i+1);unfold uL;have a1:=v1 (i+1);have a2:=v1 (i+2);have a3:=v2 (i+1);have a4:=v2 (i+2);have a5:=v2 (placeM L (i+1)).2;have b1:=hb (valueM L 1 (i+1)).2;have b2:=hb ((bl (valueM L 1 (i+1)).2).2+1);simp only[Nat.add_assoc,Nat.reduceAdd,Nat.reducePow,Nat.reduceMul]at*;split
 ·simp only;omega
 ·split
  ·simp only;omega
  ·split
   ·split
    ·split<;>simp only<;>omega
    ·simp only;omega
   ·split
    ·simp only;omega
    ·split
     ·simp only;omega
     ·split
      ·simp only;omega
      ·split
       ·simp only;omega
       ·split
        ·simp only;omega
        ·split
         ·simp only;omega
         ·split<;>simp only<;>omega
theorem FE(L:List Int)(d i:Nat)(bl:Nat->Nd×Nat)(hL:Jr L)(hll:L.length<=1000000)(m:Nat)(hi:i<=m)(hm:m<=1800000)(hd:d<=1000)(hB:∀e,d=e+1->NR L 147 e (m+30000) bl)(hle:∀j,(bl j).2<=j+20000):iE Tryz.prog 97 [.bx 0 0,.d (aG (d:Nat))] (iB L i) (iB L (oneB L d bl i).2) (.d (oneB L d bl i).1.d):=by
 unfold iB;refine eR Tryz.func97 rfl Tryz.ntmps97 Tryz.results97 λw0 X hp=>?_;refine aA ?_;simp;refine aD ?_;have ha:=eN L i 17 hL (by omega) (by decide);have hr:=bP L i 17 (by decide);refine eF.ro hT hW (λ|8=>some (.gen ⟨[(0,0)],[],[],iB L (i+1),.d (aG (dH L i 17))⟩)|_=>none) ?_;simp;refine⟨by(repeat' with_reducible apply And.intro)<;>first|omega|(simpa using ha),?_⟩;refine aP (ι:=KC) (λ⟨k⟩=>aO [(0,.bx 0 0),(1,.d (aG (d:Nat))),(4,.bx 4 0),(5,.bx 5 0)]) (λ⟨k⟩=>aI [(0,.box false [.d (.sl (L.map aG)),.d (aG ((i+1:Nat):Int))]),(4,.box false [.d (aG 0),.d (.str []),.d (aG 0),.nl]),(5,.box false [.d (aG k),.d (.str []),.d (aG 0),.nl])]) (λ⟨k⟩=>Mg L d i=k) ?_ λ⟨k⟩ hc4=>?_
 ·refine aA ?_;simp;refine⟨λa b=>⟨a,b⟩,?_⟩;refine aC ?_;simp;refine⟨λg1 g2=>?_,λg=>?_⟩
  ·refine aJ ?_;simp;refine UV.mk ⟨24⟩ (aB hp [0,1,4,5] [(0,0),(4,4),(5,5)]) ?_;unfold Mg;rw[if_pos ⟨by omega,by omega⟩]
  ·refine aE ?_;simp;refine UV.mk ⟨9+dH L i 17⟩ (aB hp [0,1,4,5] [(0,0),(4,4),(5,5)]) ?_;unfold Mg;rw[if_neg (by omega)]
 ·refine aP (ι:=NdN) (λ⟨x,j⟩=>aO [(0,.bx 0 0),(1,.d (aG (d:Nat))),(4,.bx 4 0),(5,.bx 5 0)]) (λ⟨x,j⟩=>aI [(0,.box false [.d (.sl (L.map aG)),.d (aG (j:Nat))]),(4,.box false [.d (aG 0),.d (.str []),.d (aG 0),.nl]),(5,.box false [.d (aG x.kind),.d (.str x.text),.d (aG x.n),.d (ndsD x.kids)])]) (λ⟨x,j⟩=>oneB L d bl i=(x,j)) ?_ λ⟨x,j⟩ hc41=>?_
  ·refine aA ?_;simp;refine aH ?_;refine aA ?_;simp;refine aC ?_;simp;refine⟨λh5=>?_,λh5=>?_⟩
   ·refine aD ?_;have hc6:=zB L (i+1) hL (by omega);refine eF.ro hT hW (λ|29=>some (.gen ⟨[(0,0)],[],[],iB L (i+2),.d (.str (ownM L (i+1)))⟩)|_=>none) ?_;simp;refine⟨by simpa using hc6,?_⟩;have hv:=rE L hL hll 2 (i+2) (by omega);refine eF.ro hT hW (λ|32=>some (.gen ⟨[(0,0)],[],[],iB L (valueM L 2 (i+2)).2,.d (valueM L 2 (i+2)).1.d⟩)|_=>none) ?_;simp;refine⟨by simpa using hv,?_⟩;refine gG (bJ 5 [33] (fz:=false) (cs:=[.d (aG k),.d (.str (ownM L (i+1))),.d (aG (0)),.ow 33 0 1]) (ds:=[aG k,.str (ownM L (i+1)),aG (0),.sl [((valueM L 2 (i+2)).1).d]]) (by simp) (by simp) (by simp) (by simp[aV.mut])) ?_;simp;refine UV.mk ⟨.mk k (ownM L (i+1)) (0) [(valueM L 2 (i+2)).1],(valueM L 2 (i+2)).2⟩ (aB hp [0,1,4,5] [(0,0),(4,4),(5,5)]) ?_;rw[fO hc4];unfold uL;repeat(first|rw[if_pos (by omega)]|rw[if_neg (by omega)])
   ·refine aA ?_;simp;refine aC ?_;simp;refine⟨λh8=>?_,λh8=>?_⟩
    ·refine aD ?_;have hpl:=Tu L (i+1) hL (by omega);have tpl:=zC L (i+1);refine eF.ro hT hW (λ|38=>some (.gen ⟨[(0,0)],[],[],iB L (placeM L (i+1)).2,.d (placeM L (i+1)).1.d⟩)|_=>none) ?_;simp;refine⟨by simpa using hpl,?_⟩;have hv:=rE L hL hll 2 (placeM L (i+1)).2 (by omega);refine eF.rd [[0]] [[],[],[0],[42],[],[5]] (λ|41=>some (.gen ⟨[(0,0)],[],[],iB L (valueM L 2 (placeM L (i+1)).2).2,.d (valueM L 2 (placeM L (i+1)).2).1.d⟩)|_=>none) ?_;simp;refine⟨⟨by simpa using hv,by decide⟩,?_⟩;refine gG (bJ 5 [42] (fz:=false) (cs:=[.d (aG k),.d (.str ([])),.d (aG (0)),.ow 42 0 2]) (ds:=[aG k,.str ([]),aG (0),.sl [((placeM L (i+1)).1).d,((valueM L 2 (placeM L (i+1)).2).1).d]]) (by simp) (by simp) (by simp) (by simp[aV.mut])) ?_;simp;refine UV.mk ⟨.mk k ([]) (0) [(placeM L (i+1)).1,(valueM L 2 (placeM L (i+1)).2).1],(valueM L 2 (placeM L (i+1)).2).2⟩ (aB hp [0,1,4,5] [(0,0),(4,4),(5,5)]) ?_;rw[fO hc4];unfold uL;repeat(first|rw[if_pos (by omega)]|rw[if_neg (by omega)])
    ·refine aP (ι:=BC) (λ⟨b⟩=>aO [(0,.bx 0 0),(1,.d (aG (d:Nat))),(4,.bx 4 0),(5,.bx 5 0),(25,.d (aG (k))),(44,.d (.bool b))]) (λ⟨b⟩=>aI [(0,.box false [.d (.sl (L.map aG)),.d (aG ((i+1:Nat):Int))]),(4,.box false [.d (aG 0),.d (.str []),.d (aG 0),.nl]),(5,.box false [.d (aG k),.d (.str []),.d (aG 0),.nl])]) (λ⟨b⟩=>b=true↔(k=11\/k=12)) ?_ λ⟨b⟩ hc13=>?_
     ·refine aA ?_;simp;refine aC ?_;simp;refine⟨λh11=>?_,λh11=>?_⟩
      ·refine aE ?_;simp;refine UV.mk ⟨decide (k=11)⟩ (aB hp [0,1,4,5,25,44] [(0,0),(4,4),(5,5)]) ?_;simp[h11]
      ·refine aJ ?_;simp;refine UV.mk ⟨decide (k=12)⟩ (aB hp [0,1,4,5,25,44] [(0,0),(4,4),(5,5)]) ?_;simp only[decide_eq_true_eq];omega
     ·refine aC ?_;simp;refine⟨λh13=>?_,λh13=>?_⟩
      ·have q13:=hc13.1 h13;refine aD ?_;obtain⟨e,hde⟩:∃e,d=e+1:=⟨d-1,by have:=(sJ hc4).2.2 q13;omega⟩;have hBe:=hB e hde;subst hde;have hv:=rE L hL hll 1 (i+1) (by omega);have tv:=zD L 1 (i+1);obtain⟨a,ha1⟩:∃a,a=valueM L 1 (i+1):=⟨_,rfl⟩;rw[<-ha1]at hv tv;have hs1:=hBe a.2 (by omega);obtain⟨b,hb1⟩:∃b,b=bl a.2:=⟨_,rfl⟩;have tb:=hle a.2;rw[<-hb1]at hs1 tb;have hs2:=hBe (b.2+1) (by omega);obtain⟨c,hc1⟩:∃c,c=bl (b.2+1):=⟨_,rfl⟩;rw[<-hc1]at hs2;have ht2:=eN L b.2 2 hL (by omega) (by decide);have ez:((e:Int)+1)- 1=e:=by omega
       refine eF.ro hT hW (λ|48=>some (.gen ⟨[(0,0)],[],[],iB L a.2,.d a.1.d⟩)|_=>none) ?_;simp;refine⟨by simpa using hv,?_⟩;refine aD ?_;refine eF.rd [[0,57],[0,57]] [[],[],[],[],[],[0],[57],[58,49],[],[5]] (λ|56=>some (.gen ⟨[(0,0)],[],[],iB L b.2,.d b.1.d⟩)|_=>none) ?_;simp[ez];refine⟨by(repeat' with_reducible apply And.intro)<;>first|omega|(simpa using hs1)|decide,?_⟩;refine aX hT hW (λ|65=>some (.gen ⟨[(0,0)],[],[],iB L (b.2+1),.d (aG (dH L b.2 2))⟩)|_=>none) ?_;simp[VF (b:=(b.2:Int))];refine⟨λ_=>by simpa using ht2,?_⟩;refine aC ?_;simp;refine⟨λg3 g4=>?_,λg3=>?_⟩
       ·simp only[if_pos g3];refine eF.rd [[0,74],[0,74]] [[],[],[],[],[],[0],[74],[75,58],[],[5]] (λ|73=>some (.gen ⟨[(0,0)],[],[],iB L c.2,.d c.1.d⟩)|_=>none) ?_;simp[ez];refine⟨by(repeat' with_reducible apply And.intro)<;>first|omega|(simpa using hs2)|decide,?_⟩;refine gG (bJ 5 [75] (fz:=false) (cs:=[.d (aG k),.d (.str ([])),.d (aG (0)),.ow 75 0 3]) (ds:=[aG k,.str ([]),aG (0),.sl [(a.1).d,(b.1).d,(c.1).d]]) (by simp) (by simp) (by simp) (by simp[aV.mut])) ?_;simp;refine UV.mk ⟨.mk k ([]) (0) [a.1,b.1,c.1],c.2⟩ (aB hp [0,1,4,5] [(0,0),(4,4),(5,5)] (hH:=by simp[g3])) ?_;rw[fO hc4];unfold uL;rw[<-ha1,<-hb1,<-hc1,if_neg (by omega),if_neg (by omega),if_pos (by omega),if_pos g3,if_pos g4]
       ·refine aE ?_;simp;refine gG (bJ 5 [58] (fz:=false) (cs:=[.d (aG k),.d (.str ([])),.d (aG (0)),.ow 58 0 2]) (ds:=[aG k,.str ([]),aG (0),.sl [(a.1).d,(b.1).d]]) (by simp) (by simp) (by simp) (by simp[aV.mut])) ?_;simp;refine UV.mk ⟨.mk k ([]) (0) [a.1,b.1],if k=11 then b.2+1 else b.2⟩ (aB hp [0,1,4,5] [(0,0),(4,4),(5,5)] (hH:=by by_cases hk:k=11<;>simp[hk])) ?_;rw[fO hc4];unfold uL;rw[<-ha1,<-hb1];by_cases hk:k=11
        ·rw[if_neg (by omega),if_neg (by omega),if_pos (by omega),if_pos hk,if_neg (g3 hk)];simp[hk]
        ·rw[if_neg (by omega),if_neg (by omega),if_pos (by omega),if_neg hk];simp[hk]
      ·have q13:¬(k=11\/k=12):=λq=>by simp[hc13.2 q]at h13
       refine aP (ι:=BC) (λ⟨b⟩=>aO [(0,.bx 0 0),(1,.d (aG (d:Nat))),(4,.bx 4 0),(5,.bx 5 0),(25,.d (aG (k))),(77,.d (.bool b))]) (λ⟨b⟩=>aI [(0,.box false [.d (.sl (L.map aG)),.d (aG ((i+1:Nat):Int))]),(4,.box false [.d (aG 0),.d (.str []),.d (aG 0),.nl]),(5,.box false [.d (aG k),.d (.str []),.d (aG 0),.nl])]) (λ⟨b⟩=>b=true↔(k=13\/k=14\/k=17\/k=18)) ?_ λ⟨b⟩ hc21=>?_
       ·refine aA ?_;simp;refine aC ?_;simp;refine⟨λh17=>?_,λh17=>?_⟩
        ·refine aE ?_;simp;refine UV.mk ⟨decide (k=13)⟩ (aB hp [0,1,4,5,25,77] [(0,0),(4,4),(5,5)]) ?_;simp[h17]
        ·refine aA ?_;simp;refine aC ?_;simp;refine⟨λh18=>?_,λh18=>?_⟩
         ·refine aE ?_;simp;refine UV.mk ⟨decide (k=14)⟩ (aB hp [0,1,4,5,25,77] [(0,0),(4,4),(5,5)]) ?_;simp[h18]
         ·refine aA ?_;simp;refine aC ?_;simp;refine⟨λh19=>?_,λh19=>?_⟩
          ·refine aE ?_;simp;refine UV.mk ⟨decide (k=17)⟩ (aB hp [0,1,4,5,25,77] [(0,0),(4,4),(5,5)]) ?_;simp[h19]
          ·refine aJ ?_;simp;refine UV.mk ⟨decide (k=18)⟩ (aB hp [0,1,4,5,25,77] [(0,0),(4,4),(5,5)]) ?_;simp only[decide_eq_true_eq];omega
       ·refine aC ?_;simp;refine⟨λh21=>?_,λh21=>?_⟩
        ·have q21:=hc21.1 h21;have hc6:=iP L (i+1) hL (by omega);refine eF.ro hT hW (λ|83=>some (.gen ⟨[(0,0)],[],[],iB L (i+2),.d (.str (callM L (i+1)))⟩)|_=>none) ?_;simp;refine⟨by simpa using hc6,?_⟩;refine gG (bJ 5 [] (fz:=false) (cs:=[.d (aG k),.d (.str (callM L (i+1))),.d (aG (0)),.nl]) (ds:=[aG k,.str (callM L (i+1)),aG (0),.sl []]) (by simp) (by simp) (by simp) (by simp[aV.mut])) ?_;simp;refine UV.mk ⟨.mk k (callM L (i+1)) (0) [],i+2⟩ (aB hp [0,1,4,5] [(0,0),(4,4),(5,5)]) ?_;rw[fO hc4];unfold uL;repeat(first|rw[if_pos (by omega)]|rw[if_neg (by omega)])
        ·have q21:¬(k=13\/k=14\/k=17\/k=18):=λq=>by simp[hc21.2 q]at h21
         refine aP (ι:=BC) (λ⟨b⟩=>aO [(0,.bx 0 0),(1,.d (aG (d:Nat))),(4,.bx 4 0),(5,.bx 5 0),(25,.d (aG (k))),(85,.d (.bool b))]) (λ⟨b⟩=>aI [(0,.box false [.d (.sl (L.map aG)),.d (aG ((i+1:Nat):Int))]),(4,.box false [.d (aG 0),.d (.str []),.d (aG 0),.nl]),(5,.box false [.d (aG k),.d (.str []),.d (aG 0),.nl])]) (λ⟨b⟩=>b=true↔(k=15\/k=22)) ?_ λ⟨b⟩ hc24=>?_
         ·refine aA ?_;simp;refine aC ?_;simp;refine⟨λh22=>?_,λh22=>?_⟩
          ·refine aE ?_;simp;refine UV.mk ⟨decide (k=15)⟩ (aB hp [0,1,4,5,25,85] [(0,0),(4,4),(5,5)]) ?_;simp[h22]
          ·refine aJ ?_;simp;refine UV.mk ⟨decide (k=22)⟩ (aB hp [0,1,4,5,25,85] [(0,0),(4,4),(5,5)]) ?_;simp only[decide_eq_true_eq];omega
         ·refine aC ?_;simp;refine⟨λh24=>?_,λh24=>?_⟩
          ·have q24:=hc24.1 h24;refine aD ?_;have hc6:=iP L (i+1) hL (by omega);refine eF.ro hT hW (λ|89=>some (.gen ⟨[(0,0)],[],[],iB L (i+2),.d (.str (callM L (i+1)))⟩)|_=>none) ?_;simp;refine⟨by simpa using hc6,?_⟩;have hv:=rE L hL hll 1 (i+2) (by omega);refine eF.ro hT hW (λ|92=>some (.gen ⟨[(0,0)],[],[],iB L (valueM L 1 (i+2)).2,.d (valueM L 1 (i+2)).1.d⟩)|_=>none) ?_;simp;refine⟨by simpa using hv,?_⟩;refine gG (bJ 5 [93] (fz:=false) (cs:=[.d (aG k),.d (.str (callM L (i+1))),.d (aG (0)),.ow 93 0 1]) (ds:=[aG k,.str (callM L (i+1)),aG (0),.sl [((valueM L 1 (i+2)).1).d]]) (by simp) (by simp) (by simp) (by simp[aV.mut])) ?_;simp;refine UV.mk ⟨.mk k (callM L (i+1)) (0) [(valueM L 1 (i+2)).1],(valueM L 1 (i+2)).2⟩ (aB hp [0,1,4,5] [(0,0),(4,4),(5,5)]) ?_;rw[fO hc4];unfold uL;repeat(first|rw[if_pos (by omega)]|rw[if_neg (by omega)])
          ·have q24:¬(k=15\/k=22):=λq=>by simp[hc24.2 q]at h24
           refine aP (ι:=BC) (λ⟨b⟩=>aO [(0,.bx 0 0),(1,.d (aG (d:Nat))),(4,.bx 4 0),(5,.bx 5 0),(25,.d (aG (k))),(95,.d (.bool b))]) (λ⟨b⟩=>aI [(0,.box false [.d (.sl (L.map aG)),.d (aG ((i+1:Nat):Int))]),(4,.box false [.d (aG 0),.d (.str []),.d (aG 0),.nl]),(5,.box false [.d (aG k),.d (.str []),.d (aG 0),.nl])]) (λ⟨b⟩=>b=true↔(k=16\/k=23)) ?_ λ⟨b⟩ hc28=>?_
           ·refine aA ?_;simp;refine aC ?_;simp;refine⟨λh26=>?_,λh26=>?_⟩
            ·refine aE ?_;simp;refine UV.mk ⟨decide (k=16)⟩ (aB hp [0,1,4,5,25,95] [(0,0),(4,4),(5,5)]) ?_;simp[h26]
            ·refine aJ ?_;simp;refine UV.mk ⟨decide (k=23)⟩ (aB hp [0,1,4,5,25,95] [(0,0),(4,4),(5,5)]) ?_;simp only[decide_eq_true_eq];omega
           ·refine aC ?_;simp;refine⟨λh28=>?_,λh28=>?_⟩
            ·have q28:=hc28.1 h28;refine aD ?_;have hc6:=iP L (i+1) hL (by omega);refine eF.ro hT hW (λ|99=>some (.gen ⟨[(0,0)],[],[],iB L (i+2),.d (.str (callM L (i+1)))⟩)|_=>none) ?_;simp;refine⟨by simpa using hc6,?_⟩;have hc7:=zB L (i+2) hL (by omega);refine eF.ro hT hW (λ|102=>some (.gen ⟨[(0,0)],[],[],iB L (i+3),.d (.str (ownM L (i+2)))⟩)|_=>none) ?_;simp;refine⟨by simpa using hc7,?_⟩;refine gG (bJ 5 [104] (fz:=false) (cs:=[.d (aG k),.d (.str (callM L (i+1))),.d (aG (0)),.ow 104 0 1]) (ds:=[aG k,.str (callM L (i+1)),aG (0),.sl [(Nd.mk 33 (ownM L (i+2)) 0 []).d]]) (by simp) (by simp) (by simp) (by simp[aV.mut])) ?_;simp;refine UV.mk ⟨.mk k (callM L (i+1)) (0) [Nd.mk 33 (ownM L (i+2)) 0 []],i+3⟩ (aB hp [0,1,4,5] [(0,0),(4,4),(5,5)]) ?_;rw[fO hc4];unfold uL;repeat(first|rw[if_pos (by omega)]|rw[if_neg (by omega)])
            ·have q28:¬(k=16\/k=23):=λq=>by simp[hc28.2 q]at h28
             refine aA ?_;simp;refine aC ?_;simp;refine⟨λh30=>?_,λh30=>?_⟩
             ·refine aD ?_;have hc6:=zB L (i+1) hL (by omega);refine eF.ro hT hW (λ|109=>some (.gen ⟨[(0,0)],[],[],iB L (i+2),.d (.str (ownM L (i+1)))⟩)|_=>none) ?_;simp;refine⟨by simpa using hc6,?_⟩;have hc7:=eN L (i+2) 5 hL (by omega) (by decide);have hr7:=bP L ((i:Int)+2) 5 (by decide);refine eF.ro hT hW (λ|112=>some (.gen ⟨[(0,0)],[],[],iB L (i+3),.d (aG (dH L ((i:Int)+2) 5))⟩)|_=>none) ?_;simp;refine⟨⟨by simpa using hc7,by omega⟩,?_⟩;refine gG (bJ 5 [] (fz:=false) (cs:=[.d (aG k),.d (.str (ownM L (i+1))),.d (aG (2+dH L ((i:Int)+2) 5)),.nl]) (ds:=[aG k,.str (ownM L (i+1)),aG (2+dH L ((i:Int)+2) 5),.sl []]) (by simp) (by simp) (by simp) (by simp[aV.mut])) ?_;simp;refine UV.mk ⟨.mk k (ownM L (i+1)) (2+dH L ((i:Int)+2) 5) [],i+3⟩ (aB hp [0,1,4,5] [(0,0),(4,4),(5,5)]) ?_;rw[fO hc4];unfold uL;repeat(first|rw[if_pos (by omega)]|rw[if_neg (by omega)])
              simp
             ·refine aA ?_;simp;refine aC ?_;simp;refine⟨λh33=>?_,λh33=>?_⟩
              ·have hc6:=zB L (i+1) hL (by omega);refine eF.ro hT hW (λ|118=>some (.gen ⟨[(0,0)],[],[],iB L (i+2),.d (.str (ownM L (i+1)))⟩)|_=>none) ?_;simp;refine⟨by simpa using hc6,?_⟩;refine gG (bJ 5 [] (fz:=false) (cs:=[.d (aG k),.d (.str (ownM L (i+1))),.d (aG (0)),.nl]) (ds:=[aG k,.str (ownM L (i+1)),aG (0),.sl []]) (by simp) (by simp) (by simp) (by simp[aV.mut])) ?_;simp;refine UV.mk ⟨.mk k (ownM L (i+1)) (0) [],i+2⟩ (aB hp [0,1,4,5] [(0,0),(4,4),(5,5)]) ?_;rw[fO hc4];unfold uL;repeat(first|rw[if_pos (by omega)]|rw[if_neg (by omega)])
              ·refine aA ?_;simp;refine aC ?_;simp;refine⟨λh35=>?_,λh35=>?_⟩
               ·have hc7:=eN L (i+1) 9 hL (by omega) (by decide);have hr7:=bP L ((i:Int)+1) 9 (by decide);refine eF.ro hT hW (λ|123=>some (.gen ⟨[(0,0)],[],[],iB L (i+2),.d (aG (dH L ((i:Int)+1) 9))⟩)|_=>none) ?_;simp;refine⟨⟨by simpa using hc7,by omega⟩,?_⟩;refine gG (bJ 5 [] (fz:=false) (cs:=[.d (aG k),.d (.str ([])),.d (aG (1+dH L ((i:Int)+1) 9)),.nl]) (ds:=[aG k,.str ([]),aG (1+dH L ((i:Int)+1) 9),.sl []]) (by simp) (by simp) (by simp) (by simp[aV.mut])) ?_;simp;refine UV.mk ⟨.mk k ([]) (1+dH L ((i:Int)+1) 9) [],i+2⟩ (aB hp [0,1,4,5] [(0,0),(4,4),(5,5)]) ?_;rw[fO hc4];unfold uL;repeat(first|rw[if_pos (by omega)]|rw[if_neg (by omega)])
                simp
               ·refine aA ?_;simp;refine aC ?_;simp;refine⟨λh37=>?_,λh37=>?_⟩
                ·have hc7:=eN L (i+1) 99 hL (by omega) (by decide);have hr7:=bP L ((i:Int)+1) 99 (by decide);refine eF.ro hT hW (λ|129=>some (.gen ⟨[(0,0)],[],[],iB L (i+2),.d (aG (dH L ((i:Int)+1) 99))⟩)|_=>none) ?_;simp;refine⟨⟨by simpa using hc7,by omega⟩,?_⟩;refine gG (bJ 5 [] (fz:=false) (cs:=[.d (aG k),.d (.str ([])),.d (aG (1+dH L ((i:Int)+1) 99)),.nl]) (ds:=[aG k,.str ([]),aG (1+dH L ((i:Int)+1) 99),.sl []]) (by simp) (by simp) (by simp) (by simp[aV.mut])) ?_;simp;refine UV.mk ⟨.mk k ([]) (1+dH L ((i:Int)+1) 99) [],i+2⟩ (aB hp [0,1,4,5] [(0,0),(4,4),(5,5)]) ?_;rw[fO hc4];unfold uL;repeat(first|rw[if_pos (by omega)]|rw[if_neg (by omega)])
                 simp
                ·refine aD ?_;have hk24:k=24:=by have:=sJ hc4;omega
                 subst hk24;refine aJ ?_;simp;refine aC ?_;simp;have hv:=rE L hL hll 2 (i+1) (by omega);refine eF.ro hT hW (λ|135=>some (.gen ⟨[(0,0)],[],[],iB L (valueM L 2 (i+1)).2,.d (valueM L 2 (i+1)).1.d⟩)|_=>none) ?_;simp;refine⟨by simpa using hv,?_⟩;refine gG (bJ 5 [136] (fz:=false) (cs:=[.d (aG 24),.d (.str ([])),.d (aG (0)),.ow 136 0 1]) (ds:=[aG 24,.str ([]),aG (0),.sl [((valueM L 2 (i+1)).1).d]]) (by simp) (by simp) (by simp) (by simp[aV.mut])) ?_;simp;refine UV.mk ⟨.mk 24 ([]) (0) [(valueM L 2 (i+1)).1],(valueM L 2 (i+1)).2⟩ (aB hp [0,1,4,5] [(0,0),(4,4),(5,5)]) ?_;rw[fO hc4];unfold uL;repeat(first|rw[if_pos (by omega)]|rw[if_neg (by omega)])
  ·refine aA ?_;simp;refine aF ?_;simp;refine aU (x:=(oneB L d bl i).1.d) (by simp[hc41]) ?_;simp;exact aB hp [0] [(0,0)] (hH:=by simp[hc41])
theorem Js{L:List Int}{st:Nat->Nd×Nat}{C:Nat}(h:∀j,(st j).2<=j+C):∀(m:Nat) (ks:List Nd) (j:Nat),(somesM L st m ks j).2<=j+m*C
 |0,ks,j=>by simp[somesM]
 |m+1,ks,j=>by
  unfold somesM;split
  ·simp
  ·have a:=Js (L:=L) h m (ks++[(st j).1]) (st j).2;have b:=h j;rw[Nat.succ_mul];omega
theorem NT{L:List Int}{st:Nat->Nd×Nat}{C:Nat}(h:∀j,(st j).2<=j+C)(i:Nat):(someM L st i).2<=i+1+3*C:=by
 have hr:=bP L i 4 (by decide);have a:=Js (L:=L) h (dH L i 4).toNat [] (i+1);have b:(dH L i 4).toNat*C<=3*C:=Nat.mul_le_mul_right C (by omega);show(somesM L st (dH L i 4).toNat [] (i+1)).2<=_;omega
def Dv:Nat->Nat
 |0=>40
 |d+1=>40+2*(1+3*Dv d)
theorem GY(L:List Int):∀d i,(oneM L d i).2<=i+Dv d
 |0,i=>by
  have h:∀j:Nat,((λ_=>default:Nat->Nd×Nat) j).2<=j+0:=λj=>Nat.zero_le _;have:=NS (L:=L) (d:=0) (i:=i) h;rw[oneM];simp only[Dv];omega
 |d+1,i=>by
  have h:=λj=>NT (L:=L) (GY L d) j;have:=NS (L:=L) (d:=d+1) (i:=i) (bl:=someM L (oneM L d)) (C:=1+3*Dv d) λj=>by have:=h j;omega
  rw[oneM];simp only[Dv];omega
theorem Jt{d:Nat}(h:d<=2):Dv d<=2000:=by
 have:∀d:Nat,d<3->Dv d<=2000:=by decide
 exact this d (by omega)
theorem NU(L:List Int)(hL:Jr L)(hll:L.length<=1000000):∀(d:Nat),d<=2->∀b,b+70000*d<=1800000->NR L 97 d b (oneM L d)
 |0,_,b,hb=>λj hj=>FE L 0 j (λ_=>default) hL hll b hj (by omega) (by omega) (λe he=>by omega) λj=>by show 0<=j+20000;omega
 |d+1,hd,b,hb=>λj hj=>by
  have hst:=Jt (d:=d) (by omega);have hle:=λj=>NT (L:=L) (GY L d) j;obtain⟨c,hc⟩:∃c,c=b+30000:=⟨_,rfl⟩;have h1:=NU L hL hll d (by omega) (c+40000) (by omega);have h2:NR L 147 d c (someM L (oneM L d)):=λi hi=>Mf L d i (oneM L d) hL hll c hi (by omega) h1 λj=>by have:=GY L d j;omega
  refine FE L (d+1) j (someM L (oneM L d)) hL hll b hj (by omega) (by omega) (λe he=>?_) λj=>?_
  ·have:e=d:=(by omega);rw[this,<-hc];exact h2
  ·have:=hle j;omega
end
end Go.Eng
