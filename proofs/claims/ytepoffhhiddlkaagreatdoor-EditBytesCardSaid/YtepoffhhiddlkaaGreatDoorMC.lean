/- Part 3 of the proof. No condition. -/
import Derived.Test.YtepoffhhiddlkaaGreatDoorMB
import Derived.Laws.MakeOwn
import Derived.Lib.SliceRun
import Derived.Lib.AppendZerosOnto
import Derived.Lib.Overlaps
import Derived.CallsIn
import Derived.OwnWalkIn
import Derived.RangeFuncLeaves
import Derived.RangeFuncRecord
set_option linter.unusedVariables false
set_option linter.unusedSimpArgs false
set_option maxRecDepth 20000
set_option maxHeartbeats 4000000
namespace Go.Eng
section
open Go.RowKit
section
variable{P:Program} {T:TypeId->eC} {w0:cX} {X:Nat->Prop} {H:Nat->aV} {β:Nat->Option Nat} {w:World} {a:Act} {o:Oper} {g:Operand->LV} {E:Nat->Prop}
theorem IF{s:Nat}{xs ys:List DV}{k:Nat}(hall:∀x∈xs,(aK x).length=s)(hys:∀y∈ys,(aK y).length=s)(hk:k+ys.length<=xs.length):bB (aQ k xs ys)=aQ (k*s) (bB xs) (bB ys):=by
 unfold aQ;rw[gV,gV,iA hall,tJ hall,flat_len hys,Nat.add_mul]
theorem cV.writeRow(m:cV w0 X H β w){id b s:Nat}{xs:List DV}{cur:Array Value}{e:TypeId}(hH:H id=.row false s xs)(hb:β id=some b)(hblk:w.heap[b]? =some (.cells cur e (0,0))){k:Nat}{ys:List DV}{news:List Value}
 (hys:∀y∈ys,(aK y).length=s)(hk:k+ys.length<=xs.length)(hnl:news.length=ys.length*s)(h1:∀u∈news,u.oneCell'=true)
 (hp:∀(i:Nat) (d:DV) (u:Value),(bB ys)[i]? =some d->news[i]? =some u->RD w (Ex X β H) d u):
 cV w0 X (bU H id (.row false s (aQ k xs ys))) β (w.setRow b (aQ (k*s) cur.toList news).toArray)/\eY X H β w (bU H id (.row false s (aQ k xs ys))) β (w.setRow b (aQ (k*s) cur.toList news).toArray)/\
  k*s+news.length<=cur.size/\(w.setRow b (aQ (k*s) cur.toList news).toArray).heap[b]? =some (.cells (aQ (k*s) cur.toList news).toArray e (0,0))/\(aQ (k*s) cur.toList news).toArray.size=cur.size:=by
 have hob:=m.obj id;simp only[cP,hH]at hob;obtain⟨hpos,hall,hob⟩:=hob;rcases hob with⟨hnone,_⟩|⟨b',e'',cur',hb',hblk',hlen',hpo⟩
 ·rw[hnone]at hb;cases hb
 rw[hb]at hb';injection hb' with hb';subst hb'
 rw[hblk]at hblk';injection hblk' with hblk';injection hblk' with p1 p2;subst p1;subst p2
 have hfit:k*s+ys.length*s<=cur.size:=by
  rw[<-Nat.add_mul];exact Nat.le_trans (Nat.mul_le_mul_right _ hk) hlen'
 have hcs:cur.toList.length=cur.size:=by simp
 have hpl:(aQ (k*s) cur.toList news).toArray.size=cur.size:=by rw[List.size_toArray,dI (by omega)];exact hcs
 have hxl:(aQ k xs ys).length=xs.length:=dI hk;have hfl:=flat_len hall;have hfy:=flat_len hys;have:=m.rewrite (id:=id) (b:=b) (o':=.row false s (aQ k xs ys)) (cur':=(aQ (k*s) cur.toList news).toArray) (by rw[hH];rfl) hb hblk hpl
  (.inr ⟨_,_,_,hH,rfl,by rw[hxl];exact Nat.le_refl _⟩) (λhD _=>by
    unfold cP;rw[aM];refine⟨hpos,vQ hall hys,.inr ⟨b,e,_,hb,setRow_heap w b _ _ e (0,0) hblk,by rw[hpl,hxl];exact hlen',λi d v hd hv=>?_⟩⟩;rw[IF hall hys hk,eT (by rw[hfl,hfy,<-Nat.add_mul];exact Nat.mul_le_mul_right _ hk),hfy]at hd;simp only[List.getElem?_toArray]at hv;rw[eT (by omega),hnl]at hv;split at hd
    ·rename_i h;rw[if_pos h]at hv;have:=hpo i d v hd (by simpa using hv);exact⟨this.1,hD _ _ this.2⟩
    ·rename_i h;rw[if_neg h]at hv;split at hd
     ·rename_i h';rw[if_pos h']at hv;exact⟨h1 v (List.mem_of_getElem? hv),hD _ _ (hp _ d v hd hv)⟩
     ·rename_i h';rw[if_neg h']at hv;have:=hpo i d v hd (by simpa using hv);exact⟨this.1,hD _ _ this.2⟩)
 exact⟨this.1,this.2,by omega,setRow_heap w b _ _ e (0,0) hblk,hpl⟩
theorem qA{id:Nat}{o':aV}(h:H id=o'):bU H id o'=H:=by
 funext j;unfold bU;split
 ·rename_i e;rw[e,h]
 ·rfl
theorem pG{α:Type}{k:Nat}{xs:List α}:aQ k xs []=xs:=by simp[aQ]
theorem lQ(m:cV w0 X H β w){id k n s:Nat}{fz:Bool}{xs:List DV}{v:Value}(hH:H id=.row fz s xs)(hr:R w (Ex X β H) β H (.ow id k n) v):
 (∃b c cur e,v=.slice (some ⟨b,k*s,none⟩) n c/\β id=some b/\k+n<=xs.length/\n<=c/\c<=maxLen/\w.heap[b]? =some (.cells cur e (0,0))/\(k+c)*s=cur.size/\xs.length<=k+c)\/(∃p,v=.slice p 0 0/\n=0/\xs.length<=k):=by
 have hob:=m.obj id;simp only[cP,hH]at hob;obtain⟨hpos,hall,hob⟩:=hob;cases hr with
 |ow _ _ _ b c _ _ _ cur e' hH' hb hkn hn hc hblk hroom=>
  rw[hH]at hH';injection hH' with _ q1 q2;subst q1;subst q2
  refine .inl ⟨b,c,cur,e',rfl,hb,hkn,hn,hc,hblk,hroom,?_⟩;rcases hob with⟨hnone,_⟩|⟨b',e'',cur',hb',hblk',hlen',_⟩
  ·rw[hnone]at hb;cases hb
  ·rw[hb]at hb';injection hb' with hb';subst hb'
   rw[hblk]at hblk';injection hblk' with hblk';injection hblk' with p1 p2;subst p1
   rw[<-hroom]at hlen';exact Nat.le_of_mul_le_mul_right hlen' hpos
 |ow0 _ _ b _ _ _ hH' hk'=>
  rw[hH]at hH';injection hH' with _ q1 q2;subst q1;subst q2
  refine .inr ⟨b,rfl,rfl,?_⟩;rcases hob with⟨hnone,he⟩|⟨b',e'',cur',hb',hblk',hlen',_⟩
  ·rw[he];exact Nat.zero_le _
  ·rcases hk' with⟨h1,_⟩|⟨b2,cur2,e2,h1,h2,h3,_⟩
   ·rw[h1]at hb';cases hb'
   ·rw[h1]at hb';injection hb' with hb';subst hb'
    rw[h2]at hblk';injection hblk' with hblk';injection hblk' with p1 p2;subst p1
    rw[<-h3]at hlen';exact Nat.le_of_mul_le_mul_right hlen' hpos
 |owdead _ _ _ _ hd=>rw[hH]at hd;cases hd
theorem lR(m:cV w0 X H β w){id k n c s:Nat}{fz:Bool}{xs:List DV}{v:Value}(hH:H id=.row fz s xs)(hr:R w (Ex X β H) β H (.oc id k n c) v):
 ∃p,v=.slice p n c/\n<=c/\k+c<=xs.length/\c<=maxLen/\(c=0\/∃b cur e,p=some ⟨b,k*s,none⟩/\β id=some b/\w.heap[b]? =some (.cells cur e (0,0))/\xs.length*s<=cur.size):=by
 have hob:=m.obj id;simp only[cP,hH]at hob;obtain⟨hpos,hall,hob⟩:=hob;cases hr with
 |oc _ _ _ _ p _ _ _ hH' hn hkc hc ha=>
  rw[hH]at hH';injection hH' with _ q1 q2;subst q1;subst q2
  refine⟨p,rfl,hn,hkc,hc,?_⟩;rcases ha with ha|⟨b,hb,hp⟩
  ·exact .inl ha
  ·rcases hob with⟨hnone,_⟩|⟨b',e'',cur',hb',hblk',hlen',_⟩
   ·rw[hnone]at hb;cases hb
   ·rw[hb]at hb';injection hb' with hb';subst hb'
    exact .inr ⟨b,cur',e'',hp,hb,hblk',hlen'⟩
 |ocdead _ _ _ _ _ hd=>rw[hH]at hd;cases hd
theorem Ew(hT:fC P T)(m:cV w0 X H β w)(hg:∀x,R w (Ex X β H) β H (g x) (a.eval x)){t u:TypeId}{s x:Operand}(ho:o.op=.call {callee:=.builtin .append,args:= #[s,x],argTypes:= #[t,u]})
 (hu:t=u\/(T u).k.isStr=true)(ht:∀e,(T t).k=.slice e->(T e).k.isNone=false)(hok:(fB T H t (g s) (g x)).ok):iV P w0 X H β w a o (fB T H t (g s) (g x)):=by
 have hs:=hg s;have hx:=hg x;generalize g s=ls at*;generalize g x=lx at*;unfold fB at*;split at hok
 ·rename_i e ys id k n hk hy;split at hok
  ·rename_i sz xs hH;simp only at hok|-;obtain⟨hsz,hys,hfit⟩:=hok;subst hsz;have hut:=hT.slice hk;obtain⟨inf,d0,z,h1,h2,h3,h4,h5,h6,h7⟩:=hT.parts (ht e hk);have huu:∃d,P.underlying u=some d/\∀k,d≠ .int k:=by
    rcases hu with rfl|hu
    ·exact⟨_,hut,λk=>by simp⟩
    ·have:(T u).k=.str:=by cases q:(T u).k<;>simp_all[TK.isStr]
     exact⟨_,hT.str this,λk=>by simp⟩
   obtain⟨d,hud,hdk⟩:=huu;obtain⟨news,e1,e2,e3,e4,e5⟩:=gK (P:=P) m hx hy hys;rw[<-h4]at e2;generalize hvs:a.eval s=vs at hs;rcases lQ m hH hs with⟨b,c,cur,e',rfl,hb,hkn,hn,hc,hblk,hroom,hcap⟩|⟨p,rfl,rfl,hkx⟩
   ·have hin:n+ys.length<=c:=(by omega);obtain⟨m2,g2,hf,hblk2,hsz2⟩:=m.writeRow hH hb hblk (k:=k+n) hys (by omega) e3 e4 e5;have hrun:=eN (P:=P) (w:=w) (ty:=o.type) (base:=some ⟨b,k*(T e).size,none⟩) (sLen:=n) (sCap:=c) hut hud hdk h1 e1 e2 hin;have hst:=run_storeCells_at P b (k*(T e).size+n*(T e).size) e' news 0 cur w hblk (by rw[<-Nat.add_mul];omega) e4;refine bG (v:=.slice (some ⟨b,k*(T e).size,none⟩) (n+ys.length) c) (w':=w.setRow b (aQ ((k+n)*(T e).size) cur.toList news).toArray) (β':=β) (dM ho ?_) (by simp only[aR];exact m2) (by simp only[aR];exact g2) ?_
    ·rw[hvs,hrun];simp only[Addr.add_lit,h4];simp only[Nat.add_zero]at hst;rw[hst,Nat.add_mul];rfl
    ·simp only[aR];exact R.ow _ k (n+ys.length) b c false (T e).size (aQ (k+n) xs ys) _ e' (by rw[aM]) hb (by rw[dI (by omega)];omega) hin hc hblk2 (by rw[hsz2];exact hroom)
   ·have hy0:ys=[]:=List.eq_nil_of_length_eq_zero (by omega);subst hy0;have hn0:news=[]:=List.eq_nil_of_length_eq_zero (by simpa using e3);subst hn0;have hrun:=eN (P:=P) (w:=w) (ty:=o.type) (base:=p) (sLen:=0) (sCap:=0) hut hud hdk h1 e1 e2 (Nat.le_refl _);have hid:bP H [(id,aV.row false (T e).size (aQ (k+0) xs []))]=H:=by rw[aR,pG];exact qA hH
    refine bG (v:=.slice p 0 0) (w':=w) (β':=β) (dM ho ?_) (by simp only[hid];exact m) (by simp only[hid];exact eY.refl) (by simp only[hid];exact hs);rw[hvs,hrun];cases p<;>simp[storeCells]
  ·exact hok.elim
 ·exact hok.elim
theorem Nk(hT:fC P T)(m:cV w0 X H β w)(hg:∀x,R w (Ex X β H) β H (g x) (a.eval x)){t u:TypeId}{s x:Operand}(ho:o.op=.call {callee:=.builtin .copy,args:= #[s,x],argTypes:= #[t,u]})
 (ht:∀e,(T t).k=.slice e->(T e).k.isNone=false)(hok:(lN T H t (g s) (g x)).ok):iV P w0 X H β w a o (lN T H t (g s) (g x)):=by
 have hs:=hg s;have hx:=hg x;generalize g s=ls at*;generalize g x=lx at*;unfold lN at*;split at hok
 ·rename_i e ys id k n hk hy;split at hok
  ·rename_i sz xs hH;simp only at hok|-;obtain⟨hsz,hys,hle,hfit⟩:=hok;subst hsz;have hut:=hT.slice hk;obtain⟨news,e1,e2,e3,e4,e5⟩:=gK (P:=P) m hx hy hys;have e2:=e2 w rfl;have hso:=bQ (P:=P) (w:=w) hT (ht e hk);generalize hvs:a.eval s=vs at hs;have hmin:Nat.min ys.length n=ys.length:=Nat.min_eq_left hle;rcases lQ m hH hs with⟨b,c,cur,e',rfl,hb,hkn,hn,hc,hblk,hroom,hcap⟩|⟨p,rfl,rfl,hkx⟩
   ·obtain⟨m2,g2,hf,hblk2,hsz2⟩:=m.writeRow hH hb hblk (k:=k) hys (by omega) e3 e4 e5;have hst:=run_storeCells_at P b (k*(T e).size) e' news 0 cur w hblk (by omega) e4;simp only[Nat.add_zero]at hst;refine bG (v:=.int .i64 ys.length) (w':=w.setRow b (aQ (k*(T e).size) cur.toList news).toArray) (β':=β) ?_ (by simp only[aR];exact m2) (by simp only[aR];exact g2) (bO _ _);simp[execOp,ho,resolve,invoke,builtin,Builtin.copy_,run_underlying hut,hvs,e1,hmin,hso,e2,hst,goInt,aQ]
   ·have hy0:ys=[]:=List.eq_nil_of_length_eq_zero (by omega);subst hy0;have hn0:news=[]:=List.eq_nil_of_length_eq_zero (by simpa using e3);subst hn0;have hid:bP H [(id,aV.row false (T e).size (aQ k xs []))]=H:=by rw[aR,pG];exact qA hH
    refine bG (v:=.int .i64 0) (w':=w) (β':=β) ?_ (by simp only[hid];exact m) (by simp only[hid];exact eY.refl) (bO _ _);simp only[List.length_nil]at e1 e2 hmin;cases p<;>simp[execOp,ho,resolve,invoke,builtin,Builtin.copy_,run_underlying hut,hvs,e1,hmin,hso,e2,storeCells,goInt]
  ·exact hok.elim
 ·exact hok.elim
theorem KH(hT:fC P T)(m:cV w0 X H β w)(hg:∀x,R w (Ex X β H) β H (g x) (a.eval x)){t u:TypeId}{s x:Operand}(ho:o.op=.call {callee:=.builtin .copy,args:= #[s,x],argTypes:= #[t,u]})
 (ht:∀e,(T t).k=.slice e->(T e).k.isNone=false)(hok:(jH T H t (g s) (g x)).ok):iV P w0 X H β w a o (jH T H t (g s) (g x)):=by
 have hs:=hg s;have hx:=hg x;generalize g s=ls at*;generalize g x=lx at*;unfold jH at*;split at hok
 ·rename_i e id k n c hk;split at hok
  ·rename_i ys sz xs hy hH;simp only[hy,hH]at hok|-;obtain⟨hsz,hys,hle,hfit⟩:=hok;subst hsz;have hut:=hT.slice hk;have hso:=bQ (P:=P) (w:=w) hT (ht e hk);generalize hvs:a.eval s=vs at hs;generalize hvx:a.eval x=vx at hx;obtain⟨news,N,e1,hmin,e2,e3,e4,e5⟩:∃(news:List Value) (N:Nat),(Builtin.lenOf vx).run P w=.ok N w/\Nat.min N n=ys.length/\(Builtin.firstCells (T e).size ys.length vx).run P w=.ok news.toArray w/\news.length=ys.length*(T e).size/\
    (∀u∈news,u.oneCell'=true)/\∀(i:Nat) (d:DV) (u:Value),(bB ys)[i]? =some d->news[i]? =some u->RD w (Ex X β H) d u:=by
    have plain:xD n lx=lx->∃(news:List Value) (N:Nat),(Builtin.lenOf vx).run P w=.ok N w/\Nat.min N n=ys.length/\(Builtin.firstCells (T e).size ys.length vx).run P w=.ok news.toArray w/\news.length=ys.length*(T e).size/\
     (∀u∈news,u.oneCell'=true)/\∀(i:Nat) (d:DV) (u:Value),(bB ys)[i]? =some d->news[i]? =some u->RD w (Ex X β H) d u:=λq=>by
     rw[q]at hy;obtain⟨news,e1,e2,e3,e4,e5⟩:=gK (P:=P) m hx hy hys;exact⟨news,ys.length,e1,Nat.min_eq_left hle,e2 w rfl,e3,e4,e5⟩
    cases lx with
    |oc j k2 m2 c2=>
     cases hx with
     |oc _ _ _ _ p fz' size' xs' hH' hn' hkc' hc' ha'=>
      have hx':=R.oc (w:=w) (E:=Ex X β H) (β:=β) (H:=H) j k2 (min m2 n) c2 p fz' size' xs' hH' (by omega) hkc' hc' ha';obtain⟨news,e1,e2,e3,e4,e5⟩:=gK (P:=P) m hx' hy hys;have hl:ys.length=min m2 n:=by
       simp only[xD,cZ,hH',Option.some.injEq]at hy;rw[<-hy];simp;omega
      refine⟨news,m2,by simp[Builtin.lenOf],by rw[hl],?_,e3,e4,e5⟩;have:=e2 w rfl;cases p<;>simpa [Builtin.firstCells]using this
     |ocdead _ _ _ _ _ hd=>simp[xD,cZ,hd]at hy
    |_=>exact plain rfl
   obtain⟨p,rfl,hn,hkc,hc,hb⟩:=lR m hH hs;rcases hb with hc0|⟨b,cur,e',rfl,hb,hblk,hcur⟩
   ·have hy0:ys=[]:=List.eq_nil_of_length_eq_zero (by omega);subst hy0;have hn0:news=[]:=List.eq_nil_of_length_eq_zero (by simpa using e3);subst hn0;have hid:bP H [(id,aV.row false (T e).size (aQ k xs []))]=H:=by rw[aR,pG];exact qA hH
    refine bG (v:=.int .i64 0) (w':=w) (β':=β) ?_ (by simp only[hid];exact m) (by simp only[hid];exact eY.refl) (bO _ _);simp only[List.length_nil]at e1 e2 hmin;cases p<;>simp[execOp,ho,resolve,invoke,builtin,Builtin.copy_,run_underlying hut,hvs,hvx,e1,hmin,hso,e2,storeCells,goInt]
   ·obtain⟨m2,g2,hf,hblk2,hsz2⟩:=m.writeRow hH hb hblk (k:=k) hys (by omega) e3 e4 e5;have hst:=run_storeCells_at P b (k*(T e).size) e' news 0 cur w hblk (by omega) e4;simp only[Nat.add_zero]at hst;refine bG (v:=.int .i64 ys.length) (w':=w.setRow b (aQ (k*(T e).size) cur.toList news).toArray) (β':=β) ?_ (by simp only[aR];exact m2) (by simp only[aR];exact g2) (bO _ _);simp[execOp,ho,resolve,invoke,builtin,Builtin.copy_,run_underlying hut,hvs,hvx,e1,hmin,hso,e2,hst,goInt,aQ]
  ·exact hok.elim
 ·exact hok.elim
theorem KI(hT:fC P T)(m:cV w0 X H β w)(hg:∀x,R w (Ex X β H) β H (g x) (a.eval x)){t u:TypeId}{s x:Operand}(ho:o.op=.call {callee:=.builtin .copy,args:= #[s,x],argTypes:= #[t,u]})
 (ht:∀e,(T t).k=.slice e->(T e).k.isNone=false)(hok:(dV T H t (g s) (g x)).ok):iV P w0 X H β w a o (dV T H t (g s) (g x)):=by
 have hs:=hg s;have hx:=hg x;generalize g s=ls at*;generalize g x=lx at*;unfold dV at*;split at hok
 ·rename_i e id k n c bs hk;split at hok
  ·rename_i cs hH;simp only[hH]at hok|-;obtain⟨hn0,hsz,hfit⟩:=hok;have hut:=hT.slice hk;have hso:=bQ (P:=P) (w:=w) hT (ht e hk);have hvx:=hx.str;generalize hvs:a.eval s=vs at hs;have hob:=m.obj id;simp only[cP,hH]at hob;obtain⟨b,e',us,hb,hblk,hlen,h1,hp⟩:=hob;cases hs with
   |sbdead _ _ _ _ _ hd=>rw[hH]at hd;cases hd
   |sb _ _ _ _ p b' fz' cs' hH' hb' hn hc ha=>
    obtain rfl:p=some ⟨b',k,none⟩:=ha.resolve_left (by omega);rw[hb]at hb';injection hb' with hb';subst hb'
    obtain⟨news,hnews⟩:∃news:List Value,news=(bs.take n).map λc=>.int .u8 c.toNat:=⟨_,rfl⟩;have hl:news.length=(bs.take n).length:=by rw[hnews,List.length_map]
    have hl2:(bs.take n).length<=n:=(by rw[List.length_take];exact Nat.min_le_left _ _);have hfit2:k+(pV (bs.take n)).length<=cs.length:=by unfold pV;rw[List.length_map];omega
    have hone:∀u∈news,u.oneCell'=true:=by rw[hnews];intro u hu;obtain⟨c,_,rfl⟩:=List.mem_map.1 hu;rfl
    have hst:=run_storeCells_at P b k e' news 0 us.toArray w hblk (by rw[List.size_toArray];omega) hone;have:=m.rewrite (id:=id) (b:=b) (o':=.box false (aQ k cs (pV (bs.take n)))) (cur':=(aQ k us news).toArray) (by rw[hH];rfl) hb hblk
     (by simp only[List.size_toArray];exact dI (by omega)) (.inl ⟨_,_,hH,rfl⟩) (λ_ hR=>by
       unfold cP;rw[aM];refine⟨b,e',_,hb,setRow_heap w b _ _ e' (0,0) hblk,by rw[dI (by omega),dI hfit2];exact hlen,vQ h1 hone,?_⟩;refine At hlen (by rw[hl];unfold pV;rw[List.length_map]) hfit2 (λi c v hc hv=>hR _ _ (hp i c v hc hv)) (λi c v hc hv=>?_);rw[hnews,List.getElem?_map]at hv;unfold pV at hc;rw[List.getElem?_map]at hc;cases hq:(bs.take n)[i]? with
       |none=>rw[hq]at hc;cases hc
       |some y=>rw[hq]at hc hv;cases hc;cases hv;exact .d _ _ (.int _ _))
    have hex:((⟨bs.toArray⟩:ByteArray).extract 0 (min bs.length n)).data.toList.map (λc=>Value.int .u8 c.toNat)=news:=by
     rw[hnews];have:((⟨bs.toArray⟩:ByteArray).extract 0 (min bs.length n)).data.toList=bs.take n:=by
      simp[ByteArray.data_extract,List.take_take,Nat.min_comm]
     rw[this]
    refine bG (v:=.int .i64 (min bs.length n:Nat)) (w':=w.setRow b (aQ k us news).toArray) (β':=β) ?_ (by simp only[aR];exact this.1) (by simp only[aR];exact this.2) (bO _ _);simp only[Nat.add_zero]at hst;have hlenOf:(Builtin.lenOf (.string ⟨bs.toArray⟩)).run P w=.ok bs.length w:=by simp[Builtin.lenOf,ByteArray.size]
    have hfc:(Builtin.firstCells (T e).size (min bs.length n) (.string ⟨bs.toArray⟩)).run P w=.ok news.toArray w:=by
     simp only[Builtin.firstCells,Sem.run_pure];rw[<-hex];simp
    simp[execOp,ho,resolve,invoke,builtin,Builtin.copy_,run_underlying hut,hvs,hvx,hlenOf,hso,hfc,hst,goInt,aQ]
  ·exact hok.elim
 ·exact hok.elim
theorem jM{t:eC}(h:t.k.agg=false->t.zero.length=1):aK (dH t)=t.zero.map pU:=by
 unfold dH;cases q:t.k.agg with
 |true=>rfl
 |false=>
  match hz:t.zero,h q with
  |[u],_=>
   simp only[Bool.false_eq_true,if_false,List.map_cons,List.map_nil,List.getD_cons_zero];unfold pU;split<;>rfl
theorem vU(hT:fC P T){e:TypeId}(h:(T e).k.isNone=false){z:Value}(hz:z.cells.toList=(T e).zero)(n:Nat){cells:Array Value}(hc:∀i,i<n*(T e).size->cells[i]? =some (z.cells[i%z.cells.size]!)):
 ∀(i:Nat) (d:DV) (u:Value),(bB (List.replicate n (dH (T e))))[i]? =some d->cells[i]? =some u->u.oneCell'=true/\RD w E d u:=by
 intro i d u hd hu;obtain⟨inf,h1,h2,h3⟩:=(hT e h).zv;have hl:=(hT e h).len;have one:=(hT e h).one;have hzl:z.cells.size=(T e).size:=by rw[<-hl,<-hz];simp
 have hcd:=jM h3;have hall:∀x∈List.replicate n (dH (T e)),(aK x).length=(T e).size:=λx hx=>by rw[(List.mem_replicate.1 hx).2,hcd,List.length_map,hl]
 have hi:i<n*(T e).size:=by have:=(List.getElem?_eq_some_iff.1 hd).1;rw[flat_len hall,List.length_replicate]at this;exact this
 have hpos:0<(T e).size:=by rcases Nat.eq_zero_or_pos (T e).size with h|h;rw[h]at hi;omega;exact h
 rw[hc i hi,hzl]at hu;injection hu with hu
 have hj:=Nat.mod_lt i hpos;have hdm:i / (T e).size*(T e).size+i%(T e).size=i:=by rw[Nat.mul_comm];exact Nat.div_add_mod _ _
 rw[<-hdm,Eo hall _ _ hj]at hd;have hq:i / (T e).size<n:=(Nat.div_lt_iff_lt_mul hpos).2 hi;rw[List.getElem?_replicate,if_pos hq]at hd;simp only[Option.bind_some,hcd]at hd;obtain⟨u',hu',rfl⟩:=fK hd;have huu:u=u':=by
  rw[<-hu];have:z.cells[i%(T e).size]? =some u':=by rw[<-hz]at hu';simpa using hu'
  simp[getElem!_def,this]
 subst huu;have:=one u (List.mem_of_getElem? hu');exact⟨this,AG u this⟩
theorem KJ(hT:fC P T)(m:cV w0 X H β w)(hg:∀x,R w (Ex X β H) β H (g x) (a.eval x)){t:TypeId}{x:Operand}(ho:o.op=.call {callee:=.builtin .clear,args:= #[x],argTypes:= #[t]})
 (ht:∀e,(T t).k=.slice e->(T e).k.isNone=false)(hok:(jG T H t (g x)).ok):iV P w0 X H β w a o (jG T H t (g x)):=by
 have hs:=hg x;generalize g x=ls at*;unfold jG at*;split at hok
 ·rename_i e id k n hk;split at hok
  ·rename_i sz xs hH;simp only at hok|-;obtain⟨hsz,hfit⟩:=hok;subst hsz;have hut:=hT.slice hk;obtain⟨inf,d0,z,h1,h2,h3,h4,h5,h6,h7⟩:=hT.parts (ht e hk);have h3:=(hT e (ht e hk)).zv.choose_spec.2.2;have hl:=(hT e (ht e hk)).len;have hzl:z.cells.size=(T e).size:=by rw[<-hl,<-h7];simp
   generalize hvs:a.eval x=vs at hs;have hzv:(zeroValue e).run P w=.ok z w:=by simp[zeroValue,typeInfo,h1,h6]
   rcases Nat.eq_zero_or_pos n with hn0|hn0
   ·subst hn0;have hid:bP H [(id,aV.row false (T e).size (aQ k xs (List.replicate 0 (dH (T e)))))]=H:=by rw[aR];exact qA (by rw[hH,List.replicate_zero,pG])
    refine bG (v:=.tuple #[]) (w':=w) (β':=β) ?_ (by simp only[hid];exact m) (by simp only[hid];exact eY.refl) (.tup [] [] rfl (by simp));rcases lQ m hH hs with⟨b,c,cur,e',rfl,hb,hkn,hn,hc,hblk,hroom,hcap⟩|⟨p,rfl,_,hkx⟩
    ·simp[execOp,ho,resolve,invoke,builtin,Builtin.clear_,run_underlying hut,hvs]
    ·cases p<;>simp[execOp,ho,resolve,invoke,builtin,Builtin.clear_,run_underlying hut,hvs]
   ·rcases lQ m hH hs with⟨b,c,cur,e',rfl,hb,hkn,hn,hc,hblk,hroom,hcap⟩|⟨p,rfl,rfl,hkx⟩
    ·have hcl:∀i,i<n*(T e).size->(Builtin.zeroCells z.cells n)[i]? =some (z.cells[i%z.cells.size]!):=λi hi=>by
      simp[Builtin.zeroCells,hzl,hi]
     have hzr:=vU (P:=P) (w:=w) (E:=Ex X β H) hT (ht e hk) h7 n hcl;have hzc:(Builtin.zeroCells z.cells n).toList.length=(List.replicate n (dH (T e))).length*(T e).size:=by simp[size_zeroCells,hzl]
     have hall:∀y∈List.replicate n (dH (T e)),(aK y).length=(T e).size:=λy hy=>by rw[(List.mem_replicate.1 hy).2,jM h3,List.length_map,hl]
     have hone:∀u∈(Builtin.zeroCells z.cells n).toList,u.oneCell'=true:=λu hu=>by
      obtain⟨i,hi,rfl⟩:=List.getElem_of_mem hu;rw[hzc]at hi;have hfl:=flat_len hall;exact(hzr i ((bB (List.replicate n (dH (T e))))[i]'(by omega)) _ (List.getElem?_eq_getElem _) (by simp)).1
     obtain⟨m2,g2,hf,hblk2,hsz2⟩:=m.writeRow hH hb hblk (k:=k) hall (by simpa using hfit) hzc hone (λi d u hd hu=>(hzr i d u hd (by simpa using hu)).2);have hst:=run_storeCells_at P b (k*(T e).size) e' (Builtin.zeroCells z.cells n).toList 0 cur w hblk (by omega) hone;simp only[Nat.add_zero]at hst;refine bG (v:=.tuple #[]) (w':=w.setRow b (aQ (k*(T e).size) cur.toList (Builtin.zeroCells z.cells n).toList).toArray) (β':=β) ?_ (by simp only[aR];exact m2) (by simp only[aR];exact g2) (.tup [] [] rfl (by simp));obtain⟨n',rfl⟩:∃n',n=n'+1:=⟨n-1,by omega⟩;simp[execOp,ho,resolve,invoke,builtin,Builtin.clear_,run_underlying hut,hvs,hzv,hst,aQ]
    ·omega
  ·exact hok.elim
 ·rename_i e id k n c hk;split at hok
  ·rename_i sz xs hH;simp only at hok|-;obtain⟨hsz,hfit⟩:=hok;subst hsz;have hut:=hT.slice hk;obtain⟨inf,d0,z,h1,h2,h3,h4,h5,h6,h7⟩:=hT.parts (ht e hk);have h3:=(hT e (ht e hk)).zv.choose_spec.2.2;have hl:=(hT e (ht e hk)).len;have hzl:z.cells.size=(T e).size:=by rw[<-hl,<-h7];simp
   generalize hvs:a.eval x=vs at hs;have hzv:(zeroValue e).run P w=.ok z w:=by simp[zeroValue,typeInfo,h1,h6]
   rcases Nat.eq_zero_or_pos n with hn0|hn0
   ·subst hn0;have hid:bP H [(id,aV.row false (T e).size (aQ k xs (List.replicate 0 (dH (T e)))))]=H:=by rw[aR];exact qA (by rw[hH,List.replicate_zero,pG])
    refine bG (v:=.tuple #[]) (w':=w) (β':=β) ?_ (by simp only[hid];exact m) (by simp only[hid];exact eY.refl) (.tup [] [] rfl (by simp));obtain⟨p,rfl,hn,hkc,hc,hb⟩:=lR m hH hs;cases p<;>simp[execOp,ho,resolve,invoke,builtin,Builtin.clear_,run_underlying hut,hvs]
   ·obtain⟨p,rfl,hn,hkc,hc,hb⟩:=lR m hH hs;rcases hb with hc0|⟨b,cur,e',rfl,hb,hblk,hcur⟩
    ·omega
    ·have hcl:∀i,i<n*(T e).size->(Builtin.zeroCells z.cells n)[i]? =some (z.cells[i%z.cells.size]!):=λi hi=>by
      simp[Builtin.zeroCells,hzl,hi]
     have hzr:=vU (P:=P) (w:=w) (E:=Ex X β H) hT (ht e hk) h7 n hcl;have hzc:(Builtin.zeroCells z.cells n).toList.length=(List.replicate n (dH (T e))).length*(T e).size:=by simp[size_zeroCells,hzl]
     have hall:∀y∈List.replicate n (dH (T e)),(aK y).length=(T e).size:=λy hy=>by rw[(List.mem_replicate.1 hy).2,jM h3,List.length_map,hl]
     have hone:∀u∈(Builtin.zeroCells z.cells n).toList,u.oneCell'=true:=λu hu=>by
      obtain⟨i,hi,rfl⟩:=List.getElem_of_mem hu;rw[hzc]at hi;have hfl:=flat_len hall;exact(hzr i ((bB (List.replicate n (dH (T e))))[i]'(by omega)) _ (List.getElem?_eq_getElem _) (by simp)).1
     obtain⟨m2,g2,hf,hblk2,hsz2⟩:=m.writeRow hH hb hblk (k:=k) hall (by simpa using hfit) hzc hone (λi d u hd hu=>(hzr i d u hd (by simpa using hu)).2);have hst:=run_storeCells_at P b (k*(T e).size) e' (Builtin.zeroCells z.cells n).toList 0 cur w hblk (by omega) hone;simp only[Nat.add_zero]at hst;refine bG (v:=.tuple #[]) (w':=w.setRow b (aQ (k*(T e).size) cur.toList (Builtin.zeroCells z.cells n).toList).toArray) (β':=β) ?_ (by simp only[aR];exact m2) (by simp only[aR];exact g2) (.tup [] [] rfl (by simp));obtain⟨n',rfl⟩:∃n',n=n'+1:=⟨n-1,by omega⟩;simp[execOp,ho,resolve,invoke,builtin,Builtin.clear_,run_underlying hut,hvs,hzv,hst,aQ]
  ·exact hok.elim
 ·exact hok.elim
theorem Nl(hT:fC P T)(m:cV w0 X H β w)(hg:∀x,R w (Ex X β H) β H (g x) (a.eval x)){t:TypeId}{n c:Operand}{dst:Nat}(ho:o.op=.makeSlice t n c)
 (ht:∀e,(T t).k=.slice e->(T e).k.isNone=false)(hok:(lO T H dst t (g n) (g c)).ok):iV P w0 X H β w a o (lO T H dst t (g n) (g c)):=by
 have hn:=hg n;have hc:=hg c;generalize g n=ln at*;generalize g c=lc at*;unfold lO at*;split at hok
 ·rename_i e k n' k' c' hk;simp only at hok|-;obtain⟨ha,h0,hnc,hmx,hpos,hby⟩:=hok;subst hnc;have hn:=hn.int;have hc:=hc.int;have hut:=hT.slice hk;obtain⟨inf,d0,z,h1,h2,h3,h4,h5,h6,h7⟩:=hT.parts (ht e hk);have h3:=(hT e (ht e hk)).zv.choose_spec.2.2;have hl:=(hT e (ht e hk)).len;have hzl:z.cells.size=(T e).size:=by rw[<-hl,<-h7];simp
  obtain⟨N,rfl⟩:=Int.eq_ofNat_of_zero_le h0;have hbb:(inf.bytes:Int)*(N:Int)<=281474976710656:=by rw[h5,Int.mul_comm];omega
  have hrun:=Go.run_make (P:=P) w t e inf z hut h1 h6 k k' (N:Int) (N:Int) h0 (Int.le_refl _) hbb (by omega);simp only[Int.toNat_natCast]at hrun|-;have hcl:∀i,i<N*(T e).size->(madeCells z.cells (N*inf.size))[i]? =some (z.cells[i%z.cells.size]!):=λi hi=>by
   rw[h4];simp[madeCells,hi]
  have hzr:=vU (P:=P) (w:=w) (E:=Ex X β H) hT (ht e hk) h7 N hcl;have hall:∀y∈List.replicate N (dH (T e)),(aK y).length=(T e).size:=λy hy=>by rw[(List.mem_replicate.1 hy).2,jM h3,List.length_map,hl]
  have hcs:(madeCells z.cells (N*inf.size)).size=N*(T e).size:=by rw[size_madeCells,h4]
  obtain⟨m2,g2⟩:=vR m ha hpos hall e (cur:=madeCells z.cells (N*inf.size)) (by rw[hcs,List.length_replicate];exact Nat.le_refl _) hzr ((BP.refl _ _).alloc (Nat.le_refl _) _) (by simp) (heap_alloc_new w _);refine bG (v:=.slice (some ⟨w.heap.size,0,none⟩) N N) (w':=w.alloc (.cells (madeCells z.cells (N*inf.size)) e)) (β':=bU β dst (some w.heap.size)) ?_ (by simp only[aR];exact m2) (by simp only[aR];exact g2) ?_
  ·simp[execOp,ho,hn,hc,hrun]
  ·simp only[aR];have hR:=R.ow (w:=w.alloc (.cells (madeCells z.cells (N*inf.size)) e)) (E:=Ex X (bU β dst (some w.heap.size)) (bU H dst (.row false (T e).size (List.replicate N (dH (T e)))))) (β:=bU β dst (some w.heap.size)) (H:=bU H dst (.row false (T e).size (List.replicate N (dH (T e)))))
    dst 0 N w.heap.size N false (T e).size _ _ e (by rw[aM]) (by rw[aM]) (by simp) (Nat.le_refl _) (by unfold maxLen;omega) (heap_alloc_new w _) (by rw[hcs,Nat.zero_add])
   rw[Nat.zero_mul]at hR;exact hR
 ·exact hok.elim
theorem Dl(hT:fC P T){t e:TypeId}(hk:(T t).k=.slice e)(he:(T e).k.isNone=false){b:Option Addr}{n c:Nat}{lo hi:Option Operand}{mx:Operand}{l h m:Int}{km:IntKind}
 (hl:(lo=none/\l=0)\/∃x k,lo=some x/\a.eval x=.int k l)(hh:∃x k,hi=some x/\a.eval x=.int k h)(hm:a.eval mx=.int km m)(h0:0<=l)(h1:l<=h)(h2:h<=m)(h3:m<=c):
 (Instr.sliceAt t (.slice b n c) (lo.map a.eval) (hi.map a.eval) ((some mx).map a.eval)).run P w=.ok (.slice (if m.toNat=l.toNat then b else b.map (·.add (l.toNat*(T e).size))) (h.toNat-l.toNat) (m.toNat-l.toNat)) w:=by
 have hu:=hT.slice hk;have hso:=bQ (P:=P) (w:=w) hT he;have b0:∀k y,(Instr.sliceBound (.int k m) c y).run P w=.ok m.toNat w:=λk y=>run_sliceBound w k m c y (by omega) h3;have b1:∀k y,(Instr.sliceBound (.int k h) m.toNat y).run P w=.ok h.toNat w:=λk y=>run_sliceBound w k h m.toNat y (by omega) (by omega);have b2:∀k y,(Instr.sliceBound (.int k l) h.toNat y).run P w=.ok l.toNat w:=λk y=>run_sliceBound w k l h.toNat y h0 (by omega);obtain⟨x,k,rfl,hx⟩:=hh;rcases hl with⟨rfl,rfl⟩|⟨y,k',rfl,hy⟩
 ·simp[Instr.sliceAt,Instr.slice,Instr.sliceBounds,run_underlying hu,hx,hm,b0,b1,hso]
 ·simp[Instr.sliceAt,Instr.slice,Instr.sliceBounds,run_underlying hu,hx,hm,hy,b0,b1,b2,hso]
theorem RD.sl_any{xs:List DV}{b b':Option Addr}{n c c':Nat}(h:RD w E (.sl xs) (.slice b n c))(h1:xs.length<=c')(h2:c'<=maxLen)(hb:xs≠[]->b'=b):RD w E (.sl xs) (.slice b' n c'):=by
 cases h with
 |sl0 a c hc=>exact .sl0 _ _ h2
 |sl _ b o c size us hx hb' hs hlen hc hul h1' hlt hcell h=>
  rw[hb hx];exact .sl xs b o c' size us hx hb' hs h1 h2 hul h1' hlt hcell h
theorem Ot(hT:fC P T)(m:cV w0 X H β w)(hg:∀x,R w (Ex X β H) β H (g x) (a.eval x)){t:TypeId}{x:Operand}{lo hi mx:Option Operand}(ho:o.op=.slice t x lo hi mx)
 (ht:∀e,(T t).k=.slice e->(T e).k.isNone=false)(hmx:mx.isSome=true)(hhi:mx.isSome=true->hi.isSome=true)(hok:(oB T H t (g x) (lo.map g) (hi.map g) (mx.map g)).ok):iV P w0 X H β w a o (oB T H t (g x) (lo.map g) (hi.map g) (mx.map g)):=by
 have hx:=hg x;generalize g x=lx at*;generalize hval:a.eval x=vx at hx;have hmm:∀{k:IntKind} {m:Int},mx.map g=some (.d (.int k m))->∃y,mx=some y/\a.eval y=.int k m:=λ{k m} e=>by
  obtain⟨y,rfl,hy⟩:=Option.map_eq_some_iff.1 e;have:=hg y;rw[hy]at this;exact⟨y,rfl,this.int⟩
 have hhh:∀{n:Nat} {h:Int},eS n (hi.map g)=some h->∃x k,hi=some x/\a.eval x=.int k h:=λ{n h} e=>by
  rcases cJ hg e with⟨h1,_⟩|h1
  ·have:=hhi hmx;rw[h1]at this;cases this
  ·exact h1
 unfold oB at*;split at hok
 ·rename_i e id k n hk;split at hok
  ·rename_i l h kk m' e1 e2 e3;simp only[iO.cond]at hok|-;obtain⟨h0,h1,h2,h3,hl⟩:=hok;obtain⟨y,rfl,hy⟩:=hmm e3;have hform:∃b c,vx=.slice b n c/\n<=c:=by
    cases hx with
    |ow _ _ _ b c _ _ _ _ _ _ _ _ hn=>exact⟨_,c,rfl,hn⟩
    |ow0 _ _ b=>exact⟨b,0,rfl,Nat.le_refl _⟩
    |owdead _ _ _ _ hd=>rw[hd]at hl;cases hl
   obtain⟨b,c,rfl,hnc⟩:=hform;have hr:=Dl (P:=P) (w:=w) (a:=a) (b:=b) (n:=n) (c:=c) hT hk (ht e hk) (cJ hg e1) (hhh e2) hy h0 h1 h2 (by omega);refine iV.plain m (v:=.slice (if m'.toNat=l.toNat then b else b.map (·.add (l.toNat*(T e).size))) (h.toNat-l.toNat) (m'.toNat-l.toNat)) ?_ (.junk _);simp only[execOp,ho,hval,Sem.run_bind,hr,Result.andThen_ok,Sem.run_pure]
  ·exact hok.elim
 ·rename_i e xs hk;split at hok
  ·rename_i l h kk m' e1 e2 e3;simp only[iO.cond]at hok|-;obtain⟨h0,h1,h2,h3,hall⟩:=hok;obtain⟨y,rfl,hy⟩:=hmm e3;cases hx with
   |d _ _ hx=>
    have hform:∃b c,vx=.slice b xs.length c/\xs.length<=c/\c<=maxLen:=by cases hx with
     |sl0 b c hc=>exact⟨b,c,rfl,Nat.zero_le _,hc⟩
     |sl _ b off c _ _ hx _ _ hlen hc=>exact⟨_,c,rfl,hlen,hc⟩
    obtain⟨b,c,rfl,hlc,hcm⟩:=hform;have hr:=Dl (P:=P) (w:=w) (a:=a) (b:=b) (n:=xs.length) (c:=c) hT hk (ht e hk) (cJ hg e1) (hhh e2) hy h0 h1 h2 (by omega);have hcut:=hx.sl_cut hall (l:=l.toNat) (h:=h.toNat) (by omega) (by omega);have hlen:((xs.take h.toNat).drop l.toNat).length=h.toNat-l.toNat:=by simp;omega
    refine iV.plain m ?_ (.d _ _ (hcut.sl_any (c':=m'.toNat-l.toNat) (b':=if m'.toNat=l.toNat then b else b.map (·.add (l.toNat*(T e).size))) (by omega) (by omega) λhne=>?_))
    ·simp only[execOp,ho,hval,Sem.run_bind,hr,Result.andThen_ok,Sem.run_pure]
    ·have:h.toNat-l.toNat≠0:=λhz=>hne (List.eq_nil_of_length_eq_zero (by omega));rw[if_neg (by omega),if_neg (by omega)]
  ·exact hok.elim
 ·rename_i e id k n c hk;split at hok
  ·rename_i fz s xs hH;split at hok
   ·rename_i l h kk m' e1 e2 e3;simp only[iO.cond]at hok|-;obtain⟨h0,h1,h2,h3,h4⟩:=hok;obtain⟨y,rfl,hy⟩:=hmm e3;obtain⟨p,rfl,hn,hkc,hc,hb⟩:=lR m hH hx;have hr:=Dl (P:=P) (w:=w) (a:=a) (b:=p) (n:=n) (c:=c) hT hk (ht e hk) (cJ hg e1) (hhh e2) hy h0 h1 h2 (by omega);have hR:R w (Ex X β H) β H (.oc id (k+l.toNat) (h-l).toNat (m'-l).toNat) (.slice (if m'.toNat=l.toNat then p else p.map (·.add (l.toNat*(T e).size))) (h-l).toNat (m'-l).toNat):=by
     refine .oc id (k+l.toNat) (h-l).toNat (m'-l).toNat _ fz s xs hH (by omega) (by omega) (by omega) ?_;by_cases hcl:m'.toNat=l.toNat
     ·left;omega
     ·right;rcases hb with hb|⟨b,cur,e',rfl,hb,hblk,hcur⟩
      ·omega
      ·exact⟨b,hb,by rw[if_neg hcl];simp only[Option.map_some,Addr.add_lit];rw[<-h4,<-Nat.add_mul]⟩
    refine iV.plain m ?_ hR;have e4:(h-l).toNat=h.toNat-l.toNat:=by omega
    have e5:(m'-l).toNat=m'.toNat-l.toNat:=(by omega);rw[e4,e5];simp only[execOp,ho,hval,Sem.run_bind,hr,Result.andThen_ok,Sem.run_pure]
   ·exact hok.elim
  ·exact hok.elim
 ·exact hok.elim
theorem Nn(m:cV w0 X H β w)(hg:∀x,R w (Ex X β H) β H (g x) (a.eval x)){op:BinOp}{t u:TypeId}{x y:Operand}(ho:o.op=.binOp op t x y u)(hok:(rU op (g x) (g y)).ok):iV P w0 X H β w a o (rU op (g x) (g y)):=by
 have hx:=hg x;have hy:=hg y;generalize g x=lx at*;generalize g y=ly at*;unfold rU at*;split at hok
 ·rename_i k n k' n';have hx:=hx.int;have hy:=hy.int;cases op<;>simp only[iO.cond]at hok|-<;>first|(exact hok.elim)|skip
  all_goals
   subst hok;exact iV.plain m (by simp[execOp,ho,hx,hy,Ci,binOp,Op.intArith]) (bO _ _)
 ·exact hok.elim
theorem Cp(m:cV w0 X H β w){l:LV}{v:Value}(hr:R w (Ex X β H) β H l v){n:Nat}(h:El H l=some n):∃b c,v=.slice b n c/\n<=c/\c<=maxLen/\(b=none->n=0):=by
 unfold El at h;split at h
 ·injection h with h;subst h
  cases hr with
  |d _ _ hr=>cases hr with
   |sl0 b c hc=>exact⟨b,c,rfl,Nat.zero_le _,hc,λ_=>rfl⟩
   |sl _ b off c _ _ hx _ _ hlen hc=>exact⟨_,c,rfl,hlen,hc,λh=>by cases h⟩
 ·injection h with h;subst h
  cases hr with|nl b=>exact⟨b,0,rfl,Nat.le_refl _,Nat.zero_le _,λ_=>rfl⟩
 ·rename_i id k n';split at h
  ·rename_i hl;injection h with h;subst h
   cases hr with
   |ow _ _ _ b c _ _ _ _ _ _ _ _ hn hc=>exact⟨_,c,rfl,hn,hc,λh=>by cases h⟩
   |ow0 _ _ b=>exact⟨b,0,rfl,Nat.le_refl _,Nat.zero_le _,λ_=>rfl⟩
   |owdead _ _ _ _ hd=>rw[hd]at hl;cases hl
  ·cases h
 ·cases h
theorem Ou(hT:fC P T)(m:cV w0 X H β w)(hg:∀x,R w (Ex X β H) β H (g x) (a.eval x)){op:BinOp}{t u:TypeId}{x y:Operand}(ho:o.op=.binOp op t x y u)(hy:Am y=true){e b:Bool}(hok:(lH T H t e b op (g x)).ok):
 ∃b',(b'=true->e=true)/\iV P w0 X H β w a o (lH T H t e b' op (g x)):=by
 have hx:=hg x;generalize g x=lx at*;have hyc:y=.const (.slice none 0 0):=by
  unfold Am at hy;split at hy
  ·rfl
  ·cases hy
 subst hyc;have hev:a.eval (.const (.slice none 0 0))=.slice none 0 0:=rfl;unfold lH at hok;split at hok
 ·rename_i e' n hk hn;obtain⟨p,c,hv,h1,h2,h3⟩:=Cp m hx hn;simp only[iO.cond]at hok;refine⟨p.isNone,λh=>hok (h3 (by cases p<;>simp_all)),?_⟩;unfold lH;simp only[hk,hn,iO.cond];refine iV.plain m (v:=.bool p.isNone) ?_ (cB _);have:=Lib.run_eql_slice_nil (P:=P) w t e' p n c 0 0 (hT.slice hk);cases p<;>simp[execOp,ho,hv,hev,eqGuard,this]
 ·rename_i e' n hk hn;obtain⟨p,c,hv,h1,h2,h3⟩:=Cp m hx hn;simp only[iO.cond]at hok;refine⟨p.isNone,λh=>hok (h3 (by cases p<;>simp_all)),?_⟩;unfold lH;simp only[hk,hn,iO.cond];refine iV.plain m (v:=.bool (!p.isNone)) ?_ (cB _);have:=run_neq_slice_nil_any (P:=P) w t e' p n c 0 0 (hT.slice hk);cases p<;>simp[execOp,ho,hv,hev,eqGuard,this]
 ·exact hok.elim
theorem Ov(hT:fC P T)(m:cV w0 X H β w)(hg:∀x,R w (Ex X β H) β H (g x) (a.eval x)){t:TypeId}{x:Operand}(ho:o.op=.call {callee:=.builtin .cap,args:= #[x],argTypes:= #[t]}){lo c:Nat}(hok:(iU T H t lo c (g x)).ok):
 ∃c',lo<=c'/\c'<=maxLen/\iV P w0 X H β w a o (iU T H t lo c' (g x)):=by
 have hx:=hg x;generalize g x=lx at*;generalize hval:a.eval x=vx at hx;have fin:∀{e:TypeId} {b:Option Addr} {n c:Nat},(T t).k=.slice e->vx=.slice b n c->(execOp a.eval o).run P w=.ok (.value (.int .i64 c)) w:=λ{e b n c} hk hv=>by
  have hu:=hT.slice hk;subst hv;simp[execOp,ho,resolve,invoke,builtin,Builtin.cap_,run_underlying hu,hval,goInt]
 unfold iU at hok;split at hok
 ·rename_i e xs hk;simp only[iO.cond]at hok;cases hx with
  |d _ _ hx=>
   have hform:∃b c,vx=.slice b xs.length c/\xs.length<=c/\c<=maxLen:=by cases hx with
    |sl0 b c hc=>exact⟨b,c,rfl,Nat.zero_le _,hc⟩
    |sl _ b off c _ _ hx _ _ hlen hc=>exact⟨_,c,rfl,hlen,hc⟩
   obtain⟨b,c',hv,h1,h2⟩:=hform;refine⟨c',by omega,h2,?_⟩;unfold iU;simp only[hk,iO.cond];exact iV.plain m (fin hk hv) (bO _ _)
 ·rename_i e hk;simp only[iO.cond]at hok;cases hx with
  |nl b=>
   refine⟨0,by omega,Nat.zero_le _,?_⟩;unfold iU;simp only[hk,iO.cond];exact iV.plain m (fin hk rfl) (bO _ _)
 ·rename_i e id k n hk;split at hok
  ·rename_i fz sz xs hH;simp only[iO.cond]at hok;rcases lQ m hH hx with⟨b,c',cur,e',rfl,hb,hkn,hn,hc,hblk,hroom,hcap⟩|⟨p,rfl,rfl,hkx⟩
   ·refine⟨c',by omega,hc,?_⟩;unfold iU;simp only[hk,hH,iO.cond];exact iV.plain m (fin hk rfl) (bO _ _)
   ·refine⟨0,by omega,Nat.zero_le _,?_⟩;unfold iU;simp only[hk,hH,iO.cond];exact iV.plain m (fin hk rfl) (bO _ _)
  ·exact hok.elim
 ·exact hok.elim
theorem Np(hT:fC P T)(m:cV w0 X H β w)(hg:∀x,R w (Ex X β H) β H (g x) (a.eval x)){t:TypeId}{x:Operand}(ho:o.op=.call {callee:=.builtin .cap,args:= #[x],argTypes:= #[t]})(hok:(lP T H t (g x)).ok):
 iV P w0 X H β w a o (lP T H t (g x)):=by
 have hx:=hg x;generalize g x=lx at*;generalize hval:a.eval x=vx at hx;unfold lP at*;split at hok
 ·rename_i e id k n c hk;simp only[iO.cond]at hok|-;have hu:=hT.slice hk;cases hx with
  |oc _ _ _ _ p=>
   refine iV.plain m (v:=.int .i64 c) ?_ (bO _ _);simp[execOp,ho,resolve,invoke,builtin,Builtin.cap_,run_underlying hu,hval,goInt]
  |ocdead _ _ _ _ _ hd=>rw[hd]at hok;cases hok
 ·rename_i e hk;have hu:=hT.slice hk;cases hx with
  |nl p=>
   refine iV.plain m (v:=.int .i64 0) ?_ (bO _ _);simp[execOp,ho,resolve,invoke,builtin,Builtin.cap_,run_underlying hu,hval,goInt]
 ·exact hok.elim
theorem AH(hT:fC P T)(m:cV w0 X H β w)(hg:∀x,R w (Ex X β H) β H (g x) (a.eval x)){t u:TypeId}{s x:Operand}{dst:Nat}(ho:o.op=.call {callee:=.builtin .append,args:= #[s,x],argTypes:= #[t,u]})
 (hu:t=u\/(T u).k.isStr=true)(ht:∀e,(T t).k=.slice e->(T e).k.isNone=false)(hok:(dL T H dst t (g s) (g x)).ok):iV P w0 X H β w a o (dL T H dst t (g s) (g x)):=by
 have hs:=hg s;have hx:=hg x;generalize g s=ls at*;generalize g x=lx at*;unfold dL at*;split at hok
 ·rename_i e ys id k n c hk hy;split at hok
  ·rename_i sz xs hH;have hut:=hT.slice hk;obtain⟨inf,d0,z,h1,h2,h3,h4,h5,h6,h7⟩:=hT.parts (ht e hk);have huu:∃d,P.underlying u=some d/\∀k,d≠ .int k:=by
    rcases hu with rfl|hu
    ·exact⟨_,hut,λk=>by simp⟩
    ·have:(T u).k=.str:=by cases q:(T u).k<;>simp_all[TK.isStr]
     exact⟨_,hT.str this,λk=>by simp⟩
   obtain⟨d,hud,hdk⟩:=huu;have hzs:z.cells.size=(T e).size:=by
    have:=(hT e (ht e hk)).len;rw[<-h7]at this;simpa using this
   generalize hvs:a.eval s=vs at hs;obtain⟨p,rfl,hn,hkc,hc,hb⟩:=lR m hH hs;have hob:=m.obj id;simp only[cP,hH]at hob;obtain⟨hpos,hall,hob⟩:=hob;by_cases hin:n+ys.length<=c
   ·simp only[hin,if_true]at hok|-;obtain⟨hsz,hys⟩:=hok;subst hsz;obtain⟨news,e1,e2,e3,e4,e5⟩:=gK (P:=P) m hx hy hys;rw[<-h4]at e2;rcases hb with hc0|⟨b,cur,e',rfl,hb,hblk,hcur⟩
    ·have hy0:ys=[]:=List.eq_nil_of_length_eq_zero (by omega);subst hy0;have hn0:news=[]:=List.eq_nil_of_length_eq_zero (by simpa using e3);subst hn0;have hz:n=0:=by omega
     subst hz;subst hc0;have hrun:=eN (P:=P) (w:=w) (ty:=o.type) (base:=p) (sLen:=0) (sCap:=0) hut hud hdk h1 e1 e2 (Nat.le_refl _);have hid:bP H [(id,aV.row false (T e).size (aQ (k+0) xs []))]=H:=by rw[aR,pG];exact qA hH
     refine bG (v:=.slice p 0 0) (w':=w) (β':=β) (dM ho ?_) (by simp only[hid];exact m) (by simp only[hid];exact eY.refl) (by simp only[hid];exact hs);rw[hvs,hrun];cases p<;>simp[storeCells]
    ·obtain⟨m2,g2,hf,hblk2,hsz2⟩:=m.writeRow hH hb hblk (k:=k+n) hys (by omega) e3 e4 e5;have hrun:=eN (P:=P) (w:=w) (ty:=o.type) (base:=some ⟨b,k*(T e).size,none⟩) (sLen:=n) (sCap:=c) hut hud hdk h1 e1 e2 hin;have hst:=run_storeCells_at P b (k*(T e).size+n*(T e).size) e' news 0 cur w hblk (by rw[<-Nat.add_mul];omega) e4;refine bG (v:=.slice (some ⟨b,k*(T e).size,none⟩) (n+ys.length) c) (w':=w.setRow b (aQ ((k+n)*(T e).size) cur.toList news).toArray) (β':=β) (dM ho ?_) (by simp only[aR];exact m2) (by simp only[aR];exact g2) ?_
     ·rw[hvs,hrun];simp only[Addr.add_lit,h4];simp only[Nat.add_zero]at hst;rw[hst,Nat.add_mul];rfl
     ·simp only[aR];exact R.oc _ k (n+ys.length) c _ false (T e).size (aQ (k+n) xs ys) (by rw[aM]) hin (by rw[dI (by omega)];omega) hc (.inr ⟨b,hb,rfl⟩)
   ·simp only[hin,if_false]at hok|-;obtain⟨ha,hsz,hys,hby,hbl⟩:=hok;subst hsz;obtain⟨news,e1,e2,e3,e4,e5⟩:=gK (P:=P) m hx hy hys;rw[<-h4]at e2;have hne:dst≠id:=λe=>by rw[e,hH]at ha;cases ha
    have holds:∃olds:List Value,(∀w2:World,w2.heap=w.heap->(Builtin.firstCells inf.size n (.slice p n c)).run P w2=.ok olds.toArray w2)/\olds.length=n*(T e).size/\
     (∀u∈olds,u.oneCell'=true)/\∀(i:Nat) (d:DV) (u:Value),(bB ((xs.drop k).take n))[i]? =some d->olds[i]? =some u->RD w (Ex X β H) d u:=by
     rcases hb with hc0|⟨b,cur,e',rfl,hb,hblk,hcur⟩
     ·have hz:n=0:=(by omega);subst hz;refine⟨[],λw2 _=>?_,by simp,by simp,by simp[bB]⟩;cases p<;>simp[Builtin.firstCells,loadCells,loadCellsFrom]
     ·rw[h4];exact vS (P:=P) m hH hb (by omega) c
    obtain⟨olds,o1,o2,o3,o4⟩:=holds;have htk:((xs.drop k).take n).length=n:=by simp;omega
    have hallt:∀x∈(xs.drop k).take n++ys,(aK x).length=(T e).size:=λx hx=>by
     rcases List.mem_append.1 hx with hx|hx
     ·exact hall x (List.mem_of_mem_drop (List.mem_of_mem_take hx))
     ·exact hys x hx
    have hflt:(bB ((xs.drop k).take n)).length=n*(T e).size:=by rw[flat_len (λx hx=>hall x (List.mem_of_mem_drop (List.mem_of_mem_take hx))),htk]
    have hxl:((xs.drop k).take n++ys).length=n+ys.length:=(by rw[List.length_append,htk]);have hrun:=gX (P:=P) (w:=w) (ty:=o.type) (base:=p) (sLen:=n) (sCap:=c) hut hud hdk h1 h6 e1 e2 o1 (by omega) (by omega) (by rw[h5];exact hby);obtain⟨m2,g2,hR⟩:=tK m ha hpos hallt hzs hxl (news:=olds++news) (by rw[List.length_append,o2,e3,<-Nat.add_mul])
     (λu hu=>by
       rcases List.mem_append.1 hu with hu|hu
       ·exact o3 u hu
       ·exact e4 u hu)
     (λi d u hd hu=>by
       rw[gV]at hd;by_cases hi2:i<n*(T e).size
       ·rw[List.getElem?_append_left (by omega)]at hu;rw[List.getElem?_append_left (by omega)]at hd;exact o4 i d u hd hu
       ·rw[List.getElem?_append_right (by omega),o2]at hu;rw[List.getElem?_append_right (by omega),hflt]at hd;exact e5 _ d u hd hu)
     (by omega) hbl (old:=c) (e:=e) (cur:=(olds++news).toArray++Builtin.zeroCells z.cells (grownCap w (n+ys.length) c e-(n+ys.length))) rfl
    refine bG (dM ho ?_) (by simp only[aR];exact m2) (by simp only[aR];exact g2) (by simp only[aR];exact hR);rw[hvs,hrun];simp
  ·exact hok.elim
 ·exact hok.elim
theorem Gr(hT:fC P T)(m:cV w0 X H β w)(hg:∀x,R w (Ex X β H) β H (g x) (a.eval x)){t u:TypeId}{s x:Operand}{dst:Nat}(ho:o.op=.call {callee:=.builtin .append,args:= #[s,x],argTypes:= #[t,u]})
 (hu:(T u).k.isInt=true)(ht:∀e,(T t).k=.slice e->(T e).k.isNone=false)(hok:(fU T H dst t (g s) (g x)).ok):iV P w0 X H β w a o (fU T H dst t (g s) (g x)):=by
 have hs:=hg s;have hx:=hg x;generalize g s=ls at*;generalize g x=lx at*;obtain⟨ku,hku⟩:∃ku,(T u).k=.int ku:=by cases q:(T u).k<;>simp_all[TK.isInt]
 have hut2:=hT.int hku;unfold fU at*;generalize hvs:a.eval s=vs at hs;have key:∀{e:TypeId} {k':IntKind} {M n c:Nat} {p:Option Addr} {xs:List DV} {olds:List Value},(T t).k=.slice e->H dst=.absent->0<M->c<n+M->0<(T e).size->(n+M)*(T e).bytes<=140737488355328->n+M<=140737488355328->
  vs=.slice p n c->a.eval x=.int k' (M:Int)->(∀x∈xs,(aK x).length=(T e).size)->xs.length=n->
  (∀w2:World,w2.heap=w.heap->(Builtin.firstCells (T e).size n (.slice p n c)).run P w2=.ok olds.toArray w2)->olds.length=n*(T e).size->
      (∀u∈olds,u.oneCell'=true)->(∀(i:Nat) (d:DV) (u:Value),(bB xs)[i]? =some d->olds[i]? =some u->RD w (Ex X β H) d u)->
  iV P w0 X H β w a o ⟨.ow dst 0 (n+M),True,[(dst,.row false (T e).size (xs++List.replicate M (dH (T e))))]⟩:=by
  intro e k' M n c p xs olds hk ha hM hcM hpos hby hbl hv hvx hall hxn o1 o2 o3 o4;have hut:=hT.slice hk;obtain⟨inf,d0,z,h1,h2,h3,h4,h5,h6,h7⟩:=hT.parts (ht e hk);have h3:=(hT e (ht e hk)).zv.choose_spec.2.2;have hl:=(hT e (ht e hk)).len;have hzl:z.cells.size=(T e).size:=by rw[<-hl,<-h7];simp
  have hcl:∀i,i<M*(T e).size->(Builtin.zeroCells z.cells M)[i]? =some (z.cells[i%z.cells.size]!):=λi hi=>by
   simp[Builtin.zeroCells,hzl,hi]
  have hzr:=vU (P:=P) (w:=w) (E:=Ex X β H) hT (ht e hk) h7 M hcl;have hzc:(Builtin.zeroCells z.cells M).toList.length=M*(T e).size:=by simp[size_zeroCells,hzl]
  have hallz:∀y∈List.replicate M (dH (T e)),(aK y).length=(T e).size:=λy hy=>by rw[(List.mem_replicate.1 hy).2,jM h3,List.length_map,hl]
  have hone:∀u∈(Builtin.zeroCells z.cells M).toList,u.oneCell'=true:=λu hu=>by
   obtain⟨i,hi,rfl⟩:=List.getElem_of_mem hu;rw[hzc]at hi;have hfl:=flat_len hallz;rw[List.length_replicate]at hfl;exact(hzr i ((bB (List.replicate M (dH (T e))))[i]'(by omega)) _ (List.getElem?_eq_getElem _) (by simp)).1
  have hallt:∀x∈xs++List.replicate M (dH (T e)),(aK x).length=(T e).size:=λx hx=>by
   rcases List.mem_append.1 hx with hx|hx
   ·exact hall x hx
   ·exact hallz x hx
  have hflt:(bB xs).length=n*(T e).size:=by rw[flat_len hall,hxn]
  have hxl:(xs++List.replicate M (dH (T e))).length=n+M:=by rw[List.length_append,hxn,List.length_replicate]
  have hfit:=growslice_fits hcM (show(n+M)*inf.bytes<=140737488355328 by rw[h5];exact hby);have hrun:=Lib.run_append_grow_zeros (P:=P) w t u o.type e inf z k' ku hut hut2 h1 h6 p n c olds (by rw[h4];exact o1 w.drew rfl) M hM (by rw[h4];exact hpos) hcM (by omega) (by
   have:M*inf.bytes<=(n+M)*inf.bytes:=Nat.mul_le_mul_right _ (by omega);rw[h5]at this|-;omega) hfit
  obtain⟨m2,g2,hR⟩:=tK m ha hpos hallt hzl hxl (news:=olds++(Builtin.zeroCells z.cells M).toList) (by rw[List.length_append,o2,hzc,<-Nat.add_mul])
   (λu hu=>by
     rcases List.mem_append.1 hu with hu|hu
     ·exact o3 u hu
     ·exact hone u hu)
   (λi d u hd hu=>by
     rw[gV]at hd;by_cases hi2:i<n*(T e).size
     ·rw[List.getElem?_append_left (by omega)]at hu;rw[List.getElem?_append_left (by omega)]at hd;exact o4 i d u hd hu
     ·rw[List.getElem?_append_right (by omega),o2]at hu;rw[List.getElem?_append_right (by omega),hflt]at hd;exact(hzr _ d u hd (by simpa using hu)).2)
   (by omega) hbl (old:=c) (e:=e) (cur:=olds.toArray++Builtin.zeroCells z.cells M++Builtin.zeroCells z.cells (grownCap w (n+M) c e-(n+M))) (by
     apply Array.ext';simp[List.append_assoc])
  refine bG (dM ho ?_) (by simp only[aR];exact m2) (by simp only[aR];exact g2) (by simp only[aR];exact hR);rw[hvs,hv,hvx,hrun]
 split at hok
 ·rename_i e k' M hk;simp only at hok|-;obtain⟨ha,hM,hpos,hby,hbl⟩:=hok;obtain⟨N,rfl⟩:=Int.eq_ofNat_of_zero_le (Int.le_of_lt hM);simp only[Int.toNat_natCast]at hby hbl|-;cases hs with
  |nl b=>
   have:=key (k':=k') (M:=N) (n:=0) (c:=0) (p:=b) (xs:=[]) (olds:=[]) hk ha (by omega) (by omega) hpos (by rw[Nat.zero_add];exact hby) (by omega) rfl hx.int (by simp) rfl (λw2 _=>by
    cases b<;>simp[Builtin.firstCells,loadCells,loadCellsFrom]) (by simp) (by simp) (by simp[bB])
   simp only[Nat.zero_add,List.nil_append]at this;exact λK Q hK=>this K Q hK
 ·rename_i e id k n c k' M hk;split at hok
  ·rename_i sz xs hH;simp only at hok|-;obtain⟨ha,hM,hcM,hsz,hby,hbl⟩:=hok;subst hsz;obtain⟨N,rfl⟩:=Int.eq_ofNat_of_zero_le (Int.le_of_lt hM);simp only[Int.toNat_natCast]at hby hbl hcM|-;have hob:=m.obj id;simp only[cP,hH]at hob;obtain⟨hpos,hall,hob⟩:=hob;obtain⟨p,rfl,hn,hkc,hc,hb⟩:=lR m hH hs;have htk:((xs.drop k).take n).length=n:=by simp;omega
   have holds:∃olds:List Value,(∀w2:World,w2.heap=w.heap->(Builtin.firstCells (T e).size n (.slice p n c)).run P w2=.ok olds.toArray w2)/\olds.length=n*(T e).size/\
    (∀u∈olds,u.oneCell'=true)/\∀(i:Nat) (d:DV) (u:Value),(bB ((xs.drop k).take n))[i]? =some d->olds[i]? =some u->RD w (Ex X β H) d u:=by
    rcases hb with hc0|⟨b,cur,e',rfl,hb,hblk,hcur⟩
    ·have hz:n=0:=(by omega);subst hz;refine⟨[],λw2 _=>?_,by simp,by simp,by simp[bB]⟩;cases p<;>simp[Builtin.firstCells,loadCells,loadCellsFrom]
    ·exact vS (P:=P) m hH hb (by omega) c
   obtain⟨olds,o1,o2,o3,o4⟩:=holds;have:=key (k':=k') (M:=N) (n:=n) (c:=c) (p:=p) (xs:=(xs.drop k).take n) (olds:=olds) hk ha (by omega) hcM hpos hby hbl rfl hx.int (λx hx=>hall x (List.mem_of_mem_drop (List.mem_of_mem_take hx))) htk o1 o2 o3 o4;exact λK Q hK=>this K Q hK
  ·exact hok.elim
 ·exact hok.elim
theorem vV(hT:fC P T)(m:cV w0 X H β w){t u:TypeId}{s x:Operand}{dst:Nat}(ho:o.op=.call {callee:=.builtin .append,args:= #[s,x],argTypes:= #[t,u]})
 (hu:t=u\/(T u).k.isStr=true)(ht:∀e,(T t).k=.slice e->(T e).k.isNone=false){lx:LV}(hx:R w (Ex X β H) β H lx (a.eval x)){e:TypeId}{ys:List DV}(hk:(T t).k=.slice e)(hy:cZ H lx=some ys){b:Option Addr}(hvs:a.eval s=.slice b 0 0)
 (ha:H dst=.absent)(hpos:0<(T e).size)(hys:∀y∈ys,(aK y).length=(T e).size)(hby:ys.length*(T e).bytes<=140737488355328)(hbl:ys.length<=140737488355328):
 ∃c',ys.length<=c'/\c'<=maxLen/\∀A:Prop,iV P w0 X H β w a o ⟨.oc dst 0 ys.length c',A,[(dst,.row false (T e).size (ys++List.replicate (c'-ys.length) (dH (T e))))]⟩:=by
 have hut:=hT.slice hk;obtain⟨inf,d0,z,h1,h2,h3,h4,h5,h6,h7⟩:=hT.parts (ht e hk);have huu:∃d,P.underlying u=some d/\∀k,d≠ .int k:=by
  rcases hu with rfl|hu
  ·exact⟨_,hut,λk=>by simp⟩
  ·have:(T u).k=.str:=by cases q:(T u).k<;>simp_all[TK.isStr]
   exact⟨_,hT.str this,λk=>by simp⟩
 obtain⟨d,hud,hdk⟩:=huu;have hz3:=(hT e (ht e hk)).zv.choose_spec.2.2;have hl:=(hT e (ht e hk)).len;have hzs:z.cells.size=(T e).size:=by rw[<-hl,<-h7];simp
 obtain⟨news,e1,e2,e3,e4,e5⟩:=gK (P:=P) m hx hy hys;rw[<-h4]at e2;rcases Nat.eq_zero_or_pos ys.length with hz|hz
 ·have hy0:ys=[]:=List.eq_nil_of_length_eq_zero hz;subst hy0;have hn0:news=[]:=List.eq_nil_of_length_eq_zero (by simpa using e3);subst hn0;have hrun:=eN (P:=P) (w:=w) (ty:=o.type) (base:=b) (sLen:=0) (sCap:=0) hut hud hdk h1 e1 e2 (Nat.le_refl _);obtain⟨m2,g2⟩:=nA m ha hpos;refine⟨0,Nat.le_refl _,Nat.zero_le _,λA=>bG (v:=.slice b 0 0) (w':=w) (β':=bU β dst none) (dM ho ?_) (by simpa [aR]using m2) (by simpa [aR]using g2) ?_⟩
  ·rw[hvs,hrun];cases b<;>simp[storeCells]
  ·simp only[aR];exact R.oc dst 0 0 0 b false (T e).size [] (by rw[aM];rfl) (Nat.le_refl _) (by simp) (Nat.zero_le _) (.inl rfl)
 ·have hold:∀w2:World,w2.heap=w.heap->(Builtin.firstCells inf.size 0 (.slice b 0 0)).run P w2=.ok (List.toArray []) w2:=by
   intro w2 _;cases b<;>simp[Builtin.firstCells,loadCells,loadCellsFrom]
  have hrun:=gX (P:=P) (w:=w) (ty:=o.type) (base:=b) (sLen:=0) (sCap:=0) hut hud hdk h1 h6 e1 e2 hold (by omega) (by omega) (by rw[Nat.zero_add,h5];exact hby);have hge:=grownCap_ge w ys.length 0 e;have hcm:grownCap w ys.length 0 e<=maxLen:=grownCap_le_maxLen w ys.length 0 e (by unfold maxLen;omega);simp only[Nat.zero_add,Array.empty_append]at hrun;generalize hG:grownCap w ys.length 0 e=G at*;refine⟨G,hge,hcm,λA=>?_⟩;have hcl:∀i,i<(G-ys.length)*(T e).size->(Builtin.zeroCells z.cells (G-ys.length))[i]? =some (z.cells[i%z.cells.size]!):=λi hi=>by
   simp[Builtin.zeroCells,hzs,hi]
  have hzr:=vU (P:=P) (w:=w) (E:=Ex X β H) hT (ht e hk) h7 (G-ys.length) hcl;have hallz:∀y∈List.replicate (G-ys.length) (dH (T e)),(aK y).length=(T e).size:=λy hy=>by rw[(List.mem_replicate.1 hy).2,jM hz3,List.length_map,hl]
  have hallt:∀x∈ys++List.replicate (G-ys.length) (dH (T e)),(aK x).length=(T e).size:=λx hx=>by
   rcases List.mem_append.1 hx with hx|hx
   ·exact hys x hx
   ·exact hallz x hx
  have hfy:=flat_len hys;have hxl:(ys++List.replicate (G-ys.length) (dH (T e))).length=G:=by rw[List.length_append,List.length_replicate];omega
  obtain⟨cur,hcur⟩:∃cur,cur=news.toArray++Builtin.zeroCells z.cells (G-ys.length):=⟨_,rfl⟩;have hcs:cur.size=G*(T e).size:=by
   rw[hcur];simp only[Array.size_append,List.size_toArray,size_zeroCells,hzs,e3,<-Nat.add_mul];congr 1;omega
  have hblk:(w.drew.alloc (.cells cur e)).heap[w.heap.size]? =some (.cells cur e (0,0)):=heap_alloc_new w.drew _;obtain⟨m2,g2⟩:=vR m ha hpos hallt e (cur:=cur) (by rw[hxl,hcs];exact Nat.le_refl _) (λi dd v hdd hv=>by
   rw[gV]at hdd;rw[hcur]at hv;by_cases hi:i<ys.length*(T e).size
   ·rw[Array.getElem?_append_left (by simpa [e3]using hi)]at hv;rw[List.getElem?_append_left (by omega)]at hdd;have hv:news[i]? =some v:=by simpa using hv
    exact⟨e4 v (List.mem_of_getElem? hv),e5 i dd v hdd hv⟩
   ·rw[Array.getElem?_append_right (by simpa [e3]using hi)]at hv;rw[List.getElem?_append_right (by omega)]at hdd;simp only[List.size_toArray,e3]at hv;rw[hfy]at hdd;exact hzr _ dd v hdd hv) (w':=w.drew.alloc (.cells cur e)) ((BP.refl _ _).drew.alloc (Nat.le_refl _) _) (by simp) hblk
  rw[<-hcur]at hrun;refine bG (dM ho (by rw[hvs,hrun])) (by simp only[aR];exact m2) (by simp only[aR];exact g2) ?_;simp only[aR];have hR:=R.oc (w:=w.drew.alloc (.cells cur e)) (E:=Ex X (bU β dst (some w.heap.size)) (bU H dst (.row false (T e).size (ys++List.replicate (G-ys.length) (dH (T e)))))) (β:=bU β dst (some w.heap.size)) (H:=bU H dst (.row false (T e).size (ys++List.replicate (G-ys.length) (dH (T e)))))
   dst 0 ys.length G (some ⟨w.heap.size,0,none⟩) false (T e).size _ (by rw[aM]) hge (by rw[hxl,Nat.zero_add];exact Nat.le_refl _) hcm (.inr ⟨w.heap.size,by rw[aM],by rw[Nat.zero_mul]⟩)
  exact hR
theorem AI(hT:fC P T)(m:cV w0 X H β w)(hg:∀x,R w (Ex X β H) β H (g x) (a.eval x)){t u:TypeId}{s x:Operand}{dst lo c:Nat}(ho:o.op=.call {callee:=.builtin .append,args:= #[s,x],argTypes:= #[t,u]})
 (hu:t=u\/(T u).k.isStr=true)(ht:∀e,(T t).k=.slice e->(T e).k.isNone=false)(hok:(dD T H dst t lo c (g s) (g x)).ok):∃c',lo<=c'/\c'<=maxLen/\iV P w0 X H β w a o (dD T H dst t lo c' (g s) (g x)):=by
 have hs:=hg s;have hx:=hg x;generalize g s=ls at*;generalize g x=lx at*;unfold dD at*;split at hok
 ·rename_i e ys hk hy;simp only at hok;obtain⟨ha,hpos,hys,hby,hbl,rfl⟩:=hok;generalize hvs:a.eval s=vs at hs;cases hs with
  |nl b=>
   obtain⟨c',h1,h2,h3⟩:=vV hT m ho hu ht hx hk hy hvs ha hpos hys hby hbl;refine⟨c',h1,h2,?_⟩;simp only[hk,hy];exact h3 _
 ·rename_i e ys id k n cs hk hy;simp only at hok;obtain⟨hlv,rfl,rfl,ha,hpos,hys,hby,hbl,rfl⟩:=hok;generalize hvs:a.eval s=vs at hs;cases hs with
  |oc _ _ _ _ b=>
   obtain⟨c',h1,h2,h3⟩:=vV hT m ho hu ht hx hk hy hvs ha hpos hys hby hbl;refine⟨c',h1,h2,?_⟩;simp only[hk,hy];exact h3 _
  |ocdead _ _ _ _ _ hd=>rw[hd]at hlv;cases hlv
 ·exact hok.elim
theorem cV.learn(m:cV w0 X H β w){d:Nat}(hd:H d=.absent){x:LV}{v:Value}(hx:R w (Ex X β H) β H x v):
 cV w0 X (bU H d (.know x v)) (bU β d none) w/\eY X H β w (bU H d (.know x v)) (bU β d none) w:=
 m.newObj (BP.refl _ _) hd none (λb hb=>by cases hb) λ_ hR=>by
  unfold cP;rw[aM];exact hR _ _ hx
theorem Gs(hT:fC P T)(m:cV w0 X H β w)(hg:∀x,R w (Ex X β H) β H (g x) (a.eval x)){t u:TypeId}{s x:Operand}{dst lo c:Nat}{v:Value}(ho:o.op=.call {callee:=.builtin .append,args:= #[s,x],argTypes:= #[t,u]})
 (hu:t=u\/(T u).k.isStr=true)(ht:∀e,(T t).k=.slice e->(T e).k.isNone=false)(hok:(fT T H dst t lo c v (g s) (g x)).ok){rs:iO->Prop}(hrs:∀c v,lo<=c->c<=maxLen->rs (fT T H dst t lo c v (g s) (g x))):Kl P w0 X H β w a o rs:=by
 obtain⟨hok,hk⟩:=hok;obtain⟨c',h1,h2,h3⟩:=AI hT m hg ho hu ht hok;intro K Q hK;refine h3 K Q λv w' β' m' g' hv=>?_;have hform:bP H (dD T H dst t lo c' (g s) (g x)).up (dst+1000)=.absent/\v.oneCell'=true:=by
  unfold dD at hok m' hv|-;split at hok
  ·rename_i e ys hk1 hk2 hk3;simp only[hk1,hk2,hk3,aR]at hv|-;refine⟨by rw[bS _ _ (by omega)];exact hk,?_⟩;cases hv with
   |oc=>rfl
   |ocdead _ _ _ _ _ hd=>rw[aM]at hd;cases hd
  ·rename_i e ys id n cs hk1 hk2 hk3;simp only[hk1,hk2,hk3,aR]at hv|-;refine⟨by rw[bS _ _ (by omega)];exact hk,?_⟩;cases hv with
   |oc=>rfl
   |ocdead _ _ _ _ _ hd=>rw[aM]at hd;cases hd
  ·exact hok.elim
 obtain⟨m2,g2⟩:=m'.learn hform.1 hv;refine hK _ (hrs c' v h1 h2) v w' (bU β' (dst+1000) none) ?_ ?_ ?_
 ·simpa only[fT,fN]using m2
 ·simpa only[fT,fN]using g'.trans g2
 ·exact .d _ _ (.val v hform.2)
theorem Gt(hT:fC P T)(m:cV w0 X H β w)(hg:∀x,R w (Ex X β H) β H (g x) (a.eval x)){t u:TypeId}{s x:Operand}{dst kid:Nat}(ho:o.op=.call {callee:=.builtin .append,args:= #[s,x],argTypes:= #[t,u]})
 (hu:t=u\/(T u).k.isStr=true)(ht:∀e,(T t).k=.slice e->(T e).k.isNone=false)(hok:(gT T H dst t kid (g s) (g x)).ok):iV P w0 X H β w a o (gT T H dst t kid (g s) (g x)):=by
 unfold gT at hok|-;split at hok
 ·rename_i id k n c v v' hk hs;try simp only[hk,hs]
  obtain⟨rfl,hok⟩:=hok;have hkn:=m.obj kid;simp only[cP,hk]at hkn;have hsv:=hg s;rw[hs]at hsv;have hva:a.eval s=v':=by
   cases hsv with
   |d _ _ h=>cases h;rfl
  have hxs:x≠s:=λe=>by
   subst e;rw[hs]at hok;unfold dL at hok;split at hok
   ·rename_i hy _;simp[cZ]at hy
   ·exact hok
  classical
  have hg':∀y,R w (Ex X β H) β H ((λy=>if y=s then LV.oc id k n c else g y) y) (a.eval y):=λy=>by
   by_cases hy:y=s
   ·subst hy;simp only[if_true];rw[hva];exact hkn
   ·simp only[if_neg hy];exact hg y
  have:=AH (g:=λy=>if y=s then LV.oc id k n c else g y) (dst:=dst) hT m hg' ho hu ht (by simpa only[if_true,if_neg hxs]using hok);simp only[if_true,if_neg hxs]at this;exact this
 ·exact hok.elim
theorem KK(hT:fC P T)(m:cV w0 X H β w)(hg:∀x,R w (Ex X β H) β H (g x) (a.eval x)){f:Operand}{args:Array Operand}{ts:Array TypeId}(ho:o.op=.call {callee:=.value f,args:=args,argTypes:=ts})
 (hok:(jL P T H (g f) (args.toList.map g)).ok):iV P w0 X H β w a o (jL P T H (g f) (args.toList.map g)):=by
 have hf:=hg f;generalize g f=lf at*;unfold jL at*;split at hok
 ·rename_i fid i k n c j k' n' c' hl;split at hok
  ·rename_i fz s xs fz' s' xs' hi hj;simp only[hi,hj,iO.cond]at hok|-;obtain⟨hne,hn,hn',fn,t,tr,e,hfn,hname,hbody,hnext,hfind,hk,he⟩:=hok;obtain⟨l⟩:=args;have hform:∃p q,l=[p,q]:=by
    have:=congrArg List.length hl;simp only[List.length_map,List.length_cons,List.length_nil]at this
    match l,this with
    |[p,q],_=>exact⟨p,q,rfl⟩
   obtain⟨p,q,rfl⟩:=hform;simp only[List.map_cons,List.map_nil,List.cons.injEq,and_true]at hl;have hp:=hg p;have hq:=hg q;rw[hl.1]at hp;rw[hl.2]at hq;generalize hvp:a.eval p=vp at hp;generalize hvq:a.eval q=vq at hq;obtain⟨a1,rfl,h1,h2,h3,h4⟩:=lR m hi hp;obtain⟨a2,rfl,g1,g2,g3,g4⟩:=lR m hj hq;rcases h4 with h4|⟨b1,cur1,e1,rfl,hb1,hblk1,hcur1⟩
   ·omega
   rcases g4 with g4|⟨b2,cur2,e2,rfl,hb2,hblk2,hcur2⟩
   ·omega
   have hbb:b1≠b2:=λhb=>hne (m.inj i j b1 (by rw[hi];rfl) (by rw[hj];rfl) hb1 (by rw[hb];exact hb2));have hfe:a.eval f=.func (.func fid) #[] #[]:=by
    generalize a.eval f=vf at hf;cases hf with
    |d _ _ h=>cases h with
     |fn _ _ vs hl _=>
      have:vs=[]:=List.eq_nil_of_length_eq_zero hl;rw[this]
   have hs':0<s':=by have:=m.obj j;simp only[cP,hj]at this;exact this.1
   have hpos2:cur2.size≠0:=by
    have:1*1<=xs'.length*s':=Nat.mul_le_mul (by omega) hs';omega
   have hrun:(callFunc fid #[.slice (some ⟨b1,k*s,none⟩) n c,.slice (some ⟨b2,k'*s',none⟩) n' c']).run P w=.ok (.value (.bool false)) w:=by
    rw[run_callFunc_extern hfn hname hbody hnext hfind,
     Lib.run_overlaps_apart w t tr e (hT.slice hk) (T e).size (λw=>bQ hT he) ⟨b1,k*s,none⟩ ⟨b2,k'*s',none⟩ n c n' c' hbb e1 e2 cur1.size cur2.size (by simp[World.shape?,hblk1]) (by simp[World.shape?,hblk2]) hpos2 (by simp[World.frozen?,hblk1]) (by simp[World.frozen?,hblk1])]
    rfl
   refine iV.plain m (v:=.bool false) ?_ (cB _);simp only[execOp,ho,resolve,hfe,Deferred.ofValue,Sem.run_bind,Sem.run_pure,Result.andThen_ok,invoke,List.map_toArray,List.map_cons,List.map_nil,hvp,hvq,Array.empty_append,Array.append_empty,hrun]
  ·exact hok.elim
 ·exact hok.elim
end
end
section
open Go.RowKit
structure zO(T:TypeId->eC):Prop where
 eqk:∀t,(T t).eqk≠[]->(T t).k.isNone=false
 slice:∀t e,(T t).k=.slice e->(T e).k.isNone=false
 arr:∀t n e,(T t).k=.arr n e->(T e).k.isNone=false
 struct:∀t fs,(T t).k=.struct fs->∀p∈fs,(T p.2).k.isNone=false
section
variable{P:Program} {T:TypeId->eC} {w0:cX} {X:Nat->Prop} {H:Nat->aV} {β:Nat->Option Nat} {w:World} {a:Act} {o:Oper} {g:Operand->LV} {E:Nat->Prop}
theorem Ey(m:cV w0 X H β w)(hg:∀x,R w (Ex X β H) β H (g x) (a.eval x)){x:Operand}(ho:o.op=.nilCheck x){r:Option hU}(hok:(bK P T H g r o).ok):iV P w0 X H β w a o (bK P T H g r o):=by
 have hx:=hg x;simp only[bK,ho]at hok|-;generalize g x=lx at*;generalize hval:a.eval x=vx at hx;have fin:∀p,vx=.pointer (some p)->(execOp a.eval o).run P w=.ok (.value vx) w:=by
  intro p hp;subst hp;simp[execOp,ho,hval]
 have finf:∀f cs,vx=.func (.func f) #[] cs->(execOp a.eval o).run P w=.ok (.value vx) w:=by
  intro f cs hp;subst hp;simp[execOp,ho,hval]
 split at hok
 ·rename_i id off;simp only[iO.cond]at hok|-;have h0:=hx;cases hx with
  |bx _ _ b=>exact iV.plain m (fin _ rfl) h0
  |bxdead _ _ _ hd=>rw[hd]at hok;cases hok
 ·rename_i id k j;simp only[iO.cond]at hok|-;have h0:=hx;cases hx with
  |rp _ _ _ b=>exact iV.plain m (fin _ rfl) h0
  |rpdead _ _ _ _ hd=>rw[hd]at hok;cases hok
 ·have h0:=hx;cases hx with
  |d _ _ hx=>
   obtain⟨b,off,hv⟩:=hx.ro_form;exact iV.plain m (fin _ hv) h0
 ·have h0:=hx;cases hx with
  |d _ _ hx=>
   have:∃f cs,vx=.func (.func f) #[] cs:=by cases hx;exact⟨_,_,rfl⟩
   obtain⟨f,cs,hv⟩:=this;exact iV.plain m (finf _ _ hv) h0
 ·have h0:=hx;have:∃f cs,vx=.func (.func f) #[] cs:=by cases hx;exact⟨_,_,rfl⟩
  obtain⟨f,cs,hv⟩:=this;exact iV.plain m (finf _ _ hv) h0
 ·exact hok.elim
theorem KL(hT:fC P T)(m:cV w0 X H β w)(hg:∀x,R w (Ex X β H) β H (g x) (a.eval x)){t:TypeId}{x:Operand}(ho:o.op=.sliceToArrayPointer t x)(hok:(jK T H t (g x)).ok):iV P w0 X H β w a o (jK T H t (g x)):=by
 have hx:=hg x;unfold jK at*;split at hok
 ·rename_i n e xs hk hgx;rw[hgx]at hx;simp only[iO.cond]at hok|-;obtain⟨h0,h1,h2⟩:=hok;generalize hval:a.eval x=vx at hx;cases hx with
  |d _ _ hx=>
   cases hx with
   |sl0=>simp at h1;omega
   |sl _ b off c size us hne hb hs hlen hc hul h1c hlt hcell hp=>
    obtain⟨x0,r0,rfl⟩:=List.exists_cons_of_ne_nil hne;have hsz:size=(T e).size:=by rw[<-hs x0 (by simp)];exact h2 x0 (by simp)
    have hfl:=iA hs n;refine iV.plain m (v:=.pointer (some ⟨b,off,none⟩)) ?_ (.d _ _ (.ro _ b off (us.take (n*size)) hb ?_ (λu hu=>h1c u (List.mem_of_mem_take hu)) hlt (λj u hj=>?_) λi d v hd hv=>?_))
    ·have hu:=hT.arr hk;have hlen':¬(r0.length+1<n):=by simpa using h1
     simp[execOp,ho,hval,Instr.arrayAt,run_underlying hu,hlen']
    ·rw[hfl,List.length_take,List.length_take,flat_len hs,hul]
    ·rw[List.getElem?_take]at hj;split at hj
     ·exact hcell j u hj
     ·cases hj
    ·rw[hfl,List.getElem?_take]at hd;rw[List.getElem?_take]at hv;split at hd
     ·rename_i hi;rw[if_pos hi]at hv;exact hp i d v hd hv
     ·cases hd
 ·rename_i n e id k l c hk hgx;rw[hgx]at hx;simp only[iO.cond]at hok|-;generalize hval:a.eval x=vx at hx;have h0:=hx;cases hx with
  |sbdead _ _ _ _ _ hd=>rw[hd]at hok;cases hok.2.2
  |sb _ _ _ _ p b fz cs hH hb hn hc ha=>
   obtain⟨hp0,hok1,hok2⟩:=hok;obtain rfl:p=some ⟨b,k,none⟩:=ha.resolve_left (by omega);refine iV.plain m (v:=.pointer (some ⟨b,k,none⟩)) ?_ (.bx id k b fz cs hH hb);have hu:=hT.arr hk;have hlen':¬(l<n):=Nat.not_lt.2 hok1;simp[execOp,ho,hval,Instr.arrayAt,run_underlying hu,hlen']
 ·exact hok.elim
theorem IG(m:cV w0 X H β w)(hg:∀x,R w (Ex X β H) β H (g x) (a.eval x)){x:Operand}(ho:o.op=.assign x){r:Option hU}(hok:(bK P T H g r o).ok):iV P w0 X H β w a o (bK P T H g r o):=by
 simp only[bK,ho]at hok|-;split at hok
 ·rename_i e hgx hk ha;simp only at hok|-;have hpos:=hok;have hx:=hg x;rw[hgx]at hx;obtain⟨m2,g2⟩:=nA m ha hpos;have hform:∃b,a.eval x=.slice b 0 0:=by
   generalize a.eval x=v at hx;cases hx;exact⟨_,rfl⟩
  obtain⟨b,hb⟩:=hform;refine bG (v:=.slice b 0 0) (w':=w) (β':=bU β (o.dst.getD 0) none) (by simp[execOp,ho,hb]) (by simp only[aR];exact m2) (by simp only[aR];exact g2) ?_;simp only[aR];exact .ow0 _ 0 b false _ [] (by rw[aM]) (.inl ⟨by rw[aM],rfl⟩)
 ·exact HS m hg x (.inr ho)
theorem AJ(hT:fC P T)(hW:zO T)(m:cV w0 X H β w)(hg:∀x,R w (Ex X β H) β H (g x) (a.eval x)){r:Option hU}(hself:rQ r r)(hall:∀r',rQ r r'->(bK P T H g r' o).ok):Kl P w0 X H β w a o (λres=>∃r',rQ r r'/\res=bK P T H g r' o):=by
 have hok:=hall r hself;have det:iV P w0 X H β w a o (bK P T H g r o)->Kl P w0 X H β w a o (λres=>∃r',rQ r r'/\res=bK P T H g r' o):=λh=>h.toE ⟨r,hself,rfl⟩;cases ho:o.op with
 |move x=>refine det ?_;simp only[bK,ho]at hok|-;exact HS m hg x (.inl ho)
 |assign x=>exact det (IG m hg ho hok)
 |pick c x y=>refine det ?_;simp only[bK,ho]at hok|-;exact Nc m hg ho hok
 |alloc t=>refine det ?_;simp only[bK,ho]at hok|-;exact Ku hT m ho hok
 |box t x=>refine det ?_;simp only[bK,ho]at hok|-;exact On m hg ho hok
 |build t ps=>refine det ?_;simp only[bK,ho]at hok|-;exact KB hT m hg ho (hW.struct t) (hW.arr t) hok
 |buildSlice t n ps=>
  refine det ?_;simp only[bK,ho]at hok|-;by_cases h:yG r=true
  ·rw[if_pos h]at hok|-;exact Ay hT m hg ho (hW.slice t) hok
  ·rw[if_neg h]at hok|-;exact BQ hT m hg ho (hW.slice t) hok
 |load t x=>
  refine det ?_;simp only[bK,ho]at hok|-;by_cases h:(T t).k.isNone=true
  ·rw[if_pos h]at hok;exact hok.elim
  ·rw[if_neg h]at hok|-;exact Nd hT m hg ho (by simpa using h) hok
 |store t x y=>
  refine det ?_;simp only[bK,ho]at hok|-;by_cases h:(T t).k.isNone=true
  ·rw[if_pos h]at hok;exact hok.elim
  ·rw[if_neg h]at hok|-;exact Kw hT m hg ho (by simpa using h) hok
 |nilCheck x=>exact det (Ey m hg ho hok)
 |binOp op t x y u=>
  have std:(if(T t).k.isPtr then oA op (g x) (g y)else bA (T t).eqk (T t).k.isBool op (g x) (g y)).ok->iV P w0 X H β w a o (if(T t).k.isPtr then oA op (g x) (g y)else bA (T t).eqk (T t).k.isBool op (g x) (g y)):=λhok=>by
   by_cases hp:(T t).k.isPtr=true
   ·rw[if_pos hp]at hok|-;exact Om hT m hg ho hp hok
   ·rw[if_neg hp]at hok|-;exact Ol hT m hg ho hok (hW.eqk t)
  cases r with
  |none=>refine det ?_;simp only[bK,ho]at hok|-;exact std hok
  |some q=>cases q with
   |wrap=>refine det ?_;simp only[bK,ho]at hok|-;exact Nn m hg ho hok
   |nil e b=>
    simp only[bK,ho]at hok;by_cases hy:Am y=true
    ·rw[if_pos hy]at hok;obtain⟨b',h1,h2⟩:=Ou hT m hg ho hy hok;refine h2.toE ⟨_,⟨b',h1,rfl⟩,?_⟩;simp only[bK,ho,if_pos hy]
    ·rw[if_neg hy]at hok;exact hok.elim
   |_=>refine det ?_;simp only[bK,ho]at hok|-;exact std hok
 |unOp op t x=>refine det ?_;simp only[bK,ho]at hok|-;exact Ps m hg ho hok
 |convert s t x=>refine det ?_;simp only[bK,ho]at hok|-;exact Nh hT m hg ho hok
 |makeFunc fn first cs=>
  cases fn with
  |func f=>refine det ?_;simp only[bK,ho]at hok|-;exact Et m hg ho hok
  |_=>simp only[bK,ho]at hok;exact hok.elim
 |sliceToArrayPointer t x=>refine det ?_;simp only[bK,ho]at hok|-;exact KL hT m hg ho hok
 |slice t x lo hi mx=>
  refine det ?_;simp only[bK,ho]at hok|-;by_cases h:(mx.isSome&& !hi.isSome)=true
  ·rw[if_pos h]at hok;exact hok.elim
  ·rw[if_neg h]at hok|-;by_cases hi':(yG r&&mx.isSome)=true
   ·rw[if_pos hi']at hok|-;exact Ot hT m hg ho (hW.slice t) (by simp at hi';exact hi'.2) (λhm=>by cases hi<;>simp_all) hok
   rw[if_neg hi']at hok|-;exact KA hT m hg ho (hW.slice t) (λhm=>by cases hi<;>simp_all) hok
 |fieldAddr s x f=>refine det ?_;simp only[bK,ho]at hok|-;exact Kx hT m hg ho (hW.struct s) hok
 |field s x f=>refine det ?_;simp only[bK,ho]at hok|-;exact Nf hT m hg ho (hW.struct s) hok
 |indexAddr t x i=>refine det ?_;simp only[bK,ho]at hok|-;exact Di hT m hg ho (λe he=>he.elim (hW.slice t e) λ⟨n,hn⟩=>hW.arr t n e hn) hok
 |index t x i=>refine det ?_;simp only[bK,ho]at hok|-;exact Ky hT m hg ho (λe n=>hW.arr t n e) hok
 |extract x i=>refine det ?_;simp only[bK,ho]at hok|-;exact Gi m hg ho hok
 |makeMap t r=>
  cases r with
  |none=>refine det ?_;simp only[bK,ho]at hok|-;exact Gq m ho hok
  |some _=>simp only[bK,ho]at hok;exact hok.elim
 |lookup t x i ck=>refine det ?_;simp only[bK,ho]at hok|-;exact ID hT hW.eqk m hg ho hok
 |mapUpdate t x i y=>refine det ?_;simp only[bK,ho]at hok|-;exact Co hT hW.eqk m hg (.inl ho) hok
 |insert t x i y=>refine det ?_;simp only[bK,ho]at hok|-;exact Co hT hW.eqk m hg (.inr ho) hok
 |makeSlice t n c=>refine det ?_;simp only[bK,ho]at hok|-;exact Nl hT m hg ho (hW.slice t) hok
 |range t x=>
  refine det ?_;simp only[bK,ho]at hok|-;split at hok
  ·rename_i kt et hk;exact KG hT m hg ho hk hok
  ·exact hok.elim
 |call c=>
  obtain⟨callee,args,ts⟩:=c;cases callee with
  |value f=>
   by_cases h:yG r=true
   ·refine det ?_;simp only[bK,ho]at hok|-;rw[if_pos h]at hok|-;exact KK hT m hg ho hok
   ·have hni:∀r',rQ r r'->yG r'=false:=λr' hr=>by
     cases r with
     |none=>rw[show r'=none from hr];rfl
     |some q=>cases q<;>first|(exact absurd rfl h)|(rw[show r'=_ from hr];rfl)|(obtain⟨_,_,_,rfl⟩:=hr;rfl)|(obtain⟨_,_,rfl⟩:=hr;rfl)|(obtain⟨_,_,_,_,rfl⟩:=hr;rfl)
    have e:∀r',rQ r r'->bK P T H g r' o=cF P H r' (o.dst.getD 0) (g f) (cE (g f)++args.toList.map g):=λr' hr=>by
     simp only[bK,ho,hni r' hr,Bool.false_eq_true,if_false]
    refine(Ni m hg ho hself λr' hr=>by rw[<-e r' hr];exact hall r' hr).mono ?_;rintro res ⟨r',hr,rfl⟩;exact⟨_,⟨r',hr,rfl⟩,by rw[e r' hr],by rw[e r' hr]⟩
  |invoke r mth=>simp only[bK,ho]at hok;exact hok.elim
  |builtin b=>
   have one:∀{x:LV} {t:TypeId},args.toList.map g=[x]->ts.toList=[t]->∃p,args= #[p]/\ts= #[t]/\g p=x:=λ{x t} h1 h2=>by
    obtain⟨l⟩:=args;obtain⟨tl⟩:=ts;simp only at h1 h2;subst h2
    match l,h1 with
    |[p],h1=>simp at h1;exact⟨p,rfl,rfl,h1⟩
   have two:∀{s x:LV} {t u:TypeId},args.toList.map g=[s,x]->ts.toList=[t,u]->∃p q,args= #[p,q]/\ts= #[t,u]/\g p=s/\g q=x:=λ{s x t u} h1 h2=>by
    obtain⟨l⟩:=args;obtain⟨tl⟩:=ts;simp only at h1 h2;subst h2
    match l,h1 with
    |[p,q],h1=>simp at h1;exact⟨p,q,rfl,rfl,h1.1,h1.2⟩
   simp only[bK,ho]at hok hall det|-;split at hok
   ·rename_i x t h1 h2;obtain⟨p,rfl,rfl,rfl⟩:=one h1 h2;refine det ?_;simp only[List.map_cons,List.map_nil];exact Oq hT m hg ho hok
   ·rename_i s x t u h1 h2;obtain⟨p,q,rfl,rfl,rfl,rfl⟩:=two h1 h2;by_cases h:t=u\/(T u).k.isStr=true
    ·rw[if_pos h]at hok;split at hok
     ·refine det ?_;simp only[List.map_cons,List.map_nil];rw[if_pos h];exact Ew hT m hg ho h (hW.slice t) hok
     ·obtain⟨c',k1,k2,k3⟩:=AI hT m hg ho h (hW.slice t) hok;refine k3.toE ⟨_,⟨c',k1,k2,rfl⟩,?_⟩;simp only[List.map_cons,List.map_nil];rw[if_pos h]
     ·refine Gs hT m hg ho h (hW.slice t) hok λc' v' k1 k2=>⟨_,⟨c',v',k1,k2,rfl⟩,?_⟩;simp only[List.map_cons,List.map_nil];rw[if_pos h]
     ·refine det ?_;simp only[List.map_cons,List.map_nil];rw[if_pos h];exact Gt hT m hg ho h (hW.slice t) hok
     ·rename_i n1 n2 n3 n4;refine det ?_;simp only[List.map_cons,List.map_nil];rw[if_pos h];by_cases hi:Kr (g p)=true
      ·simp only[if_pos hi]at hok|-;exact AH hT m hg ho h (hW.slice t) hok
      ·simp only[if_neg hi]at hok|-;exact Iz hT m hg ho h (hW.slice t) hok
    ·rw[if_neg h]at hok;refine det ?_;simp only[List.map_cons,List.map_nil];rw[if_neg h];by_cases hi:(T u).k.isInt=true
     ·rw[if_pos hi]at hok|-;exact Gr hT m hg ho hi (hW.slice t) hok
     ·rw[if_neg hi]at hok;exact hok.elim
   ·rename_i x t h1 h2;obtain⟨p,rfl,rfl,rfl⟩:=one h1 h2;split at hok
    ·rename_i lo c hr;obtain⟨c',k1,k2,k3⟩:=Ov hT m hg ho hok;refine k3.toE ⟨_,⟨c',k1,k2,rfl⟩,?_⟩;simp only[List.map_cons,List.map_nil]
    ·refine det ?_;simp only[List.map_cons,List.map_nil];exact Np hT m hg ho hok
   ·rename_i x t h1 h2;obtain⟨p,rfl,rfl,rfl⟩:=one h1 h2;refine det ?_;simp only[List.map_cons,List.map_nil];exact KJ hT m hg ho (hW.slice t) hok
   ·rename_i s x t u h1 h2;obtain⟨p,q,rfl,rfl,rfl,rfl⟩:=two h1 h2;refine det ?_;simp only[List.map_cons,List.map_nil];by_cases hi:Kr (g p)=true
    ·rw[if_pos hi]at hok|-;exact KH hT m hg ho (hW.slice t) hok
    ·rw[if_neg hi]at hok|-;by_cases hi2:Dg (g p)=true
     ·rw[if_pos hi2]at hok|-;exact KI hT m hg ho (hW.slice t) hok
     ·rw[if_neg hi2]at hok|-;exact Nk hT m hg ho (hW.slice t) hok
   ·refine det ?_;exact KC (mx:=false) m hg ho hok
   ·refine det ?_;exact KC (mx:=true) m hg ho hok
   ·rename_i x k t u h1 h2;obtain⟨p,q,rfl,rfl,rfl,rfl⟩:=two h1 h2;refine det ?_;simp only[List.map_cons,List.map_nil];exact IE hT hW.eqk m hg ho hok
   ·exact hok.elim
 |_=>simp only[bK,ho]at hok;exact hok.elim
theorem qB{g g':Operand->LV}{r:Option hU}(h:∀x∈o.op.operands,g x=g' x):bK P T H g r o=bK P T H g' r o:=by
 have pairs:∀ps:Array (Nat×Operand),(∀p∈ps.toList,g p.2=g' p.2)->(ps.toList.map λp=>(p.1,g p.2))=ps.toList.map λp=>(p.1,g' p.2):=λps hp=>
  List.map_congr_left λp hm=>by rw[hp p hm]
 obtain⟨dst,op,type,pos,after,guard⟩:=o;cases op<;>simp only[Op.operands,Call.operands]at h<;>simp only[bK]
 case move x=>rw[h x (by simp)]
 case assign x=>rw[h x (by simp)]
 case pick c x y=>rw[h c (by simp),h x (by simp),h y (by simp)]
 case box t x=>rw[h x (by simp)]
 case build t ps=>rw[pairs ps λp hp=>h p.2 (by simp;exact⟨p.1,by simpa using hp⟩)]
 case buildSlice t n ps=>rw[pairs ps λp hp=>h p.2 (by simp;exact⟨p.1,by simpa using hp⟩)]
 case load t x=>rw[h x (by simp)]
 case store t x y=>rw[h x (by simp),h y (by simp)]
 case nilCheck x=>rw[h x (by simp)]
 case binOp op t x y u=>rw[h x (by simp),h y (by simp)]
 case unOp op t x=>rw[h x (by simp)]
 case convert s t x=>rw[h x (by simp)]
 case makeFunc fn first cs=>
  cases fn<;>simp only[];rw[List.map_congr_left λx hx=>h x (by simp;exact .inr (by simpa using hx)),show first.toList.map g=first.toList.map g' from List.map_congr_left λx hx=>h x (by simp;exact .inl (by simpa using hx))]
 case sliceToArrayPointer t x=>rw[h x (by simp)]
 case slice t x lo hi mx=>
  have e:∀y:Option Operand,(∀z∈y,g z=g' z)->y.map g=y.map g':=λy hy=>by cases y with
   |none=>rfl
   |some z=>simp[hy z (by simp)]
  rw[h x (by simp),e lo (λz hz=>h z (by simp at hz;simp[hz])),e hi (λz hz=>h z (by simp at hz;simp[hz])),e mx (λz hz=>h z (by simp at hz;simp[hz]))]
 case fieldAddr s x f=>rw[h x (by simp)]
 case field s x f=>rw[h x (by simp)]
 case makeSlice t n c=>rw[h n (by simp),h c (by simp)]
 case indexAddr t x i=>rw[h x (by simp),h i (by simp)]
 case index t x i=>rw[h x (by simp),h i (by simp)]
 case extract x i=>rw[h x (by simp)]
 case makeMap t r=>cases r<;>rfl
 case lookup t x i ck=>rw[h x (by simp),h i (by simp)]
 case mapUpdate t x i y=>rw[h x (by simp),h i (by simp),h y (by simp)]
 case insert t x i y=>rw[h x (by simp),h i (by simp),h y (by simp)]
 case range t x=>split<;>first|rw[h x (by simp)]|rfl
 case call c=>
  obtain⟨callee,args,ts⟩:=c;have ea:args.toList.map g=args.toList.map g':=List.map_congr_left λx hx=>h x (by simp;exact .inr (by simpa using hx));cases callee with
  |value f=>simp only[ea];rw[h f (by simp)]
  |invoke r m=>rfl
  |builtin b=>simp only[ea]
def strip:LV->LV
 | .when _ x=>x
 |x=>x
def Cq:LV->Bool
 | .when c _=>c
 |_=>true
def xG(want:Bool):LV->Option Bool
 | .d (.bool b)=>some (b==want)
 | .when c (.d (.bool b))=>some (c&&(b==want))
 |_=>none
def iQ:Op->List Operand
 | .pick c _ _=>[c]
 |op=>op.operands.toList
def gM(P:Program)(T:TypeId->eC)(H:Nat->aV)(g:Operand->LV)(r:Option hU)(o:Oper):iO:=
 match o.op with
 | .pick c x y=>lL (strip (g c)) (g x) (g y)
 |_=>bK P T H (λx=>strip (g x)) r o
def gQ(P:Program)(T:TypeId->eC)(slots:Nat->Option Nat)(env:Nat->LV)(H:Nat->aV)(r:Option hU)(o:Oper):iO:=
 match o.guard with
 |none=>bK P T H (oY env) r o
 |some (j,want)=>match(slots j).map λd=>xG want (env d)with
  |some (some ec)=>⟨.when ec (gM P T H (oY env) r o).v,(ec=true->(gM P T H (oY env) r o).ok)/\(ec=true->∀x∈iQ o.op,Cq (oY env x)=true),if ec=true then(gM P T H (oY env) r o).up else []⟩
  |_=>.fail
theorem R.strip{x:LV}{v:Value}(h:R w E β H x v)(hc:Cq x=true):R w E β H (Eng.strip x) v:=by
 cases x<;>try exact h
 cases h with|when _ _ _ h _=>exact h hc
def qC(r:Option hU):Prop:=rQ r r/\∀r',rQ r r'->r'=r
theorem Ez(hT:fC P T)(hW:zO T)(m:cV w0 X H β w)(hg:∀x,R w (Ex X β H) β H (g x) (a.eval x)){r:Option hU}(hself:rQ r r)(hall:∀r',rQ r r'->(gM P T H g r' o).ok)(hc:∀x∈iQ o.op,Cq (g x)=true):
 Kl P w0 X H β w a o (λres=>∃r',rQ r r'/\res=gM P T H g r' o):=by
 classical
 have hother:(∀c x y,o.op≠ .pick c x y)->Kl P w0 X H β w a o (λres=>∃r',rQ r r'/\res=gM P T H g r' o):=by
  intro hnp;have e1:∀r,gM P T H g r o=bK P T H (λx=>strip (g x)) r o:=λr=>by
   unfold gM;split
   ·rename_i h;exact absurd h (hnp _ _ _)
   ·rfl
  have e0:iQ o.op=o.op.operands.toList:=by
   unfold iQ;split
   ·rename_i h;exact absurd h (hnp _ _ _)
   ·rfl
  rw[e0]at hc
  let g2:Operand->LV:=λx=>if x∈o.op.operands then strip (g x)else .junk
  have e2:∀r,bK P T H (λx=>strip (g x)) r o=bK P T H g2 r o:=λr=>qB λx hx=>by simp[g2,hx]
  have e3:∀r,gM P T H g r o=bK P T H g2 r o:=λr=>(e1 r).trans (e2 r);simp only[e3]at hall|-;refine AJ hT hW m (λx=>?_) hself hall;by_cases hx:x∈o.op.operands
  ·simp only[g2,hx,if_true];exact(hg x).strip (hc x (by simpa using hx))
  ·simp only[g2,hx,if_false];exact .junk _
 cases ho:o.op with
 |pick c x y=>
  have hok:=hall r hself;refine iV.toE (r:=gM P T H g r o) ?_ ⟨r,hself,rfl⟩;simp only[gM,ho]at hok|-;exact As m ((hg c).strip (hc c (by simp[ho,iQ]))) (hg x) (hg y) ho hok
 |_=>exact hother (by intro _ _ _;rw[ho];simp)
def jV(env:Nat->LV)(dst:Option Nat)(l:LV):Nat->LV:=match dst with|some d=>bU env d l|none=>env
def Cr(N:Nat)(dst:Option Nat):Prop:=match dst with|some d=>d<N|none=>True
def eZ(P:Program)(T:TypeId->eC)(N:Nat)(slots:Nat->Option Nat)(orc:Nat->Option hU)(st:rP)(o:Oper):rP:=
 let r:=gQ P T slots st.env st.H (orc (o.dst.getD 0)) o
 {env:=jV st.env o.dst r.v
  H:=bP st.H r.up
  ok:=st.ok/\r.ok/\Cr N o.dst}
theorem KM{a:Act}{d:Nat}(hd:d<a.tmps.size)(v:Value)(t:Nat):(a.put (some d) v).tmps.getD t undef=if t=d then v else a.tmps.getD t undef:=by
 simp only[Act.put,Array.getD_eq_getD_getElem?,Array.getElem?_setIfInBounds];by_cases h:t=d
 ·subst h;simp[hd]
 ·rw[if_neg (λe=>h e.symm),if_neg h]
theorem oX.get{N:Nat}{env:Nat->LV}(s:oX N w0 X env H β a w)(x:Operand):R w (Ex X β H) β H (oY env x) (a.eval x):=by
 cases x with
 |tmp t=>exact s.env t
 |const v=>exact .const v
 |global g=>
  cases e:globD g with
  |none=>simp only[oY,e];exact .junk _
  |some cs=>simp only[oY,e];exact .d _ _ (s.mem.glob g cs e).1
 |func f=>exact .fn0 f
theorem oX.put{N:Nat}{env:Nat->LV}(s:oX N w0 X env H β a w){H':Nat->aV}{β':Nat->Option Nat}{w':World}(m:cV w0 X H' β' w')(gg:eY X H β w H' β' w'){dst:Option Nat}{l:LV}{v:Value}
 (hv:R w' (Ex X β' H') β' H' l v)(hd:Cr N dst):oX N w0 X (jV env dst l) H' β' (a.put dst v) w':=by
 refine⟨?_,?_,m.ext,m.xold,m.fresh,m.inj,λt=>?_,m.obj,m.pin⟩
 ·cases dst<;>exact gg.marks s.defers
 ·cases dst with
  |none=>exact s.size
  |some d=>simp only[Act.put,Array.size_setIfInBounds];exact s.size
 ·cases dst with
  |none=>exact gg.R (s.env t)
  |some d=>
   simp only[Cr,jV]at hd|-;rw[KM (by rw[s.size];exact hd)];unfold bU;split
   ·exact hv
   ·exact gg.R (s.env t)
theorem AK{N:Nat}{env:Nat->LV}(s:oX N w0 X env H β a w){ops:Array Oper}{j d:Nat}{want ec:Bool}(hs:(ops[j]?).bind (·.dst)=some d)(hd:d<N)(hc:xG want (env d)=some ec)
 (hg:o.guard=some (j,want)):Region.wanted o (yielded ops a.tmps)=ec:=by
 have hv:=s.env d;have hdv:a.tmps[d]? =some (a.tmps.getD d undef):=by
  have:d<a.tmps.size:=by rw[s.size];exact hd
  simp[Array.getD_eq_getD_getElem?,this]
 have hy:∀b,a.tmps.getD d undef=.bool b->yielded ops a.tmps j=some b:=λb hb=>by
  unfold yielded;rw[hs];simp[hdv,hb]
 unfold Region.wanted;rw[hg];simp only;unfold xG at hc;split at hc
 ·rename_i b he;injection hc with hc
  subst hc;rw[he]at hv;rw[hy b hv.bool];cases b<;>cases want<;>rfl
 ·rename_i c b he;injection hc with hc
  subst hc;rw[he]at hv;cases hv with
  |when _ _ _ hv h0=>
   cases c with
   |true=>rw[hy b (hv rfl).bool];cases b<;>cases want<;>rfl
   |false=>
    have hn:yielded ops a.tmps j=none:=by
     unfold yielded;rw[hs];simp only[Option.bind_some,hdv,h0 rfl];rfl
    rw[hn];cases want<;>rfl
 ·cases hc
theorem uR(hT:fC P T)(hW:zO T){N:Nat}{ops:Array Oper}{slots:Nat->Option Nat}(hsl:∀j d,slots j=some d->(ops[j]?).bind (·.dst)=some d/\d<N){r:Option hU}{st:rP}
 (s:oX N w0 X st.env st.H β a w)(hself:rQ r r)(hok:∀r',rQ r r'->(eZ P T N slots (λ_=>r') st o).ok){K:Act->World->Prop}{Q:Exit->Act->World->Prop}
 (hK:∀r',rQ r r'->∀a' w' β',oX N w0 X (eZ P T N slots (λ_=>r') st o).env (eZ P T N slots (λ_=>r') st o).H β' a' w'->K a' w'):
 if Region.wanted o (yielded ops a.tmps)then o.wp P a w K Q\/(o.asks P a w/\LetsOut Q)else K (a.put o.dst undef) w:=by
 have hok1:=λr' h=>(hok r' h).1;have hok2:=λr' h=>(hok r' h).2.1;have hok3:=(hok r hself).2.2;clear hok;simp only[eZ]at hK hok2;cases hg:o.guard with
 |none=>
  have e:∀r,gQ P T slots st.env st.H r o=bK P T st.H (oY st.env) r o:=λr=>by unfold gQ;rw[hg]
  simp only[e]at hK hok2;rw[if_pos (by simp[Region.wanted,hg])];left;refine AJ hT hW s.mem s.get hself hok2 K Q ?_;rintro res ⟨r',h',rfl⟩ v w' β' m gg hv;exact hK r' h' _ _ β' (s.put m gg hv hok3)
 |some p=>
  obtain⟨j,want⟩:=p;unfold gQ at hK hok2;simp only[hg]at hK hok2;have hok20:=hok2 r hself;split at hok20
  ·rename_i ec hec;simp only[hec]at hK hok2;obtain⟨q1,q2⟩:=hok20;obtain⟨d,hd1,hd2⟩:=Option.map_eq_some_iff.1 hec;obtain⟨hd3,hd4⟩:=hsl j d hd1;rw[AK s hd3 hd4 hd2 hg];cases ec with
   |true=>
    simp only[if_true];left;refine Ez hT hW s.mem s.get hself (λr' h'=>(hok2 r' h').1 rfl) (q2 rfl) K Q ?_;rintro res ⟨r',h',rfl⟩ v w' β' m gg hv;refine hK r' h' _ _ β' ?_;exact s.put m gg (.when true _ v (λ_=>hv) (λh=>by cases h)) hok3
   |false=>
    simp only[Bool.false_eq_true,if_false];exact hK r hself _ _ β (s.put s.mem eY.refl (.when false _ undef (λh=>by cases h) (λ_=>rfl)) hok3)
  ·exact hok20.elim
theorem zV{N:Nat}{slots:Nat->Option Nat}{orc:Nat->Option hU}:∀(l:List Oper) (st:rP),(l.foldl (eZ P T N slots orc) st).ok->st.ok
 |[],_,h=>h
 |o::l,st,h=>(zV l _ h).1
theorem uS(hT:fC P T)(hW:zO T){N:Nat}{ops:Array Oper}{slots:Nat->Option Nat}(hsl:∀j d,slots j=some d->(ops[j]?).bind (·.dst)=some d/\d<N){orc:Nat->Option hU}{Q:Exit->Act->World->Prop}:
 ∀(l:List Oper) (st:rP) (β:Nat->Option Nat) (a:Act) (w:World),(∀o∈l,qC (orc (o.dst.getD 0)))->oX N w0 X st.env st.H β a w->(l.foldl (eZ P T N slots orc) st).ok->
  (∀a' w' β',oX N w0 X (l.foldl (eZ P T N slots orc) st).env (l.foldl (eZ P T N slots orc) st).H β' a' w'->Q .normal a' w')->wpList P ops Q l a w
 |[],st,β,a,w,_,s,_,hQ=>hQ a w β s
 |o::l,st,β,a,w,hd,s,hok,hQ=>by
  obtain⟨d1,d2⟩:=hd o (by simp);have e:∀r',rQ (orc (o.dst.getD 0)) r'->eZ P T N slots (λ_=>r') st o=eZ P T N slots orc st o:=λr' h=>by rw[d2 r' h];rfl
  have:=uR (P:=P) (T:=T) hT hW (o:=o) hsl (r:=orc (o.dst.getD 0)) s d1 (λr' h=>by rw[e r' h];exact zV l _ hok) (K:=wpList P ops Q l) (Q:=Q) λr' h a' w' β' s'=>by
   rw[e r' h]at s';exact uS hT hW hsl l _ β' a' w' (λo ho=>hd o (by simp[ho])) s' hok hQ
  unfold wpList;exact this
structure EA{ι:Type}(orcs:ι->Nat->Option hU)(Φ:ι->Prop)(d0:Nat):Prop where
 base:∀i j,Φ i->Φ j->∀d,d≠d0->orcs i d=orcs j d
 det:∀i,Φ i->∀d,d≠d0->qC (orcs i d)
 self:∀i,Φ i->rQ (orcs i d0) (orcs i d0)
 alt:∀i,Φ i->∀r',rQ (orcs i d0) r'->∃j,Φ j/\orcs j d0=r'
theorem yS{N:Nat}{slots:Nat->Option Nat}{orc orc':Nat->Option hU}{st:rP}(h:orc (o.dst.getD 0)=orc' (o.dst.getD 0)):eZ P T N slots orc st o=eZ P T N slots orc' st o:=by
 unfold eZ;rw[h]
theorem yT(hT:fC P T)(hW:zO T){N:Nat}{ops:Array Oper}{slots:Nat->Option Nat}(hsl:∀j d,slots j=some d->(ops[j]?).bind (·.dst)=some d/\d<N){ι:Type}{orcs:ι->Nat->Option hU}{Φ:ι->Prop}{d0:Nat}(G:EA orcs Φ d0){Q:Exit->Act->World->Prop}(i0:ι)(h0:Φ i0):
 ∀(l:List Oper) (st:rP) (β:Nat->Option Nat) (a:Act) (w:World),(l.filter λo=>o.dst.getD 0==d0).length<=1->oX N w0 X st.env st.H β a w->(∀i,Φ i->(l.foldl (eZ P T N slots (orcs i)) st).ok)->
  (∀i,Φ i->∀a' w' β',oX N w0 X (l.foldl (eZ P T N slots (orcs i)) st).env (l.foldl (eZ P T N slots (orcs i)) st).H β' a' w'->Q .normal a' w')->wpList P ops Q l a w
 |[],st,β,a,w,_,s,_,hQ=>hQ i0 h0 a w β s
 |o::l,st,β,a,w,hc,s,hok,hQ=>by
  by_cases hd:o.dst.getD 0=d0
  ·have hno:∀o'∈l,o'.dst.getD 0≠d0:=λo' ho' e=>by
    rw[List.filter_cons,if_pos (by simp[hd])]at hc;have:o'∈l.filter λo=>o.dst.getD 0==d0:=List.mem_filter.2 ⟨ho',by simp[e]⟩;have:=List.length_pos_of_mem this;simp at hc;exact hc o' ho' e
   have e:∀i r',orcs i d0=r'->eZ P T N slots (λ_=>r') st o=eZ P T N slots (orcs i) st o:=λi r' h=>yS (by rw[hd,h]);have:=uR (P:=P) (T:=T) hT hW (o:=o) hsl (r:=orcs i0 d0) s (G.self i0 h0) (λr' h=>by
    obtain⟨j,hj,hr⟩:=G.alt i0 h0 r' h;rw[e j r' hr];exact zV l _ (hok j hj)) (K:=wpList P ops Q l) (Q:=Q) λr' h a' w' β' s'=>by
    obtain⟨j,hj,hr⟩:=G.alt i0 h0 r' h;rw[e j r' hr]at s';exact uS hT hW hsl l _ β' a' w' (λo' ho'=>G.det j hj _ (hno o' ho')) s' (hok j hj) (hQ j hj)
   unfold wpList;exact this
  ·obtain⟨d1,d2⟩:=G.det i0 h0 _ hd;have e:∀i,Φ i->eZ P T N slots (orcs i) st o=eZ P T N slots (orcs i0) st o:=λi hi=>yS (G.base i i0 hi h0 _ hd);have e2:∀r',rQ (orcs i0 (o.dst.getD 0)) r'->eZ P T N slots (λ_=>r') st o=eZ P T N slots (orcs i0) st o:=λr' h=>by rw[d2 r' h];rfl
   have:=uR (P:=P) (T:=T) hT hW (o:=o) hsl (r:=orcs i0 (o.dst.getD 0)) s d1 (λr' h=>by rw[e2 r' h];exact zV l _ (hok i0 h0)) (K:=wpList P ops Q l) (Q:=Q) λr' h a' w' β' s'=>by
    rw[e2 r' h]at s';refine yT hT hW hsl G i0 h0 l _ β' a' w' ?_ s' (λi hi=>?_) λi hi=>?_
    ·rw[List.filter_cons,if_neg (by simpa using hd)]at hc;exact hc
    ·have:=hok i hi;simp only[List.foldl_cons]at this;rw[e i hi]at this;exact this
    ·have:=hQ i hi;simp only[List.foldl_cons]at this;rw[e i hi]at this;exact this
   unfold wpList;exact this
end
end
section
open Go.RowKit
inductive LX where
 |normal
 |exit (id:Nat)
 |ret
def uT:Exit->LX->Prop
 | .normal,.normal=>True
 | .exit i,.exit j=>i=j
 | .ret,.ret=>True
 |_,_=>False
abbrev fJ:=Nat->LV
abbrev dU:=Nat->aV
def vW(o:Oper):Bool:=match o.op with
 | .defer _=>false
 |_=>true
def uA:Code->Bool
 | .seq a b=>uA a&&uA b
 | .cond _ a b=>uA a&&uA b
 | .block _ a=>uA a
 | .loop a=>uA a
 | .region _ ops _=>ops.all vW
 | .skip=>true
 | .ret=>true
 | .exit _=>true
 |_=>false
def RF(r:Option Nat):Fence:={Fence.wide with round:=r}
def nB(w0:cX)(r:Option Nat)(c:Code):Prop:=(r=none/\w0.flat=false)\/(uA c=true/\w0.flat=true)
theorem nB.seq1{w0:cX}{r:Option Nat}{x y:Code}(h:nB w0 r (.seq x y)):nB w0 r x:=h.imp (λh=>h) λ⟨h,h2⟩=>⟨by simp only[uA,Bool.and_eq_true]at h;exact h.1,h2⟩
theorem nB.seq2{w0:cX}{r:Option Nat}{x y:Code}(h:nB w0 r (.seq x y)):nB w0 r y:=h.imp (λh=>h) λ⟨h,h2⟩=>⟨by simp only[uA,Bool.and_eq_true]at h;exact h.2,h2⟩
theorem nB.cond1{w0:cX}{r:Option Nat}{c:Operand}{x y:Code}(h:nB w0 r (.cond c x y)):nB w0 r x:=h.imp (λh=>h) λ⟨h,h2⟩=>⟨by simp only[uA,Bool.and_eq_true]at h;exact h.1,h2⟩
theorem nB.cond2{w0:cX}{r:Option Nat}{c:Operand}{x y:Code}(h:nB w0 r (.cond c x y)):nB w0 r y:=h.imp (λh=>h) λ⟨h,h2⟩=>⟨by simp only[uA,Bool.and_eq_true]at h;exact h.2,h2⟩
theorem nB.block{w0:cX}{r:Option Nat}{i:Nat}{x:Code}(h:nB w0 r (.block i x)):nB w0 r x:=h.imp (λh=>h) λ⟨h,h2⟩=>⟨by simpa only[uA]using h,h2⟩
theorem nB.loop{w0:cX}{r:Option Nat}{x:Code}(h:nB w0 r (.loop x)):nB w0 r x:=h.imp (λh=>h) λ⟨h,h2⟩=>⟨by simpa only[uA]using h,h2⟩
theorem IH{P:Program}{r:Option Nat}{n:Nat}{row:String}{args:Array Value}{w:World}{R:Value->World->Prop}(h:Rows P row args w R):RowsIn (RF r) n P row args w R:=λc cs _=>
 let⟨v,w',h1,h2⟩:=h c cs
 ⟨v,w',h1,(StepsIn.of_steps h2).mono λm _=>fenced_wide P m⟩
theorem Nq{P:Program}{o:Oper}{a:Act}{w:World}{K K':Act->World->Prop}{Q:Exit->Act->World->Prop}(r:Option Nat)(hd:vW o=true)(hk:∀a w,K a w->K' a w)(h:o.wp P a w K Q):o.wpIn (RF r) 0 P a w K' Q:=by
 refine⟨λ_ _=>trivial,?_⟩;rw[Oper.semAt_eq _ _ _ (λc e=>by simp[vW,e]at hd)];unfold Oper.wp at h;revert h;cases(execOp a.eval o).run P w with
 |ok x w'=>
  cases x with
  |value v=>exact hk _ _
  |skip=>exact hk _ _
  |defer d=>exact hk _ _
  |enter f args=>exact λh=>⟨λh=>(by cases h),callsIn_wide.2 ((h:Calls P f args w' _).mono λe w' he=>by cases e<;>first|exact hk _ _ he|exact he)⟩
  |row row args=>exact λh=>⟨λh=>(by cases h),(IH (h:Rows P row args w' _)).mono λv w'=>hk _ _⟩
  |_=>exact λh=>h.elim
 |halt x w'=>cases x<;>exact id
def eG(P:Program)(N:Nat)(w0:cX)(X:Nat->Prop)(c:Code)(Q:LX->fJ->dU->Prop)(env:fJ)(H:dU):Prop:=
 ∀r,nB w0 r c->∀β a w,oX N w0 X env H β a w->c.wpIn (RF r) 0 P (λe a' w'=>∃x env' H' β',uT e x/\oX N w0 X env' H' β' a' w'/\Q x env' H') a w
def uU(K:fJ->dU->Prop)(Q:LX->fJ->dU->Prop):LX->fJ->dU->Prop
 | .normal,env,H=>K env H
 |e,env,H=>Q e env H
def AL(id:Nat)(Q:LX->fJ->dU->Prop):LX->fJ->dU->Prop
 | .exit i,env,H=>if i=id then Q .normal env H else Q (.exit i) env H
 |e,env,H=>Q e env H
section
variable{P:Program} {T:TypeId->eC} {N:Nat} {w0:cX} {X:Nat->Prop} {Q:LX->fJ->dU->Prop} {env:fJ} {H:dU}
theorem eG.mono{c:Code}{Q':LX->fJ->dU->Prop}(h:eG P N w0 X c Q env H)(hq:∀x env H,Q x env H->Q' x env H):eG P N w0 X c Q' env H:=
 λr hr β a w s=>wpIn_mono (h r hr β a w s) λ_ _ _ ⟨x,e,H,β',h1,h2,h3⟩=>⟨x,e,H,β',h1,h2,hq _ _ _ h3⟩
theorem eG.seq{x y:Code}(h:eG P N w0 X x (uU (eG P N w0 X y Q) Q) env H):eG P N w0 X (.seq x y) Q env H:=by
 intro r hr β a w s;refine wpIn_seq (wpIn_mono (h r hr.seq1 β a w s) ?_);rintro e a' w' ⟨lx,env',H',β',h1,h2,h3⟩;cases e<;>cases lx<;>simp only[uT]at h1
 ·exact h3 r hr.seq2 β' a' w' h2
 ·subst h1;exact⟨.exit _,env',H',β',rfl,h2,h3⟩
 ·exact⟨.ret,env',H',β',trivial,h2,h3⟩
theorem eG.skip(h:Q .normal env H):eG P N w0 X .skip Q env H:=λ_ _ β _ _ s=>wpIn_skip ⟨.normal,env,H,β,trivial,s,h⟩
theorem eG.ret(h:Q .ret env H):eG P N w0 X .ret Q env H:=λ_ _ β _ _ s=>wpIn_ret ⟨.ret,env,H,β,trivial,s,h⟩
theorem eG.exit{id:Nat}(h:Q (.exit id) env H):eG P N w0 X (.exit id) Q env H:=λ_ _ β _ _ s=>wpIn_exit ⟨.exit id,env,H,β,rfl,s,h⟩
theorem eG.block{id:Nat}{c:Code}(h:eG P N w0 X c (AL id Q) env H):eG P N w0 X (.block id c) Q env H:=by
 intro r hr β a w s;refine wpIn_block (wpIn_mono (h r hr.block β a w s) ?_);rintro e a' w' ⟨lx,env',H',β',h1,h2,h3⟩;cases e<;>cases lx<;>simp only[uT]at h1
 ·exact⟨.normal,env',H',β',trivial,h2,h3⟩
 ·subst h1;simp only[Exit.inBlock,AL]at h3|-;split at h3
  ·rename_i he;rw[if_pos he];exact⟨.normal,env',H',β',trivial,h2,h3⟩
  ·rename_i he;rw[if_neg he];exact⟨.exit _,env',H',β',rfl,h2,h3⟩
 ·exact⟨.ret,env',H',β',trivial,h2,h3⟩
theorem eG.cond{c:Operand}{x y:Code}{b:Bool}(hc:oY env c=.d (.bool b))(h1:b=true->eG P N w0 X x Q env H)(h2:b=false->eG P N w0 X y Q env H):eG P N w0 X (.cond c x y) Q env H:=by
 intro r hr β a w s;have hv:=s.get c;rw[hc]at hv;refine wpIn_cond hv.bool ?_;cases b
 ·exact h2 rfl r hr.cond2 β a w s
 ·exact h1 rfl r hr.cond1 β a w s
theorem EB{F:Fence}{d:Nat}{c:Code}{Q:Exit->Act->World->Prop}{a:Act}{w:World}(J:Nat->Act->World->Prop)(n:Nat)(h0:J n a w)
 (round:∀n a w,J n a w->c.wpIn F d P (Exit.then (λa' w'=>∃m,m<n/\J m a' w') Q) a w):(Code.loop c).wpIn F d P Q a w:=by
 intro b k cs hro hb hr;have key:∀n a w,J n a w->∃e a' w',Q e a' w'/\ArrivesIn (Machine.fenced P F) P (lone (b.atR a (.code c::.inLoop c::k)) cs w) b k cs e a' w':=by
  intro n;induction n using Nat.strongRecOn with
  |_ n ih=>
   intro a w hJ;obtain⟨e,a1,w1,hq,harr⟩:=round n a w hJ b (.inLoop c::k) cs hro hb hr;cases e with
   |normal=>
    obtain⟨m,hlt,hm⟩:=hq;obtain⟨e2,a2,w2,hq2,harr2⟩:=ih m hlt a1 w1 hm;exact⟨e2,a2,w2,hq2,.of_steps (StepsIn.trans harr (.one (fenced_calm hb hr rfl) stepR_inLoop)) harr2⟩
   |exit id=>exact⟨_,a1,w1,hq,.pass (x:=.inLoop c) rfl (λ_ _=>.inl (by simp)) harr⟩
   |goto l=>exact⟨_,a1,w1,hq,.pass (x:=.inLoop c) rfl (λ_ _=>.inl (by simp)) harr⟩
   |ret=>exact⟨_,a1,w1,hq,.pass (x:=.inLoop c) rfl (λ_ _=>.inl (by simp)) harr⟩
   |panic ch=>exact⟨_,a1,w1,hq,.pass (x:=.inLoop c) rfl (λ_ _=>.inl (by simp)) harr⟩
   |outgrown=>exact⟨_,a1,w1,hq,.pass (x:=.inLoop c) rfl (λ_ _=>.inl (by simp)) harr⟩
 obtain⟨e,a',w',hq,harr⟩:=key n a w h0;exact⟨e,a',w',hq,.of_steps (.one (fenced_calm hb hr rfl) stepR_loop) harr⟩
theorem Gu{N:Nat}{X:Nat->Prop}{w0:cX}{Q:LX->fJ->dU->Prop}(a:Act)(w:World):¬∃x env' H' β',uT .outgrown x/\oX N w0 X env' H' β' a w/\Q x env' H':=by
 rintro⟨x,_,_,_,h,_⟩;cases x<;>exact h
theorem EC{r:Option Nat}{ops:Array Oper}{Q:Exit->Act->World->Prop}(hno:∀a w,¬Q .outgrown a w)(hc:∀(i:Nat) (h:i<ops.size),vW ops[i]=true):∀(l:List Nat) (a:Act) (w:World),wpOps P ops Q l a w->wpOpsIn (RF r) 0 P ops Q l a w:=by
 intro l;induction l with
 |nil=>exact λa w h=>h
 |cons i rest ih=>
  intro a w h;simp only[wpOps]at h;simp only[wpOpsIn];cases ho:ops[i]? with
  |none=>rw[ho]at h;exact ih _ _ h
  |some o=>
   rw[ho]at h;obtain⟨hi,he⟩:=Array.getElem?_eq_some_iff.1 ho;have hd:vW o=true:=by have:=hc i hi;rw[he]at this;exact this
   simp only at h|-;split
   ·rename_i hw;rw[if_pos hw]at h;exact Nq r hd ih (h.resolve_right λ⟨_,a,w,q⟩=>hno a w q)
   ·rename_i hw;rw[if_neg hw]at h;exact⟨λ_ _=>trivial,ih _ _ h⟩
theorem Cs{r:Option Nat}{id:Nat}{ops:Array Oper}{Q:Exit->Act->World->Prop}{a:Act}{w:World}(hno:∀a w,¬Q .outgrown a w)(hr:nB w0 r (.region id ops false))(h:wpList P ops Q ops.toList a w):(Code.region id ops false).wpIn (RF r) 0 P Q a w:=by
 rcases hr with⟨rfl,_⟩|⟨hc,_⟩
 ·exact wpIn_wide.2 (wp_region_list h)
 ·simp only[uA,Array.all_eq_true]at hc;refine wpIn_region ?_;rw[List.range_eq_range',<-Array.length_toList];rw[<-wpOps_eq_wpList ops.toList 0 (by simp)]at h;exact EC hno hc _ _ _ h
theorem Gv{r:Option Nat}{id:Nat}{ops:Array Oper}{Q:Exit->Act->World->Prop}{a:Act}{w:World}(hno:∀a w,¬Q .outgrown a w)(hm:P.follows .mixedOrders=true)(hr:nB w0 r (.region id ops true))
 (h:wpAny P .any ops Q ops.size (Array.replicate ops.size false) a {w with drawn:=w.drawn+1}):(Code.region id ops true).wpIn (RF r) 0 P Q a w:=by
 rcases hr with⟨rfl,_⟩|⟨hc,_⟩
 ·exact wpIn_wide.2 (wp_region_any hm h)
 ·simp only[uA,Array.all_eq_true]at hc;refine wpIn_region_draw λt=>EC hno hc _ _ _ ?_;simp only[Region.schedule,hm,Bool.true_or,if_true];exact wpAny_sound ops.size t _ a _ h
theorem eG.region(hT:fC P T)(hW:zO T){id:Nat}{ops:Array Oper}{slots:Nat->Option Nat}(hsl:∀j d,slots j=some d->(ops[j]?).bind (·.dst)=some d/\d<N)(orc:Nat->Option hU)(hdet:∀d,qC (orc d))
 (hok:(ops.toList.foldl (eZ P T N slots orc) ⟨env,H,True⟩).ok)(h:Q .normal (ops.toList.foldl (eZ P T N slots orc) ⟨env,H,True⟩).env (ops.toList.foldl (eZ P T N slots orc) ⟨env,H,True⟩).H):
 eG P N w0 X (.region id ops false) Q env H:=by
 intro r hr β a w s;exact Cs Gu hr (uS hT hW hsl ops.toList ⟨env,H,True⟩ β a w (λo _=>hdet _) s hok λa' w' β' s'=>⟨.normal,_,_,β',trivial,s',h⟩)
theorem ED(hT:fC P T)(hW:zO T){id:Nat}{ops:Array Oper}{slots:Nat->Option Nat}(hsl:∀j d,slots j=some d->(ops[j]?).bind (·.dst)=some d/\d<N){ι:Type}{orcs:ι->Nat->Option hU}{Φ:ι->Prop}{d0:Nat}(G:EA orcs Φ d0)(i0:ι)(h0:Φ i0)
 (hc:(ops.toList.filter λo=>o.dst.getD 0==d0).length<=1)
 (h:∀i,Φ i->(ops.toList.foldl (eZ P T N slots (orcs i)) ⟨env,H,True⟩).ok/\Q .normal (ops.toList.foldl (eZ P T N slots (orcs i)) ⟨env,H,True⟩).env (ops.toList.foldl (eZ P T N slots (orcs i)) ⟨env,H,True⟩).H):
 eG P N w0 X (.region id ops false) Q env H:=by
 intro r hr β a w s;exact Cs Gu hr (yT hT hW hsl G i0 h0 ops.toList ⟨env,H,True⟩ β a w hc s (λi hi=>(h i hi).1) λi hi a' w' β' s'=>⟨.normal,_,_,β',trivial,s',(h i hi).2⟩)
end
end
section
open Go.RowKit
def qD(w0:cX)(env:fJ)(H:dU)(env':fJ)(H':dU):Prop:=
 ∀N X β a w,oX N w0 X env H β a w->∃β',oX N w0 X env' H' β' a w
section
variable{P:Program} {T:TypeId->eC} {N:Nat} {w0:cX} {X:Nat->Prop} {Q:LX->fJ->dU->Prop} {env env' env'':fJ} {H H' H'':dU}
theorem EE{c:Code}(h:qD w0 env H env' H')(k:eG P N w0 X c Q env' H'):eG P N w0 X c Q env H:=λr hr β a w s=>let⟨β',s'⟩:=h N X β a w s;k r hr β' a w s'
theorem Nr(keep:List Nat)(σ:List (Nat×Nat))(hσ:(σ.map (·.2)).Nodup)(hσ1:(σ.map (·.1)).Nodup)(hpin:∀id∈w0.pins,cY σ id=some id):
 ∀N X β a w,oX N w0 X env H β a w->∃β',oX N w0 X (aU (keep.map λt=>(t,ren σ 8 (env t)))) (aL (σ.map λp=>(p.2,cL σ (H p.1)))) β' a w/\∀i j,cY σ i=some j->aL (σ.map λp=>(p.2,cL σ (H p.1))) j=cL σ (H i)/\β' j=β i:=by
 intro N X β a w s
 let Hn:dU:=aL (σ.map λp=>(p.2,cL σ (H p.1)))
 let β':Nat->Option Nat:=λj=>((σ.find? λp=>p.2=j).map λp=>p.1).bind β
 have look:∀j,(∃p∈σ,p.2=j/\Hn j=cL σ (H p.1)/\β' j=β p.1)\/(Hn j=.absent/\β' j=none/\∀p∈σ,p.2≠j):=by
  intro j;have key:∀l:List (Nat×Nat),(∃p∈l,p.2=j/\gP (l.map λp=>(p.2,cL σ (H p.1))) j=cL σ (H p.1)/\((l.find? λp=>p.2=j).map λp=>p.1).bind β=β p.1)\/
   (gP (l.map λp=>(p.2,cL σ (H p.1))) j=.absent/\((l.find? λp=>p.2=j).map λp=>p.1).bind β=none/\∀p∈l,p.2≠j):=by
   intro l;induction l with
   |nil=>right;exact⟨rfl,rfl,by simp⟩
   |cons q r ih=>
    by_cases hq:q.2=j
    ·left;exact⟨q,List.mem_cons_self ..,hq,by simp[gP,hq],by simp[hq]⟩
    ·simp only[List.map_cons,gP,if_neg (λe:j=q.2=>hq e.symm),List.find?_cons];have:(decide (q.2=j))=false:=by simpa using hq
     simp only[this];rcases ih with⟨p,hp,h1,h2,h3⟩|⟨h1,h2,h3⟩
     ·exact .inl ⟨p,List.mem_cons_of_mem _ hp,h1,h2,h3⟩
     ·refine .inr ⟨h1,h2,λp hp=>?_⟩;rcases List.mem_cons.1 hp with rfl|hp
      ·exact hq
      ·exact h3 p hp
  exact key σ
 have hH:∀i j,cY σ i=some j->Hn j=cL σ (H i)/\β' j=β i:=by
  intro i j h;have hm:=pY h;rcases look j with⟨p,hp,h1,h2,h3⟩|⟨_,_,h3⟩
  ·have:=kV hσ p (i,j) hp hm h1;subst this;exact⟨h2,h3⟩
  ·exact absurd rfl (h3 _ hm)
 have hE:∀k,Ex X β' Hn k->Ex X β H k:=by
  intro k hk;rcases hk with hk|⟨j,h1,h2⟩
  ·exact .inl hk
  ·rcases look j with⟨p,hp,_,e1,e2⟩|⟨e1,_,_⟩
   ·rw[e1,pE]at h1;exact .inr ⟨p.1,h1,by rw[<-e2];exact h2⟩
   ·rw[e1]at h1;cases h1
 have hD:∀x v,RD w (Ex X β H) x v->RD w (Ex X β' Hn) x v:=λx v h=>h.anti hE;have hR:=R.ren hD hH;refine⟨β',⟨s.defers.anti hE,s.size,s.ext,s.xold,λj b hl hb=>?_,λi j b hi hj h1 h2=>?_,λt=>?_,λj=>?_,λid hid=>(s.pin id hid).of_ren (hH id id (hpin id hid)).1 (hH id id (hpin id hid)).2⟩,hH⟩
 ·rcases look j with⟨p,hp,_,e1,e2⟩|⟨e1,_,_⟩
  ·have hl':(Hn j).live=true:=hl;rw[e1,eO]at hl';refine(s.fresh p.1 b hl' (by rw[<-e2];exact hb)).imp (Or.imp (λh=>h) λh=>⟨h.1,λhm=>h.2 ?_⟩) (λh=>h);have hm':(Hn j).mut=true:=hm;rw[e1,pE]at hm';exact hm'
  ·have hl':(Hn j).live=true:=hl;rw[e1]at hl';cases hl'
 ·have hi':(Hn i).live=true:=hi;have hj':(Hn j).live=true:=hj;rcases look i with⟨p,hp,p1,e1,e2⟩|⟨e1,_,_⟩
  ·rcases look j with⟨q,hq,q1,f1,f2⟩|⟨f1,_,_⟩
   ·rw[e1,eO]at hi';rw[f1,eO]at hj';have:=s.inj p.1 q.1 b hi' hj' (by rw[<-e2];exact h1) (by rw[<-f2];exact h2);have:=kV hσ1 p q hp hq this;rw[<-p1,<-q1,this]
   ·rw[f1]at hj';cases hj'
  ·rw[e1]at hi';cases hi'
 ·have key:∀l:List Nat,R w (Ex X β' Hn) β' Hn (nZ (l.map λt=>(t,Eng.ren σ 8 (env t))) t) (a.tmps.getD t undef):=by
   intro l;induction l with
   |nil=>exact .junk _
   |cons u r ih=>
    simp only[List.map_cons,nZ];split
    ·rename_i e;subst e;exact hR 8 _ _ (s.env t)
    ·exact ih
  exact key keep
 ·have goal:cP w (Ex X β' Hn) β' Hn j:=by
   unfold cP;rcases look j with⟨p,hp,p1,e1,e2⟩|⟨e1,_,_⟩
   ·rw[e1];have ho:=s.obj p.1;unfold cP at ho;cases q:H p.1 with
    |absent=>trivial
    |dead=>trivial
    |box fz cs=>
     rw[q]at ho;simp only[cL]at ho|-;obtain⟨b,e,us,h1,h2,h3,h4,h5⟩:=ho;refine⟨b,e,us,by rw[e2];exact h1,h2,by simpa using h3,h4,λi c v hc hv=>?_⟩;obtain⟨c0,hc0,rfl⟩:=fK hc;exact hR 8 _ _ (h5 i c0 v hc0 hv)
    |row fz size xs=>
     rw[q]at ho;simp only[cL]at ho|-;obtain⟨h1,h2,h3⟩:=ho;refine⟨h1,h2,?_⟩;rcases h3 with⟨h3,h4⟩|⟨b,e,cur,h3,h4,h5,h6⟩
     ·exact .inl ⟨by rw[e2];exact h3,h4⟩
     ·exact .inr ⟨b,e,cur,by rw[e2];exact h3,h4,h5,λi d v hd hv=>⟨(h6 i d v hd hv).1,hD _ _ (h6 i d v hd hv).2⟩⟩
    |map fz ks vs=>
     rw[q]at ho;simp only[cL]at ho|-;obtain⟨b,arr,clock,h1,h2,h3,h4,h5,h6,h7⟩:=ho;exact⟨b,arr,clock,by rw[e2];exact h1,h2,h3,h4,h5,λi d e hd he=>hD _ _ (h6 i d e hd he),λi d e hd he=>hD _ _ (h7 i d e hd he)⟩
    |iter fz ks vs=>
     rw[q]at ho;simp only[cL]at ho|-;obtain⟨b,bm,arr,clock,seen,last,h1,h2,h3,h4,h5,h6,h7,h8,h9,h10,h11⟩:=ho;exact⟨b,bm,arr,clock,seen,last,by rw[e2];exact h1,h2,λh=>h3 (hE _ h),h4,h5,h6,h7,h8,h9,λi d e hd he=>hD _ _ (h10 i d e hd he),λi d e hd he=>hD _ _ (h11 i d e hd he)⟩
    |know x v=>
     rw[q]at ho;simp only[cL]at ho|-;exact hR 8 _ _ ho
   ·rw[e1];trivial
  exact goal
theorem EF(keep:List Nat)(σ:List (Nat×Nat))(hσ:(σ.map (·.2)).Nodup)(hσ1:(σ.map (·.1)).Nodup)(hpin:∀id∈w0.pins,cY σ id=some id):
 qD w0 env H (aU (keep.map λt=>(t,ren σ 8 (env t)))) (aL (σ.map λp=>(p.2,cL σ (H p.1)))):=λN X β a w s=>let⟨β',h,_⟩:=Nr keep σ hσ hσ1 hpin N X β a w s;⟨β',h⟩
theorem eG.len{c:Code}{t:Nat}{xs:List DV}(he:env t=.d (.sl xs))(h:xs.length<=9223372036854775807->eG P N w0 X c Q env H):eG P N w0 X c Q env H:=by
 intro r hr β a w s;have hv:=s.env t;rw[he]at hv;cases hv with
 |d _ _ hv=>
  obtain⟨b,c',_,h1,h2⟩:=hv.sl_len;exact h (by unfold maxLen at h2;omega) r hr β a w s
@[congr] theorem Pk{c:Code}(h1:env=env')(h2:H=H'):eG P N w0 X c Q env H=eG P N w0 X c Q env' H':=by rw[h1,h2]
def cD(N:Nat)(l:List Oper)(j:Nat):Option Nat:=match(l[j]?).bind (·.dst)with
 |some d=>if d<N then some d else none
 |none=>none
theorem qE(N:Nat)(l:List Oper):∀j d,cD N l j=some d->(l.toArray[j]?).bind (·.dst)=some d/\d<N:=by
 intro j d h;unfold cD at h;split at h
 ·rename_i d' hd;split at h
  ·injection h with h;subst h;exact⟨by simpa using hd,by assumption⟩
  ·cases h
 ·cases h
def eI(P:Program)(T:TypeId->eC)(N:Nat)(l:List Oper)(orc:Nat->Option hU)(env:fJ)(H:dU):rP:=l.foldl (eZ P T N (cD N l) orc) ⟨env,H,True⟩
theorem Dm(hT:fC P T)(hW:zO T){id:Nat}{l:List Oper}(orc:Nat->Option hU)(hdet:∀d,qC (orc d))(h:(eI P T N l orc env H).ok/\Q .normal (eI P T N l orc env H).env (eI P T N l orc env H).H):
 eG P N w0 X (.region id l.toArray false) Q env H:=
 eG.region hT hW (qE N l) orc hdet h.1 h.2
def mF{ι:Type}(d0:Nat)(base:Nat->Option hU)(g:ι->hU)(i:ι)(d:Nat):Option hU:=if d=d0 then some (g i)else base d
theorem AM{ι:Type}{d0:Nat}{base:Nat->Option hU}{g:ι->hU}{Φ:ι->Prop}(hdet:∀d,qC (base d))(hs:∀i,Φ i->rQ (some (g i)) (some (g i)))(ha:∀i,Φ i->∀r',rQ (some (g i)) r'->∃j,Φ j/\some (g j)=r'):EA (mF d0 base g) Φ d0:=by
 refine⟨λi j _ _ d hd=>?_,λi _ d hd=>?_,λi hi=>?_,λi hi r' hr=>?_⟩
 ·simp[mF,hd]
 ·simp only[mF,if_neg hd];exact hdet d
 ·simp only[mF,if_pos];exact hs i hi
 ·simp only[mF,if_pos]at hr|-;exact ha i hi r' hr
theorem AN(hT:fC P T)(hW:zO T){id:Nat}{l:List Oper}{ι:Type}(d0:Nat)(base:Nat->Option hU)(g:ι->hU)(Φ:ι->Prop)(hdet:∀d,qC (base d))(hs:∀i,Φ i->rQ (some (g i)) (some (g i)))(ha:∀i,Φ i->∀r',rQ (some (g i)) r'->∃j,Φ j/\some (g j)=r')
 (i0:ι)(h0:Φ i0)(hc:(l.filter λo=>o.dst.getD 0==d0).length<=1)
 (h:∀i,Φ i->(eI P T N l (mF d0 base g i) env H).ok/\Q .normal (eI P T N l (mF d0 base g i) env H).env (eI P T N l (mF d0 base g i) env H).H):
 eG P N w0 X (.region id l.toArray false) Q env H:=
 ED hT hW (qE N l) (AM hdet hs ha) i0 h0 hc h
def memless:DV->Bool
 | .int _ _=>true
 | .bool _=>true
 | .str _=>true
 | .val _=>true
 |_=>false
def Dn(H:dU):LV->Prop
 | .d (.agg cs)=>∀c∈cs,memless c=true
 | .d x=>memless x=true
 | .ow id k n=>match H id with
   | .row _ _ xs=>∀x∈(xs.drop k).take n,∀c∈aK x,memless c=true
   |_=>False
 | .nl=>True
 |_=>False
theorem RD.memless{w:World}{E E':Nat->Prop}{x:DV}{v:Value}(hm:Eng.memless x=true)(h:RD w E x v):RD w E' x v:=by
 cases h<;>first|exact .int _ _|exact .bool _|exact .str _|(exact .val _ (by assumption))|cases hm
theorem vX(hp:w0.pins=[]){b n:Nat}{A:Prop}(h:(w0.w.heap.size<=b\/w0.mine b/\A)/\b<n):w0.w.heap.size<=b:=by
 rcases h.1 with h|⟨⟨id,h,_⟩,_⟩
 ·exact h
 ·rw[hp]at h;cases h
theorem EG(hpn:w0.pins=[]){β:Nat->Option Nat}{a:Act}{w:World}{l:LV}{x:DV}{v:Value}(s:oX N w0 X env H β a w)(hr:R w (Ex X β H) β H l v)(hc:Eng.close H 8 l=some x)(hf:Dn H l):RD w (λk=>X k\/k<w0.w.heap.size) x v:=by
 cases l with
 |d y=>
  simp only[Eng.close,Option.some.injEq]at hc;subst hc;cases hr with
  |d _ _ hr=>
   cases y with
   |agg cs=>
    cases hr with
    |agg _ vs hl h1 hp=>exact .agg cs vs hl h1 λi c v hc hv=>(hp i c v hc hv).memless (hf c (List.mem_of_getElem? hc))
   |_=>exact hr.memless hf
 |nl=>
  simp only[Eng.close,Option.some.injEq]at hc;subst hc;cases hr with|nl b=>exact .sl0 b 0 (by unfold maxLen;omega)
 |ow id k n=>
  simp only[Dn]at hf;have hcl:=rV (E':=λ_=>False) s.obj (λ_ _ h=>h.anti λ_ h=>h.elim) 8 _ x v hc (λ_ _ _ _ h=>h) hr;cases q:H id with
  |row fz size xs=>
   rw[q]at hf;simp only[Eng.close,q,Option.some.injEq]at hc;subst hc;have hl:(H id).live=true:=by rw[q];rfl
   have hform:n=0\/∃b o c,β id=some b/\v=.slice (some ⟨b,o,none⟩) n c:=by
    cases hr with
    |ow _ _ _ b c _ _ _ _ _ _ hb'=>exact .inr ⟨b,_,c,hb',rfl⟩
    |owdead _ _ _ _ hd=>rw[q]at hd;cases hd
    |ow0=>exact .inl rfl
   clear hr;generalize hys:(xs.drop k).take n=ys at*;cases hcl with
   |sl0 b c hc=>exact .sl0 b c hc
   |sl _ b off c s' us hne hb hall hlen hc hul h1 hlt hcell hp=>
    refine .sl ys b off c s' us hne ?_ hall hlen hc hul h1 hlt hcell λi d v hd hv=>(hp i d v hd hv).memless ?_
    ·have hbid:β id=some b:=by
      rcases hform with hz|⟨b',o',c',hb',hv'⟩
      ·subst hz;exact absurd hys.symm hne
      ·injection hv' with hv' _ _
       injection hv' with hv'
       injection hv' with hv' _ _
       rw[hv'];exact hb'
     have:=vX hpn (s.fresh id b hl hbid);rintro(h|h)
     ·have:=(s.xold.1 b h).1;omega
     ·omega
    ·obtain⟨y,hy,hdy⟩:=List.mem_flatMap.1 (List.mem_of_getElem? hd);exact hf y (by rw[hys];exact hy) d hdy
  |_=>rw[q]at hf;exact hf.elim
 |_=>exact hf.elim
def oF(H:dU)(fresh:Bool)(l:LV):RV->Prop
 | .d x=>Eng.close H 8 l=some x/\(fresh=true->Dn H l)
 | .own s xs=>(match l with
   | .ow id k n=>match H id with
     | .row false s' ys=>k=0/\n=xs.length/\s'=s/\xs.length<=ys.length/\ys.take xs.length=xs
     |_=>False
   | .nl=>xs=[]/\0<s
   |_=>False)/\(fresh=true->∀x∈xs,∀c∈aK x,memless c=true)
 | .tup _=>False
theorem qF(hpn:w0.pins=[]){β:Nat->Option Nat}{a:Act}{w:World}{l:LV}{v:Value}{r:RV}{fresh:Bool}(s:oX N w0 X env H β a w)(hr:R w (Ex X β H) β H l v)(h:oF H fresh l r):
 ∃B:Option Nat,zN w0.w w (λk=>(X k\/fresh=true/\k<w0.w.heap.size)\/B=some k) B r v:=by
 cases r with
 |d x=>
  refine⟨none,?_⟩;obtain⟨h1,h2⟩:=h;show RD w _ x v;cases fresh with
  |true=>
   refine(EG hpn s hr h1 (h2 rfl)).anti λk hk=>?_;rcases hk with(hk|hk)|hk
   ·exact .inl hk
   ·exact .inr hk.2
   ·cases hk
  |false=>
   refine(gC s.mem h1 (λ_ h=>h) hr).anti λk hk=>?_;rcases hk with(hk|hk)|hk
   ·exact .inl hk
   ·cases hk.1
   ·cases hk
 |own sz xs=>
  obtain⟨h,hf⟩:=h;have hform:(l=.nl/\xs=[]/\0<sz)\/∃id ys,l=.ow id 0 xs.length/\H id=.row false sz ys/\xs.length<=ys.length/\ys.take xs.length=xs:=by
   cases l with
   |nl=>exact .inl ⟨rfl,h⟩
   |ow id k n=>
    simp only at h;split at h
    ·rename_i s' ys hH;obtain⟨h1,h2,h0,h3,h4⟩:=h;subst h1;subst h2;subst h0;exact .inr ⟨id,ys,rfl,hH,h3,h4⟩
    ·exact h.elim
   |_=>exact h.elim
  rcases hform with⟨rfl,rfl,hpos⟩|⟨id,ys,rfl,hH,hle,htk⟩
  ·cases hr with|nl b=>exact⟨none,hpos,by simp,.inl ⟨rfl,rfl,b,rfl⟩⟩
  have ho:=s.obj id;simp only[cP,hH]at ho;obtain⟨hpos,hall,ho⟩:=ho;have hl:(H id).live=true:=by rw[hH];rfl
  generalize hn:xs.length=n at hr;cases hr with
  |owdead _ _ _ _ hd=>rw[hH]at hd;cases hd
  |ow0 _ _ b=>exact⟨none,hpos,λx hx=>hall x (by rw[<-htk]at hx;exact List.mem_of_mem_take hx),.inl ⟨rfl,List.eq_nil_of_length_eq_zero hn,b,rfl⟩⟩
  |ow _ _ _ b c _ _ _ cur e hH' hb hkn hnc hc hblk hroom=>
   rw[hH]at hH';injection hH' with _ e1 e2;subst e1;subst e2
   have hallx:∀x∈xs,(aK x).length=sz:=λx hx=>hall x (by rw[<-htk]at hx;exact List.mem_of_mem_take hx);rcases ho with⟨hnone,hx⟩|⟨b',e',cur',hb',hblk',hlen',hp0⟩
   ·rw[hnone]at hb;cases hb
   ·rw[hb]at hb';injection hb' with hb';subst hb'
    rw[hblk]at hblk';injection hblk' with hblk';injection hblk' with p1 p2;subst p1;subst p2
    have hp:∀(i:Nat) (d:DV) (v:Value),(bB xs)[i]? =some d->cur[i]? =some v->v.oneCell'=true/\RD w (Ex X β H) d v:=λi d v hd hv=>by
     rw[<-htk,iA hall,List.getElem?_take]at hd;split at hd
     ·exact hp0 i d v hd hv
     ·cases hd
    refine⟨some b,hpos,hallx,.inr ⟨b,c,cur,e,rfl,by rw[Nat.zero_mul,hn],vX hpn (s.fresh id b hl hb),hblk,by omega,hc,by rw[Nat.zero_add]at hroom;exact hroom,λi d v hd hv=>⟨(hp i d v hd hv).1,?_⟩⟩⟩;cases fresh with
    |true=>
     obtain⟨y,hy,hdy⟩:=List.mem_flatMap.1 (List.mem_of_getElem? hd);exact(hp i d v hd hv).2.memless (hf rfl y hy d hdy)
    |false=>
     refine(hp i d v hd hv).2.anti λk hk=>?_;rcases hk with(hk|hk)|hk
     ·exact .inl hk
     ·cases hk.1
     ·injection hk with hk;subst hk;exact .inr ⟨id,by rw[hH];rfl,hb⟩
 |tup _=>exact h.elim
def iW(args:List DV):fJ:=aU ((args.zipIdx).map λp=>(p.2,.d p.1))
theorem yU(args:List DV)(t:Nat):iW args t=match args[t]? with|some x=>.d x|none=>.junk:=by
 have key:∀(l:List DV) (k t:Nat),nZ ((l.zipIdx k).map λp=>(p.2,LV.d p.1)) (k+t)=match l[t]? with|some x=>.d x|none=>.junk:=by
  intro l;induction l with
  |nil=>intro k t;simp[nZ]
  |cons x r ih=>
   intro k t;simp only[List.zipIdx_cons,List.map_cons,nZ];cases t with
   |zero=>simp
   |succ t=>
    rw[if_neg (by omega)];have:=ih (k+1) t;rw[show k+1+t=k+(t+1)by omega]at this;rw[this];simp
 have:=key args 0 t;rw[Nat.zero_add]at this;exact this
section still
variable{w:World} {l:Nat} {o:Obj} (o':Obj) (ho:w.heap[l]? =some o) (hc:rS o=false)
include ho hc
theorem iZ(k:Nat)(q:Obj)(hk:w.heap[k]? =some q)(hq:rS q=true):(w.putObj l o').heap[k]? =some q:=by
 refine(World.putObj_heap_other λe=>?_).trans hk;subst e;rw[ho]at hk;cases hk;rw[hc]at hq;cases hq
theorem tL{E:Nat->Prop}{d:DV}{v:Value}(h:RD w E d v):RD (w.putObj l o') E d v:=h.keep (iZ o' ho hc) (by simp)
theorem AO{β:Nat->Option Nat}{H:dU}(id:Nat):bL w β H (w.putObj l o') β H id:=by
 unfold bL;cases q:H id with
 |absent=>trivial
 |dead=>rfl
 |box fz cs=>exact .inr ⟨⟨_,_,rfl⟩,rfl⟩
 |row fz size xs=>exact .inr ⟨⟨_,_,rfl,Nat.le_refl _⟩,rfl,λb cur e _ hc'=>⟨cur,e,iZ o' ho hc _ _ hc' rfl,rfl⟩⟩
 |map fz ks vs=>exact .inr ⟨⟨_,_,_,rfl⟩,rfl⟩
 |iter fz ks vs=>exact .inr ⟨⟨_,_,_,rfl⟩,rfl⟩
 |know x v=>trivial
theorem Do{E:Nat->Prop}{β:Nat->Option Nat}{H:dU}{x:LV}{v:Value}(h:Eng.R w E β H x v):Eng.R (w.putObj l o') E β H x v:=h.step (λ_ _=>tL o' ho hc) (AO o' ho hc)
theorem cV.still{w0:cX}{X:Nat->Prop}{β:Nat->Option Nat}{H:dU}(m:cV w0 X H β w)(hl:w0.w.heap.size<=l):cV w0 X H β (w.putObj l o'):=by
 have hsz:(w.putObj l o').heap.size=w.heap.size:=by simp
 refine⟨⟨m.ext.os,m.ext.tape,m.ext.output,by rw[hsz];exact m.ext.size,λk hk hn=>(World.putObj_heap_other (by omega)).trans (m.ext.block k hk hn),m.ext.drawn⟩,m.xold,
  λid b h1 h2=>by rw[hsz];exact m.fresh id b h1 h2,m.inj,λid=>?_,λid hid=>(m.pin id hid).trans (AO o' ho hc id)⟩
 have ho2:=m.obj id;unfold cP at ho2|-;cases q:H id with
 |absent=>trivial
 |dead=>trivial
 |box fz cs=>
  rw[q]at ho2;obtain⟨b,e,us,z1,z2,z3,z4,z5⟩:=ho2;exact⟨b,e,us,z1,iZ o' ho hc _ _ z2 rfl,z3,z4,λi c v hc' hv=>Do o' ho hc (z5 i c v hc' hv)⟩
 |row fz size xs=>
  rw[q]at ho2;obtain⟨z1,z2,z3⟩:=ho2;refine⟨z1,z2,z3.imp (λh=>h) ?_⟩;rintro⟨b,e,cur,y1,y2,y3,y4⟩;exact⟨b,e,cur,y1,iZ o' ho hc _ _ y2 rfl,y3,λi d v hd hv=>⟨(y4 i d v hd hv).1,tL o' ho hc (y4 i d v hd hv).2⟩⟩
 |map fz ks vs=>
  rw[q]at ho2;obtain⟨b,arr,clock,z1,z2,z3,z4,z5,z6,z7⟩:=ho2;exact⟨b,arr,clock,z1,iZ o' ho hc _ _ z2 rfl,z3,z4,z5,λi d e hd he=>tL o' ho hc (z6 i d e hd he),λi d e hd he=>tL o' ho hc (z7 i d e hd he)⟩
 |iter fz ks vs=>
  rw[q]at ho2;obtain⟨b,bm,arr,clock,seen,last,z1,z2,z3,z4,z5,z6,z7,z8,z9,z10,z11⟩:=ho2;exact⟨b,bm,arr,clock,seen,last,z1,iZ o' ho hc _ _ z2 rfl,z3,by rw[hsz];exact z4,iZ o' ho hc _ _ z5 rfl,z6,z7,z8,z9,λi d e hd he=>tL o' ho hc (z10 i d e hd he),λi d e hd he=>tL o' ho hc (z11 i d e hd he)⟩
 |know x v=>
  rw[q]at ho2;exact Do o' ho hc ho2
end still
theorem oX.leave{n:Nat}{w0:cX}{X:Nat->Prop}{env:fJ}{H:dU}{β:Nat->Option Nat}{P:Program}{fn:Func}{R:Ending->World->Prop}{a:Act}{w:World}(s:oX n w0 X env H β a w)
 (h:∀a' w',a'.tmps=a.tmps->oX n w0 X env H β a' w'->∃v,(results fn a.tmps).run P w'=.ok v w'/\R (.returned v) w'):LeavesInM Fence.wide 0 P fn a.tmps R a.defers .returning w:=by
 obtain⟨Ds,h0,h1,h2,h3⟩:=s.defers;rw[h2];clear h2 h0;have base:oX n w0 X env H β {a with defers:=[]} w:=⟨Ce.nil,s.size,s.ext,s.xold,s.fresh,s.inj,s.env,s.obj,s.pin⟩;clear s;obtain⟨tm,df⟩:=a;simp only at base h|-;clear df;induction Ds generalizing w with
 |nil=>
  obtain⟨v,q1,q2⟩:=h ⟨tm,[]⟩ w rfl base;exact⟨v,q1,q2⟩
 |cons D Ds ih=>
  obtain⟨hD,hE,hb⟩:=h3 D (List.mem_cons_self ..);refine⟨by simp,.inl ⟨D,_,rfl,run_takeDeferred hb,?_⟩⟩;refine ih (List.nodup_cons.1 h1).2 (λD' hD'=>?_) ?_
  ·obtain⟨q1,q2,q3⟩:=h3 D' (List.mem_cons_of_mem _ hD');exact⟨q1,q2,(World.putObj_heap_other (k:=D') (r:=D) λe=>(List.nodup_cons.1 h1).1 (by rw[<-e];exact hD')).trans q3⟩
  ·have m:=(base.mem).still (.deferred none) hb rfl hD;exact⟨Ce.nil,base.size,m.ext,m.xold,m.fresh,m.inj,λt=>Do _ hb rfl (base.env t),m.obj,m.pin⟩
theorem qG{P:Program}{n:Nat}{w0:cX}{X:Nat->Prop}{env:fJ}{H:dU}{β:Nat->Option Nat}{f:FuncId}{fn:Func}{c:Code}{args:Array Value}{w:World}{R:Ending->World->Prop}{Q:LX->fJ->dU->Prop}
 (hf:P.funcs[f]? =some fn)(hb:fn.body=some c)(h0:w0.flat=false)(h:eG P n w0 X c Q env H)(s:oX n w0 X env H β ⟨args++Array.replicate (fn.ntmps-args.size) undef,[]⟩ w)
 (hQ:∀x env H β a w,Q x env H->oX n w0 X env H β a w->(match x with| .exit _=>False|_=>True)/\∃v,(results fn a.tmps).run P w=.ok v w/\R (.returned v) w):Calls P f args w R:=by
 refine(callsIn_wide (n:=0)).1 (callsIn_of_wp_marks hf hb trivial (wpIn_mono (h none (.inl ⟨rfl,h0⟩) β _ w s) ?_) rfl);rintro e a' w' ⟨x,env,H,β,h1,s,h2⟩;have key:∀(_:match x with| .exit _=>False|_=>True),LeavesInM Fence.wide 0 P fn a'.tmps R a'.defers .returning w':=λ_=>s.leave λa2 w2 e2 s2=>by
  have:=(hQ x env H β a2 w2 h2 s2).2;rw[e2]at this;exact this
 have hx:=(hQ x env H β a' w' h2 s).1;cases e<;>cases x<;>simp only[uT]at h1
 ·exact key trivial
 ·exact hx.elim
 ·exact key trivial
theorem qH{f:FuncId}{fn:Func}{c:Code}{args:List DV}{r:Gb}{n:Nat}(hf:P.funcs[f]? =some fn)(hname:(fn.name== "runtime.NumGoroutine")=false)(hb:fn.body=some c)(hn:fn.ntmps=n)(hargs:args.length<=n)
 (h:∀w0 X,w0.pins=[]->eG P n w0 X c (λx env H=>(match x with| .exit _=>False|_=>True)/\∀β a w,oX n w0 X env H β a w->∃v,(results fn a.tmps).run P w=.ok v w/\En w0.w w (λk=>X k\/r.fresh=true/\k<w0.w.heap.size) r.v v) (iW args) (aL [])):
 Ok P f args r:=by
 refine⟨⟨fn,hf,hname,by rw[hb];rfl⟩,λw X vs hX hr=>?_⟩;refine qG (β:=λ_=>none) hf hb rfl (h ⟨w,λ_=>none,λ_=>.absent,[],false⟩ X rfl) ?_ ?_
 ·refine⟨Ce.nil,?_,⟨rfl,rfl,rfl,Nat.le_refl _,λ_ _ _=>rfl,Nat.le_refl _⟩,⟨λk hk=>⟨hX.1 k hk,by rintro⟨id,hid,_⟩;cases hid⟩,hX.2.anti λk hk=>by rcases hk with hk|⟨id,hid,_⟩;exact hk;cases hid⟩,λid b hl _=>by simp[aL,gP,aV.live]at hl,λi j b hi _=>by simp[aL,gP,aV.live]at hi,λt=>?_,λid=>by unfold cP;trivial,λid hid=>by cases hid⟩
  ·have:=hr.1;simp;omega
  ·rw[yU];cases q:args[t]? with
   |none=>exact .junk _
   |some x=>
    have ht:t<vs.length:=by rw[hr.1];exact(List.getElem?_eq_some_iff.1 q).1
    have hv:(vs.toArray++Array.replicate (fn.ntmps-vs.toArray.size) undef).getD t undef=vs[t]:=by
     simp[Array.getD_eq_getD_getElem?,Array.getElem?_append_left,ht]
    rw[hv];refine .d _ _ ((hr.2 t x _ q (List.getElem?_eq_getElem ht)).anti λk hk=>?_);rcases hk with hk|⟨id,h1,_⟩
    ·exact hk
    ·cases h1
 ·rintro x env H β a' w' ⟨h2,h3⟩ s;obtain⟨v,hv1,hv2⟩:=h3 β a' w' s;have hbel:BP w.heap.size w w':=⟨s.ext.os,s.ext.tape,s.ext.output,s.ext.size,λk hk=>s.ext.block k hk (by rintro⟨id,hid,_⟩;cases hid),s.ext.drawn⟩;exact⟨h2,v,hv1,v,rfl,hbel,hv2⟩
theorem Ok.one{f:FuncId}{fn:Func}{c:Code}{args:List DV}{r:Gb}{n t:Nat}(hf:P.funcs[f]? =some fn)(hname:(fn.name== "runtime.NumGoroutine")=false)(hb:fn.body=some c)(hn:fn.ntmps=n)(hargs:args.length<=n)(hres:fn.results= #[.tmp t])
 (hrt:∀rs,r.v≠ .tup rs)(h:∀w0 X,w0.pins=[]->eG P n w0 X c (λx env H=>(match x with| .exit _=>False|_=>True)/\oF H r.fresh (env t) r.v) (iW args) (aL [])):Ok P f args r:=by
 refine qH hf hname hb hn hargs λw0 X hpn=>(h w0 X hpn).mono λx env H ⟨h1,h2⟩=>⟨h1,λβ a w s=>⟨a.tmps.getD t undef,results_tmp hres _ _ _,?_⟩⟩;obtain⟨B,hB⟩:=qF hpn s (s.env t) h2;cases q:r.v with
 |tup rs=>exact absurd q (hrt rs)
 |d x=>rw[q]at hB;exact⟨B,hB⟩
 |own sz xs=>rw[q]at hB;exact⟨B,hB⟩
end
end
open Go.RowKit
def Dp:Value->Value->Bool
 | .bool a,.bool b=>a==b
 | .int j a,.int k b=>j==k&&a==b
 | .string a,.string b=>a.data.toList==b.data.toList
 | .slice none 0 0,.slice none 0 0=>true
 | .pointer none,.pointer none=>true
 | .map none,.map none=>true
 | .nilFunc,.nilFunc=>true
 | .nilIface,.nilIface=>true
 |_,_=>false
theorem Gw{a b:Value}(h:Dp a b=true):a=b:=by
 unfold Dp at h;split at h
 ·simp only[beq_iff_eq]at h;rw[h]
 ·simp only[Bool.and_eq_true,beq_iff_eq]at h;rw[h.1,h.2]
 ·rename_i a b;simp only[beq_iff_eq]at h;have:=congrArg (λl:List UInt8=>(⟨l.toArray⟩:ByteArray)) h;simp only[tI]at this;rw[this]
 all_goals first|rfl|cases h
def vY:List Value->List Value->Bool
 |[],[]=>true
 |a::x,b::y=>Dp a b&&vY x y
 |_,_=>false
theorem sB:∀{x y:List Value},vY x y=true->x=y
 |[],[],_=>rfl
 |a::x,b::y,h=>by simp only[vY,Bool.and_eq_true]at h;rw[Gw h.1,sB h.2]
 |[],_::_,h=>by cases h
 |_::_,[],h=>by cases h
def vZ:List Field->List (Nat×TypeId)->Bool
 |[],[]=>true
 |f::x,p::y=>f.offset==p.1&&f.type==p.2&&vZ x y
 |_,_=>false
theorem yV:∀{x:List Field} {y:List (Nat×TypeId)},vZ x y=true->x.map (λf=>(f.offset,f.type))=y
 |[],[],_=>rfl
 |f::x,p::y,h=>by
  simp only[vZ,Bool.and_eq_true,beq_iff_eq]at h;simp only[List.map_cons];rw[yV h.2,h.1.1,h.1.2]
 |[],_::_,h=>by cases h
 |_::_,[],h=>by cases h
def Qc:TypeDesc->TK->Bool
 | .int k,.int k'=>k==k'
 | .bool,.bool=>true
 | .string,.str=>true
 | .slice e,.slice e'=>e==e'
 | .struct fs,.struct l=>vZ fs.toList l
 | .array n e,.arr n' e'=>n==n'&&e==e'
 | .pointer e,.ptr e'=>e==e'
 | .map k e,.map k' e'=>k==k'&&e==e'
 | .map _ _,.other=>true
 | .func _ _ _,.other=>true
 | .interface _,.other=>true
 | .tuple _,.other=>true
 |_,_=>false
theorem Ow{d:TypeDesc}{k:TK}(h:Qc d k=true):pW d k:=by
 unfold Qc at h;split at h<;>simp only[pW]
 ·simpa using h
 ·simpa using h
 ·exact yV h
 ·simpa using h
 ·simpa using h
 ·simpa using h
 ·cases h
def zW(P:Program)(t:TypeId):TK->Bool
 | .int k=>match P.underlying t with|some (.int k')=>k==k'|_=>false
 | .bool=>match P.underlying t with|some .bool=>true|_=>false
 | .str=>match P.underlying t with|some .string=>true|_=>false
 |_=>false
theorem AP{P:Program}{t:TypeId}{k:TK}(h:zW P t k=true):fM P t k:=by
 cases k<;>simp only[zW]at h<;>simp only[fM]<;>first|(cases h;done)|skip
 all_goals(split at h<;>first|(cases h;done)|skip)
 ·rename_i e;simp only[beq_iff_eq]at h;rw[e,h]
 ·rename_i e;exact e
 ·rename_i e;exact e
def pH(P:Program):Nat->List Field->List TK->Bool
 |_,[],[]=>true
 |j,f::x,k::y=>f.name != "_" &&f.offset==j&&zW P f.type k&&pH P (j+1) x y
 |_,_,_=>false
theorem qI{P:Program}:∀{j:Nat} {x:List Field} {y:List TK},pH P j x y=true->x.length=y.length/\∀(i:Nat) (f:Field) (k:TK),x[i]? =some f->y[i]? =some k->f.name≠ "_" /\f.offset=j+i/\fM P f.type k
 |_,[],[],_=>⟨rfl,by simp⟩
 |j,f::x,k::y,h=>by
  simp only[pH,Bool.and_eq_true,bne_iff_ne,beq_iff_eq]at h;obtain⟨h1,h2⟩:=qI h.2;refine⟨by simp[h1],λi f' k' hf hk=>?_⟩;cases i with
  |zero=>simp at hf hk;subst hf;subst hk;exact⟨h.1.1.1,by simpa using h.1.1.2,AP h.1.2⟩
  |succ i=>
   have:=h2 i f' k' (by simpa using hf) (by simpa using hk);exact⟨this.1,by rw[this.2.1];omega,this.2.2⟩
 |_,[],_::_,h=>by cases h
 |_,_::_,[],h=>by cases h
def Qd(P:Program)(t:TypeId)(d:TypeDesc)(ks:List TK):Bool:=match d with
 | .struct fs=> !P.stoodInHeld t&&pH P 0 fs.toList ks
 | .array n e=>match P.info? e,P.underlying e with
   |some inf,some (.struct fs)=> !P.stoodInHeld e&&pH P 0 fs.toList (ks.take inf.size)&&inf.size==(ks.take inf.size).length&&ks==(List.replicate n (ks.take inf.size)).flatten
   |some inf,some _=>match ks with
    |k::_=>inf.size==1&&zW P e k&&ks==List.replicate n k
    |[]=>false
   |_,_=>false
 |_=>false
theorem Ox{P:Program}{t:TypeId}{d:TypeDesc}{ks:List TK}(hd:P.underlying t=some d)(h:Qd P t d ks=true):pB P t ks\/HR P t ks:=by
 unfold Qd at h;split at h
 ·rename_i fs;simp only[Bool.and_eq_true,Bool.not_eq_true']at h;obtain⟨c1,c2⟩:=qI h.2;exact .inl ⟨h.1,fs,hd,c1,λj f k hf hk=>by simpa using c2 j f k hf hk⟩
 ·rename_i n e;split at h
  ·rename_i inf fs h1 h2;simp only[Bool.and_eq_true,Bool.not_eq_true',beq_iff_eq]at h;obtain⟨⟨⟨a1,a2⟩,a3⟩,a4⟩:=h;obtain⟨c1,c2⟩:=qI a2;exact .inr ⟨n,e,inf,ks.take inf.size,hd,h1,a3,.inl ⟨a1,fs,h2,c1,λj f k hf hk=>by simpa using c2 j f k hf hk⟩,a4⟩
  ·rename_i inf _ _ h1 _;split at h
   ·rename_i k _;simp only[Bool.and_eq_true,beq_iff_eq]at h;obtain⟨⟨a1,a2⟩,a3⟩:=h;exact .inr ⟨n,e,inf,[k],hd,h1,by rw[a1];rfl,.inr ⟨k,rfl,AP a2⟩,by rw[a3];simp⟩
   ·cases h
  ·cases h
 ·cases h
def Qe(agg:Bool)(zero:List Value):Value->Bool
 | .agg _=>agg
 |_=> !agg&&zero.length==1
theorem Oy{agg:Bool}{zero:List Value}{z:Value}(h:Qe agg zero z=true)(e:z.cells.toList=zero):z=(if agg then .agg zero.toArray else zero.getD 0 undef)/\(agg=false->zero.length=1):=by
 unfold Qe at h;split at h
 ·subst h;subst e;simp[Value.cells]
 ·rename_i hn;simp only[Bool.and_eq_true,Bool.not_eq_true',beq_iff_eq]at h;have hc:z.cells= #[z]:=by cases z<;>first|rfl|exact absurd rfl (hn _)
  rw[hc]at e;subst e;simp[h.1]
def KN(P:Program)(t:TypeId)(i:eC):Bool:=
 match P.info? t,P.underlying t with
 |some inf,some d=>Qc d i.k&&inf.size==i.size&&inf.bytes==i.bytes&&(match inf.zero with|some z=>vY z.cells.toList i.zero&&Qe i.k.agg i.zero z|none=>false)&&i.zero.all (·.oneCell')&&i.zero.length==i.size&&
   (i.eqk.isEmpty||(!P.eqGuardType P.depth t&&Qd P t d i.eqk))
 |_,_=>false
theorem KO{P:Program}{t:TypeId}{i:eC}(h:KN P t i=true):Pr P t i:=by
 unfold KN at h;split at h
 ·rename_i inf d h1 h2;simp only[Bool.and_eq_true,beq_iff_eq]at h;obtain⟨⟨⟨⟨⟨⟨a1,a2⟩,a3⟩,a4⟩,a5⟩,a6⟩,a7⟩:=h;split at a4
  ·rename_i z hz;simp only[Bool.and_eq_true]at a4;obtain⟨a4,a8⟩:=a4;obtain⟨z1,z2⟩:=Oy a8 (sB a4);refine⟨⟨inf,d,z,h1,h2,Ow a1,a2,a3,hz,sB a4⟩,λu hu=>by simpa using List.all_eq_true.1 a5 u hu,⟨inf,h1,by rw[hz,<-z1],z2⟩,a6,λhne=>?_⟩;have:i.eqk.isEmpty=false:=by cases q:i.eqk<;>simp_all
   rw[this]at a7;simp only[Bool.false_or,Bool.and_eq_true,Bool.not_eq_true']at a7;exact⟨a7.1,Ox h2 a7.2⟩
  ·cases a4
 ·cases h
def Pt:eC:=⟨.none,0,0,[],[]⟩
def mB:List (Nat×eC)->Nat->eC
 |[],_=>Pt
 |p::r,t=>if t=p.1 then p.2 else mB r t
def Oz(P:Program)(BT:List (Nat×eC)):Bool:=BT.all λp=>KN P p.1 p.2
theorem xH:∀{BT:List (Nat×eC)} {t:Nat},(mB BT t).k.isNone=false->(t,mB BT t)∈BT
 |[],t,h=>by simp[mB,Pt,TK.isNone]at h
 |p::r,t,h=>by
  simp only[mB]at h|-;split
  ·rename_i e;subst e;exact List.mem_cons_self ..
  ·rename_i e;rw[if_neg e]at h;exact List.mem_cons_of_mem _ (xH h)
theorem II{P:Program}{BT:List (Nat×eC)}(h:Oz P BT=true):fC P (mB BT):=λ_ ht=>KO (List.all_eq_true.1 h _ (xH ht))
def EH(T:TypeId->eC):TK->Bool
 | .slice e=> !(T e).k.isNone
 | .arr _ e=> !(T e).k.isNone
 | .struct fs=>fs.all λp=> !(T p.2).k.isNone
 |_=>true
def Pu(BT:List (Nat×eC)):Bool:=BT.all λp=>EH (mB BT) p.2.k&&(p.2.eqk.isEmpty|| !p.2.k.isNone)
theorem KP{BT:List (Nat×eC)}(h:Pu BT=true):zO (mB BT):=by
 have one:∀t,(mB BT t).k.isNone=false->EH (mB BT) (mB BT t).k=true:=λt ht=>by
  have:=List.all_eq_true.1 h _ (xH ht);simp only[Bool.and_eq_true]at this;exact this.1
 refine⟨λt ht=>?_,λt e he=>?_,λt n e he=>?_,λt fs hf p hp=>?_⟩
 ·by_cases hn:(mB BT t).k.isNone=false
  ·exact hn
  ·exfalso;have:∀l:List (Nat×eC),(∀p∈l,(p.2.eqk.isEmpty|| !p.2.k.isNone)=true)->(mB l t).k.isNone=true->(mB l t).eqk=[]:=by
    intro l;induction l with
    |nil=>intro _ _;rfl
    |cons p r ih=>
     intro hl hk;simp only[mB]at hk|-;split
     ·rename_i e;rw[if_pos e]at hk;have:=hl p (List.mem_cons_self ..);rw[hk]at this;simpa using this
     ·rename_i e;rw[if_neg e]at hk;exact ih (λq hq=>hl q (List.mem_cons_of_mem _ hq)) hk
   exact ht (this BT (λp hp=>by have:=List.all_eq_true.1 h p hp;simp only[Bool.and_eq_true]at this;exact this.2) (by simpa using hn))
 ·have:=one t (by rw[he];rfl);rw[he]at this;simpa [EH]using this
 ·have:=one t (by rw[he];rfl);rw[he]at this;simpa [EH]using this
 ·have:=one t (by rw[hf];rfl);rw[hf]at this;simp only[EH,List.all_eq_true]at this;simpa using this p hp
section
open Go.RowKit
def eU(h H:dU):Prop:=∀id,h id=H id\/h id=.absent
def rR(r r':iO):Prop:=r.ok->r'.ok/\r'.v=r.v/\r'.up=r.up
section
variable{P:Program} {T:TypeId->eC} {h H:dU}
theorem rR.refl(r:iO):rR r r:=λh=>⟨h,rfl,rfl⟩
theorem rR.fail{r':iO}:rR .fail r':=λh=>h.elim
theorem qJ(hp:eU h H):∀(n:Nat) (l:LV) (x:DV),close h n l=some x->close H n l=some x/\bJ H n l=bJ h n l:=by
 intro n;induction n with
 |zero=>intro l x e;simp[close]at e
 |succ n ih=>
  intro l x e;have list:∀(cs:List LV) (xs:List DV),cC (cs.map (close h n))=some xs->cC (cs.map (close H n))=some xs/\cs.flatMap (bJ H n)=cs.flatMap (bJ h n):=by
   intro cs;induction cs with
   |nil=>intro xs e;exact⟨e,rfl⟩
   |cons c cs ihc=>
    intro xs e;simp only[List.map_cons]at e;cases q:close h n c with
    |none=>rw[q]at e;cases e
    |some y=>
     rw[q]at e;simp only[cC,Option.map_eq_some_iff]at e;obtain⟨ys,e,rfl⟩:=e;obtain⟨i1,i2⟩:=ihc ys e;obtain⟨j1,j2⟩:=ih c y q;simp only[List.map_cons,j1,cC,i1,Option.map_some,List.flatMap_cons,i2,j2,and_self]
  cases l with
  |d y=>exact⟨e,rfl⟩
  |agg cs=>
   simp only[close,Option.map_eq_some_iff]at e;obtain⟨xs,e,rfl⟩:=e;obtain⟨i1,i2⟩:=list cs xs e;simp[close,bJ,i1,i2]
  |fn f cs=>
   simp only[close,Option.map_eq_some_iff]at e;obtain⟨xs,e,rfl⟩:=e;obtain⟨i1,i2⟩:=list cs xs e;simp[close,bJ,i1,i2]
  |bm f cs=>
   simp only[close,Option.map_eq_some_iff]at e;obtain⟨xs,e,rfl⟩:=e;obtain⟨i1,i2⟩:=list cs xs e;simp[close,bJ,i1,i2]
  |ow id k m=>
   simp only[close]at e;rcases hp id with q|q
   ·rw[q]at e;exact⟨e,rfl⟩
   ·rw[q]at e;cases e
  |oc id k m c=>
   simp only[close]at e;rcases hp id with q|q
   ·rw[q]at e;exact⟨e,rfl⟩
   ·rw[q]at e;cases e
  |bx id off=>
   simp only[close]at e;rcases hp id with q|q
   ·rw[q]at e;cases q2:H id with
    |box fz cs=>
     rw[q2]at e;simp only[Option.map_eq_some_iff]at e;obtain⟨xs,e,rfl⟩:=e;obtain⟨i1,i2⟩:=list _ xs e;refine⟨by simp only[close,q2];rw[i1];rfl,by simp only[bJ,q,q2];rw[i2]⟩
    |_=>rw[q2]at e;cases e
   ·rw[q]at e;cases e
  |nl=>exact⟨e,rfl⟩
  |mp id=>
   simp only[close]at e;rcases hp id with q|q
   ·rw[q]at e;exact⟨e,rfl⟩
   ·rw[q]at e;cases e
  |rp|it|tup|when|junk|sb=>simp[close]at e
theorem oG(hp:eU h H)(n:Nat):∀{cs:List LV} {xs:List DV},cC (cs.map (close h n))=some xs->cC (cs.map (close H n))=some xs/\cs.flatMap (bJ H n)=cs.flatMap (bJ h n):=by
 intro cs;induction cs with
 |nil=>intro xs e;exact⟨e,rfl⟩
 |cons c cs ihc=>
  intro xs e;simp only[List.map_cons]at e;cases q:close h n c with
  |none=>rw[q]at e;cases e
  |some y=>
   rw[q]at e;simp only[cC,Option.map_eq_some_iff]at e;obtain⟨ys,e,rfl⟩:=e;obtain⟨i1,i2⟩:=ihc e;obtain⟨j1,j2⟩:=qJ hp n c y q;simp only[List.map_cons,j1,cC,i1,Option.map_some,List.flatMap_cons,i2,j2,and_self]
theorem oH(n:Nat){cs:List LV}{xs:List DV}(e:cC (cs.map (close H n))=some xs):∀id∈cs.flatMap (bJ H n),(H id).live=true:=by
 intro id hid;obtain⟨h1,h2⟩:=kS e;obtain⟨c,hc,hid⟩:=List.mem_flatMap.1 hid;obtain⟨i,hi,rfl⟩:=List.getElem_of_mem hc;exact pX n _ _ (h2 i _ (xs[i]'(by omega)) (List.getElem?_eq_getElem hi) (List.getElem?_eq_getElem (by omega))) id hid
theorem cK(hp:eU h H){id:Nat}(hl:(h id).live=true):H id=h id:=by
 rcases hp id with q|q
 ·exact q.symm
 ·rw[q]at hl;cases hl
theorem AQ(hp:eU h H){l:LV}(hs:gO h l=true):gO H l=true:=by
 cases l<;>simp only[gO]at* <;>exact hs
theorem gD(hp:eU h H){ids:List Nat}(hl:∀id∈ids,(h id).live=true):bF H ids=bF h ids:=by
 unfold bF;exact List.map_congr_left λid hid=>by rw[cK hp (hl id hid)]
theorem sC(hp:eU h H){l:LV}{x:DV}(e:close h 8 l=some x):bF H (bJ h 8 l)=bF h (bJ h 8 l):=gD hp λid hid=>pX 8 l x e id hid
theorem gE(hp:eU h H){l:LV}{ys:List DV}(e:cZ h l=some ys):cZ H l=some ys:=by
 unfold cZ at*;split at e<;>try exact e
 ·rename_i id k n;rcases hp id with q|q
  ·rw[<-q];exact e
  ·rw[q]at e;cases e
 ·rename_i id k n c;rcases hp id with q|q
  ·rw[<-q];exact e
  ·rw[q]at e;cases e
theorem EI(hp:eU h H){l:LV}{ys:List DV}(e:oQ h l=some ys):oQ H l=some ys:=by
 unfold oQ at*;split at e
 ·cases e
 ·exact gE hp e
theorem IJ(hp:eU h H)(t:eC)(x:LV):rR (lM h t x) (lM H t x):=by
 unfold lM;split
 ·rename_i id off;rcases hp id with q|q<;>rw[q]<;>first|exact .refl _|exact .fail
 ·exact .refl _
 ·rename_i id k j;rcases hp id with q|q<;>rw[q]<;>first|exact .refl _|exact .fail
 ·exact .refl _
theorem Gx(hp:eU h H)(t:eC)(x y:LV):rR (gJ h t x y) (gJ H t x y):=by
 cases x with
 |bx id off=>
  simp only[gJ];rcases hp id with q|q
  ·rw[q];cases q2:H id with
   |box fz cs=>cases fz with
    |false=>exact λhok=>⟨⟨hok.1,hok.2.1,AQ hp hok.2.2⟩,rfl,rfl⟩
    |true=>exact .fail
   |_=>exact .fail
  ·rw[q];exact .fail
 |rp id k j=>
  simp only[gJ];rcases hp id with q|q
  ·rw[q];cases q2:H id with
   |row fz s xs=>cases fz with
    |false=>
     simp only;cases q3:close h 8 y with
     |none=>exact .fail
     |some z=>
      obtain⟨c1,c2⟩:=qJ hp 8 y z q3;rw[c1];simp only[c2,sC hp q3];exact .refl _
    |true=>exact .fail
   |_=>exact .fail
  ·rw[q];exact .fail
 |_=>exact .refl _
theorem zP(hp:eU h H){dst:Nat}(hd:h dst=H dst)(t:TypeId)(n:Nat)(ps:List (Nat×LV)):rR (dQ T h dst t n ps) (dQ T H dst t n ps):=by
 unfold dQ;split
 ·have e:∀H:dU,(ps.map λp=>close H 8 p.2)=(ps.map (·.2)).map (close H 8):=λH=>by rw[List.map_map];rfl
  have e2:∀H:dU,(ps.flatMap λp=>bJ H 8 p.2)=(ps.map (·.2)).flatMap (bJ H 8):=λH=>by rw[List.flatMap_map]
  cases q:cC (ps.map λp=>close h 8 p.2)with
  |none=>exact .fail
  |some xs=>
   rw[e]at q;obtain⟨c1,c2⟩:=oG hp 8 q;rw[e,c1];have hl:=oH 8 q;simp only[e2,c2,gD hp hl,hd];exact .refl _
 ·exact .refl _
theorem xI(hp:eU h H){dst:Nat}(hd:h dst=H dst)(t:TypeId)(n:Nat)(ps:List (Nat×LV)):rR (dK T h dst t n ps) (dK T H dst t n ps):=by
 unfold dK;split
 ·have e:∀H:dU,(ps.map λp=>close H 8 p.2)=(ps.map (·.2)).map (close H 8):=λH=>by rw[List.map_map];rfl
  have e2:∀H:dU,(ps.flatMap λp=>bJ H 8 p.2)=(ps.map (·.2)).flatMap (bJ H 8):=λH=>by rw[List.flatMap_map]
  cases q:cC (ps.map λp=>close h 8 p.2)with
  |none=>exact .fail
  |some xs=>
   rw[e]at q;obtain⟨c1,c2⟩:=oG hp 8 q;rw[e,c1];have hl:=oH 8 q;simp only[e2,c2,gD hp hl,hd];exact .refl _
 ·exact .refl _
theorem Gy(hp:eU h H)(s:TypeId)(x:LV)(f:Nat):rR (jE T h s x f) (jE T H s x f):=by
 unfold jE;split
 ·split
  ·split
   ·exact λhok=>⟨⟨hok.1,by rw[cK hp hok.2];exact hok.2⟩,rfl,rfl⟩
   ·exact λhok=>⟨⟨hok.1,by rw[cK hp hok.2];exact hok.2⟩,rfl,rfl⟩
   ·exact .refl _
   ·exact .refl _
  ·exact .refl _
 ·exact .refl _
theorem AR(hp:eU h H)(t:TypeId)(x i:LV):rR (eM T h t x i) (eM T H t x i):=by
 unfold eM;split
 ·exact .refl _
 ·rename_i e id k n _ _ _;rcases hp id with q|q<;>rw[q]<;>first|exact .refl _|exact .fail
 ·rename_i e id k n c _ _ _;rcases hp id with q|q<;>rw[q]<;>first|exact .refl _|exact .fail
 ·exact λhok=>⟨⟨hok.1,hok.2.1,by rw[cK hp hok.2.2.1];exact hok.2.2⟩,rfl,rfl⟩
 ·exact λhok=>⟨⟨hok.1,hok.2.1,by rw[cK hp hok.2.2];exact hok.2.2⟩,rfl,rfl⟩
 ·exact λhok=>⟨⟨hok.1,hok.2.1,by rw[cK hp hok.2.2];exact hok.2.2⟩,rfl,rfl⟩
 ·exact .refl _
 ·exact .refl _
theorem Gz(hp:eU h H)(t:TypeId)(x:LV)(lo hi mx:Option LV):rR (jF T h t x lo hi mx) (jF T H t x lo hi mx):=by
 unfold jF;split
 ·exact .refl _
 ·exact .refl _
 ·rename_i e id k n _;rcases hp id with q|q<;>rw[q]<;>first|exact .refl _|exact .fail
 ·exact .refl _
 ·rename_i e id k n c _;rcases hp id with q|q<;>rw[q]<;>first|exact .refl _|exact .fail
 ·rename_i e id k n c _;cases eS 0 lo<;>cases eS n hi<;>cases mx<;>first|exact .fail|exact λhok=>⟨by have hok':=hok;simp only[iO.cond]at hok'|-;rw[cK hp hok'.2.2.2.1];exact hok',rfl,rfl⟩
 ·rename_i n e id off _;cases eS 0 lo<;>cases eS n hi<;>cases mx<;>first|exact .fail|exact λhok=>⟨by have hok':=hok;simp only[iO.cond]at hok'|-;rw[cK hp hok'.2.2.2.2.1];exact hok',rfl,rfl⟩
 ·exact .refl _
 ·exact .refl _
theorem GA(hp:eU h H)(t:TypeId)(x:LV):rR (jK T h t x) (jK T H t x):=by
 unfold jK;split
 ·exact .refl _
 ·exact λhok=>⟨⟨hok.1,hok.2.1,by rw[cK hp hok.2.2];exact hok.2.2⟩,rfl,rfl⟩
 ·exact .refl _
theorem EJ(hp:eU h H){dst:Nat}(hd:h dst=H dst)(t:TypeId)(s x:LV):rR (gU T h dst t s x) (gU T H dst t s x):=by
 unfold gU;cases q0:(T t).k with
 |slice e=>
  cases q1:cZ h x with
  |none=>exact .fail
  |some ys=>
   rw[gE hp q1];simp only;cases s with
   |ow id k n=>simp only;rcases hp id with q|q<;>rw[q]<;>first|(rw[hd];exact .refl _)|exact .fail
   |nl=>simp only;rw[hd];exact .refl _
   |_=>exact .fail
 |_=>exact .fail
theorem BS(hp:eU h H)(t:TypeId)(s x:LV):rR (fB T h t s x) (fB T H t s x):=by
 unfold fB;cases q0:(T t).k with
 |slice e=>
  cases q1:cZ h x with
  |none=>exact .fail
  |some ys=>
   rw[gE hp q1];cases s with
   |ow id k n=>simp only;rcases hp id with q|q<;>rw[q]<;>first|exact .refl _|exact .fail
   |_=>exact .fail
 |_=>exact .fail
theorem wA(hp:eU h H){dst:Nat}(hd:h dst=H dst)(t:TypeId)(s x:LV):rR (dL T h dst t s x) (dL T H dst t s x):=by
 unfold dL;cases q0:(T t).k with
 |slice e=>
  cases q1:cZ h x with
  |none=>exact .fail
  |some ys=>
   rw[gE hp q1];cases s with
   |oc id k n c=>simp only;rcases hp id with q|q<;>rw[q]<;>first|(rw[hd];exact .refl _)|exact .fail
   |_=>exact .fail
 |_=>exact .fail
theorem wB(hp:eU h H){dst:Nat}(hd:h dst=H dst)(t:TypeId)(lo c:Nat)(s x:LV):rR (dD T h dst t lo c s x) (dD T H dst t lo c s x):=by
 unfold dD;cases q0:(T t).k with
 |slice e=>
  cases q1:cZ h x with
  |none=>exact .fail
  |some ys=>
   rw[gE hp q1];cases s with
   |nl=>simp only;rw[hd];exact .refl _
   |oc id k n cs=>exact λhok=>⟨by have hok':=hok;simp only at hok'|-;rw[cK hp hok'.1,<-hd];exact hok',rfl,rfl⟩
   |_=>exact .fail
 |_=>exact .fail
theorem Dq(hp:eU h H){dst:Nat}(hd:h dst=H dst)(hd':h (dst+1000)=H (dst+1000))(t:TypeId)(lo c:Nat)(v:Value)(s x:LV):rR (fT T h dst t lo c v s x) (fT T H dst t lo c v s x):=by
 intro hok;obtain⟨h1,h2⟩:=hok;obtain⟨g1,g2,g3⟩:=wB (T:=T) hp hd t lo c s x h1;refine⟨⟨g1,by rw[<-hd'];exact h2⟩,rfl,?_⟩;simp only[fT,g2,g3]
theorem Dr(hp:eU h H){dst:Nat}(hd:h dst=H dst)(t:TypeId)(kid:Nat)(s x:LV):rR (gT T h dst t kid s x) (gT T H dst t kid s x):=by
 unfold gT;split
 ·rename_i id k n c v v' hk;have hk':H kid=.know (.oc id k n c) v:=by
   rcases hp kid with e|e
   ·rw[<-e];exact hk
   ·rw[e]at hk;cases hk
  simp only[hk'];intro hok;obtain⟨h1,h2⟩:=hok;obtain⟨g1,g2,g3⟩:=wA (T:=T) hp hd t (.oc id k n c) x h2;exact⟨⟨h1,g1⟩,g2,g3⟩
 ·exact .fail
theorem Dt(hp:eU h H){dst:Nat}(hd:h dst=H dst)(t:TypeId)(s x:LV):rR (fU T h dst t s x) (fU T H dst t s x):=by
 unfold fU;split
 ·rw[hd];exact .refl _
 ·rename_i e id k n c _ _ _;rcases hp id with q|q<;>rw[q]<;>first|(rw[hd];exact .refl _)|exact .fail
 ·exact .refl _
theorem IK(hp:eU h H)(t:TypeId)(x:LV):rR (lP T h t x) (lP T H t x):=by
 unfold lP;split
 ·exact λhok=>⟨by have hok':=hok;simp only[iO.cond]at hok'|-;rw[cK hp hok'];exact hok',rfl,rfl⟩
 ·exact .refl _
 ·exact .refl _
theorem IL(hp:eU h H)(t:TypeId)(s x:LV):rR (lN T h t s x) (lN T H t s x):=by
 unfold lN;cases q0:(T t).k with
 |slice e=>
  cases q1:cZ h x with
  |none=>exact .fail
  |some ys=>
   rw[gE hp q1];cases s with
   |ow id k n=>simp only;rcases hp id with q|q<;>rw[q]<;>first|exact .refl _|exact .fail
   |_=>exact .fail
 |_=>exact .fail
theorem GB(hp:eU h H)(t:TypeId)(s x:LV):rR (jH T h t s x) (jH T H t s x):=by
 unfold jH;split
 ·rename_i e id k n c _;cases q1:cZ h (xD n x)with
  |none=>exact .fail
  |some ys=>
   rw[gE hp q1];rcases hp id with q|q<;>rw[q]<;>first|exact .refl _|exact .fail
 ·exact .refl _
theorem GC(hp:eU h H)(t:TypeId)(s x:LV):rR (dV T h t s x) (dV T H t s x):=by
 unfold dV;split
 ·rename_i e id k n c bs _;rcases hp id with q|q<;>rw[q]<;>first|exact .refl _|exact .fail
 ·exact .refl _
theorem GD(hp:eU h H)(t:TypeId)(x:LV):rR (jG T h t x) (jG T H t x):=by
 unfold jG;split
 ·rename_i id k n _;rcases hp id with q|q<;>rw[q]<;>first|exact .refl _|exact .fail
 ·rename_i id k n c _;rcases hp id with q|q<;>rw[q]<;>first|exact .refl _|exact .fail
 ·exact .refl _
theorem KQ(hp:eU h H)(t:TypeId)(x:LV)(lo hi mx:Option LV):rR (oB T h t x lo hi mx) (oB T H t x lo hi mx):=by
 unfold oB;split
 ·split
  ·exact λhok=>⟨by have hok':=hok;simp only[iO.cond]at hok'|-;rw[cK hp hok'.2.2.2.2];exact hok',rfl,rfl⟩
  ·exact .refl _
 ·exact .refl _
 ·rename_i e id k n c _;rcases hp id with q|q<;>rw[q]<;>first|exact .refl _|exact .fail
 ·exact .refl _
theorem IM{dst:Nat}(hd:h dst=H dst)(t:TypeId)(n c:LV):rR (lO T h dst t n c) (lO T H dst t n c):=by
 unfold lO;rw[hd];exact .refl _
theorem KR(hp:eU h H)(t:TypeId)(lo c:Nat)(x:LV):rR (iU T h t lo c x) (iU T H t lo c x):=by
 unfold iU;split
 ·exact .refl _
 ·exact .refl _
 ·rename_i id k n _;rcases hp id with q|q<;>rw[q]<;>first|exact .refl _|exact .fail
 ·exact .refl _
theorem IN(hp:eU h H){x:LV}{n:Nat}(e:El h x=some n):El H x=some n:=by
 unfold El at*;split at e<;>try exact e
 split at e
 ·rename_i hl;rw[cK hp hl];rw[if_pos hl];exact e
 ·cases e
theorem KT(hp:eU h H)(t:TypeId)(e b:Bool)(op:BinOp)(x:LV):rR (lH T h t e b op x) (lH T H t e b op x):=by
 unfold lH;cases q:El h x with
 |none=>split<;>simp_all<;>exact .fail
 |some n=>rw[IN hp q];exact .refl _
theorem KU(hp:eU h H)(t:TypeId)(x:LV):rR (oC T h t x) (oC T H t x):=by
 unfold oC;split
 ·exact .refl _
 ·exact .refl _
 ·exact λhok=>⟨by have hok':=hok;simp only[iO.cond]at hok'|-;rw[cK hp hok'];exact hok',rfl,rfl⟩
 ·exact λhok=>⟨by have hok':=hok;simp only[iO.cond]at hok'|-;rw[cK hp hok'];exact hok',rfl,rfl⟩
 ·exact λhok=>⟨by have hok':=hok;simp only[iO.cond]at hok'|-;rw[cK hp hok'];exact hok',rfl,rfl⟩
 ·exact .refl _
 ·exact .refl _
 ·exact .refl _
 ·rename_i id _;rcases hp id with q|q<;>rw[q]<;>first|exact .refl _|exact .fail
 ·exact .refl _
theorem GE(hp:eU h H){x:LV}{p:List DV×List DV}(e:uD h x=some p):uD H x=some p:=by
 unfold uD at*;split at e<;>try exact e
 rename_i id;rcases hp id with q|q
 ·rw[<-q];exact e
 ·rw[q]at e;cases e
theorem EK(hp:eU h H)(t:TypeId)(x i:LV)(ok:Bool):rR (dZ T h t x i ok) (dZ T H t x i ok):=by
 unfold dZ;cases q:uD h x with
 |none=>split<;>simp_all<;>exact .fail
 |some p=>rw[GE hp q];exact .refl _
theorem sD(hp:eU h H)(t:TypeId)(m k x:LV):rR (cH T h t m k x) (cH T H t m k x):=by
 unfold cH;split
 ·rename_i id _ _ _;rcases hp id with q|q<;>rw[q]<;>first|exact .refl _|exact .fail
 ·exact .refl _
theorem eU.frozen(hp:eU h H){l:LV}{x:DV}(e:close h 8 l=some x):eU (bP h (bF h (bJ h 8 l))) (bP H (bF h (bJ h 8 l))):=λid=>by
 simp only[dR];cases cI (bF h (bJ h 8 l)) id with
 |none=>exact hp id
 |some o=>exact .inl rfl
theorem yW(hp:eU h H)(t:TypeId)(m k x:LV):rR (fY T h t m k x) (fY T H t m k x):=by
 unfold fY;split
 ·exact sD hp _ _ _ _
 ·cases q:close h 8 x with
  |none=>exact .fail
  |some v=>
   obtain⟨q2,q3⟩:=qJ hp 8 _ _ q;simp only[q2,q3,sC hp q];have r:=sD (T:=T) (hp.frozen q) t m k (.d v);intro hok;obtain⟨r1,r2,r3⟩:=r hok;exact⟨r1,r2,by simp only[];rw[r3]⟩
theorem EL(hp:eU h H)(t:TypeId)(m k:LV):rR (fZ T h t m k) (fZ T H t m k):=by
 unfold fZ;split
 ·rename_i id _ _;rcases hp id with q|q<;>rw[q]<;>first|exact .refl _|exact .fail
 ·exact .refl _
theorem uV(hp:eU h H){σ:List (Nat×Nat)}{shut:List Nat}:∀(ls:List LV) (i:Nat) (asl:List LV),jI h σ shut i ls=some asl->jI H σ shut i ls=some asl/\jJ H shut i ls=jJ h shut i ls/\∀id∈jJ h shut i ls,(h id).live=true
 |[],i,asl,e=>⟨e,rfl,by simp[jJ]⟩
 |l::r,i,asl,e=>by
  simp only[jI]at e|-;cases q:jI h σ shut (i+1) r with
  |none=>rw[q]at e;cases e
  |some r'=>
   obtain⟨h1,h2,h3⟩:=uV hp r (i+1) r' q;rw[q]at e;simp only at e;rw[h1];simp only[jJ,h2];by_cases hs:shut.contains i=true
   ·rw[if_pos hs,Option.map_eq_some_iff]at e;obtain⟨x,hx,rfl⟩:=e;obtain⟨c1,c2⟩:=qJ hp 8 l x hx;simp only[if_pos hs,c1,c2];refine⟨by first|rfl|trivial,by first|rfl|trivial,λid hid=>?_⟩;rcases List.mem_append.1 hid with hid|hid
    ·exact pX 8 l x hx id hid
    ·exact h3 id hid
   ·rw[if_neg hs]at e;simp only[if_neg hs];exact⟨e,by first|rfl|trivial,λid hid=>h3 id (by simpa using hid)⟩
theorem IP(hp:eU h H)(s t:TypeId)(x:LV):rR (aZ T h s t x) (aZ T H s t x):=by
 unfold aZ;split
 ·exact .refl _
 ·exact .refl _
 ·exact .refl _
 ·rename_i lx _ _ _ e _ _;cases q1:oQ h lx with
  |none=>cases(T e).k<;>try exact .fail
         rename_i k;cases k<;>exact .fail
  |some ys=>rw[EI hp q1];exact .refl _
 ·exact .refl _
theorem Ct:∀(rs:List RV) (d:Nat),∀p∈bX d rs,∃i,p.1=d+1000*i
 |[],d,p,hp=>by simp[bX]at hp
 |r::rs,d,p,hp=>by
  simp only[bX,List.mem_append]at hp;rcases hp with hp|hp
  ·cases r<;>simp[kR]at hp;exact⟨0,by rw[hp];simp⟩
  ·obtain⟨i,hi⟩:=Ct rs (d+1000) p hp;exact⟨i+1,by omega⟩
theorem Cu(v:RV)(d:Nat):∀p∈gB d v,∃i,p.1=d+1000*i:=by
 intro p hp;cases v with
 |tup rs=>exact Ct rs d p hp
 |d x=>simp[gB,kR]at hp
 |own s xs=>simp[gB,kR]at hp;exact⟨0,by rw[hp];simp⟩
theorem IQ(hp:eU h H)(r:Option hU){dst:Nat}(hd:∀i,h (dst+1000*i)=H (dst+1000*i))(f:LV)(args:List LV):rR (cF P h r dst f args) (cF P H r dst f args):=by
 unfold cF;split
 ·rename_i fid caps r _;cases q:cC ((args++caps).map (close h 8))with
  |none=>exact .fail
  |some asl=>
   obtain⟨c1,c2⟩:=oG hp 8 q;rw[c1];have hl:=oH 8 q;simp only[c2,gD hp hl];exact λhok=>⟨⟨hok.1,λp hpp=>by obtain⟨i,hi⟩:=Cu r.v dst p hpp;rw[hi,<-hd i,<-hi];exact hok.2 p hpp⟩,rfl,rfl⟩
 ·rename_i fid caps g _;cases q:jI h g.σ g.shut 0 (args++caps)with
  |none=>exact .fail
  |some asl=>
   obtain⟨h1,h2,h3⟩:=uV hp _ _ _ q;rw[h1];intro hok;simp only at hok;obtain⟨k1,k2,k3,k4,k5,k6⟩:=hok;have e1:(g.σ.map λp=>(p.2,cL g.σ (H p.1)))=g.σ.map λp=>(p.2,cL g.σ (h p.1)):=List.map_congr_left λp hpp=>by rw[cK hp (k2 p hpp)]
   simp only[h2,gD hp h3,e1];refine⟨⟨k1,λp hpp=>by rw[cK hp (k2 p hpp)];exact k2 p hpp,k3,k4,λp hpp=>⟨?_,(k5 p hpp).2⟩,k6⟩,trivial,trivial⟩;obtain⟨a1,a2,a3⟩:=k5 p hpp;have:p.2=dst+1000*((p.2-dst) / 1000):=by omega
   rw[this,<-hd,<-this];exact a1
 ·rename_i fid caps Rel fr r _;cases q:cC ((args++caps).map (close h 8))with
  |none=>exact .fail
  |some asl=>
   obtain⟨c1,c2⟩:=oG hp 8 q;rw[c1];have hl:=oH 8 q;simp only[c2,gD hp hl];exact λhok=>⟨⟨hok.1,hok.2.1,λp hpp=>by obtain⟨i,hi⟩:=Cu r.v dst p hpp;rw[hi,<-hd i,<-hi];exact hok.2.2 p hpp⟩,rfl,rfl⟩
 ·rename_i fid caps g _ _;cases q:jI h g.σ g.shut 0 (args++caps)with
  |none=>exact .fail
  |some asl=>
   obtain⟨h1,h2,h3⟩:=uV hp _ _ _ q;rw[h1];intro hok;simp only at hok;obtain⟨k1,k2,k3,k4,k5,k6⟩:=hok;have e1:(g.σ.map λp=>(p.2,cL g.σ (H p.1)))=g.σ.map λp=>(p.2,cL g.σ (h p.1)):=List.map_congr_left λp hpp=>by rw[cK hp (k2 p hpp)]
   simp only[h2,gD hp h3,e1];refine⟨⟨k1,λp hpp=>by rw[cK hp (k2 p hpp)];exact k2 p hpp,k3,k4,λp hpp=>⟨?_,(k5 p hpp).2⟩,k6⟩,trivial,trivial⟩;obtain⟨a1,a2,a3⟩:=k5 p hpp;have:p.2=dst+1000*((p.2-dst) / 1000):=by omega
   rw[this,<-hd,<-this];exact a1
 ·exact .refl _
theorem GF(hp:eU h H)(f:LV)(args:List LV):rR (jL P T h f args) (jL P T H f args):=by
 unfold jL;split
 ·rename_i fid i k n c j k' n' c';rcases hp i with q|q
  ·rw[q];rcases hp j with q2|q2
   ·rw[q2];exact .refl _
   ·rw[q2];cases H i<;>exact .fail
  ·rw[q];exact .fail
 ·exact .refl _
theorem AS(hp:eU h H)(g:Operand->LV)(r:Option hU)(o:Oper)(hd:∀i,h (o.dst.getD 0+1000*i)=H (o.dst.getD 0+1000*i)):rR (bK P T h g r o) (bK P T H g r o):=by
 have hd0:h (o.dst.getD 0)=H (o.dst.getD 0):=by simpa using hd 0
 obtain⟨dst,op,type,pos,after,guard⟩:=o;cases op<;>simp only[bK]<;>simp only at hd hd0<;>first|exact .refl _|skip
 case assign x=>simp only[Option.getD]at hd0|-;rw[hd0];exact .refl _
 try(case sliceToArrayPointer t x=>exact GA hp _ _)
 case alloc t=>rw[hd0];exact .refl _
 case box t x=>exact λhok=>⟨⟨by rw[<-hd0];exact hok.1,AQ hp hok.2⟩,rfl,rfl⟩
 case buildSlice t n ps=>
  split
  ·exact xI hp hd0 _ _ _
  ·exact zP hp hd0 _ _ _
 case load t x=>split;exact .refl _;exact IJ hp _ _
 case store t x y=>split;exact .refl _;exact Gx hp _ _ _
 case nilCheck x=>
  split
  ·exact λhok=>⟨by have hok':=hok;simp only[iO.cond]at hok'|-;rw[cK hp hok'];exact hok',rfl,rfl⟩
  ·exact λhok=>⟨by have hok':=hok;simp only[iO.cond]at hok'|-;rw[cK hp hok'];exact hok',rfl,rfl⟩
  ·exact .refl _
  ·exact .refl _
  ·exact .refl _
  ·exact .refl _
 case convert s t x=>exact IP hp _ _ _
 case makeFunc fn first cs=>cases fn<;>exact .refl _
 case slice t x lo hi mx=>
  split
  ·exact .refl _
  ·split
   ·exact KQ hp _ _ _ _ _
   ·exact Gz hp _ _ _ _ _
 case binOp op t x y u=>
  split
  ·exact .refl _
  ·split
   ·exact KT hp _ _ _ _ _
   ·exact .refl _
  ·exact .refl _
 case makeSlice t n c=>exact IM hd0 _ _ _
 case fieldAddr s x f=>exact Gy hp _ _ _
 case makeMap t r=>cases r<;>simp only[]<;>first|exact .refl _|(unfold jD;rw[hd0];exact .refl _)
 case lookup t x i ok=>exact EK hp _ _ _ _
 case mapUpdate t m k x=>exact yW hp _ _ _ _
 case insert t m k x=>exact yW hp _ _ _ _
 case range t x=>
  split
  ·unfold mO;split
   ·rw[hd0];exact .refl _
   ·exact .refl _
  ·exact .refl _
 case indexAddr t x i=>exact AR hp _ _ _
 case call c=>
  obtain⟨callee,args,ts⟩:=c;cases callee with
  |value f=>
   simp only;split
   ·exact GF hp _ _
   ·exact IQ hp r hd _ _
  |invoke r m=>exact .refl _
  |builtin b=>
   simp only;split
   ·exact KU hp _ _
   ·split
    ·split
     ·exact BS hp _ _ _
     ·exact wB hp hd0 _ _ _ _ _
     ·exact Dq hp hd0 (by simpa using hd 1) _ _ _ _ _ _
     ·exact Dr hp hd0 _ _ _ _
     ·split
      ·exact wA hp hd0 _ _ _
      ·exact EJ hp hd0 _ _ _
    ·split
     ·exact Dt hp hd0 _ _ _
     ·exact .refl _
   ·split
    ·exact KR hp _ _ _ _
    ·exact IK hp _ _
   ·exact GD hp _ _
   ·split
    ·exact GB hp _ _ _
    ·split
     ·exact GC hp _ _ _
     ·exact IL hp _ _ _
   ·exact .refl _
   ·exact .refl _
   ·exact EL hp _ _ _
   ·exact .refl _
theorem Ns(hp:eU h H)(g:Operand->LV)(r:Option hU)(o:Oper)(hd:∀i,h (o.dst.getD 0+1000*i)=H (o.dst.getD 0+1000*i)):rR (gM P T h g r o) (gM P T H g r o):=by
 unfold gM;split
 ·exact .refl _
 ·exact AS hp _ r o hd
end
end
section
open Go.RowKit
def gY(hide:List Nat)(H:dU):dU:=λid=>if hide.contains (id%1000)then .absent else H id
def uB(wr:List Nat)(p:Nat×aV):Bool:=wr.contains (p.1%1000)
def gR(P:Program)(T:TypeId->eC)(N:Nat)(slots:Nat->Option Nat)(orc:Nat->Option hU)(hide wr:List Nat)(st:rP)(o:Oper):rP:=
 let r:=gQ P T slots st.env (gY hide st.H) (orc (o.dst.getD 0)) o
 {env:=jV st.env o.dst r.v
  H:=bP st.H (r.up.filter (uB wr))
  ok:=st.ok/\r.ok/\Cr N o.dst/\∀p∈r.up,uB wr p=true}
section
variable{P:Program} {T:TypeId->eC} {N:Nat} {w0:cX} {X:Nat->Prop} {β:Nat->Option Nat} {w:World} {a:Act} {o:Oper}
theorem IR(hide:List Nat)(H:dU):eU (gY hide H) H:=λid=>by
 unfold gY;split
 ·exact .inr rfl
 ·exact .inl rfl
theorem EM(hT:fC P T)(hW:zO T){ops:Array Oper}{slots:Nat->Option Nat}(hsl:∀j d,slots j=some d->(ops[j]?).bind (·.dst)=some d/\d<N){r:Option hU}{hide wr:List Nat}(hd:hide.contains (o.dst.getD 0%1000)=false){st:rP}
 (s:oX N w0 X st.env st.H β a w)(hself:rQ r r)(hok:∀r',rQ r r'->(gR P T N slots (λ_=>r') hide wr st o).ok){K:Act->World->Prop}{Q:Exit->Act->World->Prop}
 (hK:∀r',rQ r r'->∀a' w' β',oX N w0 X (gR P T N slots (λ_=>r') hide wr st o).env (gR P T N slots (λ_=>r') hide wr st o).H β' a' w'->K a' w'):
 if Region.wanted o (yielded ops a.tmps)then o.wp P a w K Q\/(o.asks P a w/\LetsOut Q)else K (a.put o.dst undef) w:=by
 have hp:=IR hide st.H;have hdd:∀i,gY hide st.H (o.dst.getD 0+1000*i)=st.H (o.dst.getD 0+1000*i):=λi=>by
  unfold gY;rw[if_neg (by rw[Nat.add_mul_mod_self_left,hd];simp)]
 have hok2:=λr' h=>(hok r' h).2.1;have hok4:=λr' h=>(hok r' h).2.2.2;have hok3:=(hok r hself).2.2.1;clear hok;simp only[gR]at hK hok2 hok4;have hfil:∀l:List (Nat×aV),(∀p∈l,uB wr p=true)->l.filter (uB wr)=l:=λl hl=>List.filter_eq_self.2 hl;have hK:∀r',rQ r r'->∀a' w' β',oX N w0 X (jV st.env o.dst (gQ P T slots st.env (gY hide st.H) r' o).v) (bP st.H (gQ P T slots st.env (gY hide st.H) r' o).up) β' a' w'->K a' w':=λr' h a' w' β' s'=>hK r' h a' w' β' (by rw[hfil _ (hok4 r' h)];exact s');cases hg:o.guard with
 |none=>
  have e:∀r,gQ P T slots st.env (gY hide st.H) r o=bK P T (gY hide st.H) (oY st.env) r o:=λr=>by unfold gQ;rw[hg]
  simp only[e]at hK hok2;have hpl:=λr' h=>AS hp (oY st.env) r' o hdd (hok2 r' h);rw[if_pos (by simp[Region.wanted,hg])];left;refine AJ hT hW s.mem s.get hself (λr' h=>(hpl r' h).1) K Q ?_;rintro res ⟨r',h',rfl⟩ v w' β' m gg hv;obtain⟨_,c2,c3⟩:=hpl r' h';refine hK r' h' _ _ β' ?_;rw[<-c2,<-c3];exact s.put m gg hv hok3
 |some p=>
  obtain⟨j,want⟩:=p;unfold gQ at hK hok2;simp only[hg]at hK hok2;have hok20:=hok2 r hself;split at hok20
  ·rename_i ec hec;simp only[hec]at hK hok2;obtain⟨q1,q2⟩:=hok20;obtain⟨d,hd1,hd2⟩:=Option.map_eq_some_iff.1 hec;obtain⟨hd3,hd4⟩:=hsl j d hd1;rw[AK s hd3 hd4 hd2 hg];cases ec with
   |true=>
    simp only[if_true];left;have hpl:=λr' h=>Ns hp (oY st.env) r' o hdd ((hok2 r' h).1 rfl);refine Ez hT hW s.mem s.get hself (λr' h=>(hpl r' h).1) (q2 rfl) K Q ?_;rintro res ⟨r',h',rfl⟩ v w' β' m gg hv;obtain⟨_,c2,c3⟩:=hpl r' h';refine hK r' h' _ _ β' ?_;rw[c3]at m gg hv;rw[c2]at hv;exact s.put m gg (.when true _ v (λ_=>hv) (λh=>by cases h)) hok3
   |false=>
    simp only[Bool.false_eq_true,if_false];exact hK r hself _ _ β (s.put s.mem eY.refl (.when false _ undef (λh=>by cases h) (λ_=>rfl)) hok3)
  ·exact hok20.elim
theorem GG{env env':fJ}{ops:Array Oper}(h:∀d∈o.looksAt ops,env d=env' d):∀x∈o.op.operands,oY env x=oY env' x:=by
 intro x hx;cases x with
 |tmp t=>exact h t (by unfold Oper.looksAt;exact List.mem_append.2 (.inl (List.mem_filterMap.2 ⟨.tmp t,by simpa using hx,rfl⟩)))
 |_=>rfl
theorem wC:∀x∈iQ o.op,x∈o.op.operands:=by
 intro x hx;unfold iQ at hx;split at hx
 ·rename_i e;simp at hx;rw[e,hx];simp[Op.operands]
 ·simpa using hx
theorem Du{h:dU}{g g':Operand->LV}{r:Option hU}(e:∀x∈o.op.operands,g x=g' x):gM P T h g r o=gM P T h g' r o:=by
 unfold gM;split
 ·rename_i c x y ho;rw[e c (by rw[ho];simp[Op.operands]),e x (by rw[ho];simp[Op.operands]),e y (by rw[ho];simp[Op.operands])]
 ·exact qB λx hx=>by rw[e x hx]
theorem yX{l:List Oper}{env env':fJ}{h:dU}{r:Option hU}(e:∀d∈o.looksAt l.toArray,env d=env' d):gQ P T (cD N l) env h r o=gQ P T (cD N l) env' h r o:=by
 have e1:=GG e;unfold gQ;cases hg:o.guard with
 |none=>exact qB e1
 |some p=>
  obtain⟨j,want⟩:=p;simp only;have e2:((cD N l j).map λd=>xG want (env d))=(cD N l j).map λd=>xG want (env' d):=by
   cases q:cD N l j with
   |none=>rfl
   |some d=>
    have hd:=(qE N l j d q).1;have:env d=env' d:=e d (by unfold Oper.looksAt;rw[hg];exact List.mem_append.2 (.inr (by simp only;rw[hd];simp)));simp only[Option.map_some,this]
  rw[e2,Du e1];have e3:(∀x∈iQ o.op,Cq (oY env x)=true)=∀x∈iQ o.op,Cq (oY env' x)=true:=by
   apply propext;exact⟨λh x hx=>by rw[<-e1 x (wC x hx)];exact h x hx,λh x hx=>by rw[e1 x (wC x hx)];exact h x hx⟩
  rw[e3]
def Nt(hide1 wr1 hide2 wr2:List Nat):Bool:=wr1.all (λx=>hide2.contains x&& !wr2.contains x)&&wr2.all (λx=>hide1.contains x)
theorem lS(H:dU)(l:List (Nat×aV))(wr:List Nat)(id:Nat)(h:wr.contains (id%1000)=false):bP H (l.filter (uB wr)) id=H id:=by
 rw[dR];have:cI (l.filter (uB wr)) id=none:=by
  induction l with
  |nil=>rfl
  |cons p r ih=>
   by_cases hp:uB wr p=true
   ·rw[List.filter_cons_of_pos hp];simp only[cI];rw[if_neg (λe=>by unfold uB at hp;rw[<-e,h]at hp;cases hp)];exact ih
   ·rw[List.filter_cons_of_neg hp];exact ih
 rw[this];rfl
theorem Cv(H:dU)(l:List (Nat×aV)){wr hide:List Nat}(h:∀x∈wr,hide.contains x=true):gY hide (bP H (l.filter (uB wr)))=gY hide H:=by
 funext id;unfold gY;by_cases hh:hide.contains (id%1000)=true
 ·rw[if_pos hh,if_pos hh]
 ·rw[if_neg hh,if_neg hh];refine lS H l wr id ?_;cases q:wr.contains (id%1000)with
  |false=>rfl
  |true=>exact absurd (h _ (by simpa using q)) hh
theorem IS(H:dU)(l1 l2:List (Nat×aV)){wr1 wr2:List Nat}(h:∀x∈wr1,wr2.contains x=false):bP (bP H (l1.filter (uB wr1))) (l2.filter (uB wr2))=bP (bP H (l2.filter (uB wr2))) (l1.filter (uB wr1)):=by
 funext id;cases q1:wr1.contains (id%1000)with
 |false=>
  rw[lS _ l1 wr1 id q1,dR _ id,lS H l1 wr1 id q1,dR _ id]
 |true=>
  have q2:wr2.contains (id%1000)=false:=h _ (by simpa using q1);rw[lS _ l2 wr2 id q2,dR (l1.filter _) id,dR (l1.filter _) id,lS H l2 wr2 id q2]
theorem EN(env:fJ){d1 d2:Option Nat}(v1 v2:LV)(h:∀d,d1=some d->d2≠some d):jV (jV env d1 v1) d2 v2=jV (jV env d2 v2) d1 v1:=by
 cases d1 with
 |none=>rfl
 |some d1=>
  cases d2 with
  |none=>rfl
  |some d2=>
   have:d1≠d2:=λe=>h d1 rfl (by rw[e]);funext j;simp only[jV,bU];by_cases h1:j=d1
   ·subst h1;rw[if_neg this];simp
   ·rw[if_neg h1,if_neg h1]
theorem Cw(env:fJ){d1:Option Nat}(v:LV){d:Nat}(h:d1≠some d):jV env d1 v d=env d:=by
 cases d1 with
 |none=>rfl
 |some d1=>simp only[jV,bU];rw[if_neg (λe=>h (by rw[e]))]
theorem GH{l:List Oper}{orc:Nat->Option hU}{o1 o2:Oper}{hide1 wr1 hide2 wr2:List Nat}(hap:o1.apart l.toArray o2=true)(hs:Nt hide1 wr1 hide2 wr2=true)(st:rP):
 gR P T N (cD N l) orc hide2 wr2 (gR P T N (cD N l) orc hide1 wr1 st o1) o2=gR P T N (cD N l) orc hide1 wr1 (gR P T N (cD N l) orc hide2 wr2 st o2) o1:=by
 obtain⟨a1,a2,a3⟩:=Oper.apart_spec hap;simp only[Nt,Bool.and_eq_true,List.all_eq_true]at hs;obtain⟨s1,s2⟩:=hs;have s3:∀x∈wr1,hide2.contains x=true:=λx hx=>(s1 x hx).1;have s4:∀x∈wr1,wr2.contains x=false:=λx hx=>by simpa using(s1 x hx).2
 have e2:gQ P T (cD N l) (gR P T N (cD N l) orc hide1 wr1 st o1).env (gY hide2 (gR P T N (cD N l) orc hide1 wr1 st o1).H) (orc (o2.dst.getD 0)) o2=gQ P T (cD N l) st.env (gY hide2 st.H) (orc (o2.dst.getD 0)) o2:=by
  simp only[gR];rw[Cv _ _ s3];exact yX λd hd=>Cw _ _ (λe=>a1 d e hd)
 have e1:gQ P T (cD N l) (gR P T N (cD N l) orc hide2 wr2 st o2).env (gY hide1 (gR P T N (cD N l) orc hide2 wr2 st o2).H) (orc (o1.dst.getD 0)) o1=gQ P T (cD N l) st.env (gY hide1 st.H) (orc (o1.dst.getD 0)) o1:=by
  simp only[gR];rw[Cv _ _ s2];exact yX λd hd=>Cw _ _ (λe=>a3 d e hd)
 have f:∀(hide wr:List Nat) (st:rP) (o:Oper),gR P T N (cD N l) orc hide wr st o={env:=jV st.env o.dst (gQ P T (cD N l) st.env (gY hide st.H) (orc (o.dst.getD 0)) o).v,H:=bP st.H ((gQ P T (cD N l) st.env (gY hide st.H) (orc (o.dst.getD 0)) o).up.filter (uB wr)),ok:=st.ok/\(gQ P T (cD N l) st.env (gY hide st.H) (orc (o.dst.getD 0)) o).ok/\Cr N o.dst/\∀p∈(gQ P T (cD N l) st.env (gY hide st.H) (orc (o.dst.getD 0)) o).up,uB wr p=true}:=λ_ _ _ _=>rfl;rw[f hide2 wr2,f hide1 wr1 (gR P T N (cD N l) orc hide2 wr2 st o2),e1,e2];clear e1 e2;simp only[gR];clear f;generalize gQ P T (cD N l) st.env (gY hide1 st.H) (orc (o1.dst.getD 0)) o1=r1;generalize gQ P T (cD N l) st.env (gY hide2 st.H) (orc (o2.dst.getD 0)) o2=r2;congr 1
 ·exact EN _ _ _ a2
 ·exact IS _ _ _ s4
 ·refine propext ⟨?_,?_⟩
  ·rintro⟨⟨h1,h2⟩,h3⟩;exact⟨⟨h1,h3⟩,h2⟩
  ·rintro⟨⟨h1,h2⟩,h3⟩;exact⟨⟨h1,h3⟩,h2⟩
def Km(S:Nat->Bool)(i:Nat):Nat->Bool:=λj=>S j||j==i
def fH(f:rP->Nat->rP)(S:Nat->Bool)(st:rP):Nat->rP
 |0=>st
 |n+1=>if S n then f (fH f S st n) n else fH f S st n
def rI(S:Nat->Bool):Nat->Nat
 |0=>0
 |n+1=>rI S n+(if S n then 0 else 1)
theorem fV{f:rP->Nat->rP}{S S':Nat->Bool}{st:rP}:∀n,(∀j,j<n->S j=S' j)->fH f S st n=fH f S' st n
 |0,_=>rfl
 |n+1,h=>by
  simp only[fH];rw[h n (Nat.lt_succ_self n),fV n λj hj=>h j (Nat.lt_succ_of_lt hj)]
theorem sE{S S':Nat->Bool}:∀n,(∀j,j<n->S j=S' j)->rI S n=rI S' n
 |0,_=>rfl
 |n+1,h=>by
  simp only[rI];rw[h n (Nat.lt_succ_self n),sE n λj hj=>h j (Nat.lt_succ_of_lt hj)]
theorem xJ{S:Nat->Bool}{i j:Nat}(h:j≠i):Km S i j=S j:=by simp[Km,h]
theorem GI{S:Nat->Bool}{i:Nat}:Km S i i=true:=by simp[Km]
theorem xK{f:rP->Nat->rP}{S:Nat->Bool}{st:rP}{i:Nat}(hs:S i=false):∀n,i<n->(∀j,i<j->j<n->S j=true->∀st,f (f st i) j=f (f st j) i)->fH f (Km S i) st n=f (fH f S st n) i
 |0,h,_=>absurd h (Nat.not_lt_zero i)
 |n+1,h,hc=>by
  simp only[fH];by_cases e:n=i
  ·subst e;rw[GI,if_pos rfl,hs,if_neg (by simp),fV n λj hj=>xJ (Nat.ne_of_lt hj)]
  ·rw[xJ e,xK hs n (by omega) λj h1 h2=>hc j h1 (by omega)];cases q:S n with
   |true=>rw[if_pos rfl,if_pos rfl,hc n (by omega) (by omega) q]
   |false=>rfl
theorem Cx{S:Nat->Bool}{i:Nat}(hs:S i=false):∀n,i<n->rI (Km S i) n+1=rI S n
 |0,h=>absurd h (Nat.not_lt_zero i)
 |n+1,h=>by
  simp only[rI];by_cases e:n=i
  ·subst e;rw[GI,if_pos rfl,hs,if_neg (by simp),sE n λj hj=>xJ (Nat.ne_of_lt hj)]
  ·rw[xJ e];have:=Cx hs n (by omega);omega
theorem AT{S:Nat->Bool}:∀n,rI S n=0->∀j,j<n->S j=true
 |0,_,j,h=>absurd h (Nat.not_lt_zero j)
 |n+1,h,j,hj=>by
  simp only[rI]at h;by_cases e:j=n
  ·subst e;cases q:S j with|true=>rfl|false=>rw[q]at h;simp at h
  ·exact AT n (by omega) j (by omega)
theorem EO{f:rP->Nat->rP}(hf:∀st i,(f st i).ok->st.ok){cl:Nat->List Nat}{n:Nat}(hcl:∀j,j<n->∀i∈cl j,i<j)(hc:∀i j,i<j->j<n->i∉cl j->∀st,f (f st i) j=f (f st j) i)
 {S:Nat->Bool}(hS:∀j,j<n->S j=true->∀i∈cl j,S i=true){st:rP}:∀m,m<=n->(fH f (λj=>S j||decide (j<m)) st n).ok->(fH f S st n).ok
 |0,_,h=>by
  rw[fV n (S':=S) λj _=>by simp]at h;exact h
 |m+1,hm,h=>by
  refine EO hf hcl hc hS m (by omega) ?_;cases q:S m with
  |true=>
   rw[fV n (S':=λj=>S j||decide (j<m+1)) λj _=>?_]
   ·exact h
   ·by_cases e:j=m
    ·subst e;simp[q]
    ·have:(j<m+1)=(j<m):=by apply propext;omega
     simp only[this]
  |false=>
   have e:fH f (λj=>S j||decide (j<m+1)) st n=fH f (Km (λj=>S j||decide (j<m)) m) st n:=fV n λj _=>by
    unfold Km;by_cases e:j=m
    ·subst e;simp
    ·have:(j<m+1)=(j<m):=by apply propext;omega
     simp only[this];simp[e]
   rw[e,xK (by simp[q]) n (by omega) λj h1 h2 h3=>hc m j h1 h2 λhin=>?_]at h
   ·exact hf _ _ h
   ·simp only[Bool.or_eq_true,decide_eq_true_eq]at h3;rcases h3 with h3|h3
    ·rw[hS j h2 h3 m hin]at q;cases q
    ·omega
def gZ(P:Program)(T:TypeId->eC)(N:Nat)(l:List Oper)(orc:Nat->Option hU)(hide wr:Nat->List Nat)(st:rP)(i:Nat):rP:=
 match l[i]? with
 |some o=>gR P T N (cD N l) orc (hide i) (wr i) st o
 |none=>st
def uW(l:List Oper)(cl hide wr:Nat->List Nat):Bool:=(List.range l.length).all λj=>match l[j]? with
 |none=>true
 |some o=>
  o.after.all (λe=> !Region.binds .any e||decide (e.on<j))&&
  (cl j).all (λi=>decide (i<j)&&o.after.any (λe=>Region.binds .any e&&(e.on==i||(cl e.on).contains i)))&&
  !(hide j).contains (o.dst.getD 0%1000)&&
  (List.range j).all (λi=>(cl j).contains i||match l[i]? with
    |none=>true
    |some o'=>o'.apart l.toArray o&&Nt (hide i) (wr i) (hide j) (wr j))
section
variable{l:List Oper} {cl hide wr:Nat->List Nat} {orc:Nat->Option hU}
structure KV(l:List Oper)(cl hide wr:Nat->List Nat):Prop where
 edge:∀j o,l[j]? =some o->∀e∈o.after,Region.binds .any e=true->e.on<j
 low:∀j,j<l.length->∀i∈cl j,i<j
 clo:∀j o,l[j]? =some o->∀i∈cl j,∃e∈o.after,Region.binds .any e=true/\(e.on=i\/i∈cl e.on)
 dst:∀j o,l[j]? =some o->(hide j).contains (o.dst.getD 0%1000)=false
 sep:∀i j o' o,i<j->l[i]? =some o'->l[j]? =some o->i∉cl j->o'.apart l.toArray o=true/\Nt (hide i) (wr i) (hide j) (wr j)=true
theorem IT(h:uW l cl hide wr=true):KV l cl hide wr:=by
 have k:∀j o,l[j]? =some o->_:=λj o hj=>by
  have h':=List.all_eq_true.1 h j (List.mem_range.2 (List.getElem?_eq_some_iff.1 hj).1);rw[hj]at h';simp only[Bool.and_eq_true]at h';exact h'
 refine⟨λj o hj e he hb=>?_,λj hj i hi=>?_,λj o hj i hi=>?_,λj o hj=>?_,λi j o' o hij hi hj hn=>?_⟩
 ·have:=Array.all_eq_true_iff_forall_mem.1 (k j o hj).1.1.1 e he;simpa [hb]using this
 ·obtain⟨o,ho⟩:∃o,l[j]? =some o:=⟨_,List.getElem?_eq_getElem hj⟩;have:=List.all_eq_true.1 (k j o ho).1.1.2 i hi;simp only[Bool.and_eq_true,decide_eq_true_eq]at this;exact this.1
 ·have:=List.all_eq_true.1 (k j o hj).1.1.2 i hi;simp only[Bool.and_eq_true,decide_eq_true_eq]at this;obtain⟨p,hp,he⟩:=Array.any_eq_true.1 this.2;simp only[Bool.and_eq_true,Bool.or_eq_true,beq_iff_eq,List.contains_iff_mem]at he;exact⟨_,Array.getElem_mem hp,he.1,he.2⟩
 ·simpa using(k j o hj).1.2
 ·have:=List.all_eq_true.1 (k j o hj).2 i (List.mem_range.2 hij);simp only[Bool.or_eq_true,List.contains_iff_mem,hi,Bool.and_eq_true]at this;exact this.resolve_left hn
theorem GJ(st:rP)(i:Nat)(h:(gZ P T N l orc hide wr st i).ok):st.ok:=by
 unfold gZ at h;split at h
 ·exact h.1
 ·exact h
theorem KV.comm(A:KV l cl hide wr)(i j:Nat)(hij:i<j)(hj:j<l.length)(hn:i∉cl j)(st:rP):
 gZ P T N l orc hide wr (gZ P T N l orc hide wr st i) j=gZ P T N l orc hide wr (gZ P T N l orc hide wr st j) i:=by
 obtain⟨o,ho⟩:∃o,l[j]? =some o:=⟨_,List.getElem?_eq_getElem hj⟩;obtain⟨o',ho'⟩:∃o,l[i]? =some o:=⟨_,List.getElem?_eq_getElem (by omega)⟩;unfold gZ;simp only[ho,ho'];obtain⟨h1,h2⟩:=A.sep i j o' o hij ho' ho hn;exact GH h1 h2 st
def nV(P:Program)(T:TypeId->eC)(N:Nat)(l:List Oper)(orc:Nat->Option hU)(hide wr:Nat->List Nat)(st:rP):rP:=fH (gZ P T N l orc hide wr) (λ_=>true) st l.length
theorem AU{f f':rP->Nat->rP}{S:Nat->Bool}{n0:Nat}{st:rP}(h:∀q,S q=true->q<n0->∀st,f st q=f' st q):∀n,n<=n0->fH f S st n=fH f' S st n
 |0,_=>rfl
 |n+1,hn=>by
  simp only[fH];rw[AU h n (by omega)];split
  ·rename_i hs;exact h n hs (by omega) _
  ·rfl
structure GK{ι:Type}(orcs:ι->Nat->Option hU)(Φ:ι->Prop)(l:List Oper):Prop where
 self:∀i,Φ i->∀d,rQ (orcs i d) (orcs i d)
 alt:∀i,Φ i->∀(k:Nat) (o:Oper),l[k]? =some o->∀r',rQ (orcs i (o.dst.getD 0)) r'->∃j,Φ j/\orcs j (o.dst.getD 0)=r'/\∀(q:Nat) (oq:Oper),l[q]? =some oq->q≠k->orcs j (oq.dst.getD 0)=orcs i (oq.dst.getD 0)
theorem EA.all{l:List Oper}{ι:Type}{orcs:ι->Nat->Option hU}{Φ:ι->Prop}{d0:Nat}(G:EA orcs Φ d0)(hc1:∀(i j:Nat) (o o':Oper),l[i]? =some o->l[j]? =some o'->o.dst.getD 0=d0->o'.dst.getD 0=d0->i=j):GK orcs Φ l:=by
 refine⟨λi hi d=>?_,λi hi k o ho r' hr=>?_⟩
 ·by_cases hd:d=d0
  ·subst hd;exact G.self i hi
  ·exact(G.det i hi d hd).1
 ·by_cases hd:o.dst.getD 0=d0
  ·rw[hd]at hr;obtain⟨j,hj,e⟩:=G.alt i hi r' hr;refine⟨j,hj,by rw[hd];exact e,λq oq hq hqk=>?_⟩;exact G.base j i hj hi _ λh=>hqk (hc1 q k oq o hq ho h hd)
  ·exact⟨i,hi,((G.det i hi _ hd).2 r' hr).symm,λ_ _ _ _=>rfl⟩
def Pv{ι κ:Type}(d0 d1:Nat)(base:Nat->Option hU)(g:ι->hU)(h:κ->hU)(i:ι×κ)(d:Nat):Option hU:=if d=d0 then some (g i.1)else if d=d1 then some (h i.2)else base d
theorem IU(hT:fC P T)(hW:zO T)(A:KV l cl hide wr){st:rP}{ι:Type}{orcs:ι->Nat->Option hU}{Φ:ι->Prop}(G:GK orcs Φ l)(hok:∀i,Φ i->(nV P T N l (orcs i) hide wr st).ok){Q:Exit->Act->World->Prop}
 (hQ:∀i,Φ i->∀β a w,oX N w0 X (nV P T N l (orcs i) hide wr st).env (nV P T N l (orcs i) hide wr st).H β a w->Q .normal a w):
 ∀(ι0:ι),Φ ι0->∀(fuel:Nat) (listed:Array Bool) (β:Nat->Option Nat) (a:Act) (w:World),listed.size=l.length->rI (λj=>listed.getD j false) l.length<=fuel->(∀j,j<l.length->listed.getD j false=true->∀i∈cl j,listed.getD i false=true)->
  oX N w0 X (fH (gZ P T N l (orcs ι0) hide wr) (λj=>listed.getD j false) st l.length).env (fH (gZ P T N l (orcs ι0) hide wr) (λj=>listed.getD j false) st l.length).H β a w->wpAny P .any l.toArray Q fuel listed a w:=by
 have all:∀(ι0:ι),Φ ι0->∀(listed:Array Bool) (β:Nat->Option Nat) (a:Act) (w:World),Region.ready .any l.toArray listed=[]->listed.size=l.length->oX N w0 X (fH (gZ P T N l (orcs ι0) hide wr) (λj=>listed.getD j false) st l.length).env (fH (gZ P T N l (orcs ι0) hide wr) (λj=>listed.getD j false) st l.length).H β a w->Q .normal a w:=by
  intro ι0 hΦ listed β a w hr hsz hs;have:∀j,j<l.length->listed.getD j false=true:=by
   intro j;induction j using Nat.strongRecOn with
   |ind j ih=>
    intro hj;cases q:listed.getD j false with
    |true=>rfl
    |false=>
     exfalso;obtain⟨o,ho⟩:∃o,l[j]? =some o:=⟨_,List.getElem?_eq_getElem hj⟩;have:j∈Region.ready .any l.toArray listed:=mem_ready.2 ⟨by
      simp only[Array.getD_eq_getD_getElem?]at q|-;rw[Array.getElem?_eq_getElem (by omega)]at q|-;exact q,o,by simpa using ho,λe he hb=>ih e.on (A.edge j o ho e he hb) (Nat.lt_trans (A.edge j o ho e he hb) hj)⟩
     rw[hr]at this;cases this
  rw[fV (S':=λ_=>true) l.length this]at hs;exact hQ ι0 hΦ β a w hs
 intro ι0 hΦ fuel;induction fuel generalizing ι0 with
 |zero=>
  intro listed β a w hsz hm hc hs;have hr:Region.ready .any l.toArray listed=[]:=by
   cases hr:Region.ready .any l.toArray listed with
   |nil=>rfl
   |cons i r=>
    exfalso;have hi:i∈Region.ready .any l.toArray listed:=by rw[hr];exact List.mem_cons_self
    obtain⟨h0,o,ho,_⟩:=mem_ready.1 hi;have hlt:i<l.length:=by have:=(Array.getElem?_eq_some_iff.1 ho).1;simpa using this
    have:=AT l.length (Nat.le_zero.1 hm) i hlt;simp only[Array.getD_eq_getD_getElem?]at h0 this;rw[Array.getElem?_eq_getElem (by omega)]at h0 this;simp only[Option.getD_some]at h0 this;rw[h0]at this;cases this
  exact⟨hr,all ι0 hΦ listed β a w hr hsz hs⟩
 |succ fuel ih=>
  intro listed β a w hsz hm hc hs;refine⟨λhr=>all ι0 hΦ listed β a w hr hsz hs,λi hi=>?_⟩;obtain⟨h0,o,ho,hall⟩:=mem_ready.1 hi;have hlt:i<l.length:=by have:=(Array.getElem?_eq_some_iff.1 ho).1;simpa using this
  have ho':l[i]? =some o:=by simpa using ho
  have hf:listed.getD i false=false:=by
   simp only[Array.getD_eq_getD_getElem?]at h0|-;rw[Array.getElem?_eq_getElem (by omega)]at h0|-;exact h0
  have hi':∀k,(listed.setIfInBounds i true).getD k false=Km (λj=>listed.getD j false) i k:=by
   intro k;by_cases e:k=i
   ·subst e;rw[GI];simp[hsz,hlt]
   ·rw[xJ e];exact getD_set_ne false (Ne.symm e)
  have hcl:∀k∈cl i,listed.getD k false=true:=by
   intro k hk;obtain⟨e,he,hb,hor⟩:=A.clo i o ho' k hk;have:=hall e he hb;rcases hor with hor|hor
   ·rw[<-hor];exact this
   ·exact hc e.on (Nat.lt_trans (A.edge i o ho' e he hb) hlt) this k hor
  have hc':∀j,j<l.length->(listed.setIfInBounds i true).getD j false=true->∀k∈cl j,(listed.setIfInBounds i true).getD k false=true:=by
   intro j hj hjl k hk;rw[hi']at hjl|-;have:listed.getD k false=true:=by
    by_cases e:j=i
    ·subst e;exact hcl k hk
    ·rw[xJ e]at hjl;exact hc j hj hjl k hk
   simp[Km,this]
  have e1:∀ι0:ι,fH (gZ P T N l (orcs ι0) hide wr) (λj=>(listed.setIfInBounds i true).getD j false) st l.length=gZ P T N l (orcs ι0) hide wr (fH (gZ P T N l (orcs ι0) hide wr) (λj=>listed.getD j false) st l.length) i:=λι0=>by
   rw[fV (S':=Km (λj=>listed.getD j false) i) l.length λj _=>hi' j];exact xK hf l.length hlt λj h1 h2 h3=>A.comm i j h1 h2 λhin=>by
    have:=hc j h2 h3 i hin;rw[hf]at this;cases this
  have okk:∀ι0,Φ ι0->(fH (gZ P T N l (orcs ι0) hide wr) (λj=>(listed.setIfInBounds i true).getD j false) st l.length).ok:=λι0 hΦ=>by
   refine EO GJ A.low A.comm hc' l.length (Nat.le_refl _) ?_;rw[fV (S':=λ_=>true) l.length λj hj=>by simp[hj]];exact hok ι0 hΦ
  have e2:∀ι0 st,gZ P T N l (orcs ι0) hide wr st i=gR P T N (cD N l) (orcs ι0) (hide i) (wr i) st o:=λι0 st=>by unfold gZ;rw[ho']
  have key:∀r',rQ (orcs ι0 (o.dst.getD 0)) r'->∃j,Φ j/\(∀st,gR P T N (cD N l) (λ_=>r') (hide i) (wr i) st o=gR P T N (cD N l) (orcs j) (hide i) (wr i) st o)/\
   fH (gZ P T N l (orcs ι0) hide wr) (λj=>listed.getD j false) st l.length=fH (gZ P T N l (orcs j) hide wr) (λj=>listed.getD j false) st l.length:=λr' hr=>by
   obtain⟨j,hj,e,hq⟩:=G.alt ι0 hΦ i o ho' r' hr;refine⟨j,hj,λst=>by unfold gR;rw[e],AU (λq hq' hql st=>?_) l.length (Nat.le_refl _)⟩;have hqi:q≠i:=λh=>by
    have hq':listed.getD q false=true:=hq';rw[h,hf]at hq';cases hq'
   unfold gZ;cases hoq:l[q]? with
   |none=>rfl
   |some oq=>
    simp only[];unfold gR;rw[hq q oq hoq hqi]
  have hself:rQ (orcs ι0 (o.dst.getD 0)) (orcs ι0 (o.dst.getD 0)):=G.self ι0 hΦ _;have:=EM (P:=P) (T:=T) hT hW (ops:=l.toArray) (qE N l) (A.dst i o ho') hs hself (r:=orcs ι0 (o.dst.getD 0)) (λr' hr=>by
   obtain⟨j,hj,h1,h2⟩:=key r' hr;have:=okk j hj;rw[e1,e2]at this;rw[h1,h2];exact this) (K:=wpAny P .any l.toArray Q fuel (listed.setIfInBounds i true)) (Q:=Q) λr' hr a' w' β' s'=>by
   obtain⟨j,hj,h1,h2⟩:=key r' hr;rw[h1,h2]at s';exact ih j hj (listed.setIfInBounds i true) β' a' w' (by simpa using hsz) (by
    rw[sE (S':=Km (λj=>listed.getD j false) i) l.length λj _=>hi' j];have:=Cx (S:=λj=>listed.getD j false) hf l.length hlt;omega) hc' (by rw[e1,e2];exact s')
  unfold wpOp;simp only[ho];exact this
theorem oX.drew{env:fJ}{H:dU}{β:Nat->Option Nat}(s:oX N w0 X env H β a w):oX N w0 X env H β a {w with drawn:=w.drawn+1}:=by
 have hb:BP w.heap.size w {w with drawn:=w.drawn+1}:=⟨rfl,rfl,rfl,Nat.le_refl _,λ_ _=>rfl,Nat.le_succ _⟩;obtain⟨m,g⟩:=s.mem.grow hb;exact s.put (dst:=none) (v:=.slice none 0 0) (l:=.junk) m g (.junk _) (by trivial)
theorem EP:∀l:List Oper,∃d0,∀o∈l,o.dst.getD 0<d0
 |[]=>⟨0,λo ho=>by cases ho⟩
 |o::l=>by
  obtain⟨d,hd⟩:=EP l;refine⟨d+o.dst.getD 0+1,λo' ho'=>?_⟩;rcases List.mem_cons.1 ho' with h|h
  ·rw[h];exact Nat.lt_succ_of_le (Nat.le_add_left _ _)
  ·exact Nat.lt_of_lt_of_le (hd o' h) (Nat.le_succ_of_le (Nat.le_add_right _ _))
theorem EQ(hT:fC P T)(hW:zO T)(hm:P.follows .mixedOrders=true){id:Nat}{Q:LX->fJ->dU->Prop}{env:fJ}{H:dU}(cl hide wr:Nat->List Nat)(hA:uW l cl hide wr=true){ι:Type}{orcs:ι->Nat->Option hU}{Φ:ι->Prop}(G:GK orcs Φ l)(i0:ι)(h0:Φ i0)
 (h:∀i,Φ i->(nV P T N l (orcs i) hide wr ⟨env,H,True⟩).ok/\Q .normal (nV P T N l (orcs i) hide wr ⟨env,H,True⟩).env (nV P T N l (orcs i) hide wr ⟨env,H,True⟩).H):
 eG P N w0 X (.region id l.toArray true) Q env H:=by
 intro r hr β a w s;refine Gv Gu hm hr ?_;have e0:∀n,fH (gZ P T N l (orcs i0) hide wr) (λj=>(Array.replicate l.toArray.size false).getD j false) ⟨env,H,True⟩ n=⟨env,H,True⟩:=λn=>by
  induction n with
  |zero=>rfl
  |succ n ih=>simp only[fH];rw[if_neg (by simp[Array.getElem?_replicate];split<;>rfl)];exact ih
 refine IU hT hW (IT hA) G (λi hi=>(h i hi).1) (λi hi β' a' w' s'=>⟨.normal,_,_,β',trivial,s',(h i hi).2⟩) i0 h0 _ _ β a _ (by simp) ?_ (λj _ hj=>?_) ?_
 ·have:∀S n,rI S n<=n:=λS n=>by
   induction n with
   |zero=>exact Nat.le_refl 0
   |succ n ih=>simp only[rI];split<;>omega
  simpa using this _ l.length
 ·exfalso;simp[Array.getElem?_replicate]at hj;split at hj<;>cases hj
 ·rw[e0];exact s.drew
theorem yY(hT:fC P T)(hW:zO T)(hm:P.follows .mixedOrders=true){id:Nat}{Q:LX->fJ->dU->Prop}{env:fJ}{H:dU}(cl hide wr:Nat->List Nat)(hA:uW l cl hide wr=true){ι:Type}{orcs:ι->Nat->Option hU}{Φ:ι->Prop}{d0:Nat}(G:EA orcs Φ d0)(i0:ι)(h0:Φ i0)
 (hc1:∀(i j:Nat) (o o':Oper),l[i]? =some o->l[j]? =some o'->o.dst.getD 0=d0->o'.dst.getD 0=d0->i=j)
 (h:∀i,Φ i->(nV P T N l (orcs i) hide wr ⟨env,H,True⟩).ok/\Q .normal (nV P T N l (orcs i) hide wr ⟨env,H,True⟩).env (nV P T N l (orcs i) hide wr ⟨env,H,True⟩).H):
 eG P N w0 X (.region id l.toArray true) Q env H:=EQ hT hW hm cl hide wr hA (G.all hc1) i0 h0 h
theorem GL(hT:fC P T)(hW:zO T)(hm:P.follows .mixedOrders=true){id:Nat}{Q:LX->fJ->dU->Prop}{env:fJ}{H:dU}(cl hide wr:Nat->List Nat)(hA:uW l cl hide wr=true)(orc:Nat->Option hU)(hdet:∀d,qC (orc d))
 (h:(nV P T N l orc hide wr ⟨env,H,True⟩).ok/\Q .normal (nV P T N l orc hide wr ⟨env,H,True⟩).env (nV P T N l orc hide wr ⟨env,H,True⟩).H):
 eG P N w0 X (.region id l.toArray true) Q env H:=by
 obtain⟨d0,hd0⟩:=EP l;exact yY hT hW hm cl hide wr hA (ι:=Unit) (orcs:=λ_=>orc) (Φ:=λ_=>True) (d0:=d0) ⟨λ_ _ _ _ _ _=>rfl,λ_ _ d _=>hdet d,λ_ _=>(hdet _).1,λ_ _ r' hr=>⟨(),trivial,((hdet _).2 r' hr).symm⟩⟩ () trivial
  (λi j o o' h1 h2 h3 _=>absurd h3 (Nat.ne_of_lt (hd0 o (List.mem_of_getElem? h1)))) λ_ _=>h
theorem ER(hT:fC P T)(hW:zO T)(hm:P.follows .mixedOrders=true){id:Nat}{Q:LX->fJ->dU->Prop}{env:fJ}{H:dU}(cl hide wr:Nat->List Nat)(hA:uW l cl hide wr=true){ι:Type}(d0:Nat)(base:Nat->Option hU)(g:ι->hU)(Φ:ι->Prop)
 (hdet:∀d,qC (base d))(hs:∀i,Φ i->rQ (some (g i)) (some (g i)))(ha:∀i,Φ i->∀r',rQ (some (g i)) r'->∃j,Φ j/\some (g j)=r')(i0:ι)(h0:Φ i0)
 (hc1:((List.range l.length).filter λi=>match l[i]? with|some o=>o.dst.getD 0==d0|none=>false).length<=1)
 (h:∀i,Φ i->(nV P T N l (mF d0 base g i) hide wr ⟨env,H,True⟩).ok/\Q .normal (nV P T N l (mF d0 base g i) hide wr ⟨env,H,True⟩).env (nV P T N l (mF d0 base g i) hide wr ⟨env,H,True⟩).H):
 eG P N w0 X (.region id l.toArray true) Q env H:=by
 refine yY hT hW hm cl hide wr hA (AM hdet hs ha) i0 h0 (λi j o o' h1 h2 h3 h4=>?_) h;have hi:i∈(List.range l.length).filter λi=>match l[i]? with|some o=>o.dst.getD 0==d0|none=>false:=List.mem_filter.2 ⟨List.mem_range.2 (List.getElem?_eq_some_iff.1 h1).1,by simp[h1,h3]⟩
 have hj:j∈(List.range l.length).filter λi=>match l[i]? with|some o=>o.dst.getD 0==d0|none=>false:=List.mem_filter.2 ⟨List.mem_range.2 (List.getElem?_eq_some_iff.1 h2).1,by simp[h2,h4]⟩
 have:∀(L:List Nat),L.length<=1->i∈L->j∈L->i=j:=λL hL h1 h2=>by
  match L,hL,h1,h2 with
  |[x],_,h1,h2=>exact(List.mem_singleton.1 h1).trans (List.mem_singleton.1 h2).symm
 exact this _ hc1 hi hj
end
end
end
end Go.Eng
