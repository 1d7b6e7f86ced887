/-
  Texts of the proofs of this seat, part 3. No condition.
-/
import Derived.Test.YtmndmahpoljhmaaGreatDoorMB
import Derived.Laws.MakeOwn
import Derived.Lib.SliceRun
import Derived.Lib.AppendZerosOnto
import Derived.Lib.Overlaps
import Derived.CallsIn
import Derived.OwnWalkIn
import Derived.RangeFuncLeaves
import Derived.RangeFuncRecord
set_option linter.unusedVariables false
set_option linter.unusedSimpArgs false
namespace Go.Eng
open Go.RowKit
section
variable{P:Program} {T:TypeId→lA} {w0:iU} {X:Nat→Prop} {H:Nat→aX} {β:Nat→Option Nat} {w:World} {a:Act} {o:Oper} {g:Operand→LV} {E:Nat→Prop}
theorem KE{s:Nat}{xs ys:List DV}{k:Nat}(hall:∀x∈xs,(aE x).length=s)(hys:∀y∈ys,(aE y).length=s)(hk:k+ys.length≤xs.length):bO (cU k xs ys)=cU (k*s) (bO xs) (bO ys):=by
 unfold cU
 rw[nL,nL,oD hall,yI hall,gA hys,Nat.add_mul]
theorem fX.writeRow(m:fX w0 X H β w){id b s:Nat}{xs:List DV}{cur:Array Value}{e:TypeId}(hH:H id=.row false s xs)(hb:β id=some b)(hblk:w.heap[b]? =some (.cells cur e (0,0))){k:Nat}{ys:List DV}{news:List Value}
 (hys:∀y∈ys,(aE y).length=s)(hk:k+ys.length≤xs.length)(hnl:news.length=ys.length*s)(h1:∀u∈news,u.oneCell'=true)
 (hp:∀(i:Nat) (d:DV) (u:Value),(bO ys)[i]? =some d→news[i]? =some u→RD w (Ex X β H) d u):
 fX w0 X (cN H id (.row false s (cU k xs ys))) β (w.setRow b (cU (k*s) cur.toList news).toArray)∧lF X H β w (cN H id (.row false s (cU k xs ys))) β (w.setRow b (cU (k*s) cur.toList news).toArray)∧
  k*s+news.length≤cur.size∧(w.setRow b (cU (k*s) cur.toList news).toArray).heap[b]? =some (.cells (cU (k*s) cur.toList news).toArray e (0,0))∧(cU (k*s) cur.toList news).toArray.size=cur.size:=by
 have hob:=m.obj id
 simp only[fU,hH]at hob
 obtain⟨hpos,hall,hob⟩:=hob
 rcases hob with⟨hnone,_⟩|⟨b',e'',cur',hb',hblk',hlen',hpo⟩
 ·rw[hnone]at hb;cases hb
 rw[hb]at hb';injection hb' with hb';subst hb'
 rw[hblk]at hblk';injection hblk' with hblk';injection hblk' with p1 p2;subst p1;subst p2
 have hfit:k*s+ys.length*s≤cur.size:=by
  rw[←Nat.add_mul]
  exact Nat.le_trans (Nat.mul_le_mul_right _ hk) hlen'
 have hcs:cur.toList.length=cur.size:=by simp
 have hpl:(cU (k*s) cur.toList news).toArray.size=cur.size:=by rw[List.size_toArray,lM (by omega)];exact hcs
 have hxl:(cU k xs ys).length=xs.length:=lM hk
 have hfl:=gA hall
 have hfy:=gA hys
 have:=m.rewrite (id:=id) (b:=b) (o':=.row false s (cU k xs ys)) (cur':=(cU (k*s) cur.toList news).toArray) (by rw[hH];rfl) hb hblk hpl
  (.inr ⟨_,_,_,hH,rfl,by rw[hxl];exact Nat.le_refl _⟩) (fun hD _=>by
    unfold fU
    rw[aJ]
    refine⟨hpos,CL hall hys,.inr ⟨b,e,_,hb,setRow_heap w b _ _ e (0,0) hblk,by rw[hpl,hxl];exact hlen',fun i d v hd hv=>?_⟩⟩
    rw[KE hall hys hk,mV (by rw[hfl,hfy,←Nat.add_mul];exact Nat.mul_le_mul_right _ hk),hfy]at hd
    simp only[List.getElem?_toArray]at hv
    rw[mV (by omega),hnl]at hv
    split at hd
    ·rename_i h;rw[if_pos h]at hv
     have:=hpo i d v hd (by simpa using hv)
     exact⟨this.1,hD _ _ this.2⟩
    ·rename_i h
     rw[if_neg h]at hv
     split at hd
     ·rename_i h';rw[if_pos h']at hv;exact⟨h1 v (List.mem_of_getElem? hv),hD _ _ (hp _ d v hd hv)⟩
     ·rename_i h';rw[if_neg h']at hv
      have:=hpo i d v hd (by simpa using hv)
      exact⟨this.1,hD _ _ this.2⟩)
 exact⟨this.1,this.2,by omega,setRow_heap w b _ _ e (0,0) hblk,hpl⟩
theorem AY{id:Nat}{o':aX}(h:H id=o'):cN H id o'=H:=by
 funext j
 unfold cN
 split
 ·rename_i e;rw[e,h]
 ·rfl
theorem uQ{α:Type}{k:Nat}{xs:List α}:cU k xs []=xs:=by simp[cU]
theorem wV(m:fX w0 X H β w){id k n s:Nat}{fz:Bool}{xs:List DV}{v:Value}(hH:H id=.row fz s xs)(hr:R w (Ex X β H) β H (.ow id k n) v):
 (∃b c cur e,v=.slice (some ⟨b,k*s,none⟩) n c∧β id=some b∧k+n≤xs.length∧n≤c∧c≤maxLen∧w.heap[b]? =some (.cells cur e (0,0))∧(k+c)*s=cur.size∧xs.length≤k+c)∨(∃p,v=.slice p 0 0∧n=0∧xs.length≤k):=by
 have hob:=m.obj id
 simp only[fU,hH]at hob
 obtain⟨hpos,hall,hob⟩:=hob
 cases hr with
 |ow _ _ _ b c _ _ _ cur e' hH' hb hkn hn hc hblk hroom=>
  rw[hH]at hH';injection hH' with _ q1 q2;subst q1;subst q2
  refine .inl ⟨b,c,cur,e',rfl,hb,hkn,hn,hc,hblk,hroom,?_⟩
  rcases hob with⟨hnone,_⟩|⟨b',e'',cur',hb',hblk',hlen',_⟩
  ·rw[hnone]at hb;cases hb
  ·rw[hb]at hb';injection hb' with hb';subst hb'
   rw[hblk]at hblk';injection hblk' with hblk';injection hblk' with p1 p2;subst p1
   rw[←hroom]at hlen'
   exact Nat.le_of_mul_le_mul_right hlen' hpos
 |ow0 _ _ b _ _ _ hH' hk'=>
  rw[hH]at hH';injection hH' with _ q1 q2;subst q1;subst q2
  refine .inr ⟨b,rfl,rfl,?_⟩
  rcases hob with⟨hnone,he⟩|⟨b',e'',cur',hb',hblk',hlen',_⟩
  ·rw[he];exact Nat.zero_le _
  ·rcases hk' with⟨h1,_⟩|⟨b2,cur2,e2,h1,h2,h3,_⟩
   ·rw[h1]at hb';cases hb'
   ·rw[h1]at hb';injection hb' with hb';subst hb'
    rw[h2]at hblk';injection hblk' with hblk';injection hblk' with p1 p2;subst p1
    rw[←h3]at hlen'
    exact Nat.le_of_mul_le_mul_right hlen' hpos
 |owdead _ _ _ _ hd=>rw[hH]at hd;cases hd
theorem rG(m:fX w0 X H β w){id k n c s:Nat}{fz:Bool}{xs:List DV}{v:Value}(hH:H id=.row fz s xs)(hr:R w (Ex X β H) β H (.oc id k n c) v):
 ∃p,v=.slice p n c∧n≤c∧k+c≤xs.length∧c≤maxLen∧(c=0∨∃b cur e,p=some ⟨b,k*s,none⟩∧β id=some b∧w.heap[b]? =some (.cells cur e (0,0))∧xs.length*s≤cur.size):=by
 have hob:=m.obj id
 simp only[fU,hH]at hob
 obtain⟨hpos,hall,hob⟩:=hob
 cases hr with
 |oc _ _ _ _ p _ _ _ hH' hn hkc hc ha=>
  rw[hH]at hH';injection hH' with _ q1 q2;subst q1;subst q2
  refine⟨p,rfl,hn,hkc,hc,?_⟩
  rcases ha with ha|⟨b,hb,hp⟩
  ·exact .inl ha
  ·rcases hob with⟨hnone,_⟩|⟨b',e'',cur',hb',hblk',hlen',_⟩
   ·rw[hnone]at hb;cases hb
   ·rw[hb]at hb';injection hb' with hb';subst hb'
    exact .inr ⟨b,cur',e'',hp,hb,hblk',hlen'⟩
 |ocdead _ _ _ _ _ hd=>rw[hH]at hd;cases hd
theorem Gy(hT:mA P T)(m:fX w0 X H β w)(hg:∀x,R w (Ex X β H) β H (g x) (a.eval x)){t u:TypeId}{s x:Operand}(ho:o.op=.call {callee:=.builtin .append,args:= #[s,x],argTypes:= #[t,u]})
 (hu:t=u∨(T u).k.isStr=true)(ht:∀e,(T t).k=.slice e→(T e).k.isNone=false)(hok:(bT T H t (g s) (g x)).ok):pP P w0 X H β w a o (bT T H t (g s) (g x)):=by
 have hs:=hg s
 have hx:=hg x
 generalize g s=ls at*
 generalize g x=lx at*
 unfold bT at*
 split at hok
 ·rename_i e ys id k n hk hy
  split at hok
  ·rename_i sz xs hH
   simp only at hok⊢
   obtain⟨hsz,hys,hfit⟩:=hok
   subst hsz
   have hut:=hT.slice hk
   obtain⟨inf,d0,z,h1,h2,h3,h4,h5,h6,h7⟩:=hT.parts (ht e hk)
   have huu:∃d,P.underlying u=some d∧∀k,d≠ .int k:=by
    rcases hu with rfl|hu
    ·exact⟨_,hut,fun k=>by simp⟩
    ·have:(T u).k=.str:=by cases q:(T u).k<;>simp_all[TK.isStr]
     exact⟨_,hT.str this,fun k=>by simp⟩
   obtain⟨d,hud,hdk⟩:=huu
   obtain⟨news,e1,e2,e3,e4,e5⟩:=mZ (P:=P) m hx hy hys
   rw[←h4]at e2
   generalize hvs:a.eval s=vs at hs
   rcases wV m hH hs with⟨b,c,cur,e',rfl,hb,hkn,hn,hc,hblk,hroom,hcap⟩|⟨p,rfl,rfl,hkx⟩
   ·have hin:n+ys.length≤c:=by omega
    obtain⟨m2,g2,hf,hblk2,hsz2⟩:=m.writeRow hH hb hblk (k:=k+n) hys (by omega) e3 e4 e5
    have hrun:=lY (P:=P) (w:=w) (ty:=o.type) (base:=some ⟨b,k*(T e).size,none⟩) (sLen:=n) (sCap:=c) hut hud hdk h1 e1 e2 hin
    have hst:=run_storeCells_at P b (k*(T e).size+n*(T e).size) e' news 0 cur w hblk (by rw[←Nat.add_mul];omega) e4
    refine bQ (v:=.slice (some ⟨b,k*(T e).size,none⟩) (n+ys.length) c) (w':=w.setRow b (cU ((k+n)*(T e).size) cur.toList news).toArray) (β':=β) (iP ho ?_) (by simp only[aQ];exact m2) (by simp only[aQ];exact g2) ?_
    ·rw[hvs,hrun]
     simp only[Addr.add_lit,h4]
     simp only[Nat.add_zero]at hst
     rw[hst,Nat.add_mul]
     rfl
    ·simp only[aQ]
     exact R.ow _ k (n+ys.length) b c false (T e).size (cU (k+n) xs ys) _ e' (by rw[aJ]) hb (by rw[lM (by omega)];omega) hin hc hblk2 (by rw[hsz2];exact hroom)
   ·have hy0:ys=[]:=List.eq_nil_of_length_eq_zero (by omega)
    subst hy0
    have hn0:news=[]:=List.eq_nil_of_length_eq_zero (by simpa using e3)
    subst hn0
    have hrun:=lY (P:=P) (w:=w) (ty:=o.type) (base:=p) (sLen:=0) (sCap:=0) hut hud hdk h1 e1 e2 (Nat.le_refl _)
    have hid:bG H [(id,aX.row false (T e).size (cU (k+0) xs []))]=H:=by rw[aQ,uQ];exact AY hH
    refine bQ (v:=.slice p 0 0) (w':=w) (β':=β) (iP ho ?_) (by simp only[hid];exact m) (by simp only[hid];exact lF.refl) (by simp only[hid];exact hs)
    rw[hvs,hrun]
    cases p<;>simp[storeCells]
  ·exact hok.elim
 ·exact hok.elim
theorem OX(hT:mA P T)(m:fX w0 X H β w)(hg:∀x,R w (Ex X β H) β H (g x) (a.eval x)){t u:TypeId}{s x:Operand}(ho:o.op=.call {callee:=.builtin .copy,args:= #[s,x],argTypes:= #[t,u]})
 (ht:∀e,(T t).k=.slice e→(T e).k.isNone=false)(hok:(eL T H t (g s) (g x)).ok):pP P w0 X H β w a o (eL T H t (g s) (g x)):=by
 have hs:=hg s
 have hx:=hg x
 generalize g s=ls at*
 generalize g x=lx at*
 unfold eL at*
 split at hok
 ·rename_i e ys id k n hk hy
  split at hok
  ·rename_i sz xs hH
   simp only at hok⊢
   obtain⟨hsz,hys,hle,hfit⟩:=hok
   subst hsz
   have hut:=hT.slice hk
   obtain⟨news,e1,e2,e3,e4,e5⟩:=mZ (P:=P) m hx hy hys
   have e2:=e2 w rfl
   have hso:=cQ (P:=P) (w:=w) hT (ht e hk)
   generalize hvs:a.eval s=vs at hs
   have hmin:Nat.min ys.length n=ys.length:=Nat.min_eq_left hle
   rcases wV m hH hs with⟨b,c,cur,e',rfl,hb,hkn,hn,hc,hblk,hroom,hcap⟩|⟨p,rfl,rfl,hkx⟩
   ·obtain⟨m2,g2,hf,hblk2,hsz2⟩:=m.writeRow hH hb hblk (k:=k) hys (by omega) e3 e4 e5
    have hst:=run_storeCells_at P b (k*(T e).size) e' news 0 cur w hblk (by omega) e4
    simp only[Nat.add_zero]at hst
    refine bQ (v:=.int .i64 ys.length) (w':=w.setRow b (cU (k*(T e).size) cur.toList news).toArray) (β':=β) ?_ (by simp only[aQ];exact m2) (by simp only[aQ];exact g2) (cI _ _)
    simp[execOp,ho,resolve,invoke,builtin,Builtin.copy_,run_underlying hut,hvs,e1,hmin,hso,e2,hst,goInt,cU]
   ·have hy0:ys=[]:=List.eq_nil_of_length_eq_zero (by omega)
    subst hy0
    have hn0:news=[]:=List.eq_nil_of_length_eq_zero (by simpa using e3)
    subst hn0
    have hid:bG H [(id,aX.row false (T e).size (cU k xs []))]=H:=by rw[aQ,uQ];exact AY hH
    refine bQ (v:=.int .i64 0) (w':=w) (β':=β) ?_ (by simp only[hid];exact m) (by simp only[hid];exact lF.refl) (cI _ _)
    simp only[List.length_nil]at e1 e2 hmin
    cases p<;>simp[execOp,ho,resolve,invoke,builtin,Builtin.copy_,run_underlying hut,hvs,e1,hmin,hso,e2,storeCells,goInt]
  ·exact hok.elim
 ·exact hok.elim
theorem MD(hT:mA P T)(m:fX w0 X H β w)(hg:∀x,R w (Ex X β H) β H (g x) (a.eval x)){t u:TypeId}{s x:Operand}(ho:o.op=.call {callee:=.builtin .copy,args:= #[s,x],argTypes:= #[t,u]})
 (ht:∀e,(T t).k=.slice e→(T e).k.isNone=false)(hok:(dJ T H t (g s) (g x)).ok):pP P w0 X H β w a o (dJ T H t (g s) (g x)):=by
 have hs:=hg s
 have hx:=hg x
 generalize g s=ls at*
 generalize g x=lx at*
 unfold dJ at*
 split at hok
 ·rename_i e id k n c hk
  split at hok
  ·rename_i ys sz xs hy hH
   simp only[hy,hH]at hok⊢
   obtain⟨hsz,hys,hle,hfit⟩:=hok
   subst hsz
   have hut:=hT.slice hk
   have hso:=cQ (P:=P) (w:=w) hT (ht e hk)
   generalize hvs:a.eval s=vs at hs
   generalize hvx:a.eval x=vx at hx
   obtain⟨news,N,e1,hmin,e2,e3,e4,e5⟩:∃(news:List Value) (N:Nat),(Builtin.lenOf vx).run P w=.ok N w∧Nat.min N n=ys.length∧(Builtin.firstCells (T e).size ys.length vx).run P w=.ok news.toArray w∧news.length=ys.length*(T e).size∧
    (∀u∈news,u.oneCell'=true)∧∀(i:Nat) (d:DV) (u:Value),(bO ys)[i]? =some d→news[i]? =some u→RD w (Ex X β H) d u:=by
    have plain:lJ n lx=lx→∃(news:List Value) (N:Nat),(Builtin.lenOf vx).run P w=.ok N w∧Nat.min N n=ys.length∧(Builtin.firstCells (T e).size ys.length vx).run P w=.ok news.toArray w∧news.length=ys.length*(T e).size∧
     (∀u∈news,u.oneCell'=true)∧∀(i:Nat) (d:DV) (u:Value),(bO ys)[i]? =some d→news[i]? =some u→RD w (Ex X β H) d u:=fun q=>by
     rw[q]at hy
     obtain⟨news,e1,e2,e3,e4,e5⟩:=mZ (P:=P) m hx hy hys
     exact⟨news,ys.length,e1,Nat.min_eq_left hle,e2 w rfl,e3,e4,e5⟩
    cases lx with
    |oc j k2 m2 c2=>
     cases hx with
     |oc _ _ _ _ p fz' size' xs' hH' hn' hkc' hc' ha'=>
      have hx':=R.oc (w:=w) (E:=Ex X β H) (β:=β) (H:=H) j k2 (min m2 n) c2 p fz' size' xs' hH' (by omega) hkc' hc' ha'
      obtain⟨news,e1,e2,e3,e4,e5⟩:=mZ (P:=P) m hx' hy hys
      have hl:ys.length=min m2 n:=by
       simp only[lJ,cH,hH',Option.some.injEq]at hy
       rw[←hy];simp;omega
      refine⟨news,m2,by simp[Builtin.lenOf],by rw[hl],?_,e3,e4,e5⟩
      have:=e2 w rfl
      cases p<;>simpa [Builtin.firstCells]using this
     |ocdead _ _ _ _ _ hd=>simp[lJ,cH,hd]at hy
    |_=>exact plain rfl
   obtain⟨p,rfl,hn,hkc,hc,hb⟩:=rG m hH hs
   rcases hb with hc0|⟨b,cur,e',rfl,hb,hblk,hcur⟩
   ·have hy0:ys=[]:=List.eq_nil_of_length_eq_zero (by omega)
    subst hy0
    have hn0:news=[]:=List.eq_nil_of_length_eq_zero (by simpa using e3)
    subst hn0
    have hid:bG H [(id,aX.row false (T e).size (cU k xs []))]=H:=by rw[aQ,uQ];exact AY hH
    refine bQ (v:=.int .i64 0) (w':=w) (β':=β) ?_ (by simp only[hid];exact m) (by simp only[hid];exact lF.refl) (cI _ _)
    simp only[List.length_nil]at e1 e2 hmin
    cases p<;>simp[execOp,ho,resolve,invoke,builtin,Builtin.copy_,run_underlying hut,hvs,hvx,e1,hmin,hso,e2,storeCells,goInt]
   ·obtain⟨m2,g2,hf,hblk2,hsz2⟩:=m.writeRow hH hb hblk (k:=k) hys (by omega) e3 e4 e5
    have hst:=run_storeCells_at P b (k*(T e).size) e' news 0 cur w hblk (by omega) e4
    simp only[Nat.add_zero]at hst
    refine bQ (v:=.int .i64 ys.length) (w':=w.setRow b (cU (k*(T e).size) cur.toList news).toArray) (β':=β) ?_ (by simp only[aQ];exact m2) (by simp only[aQ];exact g2) (cI _ _)
    simp[execOp,ho,resolve,invoke,builtin,Builtin.copy_,run_underlying hut,hvs,hvx,e1,hmin,hso,e2,hst,goInt,cU]
  ·exact hok.elim
 ·exact hok.elim
theorem pQ{t:lA}(h:t.k.agg=false→t.zero.length=1):aE (dS t)=t.zero.map kW:=by
 unfold dS
 cases q:t.k.agg with
 |true=>rfl
 |false=>
  match hz:t.zero,h q with
  |[u],_=>
   simp only[Bool.false_eq_true,if_false,List.map_cons,List.map_nil,List.getD_cons_zero]
   unfold kW
   split<;>rfl
theorem Ak(hT:mA P T){e:TypeId}(h:(T e).k.isNone=false){z:Value}(hz:z.cells.toList=(T e).zero)(n:Nat){cells:Array Value}(hc:∀i,i<n*(T e).size→cells[i]? =some (z.cells[i%z.cells.size]!)):
 ∀(i:Nat) (d:DV) (u:Value),(bO (List.replicate n (dS (T e))))[i]? =some d→cells[i]? =some u→u.oneCell'=true∧RD w E d u:=by
 intro i d u hd hu
 obtain⟨inf,h1,h2,h3⟩:=(hT e h).zv
 have hl:=(hT e h).len
 have one:=(hT e h).one
 have hzl:z.cells.size=(T e).size:=by rw[←hl,←hz];simp
 have hcd:=pQ h3
 have hall:∀x∈List.replicate n (dS (T e)),(aE x).length=(T e).size:=fun x hx=>by rw[(List.mem_replicate.1 hx).2,hcd,List.length_map,hl]
 have hi:i<n*(T e).size:=by have:=(List.getElem?_eq_some_iff.1 hd).1;rw[gA hall,List.length_replicate]at this;exact this
 have hpos:0<(T e).size:=by rcases Nat.eq_zero_or_pos (T e).size with h|h;rw[h]at hi;omega;exact h
 rw[hc i hi,hzl]at hu
 injection hu with hu
 have hj:=Nat.mod_lt i hpos
 have hdm:i / (T e).size*(T e).size+i%(T e).size=i:=by rw[Nat.mul_comm];exact Nat.div_add_mod _ _
 rw[←hdm,Gp hall _ _ hj]at hd
 have hq:i / (T e).size<n:=(Nat.div_lt_iff_lt_mul hpos).2 hi
 rw[List.getElem?_replicate,if_pos hq]at hd
 simp only[Option.bind_some,hcd]at hd
 obtain⟨u',hu',rfl⟩:=lP hd
 have huu:u=u':=by
  rw[←hu]
  have:z.cells[i%(T e).size]? =some u':=by rw[←hz]at hu';simpa using hu'
  simp[getElem!_def,this]
 subst huu
 have:=one u (List.mem_of_getElem? hu')
 exact⟨this,CX u this⟩
theorem ME(hT:mA P T)(m:fX w0 X H β w)(hg:∀x,R w (Ex X β H) β H (g x) (a.eval x)){t:TypeId}{x:Operand}(ho:o.op=.call {callee:=.builtin .clear,args:= #[x],argTypes:= #[t]})
 (ht:∀e,(T t).k=.slice e→(T e).k.isNone=false)(hok:(dI T H t (g x)).ok):pP P w0 X H β w a o (dI T H t (g x)):=by
 have hs:=hg x
 generalize g x=ls at*
 unfold dI at*
 split at hok
 ·rename_i e id k n hk
  split at hok
  ·rename_i sz xs hH
   simp only at hok⊢
   obtain⟨hsz,hfit⟩:=hok
   subst hsz
   have hut:=hT.slice hk
   obtain⟨inf,d0,z,h1,h2,h3,h4,h5,h6,h7⟩:=hT.parts (ht e hk)
   have h3:=(hT e (ht e hk)).zv.choose_spec.2.2
   have hl:=(hT e (ht e hk)).len
   have hzl:z.cells.size=(T e).size:=by rw[←hl,←h7];simp
   generalize hvs:a.eval x=vs at hs
   have hzv:(zeroValue e).run P w=.ok z w:=by simp[zeroValue,typeInfo,h1,h6]
   rcases Nat.eq_zero_or_pos n with hn0|hn0
   ·subst hn0
    have hid:bG H [(id,aX.row false (T e).size (cU k xs (List.replicate 0 (dS (T e)))))]=H:=by rw[aQ];exact AY (by rw[hH,List.replicate_zero,uQ])
    refine bQ (v:=.tuple #[]) (w':=w) (β':=β) ?_ (by simp only[hid];exact m) (by simp only[hid];exact lF.refl) (.tup [] [] rfl (by simp))
    rcases wV m hH hs with⟨b,c,cur,e',rfl,hb,hkn,hn,hc,hblk,hroom,hcap⟩|⟨p,rfl,_,hkx⟩
    ·simp[execOp,ho,resolve,invoke,builtin,Builtin.clear_,run_underlying hut,hvs]
    ·cases p<;>simp[execOp,ho,resolve,invoke,builtin,Builtin.clear_,run_underlying hut,hvs]
   ·rcases wV m hH hs with⟨b,c,cur,e',rfl,hb,hkn,hn,hc,hblk,hroom,hcap⟩|⟨p,rfl,rfl,hkx⟩
    ·have hcl:∀i,i<n*(T e).size→(Builtin.zeroCells z.cells n)[i]? =some (z.cells[i%z.cells.size]!):=fun i hi=>by
      simp[Builtin.zeroCells,hzl,hi]
     have hzr:=Ak (P:=P) (w:=w) (E:=Ex X β H) hT (ht e hk) h7 n hcl
     have hzc:(Builtin.zeroCells z.cells n).toList.length=(List.replicate n (dS (T e))).length*(T e).size:=by simp[size_zeroCells,hzl]
     have hall:∀y∈List.replicate n (dS (T e)),(aE y).length=(T e).size:=fun y hy=>by rw[(List.mem_replicate.1 hy).2,pQ h3,List.length_map,hl]
     have hone:∀u∈(Builtin.zeroCells z.cells n).toList,u.oneCell'=true:=fun u hu=>by
      obtain⟨i,hi,rfl⟩:=List.getElem_of_mem hu
      rw[hzc]at hi
      have hfl:=gA hall
      exact(hzr i ((bO (List.replicate n (dS (T e))))[i]'(by omega)) _ (List.getElem?_eq_getElem _) (by simp)).1
     obtain⟨m2,g2,hf,hblk2,hsz2⟩:=m.writeRow hH hb hblk (k:=k) hall (by simpa using hfit) hzc hone (fun i d u hd hu=>(hzr i d u hd (by simpa using hu)).2)
     have hst:=run_storeCells_at P b (k*(T e).size) e' (Builtin.zeroCells z.cells n).toList 0 cur w hblk (by omega) hone
     simp only[Nat.add_zero]at hst
     refine bQ (v:=.tuple #[]) (w':=w.setRow b (cU (k*(T e).size) cur.toList (Builtin.zeroCells z.cells n).toList).toArray) (β':=β) ?_ (by simp only[aQ];exact m2) (by simp only[aQ];exact g2) (.tup [] [] rfl (by simp))
     obtain⟨n',rfl⟩:∃n',n=n'+1:=⟨n-1,by omega⟩
     simp[execOp,ho,resolve,invoke,builtin,Builtin.clear_,run_underlying hut,hvs,hzv,hst,cU]
    ·omega
  ·exact hok.elim
 ·rename_i e id k n c hk
  split at hok
  ·rename_i sz xs hH
   simp only at hok⊢
   obtain⟨hsz,hfit⟩:=hok
   subst hsz
   have hut:=hT.slice hk
   obtain⟨inf,d0,z,h1,h2,h3,h4,h5,h6,h7⟩:=hT.parts (ht e hk)
   have h3:=(hT e (ht e hk)).zv.choose_spec.2.2
   have hl:=(hT e (ht e hk)).len
   have hzl:z.cells.size=(T e).size:=by rw[←hl,←h7];simp
   generalize hvs:a.eval x=vs at hs
   have hzv:(zeroValue e).run P w=.ok z w:=by simp[zeroValue,typeInfo,h1,h6]
   rcases Nat.eq_zero_or_pos n with hn0|hn0
   ·subst hn0
    have hid:bG H [(id,aX.row false (T e).size (cU k xs (List.replicate 0 (dS (T e)))))]=H:=by rw[aQ];exact AY (by rw[hH,List.replicate_zero,uQ])
    refine bQ (v:=.tuple #[]) (w':=w) (β':=β) ?_ (by simp only[hid];exact m) (by simp only[hid];exact lF.refl) (.tup [] [] rfl (by simp))
    obtain⟨p,rfl,hn,hkc,hc,hb⟩:=rG m hH hs
    cases p<;>simp[execOp,ho,resolve,invoke,builtin,Builtin.clear_,run_underlying hut,hvs]
   ·obtain⟨p,rfl,hn,hkc,hc,hb⟩:=rG m hH hs
    rcases hb with hc0|⟨b,cur,e',rfl,hb,hblk,hcur⟩
    ·omega
    ·have hcl:∀i,i<n*(T e).size→(Builtin.zeroCells z.cells n)[i]? =some (z.cells[i%z.cells.size]!):=fun i hi=>by
      simp[Builtin.zeroCells,hzl,hi]
     have hzr:=Ak (P:=P) (w:=w) (E:=Ex X β H) hT (ht e hk) h7 n hcl
     have hzc:(Builtin.zeroCells z.cells n).toList.length=(List.replicate n (dS (T e))).length*(T e).size:=by simp[size_zeroCells,hzl]
     have hall:∀y∈List.replicate n (dS (T e)),(aE y).length=(T e).size:=fun y hy=>by rw[(List.mem_replicate.1 hy).2,pQ h3,List.length_map,hl]
     have hone:∀u∈(Builtin.zeroCells z.cells n).toList,u.oneCell'=true:=fun u hu=>by
      obtain⟨i,hi,rfl⟩:=List.getElem_of_mem hu
      rw[hzc]at hi
      have hfl:=gA hall
      exact(hzr i ((bO (List.replicate n (dS (T e))))[i]'(by omega)) _ (List.getElem?_eq_getElem _) (by simp)).1
     obtain⟨m2,g2,hf,hblk2,hsz2⟩:=m.writeRow hH hb hblk (k:=k) hall (by simpa using hfit) hzc hone (fun i d u hd hu=>(hzr i d u hd (by simpa using hu)).2)
     have hst:=run_storeCells_at P b (k*(T e).size) e' (Builtin.zeroCells z.cells n).toList 0 cur w hblk (by omega) hone
     simp only[Nat.add_zero]at hst
     refine bQ (v:=.tuple #[]) (w':=w.setRow b (cU (k*(T e).size) cur.toList (Builtin.zeroCells z.cells n).toList).toArray) (β':=β) ?_ (by simp only[aQ];exact m2) (by simp only[aQ];exact g2) (.tup [] [] rfl (by simp))
     obtain⟨n',rfl⟩:∃n',n=n'+1:=⟨n-1,by omega⟩
     simp[execOp,ho,resolve,invoke,builtin,Builtin.clear_,run_underlying hut,hvs,hzv,hst,cU]
  ·exact hok.elim
 ·exact hok.elim
theorem OY(hT:mA P T)(m:fX w0 X H β w)(hg:∀x,R w (Ex X β H) β H (g x) (a.eval x)){t:TypeId}{n c:Operand}{dst:Nat}(ho:o.op=.makeSlice t n c)
 (ht:∀e,(T t).k=.slice e→(T e).k.isNone=false)(hok:(eM T H dst t (g n) (g c)).ok):pP P w0 X H β w a o (eM T H dst t (g n) (g c)):=by
 have hn:=hg n
 have hc:=hg c
 generalize g n=ln at*
 generalize g c=lc at*
 unfold eM at*
 split at hok
 ·rename_i e k n' k' c' hk
  simp only at hok⊢
  obtain⟨ha,h0,hnc,hmx,hpos,hby⟩:=hok
  subst hnc
  have hn:=hn.int
  have hc:=hc.int
  have hut:=hT.slice hk
  obtain⟨inf,d0,z,h1,h2,h3,h4,h5,h6,h7⟩:=hT.parts (ht e hk)
  have h3:=(hT e (ht e hk)).zv.choose_spec.2.2
  have hl:=(hT e (ht e hk)).len
  have hzl:z.cells.size=(T e).size:=by rw[←hl,←h7];simp
  obtain⟨N,rfl⟩:=Int.eq_ofNat_of_zero_le h0
  have hbb:(inf.bytes:Int)*(N:Int)≤281474976710656:=by rw[h5,Int.mul_comm];omega
  have hrun:=Go.run_make (P:=P) w t e inf z hut h1 h6 k k' (N:Int) (N:Int) h0 (Int.le_refl _) hbb (by omega)
  simp only[Int.toNat_natCast]at hrun⊢
  have hcl:∀i,i<N*(T e).size→(madeCells z.cells (N*inf.size))[i]? =some (z.cells[i%z.cells.size]!):=fun i hi=>by
   rw[h4];simp[madeCells,hi]
  have hzr:=Ak (P:=P) (w:=w) (E:=Ex X β H) hT (ht e hk) h7 N hcl
  have hall:∀y∈List.replicate N (dS (T e)),(aE y).length=(T e).size:=fun y hy=>by rw[(List.mem_replicate.1 hy).2,pQ h3,List.length_map,hl]
  have hcs:(madeCells z.cells (N*inf.size)).size=N*(T e).size:=by rw[size_madeCells,h4]
  obtain⟨m2,g2⟩:=Ag m ha hpos hall e (cur:=madeCells z.cells (N*inf.size)) (by rw[hcs,List.length_replicate];exact Nat.le_refl _) hzr ((En.refl _ _).alloc (Nat.le_refl _) _) (by simp) (heap_alloc_new w _)
  refine bQ (v:=.slice (some ⟨w.heap.size,0,none⟩) N N) (w':=w.alloc (.cells (madeCells z.cells (N*inf.size)) e)) (β':=cN β dst (some w.heap.size)) ?_ (by simp only[aQ];exact m2) (by simp only[aQ];exact g2) ?_
  ·simp[execOp,ho,hn,hc,hrun]
  ·simp only[aQ]
   have hR:=R.ow (w:=w.alloc (.cells (madeCells z.cells (N*inf.size)) e)) (E:=Ex X (cN β dst (some w.heap.size)) (cN H dst (.row false (T e).size (List.replicate N (dS (T e)))))) (β:=cN β dst (some w.heap.size)) (H:=cN H dst (.row false (T e).size (List.replicate N (dS (T e)))))
    dst 0 N w.heap.size N false (T e).size _ _ e (by rw[aJ]) (by rw[aJ]) (by simp) (Nat.le_refl _) (by unfold maxLen;omega) (heap_alloc_new w _) (by rw[hcs,Nat.zero_add])
   rw[Nat.zero_mul]at hR
   exact hR
 ·exact hok.elim
theorem FE(hT:mA P T){t e:TypeId}(hk:(T t).k=.slice e)(he:(T e).k.isNone=false){b:Option Addr}{n c:Nat}{lo hi:Option Operand}{mx:Operand}{l h m:Int}{km:IntKind}
 (hl:(lo=none∧l=0)∨∃x k,lo=some x∧a.eval x=.int k l)(hh:∃x k,hi=some x∧a.eval x=.int k h)(hm:a.eval mx=.int km m)(h0:0≤l)(h1:l≤h)(h2:h≤m)(h3:m≤c):
 (Instr.sliceAt t (.slice b n c) (lo.map a.eval) (hi.map a.eval) ((some mx).map a.eval)).run P w=.ok (.slice (if m.toNat=l.toNat then b else b.map (·.add (l.toNat*(T e).size))) (h.toNat-l.toNat) (m.toNat-l.toNat)) w:=by
 have hu:=hT.slice hk
 have hso:=cQ (P:=P) (w:=w) hT he
 have b0:∀k y,(Instr.sliceBound (.int k m) c y).run P w=.ok m.toNat w:=fun k y=>run_sliceBound w k m c y (by omega) h3
 have b1:∀k y,(Instr.sliceBound (.int k h) m.toNat y).run P w=.ok h.toNat w:=fun k y=>run_sliceBound w k h m.toNat y (by omega) (by omega)
 have b2:∀k y,(Instr.sliceBound (.int k l) h.toNat y).run P w=.ok l.toNat w:=fun k y=>run_sliceBound w k l h.toNat y h0 (by omega)
 obtain⟨x,k,rfl,hx⟩:=hh
 rcases hl with⟨rfl,rfl⟩|⟨y,k',rfl,hy⟩
 ·simp[Instr.sliceAt,Instr.slice,Instr.sliceBounds,run_underlying hu,hx,hm,b0,b1,hso]
 ·simp[Instr.sliceAt,Instr.slice,Instr.sliceBounds,run_underlying hu,hx,hm,hy,b0,b1,b2,hso]
theorem RD.sl_any{xs:List DV}{b b':Option Addr}{n c c':Nat}(h:RD w E (.sl xs) (.slice b n c))(h1:xs.length≤c')(h2:c'≤maxLen)(hb:xs≠[]→b'=b):RD w E (.sl xs) (.slice b' n c'):=by
 cases h with
 |sl0 a c hc=>exact .sl0 _ _ h2
 |sl _ b o c size us hx hb' hs hlen hc hul h1' hlt hcell h=>
  rw[hb hx]
  exact .sl xs b o c' size us hx hb' hs h1 h2 hul h1' hlt hcell h
theorem Qs(hT:mA P T)(m:fX w0 X H β w)(hg:∀x,R w (Ex X β H) β H (g x) (a.eval x)){t:TypeId}{x:Operand}{lo hi mx:Option Operand}(ho:o.op=.slice t x lo hi mx)
 (ht:∀e,(T t).k=.slice e→(T e).k.isNone=false)(hmx:mx.isSome=true)(hhi:mx.isSome=true→hi.isSome=true)(hok:(hF T H t (g x) (lo.map g) (hi.map g) (mx.map g)).ok):pP P w0 X H β w a o (hF T H t (g x) (lo.map g) (hi.map g) (mx.map g)):=by
 have hx:=hg x
 generalize g x=lx at*
 generalize hval:a.eval x=vx at hx
 have hmm:∀{k:IntKind} {m:Int},mx.map g=some (.d (.int k m))→∃y,mx=some y∧a.eval y=.int k m:=fun{k m} e=>by
  obtain⟨y,rfl,hy⟩:=Option.map_eq_some_iff.1 e
  have:=hg y
  rw[hy]at this
  exact⟨y,rfl,this.int⟩
 have hhh:∀{n:Nat} {h:Int},iE n (hi.map g)=some h→∃x k,hi=some x∧a.eval x=.int k h:=fun{n h} e=>by
  rcases fT hg e with⟨h1,_⟩|h1
  ·have:=hhi hmx;rw[h1]at this;cases this
  ·exact h1
 unfold hF at*
 split at hok
 ·rename_i e id k n hk
  split at hok
  ·rename_i l h kk m' e1 e2 e3
   simp only[oZ.cond]at hok⊢
   obtain⟨h0,h1,h2,h3,hl⟩:=hok
   obtain⟨y,rfl,hy⟩:=hmm e3
   have hform:∃b c,vx=.slice b n c∧n≤c:=by
    cases hx with
    |ow _ _ _ b c _ _ _ _ _ _ _ _ hn=>exact⟨_,c,rfl,hn⟩
    |ow0 _ _ b=>exact⟨b,0,rfl,Nat.le_refl _⟩
    |owdead _ _ _ _ hd=>rw[hd]at hl;cases hl
   obtain⟨b,c,rfl,hnc⟩:=hform
   have hr:=FE (P:=P) (w:=w) (a:=a) (b:=b) (n:=n) (c:=c) hT hk (ht e hk) (fT hg e1) (hhh e2) hy h0 h1 h2 (by omega)
   refine pP.plain m (v:=.slice (if m'.toNat=l.toNat then b else b.map (·.add (l.toNat*(T e).size))) (h.toNat-l.toNat) (m'.toNat-l.toNat)) ?_ (.junk _)
   simp only[execOp,ho,hval,Sem.run_bind,hr,Result.andThen_ok,Sem.run_pure]
  ·exact hok.elim
 ·rename_i e xs hk
  split at hok
  ·rename_i l h kk m' e1 e2 e3
   simp only[oZ.cond]at hok⊢
   obtain⟨h0,h1,h2,h3,hall⟩:=hok
   obtain⟨y,rfl,hy⟩:=hmm e3
   cases hx with
   |d _ _ hx=>
    have hform:∃b c,vx=.slice b xs.length c∧xs.length≤c∧c≤maxLen:=by cases hx with
     |sl0 b c hc=>exact⟨b,c,rfl,Nat.zero_le _,hc⟩
     |sl _ b off c _ _ hx _ _ hlen hc=>exact⟨_,c,rfl,hlen,hc⟩
    obtain⟨b,c,rfl,hlc,hcm⟩:=hform
    have hr:=FE (P:=P) (w:=w) (a:=a) (b:=b) (n:=xs.length) (c:=c) hT hk (ht e hk) (fT hg e1) (hhh e2) hy h0 h1 h2 (by omega)
    have hcut:=hx.sl_cut hall (l:=l.toNat) (h:=h.toNat) (by omega) (by omega)
    have hlen:((xs.take h.toNat).drop l.toNat).length=h.toNat-l.toNat:=by simp;omega
    refine pP.plain m ?_ (.d _ _ (hcut.sl_any (c':=m'.toNat-l.toNat) (b':=if m'.toNat=l.toNat then b else b.map (·.add (l.toNat*(T e).size))) (by omega) (by omega) fun hne=>?_))
    ·simp only[execOp,ho,hval,Sem.run_bind,hr,Result.andThen_ok,Sem.run_pure]
    ·have:h.toNat-l.toNat≠0:=fun hz=>hne (List.eq_nil_of_length_eq_zero (by omega))
     rw[if_neg (by omega),if_neg (by omega)]
  ·exact hok.elim
 ·rename_i e id k n c hk
  split at hok
  ·rename_i fz s xs hH
   split at hok
   ·rename_i l h kk m' e1 e2 e3
    simp only[oZ.cond]at hok⊢
    obtain⟨h0,h1,h2,h3,h4⟩:=hok
    obtain⟨y,rfl,hy⟩:=hmm e3
    obtain⟨p,rfl,hn,hkc,hc,hb⟩:=rG m hH hx
    have hr:=FE (P:=P) (w:=w) (a:=a) (b:=p) (n:=n) (c:=c) hT hk (ht e hk) (fT hg e1) (hhh e2) hy h0 h1 h2 (by omega)
    have hR:R w (Ex X β H) β H (.oc id (k+l.toNat) (h-l).toNat (m'-l).toNat) (.slice (if m'.toNat=l.toNat then p else p.map (·.add (l.toNat*(T e).size))) (h-l).toNat (m'-l).toNat):=by
     refine .oc id (k+l.toNat) (h-l).toNat (m'-l).toNat _ fz s xs hH (by omega) (by omega) (by omega) ?_
     by_cases hcl:m'.toNat=l.toNat
     ·left;omega
     ·right
      rcases hb with hb|⟨b,cur,e',rfl,hb,hblk,hcur⟩
      ·omega
      ·exact⟨b,hb,by rw[if_neg hcl];simp only[Option.map_some,Addr.add_lit];rw[←h4,←Nat.add_mul]⟩
    refine pP.plain m ?_ hR
    have e4:(h-l).toNat=h.toNat-l.toNat:=by omega
    have e5:(m'-l).toNat=m'.toNat-l.toNat:=by omega
    rw[e4,e5]
    simp only[execOp,ho,hval,Sem.run_bind,hr,Result.andThen_ok,Sem.run_pure]
   ·exact hok.elim
  ·exact hok.elim
 ·exact hok.elim
theorem OZ(m:fX w0 X H β w)(hg:∀x,R w (Ex X β H) β H (g x) (a.eval x)){op:BinOp}{t u:TypeId}{x y:Operand}(ho:o.op=.binOp op t x y u)(hok:(fV op (g x) (g y)).ok):pP P w0 X H β w a o (fV op (g x) (g y)):=by
 have hx:=hg x
 have hy:=hg y
 generalize g x=lx at*
 generalize g y=ly at*
 unfold fV at*
 split at hok
 ·rename_i k n k' n'
  have hx:=hx.int
  have hy:=hy.int
  cases op<;>simp only[oZ.cond]at hok⊢<;>first|(exact hok.elim)|skip
  all_goals
   subst hok
   exact pP.plain m (by simp[execOp,ho,hx,hy,Eq,binOp,Op.intArith]) (cI _ _)
 ·exact hok.elim
theorem Ey(m:fX w0 X H β w){l:LV}{v:Value}(hr:R w (Ex X β H) β H l v){n:Nat}(h:sA H l=some n):∃b c,v=.slice b n c∧n≤c∧c≤maxLen∧(b=none→n=0):=by
 unfold sA at h
 split at h
 ·injection h with h;subst h
  cases hr with
  |d _ _ hr=>cases hr with
   |sl0 b c hc=>exact⟨b,c,rfl,Nat.zero_le _,hc,fun _=>rfl⟩
   |sl _ b off c _ _ hx _ _ hlen hc=>exact⟨_,c,rfl,hlen,hc,fun h=>by cases h⟩
 ·injection h with h;subst h
  cases hr with|nl b=>exact⟨b,0,rfl,Nat.le_refl _,Nat.zero_le _,fun _=>rfl⟩
 ·rename_i id k n'
  split at h
  ·rename_i hl
   injection h with h;subst h
   cases hr with
   |ow _ _ _ b c _ _ _ _ _ _ _ _ hn hc=>exact⟨_,c,rfl,hn,hc,fun h=>by cases h⟩
   |ow0 _ _ b=>exact⟨b,0,rfl,Nat.le_refl _,Nat.zero_le _,fun _=>rfl⟩
   |owdead _ _ _ _ hd=>rw[hd]at hl;cases hl
  ·cases h
 ·cases h
theorem Qt(hT:mA P T)(m:fX w0 X H β w)(hg:∀x,R w (Ex X β H) β H (g x) (a.eval x)){op:BinOp}{t u:TypeId}{x y:Operand}(ho:o.op=.binOp op t x y u)(hy:lX y=true){e b:Bool}(hok:(fO T H t e b op (g x)).ok):
 ∃b',(b'=true→e=true)∧pP P w0 X H β w a o (fO T H t e b' op (g x)):=by
 have hx:=hg x
 generalize g x=lx at*
 have hyc:y=.const (.slice none 0 0):=by
  unfold lX at hy
  split at hy
  ·rfl
  ·cases hy
 subst hyc
 have hev:a.eval (.const (.slice none 0 0))=.slice none 0 0:=rfl
 unfold fO at hok
 split at hok
 ·rename_i e' n hk hn
  obtain⟨p,c,hv,h1,h2,h3⟩:=Ey m hx hn
  simp only[oZ.cond]at hok
  refine⟨p.isNone,fun h=>hok (h3 (by cases p<;>simp_all)),?_⟩
  unfold fO
  simp only[hk,hn,oZ.cond]
  refine pP.plain m (v:=.bool p.isNone) ?_ (dM _)
  have:=Lib.run_eql_slice_nil (P:=P) w t e' p n c 0 0 (hT.slice hk)
  cases p<;>simp[execOp,ho,hv,hev,eqGuard,this]
 ·rename_i e' n hk hn
  obtain⟨p,c,hv,h1,h2,h3⟩:=Ey m hx hn
  simp only[oZ.cond]at hok
  refine⟨p.isNone,fun h=>hok (h3 (by cases p<;>simp_all)),?_⟩
  unfold fO
  simp only[hk,hn,oZ.cond]
  refine pP.plain m (v:=.bool (!p.isNone)) ?_ (dM _)
  have:=run_neq_slice_nil_any (P:=P) w t e' p n c 0 0 (hT.slice hk)
  cases p<;>simp[execOp,ho,hv,hev,eqGuard,this]
 ·exact hok.elim
theorem Qu(hT:mA P T)(m:fX w0 X H β w)(hg:∀x,R w (Ex X β H) β H (g x) (a.eval x)){t:TypeId}{x:Operand}(ho:o.op=.call {callee:=.builtin .cap,args:= #[x],argTypes:= #[t]}){lo c:Nat}(hok:(eS T H t lo c (g x)).ok):
 ∃c',lo≤c'∧c'≤maxLen∧pP P w0 X H β w a o (eS T H t lo c' (g x)):=by
 have hx:=hg x
 generalize g x=lx at*
 generalize hval:a.eval x=vx at hx
 have fin:∀{e:TypeId} {b:Option Addr} {n c:Nat},(T t).k=.slice e→vx=.slice b n c→(execOp a.eval o).run P w=.ok (.value (.int .i64 c)) w:=fun{e b n c} hk hv=>by
  have hu:=hT.slice hk
  subst hv
  simp[execOp,ho,resolve,invoke,builtin,Builtin.cap_,run_underlying hu,hval,goInt]
 unfold eS at hok
 split at hok
 ·rename_i e xs hk
  simp only[oZ.cond]at hok
  cases hx with
  |d _ _ hx=>
   have hform:∃b c,vx=.slice b xs.length c∧xs.length≤c∧c≤maxLen:=by cases hx with
    |sl0 b c hc=>exact⟨b,c,rfl,Nat.zero_le _,hc⟩
    |sl _ b off c _ _ hx _ _ hlen hc=>exact⟨_,c,rfl,hlen,hc⟩
   obtain⟨b,c',hv,h1,h2⟩:=hform
   refine⟨c',by omega,h2,?_⟩
   unfold eS
   simp only[hk,oZ.cond]
   exact pP.plain m (fin hk hv) (cI _ _)
 ·rename_i e hk
  simp only[oZ.cond]at hok
  cases hx with
  |nl b=>
   refine⟨0,by omega,Nat.zero_le _,?_⟩
   unfold eS
   simp only[hk,oZ.cond]
   exact pP.plain m (fin hk rfl) (cI _ _)
 ·rename_i e id k n hk
  split at hok
  ·rename_i fz sz xs hH
   simp only[oZ.cond]at hok
   rcases wV m hH hx with⟨b,c',cur,e',rfl,hb,hkn,hn,hc,hblk,hroom,hcap⟩|⟨p,rfl,rfl,hkx⟩
   ·refine⟨c',by omega,hc,?_⟩
    unfold eS
    simp only[hk,hH,oZ.cond]
    exact pP.plain m (fin hk rfl) (cI _ _)
   ·refine⟨0,by omega,Nat.zero_le _,?_⟩
    unfold eS
    simp only[hk,hH,oZ.cond]
    exact pP.plain m (fin hk rfl) (cI _ _)
  ·exact hok.elim
 ·exact hok.elim
theorem Pb(hT:mA P T)(m:fX w0 X H β w)(hg:∀x,R w (Ex X β H) β H (g x) (a.eval x)){t:TypeId}{x:Operand}(ho:o.op=.call {callee:=.builtin .cap,args:= #[x],argTypes:= #[t]})(hok:(eN T H t (g x)).ok):
 pP P w0 X H β w a o (eN T H t (g x)):=by
 have hx:=hg x
 generalize g x=lx at*
 generalize hval:a.eval x=vx at hx
 unfold eN at*
 split at hok
 ·rename_i e id k n c hk
  simp only[oZ.cond]at hok⊢
  have hu:=hT.slice hk
  cases hx with
  |oc _ _ _ _ p=>
   refine pP.plain m (v:=.int .i64 c) ?_ (cI _ _)
   simp[execOp,ho,resolve,invoke,builtin,Builtin.cap_,run_underlying hu,hval,goInt]
  |ocdead _ _ _ _ _ hd=>rw[hd]at hok;cases hok
 ·rename_i e hk
  have hu:=hT.slice hk
  cases hx with
  |nl p=>
   refine pP.plain m (v:=.int .i64 0) ?_ (cI _ _)
   simp[execOp,ho,resolve,invoke,builtin,Builtin.cap_,run_underlying hu,hval,goInt]
 ·exact hok.elim
theorem CY(hT:mA P T)(m:fX w0 X H β w)(hg:∀x,R w (Ex X β H) β H (g x) (a.eval x)){t u:TypeId}{s x:Operand}{dst:Nat}(ho:o.op=.call {callee:=.builtin .append,args:= #[s,x],argTypes:= #[t,u]})
 (hu:t=u∨(T u).k.isStr=true)(ht:∀e,(T t).k=.slice e→(T e).k.isNone=false)(hok:(bR T H dst t (g s) (g x)).ok):pP P w0 X H β w a o (bR T H dst t (g s) (g x)):=by
 have hs:=hg s
 have hx:=hg x
 generalize g s=ls at*
 generalize g x=lx at*
 unfold bR at*
 split at hok
 ·rename_i e ys id k n c hk hy
  split at hok
  ·rename_i sz xs hH
   have hut:=hT.slice hk
   obtain⟨inf,d0,z,h1,h2,h3,h4,h5,h6,h7⟩:=hT.parts (ht e hk)
   have huu:∃d,P.underlying u=some d∧∀k,d≠ .int k:=by
    rcases hu with rfl|hu
    ·exact⟨_,hut,fun k=>by simp⟩
    ·have:(T u).k=.str:=by cases q:(T u).k<;>simp_all[TK.isStr]
     exact⟨_,hT.str this,fun k=>by simp⟩
   obtain⟨d,hud,hdk⟩:=huu
   have hzs:z.cells.size=(T e).size:=by
    have:=(hT e (ht e hk)).len
    rw[←h7]at this
    simpa using this
   generalize hvs:a.eval s=vs at hs
   obtain⟨p,rfl,hn,hkc,hc,hb⟩:=rG m hH hs
   have hob:=m.obj id
   simp only[fU,hH]at hob
   obtain⟨hpos,hall,hob⟩:=hob
   by_cases hin:n+ys.length≤c
   ·simp only[hin,if_true]at hok⊢
    obtain⟨hsz,hys⟩:=hok
    subst hsz
    obtain⟨news,e1,e2,e3,e4,e5⟩:=mZ (P:=P) m hx hy hys
    rw[←h4]at e2
    rcases hb with hc0|⟨b,cur,e',rfl,hb,hblk,hcur⟩
    ·have hy0:ys=[]:=List.eq_nil_of_length_eq_zero (by omega)
     subst hy0
     have hn0:news=[]:=List.eq_nil_of_length_eq_zero (by simpa using e3)
     subst hn0
     have hz:n=0:=by omega
     subst hz;subst hc0
     have hrun:=lY (P:=P) (w:=w) (ty:=o.type) (base:=p) (sLen:=0) (sCap:=0) hut hud hdk h1 e1 e2 (Nat.le_refl _)
     have hid:bG H [(id,aX.row false (T e).size (cU (k+0) xs []))]=H:=by rw[aQ,uQ];exact AY hH
     refine bQ (v:=.slice p 0 0) (w':=w) (β':=β) (iP ho ?_) (by simp only[hid];exact m) (by simp only[hid];exact lF.refl) (by simp only[hid];exact hs)
     rw[hvs,hrun]
     cases p<;>simp[storeCells]
    ·obtain⟨m2,g2,hf,hblk2,hsz2⟩:=m.writeRow hH hb hblk (k:=k+n) hys (by omega) e3 e4 e5
     have hrun:=lY (P:=P) (w:=w) (ty:=o.type) (base:=some ⟨b,k*(T e).size,none⟩) (sLen:=n) (sCap:=c) hut hud hdk h1 e1 e2 hin
     have hst:=run_storeCells_at P b (k*(T e).size+n*(T e).size) e' news 0 cur w hblk (by rw[←Nat.add_mul];omega) e4
     refine bQ (v:=.slice (some ⟨b,k*(T e).size,none⟩) (n+ys.length) c) (w':=w.setRow b (cU ((k+n)*(T e).size) cur.toList news).toArray) (β':=β) (iP ho ?_) (by simp only[aQ];exact m2) (by simp only[aQ];exact g2) ?_
     ·rw[hvs,hrun]
      simp only[Addr.add_lit,h4]
      simp only[Nat.add_zero]at hst
      rw[hst,Nat.add_mul]
      rfl
     ·simp only[aQ]
      exact R.oc _ k (n+ys.length) c _ false (T e).size (cU (k+n) xs ys) (by rw[aJ]) hin (by rw[lM (by omega)];omega) hc (.inr ⟨b,hb,rfl⟩)
   ·simp only[hin,if_false]at hok⊢
    obtain⟨ha,hsz,hys,hby,hbl⟩:=hok
    subst hsz
    obtain⟨news,e1,e2,e3,e4,e5⟩:=mZ (P:=P) m hx hy hys
    rw[←h4]at e2
    have hne:dst≠id:=fun e=>by rw[e,hH]at ha;cases ha
    have holds:∃olds:List Value,(∀w2:World,w2.heap=w.heap→(Builtin.firstCells inf.size n (.slice p n c)).run P w2=.ok olds.toArray w2)∧olds.length=n*(T e).size∧
     (∀u∈olds,u.oneCell'=true)∧∀(i:Nat) (d:DV) (u:Value),(bO ((xs.drop k).take n))[i]? =some d→olds[i]? =some u→RD w (Ex X β H) d u:=by
     rcases hb with hc0|⟨b,cur,e',rfl,hb,hblk,hcur⟩
     ·have hz:n=0:=by omega
      subst hz
      refine⟨[],fun w2 _=>?_,by simp,by simp,by simp[bO]⟩
      cases p<;>simp[Builtin.firstCells,loadCells,loadCellsFrom]
     ·rw[h4]
      exact Ai (P:=P) m hH hb (by omega) c
    obtain⟨olds,o1,o2,o3,o4⟩:=holds
    have htk:((xs.drop k).take n).length=n:=by simp;omega
    have hallt:∀x∈(xs.drop k).take n++ys,(aE x).length=(T e).size:=fun x hx=>by
     rcases List.mem_append.1 hx with hx|hx
     ·exact hall x (List.mem_of_mem_drop (List.mem_of_mem_take hx))
     ·exact hys x hx
    have hflt:(bO ((xs.drop k).take n)).length=n*(T e).size:=by rw[gA (fun x hx=>hall x (List.mem_of_mem_drop (List.mem_of_mem_take hx))),htk]
    have hxl:((xs.drop k).take n++ys).length=n+ys.length:=by rw[List.length_append,htk]
    have hrun:=qA (P:=P) (w:=w) (ty:=o.type) (base:=p) (sLen:=n) (sCap:=c) hut hud hdk h1 h6 e1 e2 o1 (by omega) (by omega) (by rw[h5];exact hby)
    obtain⟨m2,g2,hR⟩:=yJ m ha hpos hallt hzs hxl (news:=olds++news) (by rw[List.length_append,o2,e3,←Nat.add_mul])
     (fun u hu=>by
       rcases List.mem_append.1 hu with hu|hu
       ·exact o3 u hu
       ·exact e4 u hu)
     (fun i d u hd hu=>by
       rw[nL]at hd
       by_cases hi2:i<n*(T e).size
       ·rw[List.getElem?_append_left (by omega)]at hu
        rw[List.getElem?_append_left (by omega)]at hd
        exact o4 i d u hd hu
       ·rw[List.getElem?_append_right (by omega),o2]at hu
        rw[List.getElem?_append_right (by omega),hflt]at hd
        exact e5 _ d u hd hu)
     (by omega) hbl (old:=c) (e:=e) (cur:=(olds++news).toArray++Builtin.zeroCells z.cells (grownCap w (n+ys.length) c e-(n+ys.length))) rfl
    refine bQ (iP ho ?_) (by simp only[aQ];exact m2) (by simp only[aQ];exact g2) (by simp only[aQ];exact hR)
    rw[hvs,hrun]
    simp
  ·exact hok.elim
 ·exact hok.elim
theorem Ip(hT:mA P T)(m:fX w0 X H β w)(hg:∀x,R w (Ex X β H) β H (g x) (a.eval x)){t u:TypeId}{s x:Operand}{dst:Nat}(ho:o.op=.call {callee:=.builtin .append,args:= #[s,x],argTypes:= #[t,u]})
 (hu:(T u).k.isInt=true)(ht:∀e,(T t).k=.slice e→(T e).k.isNone=false)(hok:(cB T H dst t (g s) (g x)).ok):pP P w0 X H β w a o (cB T H dst t (g s) (g x)):=by
 have hs:=hg s
 have hx:=hg x
 generalize g s=ls at*
 generalize g x=lx at*
 obtain⟨ku,hku⟩:∃ku,(T u).k=.int ku:=by cases q:(T u).k<;>simp_all[TK.isInt]
 have hut2:=hT.int hku
 unfold cB at*
 generalize hvs:a.eval s=vs at hs
 have key:∀{e:TypeId} {k':IntKind} {M n c:Nat} {p:Option Addr} {xs:List DV} {olds:List Value},(T t).k=.slice e→H dst=.absent→0<M→c<n+M→0<(T e).size→(n+M)*(T e).bytes≤140737488355328→n+M≤140737488355328→
  vs=.slice p n c→a.eval x=.int k' (M:Int)→(∀x∈xs,(aE x).length=(T e).size)→xs.length=n→
  (∀w2:World,w2.heap=w.heap→(Builtin.firstCells (T e).size n (.slice p n c)).run P w2=.ok olds.toArray w2)→olds.length=n*(T e).size→
      (∀u∈olds,u.oneCell'=true)→(∀(i:Nat) (d:DV) (u:Value),(bO xs)[i]? =some d→olds[i]? =some u→RD w (Ex X β H) d u)→
  pP P w0 X H β w a o ⟨.ow dst 0 (n+M),True,[(dst,.row false (T e).size (xs++List.replicate M (dS (T e))))]⟩:=by
  intro e k' M n c p xs olds hk ha hM hcM hpos hby hbl hv hvx hall hxn o1 o2 o3 o4
  have hut:=hT.slice hk
  obtain⟨inf,d0,z,h1,h2,h3,h4,h5,h6,h7⟩:=hT.parts (ht e hk)
  have h3:=(hT e (ht e hk)).zv.choose_spec.2.2
  have hl:=(hT e (ht e hk)).len
  have hzl:z.cells.size=(T e).size:=by rw[←hl,←h7];simp
  have hcl:∀i,i<M*(T e).size→(Builtin.zeroCells z.cells M)[i]? =some (z.cells[i%z.cells.size]!):=fun i hi=>by
   simp[Builtin.zeroCells,hzl,hi]
  have hzr:=Ak (P:=P) (w:=w) (E:=Ex X β H) hT (ht e hk) h7 M hcl
  have hzc:(Builtin.zeroCells z.cells M).toList.length=M*(T e).size:=by simp[size_zeroCells,hzl]
  have hallz:∀y∈List.replicate M (dS (T e)),(aE y).length=(T e).size:=fun y hy=>by rw[(List.mem_replicate.1 hy).2,pQ h3,List.length_map,hl]
  have hone:∀u∈(Builtin.zeroCells z.cells M).toList,u.oneCell'=true:=fun u hu=>by
   obtain⟨i,hi,rfl⟩:=List.getElem_of_mem hu
   rw[hzc]at hi
   have hfl:=gA hallz
   rw[List.length_replicate]at hfl
   exact(hzr i ((bO (List.replicate M (dS (T e))))[i]'(by omega)) _ (List.getElem?_eq_getElem _) (by simp)).1
  have hallt:∀x∈xs++List.replicate M (dS (T e)),(aE x).length=(T e).size:=fun x hx=>by
   rcases List.mem_append.1 hx with hx|hx
   ·exact hall x hx
   ·exact hallz x hx
  have hflt:(bO xs).length=n*(T e).size:=by rw[gA hall,hxn]
  have hxl:(xs++List.replicate M (dS (T e))).length=n+M:=by rw[List.length_append,hxn,List.length_replicate]
  have hfit:=growslice_fits hcM (show(n+M)*inf.bytes≤140737488355328 by rw[h5];exact hby)
  have hrun:=Lib.run_append_grow_zeros (P:=P) w t u o.type e inf z k' ku hut hut2 h1 h6 p n c olds (by rw[h4];exact o1 w.drew rfl) M hM (by rw[h4];exact hpos) hcM (by omega) (by
   have:M*inf.bytes≤(n+M)*inf.bytes:=Nat.mul_le_mul_right _ (by omega)
   rw[h5]at this⊢;omega) hfit
  obtain⟨m2,g2,hR⟩:=yJ m ha hpos hallt hzl hxl (news:=olds++(Builtin.zeroCells z.cells M).toList) (by rw[List.length_append,o2,hzc,←Nat.add_mul])
   (fun u hu=>by
     rcases List.mem_append.1 hu with hu|hu
     ·exact o3 u hu
     ·exact hone u hu)
   (fun i d u hd hu=>by
     rw[nL]at hd
     by_cases hi2:i<n*(T e).size
     ·rw[List.getElem?_append_left (by omega)]at hu
      rw[List.getElem?_append_left (by omega)]at hd
      exact o4 i d u hd hu
     ·rw[List.getElem?_append_right (by omega),o2]at hu
      rw[List.getElem?_append_right (by omega),hflt]at hd
      exact(hzr _ d u hd (by simpa using hu)).2)
   (by omega) hbl (old:=c) (e:=e) (cur:=olds.toArray++Builtin.zeroCells z.cells M++Builtin.zeroCells z.cells (grownCap w (n+M) c e-(n+M))) (by
     apply Array.ext'
     simp[List.append_assoc])
  refine bQ (iP ho ?_) (by simp only[aQ];exact m2) (by simp only[aQ];exact g2) (by simp only[aQ];exact hR)
  rw[hvs,hv,hvx,hrun]
 split at hok
 ·rename_i e k' M hk
  simp only at hok⊢
  obtain⟨ha,hM,hpos,hby,hbl⟩:=hok
  obtain⟨N,rfl⟩:=Int.eq_ofNat_of_zero_le (Int.le_of_lt hM)
  simp only[Int.toNat_natCast]at hby hbl⊢
  cases hs with
  |nl b=>
   have:=key (k':=k') (M:=N) (n:=0) (c:=0) (p:=b) (xs:=[]) (olds:=[]) hk ha (by omega) (by omega) hpos (by rw[Nat.zero_add];exact hby) (by omega) rfl hx.int (by simp) rfl (fun w2 _=>by
    cases b<;>simp[Builtin.firstCells,loadCells,loadCellsFrom]) (by simp) (by simp) (by simp[bO])
   simp only[Nat.zero_add,List.nil_append]at this
   exact fun K Q hK=>this K Q hK
 ·rename_i e id k n c k' M hk
  split at hok
  ·rename_i sz xs hH
   simp only at hok⊢
   obtain⟨ha,hM,hcM,hsz,hby,hbl⟩:=hok
   subst hsz
   obtain⟨N,rfl⟩:=Int.eq_ofNat_of_zero_le (Int.le_of_lt hM)
   simp only[Int.toNat_natCast]at hby hbl hcM⊢
   have hob:=m.obj id
   simp only[fU,hH]at hob
   obtain⟨hpos,hall,hob⟩:=hob
   obtain⟨p,rfl,hn,hkc,hc,hb⟩:=rG m hH hs
   have htk:((xs.drop k).take n).length=n:=by simp;omega
   have holds:∃olds:List Value,(∀w2:World,w2.heap=w.heap→(Builtin.firstCells (T e).size n (.slice p n c)).run P w2=.ok olds.toArray w2)∧olds.length=n*(T e).size∧
    (∀u∈olds,u.oneCell'=true)∧∀(i:Nat) (d:DV) (u:Value),(bO ((xs.drop k).take n))[i]? =some d→olds[i]? =some u→RD w (Ex X β H) d u:=by
    rcases hb with hc0|⟨b,cur,e',rfl,hb,hblk,hcur⟩
    ·have hz:n=0:=by omega
     subst hz
     refine⟨[],fun w2 _=>?_,by simp,by simp,by simp[bO]⟩
     cases p<;>simp[Builtin.firstCells,loadCells,loadCellsFrom]
    ·exact Ai (P:=P) m hH hb (by omega) c
   obtain⟨olds,o1,o2,o3,o4⟩:=holds
   have:=key (k':=k') (M:=N) (n:=n) (c:=c) (p:=p) (xs:=(xs.drop k).take n) (olds:=olds) hk ha (by omega) hcM hpos hby hbl rfl hx.int (fun x hx=>hall x (List.mem_of_mem_drop (List.mem_of_mem_take hx))) htk o1 o2 o3 o4
   exact fun K Q hK=>this K Q hK
  ·exact hok.elim
 ·exact hok.elim
theorem Am(hT:mA P T)(m:fX w0 X H β w){t u:TypeId}{s x:Operand}{dst:Nat}(ho:o.op=.call {callee:=.builtin .append,args:= #[s,x],argTypes:= #[t,u]})
 (hu:t=u∨(T u).k.isStr=true)(ht:∀e,(T t).k=.slice e→(T e).k.isNone=false){lx:LV}(hx:R w (Ex X β H) β H lx (a.eval x)){e:TypeId}{ys:List DV}(hk:(T t).k=.slice e)(hy:cH H lx=some ys){b:Option Addr}(hvs:a.eval s=.slice b 0 0)
 (ha:H dst=.absent)(hpos:0<(T e).size)(hys:∀y∈ys,(aE y).length=(T e).size)(hby:ys.length*(T e).bytes≤140737488355328)(hbl:ys.length≤140737488355328):
 ∃c',ys.length≤c'∧c'≤maxLen∧∀A:Prop,pP P w0 X H β w a o ⟨.oc dst 0 ys.length c',A,[(dst,.row false (T e).size (ys++List.replicate (c'-ys.length) (dS (T e))))]⟩:=by
 have hut:=hT.slice hk
 obtain⟨inf,d0,z,h1,h2,h3,h4,h5,h6,h7⟩:=hT.parts (ht e hk)
 have huu:∃d,P.underlying u=some d∧∀k,d≠ .int k:=by
  rcases hu with rfl|hu
  ·exact⟨_,hut,fun k=>by simp⟩
  ·have:(T u).k=.str:=by cases q:(T u).k<;>simp_all[TK.isStr]
   exact⟨_,hT.str this,fun k=>by simp⟩
 obtain⟨d,hud,hdk⟩:=huu
 have hz3:=(hT e (ht e hk)).zv.choose_spec.2.2
 have hl:=(hT e (ht e hk)).len
 have hzs:z.cells.size=(T e).size:=by rw[←hl,←h7];simp
 obtain⟨news,e1,e2,e3,e4,e5⟩:=mZ (P:=P) m hx hy hys
 rw[←h4]at e2
 rcases Nat.eq_zero_or_pos ys.length with hz|hz
 ·have hy0:ys=[]:=List.eq_nil_of_length_eq_zero hz
  subst hy0
  have hn0:news=[]:=List.eq_nil_of_length_eq_zero (by simpa using e3)
  subst hn0
  have hrun:=lY (P:=P) (w:=w) (ty:=o.type) (base:=b) (sLen:=0) (sCap:=0) hut hud hdk h1 e1 e2 (Nat.le_refl _)
  obtain⟨m2,g2⟩:=Ah m ha hpos
  refine⟨0,Nat.le_refl _,Nat.zero_le _,fun A=>bQ (v:=.slice b 0 0) (w':=w) (β':=cN β dst none) (iP ho ?_) (by simpa [aQ]using m2) (by simpa [aQ]using g2) ?_⟩
  ·rw[hvs,hrun]
   cases b<;>simp[storeCells]
  ·simp only[aQ]
   exact R.oc dst 0 0 0 b false (T e).size [] (by rw[aJ];rfl) (Nat.le_refl _) (by simp) (Nat.zero_le _) (.inl rfl)
 ·have hold:∀w2:World,w2.heap=w.heap→(Builtin.firstCells inf.size 0 (.slice b 0 0)).run P w2=.ok (List.toArray []) w2:=by
   intro w2 _
   cases b<;>simp[Builtin.firstCells,loadCells,loadCellsFrom]
  have hrun:=qA (P:=P) (w:=w) (ty:=o.type) (base:=b) (sLen:=0) (sCap:=0) hut hud hdk h1 h6 e1 e2 hold (by omega) (by omega) (by rw[Nat.zero_add,h5];exact hby)
  have hge:=grownCap_ge w ys.length 0 e
  have hcm:grownCap w ys.length 0 e≤maxLen:=grownCap_le_maxLen w ys.length 0 e (by unfold maxLen;omega)
  simp only[Nat.zero_add,Array.empty_append]at hrun
  generalize hG:grownCap w ys.length 0 e=G at*
  refine⟨G,hge,hcm,fun A=>?_⟩
  have hcl:∀i,i<(G-ys.length)*(T e).size→(Builtin.zeroCells z.cells (G-ys.length))[i]? =some (z.cells[i%z.cells.size]!):=fun i hi=>by
   simp[Builtin.zeroCells,hzs,hi]
  have hzr:=Ak (P:=P) (w:=w) (E:=Ex X β H) hT (ht e hk) h7 (G-ys.length) hcl
  have hallz:∀y∈List.replicate (G-ys.length) (dS (T e)),(aE y).length=(T e).size:=fun y hy=>by rw[(List.mem_replicate.1 hy).2,pQ hz3,List.length_map,hl]
  have hallt:∀x∈ys++List.replicate (G-ys.length) (dS (T e)),(aE x).length=(T e).size:=fun x hx=>by
   rcases List.mem_append.1 hx with hx|hx
   ·exact hys x hx
   ·exact hallz x hx
  have hfy:=gA hys
  have hxl:(ys++List.replicate (G-ys.length) (dS (T e))).length=G:=by rw[List.length_append,List.length_replicate];omega
  obtain⟨cur,hcur⟩:∃cur,cur=news.toArray++Builtin.zeroCells z.cells (G-ys.length):=⟨_,rfl⟩
  have hcs:cur.size=G*(T e).size:=by
   rw[hcur]
   simp only[Array.size_append,List.size_toArray,size_zeroCells,hzs,e3,←Nat.add_mul]
   congr 1;omega
  have hblk:(w.drew.alloc (.cells cur e)).heap[w.heap.size]? =some (.cells cur e (0,0)):=heap_alloc_new w.drew _
  obtain⟨m2,g2⟩:=Ag m ha hpos hallt e (cur:=cur) (by rw[hxl,hcs];exact Nat.le_refl _) (fun i dd v hdd hv=>by
   rw[nL]at hdd
   rw[hcur]at hv
   by_cases hi:i<ys.length*(T e).size
   ·rw[Array.getElem?_append_left (by simpa [e3]using hi)]at hv
    rw[List.getElem?_append_left (by omega)]at hdd
    have hv:news[i]? =some v:=by simpa using hv
    exact⟨e4 v (List.mem_of_getElem? hv),e5 i dd v hdd hv⟩
   ·rw[Array.getElem?_append_right (by simpa [e3]using hi)]at hv
    rw[List.getElem?_append_right (by omega)]at hdd
    simp only[List.size_toArray,e3]at hv
    rw[hfy]at hdd
    exact hzr _ dd v hdd hv) (w':=w.drew.alloc (.cells cur e)) ((En.refl _ _).drew.alloc (Nat.le_refl _) _) (by simp) hblk
  rw[←hcur]at hrun
  refine bQ (iP ho (by rw[hvs,hrun])) (by simp only[aQ];exact m2) (by simp only[aQ];exact g2) ?_
  simp only[aQ]
  have hR:=R.oc (w:=w.drew.alloc (.cells cur e)) (E:=Ex X (cN β dst (some w.heap.size)) (cN H dst (.row false (T e).size (ys++List.replicate (G-ys.length) (dS (T e)))))) (β:=cN β dst (some w.heap.size)) (H:=cN H dst (.row false (T e).size (ys++List.replicate (G-ys.length) (dS (T e)))))
   dst 0 ys.length G (some ⟨w.heap.size,0,none⟩) false (T e).size _ (by rw[aJ]) hge (by rw[hxl,Nat.zero_add];exact Nat.le_refl _) hcm (.inr ⟨w.heap.size,by rw[aJ],by rw[Nat.zero_mul]⟩)
  exact hR
theorem CZ(hT:mA P T)(m:fX w0 X H β w)(hg:∀x,R w (Ex X β H) β H (g x) (a.eval x)){t u:TypeId}{s x:Operand}{dst lo c:Nat}(ho:o.op=.call {callee:=.builtin .append,args:= #[s,x],argTypes:= #[t,u]})
 (hu:t=u∨(T u).k.isStr=true)(ht:∀e,(T t).k=.slice e→(T e).k.isNone=false)(hok:(bM T H dst t lo c (g s) (g x)).ok):∃c',lo≤c'∧c'≤maxLen∧pP P w0 X H β w a o (bM T H dst t lo c' (g s) (g x)):=by
 have hs:=hg s
 have hx:=hg x
 generalize g s=ls at*
 generalize g x=lx at*
 unfold bM at*
 split at hok
 ·rename_i e ys hk hy
  simp only at hok
  obtain⟨ha,hpos,hys,hby,hbl,rfl⟩:=hok
  generalize hvs:a.eval s=vs at hs
  cases hs with
  |nl b=>
   obtain⟨c',h1,h2,h3⟩:=Am hT m ho hu ht hx hk hy hvs ha hpos hys hby hbl
   refine⟨c',h1,h2,?_⟩
   simp only[hk,hy]
   exact h3 _
 ·rename_i e ys id k n cs hk hy
  simp only at hok
  obtain⟨hlv,rfl,rfl,ha,hpos,hys,hby,hbl,rfl⟩:=hok
  generalize hvs:a.eval s=vs at hs
  cases hs with
  |oc _ _ _ _ b=>
   obtain⟨c',h1,h2,h3⟩:=Am hT m ho hu ht hx hk hy hvs ha hpos hys hby hbl
   refine⟨c',h1,h2,?_⟩
   simp only[hk,hy]
   exact h3 _
  |ocdead _ _ _ _ _ hd=>rw[hd]at hlv;cases hlv
 ·exact hok.elim
theorem fX.learn(m:fX w0 X H β w){d:Nat}(hd:H d=.absent){x:LV}{v:Value}(hx:R w (Ex X β H) β H x v):
 fX w0 X (cN H d (.know x v)) (cN β d none) w∧lF X H β w (cN H d (.know x v)) (cN β d none) w:=
 m.newObj (En.refl _ _) hd none (fun b hb=>by cases hb) fun _ hR=>by
  unfold fU
  rw[aJ]
  exact hR _ _ hx
theorem Iq(hT:mA P T)(m:fX w0 X H β w)(hg:∀x,R w (Ex X β H) β H (g x) (a.eval x)){t u:TypeId}{s x:Operand}{dst lo c:Nat}{v:Value}(ho:o.op=.call {callee:=.builtin .append,args:= #[s,x],argTypes:= #[t,u]})
 (hu:t=u∨(T u).k.isStr=true)(ht:∀e,(T t).k=.slice e→(T e).k.isNone=false)(hok:(mJ T H dst t lo c v (g s) (g x)).ok){rs:oZ→Prop}(hrs:∀c v,lo≤c→c≤maxLen→rs (mJ T H dst t lo c v (g s) (g x))):Mj P w0 X H β w a o rs:=by
 obtain⟨hok,hk⟩:=hok
 obtain⟨c',h1,h2,h3⟩:=CZ hT m hg ho hu ht hok
 intro K Q hK
 refine h3 K Q fun v w' β' m' g' hv=>?_
 have hform:bG H (bM T H dst t lo c' (g s) (g x)).up (dst+1000)=.absent∧v.oneCell'=true:=by
  unfold bM at hok m' hv⊢
  split at hok
  ·rename_i e ys hk1 hk2 hk3
   simp only[hk1,hk2,hk3,aQ]at hv⊢
   refine⟨by rw[cP _ _ (by omega)];exact hk,?_⟩
   cases hv with
   |oc=>rfl
   |ocdead _ _ _ _ _ hd=>rw[aJ]at hd;cases hd
  ·rename_i e ys id n cs hk1 hk2 hk3
   simp only[hk1,hk2,hk3,aQ]at hv⊢
   refine⟨by rw[cP _ _ (by omega)];exact hk,?_⟩
   cases hv with
   |oc=>rfl
   |ocdead _ _ _ _ _ hd=>rw[aJ]at hd;cases hd
  ·exact hok.elim
 obtain⟨m2,g2⟩:=m'.learn hform.1 hv
 refine hK _ (hrs c' v h1 h2) v w' (cN β' (dst+1000) none) ?_ ?_ ?_
 ·simpa only[mJ,mD]using m2
 ·simpa only[mJ,mD]using g'.trans g2
 ·exact .d _ _ (.val v hform.2)
theorem Ir(hT:mA P T)(m:fX w0 X H β w)(hg:∀x,R w (Ex X β H) β H (g x) (a.eval x)){t u:TypeId}{s x:Operand}{dst kid:Nat}(ho:o.op=.call {callee:=.builtin .append,args:= #[s,x],argTypes:= #[t,u]})
 (hu:t=u∨(T u).k.isStr=true)(ht:∀e,(T t).k=.slice e→(T e).k.isNone=false)(hok:(nJ T H dst t kid (g s) (g x)).ok):pP P w0 X H β w a o (nJ T H dst t kid (g s) (g x)):=by
 unfold nJ at hok⊢
 split at hok
 ·rename_i id k n c v v' hk hs
  try simp only[hk,hs]
  obtain⟨rfl,hok⟩:=hok
  have hkn:=m.obj kid
  simp only[fU,hk]at hkn
  have hsv:=hg s
  rw[hs]at hsv
  have hva:a.eval s=v':=by
   cases hsv with
   |d _ _ h=>cases h;rfl
  have hxs:x≠s:=fun e=>by
   subst e
   rw[hs]at hok
   unfold bR at hok
   split at hok
   ·rename_i hy _;simp[cH]at hy
   ·exact hok
  classical
  have hg':∀y,R w (Ex X β H) β H ((fun y=>if y=s then LV.oc id k n c else g y) y) (a.eval y):=fun y=>by
   by_cases hy:y=s
   ·subst hy;simp only[if_true];rw[hva];exact hkn
   ·simp only[if_neg hy];exact hg y
  have:=CY (g:=fun y=>if y=s then LV.oc id k n c else g y) (dst:=dst) hT m hg' ho hu ht (by simpa only[if_true,if_neg hxs]using hok)
  simp only[if_true,if_neg hxs]at this
  exact this
 ·exact hok.elim
theorem MF(hT:mA P T)(m:fX w0 X H β w)(hg:∀x,R w (Ex X β H) β H (g x) (a.eval x)){f:Operand}{args:Array Operand}{ts:Array TypeId}(ho:o.op=.call {callee:=.value f,args:=args,argTypes:=ts})
 (hok:(dK P T H (g f) (args.toList.map g)).ok):pP P w0 X H β w a o (dK P T H (g f) (args.toList.map g)):=by
 have hf:=hg f
 generalize g f=lf at*
 unfold dK at*
 split at hok
 ·rename_i fid i k n c j k' n' c' hl
  split at hok
  ·rename_i fz s xs fz' s' xs' hi hj
   simp only[hi,hj,oZ.cond]at hok⊢
   obtain⟨hne,hn,hn',fn,t,tr,e,hfn,hname,hbody,hnext,hfind,hk,he⟩:=hok
   obtain⟨l⟩:=args
   have hform:∃p q,l=[p,q]:=by
    have:=congrArg List.length hl
    simp only[List.length_map,List.length_cons,List.length_nil]at this
    match l,this with
    |[p,q],_=>exact⟨p,q,rfl⟩
   obtain⟨p,q,rfl⟩:=hform
   simp only[List.map_cons,List.map_nil,List.cons.injEq,and_true]at hl
   have hp:=hg p
   have hq:=hg q
   rw[hl.1]at hp
   rw[hl.2]at hq
   generalize hvp:a.eval p=vp at hp
   generalize hvq:a.eval q=vq at hq
   obtain⟨a1,rfl,h1,h2,h3,h4⟩:=rG m hi hp
   obtain⟨a2,rfl,g1,g2,g3,g4⟩:=rG m hj hq
   rcases h4 with h4|⟨b1,cur1,e1,rfl,hb1,hblk1,hcur1⟩
   ·omega
   rcases g4 with g4|⟨b2,cur2,e2,rfl,hb2,hblk2,hcur2⟩
   ·omega
   have hbb:b1≠b2:=fun hb=>hne (m.inj i j b1 (by rw[hi];rfl) (by rw[hj];rfl) hb1 (by rw[hb];exact hb2))
   have hfe:a.eval f=.func (.func fid) #[] #[]:=by
    generalize a.eval f=vf at hf
    cases hf with
    |d _ _ h=>cases h with
     |fn _ _ vs hl _=>
      have:vs=[]:=List.eq_nil_of_length_eq_zero hl
      rw[this]
   have hs':0<s':=by have:=m.obj j;simp only[fU,hj]at this;exact this.1
   have hpos2:cur2.size≠0:=by
    have:1*1≤xs'.length*s':=Nat.mul_le_mul (by omega) hs'
    omega
   have hrun:(callFunc fid #[.slice (some ⟨b1,k*s,none⟩) n c,.slice (some ⟨b2,k'*s',none⟩) n' c']).run P w=.ok (.value (.bool false)) w:=by
    rw[run_callFunc_extern hfn hname hbody hnext hfind,
     Lib.run_overlaps_apart w t tr e (hT.slice hk) (T e).size (fun w=>cQ hT he) ⟨b1,k*s,none⟩ ⟨b2,k'*s',none⟩ n c n' c' hbb e1 e2 cur1.size cur2.size (by simp[World.shape?,hblk1]) (by simp[World.shape?,hblk2]) hpos2 (by simp[World.frozen?,hblk1]) (by simp[World.frozen?,hblk1])]
    rfl
   refine pP.plain m (v:=.bool false) ?_ (dM _)
   simp only[execOp,ho,resolve,hfe,Deferred.ofValue,Sem.run_bind,Sem.run_pure,Result.andThen_ok,invoke,List.map_toArray,List.map_cons,List.map_nil,hvp,hvq,Array.empty_append,Array.append_empty,hrun]
  ·exact hok.elim
 ·exact hok.elim
end
end Go.Eng
namespace Go.Eng
open Go.RowKit
structure Gz(T:TypeId→lA):Prop where
 eqk:∀t,(T t).eqk≠[]→(T t).k.isNone=false
 slice:∀t e,(T t).k=.slice e→(T e).k.isNone=false
 arr:∀t n e,(T t).k=.arr n e→(T e).k.isNone=false
 struct:∀t fs,(T t).k=.struct fs→∀p∈fs,(T p.2).k.isNone=false
section
variable{P:Program} {T:TypeId→lA} {w0:iU} {X:Nat→Prop} {H:Nat→aX} {β:Nat→Option Nat} {w:World} {a:Act} {o:Oper} {g:Operand→LV} {E:Nat→Prop}
theorem GA(m:fX w0 X H β w)(hg:∀x,R w (Ex X β H) β H (g x) (a.eval x)){x:Operand}(ho:o.op=.nilCheck x){r:Option sH}(hok:(bC P T H g r o).ok):pP P w0 X H β w a o (bC P T H g r o):=by
 have hx:=hg x
 simp only[bC,ho]at hok⊢
 generalize g x=lx at*
 generalize hval:a.eval x=vx at hx
 have fin:∀p,vx=.pointer (some p)→(execOp a.eval o).run P w=.ok (.value vx) w:=by
  intro p hp
  subst hp
  simp[execOp,ho,hval]
 have finf:∀f cs,vx=.func (.func f) #[] cs→(execOp a.eval o).run P w=.ok (.value vx) w:=by
  intro f cs hp
  subst hp
  simp[execOp,ho,hval]
 split at hok
 ·rename_i id off
  simp only[oZ.cond]at hok⊢
  have h0:=hx
  cases hx with
  |bx _ _ b=>exact pP.plain m (fin _ rfl) h0
  |bxdead _ _ _ hd=>rw[hd]at hok;cases hok
 ·rename_i id k j
  simp only[oZ.cond]at hok⊢
  have h0:=hx
  cases hx with
  |rp _ _ _ b=>exact pP.plain m (fin _ rfl) h0
  |rpdead _ _ _ _ hd=>rw[hd]at hok;cases hok
 ·have h0:=hx
  cases hx with
  |d _ _ hx=>
   obtain⟨b,off,hv⟩:=hx.ro_form
   exact pP.plain m (fin _ hv) h0
 ·have h0:=hx
  cases hx with
  |d _ _ hx=>
   have:∃f cs,vx=.func (.func f) #[] cs:=by cases hx;exact⟨_,_,rfl⟩
   obtain⟨f,cs,hv⟩:=this
   exact pP.plain m (finf _ _ hv) h0
 ·have h0:=hx
  have:∃f cs,vx=.func (.func f) #[] cs:=by cases hx;exact⟨_,_,rfl⟩
  obtain⟨f,cs,hv⟩:=this
  exact pP.plain m (finf _ _ hv) h0
 ·exact hok.elim
theorem MG(hT:mA P T)(m:fX w0 X H β w)(hg:∀x,R w (Ex X β H) β H (g x) (a.eval x)){t:TypeId}{x:Operand}(ho:o.op=.sliceToArrayPointer t x)(hok:(eF T t (g x)).ok):pP P w0 X H β w a o (eF T t (g x)):=by
 have hx:=hg x
 unfold eF at*
 split at hok
 ·rename_i n e xs hk hgx
  rw[hgx]at hx
  simp only[oZ.cond]at hok⊢
  obtain⟨h0,h1,h2⟩:=hok
  generalize hval:a.eval x=vx at hx
  cases hx with
  |d _ _ hx=>
   cases hx with
   |sl0=>simp at h1;omega
   |sl _ b off c size us hne hb hs hlen hc hul h1c hlt hcell hp=>
    obtain⟨x0,r0,rfl⟩:=List.exists_cons_of_ne_nil hne
    have hsz:size=(T e).size:=by rw[←hs x0 (by simp)];exact h2 x0 (by simp)
    have hfl:=oD hs n
    refine pP.plain m (v:=.pointer (some ⟨b,off,none⟩)) ?_ (.d _ _ (.ro _ b off (us.take (n*size)) hb ?_ (fun u hu=>h1c u (List.mem_of_mem_take hu)) hlt (fun j u hj=>?_) fun i d v hd hv=>?_))
    ·have hu:=hT.arr hk
     have hlen':¬(r0.length+1<n):=by simpa using h1
     simp[execOp,ho,hval,Instr.arrayAt,run_underlying hu,hlen']
    ·rw[hfl,List.length_take,List.length_take,gA hs,hul]
    ·rw[List.getElem?_take]at hj
     split at hj
     ·exact hcell j u hj
     ·cases hj
    ·rw[hfl,List.getElem?_take]at hd
     rw[List.getElem?_take]at hv
     split at hd
     ·rename_i hi
      rw[if_pos hi]at hv
      exact hp i d v hd hv
     ·cases hd
 ·exact hok.elim
theorem KF(m:fX w0 X H β w)(hg:∀x,R w (Ex X β H) β H (g x) (a.eval x)){x:Operand}(ho:o.op=.assign x){r:Option sH}(hok:(bC P T H g r o).ok):pP P w0 X H β w a o (bC P T H g r o):=by
 simp only[bC,ho]at hok⊢
 split at hok
 ·rename_i e hgx hk ha
  simp only at hok⊢
  have hpos:=hok
  have hx:=hg x
  rw[hgx]at hx
  obtain⟨m2,g2⟩:=Ah m ha hpos
  have hform:∃b,a.eval x=.slice b 0 0:=by
   generalize a.eval x=v at hx
   cases hx;exact⟨_,rfl⟩
  obtain⟨b,hb⟩:=hform
  refine bQ (v:=.slice b 0 0) (w':=w) (β':=cN β (o.dst.getD 0) none) (by simp[execOp,ho,hb]) (by simp only[aQ];exact m2) (by simp only[aQ];exact g2) ?_
  simp only[aQ]
  exact .ow0 _ 0 b false _ [] (by rw[aJ]) (.inl ⟨by rw[aJ],rfl⟩)
 ·exact JG m hg x (.inr ho)
theorem Da(hT:mA P T)(hW:Gz T)(m:fX w0 X H β w)(hg:∀x,R w (Ex X β H) β H (g x) (a.eval x)){r:Option sH}(hself:Ab r r)(hall:∀r',Ab r r'→(bC P T H g r' o).ok):Mj P w0 X H β w a o (fun res=>∃r',Ab r r'∧res=bC P T H g r' o):=by
 have hok:=hall r hself
 have det:pP P w0 X H β w a o (bC P T H g r o)→Mj P w0 X H β w a o (fun res=>∃r',Ab r r'∧res=bC P T H g r' o):=fun h=>h.toE ⟨r,hself,rfl⟩
 cases ho:o.op with
 |move x=>refine det ?_;simp only[bC,ho]at hok⊢;exact JG m hg x (.inl ho)
 |assign x=>exact det (KF m hg ho hok)
 |pick c x y=>refine det ?_;simp only[bC,ho]at hok⊢;exact OQ m hg ho hok
 |alloc t=>refine det ?_;simp only[bC,ho]at hok⊢;exact Mq hT m ho hok
 |box t x=>refine det ?_;simp only[bC,ho]at hok⊢;exact Qp m hg ho hok
 |build t ps=>refine det ?_;simp only[bC,ho]at hok⊢;exact Mx hT m hg ho (hW.struct t) (hW.arr t) hok
 |buildSlice t n ps=>
  refine det ?_
  simp only[bC,ho]at hok⊢
  by_cases h:nD r=true
  ·rw[if_pos h]at hok⊢;exact CP hT m hg ho (hW.slice t) hok
  ·rw[if_neg h]at hok⊢;exact Ef hT m hg ho (hW.slice t) hok
 |load t x=>
  refine det ?_
  simp only[bC,ho]at hok⊢
  by_cases h:(T t).k.isNone=true
  ·rw[if_pos h]at hok;exact hok.elim
  ·rw[if_neg h]at hok⊢;exact OR hT m hg ho (by simpa using h) hok
 |store t x y=>
  refine det ?_
  simp only[bC,ho]at hok⊢
  by_cases h:(T t).k.isNone=true
  ·rw[if_pos h]at hok;exact hok.elim
  ·rw[if_neg h]at hok⊢;exact Ms hT m hg ho (by simpa using h) hok
 |nilCheck x=>exact det (GA m hg ho hok)
 |binOp op t x y u=>
  have std:(if(T t).k.isPtr then gZ op (g x) (g y)else dP (T t).eqk (T t).k.isBool op (g x) (g y)).ok→pP P w0 X H β w a o (if(T t).k.isPtr then gZ op (g x) (g y)else dP (T t).eqk (T t).k.isBool op (g x) (g y)):=fun hok=>by
   by_cases hp:(T t).k.isPtr=true
   ·rw[if_pos hp]at hok⊢;exact Qo hT m hg ho hp hok
   ·rw[if_neg hp]at hok⊢;exact Qn hT m hg ho hok (hW.eqk t)
  cases r with
  |none=>refine det ?_;simp only[bC,ho]at hok⊢;exact std hok
  |some q=>cases q with
   |wrap=>refine det ?_;simp only[bC,ho]at hok⊢;exact OZ m hg ho hok
   |nil e b=>
    simp only[bC,ho]at hok
    by_cases hy:lX y=true
    ·rw[if_pos hy]at hok
     obtain⟨b',h1,h2⟩:=Qt hT m hg ho hy hok
     refine h2.toE ⟨_,⟨b',h1,rfl⟩,?_⟩
     simp only[bC,ho,if_pos hy]
    ·rw[if_neg hy]at hok;exact hok.elim
   |_=>refine det ?_;simp only[bC,ho]at hok⊢;exact std hok
 |unOp op t x=>refine det ?_;simp only[bC,ho]at hok⊢;exact Rn m hg ho hok
 |convert s t x=>refine det ?_;simp only[bC,ho]at hok⊢;exact OU hT m hg ho hok
 |makeFunc fn first cs=>
  cases fn with
  |func f=>refine det ?_;simp only[bC,ho]at hok⊢;exact Gv m hg ho hok
  |_=>simp only[bC,ho]at hok;exact hok.elim
 |sliceToArrayPointer t x=>refine det ?_;simp only[bC,ho]at hok⊢;exact MG hT m hg ho hok
 |slice t x lo hi mx=>
  refine det ?_
  simp only[bC,ho]at hok⊢
  by_cases h:(mx.isSome&& !hi.isSome)=true
  ·rw[if_pos h]at hok;exact hok.elim
  ·rw[if_neg h]at hok⊢
   by_cases hi':(nD r&&mx.isSome)=true
   ·rw[if_pos hi']at hok⊢;exact Qs hT m hg ho (hW.slice t) (by simp at hi';exact hi'.2) (fun hm=>by cases hi<;>simp_all) hok
   rw[if_neg hi']at hok⊢;exact Mw hT m hg ho (hW.slice t) (fun hm=>by cases hi<;>simp_all) hok
 |fieldAddr s x f=>refine det ?_;simp only[bC,ho]at hok⊢;exact Mt hT m hg ho (hW.struct s) hok
 |field s x f=>refine det ?_;simp only[bC,ho]at hok⊢;exact OS hT m hg ho (hW.struct s) hok
 |indexAddr t x i=>refine det ?_;simp only[bC,ho]at hok⊢;exact FB hT m hg ho (fun e he=>he.elim (hW.slice t e) fun⟨n,hn⟩=>hW.arr t n e hn) hok
 |index t x i=>refine det ?_;simp only[bC,ho]at hok⊢;exact Mu hT m hg ho (fun e n=>hW.arr t n e) hok
 |extract x i=>refine det ?_;simp only[bC,ho]at hok⊢;exact Ii m hg ho hok
 |makeMap t r=>
  cases r with
  |none=>refine det ?_;simp only[bC,ho]at hok⊢;exact Io m ho hok
  |some _=>simp only[bC,ho]at hok;exact hok.elim
 |lookup t x i ck=>refine det ?_;simp only[bC,ho]at hok⊢;exact KB hT hW.eqk m hg ho hok
 |mapUpdate t x i y=>refine det ?_;simp only[bC,ho]at hok⊢;exact Ew hT hW.eqk m hg (.inl ho) hok
 |insert t x i y=>refine det ?_;simp only[bC,ho]at hok⊢;exact Ew hT hW.eqk m hg (.inr ho) hok
 |makeSlice t n c=>refine det ?_;simp only[bC,ho]at hok⊢;exact OY hT m hg ho (hW.slice t) hok
 |range t x=>
  refine det ?_
  simp only[bC,ho]at hok⊢
  split at hok
  ·rename_i kt et hk;exact MC hT m hg ho hk hok
  ·exact hok.elim
 |call c=>
  obtain⟨callee,args,ts⟩:=c
  cases callee with
  |value f=>
   by_cases h:nD r=true
   ·refine det ?_
    simp only[bC,ho]at hok⊢
    rw[if_pos h]at hok⊢
    exact MF hT m hg ho hok
   ·have hni:∀r',Ab r r'→nD r'=false:=fun r' hr=>by
     cases r with
     |none=>rw[show r'=none from hr];rfl
     |some q=>cases q<;>first|(exact absurd rfl h)|(rw[show r'=_ from hr];rfl)|(obtain⟨_,_,_,rfl⟩:=hr;rfl)|(obtain⟨_,_,rfl⟩:=hr;rfl)|(obtain⟨_,_,_,_,rfl⟩:=hr;rfl)
    have e:∀r',Ab r r'→bC P T H g r' o=bP P H r' (o.dst.getD 0) (g f) (bZ (g f)++args.toList.map g):=fun r' hr=>by
     simp only[bC,ho,hni r' hr,Bool.false_eq_true,if_false]
    refine(OV m hg ho hself fun r' hr=>by rw[←e r' hr];exact hall r' hr).mono ?_
    rintro res ⟨r',hr,rfl⟩
    exact⟨_,⟨r',hr,rfl⟩,by rw[e r' hr],by rw[e r' hr]⟩
  |invoke r mth=>simp only[bC,ho]at hok;exact hok.elim
  |builtin b=>
   have one:∀{x:LV} {t:TypeId},args.toList.map g=[x]→ts.toList=[t]→∃p,args= #[p]∧ts= #[t]∧g p=x:=fun{x t} h1 h2=>by
    obtain⟨l⟩:=args
    obtain⟨tl⟩:=ts
    simp only at h1 h2
    subst h2
    match l,h1 with
    |[p],h1=>simp at h1;exact⟨p,rfl,rfl,h1⟩
   have two:∀{s x:LV} {t u:TypeId},args.toList.map g=[s,x]→ts.toList=[t,u]→∃p q,args= #[p,q]∧ts= #[t,u]∧g p=s∧g q=x:=fun{s x t u} h1 h2=>by
    obtain⟨l⟩:=args
    obtain⟨tl⟩:=ts
    simp only at h1 h2
    subst h2
    match l,h1 with
    |[p,q],h1=>simp at h1;exact⟨p,q,rfl,rfl,h1.1,h1.2⟩
   simp only[bC,ho]at hok hall det⊢
   split at hok
   ·rename_i x t h1 h2
    obtain⟨p,rfl,rfl,rfl⟩:=one h1 h2
    refine det ?_
    simp only[List.map_cons,List.map_nil]
    exact Qr hT m hg ho hok
   ·rename_i s x t u h1 h2
    obtain⟨p,q,rfl,rfl,rfl,rfl⟩:=two h1 h2
    by_cases h:t=u∨(T u).k.isStr=true
    ·rw[if_pos h]at hok
     split at hok
     ·refine det ?_
      simp only[List.map_cons,List.map_nil]
      rw[if_pos h]
      exact Gy hT m hg ho h (hW.slice t) hok
     ·obtain⟨c',k1,k2,k3⟩:=CZ hT m hg ho h (hW.slice t) hok
      refine k3.toE ⟨_,⟨c',k1,k2,rfl⟩,?_⟩
      simp only[List.map_cons,List.map_nil]
      rw[if_pos h]
     ·refine Iq hT m hg ho h (hW.slice t) hok fun c' v' k1 k2=>⟨_,⟨c',v',k1,k2,rfl⟩,?_⟩
      simp only[List.map_cons,List.map_nil]
      rw[if_pos h]
     ·refine det ?_
      simp only[List.map_cons,List.map_nil]
      rw[if_pos h]
      exact Ir hT m hg ho h (hW.slice t) hok
     ·rename_i n1 n2 n3 n4
      refine det ?_
      simp only[List.map_cons,List.map_nil]
      rw[if_pos h]
      by_cases hi:uF (g p)=true
      ·simp only[if_pos hi]at hok⊢
       exact CY hT m hg ho h (hW.slice t) hok
      ·simp only[if_neg hi]at hok⊢
       exact Kx hT m hg ho h (hW.slice t) hok
    ·rw[if_neg h]at hok
     refine det ?_
     simp only[List.map_cons,List.map_nil]
     rw[if_neg h]
     by_cases hi:(T u).k.isInt=true
     ·rw[if_pos hi]at hok⊢;exact Ip hT m hg ho hi (hW.slice t) hok
     ·rw[if_neg hi]at hok;exact hok.elim
   ·rename_i x t h1 h2
    obtain⟨p,rfl,rfl,rfl⟩:=one h1 h2
    split at hok
    ·rename_i lo c hr
     obtain⟨c',k1,k2,k3⟩:=Qu hT m hg ho hok
     refine k3.toE ⟨_,⟨c',k1,k2,rfl⟩,?_⟩
     simp only[List.map_cons,List.map_nil]
    ·refine det ?_
     simp only[List.map_cons,List.map_nil]
     exact Pb hT m hg ho hok
   ·rename_i x t h1 h2
    obtain⟨p,rfl,rfl,rfl⟩:=one h1 h2
    refine det ?_
    simp only[List.map_cons,List.map_nil]
    exact ME hT m hg ho (hW.slice t) hok
   ·rename_i s x t u h1 h2
    obtain⟨p,q,rfl,rfl,rfl,rfl⟩:=two h1 h2
    refine det ?_
    simp only[List.map_cons,List.map_nil]
    by_cases hi:uF (g p)=true
    ·rw[if_pos hi]at hok⊢;exact MD hT m hg ho (hW.slice t) hok
    ·rw[if_neg hi]at hok⊢;exact OX hT m hg ho (hW.slice t) hok
   ·refine det ?_
    exact My (mx:=false) m hg ho hok
   ·refine det ?_
    exact My (mx:=true) m hg ho hok
   ·rename_i x k t u h1 h2
    obtain⟨p,q,rfl,rfl,rfl,rfl⟩:=two h1 h2
    refine det ?_
    simp only[List.map_cons,List.map_nil]
    exact KD hT hW.eqk m hg ho hok
   ·exact hok.elim
 |_=>simp only[bC,ho]at hok;exact hok.elim
theorem vQ{g g':Operand→LV}{r:Option sH}(h:∀x∈o.op.operands,g x=g' x):bC P T H g r o=bC P T H g' r o:=by
 have pairs:∀ps:Array (Nat×Operand),(∀p∈ps.toList,g p.2=g' p.2)→(ps.toList.map fun p=>(p.1,g p.2))=ps.toList.map fun p=>(p.1,g' p.2):=fun ps hp=>
  List.map_congr_left fun p hm=>by rw[hp p hm]
 obtain⟨dst,op,type,pos,after,guard⟩:=o
 cases op<;>simp only[Op.operands,Call.operands]at h<;>simp only[bC]
 case move x=>rw[h x (by simp)]
 case assign x=>rw[h x (by simp)]
 case pick c x y=>rw[h c (by simp),h x (by simp),h y (by simp)]
 case box t x=>rw[h x (by simp)]
 case build t ps=>rw[pairs ps fun p hp=>h p.2 (by simp;exact⟨p.1,by simpa using hp⟩)]
 case buildSlice t n ps=>rw[pairs ps fun p hp=>h p.2 (by simp;exact⟨p.1,by simpa using hp⟩)]
 case load t x=>rw[h x (by simp)]
 case store t x y=>rw[h x (by simp),h y (by simp)]
 case nilCheck x=>rw[h x (by simp)]
 case binOp op t x y u=>rw[h x (by simp),h y (by simp)]
 case unOp op t x=>rw[h x (by simp)]
 case convert s t x=>rw[h x (by simp)]
 case makeFunc fn first cs=>
  cases fn<;>simp only[]
  rw[List.map_congr_left fun x hx=>h x (by simp;exact .inr (by simpa using hx)),show first.toList.map g=first.toList.map g' from List.map_congr_left fun x hx=>h x (by simp;exact .inl (by simpa using hx))]
 case sliceToArrayPointer t x=>rw[h x (by simp)]
 case slice t x lo hi mx=>
  have e:∀y:Option Operand,(∀z∈y,g z=g' z)→y.map g=y.map g':=fun y hy=>by cases y with
   |none=>rfl
   |some z=>simp[hy z (by simp)]
  rw[h x (by simp),e lo (fun z hz=>h z (by simp at hz;simp[hz])),e hi (fun z hz=>h z (by simp at hz;simp[hz])),e mx (fun z hz=>h z (by simp at hz;simp[hz]))]
 case fieldAddr s x f=>rw[h x (by simp)]
 case field s x f=>rw[h x (by simp)]
 case makeSlice t n c=>rw[h n (by simp),h c (by simp)]
 case indexAddr t x i=>rw[h x (by simp),h i (by simp)]
 case index t x i=>rw[h x (by simp),h i (by simp)]
 case extract x i=>rw[h x (by simp)]
 case makeMap t r=>cases r<;>rfl
 case lookup t x i ck=>rw[h x (by simp),h i (by simp)]
 case mapUpdate t x i y=>rw[h x (by simp),h i (by simp),h y (by simp)]
 case insert t x i y=>rw[h x (by simp),h i (by simp),h y (by simp)]
 case range t x=>split<;>first|rw[h x (by simp)]|rfl
 case call c=>
  obtain⟨callee,args,ts⟩:=c
  have ea:args.toList.map g=args.toList.map g':=List.map_congr_left fun x hx=>h x (by simp;exact .inr (by simpa using hx))
  cases callee with
  |value f=>simp only[ea];rw[h f (by simp)]
  |invoke r m=>rfl
  |builtin b=>simp only[ea]
def strip:LV→LV
 | .when _ x=>x
 |x=>x
def oL:LV→Bool
 | .when c _=>c
 |_=>true
def lK(want:Bool):LV→Option Bool
 | .d (.bool b)=>some (b==want)
 | .when c (.d (.bool b))=>some (c&&(b==want))
 |_=>none
def dV:Op→List Operand
 | .pick c _ _=>[c]
 |op=>op.operands.toList
def fI(P:Program)(T:TypeId→lA)(H:Nat→aX)(g:Operand→LV)(r:Option sH)(o:Oper):oZ:=
 match o.op with
 | .pick c x y=>eJ (strip (g c)) (g x) (g y)
 |_=>bC P T H (fun x=>strip (g x)) r o
def iB(P:Program)(T:TypeId→lA)(slots:Nat→Option Nat)(env:Nat→LV)(H:Nat→aX)(r:Option sH)(o:Oper):oZ:=
 match o.guard with
 |none=>bC P T H (mT env) r o
 |some (j,want)=>match(slots j).map fun d=>lK want (env d)with
  |some (some ec)=>⟨.when ec (fI P T H (mT env) r o).v,(ec=true→(fI P T H (mT env) r o).ok)∧(ec=true→∀x∈dV o.op,oL (mT env x)=true),if ec=true then(fI P T H (mT env) r o).up else []⟩
  |_=>.fail
theorem R.strip{x:LV}{v:Value}(h:R w E β H x v)(hc:oL x=true):R w E β H (Eng.strip x) v:=by
 cases x<;>try exact h
 cases h with|when _ _ _ h _=>exact h hc
def Is(r:Option sH):Prop:=Ab r r∧∀r',Ab r r'→r'=r
theorem GB(hT:mA P T)(hW:Gz T)(m:fX w0 X H β w)(hg:∀x,R w (Ex X β H) β H (g x) (a.eval x)){r:Option sH}(hself:Ab r r)(hall:∀r',Ab r r'→(fI P T H g r' o).ok)(hc:∀x∈dV o.op,oL (g x)=true):
 Mj P w0 X H β w a o (fun res=>∃r',Ab r r'∧res=fI P T H g r' o):=by
 classical
 have hother:(∀c x y,o.op≠ .pick c x y)→Mj P w0 X H β w a o (fun res=>∃r',Ab r r'∧res=fI P T H g r' o):=by
  intro hnp
  have e1:∀r,fI P T H g r o=bC P T H (fun x=>strip (g x)) r o:=fun r=>by
   unfold fI
   split
   ·rename_i h;exact absurd h (hnp _ _ _)
   ·rfl
  have e0:dV o.op=o.op.operands.toList:=by
   unfold dV
   split
   ·rename_i h;exact absurd h (hnp _ _ _)
   ·rfl
  rw[e0]at hc
  let g2:Operand→LV:=fun x=>if x∈o.op.operands then strip (g x)else .junk
  have e2:∀r,bC P T H (fun x=>strip (g x)) r o=bC P T H g2 r o:=fun r=>vQ fun x hx=>by simp[g2,hx]
  have e3:∀r,fI P T H g r o=bC P T H g2 r o:=fun r=>(e1 r).trans (e2 r)
  simp only[e3]at hall⊢
  refine Da hT hW m (fun x=>?_) hself hall
  by_cases hx:x∈o.op.operands
  ·simp only[g2,hx,if_true];exact(hg x).strip (hc x (by simpa using hx))
  ·simp only[g2,hx,if_false];exact .junk _
 cases ho:o.op with
 |pick c x y=>
  have hok:=hall r hself
  refine pP.toE (r:=fI P T H g r o) ?_ ⟨r,hself,rfl⟩
  simp only[fI,ho]at hok⊢
  exact CK m ((hg c).strip (hc c (by simp[ho,dV]))) (hg x) (hg y) ho hok
 |_=>exact hother (by intro _ _ _;rw[ho];simp)
def hZ(env:Nat→LV)(dst:Option Nat)(l:LV):Nat→LV:=match dst with|some d=>cN env d l|none=>env
def nM(N:Nat)(dst:Option Nat):Prop:=match dst with|some d=>d<N|none=>True
def kX(P:Program)(T:TypeId→lA)(N:Nat)(slots:Nat→Option Nat)(orc:Nat→Option sH)(st:yG)(o:Oper):yG:=
 let r:=iB P T slots st.env st.H (orc (o.dst.getD 0)) o
 {env:=hZ st.env o.dst r.v
  H:=bG st.H r.up
  ok:=st.ok∧r.ok∧nM N o.dst}
theorem MH{a:Act}{d:Nat}(hd:d<a.tmps.size)(v:Value)(t:Nat):(a.put (some d) v).tmps.getD t undef=if t=d then v else a.tmps.getD t undef:=by
 simp only[Act.put,Array.getD_eq_getD_getElem?,Array.getElem?_setIfInBounds]
 by_cases h:t=d
 ·subst h;simp[hd]
 ·rw[if_neg (fun e=>h e.symm),if_neg h]
theorem tR.get{N:Nat}{env:Nat→LV}(s:tR N w0 X env H β a w)(x:Operand):R w (Ex X β H) β H (mT env x) (a.eval x):=by
 cases x with
 |tmp t=>exact s.env t
 |const v=>exact .const v
 |global g=>
  cases e:globD g with
  |none=>simp only[mT,e];exact .junk _
  |some cs=>simp only[mT,e];exact .d _ _ (s.mem.glob g cs e).1
 |func f=>exact .fn0 f
theorem tR.put{N:Nat}{env:Nat→LV}(s:tR N w0 X env H β a w){H':Nat→aX}{β':Nat→Option Nat}{w':World}(m:fX w0 X H' β' w')(gg:lF X H β w H' β' w'){dst:Option Nat}{l:LV}{v:Value}
 (hv:R w' (Ex X β' H') β' H' l v)(hd:nM N dst):tR N w0 X (hZ env dst l) H' β' (a.put dst v) w':=by
 refine⟨?_,?_,m.ext,m.xold,m.fresh,m.inj,fun t=>?_,m.obj,m.pin⟩
 ·cases dst<;>exact gg.marks s.defers
 ·cases dst with
  |none=>exact s.size
  |some d=>simp only[Act.put,Array.size_setIfInBounds];exact s.size
 ·cases dst with
  |none=>exact gg.R (s.env t)
  |some d=>
   simp only[nM,hZ]at hd⊢
   rw[MH (by rw[s.size];exact hd)]
   unfold cN
   split
   ·exact hv
   ·exact gg.R (s.env t)
theorem Db{N:Nat}{env:Nat→LV}(s:tR N w0 X env H β a w){ops:Array Oper}{j d:Nat}{want ec:Bool}(hs:(ops[j]?).bind (·.dst)=some d)(hd:d<N)(hc:lK want (env d)=some ec)
 (hg:o.guard=some (j,want)):Region.wanted o (yielded ops a.tmps)=ec:=by
 have hv:=s.env d
 have hdv:a.tmps[d]? =some (a.tmps.getD d undef):=by
  have:d<a.tmps.size:=by rw[s.size];exact hd
  simp[Array.getD_eq_getD_getElem?,this]
 have hy:∀b,a.tmps.getD d undef=.bool b→yielded ops a.tmps j=some b:=fun b hb=>by
  unfold yielded
  rw[hs]
  simp[hdv,hb]
 unfold Region.wanted
 rw[hg]
 simp only
 unfold lK at hc
 split at hc
 ·rename_i b he
  injection hc with hc
  subst hc
  rw[he]at hv
  rw[hy b hv.bool]
  cases b<;>cases want<;>rfl
 ·rename_i c b he
  injection hc with hc
  subst hc
  rw[he]at hv
  cases hv with
  |when _ _ _ hv h0=>
   cases c with
   |true=>rw[hy b (hv rfl).bool];cases b<;>cases want<;>rfl
   |false=>
    have hn:yielded ops a.tmps j=none:=by
     unfold yielded
     rw[hs]
     simp only[Option.bind_some,hdv,h0 rfl]
     rfl
    rw[hn]
    cases want<;>rfl
 ·cases hc
theorem It(hT:mA P T)(hW:Gz T){N:Nat}{ops:Array Oper}{slots:Nat→Option Nat}(hsl:∀j d,slots j=some d→(ops[j]?).bind (·.dst)=some d∧d<N){r:Option sH}{st:yG}
 (s:tR N w0 X st.env st.H β a w)(hself:Ab r r)(hok:∀r',Ab r r'→(kX P T N slots (fun _=>r') st o).ok){K:Act→World→Prop}{Q:Exit→Act→World→Prop}
 (hK:∀r',Ab r r'→∀a' w' β',tR N w0 X (kX P T N slots (fun _=>r') st o).env (kX P T N slots (fun _=>r') st o).H β' a' w'→K a' w'):
 if Region.wanted o (yielded ops a.tmps)then o.wp P a w K Q∨(o.asks P a w∧LetsOut Q)else K (a.put o.dst undef) w:=by
 have hok1:=fun r' h=>(hok r' h).1
 have hok2:=fun r' h=>(hok r' h).2.1
 have hok3:=(hok r hself).2.2
 clear hok
 simp only[kX]at hK hok2
 cases hg:o.guard with
 |none=>
  have e:∀r,iB P T slots st.env st.H r o=bC P T st.H (mT st.env) r o:=fun r=>by unfold iB;rw[hg]
  simp only[e]at hK hok2
  rw[if_pos (by simp[Region.wanted,hg])]
  left
  refine Da hT hW s.mem s.get hself hok2 K Q ?_
  rintro res ⟨r',h',rfl⟩ v w' β' m gg hv
  exact hK r' h' _ _ β' (s.put m gg hv hok3)
 |some p=>
  obtain⟨j,want⟩:=p
  unfold iB at hK hok2
  simp only[hg]at hK hok2
  have hok20:=hok2 r hself
  split at hok20
  ·rename_i ec hec
   simp only[hec]at hK hok2
   obtain⟨q1,q2⟩:=hok20
   obtain⟨d,hd1,hd2⟩:=Option.map_eq_some_iff.1 hec
   obtain⟨hd3,hd4⟩:=hsl j d hd1
   rw[Db s hd3 hd4 hd2 hg]
   cases ec with
   |true=>
    simp only[if_true]
    left
    refine GB hT hW s.mem s.get hself (fun r' h'=>(hok2 r' h').1 rfl) (q2 rfl) K Q ?_
    rintro res ⟨r',h',rfl⟩ v w' β' m gg hv
    refine hK r' h' _ _ β' ?_
    exact s.put m gg (.when true _ v (fun _=>hv) (fun h=>by cases h)) hok3
   |false=>
    simp only[Bool.false_eq_true,if_false]
    exact hK r hself _ _ β (s.put s.mem lF.refl (.when false _ undef (fun h=>by cases h) (fun _=>rfl)) hok3)
  ·exact hok20.elim
theorem JJ{N:Nat}{slots:Nat→Option Nat}{orc:Nat→Option sH}:∀(l:List Oper) (st:yG),(l.foldl (kX P T N slots orc) st).ok→st.ok
 |[],_,h=>h
 |o::l,st,h=>(JJ l _ h).1
theorem Dc(hT:mA P T)(hW:Gz T){N:Nat}{ops:Array Oper}{slots:Nat→Option Nat}(hsl:∀j d,slots j=some d→(ops[j]?).bind (·.dst)=some d∧d<N){orc:Nat→Option sH}{Q:Exit→Act→World→Prop}:
 ∀(l:List Oper) (st:yG) (β:Nat→Option Nat) (a:Act) (w:World),(∀o∈l,Is (orc (o.dst.getD 0)))→tR N w0 X st.env st.H β a w→(l.foldl (kX P T N slots orc) st).ok→
  (∀a' w' β',tR N w0 X (l.foldl (kX P T N slots orc) st).env (l.foldl (kX P T N slots orc) st).H β' a' w'→Q .normal a' w')→wpList P ops Q l a w
 |[],st,β,a,w,_,s,_,hQ=>hQ a w β s
 |o::l,st,β,a,w,hd,s,hok,hQ=>by
  obtain⟨d1,d2⟩:=hd o (by simp)
  have e:∀r',Ab (orc (o.dst.getD 0)) r'→kX P T N slots (fun _=>r') st o=kX P T N slots orc st o:=fun r' h=>by rw[d2 r' h];rfl
  have:=It (P:=P) (T:=T) hT hW (o:=o) hsl (r:=orc (o.dst.getD 0)) s d1 (fun r' h=>by rw[e r' h];exact JJ l _ hok) (K:=wpList P ops Q l) (Q:=Q) fun r' h a' w' β' s'=>by
   rw[e r' h]at s'
   exact Dc hT hW hsl l _ β' a' w' (fun o ho=>hd o (by simp[ho])) s' hok hQ
  unfold wpList
  exact this
structure Qh{ι:Type}(orcs:ι→Nat→Option sH)(Φ:ι→Prop)(d0:Nat):Prop where
 base:∀i j,Φ i→Φ j→∀d,d≠d0→orcs i d=orcs j d
 det:∀i,Φ i→∀d,d≠d0→Is (orcs i d)
 self:∀i,Φ i→Ab (orcs i d0) (orcs i d0)
 alt:∀i,Φ i→∀r',Ab (orcs i d0) r'→∃j,Φ j∧orcs j d0=r'
end
end Go.Eng
namespace Go.Eng
open Go.RowKit
inductive LX where
 |normal
 |exit (id:Nat)
 |ret
def vR:Exit→LX→Prop
 | .normal,.normal=>True
 | .exit i,.exit j=>i=j
 | .ret,.ret=>True
 |_,_=>False
abbrev mI:=Nat→LV
abbrev kV:=Nat→aX
def An(o:Oper):Bool:=match o.op with
 | .defer _=>false
 |_=>true
def zG:Code→Bool
 | .seq a b=>zG a&&zG b
 | .cond _ a b=>zG a&&zG b
 | .block _ a=>zG a
 | .loop a=>zG a
 | .region _ ops _=>ops.all An
 | .skip=>true
 | .ret=>true
 | .exit _=>true
 |_=>false
def RF(r:Option Nat):Fence:={Fence.wide with round:=r}
def sS(w0:iU)(r:Option Nat)(c:Code):Prop:=(r=none∧w0.flat=false)∨(zG c=true∧w0.flat=true)
theorem sS.seq1{w0:iU}{r:Option Nat}{x y:Code}(h:sS w0 r (.seq x y)):sS w0 r x:=h.imp (fun h=>h) fun⟨h,h2⟩=>⟨by simp only[zG,Bool.and_eq_true]at h;exact h.1,h2⟩
theorem sS.seq2{w0:iU}{r:Option Nat}{x y:Code}(h:sS w0 r (.seq x y)):sS w0 r y:=h.imp (fun h=>h) fun⟨h,h2⟩=>⟨by simp only[zG,Bool.and_eq_true]at h;exact h.2,h2⟩
theorem sS.cond1{w0:iU}{r:Option Nat}{c:Operand}{x y:Code}(h:sS w0 r (.cond c x y)):sS w0 r x:=h.imp (fun h=>h) fun⟨h,h2⟩=>⟨by simp only[zG,Bool.and_eq_true]at h;exact h.1,h2⟩
theorem sS.cond2{w0:iU}{r:Option Nat}{c:Operand}{x y:Code}(h:sS w0 r (.cond c x y)):sS w0 r y:=h.imp (fun h=>h) fun⟨h,h2⟩=>⟨by simp only[zG,Bool.and_eq_true]at h;exact h.2,h2⟩
theorem sS.block{w0:iU}{r:Option Nat}{i:Nat}{x:Code}(h:sS w0 r (.block i x)):sS w0 r x:=h.imp (fun h=>h) fun⟨h,h2⟩=>⟨by simpa only[zG]using h,h2⟩
theorem sS.loop{w0:iU}{r:Option Nat}{x:Code}(h:sS w0 r (.loop x)):sS w0 r x:=h.imp (fun h=>h) fun⟨h,h2⟩=>⟨by simpa only[zG]using h,h2⟩
theorem KG{P:Program}{r:Option Nat}{n:Nat}{row:String}{args:Array Value}{w:World}{R:Value→World→Prop}(h:Rows P row args w R):RowsIn (RF r) n P row args w R:=fun c cs _=>
 let⟨v,w',h1,h2⟩:=h c cs
 ⟨v,w',h1,(StepsIn.of_steps h2).mono fun m _=>fenced_wide P m⟩
theorem Pc{P:Program}{o:Oper}{a:Act}{w:World}{K K':Act→World→Prop}{Q:Exit→Act→World→Prop}(r:Option Nat)(hd:An o=true)(hk:∀a w,K a w→K' a w)(h:o.wp P a w K Q):o.wpIn (RF r) 0 P a w K' Q:=by
 refine⟨fun _ _=>trivial,?_⟩
 rw[Oper.semAt_eq _ _ _ (fun c e=>by simp[An,e]at hd)]
 unfold Oper.wp at h
 revert h
 cases(execOp a.eval o).run P w with
 |ok x w'=>
  cases x with
  |value v=>exact hk _ _
  |skip=>exact hk _ _
  |defer d=>exact hk _ _
  |enter f args=>exact fun h=>⟨fun h=>(by cases h),callsIn_wide.2 ((h:Calls P f args w' _).mono fun e w' he=>by cases e<;>first|exact hk _ _ he|exact he)⟩
  |row row args=>exact fun h=>⟨fun h=>(by cases h),(KG (h:Rows P row args w' _)).mono fun v w'=>hk _ _⟩
  |_=>exact fun h=>h.elim
 |halt x w'=>cases x<;>exact id
def oS(P:Program)(N:Nat)(w0:iU)(X:Nat→Prop)(c:Code)(Q:LX→mI→kV→Prop)(env:mI)(H:kV):Prop:=
 ∀r,sS w0 r c→∀β a w,tR N w0 X env H β a w→c.wpIn (RF r) 0 P (fun e a' w'=>∃x env' H' β',vR e x∧tR N w0 X env' H' β' a' w'∧Q x env' H') a w
def sT(K:mI→kV→Prop)(Q:LX→mI→kV→Prop):LX→mI→kV→Prop
 | .normal,env,H=>K env H
 |e,env,H=>Q e env H
def mM(id:Nat)(Q:LX→mI→kV→Prop):LX→mI→kV→Prop
 | .exit i,env,H=>if i=id then Q .normal env H else Q (.exit i) env H
 |e,env,H=>Q e env H
section
variable{P:Program} {T:TypeId→lA} {N:Nat} {w0:iU} {X:Nat→Prop} {Q:LX→mI→kV→Prop} {env:mI} {H:kV}
theorem oS.mono{c:Code}{Q':LX→mI→kV→Prop}(h:oS P N w0 X c Q env H)(hq:∀x env H,Q x env H→Q' x env H):oS P N w0 X c Q' env H:=
 fun r hr β a w s=>wpIn_mono (h r hr β a w s) fun _ _ _ ⟨x,e,H,β',h1,h2,h3⟩=>⟨x,e,H,β',h1,h2,hq _ _ _ h3⟩
theorem oS.seq{x y:Code}(h:oS P N w0 X x (sT (oS P N w0 X y Q) Q) env H):oS P N w0 X (.seq x y) Q env H:=by
 intro r hr β a w s
 refine wpIn_seq (wpIn_mono (h r hr.seq1 β a w s) ?_)
 rintro e a' w' ⟨lx,env',H',β',h1,h2,h3⟩
 cases e<;>cases lx<;>simp only[vR]at h1
 ·exact h3 r hr.seq2 β' a' w' h2
 ·subst h1;exact⟨.exit _,env',H',β',rfl,h2,h3⟩
 ·exact⟨.ret,env',H',β',trivial,h2,h3⟩
theorem oS.skip(h:Q .normal env H):oS P N w0 X .skip Q env H:=fun _ _ β _ _ s=>wpIn_skip ⟨.normal,env,H,β,trivial,s,h⟩
theorem oS.ret(h:Q .ret env H):oS P N w0 X .ret Q env H:=fun _ _ β _ _ s=>wpIn_ret ⟨.ret,env,H,β,trivial,s,h⟩
theorem oS.exit{id:Nat}(h:Q (.exit id) env H):oS P N w0 X (.exit id) Q env H:=fun _ _ β _ _ s=>wpIn_exit ⟨.exit id,env,H,β,rfl,s,h⟩
theorem oS.block{id:Nat}{c:Code}(h:oS P N w0 X c (mM id Q) env H):oS P N w0 X (.block id c) Q env H:=by
 intro r hr β a w s
 refine wpIn_block (wpIn_mono (h r hr.block β a w s) ?_)
 rintro e a' w' ⟨lx,env',H',β',h1,h2,h3⟩
 cases e<;>cases lx<;>simp only[vR]at h1
 ·exact⟨.normal,env',H',β',trivial,h2,h3⟩
 ·subst h1
  simp only[Exit.inBlock,mM]at h3⊢
  split at h3
  ·rename_i he;rw[if_pos he];exact⟨.normal,env',H',β',trivial,h2,h3⟩
  ·rename_i he;rw[if_neg he];exact⟨.exit _,env',H',β',rfl,h2,h3⟩
 ·exact⟨.ret,env',H',β',trivial,h2,h3⟩
theorem oS.cond{c:Operand}{x y:Code}{b:Bool}(hc:mT env c=.d (.bool b))(h1:b=true→oS P N w0 X x Q env H)(h2:b=false→oS P N w0 X y Q env H):oS P N w0 X (.cond c x y) Q env H:=by
 intro r hr β a w s
 have hv:=s.get c
 rw[hc]at hv
 refine wpIn_cond hv.bool ?_
 cases b
 ·exact h2 rfl r hr.cond2 β a w s
 ·exact h1 rfl r hr.cond1 β a w s
theorem BN{F:Fence}{d:Nat}{c:Code}{Q:Exit→Act→World→Prop}{a:Act}{w:World}(J:Nat→Act→World→Prop)(n:Nat)(h0:J n a w)
 (round:∀n a w,J n a w→c.wpIn F d P (Exit.then (fun a' w'=>∃m,m<n∧J m a' w') Q) a w):(Code.loop c).wpIn F d P Q a w:=by
 intro b k cs hro hb hr
 have key:∀n a w,J n a w→∃e a' w',Q e a' w'∧ArrivesIn (Machine.fenced P F) P (lone (b.atR a (.code c::.inLoop c::k)) cs w) b k cs e a' w':=by
  intro n
  induction n using Nat.strongRecOn with
  |_ n ih=>
   intro a w hJ
   obtain⟨e,a1,w1,hq,harr⟩:=round n a w hJ b (.inLoop c::k) cs hro hb hr
   cases e with
   |normal=>
    obtain⟨m,hlt,hm⟩:=hq
    obtain⟨e2,a2,w2,hq2,harr2⟩:=ih m hlt a1 w1 hm
    exact⟨e2,a2,w2,hq2,.of_steps (StepsIn.trans harr (.one (fenced_calm hb hr rfl) stepR_inLoop)) harr2⟩
   |exit id=>exact⟨_,a1,w1,hq,.pass (x:=.inLoop c) rfl (fun _ _=>.inl (by simp)) harr⟩
   |goto l=>exact⟨_,a1,w1,hq,.pass (x:=.inLoop c) rfl (fun _ _=>.inl (by simp)) harr⟩
   |ret=>exact⟨_,a1,w1,hq,.pass (x:=.inLoop c) rfl (fun _ _=>.inl (by simp)) harr⟩
   |panic ch=>exact⟨_,a1,w1,hq,.pass (x:=.inLoop c) rfl (fun _ _=>.inl (by simp)) harr⟩
   |outgrown=>exact⟨_,a1,w1,hq,.pass (x:=.inLoop c) rfl (fun _ _=>.inl (by simp)) harr⟩
 obtain⟨e,a',w',hq,harr⟩:=key n a w h0
 exact⟨e,a',w',hq,.of_steps (.one (fenced_calm hb hr rfl) stepR_loop) harr⟩
theorem oS.loop{c:Code}{ι:Type}(E:ι→mI)(O:ι→kV)(I:ι→Prop)(μ:ι→Nat)(i:ι)(he:E i=env)(hH:O i=H)(h0:I i)
 (round:∀i,I i→oS P N w0 X c (sT (fun env' H'=>∃j,E j=env'∧O j=H'∧I j∧μ j<μ i) Q) (E i) (O i)):oS P N w0 X (.loop c) Q env H:=by
 intro r hr β a w s
 have key:∀n i,μ i=n→I i→∀β a w,tR N w0 X (E i) (O i) β a w→(Code.loop c).wpIn (RF r) 0 P (fun e a' w'=>∃x env' H' β',vR e x∧tR N w0 X env' H' β' a' w'∧Q x env' H') a w:=by
  intro n i hn hI β a w s
  refine BN (fun n a w=>∃i β,μ i=n∧I i∧tR N w0 X (E i) (O i) β a w) n ⟨i,β,hn,hI,s⟩ fun n' a' w' ⟨i',β',h1,h2,h3⟩=>?_
  refine wpIn_mono (round i' h2 r hr.loop β' a' w' h3) ?_
  rintro e a2 w2 ⟨lx,env',H',β2,g1,g2,g3⟩
  cases e<;>cases lx<;>simp only[vR]at g1
  ·obtain⟨j,e1,e2,e3,e4⟩:=g3
   subst e1;subst e2
   exact⟨μ j,by omega,j,β2,rfl,e3,g2⟩
  ·subst g1;exact⟨.exit _,env',H',β2,rfl,g2,g3⟩
  ·exact⟨.ret,env',H',β2,trivial,g2,g3⟩
 subst he;subst hH
 exact key _ i rfl h0 β a w s
theorem Dd{N:Nat}{X:Nat→Prop}{w0:iU}{Q:LX→mI→kV→Prop}(a:Act)(w:World):¬∃x env' H' β',vR .outgrown x∧tR N w0 X env' H' β' a w∧Q x env' H':=by
 rintro⟨x,_,_,_,h,_⟩;cases x<;>exact h
theorem GC{r:Option Nat}{ops:Array Oper}{Q:Exit→Act→World→Prop}(hno:∀a w,¬Q .outgrown a w)(hc:∀(i:Nat) (h:i<ops.size),An ops[i]=true):∀(l:List Nat) (a:Act) (w:World),wpOps P ops Q l a w→wpOpsIn (RF r) 0 P ops Q l a w:=by
 intro l
 induction l with
 |nil=>exact fun a w h=>h
 |cons i rest ih=>
  intro a w h
  simp only[wpOps]at h
  simp only[wpOpsIn]
  cases ho:ops[i]? with
  |none=>rw[ho]at h;exact ih _ _ h
  |some o=>
   rw[ho]at h
   obtain⟨hi,he⟩:=Array.getElem?_eq_some_iff.1 ho
   have hd:An o=true:=by have:=hc i hi;rw[he]at this;exact this
   simp only at h⊢
   split
   ·rename_i hw;rw[if_pos hw]at h;exact Pc r hd ih (h.resolve_right fun⟨_,a,w,q⟩=>hno a w q)
   ·rename_i hw;rw[if_neg hw]at h;exact⟨fun _ _=>trivial,ih _ _ h⟩
theorem yK{r:Option Nat}{id:Nat}{ops:Array Oper}{Q:Exit→Act→World→Prop}{a:Act}{w:World}(hno:∀a w,¬Q .outgrown a w)(hr:sS w0 r (.region id ops false))(h:wpList P ops Q ops.toList a w):(Code.region id ops false).wpIn (RF r) 0 P Q a w:=by
 rcases hr with⟨rfl,_⟩|⟨hc,_⟩
 ·exact wpIn_wide.2 (wp_region_list h)
 ·simp only[zG,Array.all_eq_true]at hc
  refine wpIn_region ?_
  rw[List.range_eq_range',←Array.length_toList]
  rw[←wpOps_eq_wpList ops.toList 0 (by simp)]at h
  exact GC hno hc _ _ _ h
theorem Iu{r:Option Nat}{id:Nat}{ops:Array Oper}{Q:Exit→Act→World→Prop}{a:Act}{w:World}(hno:∀a w,¬Q .outgrown a w)(hm:P.follows .mixedOrders=true)(hr:sS w0 r (.region id ops true))
 (h:wpAny P .any ops Q ops.size (Array.replicate ops.size false) a {w with drawn:=w.drawn+1}):(Code.region id ops true).wpIn (RF r) 0 P Q a w:=by
 rcases hr with⟨rfl,_⟩|⟨hc,_⟩
 ·exact wpIn_wide.2 (wp_region_any hm h)
 ·simp only[zG,Array.all_eq_true]at hc
  refine wpIn_region_draw fun t=>GC hno hc _ _ _ ?_
  simp only[Region.schedule,hm,Bool.true_or,if_true]
  exact wpAny_sound ops.size t _ a _ h
theorem oS.region(hT:mA P T)(hW:Gz T){id:Nat}{ops:Array Oper}{slots:Nat→Option Nat}(hsl:∀j d,slots j=some d→(ops[j]?).bind (·.dst)=some d∧d<N)(orc:Nat→Option sH)(hdet:∀d,Is (orc d))
 (hok:(ops.toList.foldl (kX P T N slots orc) ⟨env,H,True⟩).ok)(h:Q .normal (ops.toList.foldl (kX P T N slots orc) ⟨env,H,True⟩).env (ops.toList.foldl (kX P T N slots orc) ⟨env,H,True⟩).H):
 oS P N w0 X (.region id ops false) Q env H:=by
 intro r hr β a w s
 exact yK Dd hr (Dc hT hW hsl ops.toList ⟨env,H,True⟩ β a w (fun o _=>hdet _) s hok fun a' w' β' s'=>⟨.normal,_,_,β',trivial,s',h⟩)
end
end Go.Eng
namespace Go.Eng
open Go.RowKit
def oM(w0:iU)(env:mI)(H:kV)(env':mI)(H':kV):Prop:=
 ∀N X β a w,tR N w0 X env H β a w→∃β',tR N w0 X env' H' β' a w
section
variable{P:Program} {T:TypeId→lA} {N:Nat} {w0:iU} {X:Nat→Prop} {Q:LX→mI→kV→Prop} {env env' env'':mI} {H H' H'':kV}
theorem oM.refl:oM w0 env H env H:=fun _ _ β _ _ s=>⟨β,s⟩
theorem oM.trans(h:oM w0 env H env' H')(k:oM w0 env' H' env'' H''):oM w0 env H env'' H'':=fun N X β a w s=>let⟨β',s'⟩:=h N X β a w s;k N X β' a w s'
theorem mE{c:Code}(h:oM w0 env H env' H')(k:oS P N w0 X c Q env' H'):oS P N w0 X c Q env H:=fun r hr β a w s=>let⟨β',s'⟩:=h N X β a w s;k r hr β' a w s'
theorem Pd(keep:List Nat)(σ:List (Nat×Nat))(hσ:(σ.map (·.2)).Nodup)(hσ1:(σ.map (·.1)).Nodup)(hpin:∀id∈w0.pins,dR σ id=some id):
 ∀N X β a w,tR N w0 X env H β a w→∃β',tR N w0 X (aY (keep.map fun t=>(t,ren σ 8 (env t)))) (aK (σ.map fun p=>(p.2,cD σ (H p.1)))) β' a w∧∀i j,dR σ i=some j→aK (σ.map fun p=>(p.2,cD σ (H p.1))) j=cD σ (H i)∧β' j=β i:=by
 intro N X β a w s
 let Hn:kV:=aK (σ.map fun p=>(p.2,cD σ (H p.1)))
 let β':Nat→Option Nat:=fun j=>((σ.find? fun p=>p.2=j).map fun p=>p.1).bind β
 have look:∀j,(∃p∈σ,p.2=j∧Hn j=cD σ (H p.1)∧β' j=β p.1)∨(Hn j=.absent∧β' j=none∧∀p∈σ,p.2≠j):=by
  intro j
  have key:∀l:List (Nat×Nat),(∃p∈l,p.2=j∧lG (l.map fun p=>(p.2,cD σ (H p.1))) j=cD σ (H p.1)∧((l.find? fun p=>p.2=j).map fun p=>p.1).bind β=β p.1)∨
   (lG (l.map fun p=>(p.2,cD σ (H p.1))) j=.absent∧((l.find? fun p=>p.2=j).map fun p=>p.1).bind β=none∧∀p∈l,p.2≠j):=by
   intro l
   induction l with
   |nil=>right;exact⟨rfl,rfl,by simp⟩
   |cons q r ih=>
    by_cases hq:q.2=j
    ·left
     exact⟨q,List.mem_cons_self ..,hq,by simp[lG,hq],by simp[hq]⟩
    ·simp only[List.map_cons,lG,if_neg (fun e:j=q.2=>hq e.symm),List.find?_cons]
     have:(decide (q.2=j))=false:=by simpa using hq
     simp only[this]
     rcases ih with⟨p,hp,h1,h2,h3⟩|⟨h1,h2,h3⟩
     ·exact .inl ⟨p,List.mem_cons_of_mem _ hp,h1,h2,h3⟩
     ·refine .inr ⟨h1,h2,fun p hp=>?_⟩
      rcases List.mem_cons.1 hp with rfl|hp
      ·exact hq
      ·exact h3 p hp
  exact key σ
 have hH:∀i j,dR σ i=some j→Hn j=cD σ (H i)∧β' j=β i:=by
  intro i j h
  have hm:=vO h
  rcases look j with⟨p,hp,h1,h2,h3⟩|⟨_,_,h3⟩
  ·have:=qW hσ p (i,j) hp hm h1
   subst this
   exact⟨h2,h3⟩
  ·exact absurd rfl (h3 _ hm)
 have hE:∀k,Ex X β' Hn k→Ex X β H k:=by
  intro k hk
  rcases hk with hk|⟨j,h1,h2⟩
  ·exact .inl hk
  ·rcases look j with⟨p,hp,_,e1,e2⟩|⟨e1,_,_⟩
   ·rw[e1,uO]at h1
    exact .inr ⟨p.1,h1,by rw[←e2];exact h2⟩
   ·rw[e1]at h1;cases h1
 have hD:∀x v,RD w (Ex X β H) x v→RD w (Ex X β' Hn) x v:=fun x v h=>h.anti hE
 have hR:=R.ren hD hH
 refine⟨β',⟨s.defers.anti hE,s.size,s.ext,s.xold,fun j b hl hb=>?_,fun i j b hi hj h1 h2=>?_,fun t=>?_,fun j=>?_,fun id hid=>(s.pin id hid).of_ren (hH id id (hpin id hid)).1 (hH id id (hpin id hid)).2⟩,hH⟩
 ·rcases look j with⟨p,hp,_,e1,e2⟩|⟨e1,_,_⟩
  ·have hl':(Hn j).live=true:=hl
   rw[e1,kT]at hl'
   refine(s.fresh p.1 b hl' (by rw[←e2];exact hb)).imp (Or.imp (fun h=>h) fun h=>⟨h.1,fun hm=>h.2 ?_⟩) (fun h=>h)
   have hm':(Hn j).mut=true:=hm
   rw[e1,uO]at hm';exact hm'
  ·have hl':(Hn j).live=true:=hl
   rw[e1]at hl';cases hl'
 ·have hi':(Hn i).live=true:=hi
  have hj':(Hn j).live=true:=hj
  rcases look i with⟨p,hp,p1,e1,e2⟩|⟨e1,_,_⟩
  ·rcases look j with⟨q,hq,q1,f1,f2⟩|⟨f1,_,_⟩
   ·rw[e1,kT]at hi'
    rw[f1,kT]at hj'
    have:=s.inj p.1 q.1 b hi' hj' (by rw[←e2];exact h1) (by rw[←f2];exact h2)
    have:=qW hσ1 p q hp hq this
    rw[←p1,←q1,this]
   ·rw[f1]at hj';cases hj'
  ·rw[e1]at hi';cases hi'
 ·have key:∀l:List Nat,R w (Ex X β' Hn) β' Hn (kN (l.map fun t=>(t,Eng.ren σ 8 (env t))) t) (a.tmps.getD t undef):=by
   intro l
   induction l with
   |nil=>exact .junk _
   |cons u r ih=>
    simp only[List.map_cons,kN]
    split
    ·rename_i e;subst e;exact hR 8 _ _ (s.env t)
    ·exact ih
  exact key keep
 ·have goal:fU w (Ex X β' Hn) β' Hn j:=by
   unfold fU
   rcases look j with⟨p,hp,p1,e1,e2⟩|⟨e1,_,_⟩
   ·rw[e1]
    have ho:=s.obj p.1
    unfold fU at ho
    cases q:H p.1 with
    |absent=>trivial
    |dead=>trivial
    |box fz cs=>
     rw[q]at ho
     simp only[cD]at ho⊢
     obtain⟨b,e,us,h1,h2,h3,h4,h5⟩:=ho
     refine⟨b,e,us,by rw[e2];exact h1,h2,by simpa using h3,h4,fun i c v hc hv=>?_⟩
     obtain⟨c0,hc0,rfl⟩:=lP hc
     exact hR 8 _ _ (h5 i c0 v hc0 hv)
    |row fz size xs=>
     rw[q]at ho
     simp only[cD]at ho⊢
     obtain⟨h1,h2,h3⟩:=ho
     refine⟨h1,h2,?_⟩
     rcases h3 with⟨h3,h4⟩|⟨b,e,cur,h3,h4,h5,h6⟩
     ·exact .inl ⟨by rw[e2];exact h3,h4⟩
     ·exact .inr ⟨b,e,cur,by rw[e2];exact h3,h4,h5,fun i d v hd hv=>⟨(h6 i d v hd hv).1,hD _ _ (h6 i d v hd hv).2⟩⟩
    |map fz ks vs=>
     rw[q]at ho
     simp only[cD]at ho⊢
     obtain⟨b,arr,clock,h1,h2,h3,h4,h5,h6,h7⟩:=ho
     exact⟨b,arr,clock,by rw[e2];exact h1,h2,h3,h4,h5,fun i d e hd he=>hD _ _ (h6 i d e hd he),fun i d e hd he=>hD _ _ (h7 i d e hd he)⟩
    |iter fz ks vs=>
     rw[q]at ho
     simp only[cD]at ho⊢
     obtain⟨b,bm,arr,clock,seen,last,h1,h2,h3,h4,h5,h6,h7,h8,h9,h10,h11⟩:=ho
     exact⟨b,bm,arr,clock,seen,last,by rw[e2];exact h1,h2,fun h=>h3 (hE _ h),h4,h5,h6,h7,h8,h9,fun i d e hd he=>hD _ _ (h10 i d e hd he),fun i d e hd he=>hD _ _ (h11 i d e hd he)⟩
    |know x v=>
     rw[q]at ho
     simp only[cD]at ho⊢
     exact hR 8 _ _ ho
   ·rw[e1];trivial
  exact goal
theorem lQ(keep:List Nat)(σ:List (Nat×Nat))(hσ:(σ.map (·.2)).Nodup)(hσ1:(σ.map (·.1)).Nodup)(hpin:∀id∈w0.pins,dR σ id=some id):
 oM w0 env H (aY (keep.map fun t=>(t,ren σ 8 (env t)))) (aK (σ.map fun p=>(p.2,cD σ (H p.1)))):=fun N X β a w s=>let⟨β',h,_⟩:=Pd keep σ hσ hσ1 hpin N X β a w s;⟨β',h⟩
theorem oM.close(t:Nat){x:DV}(h:Eng.close H 8 (env t)=some x):oM w0 env H (cN env t (.d x)) (bG H (aP H (bL H 8 (env t)))):=by
 intro N X β a w s
 obtain⟨m,g⟩:=s.mem.freeze (bL H 8 (env t))
 refine⟨β,g.marks s.defers,s.size,m.ext,m.xold,m.fresh,m.inj,fun u=>?_,m.obj,m.pin⟩
 unfold cN
 split
 ·rename_i e;subst e;exact .d _ _ (lN s.mem h (fun _ h=>h) (s.env u))
 ·exact g.R (s.env u)
theorem oS.len{c:Code}{t:Nat}{xs:List DV}(he:env t=.d (.sl xs))(h:xs.length≤9223372036854775807→oS P N w0 X c Q env H):oS P N w0 X c Q env H:=by
 intro r hr β a w s
 have hv:=s.env t
 rw[he]at hv
 cases hv with
 |d _ _ hv=>
  obtain⟨b,c',_,h1,h2⟩:=hv.sl_len
  exact h (by unfold maxLen at h2;omega) r hr β a w s
@[congr] theorem Re{c:Code}(h1:env=env')(h2:H=H'):oS P N w0 X c Q env H=oS P N w0 X c Q env' H':=by rw[h1,h2]
def bU(N:Nat)(l:List Oper)(j:Nat):Option Nat:=match(l[j]?).bind (·.dst)with
 |some d=>if d<N then some d else none
 |none=>none
theorem zN(N:Nat)(l:List Oper):∀j d,bU N l j=some d→(l.toArray[j]?).bind (·.dst)=some d∧d<N:=by
 intro j d h
 unfold bU at h
 split at h
 ·rename_i d' hd
  split at h
  ·injection h with h;subst h;exact⟨by simpa using hd,by assumption⟩
  ·cases h
 ·cases h
def mW(P:Program)(T:TypeId→lA)(N:Nat)(l:List Oper)(orc:Nat→Option sH)(env:mI)(H:kV):yG:=l.foldl (kX P T N (bU N l) orc) ⟨env,H,True⟩
theorem FF(hT:mA P T)(hW:Gz T){id:Nat}{l:List Oper}(orc:Nat→Option sH)(hdet:∀d,Is (orc d))(h:(mW P T N l orc env H).ok∧Q .normal (mW P T N l orc env H).env (mW P T N l orc env H).H):
 oS P N w0 X (.region id l.toArray false) Q env H:=
 oS.region hT hW (zN N l) orc hdet h.1 h.2
def wW{ι:Type}(d0:Nat)(base:Nat→Option sH)(g:ι→sH)(i:ι)(d:Nat):Option sH:=if d=d0 then some (g i)else base d
def memless:DV→Bool
 | .int _ _=>true
 | .bool _=>true
 | .str _=>true
 | .val _=>true
 |_=>false
def mF(H:kV):LV→Prop
 | .d (.agg cs)=>∀c∈cs,memless c=true
 | .d x=>memless x=true
 | .ow id k n=>match H id with
   | .row _ _ xs=>∀x∈(xs.drop k).take n,∀c∈aE x,memless c=true
   |_=>False
 | .nl=>True
 |_=>False
theorem RD.memless{w:World}{E E':Nat→Prop}{x:DV}{v:Value}(hm:Eng.memless x=true)(h:RD w E x v):RD w E' x v:=by
 cases h<;>first|exact .int _ _|exact .bool _|exact .str _|(exact .val _ (by assumption))|cases hm
theorem Ao(hp:w0.pins=[]){b n:Nat}{A:Prop}(h:(w0.w.heap.size≤b∨w0.mine b∧A)∧b<n):w0.w.heap.size≤b:=by
 rcases h.1 with h|⟨⟨id,h,_⟩,_⟩
 ·exact h
 ·rw[hp]at h;cases h
theorem GD(hpn:w0.pins=[]){β:Nat→Option Nat}{a:Act}{w:World}{l:LV}{x:DV}{v:Value}(s:tR N w0 X env H β a w)(hr:R w (Ex X β H) β H l v)(hc:Eng.close H 8 l=some x)(hf:mF H l):RD w (fun k=>X k∨k<w0.w.heap.size) x v:=by
 cases l with
 |d y=>
  simp only[Eng.close,Option.some.injEq]at hc
  subst hc
  cases hr with
  |d _ _ hr=>
   cases y with
   |agg cs=>
    cases hr with
    |agg _ vs hl h1 hp=>exact .agg cs vs hl h1 fun i c v hc hv=>(hp i c v hc hv).memless (hf c (List.mem_of_getElem? hc))
   |_=>exact hr.memless hf
 |nl=>
  simp only[Eng.close,Option.some.injEq]at hc
  subst hc
  cases hr with|nl b=>exact .sl0 b 0 (by unfold maxLen;omega)
 |ow id k n=>
  simp only[mF]at hf
  have hcl:=tS (E':=fun _=>False) s.obj (fun _ _ h=>h.anti fun _ h=>h.elim) 8 _ x v hc (fun _ _ _ _ h=>h) hr
  cases q:H id with
  |row fz size xs=>
   rw[q]at hf
   simp only[Eng.close,q,Option.some.injEq]at hc
   subst hc
   have hl:(H id).live=true:=by rw[q];rfl
   have hform:n=0∨∃b o c,β id=some b∧v=.slice (some ⟨b,o,none⟩) n c:=by
    cases hr with
    |ow _ _ _ b c _ _ _ _ _ _ hb'=>exact .inr ⟨b,_,c,hb',rfl⟩
    |owdead _ _ _ _ hd=>rw[q]at hd;cases hd
    |ow0=>exact .inl rfl
   clear hr
   generalize hys:(xs.drop k).take n=ys at*
   cases hcl with
   |sl0 b c hc=>exact .sl0 b c hc
   |sl _ b off c s' us hne hb hall hlen hc hul h1 hlt hcell hp=>
    refine .sl ys b off c s' us hne ?_ hall hlen hc hul h1 hlt hcell fun i d v hd hv=>(hp i d v hd hv).memless ?_
    ·have hbid:β id=some b:=by
      rcases hform with hz|⟨b',o',c',hb',hv'⟩
      ·subst hz;exact absurd hys.symm hne
      ·injection hv' with hv' _ _
       injection hv' with hv'
       injection hv' with hv' _ _
       rw[hv'];exact hb'
     have:=Ao hpn (s.fresh id b hl hbid)
     rintro(h|h)
     ·have:=(s.xold.1 b h).1;omega
     ·omega
    ·obtain⟨y,hy,hdy⟩:=List.mem_flatMap.1 (List.mem_of_getElem? hd)
     exact hf y (by rw[hys];exact hy) d hdy
  |_=>rw[q]at hf;exact hf.elim
 |_=>exact hf.elim
def lH(H:kV)(fresh:Bool)(l:LV):RV→Prop
 | .d x=>Eng.close H 8 l=some x∧(fresh=true→mF H l)
 | .own s xs=>(match l with
   | .ow id k n=>match H id with
     | .row false s' ys=>k=0∧n=xs.length∧s'=s∧xs.length≤ys.length∧ys.take xs.length=xs
     |_=>False
   | .nl=>xs=[]∧0<s
   |_=>False)∧(fresh=true→∀x∈xs,∀c∈aE x,memless c=true)
 | .tup _=>False
theorem yL(hpn:w0.pins=[]){β:Nat→Option Nat}{a:Act}{w:World}{l:LV}{v:Value}{r:RV}{fresh:Bool}(s:tR N w0 X env H β a w)(hr:R w (Ex X β H) β H l v)(h:lH H fresh l r):
 ∃B:Option Nat,AU w0.w w (fun k=>(X k∨fresh=true∧k<w0.w.heap.size)∨B=some k) B r v:=by
 cases r with
 |d x=>
  refine⟨none,?_⟩
  obtain⟨h1,h2⟩:=h
  show RD w _ x v
  cases fresh with
  |true=>
   refine(GD hpn s hr h1 (h2 rfl)).anti fun k hk=>?_
   rcases hk with(hk|hk)|hk
   ·exact .inl hk
   ·exact .inr hk.2
   ·cases hk
  |false=>
   refine(lN s.mem h1 (fun _ h=>h) hr).anti fun k hk=>?_
   rcases hk with(hk|hk)|hk
   ·exact .inl hk
   ·cases hk.1
   ·cases hk
 |own sz xs=>
  obtain⟨h,hf⟩:=h
  have hform:(l=.nl∧xs=[]∧0<sz)∨∃id ys,l=.ow id 0 xs.length∧H id=.row false sz ys∧xs.length≤ys.length∧ys.take xs.length=xs:=by
   cases l with
   |nl=>exact .inl ⟨rfl,h⟩
   |ow id k n=>
    simp only at h
    split at h
    ·rename_i s' ys hH
     obtain⟨h1,h2,h0,h3,h4⟩:=h
     subst h1;subst h2;subst h0
     exact .inr ⟨id,ys,rfl,hH,h3,h4⟩
    ·exact h.elim
   |_=>exact h.elim
  rcases hform with⟨rfl,rfl,hpos⟩|⟨id,ys,rfl,hH,hle,htk⟩
  ·cases hr with|nl b=>exact⟨none,hpos,by simp,.inl ⟨rfl,rfl,b,rfl⟩⟩
  have ho:=s.obj id
  simp only[fU,hH]at ho
  obtain⟨hpos,hall,ho⟩:=ho
  have hl:(H id).live=true:=by rw[hH];rfl
  generalize hn:xs.length=n at hr
  cases hr with
  |owdead _ _ _ _ hd=>rw[hH]at hd;cases hd
  |ow0 _ _ b=>exact⟨none,hpos,fun x hx=>hall x (by rw[←htk]at hx;exact List.mem_of_mem_take hx),.inl ⟨rfl,List.eq_nil_of_length_eq_zero hn,b,rfl⟩⟩
  |ow _ _ _ b c _ _ _ cur e hH' hb hkn hnc hc hblk hroom=>
   rw[hH]at hH';injection hH' with _ e1 e2;subst e1;subst e2
   have hallx:∀x∈xs,(aE x).length=sz:=fun x hx=>hall x (by rw[←htk]at hx;exact List.mem_of_mem_take hx)
   rcases ho with⟨hnone,hx⟩|⟨b',e',cur',hb',hblk',hlen',hp0⟩
   ·rw[hnone]at hb;cases hb
   ·rw[hb]at hb';injection hb' with hb';subst hb'
    rw[hblk]at hblk';injection hblk' with hblk';injection hblk' with p1 p2;subst p1;subst p2
    have hp:∀(i:Nat) (d:DV) (v:Value),(bO xs)[i]? =some d→cur[i]? =some v→v.oneCell'=true∧RD w (Ex X β H) d v:=fun i d v hd hv=>by
     rw[←htk,oD hall,List.getElem?_take]at hd
     split at hd
     ·exact hp0 i d v hd hv
     ·cases hd
    refine⟨some b,hpos,hallx,.inr ⟨b,c,cur,e,rfl,by rw[Nat.zero_mul,hn],Ao hpn (s.fresh id b hl hb),hblk,by omega,hc,by rw[Nat.zero_add]at hroom;exact hroom,fun i d v hd hv=>⟨(hp i d v hd hv).1,?_⟩⟩⟩
    cases fresh with
    |true=>
     obtain⟨y,hy,hdy⟩:=List.mem_flatMap.1 (List.mem_of_getElem? hd)
     exact(hp i d v hd hv).2.memless (hf rfl y hy d hdy)
    |false=>
     refine(hp i d v hd hv).2.anti fun k hk=>?_
     rcases hk with(hk|hk)|hk
     ·exact .inl hk
     ·cases hk.1
     ·injection hk with hk;subst hk;exact .inr ⟨id,by rw[hH];rfl,hb⟩
 |tup _=>exact h.elim
def fP(args:List DV):mI:=aY ((args.zipIdx).map fun p=>(p.2,.d p.1))
theorem BO(args:List DV)(t:Nat):fP args t=match args[t]? with|some x=>.d x|none=>.junk:=by
 have key:∀(l:List DV) (k t:Nat),kN ((l.zipIdx k).map fun p=>(p.2,LV.d p.1)) (k+t)=match l[t]? with|some x=>.d x|none=>.junk:=by
  intro l
  induction l with
  |nil=>intro k t;simp[kN]
  |cons x r ih=>
   intro k t
   simp only[List.zipIdx_cons,List.map_cons,kN]
   cases t with
   |zero=>simp
   |succ t=>
    rw[if_neg (by omega)]
    have:=ih (k+1) t
    rw[show k+1+t=k+(t+1)by omega]at this
    rw[this];simp
 have:=key args 0 t
 rw[Nat.zero_add]at this
 exact this
section still
variable{w:World} {l:Nat} {o:Obj} (o':Obj) (ho:w.heap[l]? =some o) (hc:wP o=false)
include ho hc
theorem pL(k:Nat)(q:Obj)(hk:w.heap[k]? =some q)(hq:wP q=true):(w.putObj l o').heap[k]? =some q:=by
 refine(World.putObj_heap_other fun e=>?_).trans hk
 subst e;rw[ho]at hk;cases hk;rw[hc]at hq;cases hq
theorem yM{E:Nat→Prop}{d:DV}{v:Value}(h:RD w E d v):RD (w.putObj l o') E d v:=h.keep (pL o' ho hc) (by simp)
theorem De{β:Nat→Option Nat}{H:kV}(id:Nat):cC w β H (w.putObj l o') β H id:=by
 unfold cC
 cases q:H id with
 |absent=>trivial
 |dead=>rfl
 |box fz cs=>exact .inr ⟨⟨_,_,rfl⟩,rfl⟩
 |row fz size xs=>exact .inr ⟨⟨_,_,rfl,Nat.le_refl _⟩,rfl,fun b cur e _ hc'=>⟨cur,e,pL o' ho hc _ _ hc' rfl,rfl⟩⟩
 |map fz ks vs=>exact .inr ⟨⟨_,_,_,rfl⟩,rfl⟩
 |iter fz ks vs=>exact .inr ⟨⟨_,_,_,rfl⟩,rfl⟩
 |know x v=>trivial
theorem FG{E:Nat→Prop}{β:Nat→Option Nat}{H:kV}{x:LV}{v:Value}(h:Eng.R w E β H x v):Eng.R (w.putObj l o') E β H x v:=h.step (fun _ _=>yM o' ho hc) (De o' ho hc)
theorem fX.still{w0:iU}{X:Nat→Prop}{β:Nat→Option Nat}{H:kV}(m:fX w0 X H β w)(hl:w0.w.heap.size≤l):fX w0 X H β (w.putObj l o'):=by
 have hsz:(w.putObj l o').heap.size=w.heap.size:=by simp
 refine⟨⟨m.ext.os,m.ext.tape,m.ext.output,by rw[hsz];exact m.ext.size,fun k hk hn=>(World.putObj_heap_other (by omega)).trans (m.ext.block k hk hn),m.ext.drawn⟩,m.xold,
  fun id b h1 h2=>by rw[hsz];exact m.fresh id b h1 h2,m.inj,fun id=>?_,fun id hid=>(m.pin id hid).trans (De o' ho hc id)⟩
 have ho2:=m.obj id
 unfold fU at ho2⊢
 cases q:H id with
 |absent=>trivial
 |dead=>trivial
 |box fz cs=>
  rw[q]at ho2
  obtain⟨b,e,us,z1,z2,z3,z4,z5⟩:=ho2
  exact⟨b,e,us,z1,pL o' ho hc _ _ z2 rfl,z3,z4,fun i c v hc' hv=>FG o' ho hc (z5 i c v hc' hv)⟩
 |row fz size xs=>
  rw[q]at ho2
  obtain⟨z1,z2,z3⟩:=ho2
  refine⟨z1,z2,z3.imp (fun h=>h) ?_⟩
  rintro⟨b,e,cur,y1,y2,y3,y4⟩
  exact⟨b,e,cur,y1,pL o' ho hc _ _ y2 rfl,y3,fun i d v hd hv=>⟨(y4 i d v hd hv).1,yM o' ho hc (y4 i d v hd hv).2⟩⟩
 |map fz ks vs=>
  rw[q]at ho2
  obtain⟨b,arr,clock,z1,z2,z3,z4,z5,z6,z7⟩:=ho2
  exact⟨b,arr,clock,z1,pL o' ho hc _ _ z2 rfl,z3,z4,z5,fun i d e hd he=>yM o' ho hc (z6 i d e hd he),fun i d e hd he=>yM o' ho hc (z7 i d e hd he)⟩
 |iter fz ks vs=>
  rw[q]at ho2
  obtain⟨b,bm,arr,clock,seen,last,z1,z2,z3,z4,z5,z6,z7,z8,z9,z10,z11⟩:=ho2
  exact⟨b,bm,arr,clock,seen,last,z1,pL o' ho hc _ _ z2 rfl,z3,by rw[hsz];exact z4,pL o' ho hc _ _ z5 rfl,z6,z7,z8,z9,fun i d e hd he=>yM o' ho hc (z10 i d e hd he),fun i d e hd he=>yM o' ho hc (z11 i d e hd he)⟩
 |know x v=>
  rw[q]at ho2
  exact FG o' ho hc ho2
end still
theorem tR.leave{n:Nat}{w0:iU}{X:Nat→Prop}{env:mI}{H:kV}{β:Nat→Option Nat}{P:Program}{fn:Func}{R:Ending→World→Prop}{a:Act}{w:World}(s:tR n w0 X env H β a w)
 (h:∀a' w',a'.tmps=a.tmps→tR n w0 X env H β a' w'→∃v,(results fn a.tmps).run P w'=.ok v w'∧R (.returned v) w'):LeavesInM Fence.wide 0 P fn a.tmps R a.defers .returning w:=by
 obtain⟨Ds,h0,h1,h2,h3⟩:=s.defers
 rw[h2]
 clear h2 h0
 have base:tR n w0 X env H β {a with defers:=[]} w:=⟨Eo.nil,s.size,s.ext,s.xold,s.fresh,s.inj,s.env,s.obj,s.pin⟩
 clear s
 obtain⟨tm,df⟩:=a
 simp only at base h⊢
 clear df
 induction Ds generalizing w with
 |nil=>
  obtain⟨v,q1,q2⟩:=h ⟨tm,[]⟩ w rfl base
  exact⟨v,q1,q2⟩
 |cons D Ds ih=>
  obtain⟨hD,hE,hb⟩:=h3 D (List.mem_cons_self ..)
  refine⟨by simp,.inl ⟨D,_,rfl,run_takeDeferred hb,?_⟩⟩
  refine ih (List.nodup_cons.1 h1).2 (fun D' hD'=>?_) ?_
  ·obtain⟨q1,q2,q3⟩:=h3 D' (List.mem_cons_of_mem _ hD')
   exact⟨q1,q2,(World.putObj_heap_other (k:=D') (r:=D) fun e=>(List.nodup_cons.1 h1).1 (by rw[←e];exact hD')).trans q3⟩
  ·have m:=(base.mem).still (.deferred none) hb rfl hD
   exact⟨Eo.nil,base.size,m.ext,m.xold,m.fresh,m.inj,fun t=>FG _ hb rfl (base.env t),m.obj,m.pin⟩
theorem sC{P:Program}{n:Nat}{w0:iU}{X:Nat→Prop}{env:mI}{H:kV}{β:Nat→Option Nat}{f:FuncId}{fn:Func}{c:Code}{args:Array Value}{w:World}{R:Ending→World→Prop}{Q:LX→mI→kV→Prop}
 (hf:P.funcs[f]? =some fn)(hb:fn.body=some c)(h0:w0.flat=false)(h:oS P n w0 X c Q env H)(s:tR n w0 X env H β ⟨args++Array.replicate (fn.ntmps-args.size) undef,[]⟩ w)
 (hQ:∀x env H β a w,Q x env H→tR n w0 X env H β a w→(match x with| .exit _=>False|_=>True)∧∃v,(results fn a.tmps).run P w=.ok v w∧R (.returned v) w):Calls P f args w R:=by
 refine(callsIn_wide (n:=0)).1 (callsIn_of_wp_marks hf hb trivial (wpIn_mono (h none (.inl ⟨rfl,h0⟩) β _ w s) ?_) rfl)
 rintro e a' w' ⟨x,env,H,β,h1,s,h2⟩
 have key:∀(_:match x with| .exit _=>False|_=>True),LeavesInM Fence.wide 0 P fn a'.tmps R a'.defers .returning w':=fun _=>s.leave fun a2 w2 e2 s2=>by
  have:=(hQ x env H β a2 w2 h2 s2).2
  rw[e2]at this
  exact this
 have hx:=(hQ x env H β a' w' h2 s).1
 cases e<;>cases x<;>simp only[vR]at h1
 ·exact key trivial
 ·exact hx.elim
 ·exact key trivial
theorem vS{f:FuncId}{fn:Func}{c:Code}{args:List DV}{r:Mn}{n:Nat}(hf:P.funcs[f]? =some fn)(hname:(fn.name== "runtime.NumGoroutine")=false)(hb:fn.body=some c)(hn:fn.ntmps=n)(hargs:args.length≤n)
 (h:∀w0 X,w0.pins=[]→oS P n w0 X c (fun x env H=>(match x with| .exit _=>False|_=>True)∧∀β a w,tR n w0 X env H β a w→∃v,(results fn a.tmps).run P w=.ok v w∧Gn w0.w w (fun k=>X k∨r.fresh=true∧k<w0.w.heap.size) r.v v) (fP args) (aK [])):
 Ok P f args r:=by
 refine⟨⟨fn,hf,hname,by rw[hb];rfl⟩,fun w X vs hX hr=>?_⟩
 refine sC (β:=fun _=>none) hf hb rfl (h ⟨w,fun _=>none,fun _=>.absent,[],false⟩ X rfl) ?_ ?_
 ·refine⟨Eo.nil,?_,⟨rfl,rfl,rfl,Nat.le_refl _,fun _ _ _=>rfl,Nat.le_refl _⟩,⟨fun k hk=>⟨hX.1 k hk,by rintro⟨id,hid,_⟩;cases hid⟩,hX.2.anti fun k hk=>by rcases hk with hk|⟨id,hid,_⟩;exact hk;cases hid⟩,fun id b hl _=>by simp[aK,lG,aX.live]at hl,fun i j b hi _=>by simp[aK,lG,aX.live]at hi,fun t=>?_,fun id=>by unfold fU;trivial,fun id hid=>by cases hid⟩
  ·have:=hr.1
   simp
   omega
  ·rw[BO]
   cases q:args[t]? with
   |none=>exact .junk _
   |some x=>
    have ht:t<vs.length:=by rw[hr.1];exact(List.getElem?_eq_some_iff.1 q).1
    have hv:(vs.toArray++Array.replicate (fn.ntmps-vs.toArray.size) undef).getD t undef=vs[t]:=by
     simp[Array.getD_eq_getD_getElem?,Array.getElem?_append_left,ht]
    rw[hv]
    refine .d _ _ ((hr.2 t x _ q (List.getElem?_eq_getElem ht)).anti fun k hk=>?_)
    rcases hk with hk|⟨id,h1,_⟩
    ·exact hk
    ·cases h1
 ·rintro x env H β a' w' ⟨h2,h3⟩ s
  obtain⟨v,hv1,hv2⟩:=h3 β a' w' s
  have hbel:En w.heap.size w w':=⟨s.ext.os,s.ext.tape,s.ext.output,s.ext.size,fun k hk=>s.ext.block k hk (by rintro⟨id,hid,_⟩;cases hid),s.ext.drawn⟩
  exact⟨h2,v,hv1,v,rfl,hbel,hv2⟩
theorem Ok.one{f:FuncId}{fn:Func}{c:Code}{args:List DV}{r:Mn}{n t:Nat}(hf:P.funcs[f]? =some fn)(hname:(fn.name== "runtime.NumGoroutine")=false)(hb:fn.body=some c)(hn:fn.ntmps=n)(hargs:args.length≤n)(hres:fn.results= #[.tmp t])
 (hrt:∀rs,r.v≠ .tup rs)(h:∀w0 X,w0.pins=[]→oS P n w0 X c (fun x env H=>(match x with| .exit _=>False|_=>True)∧lH H r.fresh (env t) r.v) (fP args) (aK [])):Ok P f args r:=by
 refine vS hf hname hb hn hargs fun w0 X hpn=>(h w0 X hpn).mono fun x env H ⟨h1,h2⟩=>⟨h1,fun β a w s=>⟨a.tmps.getD t undef,results_tmp hres _ _ _,?_⟩⟩
 obtain⟨B,hB⟩:=yL hpn s (s.env t) h2
 cases q:r.v with
 |tup rs=>exact absurd q (hrt rs)
 |d x=>rw[q]at hB;exact⟨B,hB⟩
 |own sz xs=>rw[q]at hB;exact⟨B,hB⟩
end
end Go.Eng
namespace Go.Eng
open Go.RowKit
def FH:Value→Value→Bool
 | .bool a,.bool b=>a==b
 | .int j a,.int k b=>j==k&&a==b
 | .string a,.string b=>a.data.toList==b.data.toList
 | .slice none 0 0,.slice none 0 0=>true
 | .pointer none,.pointer none=>true
 | .map none,.map none=>true
 | .nilFunc,.nilFunc=>true
 | .nilIface,.nilIface=>true
 |_,_=>false
theorem Iv{a b:Value}(h:FH a b=true):a=b:=by
 unfold FH at h
 split at h
 ·simp only[beq_iff_eq]at h;rw[h]
 ·simp only[Bool.and_eq_true,beq_iff_eq]at h;rw[h.1,h.2]
 ·rename_i a b
  simp only[beq_iff_eq]at h
  have:=congrArg (fun l:List UInt8=>(⟨l.toArray⟩:ByteArray)) h
  simp only[uK]at this
  rw[this]
 all_goals first|rfl|cases h
def Ap:List Value→List Value→Bool
 |[],[]=>true
 |a::x,b::y=>FH a b&&Ap x y
 |_,_=>false
theorem wX:∀{x y:List Value},Ap x y=true→x=y
 |[],[],_=>rfl
 |a::x,b::y,h=>by simp only[Ap,Bool.and_eq_true]at h;rw[Iv h.1,wX h.2]
 |[],_::_,h=>by cases h
 |_::_,[],h=>by cases h
def Aq:List Field→List (Nat×TypeId)→Bool
 |[],[]=>true
 |f::x,p::y=>f.offset==p.1&&f.type==p.2&&Aq x y
 |_,_=>false
theorem BP:∀{x:List Field} {y:List (Nat×TypeId)},Aq x y=true→x.map (fun f=>(f.offset,f.type))=y
 |[],[],_=>rfl
 |f::x,p::y,h=>by
  simp only[Aq,Bool.and_eq_true,beq_iff_eq]at h
  simp only[List.map_cons]
  rw[BP h.2,h.1.1,h.1.2]
 |[],_::_,h=>by cases h
 |_::_,[],h=>by cases h
def RU:TypeDesc→TK→Bool
 | .int k,.int k'=>k==k'
 | .bool,.bool=>true
 | .string,.str=>true
 | .slice e,.slice e'=>e==e'
 | .struct fs,.struct l=>Aq fs.toList l
 | .array n e,.arr n' e'=>n==n'&&e==e'
 | .pointer e,.ptr e'=>e==e'
 | .map k e,.map k' e'=>k==k'&&e==e'
 | .map _ _,.other=>true
 | .func _ _ _,.other=>true
 | .interface _,.other=>true
 | .tuple _,.other=>true
 |_,_=>false
theorem Qv{d:TypeDesc}{k:TK}(h:RU d k=true):uL d k:=by
 unfold RU at h
 split at h<;>simp only[uL]
 ·simpa using h
 ·simpa using h
 ·exact BP h
 ·simpa using h
 ·simpa using h
 ·simpa using h
 ·cases h
def FI(P:Program)(t:TypeId):TK→Bool
 | .int k=>match P.underlying t with|some (.int k')=>k==k'|_=>false
 | .bool=>match P.underlying t with|some .bool=>true|_=>false
 | .str=>match P.underlying t with|some .string=>true|_=>false
 |_=>false
theorem Iw{P:Program}{t:TypeId}{k:TK}(h:FI P t k=true):pZ P t k:=by
 cases k<;>simp only[FI]at h<;>simp only[pZ]<;>first|(cases h;done)|skip
 all_goals(split at h<;>first|(cases h;done)|skip)
 ·rename_i e;simp only[beq_iff_eq]at h;rw[e,h]
 ·rename_i e;exact e
 ·rename_i e;exact e
def uR(P:Program):Nat→List Field→List TK→Bool
 |_,[],[]=>true
 |j,f::x,k::y=>f.name != "_" &&f.offset==j&&FI P f.type k&&uR P (j+1) x y
 |_,_,_=>false
theorem vT{P:Program}:∀{j:Nat} {x:List Field} {y:List TK},uR P j x y=true→x.length=y.length∧∀(i:Nat) (f:Field) (k:TK),x[i]? =some f→y[i]? =some k→f.name≠ "_" ∧f.offset=j+i∧pZ P f.type k
 |_,[],[],_=>⟨rfl,by simp⟩
 |j,f::x,k::y,h=>by
  simp only[uR,Bool.and_eq_true,bne_iff_ne,beq_iff_eq]at h
  obtain⟨h1,h2⟩:=vT h.2
  refine⟨by simp[h1],fun i f' k' hf hk=>?_⟩
  cases i with
  |zero=>simp at hf hk;subst hf;subst hk;exact⟨h.1.1.1,by simpa using h.1.1.2,Iw h.1.2⟩
  |succ i=>
   have:=h2 i f' k' (by simpa using hf) (by simpa using hk)
   exact⟨this.1,by rw[this.2.1];omega,this.2.2⟩
 |_,[],_::_,h=>by cases h
 |_,_::_,[],h=>by cases h
def RW(P:Program)(t:TypeId)(d:TypeDesc)(ks:List TK):Bool:=match d with
 | .struct fs=> !P.stoodInHeld t&&uR P 0 fs.toList ks
 | .array n e=>match P.info? e,P.underlying e with
   |some inf,some (.struct fs)=> !P.stoodInHeld e&&uR P 0 fs.toList (ks.take inf.size)&&inf.size==(ks.take inf.size).length&&ks==(List.replicate n (ks.take inf.size)).flatten
   |_,_=>false
 |_=>false
theorem Qw{P:Program}{t:TypeId}{d:TypeDesc}{ks:List TK}(hd:P.underlying t=some d)(h:RW P t d ks=true):uM P t ks∨JF P t ks:=by
 unfold RW at h
 split at h
 ·rename_i fs
  simp only[Bool.and_eq_true,Bool.not_eq_true']at h
  obtain⟨c1,c2⟩:=vT h.2
  exact .inl ⟨h.1,fs,hd,c1,fun j f k hf hk=>by simpa using c2 j f k hf hk⟩
 ·rename_i n e
  split at h
  ·rename_i inf fs h1 h2
   simp only[Bool.and_eq_true,Bool.not_eq_true',beq_iff_eq]at h
   obtain⟨⟨⟨a1,a2⟩,a3⟩,a4⟩:=h
   obtain⟨c1,c2⟩:=vT a2
   exact .inr ⟨n,e,inf,ks.take inf.size,hd,h1,a3,⟨a1,fs,h2,c1,fun j f k hf hk=>by simpa using c2 j f k hf hk⟩,a4⟩
  ·cases h
 ·cases h
def RX(agg:Bool)(zero:List Value):Value→Bool
 | .agg _=>agg
 |_=> !agg&&zero.length==1
theorem Qx{agg:Bool}{zero:List Value}{z:Value}(h:RX agg zero z=true)(e:z.cells.toList=zero):z=(if agg then .agg zero.toArray else zero.getD 0 undef)∧(agg=false→zero.length=1):=by
 unfold RX at h
 split at h
 ·subst h
  subst e
  simp[Value.cells]
 ·rename_i hn
  simp only[Bool.and_eq_true,Bool.not_eq_true',beq_iff_eq]at h
  have hc:z.cells= #[z]:=by cases z<;>first|rfl|exact absurd rfl (hn _)
  rw[hc]at e
  subst e
  simp[h.1]
def MI(P:Program)(t:TypeId)(i:lA):Bool:=
 match P.info? t,P.underlying t with
 |some inf,some d=>RU d i.k&&inf.size==i.size&&inf.bytes==i.bytes&&(match inf.zero with|some z=>Ap z.cells.toList i.zero&&RX i.k.agg i.zero z|none=>false)&&i.zero.all (·.oneCell')&&i.zero.length==i.size&&
   (i.eqk.isEmpty||(!P.eqGuardType P.depth t&&RW P t d i.eqk))
 |_,_=>false
theorem MJ{P:Program}{t:TypeId}{i:lA}(h:MI P t i=true):Rm P t i:=by
 unfold MI at h
 split at h
 ·rename_i inf d h1 h2
  simp only[Bool.and_eq_true,beq_iff_eq]at h
  obtain⟨⟨⟨⟨⟨⟨a1,a2⟩,a3⟩,a4⟩,a5⟩,a6⟩,a7⟩:=h
  split at a4
  ·rename_i z hz
   simp only[Bool.and_eq_true]at a4
   obtain⟨a4,a8⟩:=a4
   obtain⟨z1,z2⟩:=Qx a8 (wX a4)
   refine⟨⟨inf,d,z,h1,h2,Qv a1,a2,a3,hz,wX a4⟩,fun u hu=>by simpa using List.all_eq_true.1 a5 u hu,⟨inf,h1,by rw[hz,←z1],z2⟩,a6,fun hne=>?_⟩
   have:i.eqk.isEmpty=false:=by cases q:i.eqk<;>simp_all
   rw[this]at a7
   simp only[Bool.false_or,Bool.and_eq_true,Bool.not_eq_true']at a7
   exact⟨a7.1,Qw h2 a7.2⟩
  ·cases a4
 ·cases h
def Ro:lA:=⟨.none,0,0,[],[]⟩
def rZ:List (Nat×lA)→Nat→lA
 |[],_=>Ro
 |p::r,t=>if t=p.1 then p.2 else rZ r t
def Qy(P:Program)(Ei:List (Nat×lA)):Bool:=Ei.all fun p=>MI P p.1 p.2
theorem AZ:∀{Ei:List (Nat×lA)} {t:Nat},(rZ Ei t).k.isNone=false→(t,rZ Ei t)∈Ei
 |[],t,h=>by simp[rZ,Ro,TK.isNone]at h
 |p::r,t,h=>by
  simp only[rZ]at h⊢
  split
  ·rename_i e;subst e;exact List.mem_cons_self ..
  ·rename_i e;rw[if_neg e]at h;exact List.mem_cons_of_mem _ (AZ h)
theorem KH{P:Program}{Ei:List (Nat×lA)}(h:Qy P Ei=true):mA P (rZ Ei):=fun _ ht=>MJ (List.all_eq_true.1 h _ (AZ ht))
def GE(T:TypeId→lA):TK→Bool
 | .slice e=> !(T e).k.isNone
 | .arr _ e=> !(T e).k.isNone
 | .struct fs=>fs.all fun p=> !(T p.2).k.isNone
 |_=>true
def Rp(Ei:List (Nat×lA)):Bool:=Ei.all fun p=>GE (rZ Ei) p.2.k&&(p.2.eqk.isEmpty|| !p.2.k.isNone)
theorem MK{Ei:List (Nat×lA)}(h:Rp Ei=true):Gz (rZ Ei):=by
 have one:∀t,(rZ Ei t).k.isNone=false→GE (rZ Ei) (rZ Ei t).k=true:=fun t ht=>by
  have:=List.all_eq_true.1 h _ (AZ ht)
  simp only[Bool.and_eq_true]at this
  exact this.1
 refine⟨fun t ht=>?_,fun t e he=>?_,fun t n e he=>?_,fun t fs hf p hp=>?_⟩
 ·by_cases hn:(rZ Ei t).k.isNone=false
  ·exact hn
  ·exfalso
   have:∀l:List (Nat×lA),(∀p∈l,(p.2.eqk.isEmpty|| !p.2.k.isNone)=true)→(rZ l t).k.isNone=true→(rZ l t).eqk=[]:=by
    intro l
    induction l with
    |nil=>intro _ _;rfl
    |cons p r ih=>
     intro hl hk
     simp only[rZ]at hk⊢
     split
     ·rename_i e
      rw[if_pos e]at hk
      have:=hl p (List.mem_cons_self ..)
      rw[hk]at this
      simpa using this
     ·rename_i e
      rw[if_neg e]at hk
      exact ih (fun q hq=>hl q (List.mem_cons_of_mem _ hq)) hk
   exact ht (this Ei (fun p hp=>by have:=List.all_eq_true.1 h p hp;simp only[Bool.and_eq_true]at this;exact this.2) (by simpa using hn))
 ·have:=one t (by rw[he];rfl)
  rw[he]at this
  simpa [GE]using this
 ·have:=one t (by rw[he];rfl)
  rw[he]at this
  simpa [GE]using this
 ·have:=one t (by rw[hf];rfl)
  rw[hf]at this
  simp only[GE,List.all_eq_true]at this
  simpa using this p hp
end Go.Eng
namespace Go.Eng
open Go.RowKit
def lL(h H:kV):Prop:=∀id,h id=H id∨h id=.absent
def yN(r r':oZ):Prop:=r.ok→r'.ok∧r'.v=r.v∧r'.up=r.up
section
variable{P:Program} {T:TypeId→lA} {h H:kV}
theorem yN.refl(r:oZ):yN r r:=fun h=>⟨h,rfl,rfl⟩
theorem yN.fail{r':oZ}:yN .fail r':=fun h=>h.elim
theorem vU(hp:lL h H):∀(n:Nat) (l:LV) (x:DV),close h n l=some x→close H n l=some x∧bL H n l=bL h n l:=by
 intro n
 induction n with
 |zero=>intro l x e;simp[close]at e
 |succ n ih=>
  intro l x e
  have list:∀(cs:List LV) (xs:List DV),bX (cs.map (close h n))=some xs→bX (cs.map (close H n))=some xs∧cs.flatMap (bL H n)=cs.flatMap (bL h n):=by
   intro cs
   induction cs with
   |nil=>intro xs e;exact⟨e,rfl⟩
   |cons c cs ihc=>
    intro xs e
    simp only[List.map_cons]at e
    cases q:close h n c with
    |none=>rw[q]at e;cases e
    |some y=>
     rw[q]at e
     simp only[bX,Option.map_eq_some_iff]at e
     obtain⟨ys,e,rfl⟩:=e
     obtain⟨i1,i2⟩:=ihc ys e
     obtain⟨j1,j2⟩:=ih c y q
     simp only[List.map_cons,j1,bX,i1,Option.map_some,List.flatMap_cons,i2,j2,and_self]
  cases l with
  |d y=>exact⟨e,rfl⟩
  |agg cs=>
   simp only[close,Option.map_eq_some_iff]at e
   obtain⟨xs,e,rfl⟩:=e
   obtain⟨i1,i2⟩:=list cs xs e
   simp[close,bL,i1,i2]
  |fn f cs=>
   simp only[close,Option.map_eq_some_iff]at e
   obtain⟨xs,e,rfl⟩:=e
   obtain⟨i1,i2⟩:=list cs xs e
   simp[close,bL,i1,i2]
  |bm f cs=>
   simp only[close,Option.map_eq_some_iff]at e
   obtain⟨xs,e,rfl⟩:=e
   obtain⟨i1,i2⟩:=list cs xs e
   simp[close,bL,i1,i2]
  |ow id k m=>
   simp only[close]at e
   rcases hp id with q|q
   ·rw[q]at e;exact⟨e,rfl⟩
   ·rw[q]at e;cases e
  |oc id k m c=>
   simp only[close]at e
   rcases hp id with q|q
   ·rw[q]at e;exact⟨e,rfl⟩
   ·rw[q]at e;cases e
  |bx id off=>
   simp only[close]at e
   rcases hp id with q|q
   ·rw[q]at e
    cases q2:H id with
    |box fz cs=>
     rw[q2]at e
     simp only[Option.map_eq_some_iff]at e
     obtain⟨xs,e,rfl⟩:=e
     obtain⟨i1,i2⟩:=list _ xs e
     refine⟨by simp only[close,q2];rw[i1];rfl,by simp only[bL,q,q2];rw[i2]⟩
    |_=>rw[q2]at e;cases e
   ·rw[q]at e;cases e
  |nl=>exact⟨e,rfl⟩
  |mp id=>
   simp only[close]at e
   rcases hp id with q|q
   ·rw[q]at e;exact⟨e,rfl⟩
   ·rw[q]at e;cases e
  |rp|it|tup|when|junk=>simp[close]at e
theorem tV(hp:lL h H)(n:Nat):∀{cs:List LV} {xs:List DV},bX (cs.map (close h n))=some xs→bX (cs.map (close H n))=some xs∧cs.flatMap (bL H n)=cs.flatMap (bL h n):=by
 intro cs
 induction cs with
 |nil=>intro xs e;exact⟨e,rfl⟩
 |cons c cs ihc=>
  intro xs e
  simp only[List.map_cons]at e
  cases q:close h n c with
  |none=>rw[q]at e;cases e
  |some y=>
   rw[q]at e
   simp only[bX,Option.map_eq_some_iff]at e
   obtain⟨ys,e,rfl⟩:=e
   obtain⟨i1,i2⟩:=ihc e
   obtain⟨j1,j2⟩:=vU hp n c y q
   simp only[List.map_cons,j1,bX,i1,Option.map_some,List.flatMap_cons,i2,j2,and_self]
theorem tW(n:Nat){cs:List LV}{xs:List DV}(e:bX (cs.map (close H n))=some xs):∀id∈cs.flatMap (bL H n),(H id).live=true:=by
 intro id hid
 obtain⟨h1,h2⟩:=pJ e
 obtain⟨c,hc,hid⟩:=List.mem_flatMap.1 hid
 obtain⟨i,hi,rfl⟩:=List.getElem_of_mem hc
 exact sP n _ _ (h2 i _ (xs[i]'(by omega)) (List.getElem?_eq_getElem hi) (List.getElem?_eq_getElem (by omega))) id hid
theorem gB(hp:lL h H){id:Nat}(hl:(h id).live=true):H id=h id:=by
 rcases hp id with q|q
 ·exact q.symm
 ·rw[q]at hl;cases hl
theorem Dg(hp:lL h H){l:LV}(hs:iA h l=true):iA H l=true:=by
 cases l<;>simp only[iA]at* <;>exact hs
theorem mN(hp:lL h H){ids:List Nat}(hl:∀id∈ids,(h id).live=true):aP H ids=aP h ids:=by
 unfold aP
 exact List.map_congr_left fun id hid=>by rw[gB hp (hl id hid)]
theorem wY(hp:lL h H){l:LV}{x:DV}(e:close h 8 l=some x):aP H (bL h 8 l)=aP h (bL h 8 l):=mN hp fun id hid=>sP 8 l x e id hid
theorem mO(hp:lL h H){l:LV}{ys:List DV}(e:cH h l=some ys):cH H l=some ys:=by
 unfold cH at*
 split at e<;>try exact e
 ·rename_i id k n
  rcases hp id with q|q
  ·rw[←q];exact e
  ·rw[q]at e;cases e
 ·rename_i id k n c
  rcases hp id with q|q
  ·rw[←q];exact e
  ·rw[q]at e;cases e
theorem GF(hp:lL h H){l:LV}{ys:List DV}(e:kP h l=some ys):kP H l=some ys:=by
 unfold kP at*
 split at e
 ·cases e
 ·exact mO hp e
theorem KI(hp:lL h H)(t:lA)(x:LV):yN (eK h t x) (eK H t x):=by
 unfold eK
 split
 ·rename_i id off;rcases hp id with q|q<;>rw[q]<;>first|exact .refl _|exact .fail
 ·exact .refl _
 ·rename_i id k j;rcases hp id with q|q<;>rw[q]<;>first|exact .refl _|exact .fail
 ·exact .refl _
theorem Ix(hp:lL h H)(t:lA)(x y:LV):yN (cW h t x y) (cW H t x y):=by
 cases x with
 |bx id off=>
  simp only[cW]
  rcases hp id with q|q
  ·rw[q]
   cases q2:H id with
   |box fz cs=>cases fz with
    |false=>exact fun hok=>⟨⟨hok.1,hok.2.1,Dg hp hok.2.2⟩,rfl,rfl⟩
    |true=>exact .fail
   |_=>exact .fail
  ·rw[q];exact .fail
 |rp id k j=>
  simp only[cW]
  rcases hp id with q|q
  ·rw[q]
   cases q2:H id with
   |row fz s xs=>cases fz with
    |false=>
     simp only
     cases q3:close h 8 y with
     |none=>exact .fail
     |some z=>
      obtain⟨c1,c2⟩:=vU hp 8 y z q3
      rw[c1]
      simp only[c2,wY hp q3]
      exact .refl _
    |true=>exact .fail
   |_=>exact .fail
  ·rw[q];exact .fail
 |_=>exact .refl _
theorem Cs(hp:lL h H){dst:Nat}(hd:h dst=H dst)(t:TypeId)(n:Nat)(ps:List (Nat×LV)):yN (bE T h dst t n ps) (bE T H dst t n ps):=by
 unfold bE
 split
 ·have e:∀H:kV,(ps.map fun p=>close H 8 p.2)=(ps.map (·.2)).map (close H 8):=fun H=>by rw[List.map_map];rfl
  have e2:∀H:kV,(ps.flatMap fun p=>bL H 8 p.2)=(ps.map (·.2)).flatMap (bL H 8):=fun H=>by rw[List.flatMap_map]
  cases q:bX (ps.map fun p=>close h 8 p.2)with
  |none=>exact .fail
  |some xs=>
   rw[e]at q
   obtain⟨c1,c2⟩:=tV hp 8 q
   rw[e,c1]
   have hl:=tW 8 q
   simp only[e2,c2,mN hp hl,hd]
   exact .refl _
 ·exact .refl _
theorem Ba(hp:lL h H){dst:Nat}(hd:h dst=H dst)(t:TypeId)(n:Nat)(ps:List (Nat×LV)):yN (bA T h dst t n ps) (bA T H dst t n ps):=by
 unfold bA
 split
 ·have e:∀H:kV,(ps.map fun p=>close H 8 p.2)=(ps.map (·.2)).map (close H 8):=fun H=>by rw[List.map_map];rfl
  have e2:∀H:kV,(ps.flatMap fun p=>bL H 8 p.2)=(ps.map (·.2)).flatMap (bL H 8):=fun H=>by rw[List.flatMap_map]
  cases q:bX (ps.map fun p=>close h 8 p.2)with
  |none=>exact .fail
  |some xs=>
   rw[e]at q
   obtain⟨c1,c2⟩:=tV hp 8 q
   rw[e,c1]
   have hl:=tW 8 q
   simp only[e2,c2,mN hp hl,hd]
   exact .refl _
 ·exact .refl _
theorem Iy(hp:lL h H)(s:TypeId)(x:LV)(f:Nat):yN (dG T h s x f) (dG T H s x f):=by
 unfold dG
 split
 ·split
  ·split
   ·exact fun hok=>⟨⟨hok.1,by rw[gB hp hok.2];exact hok.2⟩,rfl,rfl⟩
   ·exact fun hok=>⟨⟨hok.1,by rw[gB hp hok.2];exact hok.2⟩,rfl,rfl⟩
   ·exact .refl _
   ·exact .refl _
  ·exact .refl _
 ·exact .refl _
theorem Dh(hp:lL h H)(t:TypeId)(x i:LV):yN (bK T h t x i) (bK T H t x i):=by
 unfold bK
 split
 ·exact .refl _
 ·rename_i e id k n _ _ _
  rcases hp id with q|q<;>rw[q]<;>first|exact .refl _|exact .fail
 ·rename_i e id k n c _ _ _
  rcases hp id with q|q<;>rw[q]<;>first|exact .refl _|exact .fail
 ·exact fun hok=>⟨⟨hok.1,hok.2.1,by rw[gB hp hok.2.2];exact hok.2.2⟩,rfl,rfl⟩
 ·exact fun hok=>⟨⟨hok.1,hok.2.1,by rw[gB hp hok.2.2];exact hok.2.2⟩,rfl,rfl⟩
 ·exact .refl _
 ·exact .refl _
theorem Iz(hp:lL h H)(t:TypeId)(x:LV)(lo hi mx:Option LV):yN (dH T h t x lo hi mx) (dH T H t x lo hi mx):=by
 unfold dH
 split
 ·exact .refl _
 ·exact .refl _
 ·rename_i e id k n _
  rcases hp id with q|q<;>rw[q]<;>first|exact .refl _|exact .fail
 ·exact .refl _
 ·rename_i e id k n c _
  rcases hp id with q|q<;>rw[q]<;>first|exact .refl _|exact .fail
 ·exact .refl _
 ·exact .refl _
theorem GG(hp:lL h H){dst:Nat}(hd:h dst=H dst)(t:TypeId)(s x:LV):yN (cO T h dst t s x) (cO T H dst t s x):=by
 unfold cO
 cases q0:(T t).k with
 |slice e=>
  cases q1:cH h x with
  |none=>exact .fail
  |some ys=>
   rw[mO hp q1]
   simp only
   cases s with
   |ow id k n=>simp only;rcases hp id with q|q<;>rw[q]<;>first|(rw[hd];exact .refl _)|exact .fail
   |nl=>simp only;rw[hd];exact .refl _
   |_=>exact .fail
 |_=>exact .fail
theorem Eh(hp:lL h H)(t:TypeId)(s x:LV):yN (bT T h t s x) (bT T H t s x):=by
 unfold bT
 cases q0:(T t).k with
 |slice e=>
  cases q1:cH h x with
  |none=>exact .fail
  |some ys=>
   rw[mO hp q1]
   cases s with
   |ow id k n=>simp only;rcases hp id with q|q<;>rw[q]<;>first|exact .refl _|exact .fail
   |_=>exact .fail
 |_=>exact .fail
theorem Ar(hp:lL h H){dst:Nat}(hd:h dst=H dst)(t:TypeId)(s x:LV):yN (bR T h dst t s x) (bR T H dst t s x):=by
 unfold bR
 cases q0:(T t).k with
 |slice e=>
  cases q1:cH h x with
  |none=>exact .fail
  |some ys=>
   rw[mO hp q1]
   cases s with
   |oc id k n c=>simp only;rcases hp id with q|q<;>rw[q]<;>first|(rw[hd];exact .refl _)|exact .fail
   |_=>exact .fail
 |_=>exact .fail
theorem As(hp:lL h H){dst:Nat}(hd:h dst=H dst)(t:TypeId)(lo c:Nat)(s x:LV):yN (bM T h dst t lo c s x) (bM T H dst t lo c s x):=by
 unfold bM
 cases q0:(T t).k with
 |slice e=>
  cases q1:cH h x with
  |none=>exact .fail
  |some ys=>
   rw[mO hp q1]
   cases s with
   |nl=>simp only;rw[hd];exact .refl _
   |oc id k n cs=>exact fun hok=>⟨by have hok':=hok;simp only at hok'⊢;rw[gB hp hok'.1,←hd];exact hok',rfl,rfl⟩
   |_=>exact .fail
 |_=>exact .fail
theorem FJ(hp:lL h H){dst:Nat}(hd:h dst=H dst)(hd':h (dst+1000)=H (dst+1000))(t:TypeId)(lo c:Nat)(v:Value)(s x:LV):yN (mJ T h dst t lo c v s x) (mJ T H dst t lo c v s x):=by
 intro hok
 obtain⟨h1,h2⟩:=hok
 obtain⟨g1,g2,g3⟩:=As (T:=T) hp hd t lo c s x h1
 refine⟨⟨g1,by rw[←hd'];exact h2⟩,rfl,?_⟩
 simp only[mJ,g2,g3]
theorem FK(hp:lL h H){dst:Nat}(hd:h dst=H dst)(t:TypeId)(kid:Nat)(s x:LV):yN (nJ T h dst t kid s x) (nJ T H dst t kid s x):=by
 unfold nJ
 split
 ·rename_i id k n c v v' hk
  have hk':H kid=.know (.oc id k n c) v:=by
   rcases hp kid with e|e
   ·rw[←e];exact hk
   ·rw[e]at hk;cases hk
  simp only[hk']
  intro hok
  obtain⟨h1,h2⟩:=hok
  obtain⟨g1,g2,g3⟩:=Ar (T:=T) hp hd t (.oc id k n c) x h2
  exact⟨⟨h1,g1⟩,g2,g3⟩
 ·exact .fail
theorem FL(hp:lL h H){dst:Nat}(hd:h dst=H dst)(t:TypeId)(s x:LV):yN (cB T h dst t s x) (cB T H dst t s x):=by
 unfold cB
 split
 ·rw[hd];exact .refl _
 ·rename_i e id k n c _ _ _
  rcases hp id with q|q<;>rw[q]<;>first|(rw[hd];exact .refl _)|exact .fail
 ·exact .refl _
theorem KJ(hp:lL h H)(t:TypeId)(x:LV):yN (eN T h t x) (eN T H t x):=by
 unfold eN
 split
 ·exact fun hok=>⟨by have hok':=hok;simp only[oZ.cond]at hok'⊢;rw[gB hp hok'];exact hok',rfl,rfl⟩
 ·exact .refl _
 ·exact .refl _
theorem KK(hp:lL h H)(t:TypeId)(s x:LV):yN (eL T h t s x) (eL T H t s x):=by
 unfold eL
 cases q0:(T t).k with
 |slice e=>
  cases q1:cH h x with
  |none=>exact .fail
  |some ys=>
   rw[mO hp q1]
   cases s with
   |ow id k n=>simp only;rcases hp id with q|q<;>rw[q]<;>first|exact .refl _|exact .fail
   |_=>exact .fail
 |_=>exact .fail
theorem IA(hp:lL h H)(t:TypeId)(s x:LV):yN (dJ T h t s x) (dJ T H t s x):=by
 unfold dJ
 split
 ·rename_i e id k n c _
  cases q1:cH h (lJ n x)with
  |none=>exact .fail
  |some ys=>
   rw[mO hp q1]
   rcases hp id with q|q<;>rw[q]<;>first|exact .refl _|exact .fail
 ·exact .refl _
theorem IB(hp:lL h H)(t:TypeId)(x:LV):yN (dI T h t x) (dI T H t x):=by
 unfold dI
 split
 ·rename_i id k n _
  rcases hp id with q|q<;>rw[q]<;>first|exact .refl _|exact .fail
 ·rename_i id k n c _
  rcases hp id with q|q<;>rw[q]<;>first|exact .refl _|exact .fail
 ·exact .refl _
theorem ML(hp:lL h H)(t:TypeId)(x:LV)(lo hi mx:Option LV):yN (hF T h t x lo hi mx) (hF T H t x lo hi mx):=by
 unfold hF
 split
 ·split
  ·exact fun hok=>⟨by have hok':=hok;simp only[oZ.cond]at hok'⊢;rw[gB hp hok'.2.2.2.2];exact hok',rfl,rfl⟩
  ·exact .refl _
 ·exact .refl _
 ·rename_i e id k n c _
  rcases hp id with q|q<;>rw[q]<;>first|exact .refl _|exact .fail
 ·exact .refl _
theorem KL{dst:Nat}(hd:h dst=H dst)(t:TypeId)(n c:LV):yN (eM T h dst t n c) (eM T H dst t n c):=by
 unfold eM
 rw[hd];exact .refl _
theorem MM(hp:lL h H)(t:TypeId)(lo c:Nat)(x:LV):yN (eS T h t lo c x) (eS T H t lo c x):=by
 unfold eS
 split
 ·exact .refl _
 ·exact .refl _
 ·rename_i id k n _
  rcases hp id with q|q<;>rw[q]<;>first|exact .refl _|exact .fail
 ·exact .refl _
theorem KM(hp:lL h H){x:LV}{n:Nat}(e:sA h x=some n):sA H x=some n:=by
 unfold sA at*
 split at e<;>try exact e
 split at e
 ·rename_i hl
  rw[gB hp hl];rw[if_pos hl];exact e
 ·cases e
theorem MN(hp:lL h H)(t:TypeId)(e b:Bool)(op:BinOp)(x:LV):yN (fO T h t e b op x) (fO T H t e b op x):=by
 unfold fO
 cases q:sA h x with
 |none=>split<;>simp_all<;>exact .fail
 |some n=>rw[KM hp q];exact .refl _
theorem MO(hp:lL h H)(t:TypeId)(x:LV):yN (hO T h t x) (hO T H t x):=by
 unfold hO
 split
 ·exact .refl _
 ·exact .refl _
 ·exact fun hok=>⟨by have hok':=hok;simp only[oZ.cond]at hok'⊢;rw[gB hp hok'];exact hok',rfl,rfl⟩
 ·exact fun hok=>⟨by have hok':=hok;simp only[oZ.cond]at hok'⊢;rw[gB hp hok'];exact hok',rfl,rfl⟩
 ·exact .refl _
 ·exact .refl _
 ·exact .refl _
 ·rename_i id _
  rcases hp id with q|q<;>rw[q]<;>first|exact .refl _|exact .fail
 ·exact .refl _
theorem IC(hp:lL h H){x:LV}{p:List DV×List DV}(e:nC h x=some p):nC H x=some p:=by
 unfold nC at*
 split at e<;>try exact e
 rename_i id
 rcases hp id with q|q
 ·rw[←q];exact e
 ·rw[q]at e;cases e
theorem GH(hp:lL h H)(t:TypeId)(x i:LV)(ok:Bool):yN (pH T h t x i ok) (pH T H t x i ok):=by
 unfold pH
 cases q:nC h x with
 |none=>split<;>simp_all<;>exact .fail
 |some p=>rw[IC hp q];exact .refl _
theorem wZ(hp:lL h H)(t:TypeId)(m k x:LV):yN (iD T h t m k x) (iD T H t m k x):=by
 unfold iD
 split
 ·rename_i id _ _ _
  rcases hp id with q|q<;>rw[q]<;>first|exact .refl _|exact .fail
 ·exact .refl _
theorem lL.frozen(hp:lL h H){l:LV}{x:DV}(e:close h 8 l=some x):lL (bG h (aP h (bL h 8 l))) (bG H (aP h (bL h 8 l))):=fun id=>by
 simp only[jJ]
 cases dT (aP h (bL h 8 l)) id with
 |none=>exact hp id
 |some o=>exact .inl rfl
theorem BQ(hp:lL h H)(t:TypeId)(m k x:LV):yN (cK T h t m k x) (cK T H t m k x):=by
 unfold cK
 split
 ·exact wZ hp _ _ _ _
 ·cases q:close h 8 x with
  |none=>exact .fail
  |some v=>
   obtain⟨q2,q3⟩:=vU hp 8 _ _ q
   simp only[q2,q3,wY hp q]
   have r:=wZ (T:=T) (hp.frozen q) t m k (.d v)
   intro hok
   obtain⟨r1,r2,r3⟩:=r hok
   exact⟨r1,r2,by simp only[];rw[r3]⟩
theorem GI(hp:lL h H)(t:TypeId)(m k:LV):yN (pI T h t m k) (pI T H t m k):=by
 unfold pI
 split
 ·rename_i id _ _
  rcases hp id with q|q<;>rw[q]<;>first|exact .refl _|exact .fail
 ·exact .refl _
theorem zO(hp:lL h H){σ:List (Nat×Nat)}{shut:List Nat}:∀(ls:List LV) (i:Nat) (asl:List LV),jE h σ shut i ls=some asl→jE H σ shut i ls=some asl∧jF H shut i ls=jF h shut i ls∧∀id∈jF h shut i ls,(h id).live=true
 |[],i,asl,e=>⟨e,rfl,by simp[jF]⟩
 |l::r,i,asl,e=>by
  simp only[jE]at e⊢
  cases q:jE h σ shut (i+1) r with
  |none=>rw[q]at e;cases e
  |some r'=>
   obtain⟨h1,h2,h3⟩:=zO hp r (i+1) r' q
   rw[q]at e
   simp only at e
   rw[h1]
   simp only[jF,h2]
   by_cases hs:shut.contains i=true
   ·rw[if_pos hs,Option.map_eq_some_iff]at e
    obtain⟨x,hx,rfl⟩:=e
    obtain⟨c1,c2⟩:=vU hp 8 l x hx
    simp only[if_pos hs,c1,c2]
    refine⟨by first|rfl|trivial,by first|rfl|trivial,fun id hid=>?_⟩
    rcases List.mem_append.1 hid with hid|hid
    ·exact sP 8 l x hx id hid
    ·exact h3 id hid
   ·rw[if_neg hs]at e
    simp only[if_neg hs]
    exact⟨e,by first|rfl|trivial,fun id hid=>h3 id (by simpa using hid)⟩
theorem KN(hp:lL h H)(s t:TypeId)(x:LV):yN (eO T h s t x) (eO T H s t x):=by
 unfold eO
 split
 ·exact .refl _
 ·exact .refl _
 ·rename_i lx _ _ _ e _ _
  cases q1:kP h lx with
  |none=>cases(T e).k<;>try exact .fail
         rename_i k;cases k<;>exact .fail
  |some ys=>rw[GF hp q1];exact .refl _
 ·exact .refl _
theorem Ez:∀(rs:List RV) (d:Nat),∀p∈bS d rs,∃i,p.1=d+1000*i
 |[],d,p,hp=>by simp[bS]at hp
 |r::rs,d,p,hp=>by
  simp only[bS,List.mem_append]at hp
  rcases hp with hp|hp
  ·cases r<;>simp[iF]at hp;exact⟨0,by rw[hp];simp⟩
  ·obtain⟨i,hi⟩:=Ez rs (d+1000) p hp
   exact⟨i+1,by omega⟩
theorem EA(v:RV)(d:Nat):∀p∈eT d v,∃i,p.1=d+1000*i:=by
 intro p hp
 cases v with
 |tup rs=>exact Ez rs d p hp
 |d x=>simp[eT,iF]at hp
 |own s xs=>simp[eT,iF]at hp;exact⟨0,by rw[hp];simp⟩
theorem KO(hp:lL h H)(r:Option sH){dst:Nat}(hd:∀i,h (dst+1000*i)=H (dst+1000*i))(f:LV)(args:List LV):yN (bP P h r dst f args) (bP P H r dst f args):=by
 unfold bP
 split
 ·rename_i fid caps r _
  cases q:bX ((args++caps).map (close h 8))with
  |none=>exact .fail
  |some asl=>
   obtain⟨c1,c2⟩:=tV hp 8 q
   rw[c1]
   have hl:=tW 8 q
   simp only[c2,mN hp hl]
   exact fun hok=>⟨⟨hok.1,fun p hpp=>by obtain⟨i,hi⟩:=EA r.v dst p hpp;rw[hi,←hd i,←hi];exact hok.2 p hpp⟩,rfl,rfl⟩
 ·rename_i fid caps g _
  cases q:jE h g.σ g.shut 0 (args++caps)with
  |none=>exact .fail
  |some asl=>
   obtain⟨h1,h2,h3⟩:=zO hp _ _ _ q
   rw[h1]
   intro hok
   simp only at hok
   obtain⟨k1,k2,k3,k4,k5,k6⟩:=hok
   have e1:(g.σ.map fun p=>(p.2,cD g.σ (H p.1)))=g.σ.map fun p=>(p.2,cD g.σ (h p.1)):=List.map_congr_left fun p hpp=>by rw[gB hp (k2 p hpp)]
   simp only[h2,mN hp h3,e1]
   refine⟨⟨k1,fun p hpp=>by rw[gB hp (k2 p hpp)];exact k2 p hpp,k3,k4,fun p hpp=>⟨?_,(k5 p hpp).2⟩,k6⟩,trivial,trivial⟩
   obtain⟨a1,a2,a3⟩:=k5 p hpp
   have:p.2=dst+1000*((p.2-dst) / 1000):=by omega
   rw[this,←hd,←this];exact a1
 ·rename_i fid caps Rel fr r _
  cases q:bX ((args++caps).map (close h 8))with
  |none=>exact .fail
  |some asl=>
   obtain⟨c1,c2⟩:=tV hp 8 q
   rw[c1]
   have hl:=tW 8 q
   simp only[c2,mN hp hl]
   exact fun hok=>⟨⟨hok.1,hok.2.1,fun p hpp=>by obtain⟨i,hi⟩:=EA r.v dst p hpp;rw[hi,←hd i,←hi];exact hok.2.2 p hpp⟩,rfl,rfl⟩
 ·rename_i fid caps g _ _
  cases q:jE h g.σ g.shut 0 (args++caps)with
  |none=>exact .fail
  |some asl=>
   obtain⟨h1,h2,h3⟩:=zO hp _ _ _ q
   rw[h1]
   intro hok
   simp only at hok
   obtain⟨k1,k2,k3,k4,k5,k6⟩:=hok
   have e1:(g.σ.map fun p=>(p.2,cD g.σ (H p.1)))=g.σ.map fun p=>(p.2,cD g.σ (h p.1)):=List.map_congr_left fun p hpp=>by rw[gB hp (k2 p hpp)]
   simp only[h2,mN hp h3,e1]
   refine⟨⟨k1,fun p hpp=>by rw[gB hp (k2 p hpp)];exact k2 p hpp,k3,k4,fun p hpp=>⟨?_,(k5 p hpp).2⟩,k6⟩,trivial,trivial⟩
   obtain⟨a1,a2,a3⟩:=k5 p hpp
   have:p.2=dst+1000*((p.2-dst) / 1000):=by omega
   rw[this,←hd,←this];exact a1
 ·exact .refl _
theorem ID(hp:lL h H)(f:LV)(args:List LV):yN (dK P T h f args) (dK P T H f args):=by
 unfold dK
 split
 ·rename_i fid i k n c j k' n' c'
  rcases hp i with q|q
  ·rw[q]
   rcases hp j with q2|q2
   ·rw[q2];exact .refl _
   ·rw[q2];cases H i<;>exact .fail
  ·rw[q];exact .fail
 ·exact .refl _
theorem Di(hp:lL h H)(g:Operand→LV)(r:Option sH)(o:Oper)(hd:∀i,h (o.dst.getD 0+1000*i)=H (o.dst.getD 0+1000*i)):yN (bC P T h g r o) (bC P T H g r o):=by
 have hd0:h (o.dst.getD 0)=H (o.dst.getD 0):=by simpa using hd 0
 obtain⟨dst,op,type,pos,after,guard⟩:=o
 cases op<;>simp only[bC]<;>simp only at hd hd0<;>first|exact .refl _|skip
 case assign x=>simp only[Option.getD]at hd0⊢;rw[hd0];exact .refl _
 case alloc t=>rw[hd0];exact .refl _
 case box t x=>exact fun hok=>⟨⟨by rw[←hd0];exact hok.1,Dg hp hok.2⟩,rfl,rfl⟩
 case buildSlice t n ps=>
  split
  ·exact Ba hp hd0 _ _ _
  ·exact Cs hp hd0 _ _ _
 case load t x=>split;exact .refl _;exact KI hp _ _
 case store t x y=>split;exact .refl _;exact Ix hp _ _ _
 case nilCheck x=>
  split
  ·exact fun hok=>⟨by have hok':=hok;simp only[oZ.cond]at hok'⊢;rw[gB hp hok'];exact hok',rfl,rfl⟩
  ·exact fun hok=>⟨by have hok':=hok;simp only[oZ.cond]at hok'⊢;rw[gB hp hok'];exact hok',rfl,rfl⟩
  ·exact .refl _
  ·exact .refl _
  ·exact .refl _
  ·exact .refl _
 case convert s t x=>exact KN hp _ _ _
 case makeFunc fn first cs=>cases fn<;>exact .refl _
 case slice t x lo hi mx=>
  split
  ·exact .refl _
  ·split
   ·exact ML hp _ _ _ _ _
   ·exact Iz hp _ _ _ _ _
 case binOp op t x y u=>
  split
  ·exact .refl _
  ·split
   ·exact MN hp _ _ _ _ _
   ·exact .refl _
  ·exact .refl _
 case makeSlice t n c=>exact KL hd0 _ _ _
 case fieldAddr s x f=>exact Iy hp _ _ _
 case makeMap t r=>cases r<;>simp only[]<;>first|exact .refl _|(unfold cL;rw[hd0];exact .refl _)
 case lookup t x i ok=>exact GH hp _ _ _ _
 case mapUpdate t m k x=>exact BQ hp _ _ _ _
 case insert t m k x=>exact BQ hp _ _ _ _
 case range t x=>
  split
  ·unfold eA
   split
   ·rw[hd0];exact .refl _
   ·exact .refl _
  ·exact .refl _
 case indexAddr t x i=>exact Dh hp _ _ _
 case call c=>
  obtain⟨callee,args,ts⟩:=c
  cases callee with
  |value f=>
   simp only
   split
   ·exact ID hp _ _
   ·exact KO hp r hd _ _
  |invoke r m=>exact .refl _
  |builtin b=>
   simp only
   split
   ·exact MO hp _ _
   ·split
    ·split
     ·exact Eh hp _ _ _
     ·exact As hp hd0 _ _ _ _ _
     ·exact FJ hp hd0 (by simpa using hd 1) _ _ _ _ _ _
     ·exact FK hp hd0 _ _ _ _
     ·split
      ·exact Ar hp hd0 _ _ _
      ·exact GG hp hd0 _ _ _
    ·split
     ·exact FL hp hd0 _ _ _
     ·exact .refl _
   ·split
    ·exact MM hp _ _ _ _
    ·exact KJ hp _ _
   ·exact IB hp _ _
   ·split
    ·exact IA hp _ _ _
    ·exact KK hp _ _ _
   ·exact .refl _
   ·exact .refl _
   ·exact GI hp _ _ _
   ·exact .refl _
theorem Pe(hp:lL h H)(g:Operand→LV)(r:Option sH)(o:Oper)(hd:∀i,h (o.dst.getD 0+1000*i)=H (o.dst.getD 0+1000*i)):yN (fI P T h g r o) (fI P T H g r o):=by
 unfold fI
 split
 ·exact .refl _
 ·exact Di hp _ r o hd
end
end Go.Eng
namespace Go.Eng
open Go.RowKit
def iG(hide:List Nat)(H:kV):kV:=fun id=>if hide.contains (id%1000)then .absent else H id
def oT(wr:List Nat)(p:Nat×aX):Bool:=wr.contains (p.1%1000)
def iC(P:Program)(T:TypeId→lA)(N:Nat)(slots:Nat→Option Nat)(orc:Nat→Option sH)(hide wr:List Nat)(st:yG)(o:Oper):yG:=
 let r:=iB P T slots st.env (iG hide st.H) (orc (o.dst.getD 0)) o
 {env:=hZ st.env o.dst r.v
  H:=bG st.H (r.up.filter (oT wr))
  ok:=st.ok∧r.ok∧nM N o.dst∧∀p∈r.up,oT wr p=true}
section
variable{P:Program} {T:TypeId→lA} {N:Nat} {w0:iU} {X:Nat→Prop} {β:Nat→Option Nat} {w:World} {a:Act} {o:Oper}
theorem KP(hide:List Nat)(H:kV):lL (iG hide H) H:=fun id=>by
 unfold iG
 split
 ·exact .inr rfl
 ·exact .inl rfl
theorem GJ(hT:mA P T)(hW:Gz T){ops:Array Oper}{slots:Nat→Option Nat}(hsl:∀j d,slots j=some d→(ops[j]?).bind (·.dst)=some d∧d<N){r:Option sH}{hide wr:List Nat}(hd:hide.contains (o.dst.getD 0%1000)=false){st:yG}
 (s:tR N w0 X st.env st.H β a w)(hself:Ab r r)(hok:∀r',Ab r r'→(iC P T N slots (fun _=>r') hide wr st o).ok){K:Act→World→Prop}{Q:Exit→Act→World→Prop}
 (hK:∀r',Ab r r'→∀a' w' β',tR N w0 X (iC P T N slots (fun _=>r') hide wr st o).env (iC P T N slots (fun _=>r') hide wr st o).H β' a' w'→K a' w'):
 if Region.wanted o (yielded ops a.tmps)then o.wp P a w K Q∨(o.asks P a w∧LetsOut Q)else K (a.put o.dst undef) w:=by
 have hp:=KP hide st.H
 have hdd:∀i,iG hide st.H (o.dst.getD 0+1000*i)=st.H (o.dst.getD 0+1000*i):=fun i=>by
  unfold iG
  rw[if_neg (by rw[Nat.add_mul_mod_self_left,hd];simp)]
 have hok2:=fun r' h=>(hok r' h).2.1
 have hok4:=fun r' h=>(hok r' h).2.2.2
 have hok3:=(hok r hself).2.2.1
 clear hok
 simp only[iC]at hK hok2 hok4
 have hfil:∀l:List (Nat×aX),(∀p∈l,oT wr p=true)→l.filter (oT wr)=l:=fun l hl=>List.filter_eq_self.2 hl
 have hK:∀r',Ab r r'→∀a' w' β',tR N w0 X (hZ st.env o.dst (iB P T slots st.env (iG hide st.H) r' o).v) (bG st.H (iB P T slots st.env (iG hide st.H) r' o).up) β' a' w'→K a' w':=fun r' h a' w' β' s'=>hK r' h a' w' β' (by rw[hfil _ (hok4 r' h)];exact s')
 cases hg:o.guard with
 |none=>
  have e:∀r,iB P T slots st.env (iG hide st.H) r o=bC P T (iG hide st.H) (mT st.env) r o:=fun r=>by unfold iB;rw[hg]
  simp only[e]at hK hok2
  have hpl:=fun r' h=>Di hp (mT st.env) r' o hdd (hok2 r' h)
  rw[if_pos (by simp[Region.wanted,hg])]
  left
  refine Da hT hW s.mem s.get hself (fun r' h=>(hpl r' h).1) K Q ?_
  rintro res ⟨r',h',rfl⟩ v w' β' m gg hv
  obtain⟨_,c2,c3⟩:=hpl r' h'
  refine hK r' h' _ _ β' ?_
  rw[←c2,←c3]
  exact s.put m gg hv hok3
 |some p=>
  obtain⟨j,want⟩:=p
  unfold iB at hK hok2
  simp only[hg]at hK hok2
  have hok20:=hok2 r hself
  split at hok20
  ·rename_i ec hec
   simp only[hec]at hK hok2
   obtain⟨q1,q2⟩:=hok20
   obtain⟨d,hd1,hd2⟩:=Option.map_eq_some_iff.1 hec
   obtain⟨hd3,hd4⟩:=hsl j d hd1
   rw[Db s hd3 hd4 hd2 hg]
   cases ec with
   |true=>
    simp only[if_true]
    left
    have hpl:=fun r' h=>Pe hp (mT st.env) r' o hdd ((hok2 r' h).1 rfl)
    refine GB hT hW s.mem s.get hself (fun r' h=>(hpl r' h).1) (q2 rfl) K Q ?_
    rintro res ⟨r',h',rfl⟩ v w' β' m gg hv
    obtain⟨_,c2,c3⟩:=hpl r' h'
    refine hK r' h' _ _ β' ?_
    rw[c3]at m gg hv
    rw[c2]at hv
    exact s.put m gg (.when true _ v (fun _=>hv) (fun h=>by cases h)) hok3
   |false=>
    simp only[Bool.false_eq_true,if_false]
    exact hK r hself _ _ β (s.put s.mem lF.refl (.when false _ undef (fun h=>by cases h) (fun _=>rfl)) hok3)
  ·exact hok20.elim
theorem IE{env env':mI}{ops:Array Oper}(h:∀d∈o.looksAt ops,env d=env' d):∀x∈o.op.operands,mT env x=mT env' x:=by
 intro x hx
 cases x with
 |tmp t=>exact h t (by unfold Oper.looksAt;exact List.mem_append.2 (.inl (List.mem_filterMap.2 ⟨.tmp t,by simpa using hx,rfl⟩)))
 |_=>rfl
theorem At:∀x∈dV o.op,x∈o.op.operands:=by
 intro x hx
 unfold dV at hx
 split at hx
 ·rename_i e;simp at hx;rw[e,hx];simp[Op.operands]
 ·simpa using hx
theorem FM{h:kV}{g g':Operand→LV}{r:Option sH}(e:∀x∈o.op.operands,g x=g' x):fI P T h g r o=fI P T h g' r o:=by
 unfold fI
 split
 ·rename_i c x y ho
  rw[e c (by rw[ho];simp[Op.operands]),e x (by rw[ho];simp[Op.operands]),e y (by rw[ho];simp[Op.operands])]
 ·exact vQ fun x hx=>by rw[e x hx]
theorem BR{l:List Oper}{env env':mI}{h:kV}{r:Option sH}(e:∀d∈o.looksAt l.toArray,env d=env' d):iB P T (bU N l) env h r o=iB P T (bU N l) env' h r o:=by
 have e1:=IE e
 unfold iB
 cases hg:o.guard with
 |none=>exact vQ e1
 |some p=>
  obtain⟨j,want⟩:=p
  simp only
  have e2:((bU N l j).map fun d=>lK want (env d))=(bU N l j).map fun d=>lK want (env' d):=by
   cases q:bU N l j with
   |none=>rfl
   |some d=>
    have hd:=(zN N l j d q).1
    have:env d=env' d:=e d (by unfold Oper.looksAt;rw[hg];exact List.mem_append.2 (.inr (by simp only;rw[hd];simp)))
    simp only[Option.map_some,this]
  rw[e2,FM e1]
  have e3:(∀x∈dV o.op,oL (mT env x)=true)=∀x∈dV o.op,oL (mT env' x)=true:=by
   apply propext
   exact⟨fun h x hx=>by rw[←e1 x (At x hx)];exact h x hx,fun h x hx=>by rw[e1 x (At x hx)];exact h x hx⟩
  rw[e3]
def Pf(hide1 wr1 hide2 wr2:List Nat):Bool:=wr1.all (fun x=>hide2.contains x&& !wr2.contains x)&&wr2.all (fun x=>hide1.contains x)
theorem rH(H:kV)(l:List (Nat×aX))(wr:List Nat)(id:Nat)(h:wr.contains (id%1000)=false):bG H (l.filter (oT wr)) id=H id:=by
 rw[jJ]
 have:dT (l.filter (oT wr)) id=none:=by
  induction l with
  |nil=>rfl
  |cons p r ih=>
   by_cases hp:oT wr p=true
   ·rw[List.filter_cons_of_pos hp]
    simp only[dT]
    rw[if_neg (fun e=>by unfold oT at hp;rw[←e,h]at hp;cases hp)]
    exact ih
   ·rw[List.filter_cons_of_neg hp];exact ih
 rw[this];rfl
theorem EB(H:kV)(l:List (Nat×aX)){wr hide:List Nat}(h:∀x∈wr,hide.contains x=true):iG hide (bG H (l.filter (oT wr)))=iG hide H:=by
 funext id
 unfold iG
 by_cases hh:hide.contains (id%1000)=true
 ·rw[if_pos hh,if_pos hh]
 ·rw[if_neg hh,if_neg hh]
  refine rH H l wr id ?_
  cases q:wr.contains (id%1000)with
  |false=>rfl
  |true=>exact absurd (h _ (by simpa using q)) hh
theorem KQ(H:kV)(l1 l2:List (Nat×aX)){wr1 wr2:List Nat}(h:∀x∈wr1,wr2.contains x=false):bG (bG H (l1.filter (oT wr1))) (l2.filter (oT wr2))=bG (bG H (l2.filter (oT wr2))) (l1.filter (oT wr1)):=by
 funext id
 cases q1:wr1.contains (id%1000)with
 |false=>
  rw[rH _ l1 wr1 id q1,jJ _ id,rH H l1 wr1 id q1,jJ _ id]
 |true=>
  have q2:wr2.contains (id%1000)=false:=h _ (by simpa using q1)
  rw[rH _ l2 wr2 id q2,jJ (l1.filter _) id,jJ (l1.filter _) id,rH H l2 wr2 id q2]
theorem GK(env:mI){d1 d2:Option Nat}(v1 v2:LV)(h:∀d,d1=some d→d2≠some d):hZ (hZ env d1 v1) d2 v2=hZ (hZ env d2 v2) d1 v1:=by
 cases d1 with
 |none=>rfl
 |some d1=>
  cases d2 with
  |none=>rfl
  |some d2=>
   have:d1≠d2:=fun e=>h d1 rfl (by rw[e])
   funext j
   simp only[hZ,cN]
   by_cases h1:j=d1
   ·subst h1;rw[if_neg this];simp
   ·rw[if_neg h1,if_neg h1]
theorem EC(env:mI){d1:Option Nat}(v:LV){d:Nat}(h:d1≠some d):hZ env d1 v d=env d:=by
 cases d1 with
 |none=>rfl
 |some d1=>simp only[hZ,cN];rw[if_neg (fun e=>h (by rw[e]))]
theorem IF{l:List Oper}{orc:Nat→Option sH}{o1 o2:Oper}{hide1 wr1 hide2 wr2:List Nat}(hap:o1.apart l.toArray o2=true)(hs:Pf hide1 wr1 hide2 wr2=true)(st:yG):
 iC P T N (bU N l) orc hide2 wr2 (iC P T N (bU N l) orc hide1 wr1 st o1) o2=iC P T N (bU N l) orc hide1 wr1 (iC P T N (bU N l) orc hide2 wr2 st o2) o1:=by
 obtain⟨a1,a2,a3⟩:=Oper.apart_spec hap
 simp only[Pf,Bool.and_eq_true,List.all_eq_true]at hs
 obtain⟨s1,s2⟩:=hs
 have s3:∀x∈wr1,hide2.contains x=true:=fun x hx=>(s1 x hx).1
 have s4:∀x∈wr1,wr2.contains x=false:=fun x hx=>by simpa using(s1 x hx).2
 have e2:iB P T (bU N l) (iC P T N (bU N l) orc hide1 wr1 st o1).env (iG hide2 (iC P T N (bU N l) orc hide1 wr1 st o1).H) (orc (o2.dst.getD 0)) o2=iB P T (bU N l) st.env (iG hide2 st.H) (orc (o2.dst.getD 0)) o2:=by
  simp only[iC]
  rw[EB _ _ s3]
  exact BR fun d hd=>EC _ _ (fun e=>a1 d e hd)
 have e1:iB P T (bU N l) (iC P T N (bU N l) orc hide2 wr2 st o2).env (iG hide1 (iC P T N (bU N l) orc hide2 wr2 st o2).H) (orc (o1.dst.getD 0)) o1=iB P T (bU N l) st.env (iG hide1 st.H) (orc (o1.dst.getD 0)) o1:=by
  simp only[iC]
  rw[EB _ _ s2]
  exact BR fun d hd=>EC _ _ (fun e=>a3 d e hd)
 have f:∀(hide wr:List Nat) (st:yG) (o:Oper),iC P T N (bU N l) orc hide wr st o={env:=hZ st.env o.dst (iB P T (bU N l) st.env (iG hide st.H) (orc (o.dst.getD 0)) o).v,H:=bG st.H ((iB P T (bU N l) st.env (iG hide st.H) (orc (o.dst.getD 0)) o).up.filter (oT wr)),ok:=st.ok∧(iB P T (bU N l) st.env (iG hide st.H) (orc (o.dst.getD 0)) o).ok∧nM N o.dst∧∀p∈(iB P T (bU N l) st.env (iG hide st.H) (orc (o.dst.getD 0)) o).up,oT wr p=true}:=fun _ _ _ _=>rfl
 rw[f hide2 wr2,f hide1 wr1 (iC P T N (bU N l) orc hide2 wr2 st o2),e1,e2]
 clear e1 e2
 simp only[iC]
 clear f
 generalize iB P T (bU N l) st.env (iG hide1 st.H) (orc (o1.dst.getD 0)) o1=r1
 generalize iB P T (bU N l) st.env (iG hide2 st.H) (orc (o2.dst.getD 0)) o2=r2
 congr 1
 ·exact GK _ _ _ a2
 ·exact KQ _ _ _ s4
 ·refine propext ⟨?_,?_⟩
  ·rintro⟨⟨h1,h2⟩,h3⟩;exact⟨⟨h1,h3⟩,h2⟩
  ·rintro⟨⟨h1,h2⟩,h3⟩;exact⟨⟨h1,h3⟩,h2⟩
def Mk(S:Nat→Bool)(i:Nat):Nat→Bool:=fun j=>S j||j==i
def fQ(f:yG→Nat→yG)(S:Nat→Bool)(st:yG):Nat→yG
 |0=>st
 |n+1=>if S n then f (fQ f S st n) n else fQ f S st n
def wL(S:Nat→Bool):Nat→Nat
 |0=>0
 |n+1=>wL S n+(if S n then 0 else 1)
theorem mK{f:yG→Nat→yG}{S S':Nat→Bool}{st:yG}:∀n,(∀j,j<n→S j=S' j)→fQ f S st n=fQ f S' st n
 |0,_=>rfl
 |n+1,h=>by
  simp only[fQ]
  rw[h n (Nat.lt_succ_self n),mK n fun j hj=>h j (Nat.lt_succ_of_lt hj)]
theorem xA{S S':Nat→Bool}:∀n,(∀j,j<n→S j=S' j)→wL S n=wL S' n
 |0,_=>rfl
 |n+1,h=>by
  simp only[wL]
  rw[h n (Nat.lt_succ_self n),xA n fun j hj=>h j (Nat.lt_succ_of_lt hj)]
theorem Bb{S:Nat→Bool}{i j:Nat}(h:j≠i):Mk S i j=S j:=by simp[Mk,h]
theorem IG{S:Nat→Bool}{i:Nat}:Mk S i i=true:=by simp[Mk]
theorem Bc{f:yG→Nat→yG}{S:Nat→Bool}{st:yG}{i:Nat}(hs:S i=false):∀n,i<n→(∀j,i<j→j<n→S j=true→∀st,f (f st i) j=f (f st j) i)→fQ f (Mk S i) st n=f (fQ f S st n) i
 |0,h,_=>absurd h (Nat.not_lt_zero i)
 |n+1,h,hc=>by
  simp only[fQ]
  by_cases e:n=i
  ·subst e
   rw[IG,if_pos rfl,hs,if_neg (by simp),mK n fun j hj=>Bb (Nat.ne_of_lt hj)]
  ·rw[Bb e,Bc hs n (by omega) fun j h1 h2=>hc j h1 (by omega)]
   cases q:S n with
   |true=>rw[if_pos rfl,if_pos rfl,hc n (by omega) (by omega) q]
   |false=>rfl
theorem ED{S:Nat→Bool}{i:Nat}(hs:S i=false):∀n,i<n→wL (Mk S i) n+1=wL S n
 |0,h=>absurd h (Nat.not_lt_zero i)
 |n+1,h=>by
  simp only[wL]
  by_cases e:n=i
  ·subst e
   rw[IG,if_pos rfl,hs,if_neg (by simp),xA n fun j hj=>Bb (Nat.ne_of_lt hj)]
  ·rw[Bb e]
   have:=ED hs n (by omega)
   omega
theorem Dj{S:Nat→Bool}:∀n,wL S n=0→∀j,j<n→S j=true
 |0,_,j,h=>absurd h (Nat.not_lt_zero j)
 |n+1,h,j,hj=>by
  simp only[wL]at h
  by_cases e:j=n
  ·subst e;cases q:S j with|true=>rfl|false=>rw[q]at h;simp at h
  ·exact Dj n (by omega) j (by omega)
theorem GL{f:yG→Nat→yG}(hf:∀st i,(f st i).ok→st.ok){cl:Nat→List Nat}{n:Nat}(hcl:∀j,j<n→∀i∈cl j,i<j)(hc:∀i j,i<j→j<n→i∉cl j→∀st,f (f st i) j=f (f st j) i)
 {S:Nat→Bool}(hS:∀j,j<n→S j=true→∀i∈cl j,S i=true){st:yG}:∀m,m≤n→(fQ f (fun j=>S j||decide (j<m)) st n).ok→(fQ f S st n).ok
 |0,_,h=>by
  rw[mK n (S':=S) fun j _=>by simp]at h
  exact h
 |m+1,hm,h=>by
  refine GL hf hcl hc hS m (by omega) ?_
  cases q:S m with
  |true=>
   rw[mK n (S':=fun j=>S j||decide (j<m+1)) fun j _=>?_]
   ·exact h
   ·by_cases e:j=m
    ·subst e;simp[q]
    ·have:(j<m+1)=(j<m):=by apply propext;omega
     simp only[this]
  |false=>
   have e:fQ f (fun j=>S j||decide (j<m+1)) st n=fQ f (Mk (fun j=>S j||decide (j<m)) m) st n:=mK n fun j _=>by
    unfold Mk
    by_cases e:j=m
    ·subst e;simp
    ·have:(j<m+1)=(j<m):=by apply propext;omega
     simp only[this]
     simp[e]
   rw[e,Bc (by simp[q]) n (by omega) fun j h1 h2 h3=>hc m j h1 h2 fun hin=>?_]at h
   ·exact hf _ _ h
   ·simp only[Bool.or_eq_true,decide_eq_true_eq]at h3
    rcases h3 with h3|h3
    ·rw[hS j h2 h3 m hin]at q;cases q
    ·omega
def iH(P:Program)(T:TypeId→lA)(N:Nat)(l:List Oper)(orc:Nat→Option sH)(hide wr:Nat→List Nat)(st:yG)(i:Nat):yG:=
 match l[i]? with
 |some o=>iC P T N (bU N l) orc (hide i) (wr i) st o
 |none=>st
def FN(l:List Oper)(cl hide wr:Nat→List Nat):Bool:=(List.range l.length).all fun j=>match l[j]? with
 |none=>true
 |some o=>
  o.after.all (fun e=> !Region.binds .any e||decide (e.on<j))&&
  (cl j).all (fun i=>decide (i<j)&&o.after.any (fun e=>Region.binds .any e&&(e.on==i||(cl e.on).contains i)))&&
  !(hide j).contains (o.dst.getD 0%1000)&&
  (List.range j).all (fun i=>(cl j).contains i||match l[i]? with
    |none=>true
    |some o'=>o'.apart l.toArray o&&Pf (hide i) (wr i) (hide j) (wr j))
section
variable{l:List Oper} {cl hide wr:Nat→List Nat} {orc:Nat→Option sH}
structure MP(l:List Oper)(cl hide wr:Nat→List Nat):Prop where
 edge:∀j o,l[j]? =some o→∀e∈o.after,Region.binds .any e=true→e.on<j
 low:∀j,j<l.length→∀i∈cl j,i<j
 clo:∀j o,l[j]? =some o→∀i∈cl j,∃e∈o.after,Region.binds .any e=true∧(e.on=i∨i∈cl e.on)
 dst:∀j o,l[j]? =some o→(hide j).contains (o.dst.getD 0%1000)=false
 sep:∀i j o' o,i<j→l[i]? =some o'→l[j]? =some o→i∉cl j→o'.apart l.toArray o=true∧Pf (hide i) (wr i) (hide j) (wr j)=true
theorem KR(h:FN l cl hide wr=true):MP l cl hide wr:=by
 have k:∀j o,l[j]? =some o→_:=fun j o hj=>by
  have h':=List.all_eq_true.1 h j (List.mem_range.2 (List.getElem?_eq_some_iff.1 hj).1)
  rw[hj]at h'
  simp only[Bool.and_eq_true]at h'
  exact h'
 refine⟨fun j o hj e he hb=>?_,fun j hj i hi=>?_,fun j o hj i hi=>?_,fun j o hj=>?_,fun i j o' o hij hi hj hn=>?_⟩
 ·have:=Array.all_eq_true_iff_forall_mem.1 (k j o hj).1.1.1 e he
  simpa [hb]using this
 ·obtain⟨o,ho⟩:∃o,l[j]? =some o:=⟨_,List.getElem?_eq_getElem hj⟩
  have:=List.all_eq_true.1 (k j o ho).1.1.2 i hi
  simp only[Bool.and_eq_true,decide_eq_true_eq]at this
  exact this.1
 ·have:=List.all_eq_true.1 (k j o hj).1.1.2 i hi
  simp only[Bool.and_eq_true,decide_eq_true_eq]at this
  obtain⟨p,hp,he⟩:=Array.any_eq_true.1 this.2
  simp only[Bool.and_eq_true,Bool.or_eq_true,beq_iff_eq,List.contains_iff_mem]at he
  exact⟨_,Array.getElem_mem hp,he.1,he.2⟩
 ·simpa using(k j o hj).1.2
 ·have:=List.all_eq_true.1 (k j o hj).2 i (List.mem_range.2 hij)
  simp only[Bool.or_eq_true,List.contains_iff_mem,hi,Bool.and_eq_true]at this
  exact this.resolve_left hn
theorem IH(st:yG)(i:Nat)(h:(iH P T N l orc hide wr st i).ok):st.ok:=by
 unfold iH at h
 split at h
 ·exact h.1
 ·exact h
theorem MP.comm(A:MP l cl hide wr)(i j:Nat)(hij:i<j)(hj:j<l.length)(hn:i∉cl j)(st:yG):
 iH P T N l orc hide wr (iH P T N l orc hide wr st i) j=iH P T N l orc hide wr (iH P T N l orc hide wr st j) i:=by
 obtain⟨o,ho⟩:∃o,l[j]? =some o:=⟨_,List.getElem?_eq_getElem hj⟩
 obtain⟨o',ho'⟩:∃o,l[i]? =some o:=⟨_,List.getElem?_eq_getElem (by omega)⟩
 unfold iH
 simp only[ho,ho']
 obtain⟨h1,h2⟩:=A.sep i j o' o hij ho' ho hn
 exact IF h1 h2 st
def qC(P:Program)(T:TypeId→lA)(N:Nat)(l:List Oper)(orc:Nat→Option sH)(hide wr:Nat→List Nat)(st:yG):yG:=fQ (iH P T N l orc hide wr) (fun _=>true) st l.length
theorem Dk{f f':yG→Nat→yG}{S:Nat→Bool}{n0:Nat}{st:yG}(h:∀q,S q=true→q<n0→∀st,f st q=f' st q):∀n,n≤n0→fQ f S st n=fQ f' S st n
 |0,_=>rfl
 |n+1,hn=>by
  simp only[fQ]
  rw[Dk h n (by omega)]
  split
  ·rename_i hs;exact h n hs (by omega) _
  ·rfl
structure II{ι:Type}(orcs:ι→Nat→Option sH)(Φ:ι→Prop)(l:List Oper):Prop where
 self:∀i,Φ i→∀d,Ab (orcs i d) (orcs i d)
 alt:∀i,Φ i→∀(k:Nat) (o:Oper),l[k]? =some o→∀r',Ab (orcs i (o.dst.getD 0)) r'→∃j,Φ j∧orcs j (o.dst.getD 0)=r'∧∀(q:Nat) (oq:Oper),l[q]? =some oq→q≠k→orcs j (oq.dst.getD 0)=orcs i (oq.dst.getD 0)
theorem Qh.all{l:List Oper}{ι:Type}{orcs:ι→Nat→Option sH}{Φ:ι→Prop}{d0:Nat}(G:Qh orcs Φ d0)(hc1:∀(i j:Nat) (o o':Oper),l[i]? =some o→l[j]? =some o'→o.dst.getD 0=d0→o'.dst.getD 0=d0→i=j):II orcs Φ l:=by
 refine⟨fun i hi d=>?_,fun i hi k o ho r' hr=>?_⟩
 ·by_cases hd:d=d0
  ·subst hd;exact G.self i hi
  ·exact(G.det i hi d hd).1
 ·by_cases hd:o.dst.getD 0=d0
  ·rw[hd]at hr
   obtain⟨j,hj,e⟩:=G.alt i hi r' hr
   refine⟨j,hj,by rw[hd];exact e,fun q oq hq hqk=>?_⟩
   exact G.base j i hj hi _ fun h=>hqk (hc1 q k oq o hq ho h hd)
  ·exact⟨i,hi,((G.det i hi _ hd).2 r' hr).symm,fun _ _ _ _=>rfl⟩
def rI{ι κ:Type}(d0 d1:Nat)(base:Nat→Option sH)(g:ι→sH)(h:κ→sH)(i:ι×κ)(d:Nat):Option sH:=if d=d0 then some (g i.1)else if d=d1 then some (h i.2)else base d
theorem KS(hT:mA P T)(hW:Gz T)(A:MP l cl hide wr){st:yG}{ι:Type}{orcs:ι→Nat→Option sH}{Φ:ι→Prop}(G:II orcs Φ l)(hok:∀i,Φ i→(qC P T N l (orcs i) hide wr st).ok){Q:Exit→Act→World→Prop}
 (hQ:∀i,Φ i→∀β a w,tR N w0 X (qC P T N l (orcs i) hide wr st).env (qC P T N l (orcs i) hide wr st).H β a w→Q .normal a w):
 ∀(ι0:ι),Φ ι0→∀(fuel:Nat) (listed:Array Bool) (β:Nat→Option Nat) (a:Act) (w:World),listed.size=l.length→wL (fun j=>listed.getD j false) l.length≤fuel→(∀j,j<l.length→listed.getD j false=true→∀i∈cl j,listed.getD i false=true)→
  tR N w0 X (fQ (iH P T N l (orcs ι0) hide wr) (fun j=>listed.getD j false) st l.length).env (fQ (iH P T N l (orcs ι0) hide wr) (fun j=>listed.getD j false) st l.length).H β a w→wpAny P .any l.toArray Q fuel listed a w:=by
 have all:∀(ι0:ι),Φ ι0→∀(listed:Array Bool) (β:Nat→Option Nat) (a:Act) (w:World),Region.ready .any l.toArray listed=[]→listed.size=l.length→tR N w0 X (fQ (iH P T N l (orcs ι0) hide wr) (fun j=>listed.getD j false) st l.length).env (fQ (iH P T N l (orcs ι0) hide wr) (fun j=>listed.getD j false) st l.length).H β a w→Q .normal a w:=by
  intro ι0 hΦ listed β a w hr hsz hs
  have:∀j,j<l.length→listed.getD j false=true:=by
   intro j
   induction j using Nat.strongRecOn with
   |ind j ih=>
    intro hj
    cases q:listed.getD j false with
    |true=>rfl
    |false=>
     exfalso
     obtain⟨o,ho⟩:∃o,l[j]? =some o:=⟨_,List.getElem?_eq_getElem hj⟩
     have:j∈Region.ready .any l.toArray listed:=mem_ready.2 ⟨by
      simp only[Array.getD_eq_getD_getElem?]at q⊢
      rw[Array.getElem?_eq_getElem (by omega)]at q⊢
      exact q,o,by simpa using ho,fun e he hb=>ih e.on (A.edge j o ho e he hb) (Nat.lt_trans (A.edge j o ho e he hb) hj)⟩
     rw[hr]at this
     cases this
  rw[mK (S':=fun _=>true) l.length this]at hs
  exact hQ ι0 hΦ β a w hs
 intro ι0 hΦ fuel
 induction fuel generalizing ι0 with
 |zero=>
  intro listed β a w hsz hm hc hs
  have hr:Region.ready .any l.toArray listed=[]:=by
   cases hr:Region.ready .any l.toArray listed with
   |nil=>rfl
   |cons i r=>
    exfalso
    have hi:i∈Region.ready .any l.toArray listed:=by rw[hr];exact List.mem_cons_self
    obtain⟨h0,o,ho,_⟩:=mem_ready.1 hi
    have hlt:i<l.length:=by have:=(Array.getElem?_eq_some_iff.1 ho).1;simpa using this
    have:=Dj l.length (Nat.le_zero.1 hm) i hlt
    simp only[Array.getD_eq_getD_getElem?]at h0 this
    rw[Array.getElem?_eq_getElem (by omega)]at h0 this
    simp only[Option.getD_some]at h0 this
    rw[h0]at this;cases this
  exact⟨hr,all ι0 hΦ listed β a w hr hsz hs⟩
 |succ fuel ih=>
  intro listed β a w hsz hm hc hs
  refine⟨fun hr=>all ι0 hΦ listed β a w hr hsz hs,fun i hi=>?_⟩
  obtain⟨h0,o,ho,hall⟩:=mem_ready.1 hi
  have hlt:i<l.length:=by have:=(Array.getElem?_eq_some_iff.1 ho).1;simpa using this
  have ho':l[i]? =some o:=by simpa using ho
  have hf:listed.getD i false=false:=by
   simp only[Array.getD_eq_getD_getElem?]at h0⊢
   rw[Array.getElem?_eq_getElem (by omega)]at h0⊢
   exact h0
  have hi':∀k,(listed.setIfInBounds i true).getD k false=Mk (fun j=>listed.getD j false) i k:=by
   intro k
   by_cases e:k=i
   ·subst e;rw[IG];simp[hsz,hlt]
   ·rw[Bb e];exact getD_set_ne false (Ne.symm e)
  have hcl:∀k∈cl i,listed.getD k false=true:=by
   intro k hk
   obtain⟨e,he,hb,hor⟩:=A.clo i o ho' k hk
   have:=hall e he hb
   rcases hor with hor|hor
   ·rw[←hor];exact this
   ·exact hc e.on (Nat.lt_trans (A.edge i o ho' e he hb) hlt) this k hor
  have hc':∀j,j<l.length→(listed.setIfInBounds i true).getD j false=true→∀k∈cl j,(listed.setIfInBounds i true).getD k false=true:=by
   intro j hj hjl k hk
   rw[hi']at hjl⊢
   have:listed.getD k false=true:=by
    by_cases e:j=i
    ·subst e;exact hcl k hk
    ·rw[Bb e]at hjl;exact hc j hj hjl k hk
   simp[Mk,this]
  have e1:∀ι0:ι,fQ (iH P T N l (orcs ι0) hide wr) (fun j=>(listed.setIfInBounds i true).getD j false) st l.length=iH P T N l (orcs ι0) hide wr (fQ (iH P T N l (orcs ι0) hide wr) (fun j=>listed.getD j false) st l.length) i:=fun ι0=>by
   rw[mK (S':=Mk (fun j=>listed.getD j false) i) l.length fun j _=>hi' j]
   exact Bc hf l.length hlt fun j h1 h2 h3=>A.comm i j h1 h2 fun hin=>by
    have:=hc j h2 h3 i hin
    rw[hf]at this;cases this
  have okk:∀ι0,Φ ι0→(fQ (iH P T N l (orcs ι0) hide wr) (fun j=>(listed.setIfInBounds i true).getD j false) st l.length).ok:=fun ι0 hΦ=>by
   refine GL IH A.low A.comm hc' l.length (Nat.le_refl _) ?_
   rw[mK (S':=fun _=>true) l.length fun j hj=>by simp[hj]]
   exact hok ι0 hΦ
  have e2:∀ι0 st,iH P T N l (orcs ι0) hide wr st i=iC P T N (bU N l) (orcs ι0) (hide i) (wr i) st o:=fun ι0 st=>by unfold iH;rw[ho']
  have key:∀r',Ab (orcs ι0 (o.dst.getD 0)) r'→∃j,Φ j∧(∀st,iC P T N (bU N l) (fun _=>r') (hide i) (wr i) st o=iC P T N (bU N l) (orcs j) (hide i) (wr i) st o)∧
   fQ (iH P T N l (orcs ι0) hide wr) (fun j=>listed.getD j false) st l.length=fQ (iH P T N l (orcs j) hide wr) (fun j=>listed.getD j false) st l.length:=fun r' hr=>by
   obtain⟨j,hj,e,hq⟩:=G.alt ι0 hΦ i o ho' r' hr
   refine⟨j,hj,fun st=>by unfold iC;rw[e],Dk (fun q hq' hql st=>?_) l.length (Nat.le_refl _)⟩
   have hqi:q≠i:=fun h=>by
    have hq':listed.getD q false=true:=hq'
    rw[h,hf]at hq';cases hq'
   unfold iH
   cases hoq:l[q]? with
   |none=>rfl
   |some oq=>
    simp only[]
    unfold iC
    rw[hq q oq hoq hqi]
  have hself:Ab (orcs ι0 (o.dst.getD 0)) (orcs ι0 (o.dst.getD 0)):=G.self ι0 hΦ _
  have:=GJ (P:=P) (T:=T) hT hW (ops:=l.toArray) (zN N l) (A.dst i o ho') hs hself (r:=orcs ι0 (o.dst.getD 0)) (fun r' hr=>by
   obtain⟨j,hj,h1,h2⟩:=key r' hr
   have:=okk j hj
   rw[e1,e2]at this
   rw[h1,h2];exact this) (K:=wpAny P .any l.toArray Q fuel (listed.setIfInBounds i true)) (Q:=Q) fun r' hr a' w' β' s'=>by
   obtain⟨j,hj,h1,h2⟩:=key r' hr
   rw[h1,h2]at s'
   exact ih j hj (listed.setIfInBounds i true) β' a' w' (by simpa using hsz) (by
    rw[xA (S':=Mk (fun j=>listed.getD j false) i) l.length fun j _=>hi' j]
    have:=ED (S:=fun j=>listed.getD j false) hf l.length hlt
    omega) hc' (by rw[e1,e2];exact s')
  unfold wpOp
  simp only[ho]
  exact this
theorem tR.drew{env:mI}{H:kV}{β:Nat→Option Nat}(s:tR N w0 X env H β a w):tR N w0 X env H β a {w with drawn:=w.drawn+1}:=by
 have hb:En w.heap.size w {w with drawn:=w.drawn+1}:=⟨rfl,rfl,rfl,Nat.le_refl _,fun _ _=>rfl,Nat.le_succ _⟩
 obtain⟨m,g⟩:=s.mem.grow hb
 exact s.put (dst:=none) (v:=.slice none 0 0) (l:=.junk) m g (.junk _) (by trivial)
theorem GM:∀l:List Oper,∃d0,∀o∈l,o.dst.getD 0<d0
 |[]=>⟨0,fun o ho=>by cases ho⟩
 |o::l=>by
  obtain⟨d,hd⟩:=GM l
  refine⟨d+o.dst.getD 0+1,fun o' ho'=>?_⟩
  rcases List.mem_cons.1 ho' with h|h
  ·rw[h];exact Nat.lt_succ_of_le (Nat.le_add_left _ _)
  ·exact Nat.lt_of_lt_of_le (hd o' h) (Nat.le_succ_of_le (Nat.le_add_right _ _))
theorem GN(hT:mA P T)(hW:Gz T)(hm:P.follows .mixedOrders=true){id:Nat}{Q:LX→mI→kV→Prop}{env:mI}{H:kV}(cl hide wr:Nat→List Nat)(hA:FN l cl hide wr=true){ι:Type}{orcs:ι→Nat→Option sH}{Φ:ι→Prop}(G:II orcs Φ l)(i0:ι)(h0:Φ i0)
 (h:∀i,Φ i→(qC P T N l (orcs i) hide wr ⟨env,H,True⟩).ok∧Q .normal (qC P T N l (orcs i) hide wr ⟨env,H,True⟩).env (qC P T N l (orcs i) hide wr ⟨env,H,True⟩).H):
 oS P N w0 X (.region id l.toArray true) Q env H:=by
 intro r hr β a w s
 refine Iu Dd hm hr ?_
 have e0:∀n,fQ (iH P T N l (orcs i0) hide wr) (fun j=>(Array.replicate l.toArray.size false).getD j false) ⟨env,H,True⟩ n=⟨env,H,True⟩:=fun n=>by
  induction n with
  |zero=>rfl
  |succ n ih=>simp only[fQ];rw[if_neg (by simp[Array.getElem?_replicate];split<;>rfl)];exact ih
 refine KS hT hW (KR hA) G (fun i hi=>(h i hi).1) (fun i hi β' a' w' s'=>⟨.normal,_,_,β',trivial,s',(h i hi).2⟩) i0 h0 _ _ β a _ (by simp) ?_ (fun j _ hj=>?_) ?_
 ·have:∀S n,wL S n≤n:=fun S n=>by
   induction n with
   |zero=>exact Nat.le_refl 0
   |succ n ih=>simp only[wL];split<;>omega
  simpa using this _ l.length
 ·exfalso;simp[Array.getElem?_replicate]at hj;split at hj<;>cases hj
 ·rw[e0];exact s.drew
theorem GO(hT:mA P T)(hW:Gz T)(hm:P.follows .mixedOrders=true){id:Nat}{Q:LX→mI→kV→Prop}{env:mI}{H:kV}(cl hide wr:Nat→List Nat)(hA:FN l cl hide wr=true){ι:Type}{orcs:ι→Nat→Option sH}{Φ:ι→Prop}{d0:Nat}(G:Qh orcs Φ d0)(i0:ι)(h0:Φ i0)
 (hc1:∀(i j:Nat) (o o':Oper),l[i]? =some o→l[j]? =some o'→o.dst.getD 0=d0→o'.dst.getD 0=d0→i=j)
 (h:∀i,Φ i→(qC P T N l (orcs i) hide wr ⟨env,H,True⟩).ok∧Q .normal (qC P T N l (orcs i) hide wr ⟨env,H,True⟩).env (qC P T N l (orcs i) hide wr ⟨env,H,True⟩).H):
 oS P N w0 X (.region id l.toArray true) Q env H:=GN hT hW hm cl hide wr hA (G.all hc1) i0 h0 h
theorem aF(hT:mA P T)(hW:Gz T)(hm:P.follows .mixedOrders=true){id:Nat}{Q:LX→mI→kV→Prop}{env:mI}{H:kV}(cl hide wr:Nat→List Nat)(hA:FN l cl hide wr=true)(orc:Nat→Option sH)(hdet:∀d,Is (orc d))
 (h:(qC P T N l orc hide wr ⟨env,H,True⟩).ok∧Q .normal (qC P T N l orc hide wr ⟨env,H,True⟩).env (qC P T N l orc hide wr ⟨env,H,True⟩).H):
 oS P N w0 X (.region id l.toArray true) Q env H:=by
 obtain⟨d0,hd0⟩:=GM l
 exact GO hT hW hm cl hide wr hA (ι:=Unit) (orcs:=fun _=>orc) (Φ:=fun _=>True) (d0:=d0) ⟨fun _ _ _ _ _ _=>rfl,fun _ _ d _=>hdet d,fun _ _=>(hdet _).1,fun _ _ r' hr=>⟨(),trivial,((hdet _).2 r' hr).symm⟩⟩ () trivial
  (fun i j o o' h1 h2 h3 _=>absurd h3 (Nat.ne_of_lt (hd0 o (List.mem_of_getElem? h1)))) fun _ _=>h
end
end
end Go.Eng
namespace Go.Eng
open Go.RowKit
def lk(l:List (List Nat))(j:Nat):List Nat:=l.getD j []
section
variable{P:Program} {T:TypeId→lA} {N:Nat} {w0:iU} {X:Nat→Prop} {Q:LX→mI→kV→Prop} {env env' env'':mI} {H H' H'':kV}
def MQ(l:LV)(A B:Prop):Prop:=match l with
 | .d (.bool b)=>(b=true→A)∧(b=false→B)
 |_=>False
theorem eU{b:Bool}{A B:Prop}:MQ (.d (.bool b)) A B↔(b=true→A)∧(b=false→B):=Iff.rfl
theorem aB{c:Operand}{x y:Code}(h:MQ (mT env c) (oS P N w0 X x Q env H) (oS P N w0 X y Q env H)):oS P N w0 X (.cond c x y) Q env H:=by
 unfold MQ at h
 split at h
 ·rename_i b e
  exact .cond e h.1 h.2
 ·exact h.elim
theorem aA(keep:List Nat)(σ:List (Nat×Nat))(hσ:(σ.map (·.2)).Nodup)(hσ1:(σ.map (·.1)).Nodup)(hpin:∀id∈w0.pins,dR σ id=some id)(hE:aY (keep.map fun t=>(t,ren σ 8 (env t)))=env')(hH:aK (σ.map fun p=>(p.2,cD σ (H p.1)))=H'):oM w0 env H env' H':=by
 subst hE;subst hH
 exact lQ keep σ hσ hσ1 hpin
def JK(w0:iU){ι:Type}(E:ι→mI)(O:ι→kV)(I:ι→Prop)(μ:ι→Nat)(i:ι)(env':mI)(H':kV):Prop:=∃j,oM w0 env' H' (E j) (O j)∧I j∧μ j<μ i
theorem JK.mk{ι:Type}{E:ι→mI}{O:ι→kV}{I:ι→Prop}{μ:ι→Nat}{i:ι}(j:ι)(hw:oM w0 env H (E j) (O j))(hI:I j)(hμ:μ j<μ i):JK w0 E O I μ i env H:=⟨j,hw,hI,hμ⟩
def Qz(t:Nat)(fresh:Bool)(r:RV)(x:LX)(env:mI)(H:kV):Prop:=(match x with| .exit _=>False|_=>True)∧lH H fresh (env t) r
def MR(t u:Nat)(fresh:Bool)(r:RV)(y:DV)(x:LX)(env:mI)(H:kV):Prop:=(match x with| .exit _=>False|_=>True)∧lH H fresh (env t) r∧lH H fresh (env u) (.d y)
theorem jK{t:Nat}{fresh:Bool}{r:RV}:Qz t fresh r .ret env H↔lH H fresh (env t) r:=by simp[Qz]
theorem gC{t u:Nat}{fresh:Bool}{r:RV}{y:DV}:MR t u fresh r y .ret env H↔lH H fresh (env t) r∧lH H fresh (env u) (.d y):=by simp[MR]
theorem cA{c:Code}{ι:Type}(E:ι→mI)(O:ι→kV)(I:ι→Prop)(μ:ι→Nat)(i:ι)(he:oM w0 env H (E i) (O i))(h0:I i)
 (round:∀i,I i→oS P N w0 X c (sT (JK w0 E O I μ i) Q) (E i) (O i)):oS P N w0 X (.loop c) Q env H:=by
 refine mE he ?_
 intro r hr β a w s
 have key:∀n i,μ i=n→I i→∀β a w,tR N w0 X (E i) (O i) β a w→(Code.loop c).wpIn (RF r) 0 P (fun e a' w'=>∃x env' H' β',vR e x∧tR N w0 X env' H' β' a' w'∧Q x env' H') a w:=by
  intro n i hn hI β a w s
  refine BN (fun n a w=>∃i β,μ i=n∧I i∧tR N w0 X (E i) (O i) β a w) n ⟨i,β,hn,hI,s⟩ fun n' a' w' ⟨i',β',h1,h2,h3⟩=>?_
  refine wpIn_mono (round i' h2 r hr.loop β' a' w' h3) ?_
  rintro e a2 w2 ⟨lx,env',H',β2,g1,g2,g3⟩
  cases e<;>cases lx<;>simp only[vR]at g1
  ·obtain⟨j,e1,e3,e4⟩:=g3
   obtain⟨β3,s3⟩:=e1 _ _ _ _ _ g2
   exact⟨μ j,by omega,j,β3,rfl,e3,s3⟩
  ·subst g1;exact⟨.exit _,env',H',β2,rfl,g2,g3⟩
  ·exact⟨.ret,env',H',β2,trivial,g2,g3⟩
 exact key _ i rfl h0 β a w s
theorem AU.anti{w w':World}{E E':Nat→Prop}(hE:∀k,E' k→E k){B:Option Nat}{r:RV}{v:Value}(h:AU w w' E B r v):AU w w' E' B r v:=by
 cases r with
 |d x=>exact RD.anti hE h
 |own s xs=>
  obtain⟨h1,h2,h3⟩:=h
  refine⟨h1,h2,?_⟩
  rcases h3 with h3|⟨b,c,cur,e,g1,g2,g3,g4,g5,g6,g7,g8⟩
  ·exact .inl h3
  ·exact .inr ⟨b,c,cur,e,g1,g2,g3,g4,g5,g6,g7,fun i d v hd hv=>⟨(g8 i d v hd hv).1,(g8 i d v hd hv).2.anti hE⟩⟩
 |tup _=>exact h
theorem Dl{f:FuncId}{fn:Func}{c:Code}{args:List DV}{r1:RV}{y:DV}{fresh:Bool}{n t u:Nat}(hf:P.funcs[f]? =some fn)(hname:(fn.name== "runtime.NumGoroutine")=false)(hb:fn.body=some c)(hn:fn.ntmps=n)(hargs:args.length≤n)(hres:fn.results= #[.tmp t,.tmp u])
 (hy:memless y=true)(h:∀w0 X,w0.pins=[]→oS P n w0 X c (MR t u fresh r1 y) (fP args) (aK [])):Ok P f args ⟨.tup [r1,.d y],fresh⟩:=by
 refine vS hf hname hb hn hargs fun w0 X hpn=>(h w0 X hpn).mono fun x env H ⟨h1,h2,h3⟩=>⟨h1,fun β a w s=>⟨_,results_tmp2 hres _ _ _,?_⟩⟩
 obtain⟨B,hB⟩:=yL hpn s (s.env t) h2
 obtain⟨B',hB'⟩:=yL hpn s (s.env u) h3
 refine⟨[a.tmps.getD t undef,a.tmps.getD u undef],fun i=>if i=0 then B else none,rfl,rfl,fun i j b hi hj=>?_,fun i r v hr hv=>?_⟩
 ·simp only at hi hj
  by_cases h1:i=0
  ·by_cases h2:j=0
   ·omega
   ·rw[if_neg h2]at hj;cases hj
  ·rw[if_neg h1]at hi;cases hi
 ·match i,hr,hv with
  |0,hr,hv=>
   injection hr with hr;injection hv with hv
   subst hr;subst hv
   simp only[if_pos]
   refine AU.anti (fun k hk=>?_) hB
   rcases hk with hk|⟨j,hj⟩
   ·exact .inl hk
   ·by_cases h2:j=0
    ·rw[if_pos h2]at hj;exact .inr hj
    ·rw[if_neg h2]at hj;cases hj
  |1,hr,hv=>
   injection hr with hr;injection hv with hv
   subst hr;subst hv
   simp only[AU]at hB'⊢
   exact hB'.memless hy
theorem Ok.ret{f:FuncId}{fn:Func}{c:Code}{args:List DV}{r:RV}{fresh:Bool}{n t:Nat}(hf:P.funcs[f]? =some fn)(hname:(fn.name== "runtime.NumGoroutine")=false)(hb:fn.body=some c)(hn:fn.ntmps=n)(hargs:args.length≤n)(hres:fn.results= #[.tmp t])
 (hrt:∀rs,r≠ .tup rs)(h:∀w0 X,w0.pins=[]→oS P n w0 X c (Qz t fresh r) (fP args) (aK [])):Ok P f args ⟨r,fresh⟩:=Ok.one hf hname hb hn hargs hres hrt h
def lI(T:TypeId→lA)(H:kV)(ty:TypeId)(l:LV):oZ:=match l with
 | .bx id 0=>match H id with
   | .box _ cs=>.cond (oK (T ty).k.agg (T ty).size 0 cs) ((T ty).k.isNone=false∧(T ty).size≤cs.length∧((T ty).k.agg=false→(T ty).size=1))
   |_=>.fail
 |_=>.fail
theorem xB(hT:mA P T){β:Nat→Option Nat}{a:Act}{w:World}(s:tR N w0 X env H β a w){t:Nat}{ty:TypeId}(hok:(lI T H ty (env t)).ok):
 ∃v,(((asAddr (a.tmps.getD t undef)).run P w).andThen fun a w=>(loadVar ty a).run P w)=.ok v w∧R w (Ex X β H) β H (lI T H ty (env t)).v v:=by
 have hx:=s.env t
 generalize env t=l at*
 unfold lI at*
 split at hok
 ·rename_i id
  split at hok
  ·rename_i fz cs hH
   simp only[oZ.cond]at hok⊢
   obtain⟨ht,hle,hs⟩:=hok
   have hob:=s.obj id
   simp only[fU,hH]at hob
   obtain⟨b,e,us,hb,hblk,hlen,h1,hp⟩:=hob
   generalize hval:a.tmps.getD t undef=vx at hx
   cases hx with
   |bx _ _ b' _ _ _ hb'=>
    rw[hb]at hb';injection hb' with hb';subst hb'
    have:=BF (P:=P) (w:=w) (b:=b) (off:=0) (us:=(us.drop 0).take (T ty).size) hT ht (by simp;omega) hs (fun j u hu=>by
     rw[cell_of_row w b _ us.toArray e (0,0) hblk]
     rw[List.getElem?_take]at hu
     split at hu
     ·simpa using hu
     ·cases hu)
    refine⟨_,?_,FA hlen.symm h1 (by omega) hs hp⟩
    simp only[asAddr,Sem.run_pure,Result.andThen_ok,this]
   |bxdead _ _ _ hd=>rw[hH]at hd;cases hd
  ·exact hok.elim
 ·exact hok.elim
def QA(T:TypeId→lA)(t:Nat)(ty:TypeId)(fresh:Bool)(r:RV)(x:LX)(env:mI)(H:kV):Prop:=(match x with| .exit _=>False|_=>True)∧(lI T H ty (env t)).ok∧lH H fresh (lI T H ty (env t)).v r
theorem jL{T:TypeId→lA}{t:Nat}{ty:TypeId}{fresh:Bool}{r:RV}:QA T t ty fresh r .ret env H↔(lI T H ty (env t)).ok∧lH H fresh (lI T H ty (env t)).v r:=by simp[QA]
theorem Ok.cell(hT:mA P T){f:FuncId}{fn:Func}{c:Code}{args:List DV}{r:RV}{fresh:Bool}{n t:Nat}{ty:TypeId}(hf:P.funcs[f]? =some fn)(hname:(fn.name== "runtime.NumGoroutine")=false)(hb:fn.body=some c)(hn:fn.ntmps=n)(hargs:args.length≤n)(hres:fn.results= #[.cell t ty])
 (hrt:∀rs,r≠ .tup rs)(h:∀w0 X,w0.pins=[]→oS P n w0 X c (QA T t ty fresh r) (fP args) (aK [])):Ok P f args ⟨r,fresh⟩:=by
 refine vS hf hname hb hn hargs fun w0 X hpn=>(h w0 X hpn).mono fun x env H ⟨h1,h2,h3⟩=>⟨h1,fun β a w s=>?_⟩
 obtain⟨v,hv,hr⟩:=xB hT s h2
 refine⟨v,?_,?_⟩
 ·simp only[results,hres]
  simpa [Sem.run_bind,Result.andThen]using hv
 obtain⟨B,hB⟩:=yL hpn s hr h3
 cases q:r with
 |tup rs=>exact absurd q (hrt rs)
 |d x=>rw[q]at hB;exact⟨B,hB⟩
 |own sz xs=>rw[q]at hB;exact⟨B,hB⟩
section
variable{n k off id j m c:Nat} {cs:List LV} {f:FuncId} {x:DV} {σ:List (Nat×Nat)} {l:List (Nat×LV)} {lo:List (Nat×aX)}
theorem jM:aY l j=kN l j:=rfl
theorem jN:aK lo j=lG lo j:=rfl
theorem lC:close H (n+1) (.d x)=some x:=rfl
theorem gD:close H (n+1) (.agg cs)=(bX (cs.map (close H n))).map .agg:=rfl
theorem jO:close H (n+1) (.oc id k m c)=match H id with| .row _ _ xs=>some (.sl ((xs.drop k).take m))|_=>none:=rfl
theorem jP:close H (n+1) (.ow id k m)=match H id with| .row _ _ xs=>some (.sl ((xs.drop k).take m))|_=>none:=rfl
theorem jQ:close H (n+1) (.bx id off)=match H id with| .box _ cs=>(bX ((cs.drop off).map (close H n))).map .ro|_=>none:=rfl
theorem jR:close H (n+1) (.fn f cs)=(bX (cs.map (close H n))).map (.fn f):=rfl
theorem jS:close H (n+1) (.bm f cs)=(bX (cs.map (close H n))).map (.bm f):=rfl
theorem jT:close H (n+1) (.mp id)=match H id with| .map _ ks vs=>some (.mp ks vs)|_=>none:=rfl
theorem jU:bL H (n+1) (.mp id)=[id]:=rfl
theorem nN:ren σ (n+1) (.mp id)=match dR σ id with|some j=>.mp j|none=>.junk:=rfl
theorem jV:close H (n+1) .nl=some (.sl []):=rfl
theorem lD:bL H (n+1) (.d x)=[]:=rfl
theorem gE:bL H (n+1) (.agg cs)=cs.flatMap (bL H n):=rfl
theorem jW:bL H (n+1) (.oc id k m c)=[id]:=rfl
theorem jX:bL H (n+1) (.ow id k m)=[id]:=rfl
theorem jY:bL H (n+1) (.bx id off)=match H id with| .box _ cs=>id::(cs.drop off).flatMap (bL H n)|_=>[]:=rfl
theorem jZ:bL H (n+1) (.fn f cs)=cs.flatMap (bL H n):=rfl
theorem kA:bL H (n+1) (.bm f cs)=cs.flatMap (bL H n):=rfl
theorem kC:bL H (n+1) .nl=[]:=rfl
theorem rJ:ren σ (n+1) (.d x)=.d x:=rfl
theorem lR:ren σ (n+1) (.agg cs)=.agg (cs.map (ren σ n)):=rfl
theorem nO:ren σ (n+1) (.bx id off)=match dR σ id with|some j=>.bx j off|none=>.junk:=rfl
theorem nP:ren σ (n+1) (.rp id k j)=match dR σ id with|some i=>.rp i k j|none=>.junk:=rfl
theorem nQ:ren σ (n+1) (.oc id k m c)=match dR σ id with|some i=>.oc i k m c|none=>.junk:=rfl
theorem nR:ren σ (n+1) (.ow id k m)=match dR σ id with|some i=>.ow i k m|none=>.junk:=rfl
theorem nS:ren σ (n+1) (.fn f cs)=.fn f (cs.map (ren σ n)):=rfl
theorem nT:ren σ (n+1) (.bm f cs)=.bm f (cs.map (ren σ n)):=rfl
theorem nU:ren σ (n+1) .nl=.nl:=rfl
theorem kD:ren σ (n+1) .junk=.junk:=rfl
theorem eV{cs:List DV}:aE (.agg cs)=cs:=rfl
theorem eW{k:IntKind}{i:Int}:aE (.int k i)=[.int k i]:=rfl
theorem dW{b:Bool}:aE (.bool b)=[.bool b]:=rfl
theorem eX{s:List UInt8}:aE (.str s)=[.str s]:=rfl
theorem gF{xs:List DV}:aE (.sl xs)=[.sl xs]:=rfl
theorem gG{xs:List DV}:aE (.ro xs)=[.ro xs]:=rfl
theorem gH{xs:List DV}:aE (.fn f xs)=[.fn f xs]:=rfl
theorem gI{xs:List DV}:aE (.bm f xs)=[.bm f xs]:=rfl
theorem eY:fN (.agg cs)=cs:=rfl
theorem dX{cs:List DV}:fN (.d (.agg cs))=cs.map .d:=rfl
theorem eZ{k:IntKind}{i:Int}:fN (.d (.int k i))=[.d (.int k i)]:=rfl
theorem dY{b:Bool}:fN (.d (.bool b))=[.d (.bool b)]:=rfl
theorem fB{s:List UInt8}:fN (.d (.str s))=[.d (.str s)]:=rfl
theorem gJ{xs:List DV}:fN (.d (.sl xs))=[.d (.sl xs)]:=rfl
theorem gK{xs:List DV}:fN (.d (.fn f xs))=[.d (.fn f xs)]:=rfl
theorem gL{xs:List DV}:fN (.d (.bm f xs))=[.d (.bm f xs)]:=rfl
theorem gM:fN (.oc id k m c)=[.oc id k m c]:=rfl
theorem gN:fN (.ow id k m)=[.ow id k m]:=rfl
theorem gO:fN (.bx id off)=[.bx id off]:=rfl
theorem fC:fN (.fn f cs)=[.fn f cs]:=rfl
theorem fD:fN (.bm f cs)=[.bm f cs]:=rfl
theorem gP:fN (.mp id)=[.mp id]:=rfl
theorem gQ{ks vs:List DV}:aE (.mp ks vs)=[.mp ks vs]:=rfl
theorem fE{ks vs:List DV}:fN (.d (.mp ks vs))=[.d (.mp ks vs)]:=rfl
theorem gR:fN .nl=[.nl]:=rfl
end
end
end Go.Eng
