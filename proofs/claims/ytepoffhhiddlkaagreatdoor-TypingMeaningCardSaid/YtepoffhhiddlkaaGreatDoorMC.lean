/- Part 3 of the proof. No condition. -/
import Derived.Test.YtepoffhhiddlkaaGreatDoorMB
import Derived.Laws.MakeOwn
import Derived.Lib.SliceRun
import Derived.Lib.AppendZerosOnto
import Derived.Lib.Overlaps
import Derived.CallsIn
import Derived.OwnWalkIn
import Derived.RangeFuncLeaves
import Derived.RangeFuncRecord
import Derived.Scope
set_option linter.unusedVariables false
set_option linter.unusedSimpArgs false
set_option maxRecDepth 20000
set_option maxHeartbeats 4000000
open List renaming getElem?_eq_getElem→A1,map_cons→A2,all_eq_true→A5,mem_of_getElem?→A6,replicate→A7,getElem?_eq_some_iff→A8,map_nil→A9,map_congr_left→B1,eq_nil_of_length_eq_zero→B2,getElem?_take→B3,mem_cons_self→B4,length_map→B5,mem_cons_of_mem→B8,mem_of_mem_take→C3,mem_append→C4,getElem_of_mem→C5,mem_replicate→C7,size_toArray→D0,flatMap_cons→D1,length_take→D3,mem_flatMap→D4,contains_iff_mem→D9,replicate_zero→E2,getElem?_map→E3,map_map→E6,filter_cons→F0,zipIdx_cons→F1,flatMap_map→F2,foldl_cons→F4,nodup_cons→F6,mem_range→F7,map→F8,mem_cons→F9,range→G2
open Nat renaming le_refl→B0,le_of_mul_le_mul_right→C6,eq_zero_or_pos→C8,add_mul→C9,add_zero→D5,not_lt_zero→D7,mul_le_mul_right→E0,zero_le→E1,zero_add→E5,lt_succ_of_lt→E7,ne_of_lt→E8,lt_succ_self→F3,strongRecOn→F5,lt_trans→G0
open Option renaming map_eq_some_iff→A4,map_some→D6,bind_some→E9
open Array renaming getD_eq_getD_getElem?→A3,replicate→B6,getElem?_eq_some_iff→B7,getElem?_append_left→B9,getElem?_eq_getElem→C0,getElem?_replicate→D2,all_eq_true→E4
open Bool renaming and_eq_true→A0,false_eq_true→C1,not_eq_true'→C2,or_eq_true→D8
open Iff renaming rfl→G1
namespace Go.Eng
section
open Go.RowKit
section
variable{P:Program} {T:TypeId->cW} {w0:dE} {X:Nat->Prop} {H:Nat->bJ} {β:Nat->Option Nat} {w:World} {a:Act} {o:Oper} {g:Operand->LV} {E:Nat->Prop}
theorem Qw{s:Nat}{b c:List DV}{k:Nat}(a:∀x∈b,(aQ x).length=s)(d:∀y∈c,(aQ y).length=s)(e:k+c.length<=b.length):bZ (bE k b c)=bE (k*s) (bZ b) (bZ c):=by
 unfold bE;rw[qT,qT,jW a,xQ a,flat_len d,C9]
theorem dV.writeRow(m:dV w0 X H β w){id b s:Nat}{z:List DV}{c:Array Value}{e:TypeId}(K:H id=.row false s z)(B:β id=some b)(g:w.heap[b]? =some (.cells c e (0,0))){k:Nat}{q:List DV}{a:List Value}
 (x:∀y∈q,(aQ y).length=s)(G:k+q.length<=z.length)(N:a.length=q.length*s)(S:∀u∈a,u.oneCell'=true)
 (U:∀(i:Nat) (d:DV) (u:Value),(bZ q)[i]? =some d->a[i]? =some u->RD w (Ex X β H) d u):
 dV w0 X (cQ H id (.row false s (bE k z q))) β (w.setRow b (bE (k*s) c.toList a).toArray)/\fB X H β w (cQ H id (.row false s (bE k z q))) β (w.setRow b (bE (k*s) c.toList a).toArray)/\
  k*s+a.length<=c.size/\(w.setRow b (bE (k*s) c.toList a).toArray).heap[b]? =some (.cells (bE (k*s) c.toList a).toArray e (0,0))/\(bE (k*s) c.toList a).toArray.size=c.size:=by
 have p:=m.obj id;simp only[dS,K]at p;obtain⟨E,j,p⟩:=p;rcases p with⟨r,_⟩|⟨V,Q,O,o,f,l,D⟩
 .rw[r]at B;cases B
 rw[B]at o;injection o with o;subst o
 rw[g]at f;injection f with f;injection f with p1 p2;subst p1;subst p2
 have P:k*s+q.length*s<=c.size:=by
  rw[<-C9];exact Nat.le_trans (E0 _ G) l
 have L:c.toList.length=c.size:=bA;have t:(bE (k*s) c.toList a).toArray.size=c.size:=by rw[D0,fC aD];exact L
 have F:(bE k z q).length=z.length:=fC G;have M:=flat_len j;have C:=flat_len x;have:=m.rewrite (id:=id) (b:=b) (o':=.row false s (bE k z q)) (cur':=(bE (k*s) c.toList a).toArray) (by rw[K];rfl) B g t
  (.inr ⟨_,_,_,K,rfl,by rw[F];exact B0 _⟩) (λJ _=>by
    unfold dS;rw[aW];refine⟨E,Ao j x,.inr ⟨b,e,_,B,setRow_heap w b _ _ e (0,0) g,by rw[t,F];exact l,λi d v A n=>?_⟩⟩;rw[Qw j x G,gQ (by rw[M,C,<-C9];exact E0 _ G),C]at A;simp only[List.getElem?_toArray]at n;rw[gQ aD,N]at n;split at A
    .rename_i h;rw[if_pos h]at n;have:=D i d v A (by simpa using n);exact⟨this.1,J _ _ this.2⟩
    .rename_i h;rw[if_neg h]at n;split at A
     .rename_i I;rw[if_pos I]at n;exact⟨S v (A6 n),J _ _ (U _ d v A n)⟩
     .rename_i I;rw[if_neg I]at n;have:=D i d v A (by simpa using n);exact⟨this.1,J _ _ this.2⟩)
 exact⟨this.1,this.2,aD,setRow_heap w b _ _ e (0,0) g,t⟩
theorem DI{id:Nat}{a:bJ}(h:H id=a):cQ H id a=H:=by
 funext j;unfold cQ;split
 .rename_i e;rw[e,h]
 .rfl
theorem DJ{α:Type}{k:Nat}{a:List α}:bE k a []=a:=by simp[bE]
theorem Aq(m:dV w0 X H β w){id k n s:Nat}{z:Bool}{q:List DV}{v:Value}(o:H id=.row z s q)(D:R w (Ex X β H) β H (.ow id k n) v):
 (∃b c i e,v=.slice (some ⟨b,k*s,none⟩) n c/\β id=some b/\k+n<=q.length/\n<=c/\c<=maxLen/\w.heap[b]? =some (.cells i e (0,0))/\(k+c)*s=i.size/\q.length<=k+c)\/(∃p,v=.slice p 0 0/\n=0/\q.length<=k):=by
 have h:=m.obj id;simp only[dS,o]at h;obtain⟨j,x,h⟩:=h;cases D with
 |ow _ _ _ b c _ _ _ i e' hH' hb hkn hn hc hblk hroom=>
  rw[o]at hH';injection hH' with _ q1 q2;subst q1;subst q2
  refine .inl ⟨b,c,i,e',rfl,hb,hkn,hn,hc,hblk,hroom,?_⟩;rcases h with⟨g,_⟩|⟨y,r,l,d,a,f,_⟩
  .rw[g]at hb;cases hb
  .rw[hb]at d;injection d with d;subst d
   rw[hblk]at a;injection a with a;injection a with p1 p2;subst p1
   rw[<-hroom]at f;exact C6 f j
 |ow0 _ _ b _ _ _ hH' hk'=>
  rw[o]at hH';injection hH' with _ q1 q2;subst q1;subst q2
  refine .inr ⟨b,rfl,rfl,?_⟩;rcases h with⟨g,C⟩|⟨y,r,l,d,a,f,_⟩
  .rw[C];exact E1 _
  .rcases hk' with⟨t,_⟩|⟨E,u,F,t,A,B,_⟩
   .rw[t]at d;cases d
   .rw[t]at d;injection d with d;subst d
    rw[A]at a;injection a with a;injection a with p1 p2;subst p1
    rw[<-B]at f;exact C6 f j
 |owdead _ _ _ _ hd=>rw[o]at hd;cases hd
theorem IN(m:dV w0 X H β w){id k n c s:Nat}{y:Bool}{t:List DV}{v:Value}(q:H id=.row y s t)(A:R w (Ex X β H) β H (.oc id k n c) v):
 ∃p,v=.slice p n c/\n<=c/\k+c<=t.length/\c<=maxLen/\(c=0\/∃b i e,p=some ⟨b,k*s,none⟩/\β id=some b/\w.heap[b]? =some (.cells i e (0,0))/\t.length*s<=i.size):=by
 have d:=m.obj id;simp only[dS,q]at d;obtain⟨x,u,d⟩:=d;cases A with
 |oc _ _ _ _ p _ _ _ hH' hn hkc hc r=>
  rw[q]at hH';injection hH' with _ q1 q2;subst q1;subst q2
  refine⟨p,rfl,hn,hkc,hc,?_⟩;rcases r with r|⟨b,l,z⟩
  .exact .inl r
  .rcases d with⟨h,_⟩|⟨B,o,j,a,f,g,_⟩
   .rw[h]at l;cases l
   .rw[l]at a;injection a with a;subst a
    exact .inr ⟨b,j,o,z,l,f,g⟩
 |ocdead _ _ _ _ _ hd=>rw[q]at hd;cases hd
theorem IP(hT:fW P T)(m:dV w0 X H β w)(hg:∀x,R w (Ex X β H) β H (g x) (a.eval x)){t u:TypeId}{s x:Operand}(ho:o.op=.call {callee:=.builtin .append,args:= #[s,x],argTypes:= #[t,u]})
 (hu:t=u\/(T u).k.isStr=true)(ht:∀e,(T t).k=.slice e->(T e).k.isNone=false)(f:(fY T H t (g s) (g x)).ok):lT P w0 X H β w a o (fY T H t (g s) (g x)):=by
 have O:=hg s;have hx:=hg x;generalize g s=ls at*;generalize g x=lx at*;unfold fY at*;split at f
 .rename_i e K id k n hk hy;split at f
  .rename_i sz xs M;simp only at f|-;obtain⟨Q,J,a1⟩:=f;subst Q;have A:=hT.slice hk;obtain⟨a4,d0,z,h1,h2,h3,h4,h5,h6,h7⟩:=hT.parts (ht e hk);have S:∃d,P.underlying u=some d/\∀k,d≠ .int k:=by
    rcases hu with rfl|hu
    .exact⟨_,A,λk=>bA⟩
    .have:(T u).k=.str:=by cases q:(T u).k<;>simp_all[TK.isStr]
     exact⟨_,hT.str this,λk=>bA⟩
   obtain⟨d,G,C⟩:=S;obtain⟨i,W,L,Y,Z,e5⟩:=xS (P:=P) m hx hy J;rw[<-h4]at L;generalize I:a.eval s=vs at O;rcases Aq m M O with⟨b,c,B,V,rfl,hb,a2,hn,hc,j,y,a0⟩|⟨p,rfl,rfl,a3⟩
   .have D:n+K.length<=c:=aD;obtain⟨m2,g2,hf,l,F⟩:=m.writeRow M hb j (k:=k+n) J aD Y Z e5;have h:=kM (P:=P) (w:=w) (ty:=o.type) (base:=some ⟨b,k*(T e).size,none⟩) (sLen:=n) (sCap:=c) A G C h1 W L D;have E:=run_storeCells_at P b (k*(T e).size+n*(T e).size) V i 0 B w j (by rw[<-C9];omega) Z;refine cV (v:=.slice (some ⟨b,k*(T e).size,none⟩) (n+K.length) c) (w':=w.setRow b (bE ((k+n)*(T e).size) B.toList i).toArray) (β':=β) (lU ho ?_) (by simp only[cJ];exact m2) (by simp only[cJ];exact g2) ?_
    .rw[I,h];simp only[Addr.add_lit,h4];simp only[D5]at E;rw[E,C9];rfl
    .simp only[cJ];exact R.ow _ k (n+K.length) b c false (T e).size (bE (k+n) xs K) _ V (by rw[aW]) hb (by rw[fC aD];omega) D hc l (by rw[F];exact y)
   .have U:K=[]:=B2 aD;subst U;have N:i=[]:=B2 (by simpa using Y);subst N;have h:=kM (P:=P) (w:=w) (ty:=o.type) (base:=p) (sLen:=0) (sCap:=0) A G C h1 W L (B0 _);have r:cD H [(id,bJ.row false (T e).size (bE (k+0) xs []))]=H:=by rw[cJ,DJ];exact DI M
    refine cV (v:=.slice p 0 0) (w':=w) (β':=β) (lU ho ?_) (by simp only[r];exact m) (by simp only[r];exact fB.refl) (by simp only[r];exact O);rw[I,h];cases p<;>simp[storeCells]
  .exact f.elim
 .exact f.elim
theorem Xl(hT:fW P T)(m:dV w0 X H β w)(c:∀x,R w (Ex X β H) β H (g x) (a.eval x)){t u:TypeId}{s x:Operand}(d:o.op=.call {callee:=.builtin .copy,args:= #[s,x],argTypes:= #[t,u]})
 (f:∀e,(T t).k=.slice e->(T e).k.isNone=false)(b:(sD T H t (g s) (g x)).ok):lT P w0 X H β w a o (sD T H t (g s) (g x)):=by
 exact(show False from b).elim
theorem Tf(hT:fW P T)(m:dV w0 X H β w)(c:∀x,R w (Ex X β H) β H (g x) (a.eval x)){t u:TypeId}{s x:Operand}(d:o.op=.call {callee:=.builtin .copy,args:= #[s,x],argTypes:= #[t,u]})
 (f:∀e,(T t).k=.slice e->(T e).k.isNone=false)(b:(pP T H t (g s) (g x)).ok):lT P w0 X H β w a o (pP T H t (g s) (g x)):=by
 exact(show False from b).elim
theorem Tg(hT:fW P T)(m:dV w0 X H β w)(U:∀x,R w (Ex X β H) β H (g x) (a.eval x)){t u:TypeId}{s x:Operand}(ho:o.op=.call {callee:=.builtin .copy,args:= #[s,x],argTypes:= #[t,u]})
 (ht:∀e,(T t).k=.slice e->(T e).k.isNone=false)(h:(fP T H t (g s) (g x)).ok):lT P w0 X H β w a o (fP T H t (g s) (g x)):=by
 have W:=U s;have hx:=U x;generalize g s=ls at*;generalize g x=lx at*;unfold fP at*;split at h
 .rename_i e id k n c bs hk;split at h
  .rename_i Q B;simp only[B]at h|-;obtain⟨a1,a2,S⟩:=h;have L:=hT.slice hk;have K:=cR (P:=P) (w:=w) hT (ht e hk);have N:=hx.str;generalize M:a.eval s=vs at W;have C:=m.obj id;simp only[dS,B]at C;obtain⟨b,F,O,G,j,z,Y,hp⟩:=C;cases W with
   |sbdead _ _ _ _ _ hd=>rw[B]at hd;cases hd
   |sb _ _ _ _ p b' fz' cs' hH' hb' hn q ha=>
    obtain rfl:p=some ⟨b',k,none⟩:=ha.resolve_left aD;rw[G]at hb';injection hb' with hb';subst hb'
    obtain⟨d,f⟩:∃d:List Value,d=(bs.take n).map λc=>.int .u8 c.toNat:=⟨_,rfl⟩;have hl:d.length=(bs.take n).length:=by rw[f,B5]
    have a0:(bs.take n).length<=n:=(by rw[D3];exact Nat.min_le_left _ _);have l:k+(tB (bs.take n)).length<=Q.length:=by unfold tB;rw[B5];omega
    have A:∀u∈d,u.oneCell'=true:=by rw[f];intro u hu;obtain⟨c,_,rfl⟩:=List.mem_map.1 hu;rfl
    have D:=run_storeCells_at P b k F d 0 O.toArray w j (by rw[D0];omega) A;have:=m.rewrite (id:=id) (b:=b) (o':=.box false (bE k Q (tB (bs.take n)))) (cur':=(bE k O d).toArray) (by rw[B];rfl) G j
     (by simp only[D0];exact fC aD) (.inl ⟨_,_,B,rfl⟩) (λ_ Z=>by
       unfold dS;rw[aW];refine⟨b,F,_,G,setRow_heap w b _ _ F (0,0) j,by rw[fC aD,fC l];exact z,Ao Y A,?_⟩;refine Du z (by rw[hl];unfold tB;rw[B5]) l (λi c v q E=>Z _ _ (hp i c v q E)) (λi c v q E=>?_);rw[f,E3]at E;unfold tB at q;rw[E3]at q;cases V:(bs.take n)[i]? with
       |none=>rw[V]at q;cases q
       |some y=>rw[V]at q E;cases q;cases E;exact .d _ _ (.int _ _))
    have I:((⟨bs.toArray⟩:ByteArray).extract 0 (min bs.length n)).data.toList.map (λc=>Value.int .u8 c.toNat)=d:=by
     rw[f];have:((⟨bs.toArray⟩:ByteArray).extract 0 (min bs.length n)).data.toList=bs.take n:=by
      simp[ByteArray.data_extract,List.take_take,Nat.min_comm]
     rw[this]
    refine cV (v:=.int .i64 (min bs.length n:Nat)) (w':=w.setRow b (bE k O d).toArray) (β':=β) ?_ (by simp only[cJ];exact this.1) (by simp only[cJ];exact this.2) (cY _ _);simp only[D5]at D;have r:(Builtin.lenOf (.string ⟨bs.toArray⟩)).run P w=.ok bs.length w:=by simp[Builtin.lenOf,ByteArray.size]
    have J:(Builtin.firstCells (T e).size (min bs.length n) (.string ⟨bs.toArray⟩)).run P w=.ok d.toArray w:=by
     simp only[Builtin.firstCells,Sem.run_pure];rw[<-I];simp
    simp[execOp,ho,resolve,invoke,builtin,Builtin.copy_,run_underlying L,M,N,r,K,J,D,goInt,bE]
  .exact h.elim
 .exact h.elim
theorem vE{t:cW}(h:t.k.agg=false->t.zero.length=1):aQ (lF t)=t.zero.map uT:=by
 unfold lF;cases q:t.k.agg with
 |true=>rfl
 |false=>
  match a:t.zero,h q with
  |[u],_=>
   simp only[C1,if_false,A2,A9,List.getD_cons_zero];unfold uT;split<;>rfl
theorem Ob(hT:fW P T){e:TypeId}(h:(T e).k.isNone=false){z:Value}(s:z.cells.toList=(T e).zero)(n:Nat){a:Array Value}(y:∀i,i<n*(T e).size->a[i]? =some (z.cells[i%z.cells.size]!)):
 ∀(i:Nat) (d:DV) (u:Value),(bZ (A7 n (lF (T e))))[i]? =some d->a[i]? =some u->u.oneCell'=true/\RD w E d u:=by
 intro i d u j k;obtain⟨D,F,G,v⟩:=(hT e h).zv;have r:=(hT e h).len;have q:=(hT e h).one;have p:z.cells.size=(T e).size:=by rw[<-r,<-s];simp
 have g:=vE v;have b:∀x∈A7 n (lF (T e)),(aQ x).length=(T e).size:=λx C=>by rw[(C7.1 C).2,g,B5,r]
 have m:i<n*(T e).size:=by have:=(A8.1 j).1;rw[flat_len b,List.length_replicate]at this;exact this
 have c:0<(T e).size:=by rcases C8 (T e).size with h|h;rw[h]at m;omega;exact h
 rw[y i m,p]at k;injection k with k
 have A:=Nat.mod_lt i c;have l:i / (T e).size*(T e).size+i%(T e).size=i:=by rw[Nat.mul_comm];exact Nat.div_add_mod _ _
 rw[<-l,IE b _ _ A]at j;have B:i / (T e).size<n:=(Nat.div_lt_iff_lt_mul c).2 m;rw[List.getElem?_replicate,if_pos B]at j;simp only[E9,g]at j;obtain⟨t,f,rfl⟩:=eJ j;have o:u=t:=by
  rw[<-k];have:z.cells[i%(T e).size]? =some t:=by rw[<-s]at f;simpa using f
  simp[getElem!_def,this]
 subst o;have:=q u (A6 f);exact⟨this,DG u this⟩
theorem Th(hT:fW P T)(m:dV w0 X H β w)(hg:∀x,R w (Ex X β H) β H (g x) (a.eval x)){t:TypeId}{x:Operand}(ho:o.op=.call {callee:=.builtin .clear,args:= #[x],argTypes:= #[t]})
 (K:∀e,(T t).k=.slice e->(T e).k.isNone=false)(f:(lM T H t (g x)).ok):lT P w0 X H β w a o (lM T H t (g x)):=by
 have W:=hg x;generalize g x=ls at*;unfold lM at*;split at f
 .rename_i e id k n hk;split at f
  .rename_i sz xs J;simp only at f|-;obtain⟨S,A⟩:=f;subst S;have r:=hT.slice hk;obtain⟨a6,d0,z,h1,h2,Y,h4,h5,h6,Z⟩:=hT.parts (K e hk);have Y:=(hT e (K e hk)).zv.choose_spec.2.2;have hl:=(hT e (K e hk)).len;have G:z.cells.size=(T e).size:=by rw[<-hl,<-Z];simp
   generalize s:a.eval x=vs at W;have V:(zeroValue e).run P w=.ok z w:=by simp[zeroValue,typeInfo,h1,h6]
   rcases C8 n with C|C
   .subst C;have B:cD H [(id,bJ.row false (T e).size (bE k xs (A7 0 (lF (T e)))))]=H:=by rw[cJ];exact DI (by rw[J,E2,DJ])
    refine cV (v:=.tuple #[]) (w':=w) (β':=β) ?_ (by simp only[B];exact m) (by simp only[B];exact fB.refl) (.tup [] [] rfl bA);rcases Aq m J W with⟨b,c,q,e',rfl,L,a4,hn,hc,h,Q,a0⟩|⟨p,rfl,_,a5⟩
    .simp[execOp,ho,resolve,invoke,builtin,Builtin.clear_,run_underlying r,s]
    .cases p<;>simp[execOp,ho,resolve,invoke,builtin,Builtin.clear_,run_underlying r,s]
   .rcases Aq m J W with⟨b,c,q,e',rfl,L,a4,hn,hc,h,Q,a0⟩|⟨p,rfl,rfl,a5⟩
    .have N:∀i,i<n*(T e).size->(Builtin.zeroCells z.cells n)[i]? =some (z.cells[i%z.cells.size]!):=λi O=>by
      simp[Builtin.zeroCells,G,O]
     have I:=Ob (P:=P) (w:=w) (E:=Ex X β H) hT (K e hk) Z n N;have F:(Builtin.zeroCells z.cells n).toList.length=(A7 n (lF (T e))).length*(T e).size:=by simp[size_zeroCells,G]
     have j:∀y∈A7 n (lF (T e)),(aQ y).length=(T e).size:=λy hy=>by rw[(C7.1 hy).2,vE Y,B5,hl]
     have l:∀u∈(Builtin.zeroCells z.cells n).toList,u.oneCell'=true:=λu U=>by
      obtain⟨i,O,rfl⟩:=C5 U;rw[F]at O;have a2:=flat_len j;exact(I i ((bZ (A7 n (lF (T e))))[i]'aD) _ (A1 _) bA).1
     obtain⟨m2,g2,hf,M,a1⟩:=m.writeRow J L h (k:=k) j (by simpa using A) F l (λi d u hd U=>(I i d u hd (by simpa using U)).2);have D:=run_storeCells_at P b (k*(T e).size) e' (Builtin.zeroCells z.cells n).toList 0 q w h aD l;simp only[D5]at D;refine cV (v:=.tuple #[]) (w':=w.setRow b (bE (k*(T e).size) q.toList (Builtin.zeroCells z.cells n).toList).toArray) (β':=β) ?_ (by simp only[cJ];exact m2) (by simp only[cJ];exact g2) (.tup [] [] rfl bA);obtain⟨n',rfl⟩:∃n',n=n'+1:=⟨n-1,aD⟩;simp[execOp,ho,resolve,invoke,builtin,Builtin.clear_,run_underlying r,s,V,D,bE]
    .omega
  .exact f.elim
 .rename_i e id k n c hk;split at f
  .rename_i sz xs J;simp only at f|-;obtain⟨S,A⟩:=f;subst S;have r:=hT.slice hk;obtain⟨a6,d0,z,h1,h2,Y,h4,h5,h6,Z⟩:=hT.parts (K e hk);have Y:=(hT e (K e hk)).zv.choose_spec.2.2;have hl:=(hT e (K e hk)).len;have G:z.cells.size=(T e).size:=by rw[<-hl,<-Z];simp
   generalize s:a.eval x=vs at W;have V:(zeroValue e).run P w=.ok z w:=by simp[zeroValue,typeInfo,h1,h6]
   rcases C8 n with C|C
   .subst C;have B:cD H [(id,bJ.row false (T e).size (bE k xs (A7 0 (lF (T e)))))]=H:=by rw[cJ];exact DI (by rw[J,E2,DJ])
    refine cV (v:=.tuple #[]) (w':=w) (β':=β) ?_ (by simp only[B];exact m) (by simp only[B];exact fB.refl) (.tup [] [] rfl bA);obtain⟨p,rfl,hn,a3,hc,L⟩:=IN m J W;cases p<;>simp[execOp,ho,resolve,invoke,builtin,Builtin.clear_,run_underlying r,s]
   .obtain⟨p,rfl,hn,a3,hc,L⟩:=IN m J W;rcases L with a8|⟨b,q,e',rfl,L,h,a7⟩
    .omega
    .have N:∀i,i<n*(T e).size->(Builtin.zeroCells z.cells n)[i]? =some (z.cells[i%z.cells.size]!):=λi O=>by
      simp[Builtin.zeroCells,G,O]
     have I:=Ob (P:=P) (w:=w) (E:=Ex X β H) hT (K e hk) Z n N;have F:(Builtin.zeroCells z.cells n).toList.length=(A7 n (lF (T e))).length*(T e).size:=by simp[size_zeroCells,G]
     have j:∀y∈A7 n (lF (T e)),(aQ y).length=(T e).size:=λy hy=>by rw[(C7.1 hy).2,vE Y,B5,hl]
     have l:∀u∈(Builtin.zeroCells z.cells n).toList,u.oneCell'=true:=λu U=>by
      obtain⟨i,O,rfl⟩:=C5 U;rw[F]at O;have a2:=flat_len j;exact(I i ((bZ (A7 n (lF (T e))))[i]'aD) _ (A1 _) bA).1
     obtain⟨m2,g2,hf,M,a1⟩:=m.writeRow J L h (k:=k) j (by simpa using A) F l (λi d u hd U=>(I i d u hd (by simpa using U)).2);have D:=run_storeCells_at P b (k*(T e).size) e' (Builtin.zeroCells z.cells n).toList 0 q w h aD l;simp only[D5]at D;refine cV (v:=.tuple #[]) (w':=w.setRow b (bE (k*(T e).size) q.toList (Builtin.zeroCells z.cells n).toList).toArray) (β':=β) ?_ (by simp only[cJ];exact m2) (by simp only[cJ];exact g2) (.tup [] [] rfl bA);obtain⟨n',rfl⟩:∃n',n=n'+1:=⟨n-1,aD⟩;simp[execOp,ho,resolve,invoke,builtin,Builtin.clear_,run_underlying r,s,V,D,bE]
  .exact f.elim
 .exact f.elim
theorem Xm(hT:fW P T)(m:dV w0 X H β w)(f:∀x,R w (Ex X β H) β H (g x) (a.eval x)){t:TypeId}{n c:Operand}{b:Nat}(h:o.op=.makeSlice t n c)
 (i:∀e,(T t).k=.slice e->(T e).k.isNone=false)(d:(Aj T H b t (g n) (g c)).ok):lT P w0 X H β w a o (Aj T H b t (g n) (g c)):=by
 exact(show False from d).elim
theorem Ze(hT:fW P T)(m:dV w0 X H β w)(j:∀x,R w (Ex X β H) β H (g x) (a.eval x)){t:TypeId}{x:Operand}{f c b:Option Operand}(k:o.op=.slice t x f c b)
 (l:∀e,(T t).k=.slice e->(T e).k.isNone=false)(i:b.isSome=true)(h:b.isSome=true->c.isSome=true)(d:(xK T H t (g x) (f.map g) (c.map g) (b.map g)).ok):lT P w0 X H β w a o (xK T H t (g x) (f.map g) (c.map g) (b.map g)):=by
 exact(show False from d).elim
theorem Xn(m:dV w0 X H β w)(f:∀x,R w (Ex X β H) β H (g x) (a.eval x)){c:BinOp}{t u:TypeId}{x y:Operand}(h:o.op=.binOp c t x y u)(b:(uU c (g x) (g y)).ok):lT P w0 X H β w a o (uU c (g x) (g y)):=by
 have d:=f x;have e:=f y;generalize g x=lx at*;generalize g y=ly at*;unfold uU at*;split at b
 .rename_i k n i j;have d:=d.int;have e:=e.int;cases c<;>simp only[kJ.cond]at b|-<;>first|(exact b.elim)|skip
  all_goals
   subst b;exact lT.plain m (by simp[execOp,h,d,e,Bj,binOp,Op.intArith]) (cY _ _)
 .exact b.elim
theorem FM(m:dV w0 X H β w){l:LV}{v:Value}(a:R w (Ex X β H) β H l v){n:Nat}(h:IB H l=some n):∃b c,v=.slice b n c/\n<=c/\c<=maxLen/\(b=none->n=0):=by
 unfold IB at h;split at h
 .injection h with h;subst h
  cases a with
  |d _ _ a=>cases a with
   |sl0 b c hc=>exact⟨b,c,rfl,E1 _,hc,λ_=>rfl⟩
   |sl _ b off c _ _ hx _ _ hlen hc=>exact⟨_,c,rfl,hlen,hc,λh=>by cases h⟩
 .injection h with h;subst h
  cases a with|nl b=>exact⟨b,0,rfl,B0 _,E1 _,λ_=>rfl⟩
 .rename_i id k n';split at h
  .rename_i e;injection h with h;subst h
   cases a with
   |ow _ _ _ b c _ _ _ _ _ _ _ _ hn hc=>exact⟨_,c,rfl,hn,hc,λh=>by cases h⟩
   |ow0 _ _ b=>exact⟨b,0,rfl,B0 _,E1 _,λ_=>rfl⟩
   |owdead _ _ _ _ hd=>rw[hd]at e;cases e
  .cases h
 .cases h
theorem Zf(hT:fW P T)(m:dV w0 X H β w)(F:∀x,R w (Ex X β H) β H (g x) (a.eval x)){z:BinOp}{t u:TypeId}{x y:Operand}(B:o.op=.binOp z t x y u)(r:Dm y=true){e b:Bool}(d:(nQ T H t e b z (g x)).ok):
 ∃A,(A=true->e=true)/\lT P w0 X H β w a o (nQ T H t e A z (g x)):=by
 have C:=F x;generalize g x=lx at*;have s:y=.const (.slice none 0 0):=by
  unfold Dm at r;split at r
  .rfl
  .cases r
 subst s;have f:a.eval (.const (.slice none 0 0))=.slice none 0 0:=rfl;unfold nQ at d;split at d
 .rename_i k n i j;obtain⟨p,c,q,D,E,l⟩:=FM m C j;simp only[kJ.cond]at d;refine⟨p.isNone,λh=>d (l (by cases p<;>simp_all)),?_⟩;unfold nQ;simp only[i,j,kJ.cond];refine lT.plain m (v:=.bool p.isNone) ?_ (dW _);have:=Lib.run_eql_slice_nil (P:=P) w t k p n c 0 0 (hT.slice i);cases p<;>simp[execOp,B,q,f,eqGuard,this]
 .rename_i k n i j;obtain⟨p,c,q,D,E,l⟩:=FM m C j;simp only[kJ.cond]at d;refine⟨p.isNone,λh=>d (l (by cases p<;>simp_all)),?_⟩;unfold nQ;simp only[i,j,kJ.cond];refine lT.plain m (v:=.bool (!p.isNone)) ?_ (dW _);have:=run_neq_slice_nil_any (P:=P) w t k p n c 0 0 (hT.slice i);cases p<;>simp[execOp,B,q,f,eqGuard,this]
 .exact d.elim
theorem Zg(hT:fW P T)(m:dV w0 X H β w)(f:∀x,R w (Ex X β H) β H (g x) (a.eval x)){t:TypeId}{x:Operand}(h:o.op=.call {callee:=.builtin .cap,args:= #[x],argTypes:= #[t]}){e c:Nat}(d:(xL T H t e c (g x)).ok):
 ∃b,e<=b/\b<=maxLen/\lT P w0 X H β w a o (xL T H t e b (g x)):=by
 exact(show False from d).elim
theorem Xo(hT:fW P T)(m:dV w0 X H β w)(c:∀x,R w (Ex X β H) β H (g x) (a.eval x)){t:TypeId}{x:Operand}(d:o.op=.call {callee:=.builtin .cap,args:= #[x],argTypes:= #[t]})(b:(sE T H t (g x)).ok):
 lT P w0 X H β w a o (sE T H t (g x)):=by
 exact(show False from b).elim
theorem LD(hT:fW P T)(m:dV w0 X H β w)(d:∀x,R w (Ex X β H) β H (g x) (a.eval x)){t u:TypeId}{s x:Operand}{b:Nat}(f:o.op=.call {callee:=.builtin .append,args:= #[s,x],argTypes:= #[t,u]})
 (i:t=u\/(T u).k.isStr=true)(h:∀e,(T t).k=.slice e->(T e).k.isNone=false)(c:(lJ T H b t (g s) (g x)).ok):lT P w0 X H β w a o (lJ T H b t (g s) (g x)):=by
 exact(show False from c).elim
theorem LE(hT:fW P T)(m:dV w0 X H β w)(d:∀x,R w (Ex X β H) β H (g x) (a.eval x)){t u:TypeId}{s x:Operand}{b:Nat}(f:o.op=.call {callee:=.builtin .append,args:= #[s,x],argTypes:= #[t,u]})
 (i:(T u).k.isInt=true)(h:∀e,(T t).k=.slice e->(T e).k.isNone=false)(c:(lL T H b t (g s) (g x)).ok):lT P w0 X H β w a o (lL T H b t (g s) (g x)):=by
 exact(show False from c).elim
theorem LF(hT:fW P T)(m:dV w0 X H β w)(i:∀x,R w (Ex X β H) β H (g x) (a.eval x)){t u:TypeId}{s x:Operand}{b h c:Nat}(j:o.op=.call {callee:=.builtin .append,args:= #[s,x],argTypes:= #[t,u]})
 (l:t=u\/(T u).k.isStr=true)(k:∀e,(T t).k=.slice e->(T e).k.isNone=false)(f:(lK T H b t h c (g s) (g x)).ok):∃d,h<=d/\d<=maxLen/\lT P w0 X H β w a o (lK T H b t h d (g s) (g x)):=by
 exact(show False from f).elim
theorem LG(hT:fW P T)(m:dV w0 X H β w)(j:∀x,R w (Ex X β H) β H (g x) (a.eval x)){t u:TypeId}{s x:Operand}{b f c:Nat}{v:Value}(k:o.op=.call {callee:=.builtin .append,args:= #[s,x],argTypes:= #[t,u]})
 (n:t=u\/(T u).k.isStr=true)(l:∀e,(T t).k=.slice e->(T e).k.isNone=false)(d:(nX T H b t f c v (g s) (g x)).ok){h:kJ->Prop}(i:∀c v,f<=c->c<=maxLen->h (nX T H b t f c v (g s) (g x))):SK P w0 X H β w a o h:=by
 exact(show False from d).elim
theorem LH(hT:fW P T)(m:dV w0 X H β w)(f:∀x,R w (Ex X β H) β H (g x) (a.eval x)){t u:TypeId}{s x:Operand}{b c:Nat}(h:o.op=.call {callee:=.builtin .append,args:= #[s,x],argTypes:= #[t,u]})
 (j:t=u\/(T u).k.isStr=true)(i:∀e,(T t).k=.slice e->(T e).k.isNone=false)(d:(nY T H b t c (g s) (g x)).ok):lT P w0 X H β w a o (nY T H b t c (g s) (g x)):=by
 exact(show False from d).elim
theorem Ti(hT:fW P T)(m:dV w0 X H β w)(d:∀x,R w (Ex X β H) β H (g x) (a.eval x)){f:Operand}{args:Array Operand}{c:Array TypeId}(e:o.op=.call {callee:=.value f,args:=args,argTypes:=c})
 (b:(pQ P T H (g f) (args.toList.map g)).ok):lT P w0 X H β w a o (pQ P T H (g f) (args.toList.map g)):=by
 exact(show False from b).elim
end
end
section
open Go.RowKit
structure Cd(T:TypeId->cW):Prop where
 eqk:∀t,(T t).eqk≠[]->(T t).k.isNone=false
 slice:∀t e,(T t).k=.slice e->(T e).k.isNone=false
 arr:∀t n e,(T t).k=.arr n e->(T e).k.isNone=false
 struct:∀t fs,(T t).k=.struct fs->∀p∈fs,(T p.2).k.isNone=false
section
variable{P:Program} {T:TypeId->cW} {w0:dE} {X:Nat->Prop} {H:Nat->bJ} {β:Nat->Option Nat} {w:World} {a:Act} {o:Oper} {g:Operand->LV} {E:Nat->Prop}
theorem IQ(m:dV w0 X H β w)(y:∀x,R w (Ex X β H) β H (g x) (a.eval x)){x:Operand}(t:o.op=.nilCheck x){r:Option jU}(c:(cC P T H g r o).ok):lT P w0 X H β w a o (cC P T H g r o):=by
 have e:=y x;simp only[cC,t]at c|-;generalize g x=lx at*;generalize n:a.eval x=vx at e;have q:∀p,vx=.pointer (some p)->(execOp a.eval o).run P w=.ok (.value vx) w:=by
  intro p u;subst u;simp[execOp,t,n]
 have l:∀f i,vx=.func (.func f) #[] i->(execOp a.eval o).run P w=.ok (.value vx) w:=by
  intro f i u;subst u;simp[execOp,t,n]
 split at c
 .rename_i id v;simp only[kJ.cond]at c|-;have h:=e;cases e with
  |bx _ _ b=>exact lT.plain m (q _ rfl) h
  |bxdead _ _ _ hd=>rw[hd]at c;cases c
 .rename_i id k j;simp only[kJ.cond]at c|-;have h:=e;cases e with
  |rp _ _ _ b=>exact lT.plain m (q _ rfl) h
  |rpdead _ _ _ _ hd=>rw[hd]at c;cases c
 .have h:=e;cases e with
  |d _ _ e=>
   obtain⟨b,v,s⟩:=e.ro_form;exact lT.plain m (q _ s) h
 .have h:=e;cases e with
  |d _ _ e=>
   have:∃f i,vx=.func (.func f) #[] i:=by cases e;exact⟨_,_,rfl⟩
   obtain⟨f,i,s⟩:=this;exact lT.plain m (l _ _ s) h
 .have h:=e;have:∃f i,vx=.func (.func f) #[] i:=by cases e;exact⟨_,_,rfl⟩
  obtain⟨f,i,s⟩:=this;exact lT.plain m (l _ _ s) h
 .exact c.elim
theorem Tj(hT:fW P T)(m:dV w0 X H β w)(M:∀x,R w (Ex X β H) β H (g x) (a.eval x)){t:TypeId}{x:Operand}(G:o.op=.sliceToArrayPointer t x)(f:(lR T H t (g x)).ok):lT P w0 X H β w a o (lR T H t (g x)):=by
 have r:=M x;unfold lR at*;split at f
 .rename_i n e U D s;rw[s]at r;simp only[kJ.cond]at f|-;obtain⟨K,F,L⟩:=f;generalize q:a.eval x=vx at r;cases r with
  |d _ _ r=>
   cases r with
   |sl0=>simp at F;omega
   |sl _ b off c size us hne hb hs hlen hc hul h1c hlt hcell hp=>
    obtain⟨J,S,rfl⟩:=List.exists_cons_of_ne_nil hne;have Q:size=(T e).size:=by rw[<-hs J bA];exact L J bA
    have z:=jW hs n;refine lT.plain m (v:=.pointer (some ⟨b,off,none⟩)) ?_ (.d _ _ (.ro _ b off (us.take (n*size)) hb ?_ (λu B=>h1c u (C3 B)) hlt (λj u C=>?_) λi d v y E=>?_))
    .have B:=hT.arr D;have h:¬(S.length+1<n):=by simpa using F
     simp[execOp,G,q,Instr.arrayAt,run_underlying B,h]
    .rw[z,D3,D3,flat_len hs,hul]
    .rw[B3]at C;split at C
     .exact hcell j u C
     .cases C
    .rw[z,B3]at y;rw[B3]at E;split at y
     .rename_i N;rw[if_pos N]at E;exact hp i d v y E
     .cases y
 .rename_i n e id k l c D s;rw[s]at r;simp only[kJ.cond]at f|-;generalize q:a.eval x=vx at r;have K:=r;cases r with
  |sbdead _ _ _ _ _ y=>rw[y]at f;cases f.2.2
  |sb _ _ _ _ p b fz cs hH hb hn hc ha=>
   obtain⟨O,A,I⟩:=f;obtain rfl:p=some ⟨b,k,none⟩:=ha.resolve_left aD;refine lT.plain m (v:=.pointer (some ⟨b,k,none⟩)) ?_ (.bx id k b fz cs hH hb);have B:=hT.arr D;have h:¬(l<n):=Nat.not_lt.2 A;simp[execOp,G,q,Instr.arrayAt,run_underlying B,h]
 .exact f.elim
theorem Qx(m:dV w0 X H β w)(k:∀x,R w (Ex X β H) β H (g x) (a.eval x)){x:Operand}(i:o.op=.assign x){r:Option jU}(c:(cC P T H g r o).ok):lT P w0 X H β w a o (cC P T H g r o):=by
 simp only[cC,i]at c|-;split at c
 .rename_i e h s n;simp only at c|-;have f:=c;have j:=k x;rw[h]at j;obtain⟨q,l⟩:=uY m n f;have d:∃b,a.eval x=.slice b 0 0:=by
   generalize a.eval x=v at j;cases j;exact⟨_,rfl⟩
  obtain⟨b,p⟩:=d;refine cV (v:=.slice b 0 0) (w':=w) (β':=cQ β (o.dst.getD 0) none) (by simp[execOp,i,p]) (by simp only[cJ];exact q) (by simp only[cJ];exact l) ?_;simp only[cJ];exact .ow0 _ 0 b false _ [] (by rw[aW]) (.inl ⟨by rw[aW],rfl⟩)
 .exact NY m k x (.inr i)
theorem DK(hT:fW P T)(hW:Cd T)(m:dV w0 X H β w)(z:∀x,R w (Ex X β H) β H (g x) (a.eval x)){r:Option jU}(F:xN r r)(I:∀A,xN r A->(cC P T H g A o).ok):SK P w0 X H β w a o (λL=>∃A,xN r A/\L=cC P T H g A o):=by
 have d:=I r F;have v:lT P w0 X H β w a o (cC P T H g r o)->SK P w0 X H β w a o (λL=>∃A,xN r A/\L=cC P T H g A o):=λh=>h.toE ⟨r,F,rfl⟩;cases j:o.op with
 |move x=>refine v ?_;simp only[cC,j]at d|-;exact NY m z x (.inl j)
 |assign x=>exact v (Qx m z j d)
 |pick c x y=>refine v ?_;simp only[cC,j]at d|-;exact Xe m z j d
 |alloc t=>refine v ?_;simp only[cC,j]at d|-;exact SS hT m j d
 |box t x=>refine v ?_;simp only[cC,j]at d|-;exact Zb m z j d
 |build t ps=>refine v ?_;simp only[cC,j]at d|-;exact SZ hT m z j (hW.struct t) (hW.arr t) d
 |buildSlice t n ps=>
  refine v ?_;simp only[cC,j]at d|-;by_cases h:BS r=true
  .rw[if_pos h]at d|-;exact Dy hT m z j (hW.slice t) d
  .rw[if_neg h]at d|-;exact Fq hT m z j (hW.slice t) d
 |load t x=>
  refine v ?_;simp only[cC,j]at d|-;by_cases h:(T t).k.isNone=true
  .rw[if_pos h]at d;exact d.elim
  .rw[if_neg h]at d|-;exact Xf hT m z j (by simpa using h) d
 |store t x y=>
  refine v ?_;simp only[cC,j]at d|-;by_cases h:(T t).k.isNone=true
  .rw[if_pos h]at d;exact d.elim
  .rw[if_neg h]at d|-;exact SU hT m z j (by simpa using h) d
 |nilCheck x=>exact v (IQ m z j d)
 |binOp op t x y u=>
  have W:(if(T t).k.isPtr then xJ op (g x) (g y)else aR (T t).eqk (T t).k.isBool op (g x) (g y)).ok->lT P w0 X H β w a o (if(T t).k.isPtr then xJ op (g x) (g y)else aR (T t).eqk (T t).k.isBool op (g x) (g y)):=λd=>by
   by_cases hp:(T t).k.isPtr=true
   .rw[if_pos hp]at d|-;exact Za hT m z j hp d
   .rw[if_neg hp]at d|-;exact YZ hT m z j d (hW.eqk t)
  cases r with
  |none=>refine v ?_;simp only[cC,j]at d|-;exact W d
  |some q=>cases q with
   |wrap=>refine v ?_;simp only[cC,j]at d|-;exact Xn m z j d
   |nil e b=>
    simp only[cC,j]at d;by_cases Y:Dm y=true
    .rw[if_pos Y]at d;obtain⟨b',B,D⟩:=Zf hT m z j Y d;refine D.toE ⟨_,⟨b',B,rfl⟩,?_⟩;simp only[cC,j,if_pos Y]
    .rw[if_neg Y]at d;exact d.elim
   |_=>refine v ?_;simp only[cC,j]at d|-;exact W d
 |unOp op t x=>refine v ?_;simp only[cC,j]at d|-;exact aAn m z j d
 |convert s t x=>refine v ?_;simp only[cC,j]at d|-;exact Xi hT m z j d
 |makeFunc fn first cs=>
  cases fn with
  |func f=>refine v ?_;simp only[cC,j]at d|-;exact IK m z j d
  |_=>simp only[cC,j]at d;exact d.elim
 |sliceToArrayPointer t x=>refine v ?_;simp only[cC,j]at d|-;exact Tj hT m z j d
 |slice t x lo G mx=>
  refine v ?_;simp only[cC,j]at d|-;by_cases h:(mx.isSome&& !G.isSome)=true
  .rw[if_pos h]at d;exact d.elim
  .rw[if_neg h]at d|-;by_cases K:(BS r&&mx.isSome)=true
   .rw[if_pos K]at d|-;exact Ze hT m z j (hW.slice t) (by simp at K;exact K.2) (λhm=>by cases G<;>simp_all) d
   rw[if_neg K]at d|-;exact SY hT m z j (hW.slice t) (λhm=>by cases G<;>simp_all) d
 |fieldAddr s x f=>refine v ?_;simp only[cC,j]at d|-;exact SV hT m z j (hW.struct s) d
 |field s x f=>refine v ?_;simp only[cC,j]at d|-;exact Xg hT m z j (hW.struct s) d
 |indexAddr t x i=>refine v ?_;simp only[cC,j]at d|-;exact Hm hT m z j (λe he=>he.elim (hW.slice t e) λ⟨n,hn⟩=>hW.arr t n e hn) d
 |index t x i=>refine v ?_;simp only[cC,j]at d|-;exact SW hT m z j (λe n=>hW.arr t n e) d
 |extract x i=>refine v ?_;simp only[cC,j]at d|-;exact Lv m z j d
 |makeMap t r=>
  cases r with
  |none=>refine v ?_;simp only[cC,j]at d|-;exact LC m j d
  |some _=>simp only[cC,j]at d;exact d.elim
 |lookup t x i ck=>refine v ?_;simp only[cC,j]at d|-;exact Qu hT hW.eqk m z j d
 |mapUpdate t x i y=>refine v ?_;simp only[cC,j]at d|-;exact FL hT hW.eqk m z (.inl j) d
 |insert t x i y=>refine v ?_;simp only[cC,j]at d|-;exact FL hT hW.eqk m z (.inr j) d
 |makeSlice t n c=>refine v ?_;simp only[cC,j]at d|-;exact Xm hT m z j (hW.slice t) d
 |range t x=>
  refine v ?_;simp only[cC,j]at d|-;split at d
  .rename_i kt et hk;exact Te hT m z j hk d
  .exact d.elim
 |call c=>
  obtain⟨J,C,O⟩:=c;cases J with
  |value f=>
   by_cases h:BS r=true
   .refine v ?_;simp only[cC,j]at d|-;rw[if_pos h]at d|-;exact Ti hT m z j d
   .have Z:∀A,xN r A->BS A=false:=λA E=>by
     cases r with
     |none=>rw[show A=none from E];rfl
     |some q=>cases q<;>first|(exact absurd rfl h)|(rw[show A=_ from E];rfl)|(obtain⟨_,_,_,rfl⟩:=E;rfl)|(obtain⟨_,_,rfl⟩:=E;rfl)|(obtain⟨_,_,_,_,rfl⟩:=E;rfl)
    have e:∀A,xN r A->cC P T H g A o=dB P H A (o.dst.getD 0) (g f) (dA (g f)++C.toList.map g):=λA E=>by
     simp only[cC,j,Z A E,C1,if_false]
    refine(Xj m z j F λA E=>by rw[<-e A E];exact I A E).mono ?_;rintro L ⟨A,E,rfl⟩;exact⟨_,⟨A,E,rfl⟩,by rw[e A E],by rw[e A E]⟩
  |invoke r mth=>simp only[cC,j]at d;exact d.elim
  |builtin b=>
   have M:∀{x:LV} {t:TypeId},C.toList.map g=[x]->O.toList=[t]->∃p,C= #[p]/\O= #[t]/\g p=x:=λ{x t} B D=>by
    obtain⟨l⟩:=C;obtain⟨tl⟩:=O;simp only at B D;subst D
    match l,B with
    |[p],B=>simp at B;exact⟨p,rfl,rfl,B⟩
   have N:∀{s x:LV} {t u:TypeId},C.toList.map g=[s,x]->O.toList=[t,u]->∃p q,C= #[p,q]/\O= #[t,u]/\g p=s/\g q=x:=λ{s x t u} B D=>by
    obtain⟨l⟩:=C;obtain⟨tl⟩:=O;simp only at B D;subst D
    match l,B with
    |[p,q],B=>simp at B;exact⟨p,q,rfl,rfl,B.1,B.2⟩
   simp only[cC,j]at d I v|-;split at d
   .rename_i x t B D;obtain⟨p,rfl,rfl,rfl⟩:=M B D;refine v ?_;simp only[A2,A9];exact Zd hT m z j d
   .rename_i s x t u B D;obtain⟨p,q,rfl,rfl,rfl,rfl⟩:=N B D;by_cases h:t=u\/(T u).k.isStr=true
    .rw[if_pos h]at d;split at d
     .refine v ?_;simp only[A2,A9];rw[if_pos h];exact IP hT m z j h (hW.slice t) d
     .obtain⟨Q,U,V,k3⟩:=LF hT m z j h (hW.slice t) d;refine k3.toE ⟨_,⟨Q,U,V,rfl⟩,?_⟩;simp only[A2,A9];rw[if_pos h]
     .refine LG hT m z j h (hW.slice t) d λQ v' U V=>⟨_,⟨Q,v',U,V,rfl⟩,?_⟩;simp only[A2,A9];rw[if_pos h]
     .refine v ?_;simp only[A2,A9];rw[if_pos h];exact LH hT m z j h (hW.slice t) d
     .rename_i n1 n2 n3 n4;refine v ?_;simp only[A2,A9];rw[if_pos h];by_cases G:SQ (g p)=true
      .simp only[if_pos G]at d|-;exact LD hT m z j h (hW.slice t) d
      .simp only[if_neg G]at d|-;exact Qp hT m z j h (hW.slice t) d
    .rw[if_neg h]at d;refine v ?_;simp only[A2,A9];rw[if_neg h];by_cases G:(T u).k.isInt=true
     .rw[if_pos G]at d|-;exact LE hT m z j G (hW.slice t) d
     .rw[if_neg G]at d;exact d.elim
   .rename_i x t B D;obtain⟨p,rfl,rfl,rfl⟩:=M B D;split at d
    .rename_i lo c E;obtain⟨Q,U,V,k3⟩:=Zg hT m z j d;refine k3.toE ⟨_,⟨Q,U,V,rfl⟩,?_⟩;simp only[A2,A9]
    .refine v ?_;simp only[A2,A9];exact Xo hT m z j d
   .rename_i x t B D;obtain⟨p,rfl,rfl,rfl⟩:=M B D;refine v ?_;simp only[A2,A9];exact Th hT m z j (hW.slice t) d
   .rename_i s x t u B D;obtain⟨p,q,rfl,rfl,rfl,rfl⟩:=N B D;refine v ?_;simp only[A2,A9];by_cases G:SQ (g p)=true
    .rw[if_pos G]at d|-;exact Tf hT m z j (hW.slice t) d
    .rw[if_neg G]at d|-;by_cases S:IA (g p)=true
     .rw[if_pos S]at d|-;exact Tg hT m z j (hW.slice t) d
     .rw[if_neg S]at d|-;exact Xl hT m z j (hW.slice t) d
   .refine v ?_;exact Ta (mx:=false) m z j d
   .refine v ?_;exact Ta (mx:=true) m z j d
   .rename_i x k t u B D;obtain⟨p,q,rfl,rfl,rfl,rfl⟩:=N B D;refine v ?_;simp only[A2,A9];exact Qv hT hW.eqk m z j d
   .exact d.elim
 |_=>simp only[cC,j]at d;exact d.elim
theorem tD{g k:Operand->LV}{r:Option jU}(h:∀x∈o.op.operands,g x=k x):cC P T H g r o=cC P T H k r o:=by
 have a:∀q:Array (Nat×Operand),(∀p∈q.toList,g p.2=k p.2)->(q.toList.map λp=>(p.1,g p.2))=q.toList.map λp=>(p.1,k p.2):=λq v=>
  B1 λp G=>by rw[v p G]
 obtain⟨F,C,E,J,A,B⟩:=o;cases C<;>simp only[Op.operands,Call.operands]at h<;>simp only[cC]
 case move x=>rw[h x bA]
 case assign x=>rw[h x bA]
 case pick c x y=>rw[h c bA,h x bA,h y bA]
 case box t x=>rw[h x bA]
 case build t q=>rw[a q λp v=>h p.2 (by simp;exact⟨p.1,by simpa using v⟩)]
 case buildSlice t n q=>rw[a q λp v=>h p.2 (by simp;exact⟨p.1,by simpa using v⟩)]
 case load t x=>rw[h x bA]
 case store t x y=>rw[h x bA,h y bA]
 case nilCheck x=>rw[h x bA]
 case binOp C t x y u=>rw[h x bA,h y bA]
 case unOp C t x=>rw[h x bA]
 case convert s t x=>rw[h x bA]
 case makeFunc fn first cs=>
  cases fn<;>simp only[];rw[B1 λx w=>h x (by simp;exact .inr (by simpa using w)),show first.toList.map g=first.toList.map k from B1 λx w=>h x (by simp;exact .inl (by simpa using w))]
 case sliceToArrayPointer t x=>rw[h x bA]
 case slice t x lo hi mx=>
  have e:∀y:Option Operand,(∀z∈y,g z=k z)->y.map g=y.map k:=λy I=>by cases y with
   |none=>rfl
   |some z=>simp[I z bA]
  rw[h x bA,e lo (λz l=>h z (by simp at l;simp[l])),e hi (λz l=>h z (by simp at l;simp[l])),e mx (λz l=>h z (by simp at l;simp[l]))]
 case fieldAddr s x f=>rw[h x bA]
 case field s x f=>rw[h x bA]
 case makeSlice t n c=>rw[h n bA,h c bA]
 case indexAddr t x i=>rw[h x bA,h i bA]
 case index t x i=>rw[h x bA,h i bA]
 case extract x i=>rw[h x bA]
 case makeMap t r=>cases r<;>rfl
 case lookup t x i ck=>rw[h x bA,h i bA]
 case mapUpdate t x i y=>rw[h x bA,h i bA,h y bA]
 case insert t x i y=>rw[h x bA,h i bA,h y bA]
 case range t x=>split<;>first|rw[h x bA]|rfl
 case call c=>
  obtain⟨d,j,K⟩:=c;have D:j.toList.map g=j.toList.map k:=B1 λx w=>h x (by simp;exact .inr (by simpa using w));cases d with
  |value f=>simp only[D];rw[h f bA]
  |invoke r m=>rfl
  |builtin b=>simp only[D]
def strip:LV->LV
 | .when _ x=>x
 |x=>x
def FN:LV->Bool
 | .when c _=>c
 |_=>true
def Bk(want:Bool):LV->Option Bool
 | .d (.bool b)=>some (b==want)
 | .when c (.d (.bool b))=>some (c&&(b==want))
 |_=>none
def kP:Op->List Operand
 | .pick c _ _=>[c]
 |op=>op.operands.toList
def iT(P:Program)(T:TypeId->cW)(H:Nat->bJ)(g:Operand->LV)(r:Option jU)(o:Oper):kJ:=
 match o.op with
 | .pick c x y=>nV (strip (g c)) (g x) (g y)
 |_=>cC P T H (λx=>strip (g x)) r o
def iZ(P:Program)(T:TypeId->cW)(slots:Nat->Option Nat)(env:Nat->LV)(H:Nat->bJ)(r:Option jU)(o:Oper):kJ:=
 match o.guard with
 |none=>cC P T H (kK env) r o
 |some (j,want)=>match(slots j).map λd=>Bk want (env d)with
  |some (some ec)=>⟨.when ec (iT P T H (kK env) r o).v,(ec=true->(iT P T H (kK env) r o).ok)/\(ec=true->∀x∈kP o.op,FN (kK env x)=true),if ec=true then(iT P T H (kK env) r o).up else []⟩
  |_=>.fail
theorem R.strip{x:LV}{v:Value}(h:R w E β H x v)(a:FN x=true):R w E β H (Eng.strip x) v:=by
 cases x<;>try exact h
 cases h with|when _ _ _ h _=>exact h a
def tE(r:Option jU):Prop:=xN r r/\∀r',xN r r'->r'=r
theorem IR(hT:fW P T)(hW:Cd T)(m:dV w0 X H β w)(p:∀x,R w (Ex X β H) β H (g x) (a.eval x)){r:Option jU}(b:xN r r)(d:∀f,xN r f->(iT P T H g f o).ok)(s:∀x∈kP o.op,FN (g x)=true):
 SK P w0 X H β w a o (λi=>∃f,xN r f/\i=iT P T H g f o):=by
 classical
 have e:(∀c x y,o.op≠ .pick c x y)->SK P w0 X H β w a o (λi=>∃f,xN r f/\i=iT P T H g f o):=by
  intro k;have u:∀r,iT P T H g r o=cC P T H (λx=>strip (g x)) r o:=λr=>by
   unfold iT;split
   .rename_i h;exact absurd h (k _ _ _)
   .rfl
  have t:kP o.op=o.op.operands.toList:=by
   unfold kP;split
   .rename_i h;exact absurd h (k _ _ _)
   .rfl
  rw[t]at s
  let j:Operand->LV:=λx=>if x∈o.op.operands then strip (g x)else .junk
  have v:∀r,cC P T H (λx=>strip (g x)) r o=cC P T H j r o:=λr=>tD λx n=>by simp[j,n]
  have z:∀r,iT P T H g r o=cC P T H j r o:=λr=>(u r).trans (v r);simp only[z]at d|-;refine DK hT hW m (λx=>?_) b d;by_cases n:x∈o.op.operands
  .simp only[j,n,if_true];exact(p x).strip (s x (by simpa using n))
  .simp only[j,n,if_false];exact .junk _
 cases q:o.op with
 |pick c x y=>
  have l:=d r b;refine lT.toE (r:=iT P T H g r o) ?_ ⟨r,b,rfl⟩;simp only[iT,q]at l|-;exact Dt m ((p c).strip (s c (by simp[q,kP]))) (p x) (p y) q l
 |_=>exact e (by intro _ _ _;rw[q];simp)
def mK(env:Nat->LV)(dst:Option Nat)(l:LV):Nat->LV:=match dst with|some d=>cQ env d l|none=>env
def Ce(N:Nat)(dst:Option Nat):Prop:=match dst with|some d=>d<N|none=>True
def fK(P:Program)(T:TypeId->cW)(N:Nat)(slots:Nat->Option Nat)(orc:Nat->Option jU)(st:uF)(o:Oper):uF:=
 let r:=iZ P T slots st.env st.H (orc (o.dst.getD 0)) o
 {env:=mK st.env o.dst r.v
  H:=cD st.H r.up
  ok:=st.ok/\r.ok/\Ce N o.dst}
theorem Tl{a:Act}{d:Nat}(b:d<a.tmps.size)(v:Value)(t:Nat):(a.put (some d) v).tmps.getD t undef=if t=d then v else a.tmps.getD t undef:=by
 simp only[Act.put,A3,Array.getElem?_setIfInBounds];by_cases h:t=d
 .subst h;simp[b]
 .rw[if_neg (λe=>h e.symm),if_neg h]
theorem mG.get{N:Nat}{b:Nat->LV}(s:mG N w0 X b H β a w)(x:Operand):R w (Ex X β H) β H (kK b x) (a.eval x):=by
 cases x with
 |tmp t=>exact s.env t
 |const v=>exact .const v
 |global g=>
  cases e:globD g with
  |none=>simp only[kK,e];exact .junk _
  |some cs=>simp only[kK,e];exact .d _ _ (s.mem.glob g cs e).1
 |func f=>exact .fn0 f
theorem mG.put{N:Nat}{c:Nat->LV}(s:mG N w0 X c H β a w){b:Nat->bJ}{e:Nat->Option Nat}{w':World}(m:dV w0 X b e w')(f:fB X H β w b e w'){dst:Option Nat}{l:LV}{v:Value}
 (h:R w' (Ex X e b) e b l v)(g:Ce N dst):mG N w0 X (mK c dst l) b e (a.put dst v) w':=by
 refine⟨?_,?_,m.ext,m.xold,m.fresh,m.inj,λt=>?_,m.obj,m.pin⟩
 .cases dst<;>exact f.marks s.defers
 .cases dst with
  |none=>exact s.size
  |some d=>simp only[Act.put,Array.size_setIfInBounds];exact s.size
 .cases dst with
  |none=>exact f.R (s.env t)
  |some d=>
   simp only[Ce,mK]at g|-;rw[Tl (by rw[s.size];exact g)];unfold cQ;split
   .exact h
   .exact f.R (s.env t)
theorem DL{N:Nat}{i:Nat->LV}(s:mG N w0 X i H β a w){g:Array Oper}{j d:Nat}{e m:Bool}(n:(g[j]?).bind (·.dst)=some d)(r:d<N)(f:Bk e (i d)=some m)
 (t:o.guard=some (j,e)):Region.wanted o (yielded g a.tmps)=m:=by
 have h:=s.env d;have k:a.tmps[d]? =some (a.tmps.getD d undef):=by
  have:d<a.tmps.size:=by rw[s.size];exact r
  simp[A3,this]
 have p:∀b,a.tmps.getD d undef=.bool b->yielded g a.tmps j=some b:=λb q=>by
  unfold yielded;rw[n];simp[k,q]
 unfold Region.wanted;rw[t];simp only;unfold Bk at f;split at f
 .rename_i b l;injection f with f
  subst f;rw[l]at h;rw[p b h.bool];cases b<;>cases e<;>rfl
 .rename_i c b l;injection f with f
  subst f;rw[l]at h;cases h with
  |when _ _ _ h h0=>
   cases c with
   |true=>rw[p b (h rfl).bool];cases b<;>cases e<;>rfl
   |false=>
    have u:yielded g a.tmps j=none:=by
     unfold yielded;rw[n];simp only[E9,k,h0 rfl];rfl
    rw[u];cases e<;>rfl
 .cases f
theorem zK(hT:fW P T)(hW:Cd T){N:Nat}{x:Array Oper}{f:Nat->Option Nat}(G:∀j d,f j=some d->(x[j]?).bind (·.dst)=some d/\d<N){r:Option jU}{n:uF}
 (s:mG N w0 X n.env n.H β a w)(c:xN r r)(l:∀g,xN r g->(fK P T N f (λ_=>g) n o).ok){K:Act->World->Prop}{Q:Exit->Act->World->Prop}
 (q:∀g,xN r g->∀J A y,mG N w0 X (fK P T N f (λ_=>g) n o).env (fK P T N f (λ_=>g) n o).H y J A->K J A):
 if Region.wanted o (yielded x a.tmps)then o.wp P a w K Q\/(o.asks P a w/\LetsOut Q)else K (a.put o.dst undef) w:=by
 have L:=λg h=>(l g h).1;have b:=λg h=>(l g h).2.1;have k:=(l r c).2.2;clear l;simp only[fK]at q b;cases z:o.guard with
 |none=>
  have e:∀r,iZ P T f n.env n.H r o=cC P T n.H (kK n.env) r o:=λr=>by unfold iZ;rw[z]
  simp only[e]at q b;rw[if_pos (by simp[Region.wanted,z])];left;refine DK hT hW s.mem s.get c b K Q ?_;rintro I ⟨g,t,rfl⟩ v A y m B H;exact q g t _ _ y (s.put m B H k)
 |some p=>
  obtain⟨j,M⟩:=p;unfold iZ at q b;simp only[z]at q b;have i:=b r c;split at i
  .rename_i O u;simp only[u]at q b;obtain⟨q1,q2⟩:=i;obtain⟨d,C,D⟩:=A4.1 u;obtain⟨E,F⟩:=G j d C;rw[DL s E F D z];cases O with
   |true=>
    simp only[if_true];left;refine IR hT hW s.mem s.get c (λg t=>(b g t).1 rfl) (q2 rfl) K Q ?_;rintro I ⟨g,t,rfl⟩ v A y m B H;refine q g t _ _ y ?_;exact s.put m B (.when true _ v (λ_=>H) (λh=>by cases h)) k
   |false=>
    simp only[C1,if_false];exact q r c _ _ β (s.put s.mem fB.refl (.when false _ undef (λh=>by cases h) (λ_=>rfl)) k)
  .exact i.elim
theorem CR{N:Nat}{a:Nat->Option Nat}{b:Nat->Option jU}:∀(l:List Oper) (c:uF),(l.foldl (fK P T N a b) c).ok->c.ok
 |[],_,h=>h
 |o::l,c,h=>(CR l _ h).1
theorem qB(hT:fW P T)(hW:Cd T){N:Nat}{i:Array Oper}{b:Nat->Option Nat}(k:∀j d,b j=some d->(i[j]?).bind (·.dst)=some d/\d<N){c:Nat->Option jU}{Q:Exit->Act->World->Prop}:
 ∀(l:List Oper) (f:uF) (β:Nat->Option Nat) (a:Act) (w:World),(∀o∈l,tE (c (o.dst.getD 0)))->mG N w0 X f.env f.H β a w->(l.foldl (fK P T N b c) f).ok->
  (∀m n p,mG N w0 X (l.foldl (fK P T N b c) f).env (l.foldl (fK P T N b c) f).H p m n->Q .normal m n)->wpList P i Q l a w
 |[],f,β,a,w,_,s,_,hQ=>hQ a w β s
 |o::l,f,β,a,w,hd,s,hok,hQ=>by
  obtain⟨t,u⟩:=hd o bA;have e:∀g,xN (c (o.dst.getD 0)) g->fK P T N b (λ_=>g) f o=fK P T N b c f o:=λg h=>by rw[u g h];rfl
  have:=zK (P:=P) (T:=T) hT hW (o:=o) k (r:=c (o.dst.getD 0)) s t (λg h=>by rw[e g h];exact CR l _ hok) (K:=wpList P i Q l) (Q:=Q) λg h m n p q=>by
   rw[e g h]at q;exact qB hT hW k l _ p m n (λo v=>hd o (by simp[v])) q hok hQ
  unfold wpList;exact this
structure IS{ι:Type}(orcs:ι->Nat->Option jU)(Φ:ι->Prop)(d0:Nat):Prop where
 base:∀i j,Φ i->Φ j->∀d,d≠d0->orcs i d=orcs j d
 det:∀i,Φ i->∀d,d≠d0->tE (orcs i d)
 self:∀i,Φ i->xN (orcs i d0) (orcs i d0)
 alt:∀i,Φ i->∀r',xN (orcs i d0) r'->∃j,Φ j/\orcs j d0=r'
theorem Cf{N:Nat}{a:Nat->Option Nat}{c b:Nat->Option jU}{d:uF}(h:c (o.dst.getD 0)=b (o.dst.getD 0)):fK P T N a c d o=fK P T N a b d o:=by
 unfold fK;rw[h]
theorem Cg(hT:fW P T)(hW:Cd T){N:Nat}{p:Array Oper}{b:Nat->Option Nat}(n:∀j d,b j=some d->(p[j]?).bind (·.dst)=some d/\d<N){ι:Type}{c:ι->Nat->Option jU}{Φ:ι->Prop}{t:Nat}(G:IS c Φ t){Q:Exit->Act->World->Prop}(g:ι)(q:Φ g):
 ∀(l:List Oper) (k:uF) (β:Nat->Option Nat) (a:Act) (w:World),(l.filter λo=>o.dst.getD 0==t).length<=1->mG N w0 X k.env k.H β a w->(∀i,Φ i->(l.foldl (fK P T N b (c i)) k).ok)->
  (∀i,Φ i->∀v y C,mG N w0 X (l.foldl (fK P T N b (c i)) k).env (l.foldl (fK P T N b (c i)) k).H C v y->Q .normal v y)->wpList P p Q l a w
 |[],k,β,a,w,_,s,_,hQ=>hQ g q a w β s
 |o::l,k,β,a,w,hc,s,hok,hQ=>by
  by_cases z:o.dst.getD 0=t
  .have D:∀x∈l,x.dst.getD 0≠t:=λx m e=>by
    rw[F0,if_pos (by simp[z])]at hc;have:x∈l.filter λo=>o.dst.getD 0==t:=List.mem_filter.2 ⟨m,by simp[e]⟩;have:=List.length_pos_of_mem this;simp at hc;exact hc x m e
   have e:∀i f,c i t=f->fK P T N b (λ_=>f) k o=fK P T N b (c i) k o:=λi f h=>Cf (by rw[z,h]);have:=zK (P:=P) (T:=T) hT hW (o:=o) n (r:=c g t) s (G.self g q) (λf h=>by
    obtain⟨j,A,E⟩:=G.alt g q f h;rw[e j f E];exact CR l _ (hok j A)) (K:=wpList P p Q l) (Q:=Q) λf h v y C B=>by
    obtain⟨j,A,E⟩:=G.alt g q f h;rw[e j f E]at B;exact qB hT hW n l _ C v y (λx m=>G.det j A _ (D x m)) B (hok j A) (hQ j A)
   unfold wpList;exact this
  .obtain⟨H,I⟩:=G.det g q _ z;have e:∀i,Φ i->fK P T N b (c i) k o=fK P T N b (c g) k o:=λi u=>Cf (G.base i g u q _ z);have F:∀f,xN (c g (o.dst.getD 0)) f->fK P T N b (λ_=>f) k o=fK P T N b (c g) k o:=λf h=>by rw[I f h];rfl
   have:=zK (P:=P) (T:=T) hT hW (o:=o) n (r:=c g (o.dst.getD 0)) s H (λf h=>by rw[F f h];exact CR l _ (hok g q)) (K:=wpList P p Q l) (Q:=Q) λf h v y C B=>by
    rw[F f h]at B;refine Cg hT hW n G g q l _ C v y ?_ B (λi u=>?_) λi u=>?_
    .rw[F0,if_neg (by simpa using z)]at hc;exact hc
    .have:=hok i u;simp only[F4]at this;rw[e i u]at this;exact this
    .have:=hQ i u;simp only[F4]at this;rw[e i u]at this;exact this
   unfold wpList;exact this
end
end
section
open Go.RowKit
inductive LX where
 |normal
 |exit (id:Nat)
 |ret
def gR:Exit->LX->Prop
 | .normal,.normal=>True
 | .exit i,.exit j=>i=j
 | .ret,.ret=>True
 |_,_=>False
abbrev eG:=Nat->LV
abbrev dP:=Nat->bJ
def nR(o:Oper):Bool:=match o.op with
 | .defer _=>false
 |_=>true
def mV:Code->Bool
 | .seq a b=>mV a&&mV b
 | .cond _ a b=>mV a&&mV b
 | .block _ a=>mV a
 | .loop a=>mV a
 | .region _ ops _=>ops.all nR
 | .skip=>true
 | .ret=>true
 | .exit _=>true
 |_=>false
def RF(r:Option Nat):Fence:={Fence.wide with round:=r}
def qC(w0:dE)(r:Option Nat)(c:Code):Prop:=(r=none/\w0.flat=false)\/(mV c=true/\w0.flat=true)
theorem qC.seq1{a:dE}{r:Option Nat}{x y:Code}(h:qC a r (.seq x y)):qC a r x:=h.imp (λh=>h) λ⟨h,b⟩=>⟨by simp only[mV,A0]at h;exact h.1,b⟩
theorem qC.seq2{a:dE}{r:Option Nat}{x y:Code}(h:qC a r (.seq x y)):qC a r y:=h.imp (λh=>h) λ⟨h,b⟩=>⟨by simp only[mV,A0]at h;exact h.2,b⟩
theorem qC.cond1{a:dE}{r:Option Nat}{c:Operand}{x y:Code}(h:qC a r (.cond c x y)):qC a r x:=h.imp (λh=>h) λ⟨h,b⟩=>⟨by simp only[mV,A0]at h;exact h.1,b⟩
theorem qC.cond2{a:dE}{r:Option Nat}{c:Operand}{x y:Code}(h:qC a r (.cond c x y)):qC a r y:=h.imp (λh=>h) λ⟨h,b⟩=>⟨by simp only[mV,A0]at h;exact h.2,b⟩
theorem qC.block{a:dE}{r:Option Nat}{i:Nat}{x:Code}(h:qC a r (.block i x)):qC a r x:=h.imp (λh=>h) λ⟨h,b⟩=>⟨by simpa only[mV]using h,b⟩
theorem qC.loop{a:dE}{r:Option Nat}{x:Code}(h:qC a r (.loop x)):qC a r x:=h.imp (λh=>h) λ⟨h,b⟩=>⟨by simpa only[mV]using h,b⟩
theorem FO{P:Program}{r:Option Nat}{n:Nat}{b:String}{a:Array Value}{w:World}{R:Value->World->Prop}(h:Rows P b a w R):RowsIn (RF r) n P b a w R:=λc d _=>
 let⟨v,g,e,f⟩:=h c d
 ⟨v,g,e,(StepsIn.of_steps f).mono λm _=>fenced_wide P m⟩
theorem Xp{P:Program}{o:Oper}{a:Act}{w:World}{K i:Act->World->Prop}{Q:Exit->Act->World->Prop}(r:Option Nat)(k:nR o=true)(b:∀a w,K a w->i a w)(h:o.wp P a w K Q):o.wpIn (RF r) 0 P a w i Q:=by
 refine⟨λ_ _=>trivial,?_⟩;rw[Oper.semAt_eq _ _ _ (λc e=>by simp[nR,e]at k)];unfold Oper.wp at h;revert h;cases(execOp a.eval o).run P w with
 |ok x g=>
  cases x with
  |value v=>exact b _ _
  |skip=>exact b _ _
  |defer d=>exact b _ _
  |enter f args=>exact λh=>⟨λh=>(by cases h),callsIn_wide.2 ((h:Calls P f args g _).mono λe g j=>by cases e<;>first|exact b _ _ j|exact j)⟩
  |row row args=>exact λh=>⟨λh=>(by cases h),(FO (h:Rows P row args g _)).mono λv g=>b _ _⟩
  |_=>exact λh=>h.elim
 |halt x g=>cases x<;>exact id
def fF(P:Program)(N:Nat)(w0:dE)(X:Nat->Prop)(c:Code)(Q:LX->eG->dP->Prop)(env:eG)(H:dP):Prop:=
 ∀r,qC w0 r c->∀β a w,mG N w0 X env H β a w->c.wpIn (RF r) 0 P (λe a' w'=>∃x env' H' β',gR e x/\mG N w0 X env' H' β' a' w'/\Q x env' H') a w
def zL(K:eG->dP->Prop)(Q:LX->eG->dP->Prop):LX->eG->dP->Prop
 | .normal,env,H=>K env H
 |e,env,H=>Q e env H
def vF(id:Nat)(Q:LX->eG->dP->Prop):LX->eG->dP->Prop
 | .exit i,env,H=>if i=id then Q .normal env H else Q (.exit i) env H
 |e,env,H=>Q e env H
section
variable{P:Program} {T:TypeId->cW} {N:Nat} {w0:dE} {X:Nat->Prop} {Q:LX->eG->dP->Prop} {env:eG} {H:dP}
theorem fF.mono{c:Code}{b:LX->eG->dP->Prop}(h:fF P N w0 X c Q env H)(i:∀x env H,Q x env H->b x env H):fF P N w0 X c b env H:=
 λr j β a w s=>wpIn_mono (h r j β a w s) λ_ _ _ ⟨x,e,H,k,d,f,g⟩=>⟨x,e,H,k,d,f,i _ _ _ g⟩
theorem fF.seq{x y:Code}(h:fF P N w0 X x (zL (fF P N w0 X y Q) Q) env H):fF P N w0 X (.seq x y) Q env H:=by
 intro r j β a w s;refine wpIn_seq (wpIn_mono (h r j.seq1 β a w s) ?_);rintro e k w' ⟨l,b,g,f,i,c,d⟩;cases e<;>cases l<;>simp only[gR]at i
 .exact d r j.seq2 f k w' c
 .subst i;exact⟨.exit _,b,g,f,rfl,c,d⟩
 .exact⟨.ret,b,g,f,trivial,c,d⟩
theorem fF.skip(h:Q .normal env H):fF P N w0 X .skip Q env H:=λ_ _ β _ _ s=>wpIn_skip ⟨.normal,env,H,β,trivial,s,h⟩
theorem fF.ret(h:Q .ret env H):fF P N w0 X .ret Q env H:=λ_ _ β _ _ s=>wpIn_ret ⟨.ret,env,H,β,trivial,s,h⟩
theorem fF.exit{id:Nat}(h:Q (.exit id) env H):fF P N w0 X (.exit id) Q env H:=λ_ _ β _ _ s=>wpIn_exit ⟨.exit id,env,H,β,rfl,s,h⟩
theorem fF.block{id:Nat}{c:Code}(h:fF P N w0 X c (vF id Q) env H):fF P N w0 X (.block id c) Q env H:=by
 intro r l β a w s;refine wpIn_block (wpIn_mono (h r l.block β a w s) ?_);rintro e n w' ⟨m,b,f,i,k,g,d⟩;cases e<;>cases m<;>simp only[gR]at k
 .exact⟨.normal,b,f,i,trivial,g,d⟩
 .subst k;simp only[Exit.inBlock,vF]at d|-;split at d
  .rename_i j;rw[if_pos j];exact⟨.normal,b,f,i,trivial,g,d⟩
  .rename_i j;rw[if_neg j];exact⟨.exit _,b,f,i,rfl,g,d⟩
 .exact⟨.ret,b,f,i,trivial,g,d⟩
theorem fF.cond{c:Operand}{x y:Code}{b:Bool}(h:kK env c=.d (.bool b))(f:b=true->fF P N w0 X x Q env H)(g:b=false->fF P N w0 X y Q env H):fF P N w0 X (.cond c x y) Q env H:=by
 intro r d β a w s;have e:=s.get c;rw[h]at e;refine wpIn_cond e.bool ?_;cases b
 .exact g rfl r d.cond2 β a w s
 .exact f rfl r d.cond1 β a w s
theorem vG{F:Fence}{d:Nat}{c:Code}{Q:Exit->Act->World->Prop}{a:Act}{w:World}(J:Nat->Act->World->Prop)(n:Nat)(B:J n a w)
 (i:∀n a w,J n a w->c.wpIn F d P (Exit.then (λj w'=>∃m,m<n/\J m j w') Q) a w):(Code.loop c).wpIn F d P Q a w:=by
 intro b k q v r u;have y:∀n a w,J n a w->∃e j w',Q e j w'/\ArrivesIn (Machine.fenced P F) P (lone (b.atR a (.code c::.inLoop c::k)) q w) b k q e j w':=by
  intro n;induction n using F5 with
  |_ n ih=>
   intro a w C;obtain⟨e,o,p,g,f⟩:=i n a w C b (.inLoop c::k) q v r u;cases e with
   |normal=>
    obtain⟨m,s,D⟩:=g;obtain⟨A,z,E,t,h⟩:=ih m s o p D;exact⟨A,z,E,t,.of_steps (StepsIn.trans f (.one (fenced_calm r u rfl) stepR_inLoop)) h⟩
   |exit id=>exact⟨_,o,p,g,.pass (x:=.inLoop c) rfl (λ_ _=>.inl bA) f⟩
   |goto l=>exact⟨_,o,p,g,.pass (x:=.inLoop c) rfl (λ_ _=>.inl bA) f⟩
   |ret=>exact⟨_,o,p,g,.pass (x:=.inLoop c) rfl (λ_ _=>.inl bA) f⟩
   |panic ch=>exact⟨_,o,p,g,.pass (x:=.inLoop c) rfl (λ_ _=>.inl bA) f⟩
   |outgrown=>exact⟨_,o,p,g,.pass (x:=.inLoop c) rfl (λ_ _=>.inl bA) f⟩
 obtain⟨e,j,w',g,f⟩:=y n a w B;exact⟨e,j,w',g,.of_steps (.one (fenced_calm r u rfl) stepR_loop) f⟩
theorem kZ{N:Nat}{X:Nat->Prop}{w0:dE}{Q:LX->eG->dP->Prop}(a:Act)(w:World):¬∃x b c d,gR .outgrown x/\mG N w0 X b c d a w/\Q x b c:=by
 rintro⟨x,_,_,_,h,_⟩;cases x<;>exact h
theorem IT{r:Option Nat}{b:Array Oper}{Q:Exit->Act->World->Prop}(c:∀a w,¬Q .outgrown a w)(f:∀(i:Nat) (h:i<b.size),nR b[i]=true):∀(l:List Nat) (a:Act) (w:World),wpOps P b Q l a w->wpOpsIn (RF r) 0 P b Q l a w:=by
 intro l;induction l with
 |nil=>exact λa w h=>h
 |cons i rest ih=>
  intro a w h;simp only[wpOps]at h;simp only[wpOpsIn];cases d:b[i]? with
  |none=>rw[d]at h;exact ih _ _ h
  |some o=>
   rw[d]at h;obtain⟨k,j⟩:=B7.1 d;have g:nR o=true:=by have:=f i k;rw[j]at this;exact this
   simp only at h|-;split
   .rename_i e;rw[if_pos e]at h;exact Xp r g ih (h.resolve_right λ⟨_,a,w,q⟩=>c a w q)
   .rename_i e;rw[if_neg e]at h;exact⟨λ_ _=>trivial,ih _ _ h⟩
theorem fI{r:Option Nat}{id:Nat}{b:Array Oper}{Q:Exit->Act->World->Prop}{a:Act}{w:World}(c:∀a w,¬Q .outgrown a w)(e:qC w0 r (.region id b false))(h:wpList P b Q b.toList a w):(Code.region id b false).wpIn (RF r) 0 P Q a w:=by
 rcases e with⟨rfl,_⟩|⟨d,_⟩
 .exact wpIn_wide.2 (wp_region_list h)
 .simp only[mV,E4]at d;refine wpIn_region ?_;rw[List.range_eq_range',<-Array.length_toList];rw[<-wpOps_eq_wpList b.toList 0 bA]at h;exact IT c d _ _ _ h
theorem LI{r:Option Nat}{id:Nat}{b:Array Oper}{Q:Exit->Act->World->Prop}{a:Act}{w:World}(c:∀a w,¬Q .outgrown a w)(e:P.follows .mixedOrders=true)(f:qC w0 r (.region id b true))
 (h:wpAny P .any b Q b.size (B6 b.size false) a {w with drawn:=w.drawn+1}):(Code.region id b true).wpIn (RF r) 0 P Q a w:=by
 rcases f with⟨rfl,_⟩|⟨d,_⟩
 .exact wpIn_wide.2 (wp_region_any e h)
 .simp only[mV,E4]at d;refine wpIn_region_draw λt=>IT c d _ _ _ ?_;simp only[Region.schedule,e,Bool.true_or,if_true];exact wpAny_sound b.size t _ a _ h
theorem fF.region(hT:fW P T)(hW:Cd T){id:Nat}{c:Array Oper}{b:Nat->Option Nat}(i:∀j d,b j=some d->(c[j]?).bind (·.dst)=some d/\d<N)(e:Nat->Option jU)(f:∀d,tE (e d))
 (g:(c.toList.foldl (fK P T N b e) ⟨env,H,True⟩).ok)(h:Q .normal (c.toList.foldl (fK P T N b e) ⟨env,H,True⟩).env (c.toList.foldl (fK P T N b e) ⟨env,H,True⟩).H):
 fF P N w0 X (.region id c false) Q env H:=by
 intro r k β a w s;exact fI kZ k (qB hT hW i c.toList ⟨env,H,True⟩ β a w (λo _=>f _) s g λn w' m l=>⟨.normal,_,_,m,trivial,l,h⟩)
theorem IU(hT:fW P T)(hW:Cd T){id:Nat}{c:Array Oper}{b:Nat->Option Nat}(g:∀j d,b j=some d->(c[j]?).bind (·.dst)=some d/\d<N){ι:Type}{e:ι->Nat->Option jU}{Φ:ι->Prop}{k:Nat}(G:IS e Φ k)(l:ι)(m:Φ l)
 (n:(c.toList.filter λo=>o.dst.getD 0==k).length<=1)
 (h:∀i,Φ i->(c.toList.foldl (fK P T N b (e i)) ⟨env,H,True⟩).ok/\Q .normal (c.toList.foldl (fK P T N b (e i)) ⟨env,H,True⟩).env (c.toList.foldl (fK P T N b (e i)) ⟨env,H,True⟩).H):
 fF P N w0 X (.region id c false) Q env H:=by
 intro r p β a w s;exact fI kZ p (Cg hT hW g G l m c.toList ⟨env,H,True⟩ β a w n s (λi f=>(h i f).1) λi f u v t q=>⟨.normal,_,_,t,trivial,q,(h i f).2⟩)
end
end
section
open Go.RowKit
def iO(w0:dE)(env:eG)(H:dP)(env':eG)(H':dP):Prop:=
 ∀N X β a w,mG N w0 X env H β a w->∃β',mG N w0 X env' H' β' a w
section
variable{P:Program} {T:TypeId->cW} {N:Nat} {w0:dE} {X:Nat->Prop} {Q:LX->eG->dP->Prop} {env env' env'':eG} {H H' H'':dP}
theorem iO.trans(h:iO w0 env H env' H')(k:iO w0 env' H' env'' H''):iO w0 env H env'' H'':=λN X β a w s=>let⟨β',b⟩:=h N X β a w s;k N X β' a w b
theorem gS{c:Code}(h:iO w0 env H env' H')(k:fF P N w0 X c Q env' H'):fF P N w0 X c Q env H:=λr b β a w s=>let⟨e,d⟩:=h N X β a w s;k r b e a w d
theorem Oc(M:List Nat)(σ:List (Nat×Nat))(hσ:(σ.map (·.2)).Nodup)(a5:(σ.map (·.1)).Nodup)(K:∀id∈w0.pins,dL σ id=some id):
 ∀N X β a w,mG N w0 X env H β a w->∃B,mG N w0 X (bB (M.map λt=>(t,ren σ 8 (env t)))) (aK (σ.map λp=>(p.2,cX σ (H p.1)))) B a w/\∀i j,dL σ i=some j->aK (σ.map λp=>(p.2,cX σ (H p.1))) j=cX σ (H i)/\B j=β i:=by
 intro N X β a w s
 let A:dP:=aK (σ.map λp=>(p.2,cX σ (H p.1)))
 let B:Nat->Option Nat:=λj=>((σ.find? λp=>p.2=j).map λp=>p.1).bind β
 have g:∀j,(∃p∈σ,p.2=j/\A j=cX σ (H p.1)/\B j=β p.1)\/(A j=.absent/\B j=none/\∀p∈σ,p.2≠j):=by
  intro j;have S:∀l:List (Nat×Nat),(∃p∈l,p.2=j/\fN (l.map λp=>(p.2,cX σ (H p.1))) j=cX σ (H p.1)/\((l.find? λp=>p.2=j).map λp=>p.1).bind β=β p.1)\/
   (fN (l.map λp=>(p.2,cX σ (H p.1))) j=.absent/\((l.find? λp=>p.2=j).map λp=>p.1).bind β=none/\∀p∈l,p.2≠j):=by
   intro l;induction l with
   |nil=>right;exact⟨rfl,rfl,bA⟩
   |cons q r ih=>
    by_cases L:q.2=j
    .left;exact⟨q,B4 ..,L,by simp[fN,L],by simp[L]⟩
    .simp only[A2,fN,if_neg (λe:j=q.2=>L e.symm),List.find?_cons];have:(decide (q.2=j))=false:=by simpa using L
     simp only[this];rcases ih with⟨p,C,f,n,m⟩|⟨f,n,m⟩
     .exact .inl ⟨p,B8 _ C,f,n,m⟩
     .refine .inr ⟨f,n,λp C=>?_⟩;rcases F9.1 C with rfl|C
      .exact L
      .exact m p C
  exact S σ
 have hH:∀i j,dL σ i=some j->A j=cX σ (H i)/\B j=β i:=by
  intro i j h;have hm:=tC h;rcases g j with⟨p,C,f,n,m⟩|⟨_,_,m⟩
  .have:=mU hσ p (i,j) C hm f;subst this;exact⟨n,m⟩
  .exact absurd rfl (m _ hm)
 have hE:∀k,Ex X B A k->Ex X β H k:=by
  intro k hk;rcases hk with hk|⟨j,f,n⟩
  .exact .inl hk
  .rcases g j with⟨p,C,_,o,D⟩|⟨o,_,_⟩
   .rw[o,pZ]at f;exact .inr ⟨p.1,f,by rw[<-D];exact n⟩
   .rw[o]at f;cases f
 have V:∀x v,RD w (Ex X β H) x v->RD w (Ex X B A) x v:=λx v h=>h.anti hE;have hR:=R.ren V hH;refine⟨B,⟨s.defers.anti hE,s.size,s.ext,s.xold,λj b hl hb=>?_,λi j b hi hj f n=>?_,λt=>?_,λj=>?_,λid hid=>(s.pin id hid).of_ren (hH id id (K id hid)).1 (hH id id (K id hid)).2⟩,hH⟩
 .rcases g j with⟨p,C,_,o,D⟩|⟨o,_,_⟩
  .have E:(A j).live=true:=hl;rw[o,fH]at E;refine(s.fresh p.1 b E (by rw[<-D];exact hb)).imp (Or.imp (λh=>h) λh=>⟨h.1,λhm=>h.2 ?_⟩) (λh=>h);have Y:(A j).mut=true:=hm;rw[o,pZ]at Y;exact Y
  .have E:(A j).live=true:=hl;rw[o]at E;cases E
 .have I:(A i).live=true:=hi;have J:(A j).live=true:=hj;rcases g i with⟨p,C,p1,o,D⟩|⟨o,_,_⟩
  .rcases g j with⟨q,L,q1,f1,f2⟩|⟨f1,_,_⟩
   .rw[o,fH]at I;rw[f1,fH]at J;have:=s.inj p.1 q.1 b I J (by rw[<-D];exact f) (by rw[<-f2];exact n);have:=mU a5 p q C L this;rw[<-p1,<-q1,this]
   .rw[f1]at J;cases J
  .rw[o]at I;cases I
 .have S:∀l:List Nat,R w (Ex X B A) B A (oZ (l.map λt=>(t,Eng.ren σ 8 (env t))) t) (a.tmps.getD t undef):=by
   intro l;induction l with
   |nil=>exact .junk _
   |cons u r ih=>
    simp only[A2,oZ];split
    .rename_i e;subst e;exact hR 8 _ _ (s.env t)
    .exact ih
  exact S M
 .have W:dS w (Ex X B A) B A j:=by
   unfold dS;rcases g j with⟨p,C,p1,o,D⟩|⟨o,_,_⟩
   .rw[o];have y:=s.obj p.1;unfold dS at y;cases q:H p.1 with
    |absent=>trivial
    |dead=>trivial
    |box fz cs=>
     rw[q]at y;simp only[cX]at y|-;obtain⟨b,e,us,f,n,m,G,P⟩:=y;refine⟨b,e,us,by rw[D];exact f,n,by simpa using m,G,λi c v hc hv=>?_⟩;obtain⟨c0,a4,rfl⟩:=eJ hc;exact hR 8 _ _ (P i c0 v a4 hv)
    |row fz size xs=>
     rw[q]at y;simp only[cX]at y|-;obtain⟨f,n,m⟩:=y;refine⟨f,n,?_⟩;rcases m with⟨m,G⟩|⟨b,e,a1,m,G,P,U⟩
     .exact .inl ⟨by rw[D];exact m,G⟩
     .exact .inr ⟨b,e,a1,by rw[D];exact m,G,P,λi d v F hv=>⟨(U i d v F hv).1,V _ _ (U i d v F hv).2⟩⟩
    |map fz ks vs=>
     rw[q]at y;simp only[cX]at y|-;obtain⟨b,O,z,f,n,m,G,P,U,h7⟩:=y;exact⟨b,O,z,by rw[D];exact f,n,m,G,P,λi d e F Q=>V _ _ (U i d e F Q),λi d e F Q=>V _ _ (h7 i d e F Q)⟩
    |iter fz ks vs=>
     rw[q]at y;simp only[cX]at y|-;obtain⟨b,bm,O,z,a0,Z,f,n,m,G,P,U,h7,h8,h9,a2,a3⟩:=y;exact⟨b,bm,O,z,a0,Z,by rw[D];exact f,n,λh=>m (hE _ h),G,P,U,h7,h8,h9,λi d e F Q=>V _ _ (a2 i d e F Q),λi d e F Q=>V _ _ (a3 i d e F Q)⟩
    |know x v=>
     rw[q]at y;simp only[cX]at y|-;exact hR 8 _ _ y
   .rw[o];trivial
  exact W
theorem oA(b:List Nat)(σ:List (Nat×Nat))(e:(σ.map (·.2)).Nodup)(d:(σ.map (·.1)).Nodup)(c:∀id∈w0.pins,dL σ id=some id):
 iO w0 env H (bB (b.map λt=>(t,ren σ 8 (env t)))) (aK (σ.map λp=>(p.2,cX σ (H p.1)))):=λN X β a w s=>let⟨f,h,_⟩:=Oc b σ e d c N X β a w s;⟨f,h⟩
theorem iO.close(t:Nat){x:DV}(h:Eng.close H 8 (env t)=some x):iO w0 env H (cQ env t (.d x)) (cD H (bP H (bX H 8 (env t)))):=by
 intro N X β a w s;obtain⟨m,g⟩:=s.mem.freeze (bX H 8 (env t));refine⟨β,g.marks s.defers,s.size,m.ext,m.xold,m.fresh,m.inj,λu=>?_,m.obj,m.pin⟩;unfold cQ;split
 .rename_i e;subst e;exact .d _ _ (fZ s.mem h (λ_ h=>h) (s.env u))
 .exact g.R (s.env u)
theorem fF.len{c:Code}{t:Nat}{f:List DV}(i:env t=.d (.sl f))(h:f.length<=9223372036854775807->fF P N w0 X c Q env H):fF P N w0 X c Q env H:=by
 intro r j β a w s;have e:=s.env t;rw[i]at e;cases e with
 |d _ _ e=>
  obtain⟨b,k,_,l,g⟩:=e.sl_len;exact h (by unfold maxLen at g;omega) r j β a w s
@[congr] theorem aAi{c:Code}(a:env=env')(b:H=H'):fF P N w0 X c Q env H=fF P N w0 X c Q env' H':=by rw[a,b]
def cT(N:Nat)(l:List Oper)(j:Nat):Option Nat:=match(l[j]?).bind (·.dst)with
 |some d=>if d<N then some d else none
 |none=>none
theorem mW(N:Nat)(l:List Oper):∀j d,cT N l j=some d->(l.toArray[j]?).bind (·.dst)=some d/\d<N:=by
 intro j d h;unfold cT at h;split at h
 .rename_i b a;split at h
  .injection h with h;subst h;exact⟨by simpa using a,by assumption⟩
  .cases h
 .cases h
def fG(P:Program)(T:TypeId->cW)(N:Nat)(l:List Oper)(orc:Nat->Option jU)(env:eG)(H:dP):uF:=l.foldl (fK P T N (cT N l) orc) ⟨env,H,True⟩
theorem Ar(hT:fW P T)(hW:Cd T){id:Nat}{l:List Oper}(a:Nat->Option jU)(b:∀d,tE (a d))(h:(fG P T N l a env H).ok/\Q .normal (fG P T N l a env H).env (fG P T N l a env H).H):
 fF P N w0 X (.region id l.toArray false) Q env H:=
 fF.region hT hW (mW N l) a b h.1 h.2
def uM{ι:Type}(d0:Nat)(base:Nat->Option jU)(g:ι->jU)(i:ι)(d:Nat):Option jU:=if d=d0 then some (g i)else base d
theorem LJ{ι:Type}{h:Nat}{a:Nat->Option jU}{g:ι->jU}{Φ:ι->Prop}(b:∀d,tE (a d))(m:∀i,Φ i->xN (some (g i)) (some (g i)))(l:∀i,Φ i->∀c,xN (some (g i)) c->∃j,Φ j/\some (g j)=c):IS (uM h a g) Φ h:=by
 refine⟨λi j _ _ d e=>?_,λi _ d e=>?_,λi f=>?_,λi f c k=>?_⟩
 .simp[uM,e]
 .simp only[uM,if_neg e];exact b d
 .simp only[uM,if_pos];exact m i f
 .simp only[uM,if_pos]at k|-;exact l i f c k
theorem DM(hT:fW P T)(hW:Cd T){id:Nat}{l:List Oper}{ι:Type}(c:Nat)(a:Nat->Option jU)(g:ι->jU)(Φ:ι->Prop)(b:∀d,tE (a d))(p:∀i,Φ i->xN (some (g i)) (some (g i)))(m:∀i,Φ i->∀f,xN (some (g i)) f->∃j,Φ j/\some (g j)=f)
 (e:ι)(k:Φ e)(n:(l.filter λo=>o.dst.getD 0==c).length<=1)
 (h:∀i,Φ i->(fG P T N l (uM c a g i) env H).ok/\Q .normal (fG P T N l (uM c a g i) env H).env (fG P T N l (uM c a g i) env H).H):
 fF P N w0 X (.region id l.toArray false) Q env H:=
 IU hT hW (mW N l) (LJ b p m) e k n h
def memless:DV->Bool
 | .int _ _=>true
 | .bool _=>true
 | .str _=>true
 | .val _=>true
 |_=>false
def Hs(H:dP):LV->Prop
 | .d (.agg cs)=>∀c∈cs,memless c=true
 | .d x=>memless x=true
 | .ow id k n=>match H id with
   | .row _ _ xs=>∀x∈(xs.drop k).take n,∀c∈aQ x,memless c=true
   |_=>False
 | .nl=>True
 |_=>False
theorem RD.memless{w:World}{E E':Nat->Prop}{x:DV}{v:Value}(a:Eng.memless x=true)(h:RD w E x v):RD w E' x v:=by
 cases h<;>first|exact .int _ _|exact .bool _|exact .str _|(exact .val _ (by assumption))|cases a
theorem As(a:w0.pins=[]){b n:Nat}{A:Prop}(h:(w0.w.heap.size<=b\/w0.mine b/\A)/\b<n):w0.w.heap.size<=b:=by
 rcases h.1 with h|⟨⟨id,h,_⟩,_⟩
 .exact h
 .rw[a]at h;cases h
theorem IV(C:w0.pins=[]){β:Nat->Option Nat}{a:Act}{w:World}{l:LV}{x:DV}{v:Value}(s:mG N w0 X env H β a w)(j:R w (Ex X β H) β H l v)(f:Eng.close H 8 l=some x)(g:Hs H l):RD w (λk=>X k\/k<w0.w.heap.size) x v:=by
 cases l with
 |d y=>
  simp only[Eng.close,Option.some.injEq]at f;subst f;cases j with
  |d _ _ j=>
   cases y with
   |agg cs=>
    cases j with
    |agg _ vs B h1 hp=>exact .agg cs vs B h1 λi c v f D=>(hp i c v f D).memless (g c (A6 f))
   |_=>exact j.memless g
 |nl=>
  simp only[Eng.close,Option.some.injEq]at f;subst f;cases j with|nl b=>exact .sl0 b 0 (by unfold maxLen;omega)
 |ow id k n=>
  simp only[Hs]at g;have z:=nZ (E':=λ_=>False) s.obj (λ_ _ h=>h.anti λ_ h=>h.elim) 8 _ x v f (λ_ _ _ _ h=>h) j;cases q:H id with
  |row fz size xs=>
   rw[q]at g;simp only[Eng.close,q,Option.some.injEq]at f;subst f;have B:(H id).live=true:=by rw[q];rfl
   have p:n=0\/∃b o c,β id=some b/\v=.slice (some ⟨b,o,none⟩) n c:=by
    cases j with
    |ow _ _ _ b c _ _ _ _ _ _ m=>exact .inr ⟨b,_,c,m,rfl⟩
    |owdead _ _ _ _ t=>rw[q]at t;cases t
    |ow0=>exact .inl rfl
   clear j;generalize u:(xs.drop k).take n=ys at*;cases z with
   |sl0 b c f=>exact .sl0 b c f
   |sl _ b off c s' us hne hb hall hlen f hul h1 hlt hcell hp=>
    refine .sl ys b off c s' us hne ?_ hall hlen f hul h1 hlt hcell λi d v t D=>(hp i d v t D).memless ?_
    .have r:β id=some b:=by
      rcases p with F|⟨G,J,I,m,e⟩
      .subst F;exact absurd u.symm hne
      .injection e with e _ _
       injection e with e
       injection e with e _ _
       rw[e];exact m
     have:=As C (s.fresh id b B r);rintro(h|h)
     .have:=(s.xold.1 b h).1;omega
     .omega
    .obtain⟨y,E,A⟩:=D4.1 (A6 t);exact g y (by rw[u];exact E) d A
  |_=>rw[q]at g;exact g.elim
 |_=>exact g.elim
def qD(H:dP)(fresh:Bool)(l:LV):RV->Prop
 | .d x=>Eng.close H 8 l=some x/\(fresh=true->Hs H l)
 | .own s xs=>(match l with
   | .ow id k n=>match H id with
     | .row false s' ys=>k=0/\n=xs.length/\s'=s/\xs.length<=ys.length/\ys.take xs.length=xs
     |_=>False
   | .nl=>xs=[]/\0<s
   |_=>False)/\(fresh=true->∀x∈xs,∀c∈aQ x,memless c=true)
 | .tup _=>False
theorem xT(F:w0.pins=[]){β:Nat->Option Nat}{a:Act}{w:World}{l:LV}{v:Value}{r:RV}{g:Bool}(s:mG N w0 X env H β a w)(G:R w (Ex X β H) β H l v)(h:qD H g l r):
 ∃B:Option Nat,Bi w0.w w (λk=>(X k\/g=true/\k<w0.w.heap.size)\/B=some k) B r v:=by
 cases r with
 |d x=>
  refine⟨none,?_⟩;obtain⟨J,L⟩:=h;show RD w _ x v;cases g with
  |true=>
   refine(IV F s G J (L rfl)).anti λk f=>?_;rcases f with(f|f)|f
   .exact .inl f
   .exact .inr f.2
   .cases f
  |false=>
   refine(fZ s.mem J (λ_ h=>h) G).anti λk f=>?_;rcases f with(f|f)|f
   .exact .inl f
   .cases f.1
   .cases f
 |own sz xs=>
  obtain⟨h,Z⟩:=h;have z:(l=.nl/\xs=[]/\0<sz)\/∃id E,l=.ow id 0 xs.length/\H id=.row false sz E/\xs.length<=E.length/\E.take xs.length=xs:=by
   cases l with
   |nl=>exact .inl ⟨rfl,h⟩
   |ow id k n=>
    simp only at h;split at h
    .rename_i s' E t;obtain⟨J,L,V,W,Y⟩:=h;subst J;subst L;subst V;exact .inr ⟨id,E,rfl,t,W,Y⟩
    .exact h.elim
   |_=>exact h.elim
  rcases z with⟨rfl,rfl,m⟩|⟨id,E,rfl,t,a0,C⟩
  .cases G with|nl b=>exact⟨none,m,bA,.inl ⟨rfl,rfl,b,rfl⟩⟩
  have K:=s.obj id;simp only[dS,t]at K;obtain⟨m,p,K⟩:=K;have hl:(H id).live=true:=by rw[t];rfl
  generalize U:xs.length=n at G;cases G with
  |owdead _ _ _ _ o=>rw[t]at o;cases o
  |ow0 _ _ b=>exact⟨none,m,λx D=>p x (by rw[<-C]at D;exact C3 D),.inl ⟨rfl,B2 U,b,rfl⟩⟩
  |ow _ _ _ b c _ _ _ cur e hH' hb hkn hnc hc hblk hroom=>
   rw[t]at hH';injection hH' with _ e1 e2;subst e1;subst e2
   have u:∀x∈xs,(aQ x).length=sz:=λx D=>p x (by rw[<-C]at D;exact C3 D);rcases K with⟨A,D⟩|⟨b',e',S,q,j,O,Q⟩
   .rw[A]at hb;cases hb
   .rw[hb]at q;injection q with q;subst q
    rw[hblk]at j;injection j with j;injection j with p1 p2;subst p1;subst p2
    have P:∀(i:Nat) (d:DV) (v:Value),(bZ xs)[i]? =some d->cur[i]? =some v->v.oneCell'=true/\RD w (Ex X β H) d v:=λi d v o I=>by
     rw[<-C,jW p,B3]at o;split at o
     .exact Q i d v o I
     .cases o
    refine⟨some b,m,u,.inr ⟨b,c,cur,e,rfl,by rw[Nat.zero_mul,U],As F (s.fresh id b hl hb),hblk,aD,hc,by rw[E5]at hroom;exact hroom,λi d v o I=>⟨(P i d v o I).1,?_⟩⟩⟩;cases g with
    |true=>
     obtain⟨y,hy,M⟩:=D4.1 (A6 o);exact(P i d v o I).2.memless (Z rfl y hy d M)
    |false=>
     refine(P i d v o I).2.anti λk f=>?_;rcases f with(f|f)|f
     .exact .inl f
     .cases f.1
     .injection f with f;subst f;exact .inr ⟨id,by rw[t];rfl,hb⟩
 |tup _=>exact h.elim
def iD(args:List DV):eG:=bB ((args.zipIdx).map λp=>(p.2,.d p.1))
theorem qW(a:List DV)(t:Nat):iD a t=match a[t]? with|some x=>.d x|none=>.junk:=by
 have b:∀(l:List DV) (k t:Nat),oZ ((l.zipIdx k).map λp=>(p.2,LV.d p.1)) (k+t)=match l[t]? with|some x=>.d x|none=>.junk:=by
  intro l;induction l with
  |nil=>intro k t;simp[oZ]
  |cons x r ih=>
   intro k t;simp only[F1,A2,oZ];cases t with
   |zero=>simp
   |succ t=>
    rw[if_neg aD];have:=ih (k+1) t;rw[show k+1+t=k+(t+1)by omega]at this;rw[this];simp
 have:=b a 0 t;rw[E5]at this;exact this
section still
variable{w:World} {l:Nat} {o:Obj} (o':Obj) (ho:w.heap[l]? =some o) (hc:rW o=false)
include ho hc
theorem lA(k:Nat)(q:Obj)(a:w.heap[k]? =some q)(b:rW q=true):(w.putObj l o').heap[k]? =some q:=by
 refine(World.putObj_heap_other λe=>?_).trans a;subst e;rw[ho]at a;cases a;rw[hc]at b;cases b
theorem xU{E:Nat->Prop}{d:DV}{v:Value}(h:RD w E d v):RD (w.putObj l o') E d v:=h.keep (lA o' ho hc) bA
theorem zM{β:Nat->Option Nat}{H:dP}(id:Nat):bW w β H (w.putObj l o') β H id:=by
 unfold bW;cases q:H id with
 |absent=>trivial
 |dead=>rfl
 |box fz cs=>exact .inr ⟨⟨_,_,rfl⟩,rfl⟩
 |row fz size xs=>exact .inr ⟨⟨_,_,rfl,B0 _⟩,rfl,λb a e _ c=>⟨a,e,lA o' ho hc _ _ c rfl,rfl⟩⟩
 |map fz ks vs=>exact .inr ⟨⟨_,_,_,rfl⟩,rfl⟩
 |iter fz ks vs=>exact .inr ⟨⟨_,_,_,rfl⟩,rfl⟩
 |know x v=>trivial
theorem CS{E:Nat->Prop}{β:Nat->Option Nat}{H:dP}{x:LV}{v:Value}(h:Eng.R w E β H x v):Eng.R (w.putObj l o') E β H x v:=h.step (λ_ _=>xU o' ho hc) (zM o' ho hc)
theorem dV.still{w0:dE}{X:Nat->Prop}{β:Nat->Option Nat}{H:dP}(m:dV w0 X H β w)(U:w0.w.heap.size<=l):dV w0 X H β (w.putObj l o'):=by
 have o:(w.putObj l o').heap.size=w.heap.size:=bA;refine⟨⟨m.ext.os,m.ext.tape,m.ext.output,by rw[o];exact m.ext.size,λk K L=>(World.putObj_heap_other aD).trans (m.ext.block k K L),m.ext.drawn⟩,m.xold,
  λid b h1 h2=>by rw[o];exact m.fresh id b h1 h2,m.inj,λid=>?_,λid hid=>(m.pin id hid).trans (zM o' ho hc id)⟩
 have a:=m.obj id;unfold dS at a|-;cases q:H id with
 |absent=>trivial
 |dead=>trivial
 |box fz cs=>
  rw[q]at a;obtain⟨b,e,M,p,r,s,y,z⟩:=a;exact⟨b,e,M,p,lA o' ho hc _ _ r rfl,s,y,λi c v C A=>CS o' ho hc (z i c v C A)⟩
 |row fz size xs=>
  rw[q]at a;obtain⟨p,r,s⟩:=a;refine⟨p,r,s.imp (λh=>h) ?_⟩;rintro⟨b,e,B,N,O,P,I⟩;exact⟨b,e,B,N,lA o' ho hc _ _ O rfl,P,λi d v g A=>⟨(I i d v g A).1,xU o' ho hc (I i d v g A).2⟩⟩
 |map fz ks vs=>
  rw[q]at a;obtain⟨b,j,f,p,r,s,y,z,F,G⟩:=a;exact⟨b,j,f,p,lA o' ho hc _ _ r rfl,s,y,z,λi d e g n=>xU o' ho hc (F i d e g n),λi d e g n=>xU o' ho hc (G i d e g n)⟩
 |iter fz ks vs=>
  rw[q]at a;obtain⟨b,J,j,f,u,t,p,r,s,y,z,F,G,Q,S,D,E⟩:=a;exact⟨b,J,j,f,u,t,p,lA o' ho hc _ _ r rfl,s,by rw[o];exact y,lA o' ho hc _ _ z rfl,F,G,Q,S,λi d e g n=>xU o' ho hc (D i d e g n),λi d e g n=>xU o' ho hc (E i d e g n)⟩
 |know x v=>
  rw[q]at a;exact CS o' ho hc a
end still
theorem mG.leave{n:Nat}{w0:dE}{X:Nat->Prop}{env:eG}{H:dP}{β:Nat->Option Nat}{P:Program}{l:Func}{R:Ending->World->Prop}{a:Act}{w:World}(s:mG n w0 X env H β a w)
 (h:∀j d,j.tmps=a.tmps->mG n w0 X env H β j d->∃v,(results l a.tmps).run P d=.ok v d/\R (.returned v) d):LeavesInM Fence.wide 0 P l a.tmps R a.defers .returning w:=by
 obtain⟨i,x,o,p,q⟩:=s.defers;rw[p];clear p x;have b:mG n w0 X env H β {a with defers:=[]} w:=⟨FA.nil,s.size,s.ext,s.xold,s.fresh,s.inj,s.env,s.obj,s.pin⟩;clear s;obtain⟨z,u⟩:=a;simp only at b h|-;clear u;induction i generalizing w with
 |nil=>
  obtain⟨v,q1,q2⟩:=h ⟨z,[]⟩ w rfl b;exact⟨v,q1,q2⟩
 |cons D i ih=>
  obtain⟨y,A,f⟩:=q D (B4 ..);refine⟨bA,.inl ⟨D,_,rfl,run_takeDeferred f,?_⟩⟩;refine ih (F6.1 o).2 (λg c=>?_) ?_
  .obtain⟨q1,q2,q3⟩:=q g (B8 _ c);exact⟨q1,q2,(World.putObj_heap_other (k:=g) (r:=D) λe=>(F6.1 o).1 (by rw[<-e];exact c)).trans q3⟩
  .have m:=(b.mem).still (.deferred none) f rfl y;exact⟨FA.nil,b.size,m.ext,m.xold,m.fresh,m.inj,λt=>CS _ f rfl (b.env t),m.obj,m.pin⟩
theorem tF{P:Program}{n:Nat}{w0:dE}{X:Nat->Prop}{env:eG}{H:dP}{β:Nat->Option Nat}{f:FuncId}{d:Func}{c:Code}{b:Array Value}{w:World}{R:Ending->World->Prop}{Q:LX->eG->dP->Prop}
 (t:P.funcs[f]? =some d)(r:d.body=some c)(p:w0.flat=false)(h:fF P n w0 X c Q env H)(s:mG n w0 X env H β ⟨b++B6 (d.ntmps-b.size) undef,[]⟩ w)
 (k:∀x env H β a w,Q x env H->mG n w0 X env H β a w->(match x with| .exit _=>False|_=>True)/\∃v,(results d a.tmps).run P w=.ok v w/\R (.returned v) w):Calls P f b w R:=by
 refine(callsIn_wide (n:=0)).1 (callsIn_of_wp_marks t r trivial (wpIn_mono (h none (.inl ⟨rfl,p⟩) β _ w s) ?_) rfl);rintro e i l ⟨x,env,H,β,q,s,j⟩;have g:∀(_:match x with| .exit _=>False|_=>True),LeavesInM Fence.wide 0 P d i.tmps R i.defers .returning l:=λ_=>s.leave λm z o y=>by
  have:=(k x env H β m z j y).2;rw[o]at this;exact this
 have u:=(k x env H β i l j s).1;cases e<;>cases x<;>simp only[gR]at q
 .exact g trivial
 .exact u.elim
 .exact g trivial
theorem tG{f:FuncId}{l:Func}{c:Code}{e:List DV}{r:Qm}{n:Nat}(D:P.funcs[f]? =some l)(m:(l.name== "runtime.NumGoroutine")=false)(C:l.body=some c)(N:l.ntmps=n)(u:e.length<=n)
 (h:∀w0 X,w0.pins=[]->fF P n w0 X c (λx env H=>(match x with| .exit _=>False|_=>True)/\∀β a w,mG n w0 X env H β a w->∃v,(results l a.tmps).run P w=.ok v w/\ID w0.w w (λk=>X k\/r.fresh=true/\k<w0.w.heap.size) r.v v) (iD e) (aK [])):
 Ok P f e r:=by
 refine⟨⟨l,D,m,by rw[C];rfl⟩,λw X p B y=>?_⟩;refine tF (β:=λ_=>none) D C rfl (h ⟨w,λ_=>none,λ_=>.absent,[],false⟩ X rfl) ?_ ?_
 .refine⟨FA.nil,?_,⟨rfl,rfl,rfl,B0 _,λ_ _ _=>rfl,B0 _⟩,⟨λk g=>⟨B.1 k g,by rintro⟨id,d,_⟩;cases d⟩,B.2.anti λk g=>by rcases g with g|⟨id,d,_⟩;exact g;cases d⟩,λid b hl _=>by simp[aK,fN,bJ.live]at hl,λi j b L _=>by simp[aK,fN,bJ.live]at L,λt=>?_,λid=>by unfold dS;trivial,λid d=>by cases d⟩
  .have:=y.1;simp;omega
  .rw[qW];cases q:e[t]? with
   |none=>exact .junk _
   |some x=>
    have E:t<p.length:=by rw[y.1];exact(A8.1 q).1
    have M:(p.toArray++B6 (l.ntmps-p.toArray.size) undef).getD t undef=p[t]:=by
     simp[A3,B9,E]
    rw[M];refine .d _ _ ((y.2 t x _ q (A1 E)).anti λk g=>?_);rcases g with g|⟨id,I,_⟩
    .exact g
    .cases I
 .rintro x env H β G F ⟨J,K⟩ s;obtain⟨v,z,A⟩:=K β G F s;have o:Ah w.heap.size w F:=⟨s.ext.os,s.ext.tape,s.ext.output,s.ext.size,λk g=>s.ext.block k g (by rintro⟨id,d,_⟩;cases d),s.ext.drawn⟩;exact⟨J,v,z,v,rfl,o,A⟩
theorem Ok.one{f:FuncId}{g:Func}{c:Code}{args:List DV}{r:Qm}{n t:Nat}(v:P.funcs[f]? =some g)(e:(g.name== "runtime.NumGoroutine")=false)(u:g.body=some c)(y:g.ntmps=n)(b:args.length<=n)(j:g.results= #[.tmp t])
 (l:∀m,r.v≠ .tup m)(h:∀w0 X,w0.pins=[]->fF P n w0 X c (λx env H=>(match x with| .exit _=>False|_=>True)/\qD H r.fresh (env t) r.v) (iD args) (aK [])):Ok P f args r:=by
 refine tG v e u y b λw0 X i=>(h w0 X i).mono λx env H ⟨o,p⟩=>⟨o,λβ a w s=>⟨a.tmps.getD t undef,results_tmp j _ _ _,?_⟩⟩;obtain⟨B,k⟩:=xT i s (s.env t) p;cases q:r.v with
 |tup m=>exact absurd q (l m)
 |d x=>rw[q]at k;exact⟨B,k⟩
 |own sz xs=>rw[q]at k;exact⟨B,k⟩
end
end
open Go.RowKit
def Ht:Value->Value->Bool
 | .bool a,.bool b=>a==b
 | .int j a,.int k b=>j==k&&a==b
 | .string a,.string b=>a.data.toList==b.data.toList
 | .slice none 0 0,.slice none 0 0=>true
 | .pointer none,.pointer none=>true
 | .map none,.map none=>true
 | .nilFunc,.nilFunc=>true
 | .nilIface,.nilIface=>true
 |_,_=>false
theorem LK{a b:Value}(h:Ht a b=true):a=b:=by
 unfold Ht at h;split at h
 .simp only[beq_iff_eq]at h;rw[h]
 .simp only[A0,beq_iff_eq]at h;rw[h.1,h.2]
 .rename_i a b;simp only[beq_iff_eq]at h;have:=congrArg (λl:List UInt8=>(⟨l.toArray⟩:ByteArray)) h;simp only[xP]at this;rw[this]
 all_goals first|rfl|cases h
def At:List Value->List Value->Bool
 |[],[]=>true
 |a::x,b::y=>Ht a b&&At x y
 |_,_=>false
theorem vI:∀{x y:List Value},At x y=true->x=y
 |[],[],_=>rfl
 |a::x,b::y,h=>by simp only[At,A0]at h;rw[LK h.1,vI h.2]
 |[],_::_,h=>by cases h
 |_::_,[],h=>by cases h
def Au:List Field->List (Nat×TypeId)->Bool
 |[],[]=>true
 |f::x,p::y=>f.offset==p.1&&f.type==p.2&&Au x y
 |_,_=>false
theorem Ch:∀{x:List Field} {y:List (Nat×TypeId)},Au x y=true->x.map (λf=>(f.offset,f.type))=y
 |[],[],_=>rfl
 |f::x,p::y,h=>by
  simp only[Au,A0,beq_iff_eq]at h;simp only[A2];rw[Ch h.2,h.1.1,h.1.2]
 |[],_::_,h=>by cases h
 |_::_,[],h=>by cases h
def tkB:TypeDesc->TK->Bool
 | .int k,.int k'=>k==k'
 | .bool,.bool=>true
 | .string,.str=>true
 | .slice e,.slice e'=>e==e'
 | .struct fs,.struct l=>Au fs.toList l
 | .array n e,.arr n' e'=>n==n'&&e==e'
 | .pointer e,.ptr e'=>e==e'
 | .map k e,.map k' e'=>k==k'&&e==e'
 | .map _ _,.other=>true
 | .func _ _ _,.other=>true
 | .interface _,.other=>true
 | .tuple _,.other=>true
 |_,_=>false
theorem Zh{d:TypeDesc}{k:TK}(h:tkB d k=true):uL d k:=by
 unfold tkB at h;split at h<;>simp only[uL]
 .simpa using h
 .simpa using h
 .exact Ch h
 .simpa using h
 .simpa using h
 .simpa using h
 .cases h
def CT(P:Program)(t:TypeId):TK->Bool
 | .int k=>match P.underlying t with|some (.int k')=>k==k'|_=>false
 | .bool=>match P.underlying t with|some .bool=>true|_=>false
 | .str=>match P.underlying t with|some .string=>true|_=>false
 |_=>false
theorem DN{P:Program}{t:TypeId}{k:TK}(h:CT P t k=true):gP P t k:=by
 cases k<;>simp only[CT]at h<;>simp only[gP]<;>first|(cases h;done)|skip
 all_goals(split at h<;>first|(cases h;done)|skip)
 .rename_i e;simp only[beq_iff_eq]at h;rw[e,h]
 .rename_i e;exact e
 .rename_i e;exact e
def sI(P:Program):Nat->List Field->List TK->Bool
 |_,[],[]=>true
 |j,f::x,k::y=>f.name != "_" &&f.offset==j&&CT P f.type k&&sI P (j+1) x y
 |_,_,_=>false
theorem tH{P:Program}:∀{j:Nat} {x:List Field} {y:List TK},sI P j x y=true->x.length=y.length/\∀(i:Nat) (f:Field) (k:TK),x[i]? =some f->y[i]? =some k->f.name≠ "_" /\f.offset=j+i/\gP P f.type k
 |_,[],[],_=>⟨rfl,bA⟩
 |j,f::x,k::y,h=>by
  simp only[sI,A0,bne_iff_ne,beq_iff_eq]at h;obtain⟨d,e⟩:=tH h.2;refine⟨by simp[d],λi c g a b=>?_⟩;cases i with
  |zero=>simp at a b;subst a;subst b;exact⟨h.1.1.1,by simpa using h.1.1.2,DN h.1.2⟩
  |succ i=>
   have:=e i c g (by simpa using a) (by simpa using b);exact⟨this.1,by rw[this.2.1];omega,this.2.2⟩
 |_,[],_::_,h=>by cases h
 |_,_::_,[],h=>by cases h
def eqB(P:Program)(t:TypeId)(d:TypeDesc)(ks:List TK):Bool:=match d with
 | .struct fs=> !P.stoodInHeld t&&sI P 0 fs.toList ks
 | .array n e=>match P.info? e,P.underlying e with
   |some inf,some (.struct fs)=> !P.stoodInHeld e&&sI P 0 fs.toList (ks.take inf.size)&&inf.size==(ks.take inf.size).length&&ks==(A7 n (ks.take inf.size)).flatten
   |some inf,some _=>match ks with
    |k::_=>inf.size==1&&CT P e k&&ks==A7 n k
    |[]=>false
   |_,_=>false
 |_=>false
theorem Zi{P:Program}{t:TypeId}{d:TypeDesc}{b:List TK}(q:P.underlying t=some d)(h:eqB P t d b=true):sF P t b\/NX P t b:=by
 unfold eqB at h;split at h
 .rename_i o;simp only[A0,C2]at h;obtain⟨l,m⟩:=tH h.2;exact .inl ⟨h.1,o,q,l,λj f k r s=>by simpa using m j f k r s⟩
 .rename_i n e;split at h
  .rename_i a o p v;simp only[A0,C2,beq_iff_eq]at h;obtain⟨⟨⟨c,g⟩,i⟩,u⟩:=h;obtain⟨l,m⟩:=tH g;exact .inr ⟨n,e,a,b.take a.size,q,p,i,.inl ⟨c,o,v,l,λj f k r s=>by simpa using m j f k r s⟩,u⟩
  .rename_i a _ _ p _;split at h
   .rename_i k _;simp only[A0,beq_iff_eq]at h;obtain⟨⟨c,g⟩,i⟩:=h;exact .inr ⟨n,e,a,[k],q,p,by rw[c];rfl,.inr ⟨k,rfl,DN g⟩,by rw[i];simp⟩
   .cases h
  .cases h
 .cases h
def zvB(agg:Bool)(zero:List Value):Value->Bool
 | .agg _=>agg
 |_=> !agg&&zero.length==1
theorem Zj{a:Bool}{zero:List Value}{z:Value}(h:zvB a zero z=true)(e:z.cells.toList=zero):z=(if a then .agg zero.toArray else zero.getD 0 undef)/\(a=false->zero.length=1):=by
 unfold zvB at h;split at h
 .subst h;subst e;simp[Value.cells]
 .rename_i c;simp only[A0,C2,beq_iff_eq]at h;have b:z.cells= #[z]:=by cases z<;>first|rfl|exact absurd rfl (c _)
  rw[b]at e;subst e;simp[h.1]
def Tm(P:Program)(t:TypeId)(i:cW):Bool:=
 match P.info? t,P.underlying t with
 |some inf,some d=>tkB d i.k&&inf.size==i.size&&inf.bytes==i.bytes&&(match inf.zero with|some z=>At z.cells.toList i.zero&&zvB i.k.agg i.zero z|none=>false)&&i.zero.all (·.oneCell')&&i.zero.length==i.size&&
   (i.eqk.isEmpty||(!P.eqGuardType P.depth t&&eqB P t d i.eqk))
 |_,_=>false
theorem Tn{P:Program}{t:TypeId}{i:cW}(h:Tm P t i=true):aAm P t i:=by
 unfold Tm at h;split at h
 .rename_i b d e f;simp only[A0,beq_iff_eq]at h;obtain⟨⟨⟨⟨⟨⟨j,k⟩,l⟩,a⟩,m⟩,n⟩,c⟩:=h;split at a
  .rename_i z g;simp only[A0]at a;obtain⟨a,o⟩:=a;obtain⟨s,v⟩:=Zj o (vI a);refine⟨⟨b,d,z,e,f,Zh j,k,l,g,vI a⟩,λu r=>by simpa using A5.1 m u r,⟨b,e,by rw[g,<-s],v⟩,n,λp=>?_⟩;have:i.eqk.isEmpty=false:=by cases q:i.eqk<;>simp_all
   rw[this]at c;simp only[Bool.false_or,A0,C2]at c;exact⟨c.1,Zi f c.2⟩
  .cases a
 .cases h
def aAo:cW:=⟨.none,0,0,[],[]⟩
def pA:List (Nat×cW)->Nat->cW
 |[],_=>aAo
 |p::r,t=>if t=p.1 then p.2 else pA r t
def Zk(P:Program)(Ft:List (Nat×cW)):Bool:=Ft.all λp=>Tm P p.1 p.2
theorem Bl:∀{Ft:List (Nat×cW)} {t:Nat},(pA Ft t).k.isNone=false->(t,pA Ft t)∈Ft
 |[],t,h=>by simp[pA,aAo,TK.isNone]at h
 |p::r,t,h=>by
  simp only[pA]at h|-;split
  .rename_i e;subst e;exact B4 ..
  .rename_i e;rw[if_neg e]at h;exact B8 _ (Bl h)
theorem Qy{P:Program}{Ft:List (Nat×cW)}(h:Zk P Ft=true):fW P (pA Ft):=λ_ a=>Tn (A5.1 h _ (Bl a))
def IW(T:TypeId->cW):TK->Bool
 | .slice e=> !(T e).k.isNone
 | .arr _ e=> !(T e).k.isNone
 | .struct fs=>fs.all λp=> !(T p.2).k.isNone
 |_=>true
def aAp(Ft:List (Nat×cW)):Bool:=Ft.all λp=>IW (pA Ft) p.2.k&&(p.2.eqk.isEmpty|| !p.2.k.isNone)
theorem To{Ft:List (Nat×cW)}(h:aAp Ft=true):Cd (pA Ft):=by
 have a:∀t,(pA Ft t).k.isNone=false->IW (pA Ft) (pA Ft t).k=true:=λt f=>by
  have:=A5.1 h _ (Bl f);simp only[A0]at this;exact this.1
 refine⟨λt f=>?_,λt e b=>?_,λt n e b=>?_,λt m g p d=>?_⟩
 .by_cases j:(pA Ft t).k.isNone=false
  .exact j
  .exfalso;have:∀l:List (Nat×cW),(∀p∈l,(p.2.eqk.isEmpty|| !p.2.k.isNone)=true)->(pA l t).k.isNone=true->(pA l t).eqk=[]:=by
    intro l;induction l with
    |nil=>intro _ _;rfl
    |cons p r ih=>
     intro i c;simp only[pA]at c|-;split
     .rename_i e;rw[if_pos e]at c;have:=i p (B4 ..);rw[c]at this;simpa using this
     .rename_i e;rw[if_neg e]at c;exact ih (λq k=>i q (B8 _ k)) c
   exact f (this Ft (λp d=>by have:=A5.1 h p d;simp only[A0]at this;exact this.2) (by simpa using j))
 .have:=a t (by rw[b];rfl);rw[b]at this;simpa [IW]using this
 .have:=a t (by rw[b];rfl);rw[b]at this;simpa [IW]using this
 .have:=a t (by rw[g];rfl);rw[g]at this;simp only[IW,A5]at this;simpa using this p d
section
open Go.RowKit
def fS(h H:dP):Prop:=∀id,h id=H id\/h id=.absent
def vJ(r r':kJ):Prop:=r.ok->r'.ok/\r'.v=r.v/\r'.up=r.up
section
variable{P:Program} {T:TypeId->cW} {h H:dP}
theorem vJ.refl(r:kJ):vJ r r:=λh=>⟨h,rfl,rfl⟩
theorem vJ.fail{a:kJ}:vJ .fail a:=λh=>h.elim
theorem tI(o:fS h H):∀(n:Nat) (l:LV) (x:DV),close h n l=some x->close H n l=some x/\bX H n l=bX h n l:=by
 intro n;induction n with
 |zero=>intro l x e;simp[close]at e
 |succ n ih=>
  intro l x e;have b:∀(a:List LV) (g:List DV),cS (a.map (close h n))=some g->cS (a.map (close H n))=some g/\a.flatMap (bX H n)=a.flatMap (bX h n):=by
   intro a;induction a with
   |nil=>intro g e;exact⟨e,rfl⟩
   |cons c a ihc=>
    intro g e;simp only[A2]at e;cases q:close h n c with
    |none=>rw[q]at e;cases e
    |some y=>
     rw[q]at e;simp only[cS,A4]at e;obtain⟨s,e,rfl⟩:=e;obtain⟨i,j⟩:=ihc s e;obtain⟨p,r⟩:=ih c y q;simp only[A2,p,cS,i,D6,D1,j,r,and_self]
  cases l with
  |d y=>exact⟨e,rfl⟩
  |agg a=>
   simp only[close,A4]at e;obtain⟨g,e,rfl⟩:=e;obtain⟨i,j⟩:=b a g e;simp[close,bX,i,j]
  |fn f a=>
   simp only[close,A4]at e;obtain⟨g,e,rfl⟩:=e;obtain⟨i,j⟩:=b a g e;simp[close,bX,i,j]
  |bm f a=>
   simp only[close,A4]at e;obtain⟨g,e,rfl⟩:=e;obtain⟨i,j⟩:=b a g e;simp[close,bX,i,j]
  |ow id k m=>
   simp only[close]at e;rcases o id with q|q
   .rw[q]at e;exact⟨e,rfl⟩
   .rw[q]at e;cases e
  |oc id k m c=>
   simp only[close]at e;rcases o id with q|q
   .rw[q]at e;exact⟨e,rfl⟩
   .rw[q]at e;cases e
  |bx id off=>
   simp only[close]at e;rcases o id with q|q
   .rw[q]at e;cases q2:H id with
    |box fz a=>
     rw[q2]at e;simp only[A4]at e;obtain⟨g,e,rfl⟩:=e;obtain⟨i,j⟩:=b _ g e;refine⟨by simp only[close,q2];rw[i];rfl,by simp only[bX,q,q2];rw[j]⟩
    |_=>rw[q2]at e;cases e
   .rw[q]at e;cases e
  |nl=>exact⟨e,rfl⟩
  |mp id=>
   simp only[close]at e;rcases o id with q|q
   .rw[q]at e;exact⟨e,rfl⟩
   .rw[q]at e;cases e
  |rp|it|tup|when|junk|sb=>simp[close]at e
theorem qX(d:fS h H)(n:Nat):∀{a:List LV} {b:List DV},cS (a.map (close h n))=some b->cS (a.map (close H n))=some b/\a.flatMap (bX H n)=a.flatMap (bX h n):=by
 intro a;induction a with
 |nil=>intro b e;exact⟨e,rfl⟩
 |cons c a ihc=>
  intro b e;simp only[A2]at e;cases q:close h n c with
  |none=>rw[q]at e;cases e
  |some y=>
   rw[q]at e;simp only[cS,A4]at e;obtain⟨k,e,rfl⟩:=e;obtain⟨f,g⟩:=ihc e;obtain⟨i,j⟩:=tI d n c y q;simp only[A2,i,cS,f,D6,D1,g,j,and_self]
theorem qY(n:Nat){b:List LV}{d:List DV}(e:cS (b.map (close H n))=some d):∀id∈b.flatMap (bX H n),(H id).live=true:=by
 intro id a;obtain⟨j,f⟩:=jF e;obtain⟨c,g,a⟩:=D4.1 a;obtain⟨i,h,rfl⟩:=C5 g;exact mS n _ _ (f i _ (d[i]'aD) (A1 h) (A1 aD)) id a
theorem eA(b:fS h H){id:Nat}(a:(h id).live=true):H id=h id:=by
 rcases b id with q|q
 .exact q.symm
 .rw[q]at a;cases a
theorem DO(b:fS h H){l:LV}(a:iX h l=true):iX H l=true:=by
 cases l<;>simp only[iX]at* <;>exact a
theorem iE(c:fS h H){a:List Nat}(b:∀id∈a,(h id).live=true):bP H a=bP h a:=by
 unfold bP;exact B1 λid hid=>by rw[eA c (b id hid)]
theorem vK(a:fS h H){l:LV}{x:DV}(e:close h 8 l=some x):bP H (bX h 8 l)=bP h (bX h 8 l):=iE a λid hid=>mS 8 l x e id hid
theorem tJ(a:fS h H){l:LV}{b:List DV}(e:jV h l=some b):jV H l=some b:=by
 unfold jV at*;split at e<;>try exact e
 .rename_i id k n;rcases a id with q|q
  .rw[<-q];exact e
  .rw[q]at e;cases e
 .rename_i id k n c;rcases a id with q|q
  .rw[<-q];exact e
  .rw[q]at e;cases e
theorem IX(b:fS h H){l:LV}{a:List DV}(e:rN h l=some a):rN H l=some a:=by
 unfold rN at*;split at e
 .cases e
 .exact tJ b e
theorem Qz(a:fS h H)(t:cW)(x:LV):vJ (nW h t x) (nW H t x):=by
 unfold nW;split
 .rename_i id off;rcases a id with q|q<;>rw[q]<;>first|exact .refl _|exact .fail
 .exact .refl _
 .rename_i id k j;rcases a id with q|q<;>rw[q]<;>first|exact .refl _|exact .fail
 .exact .refl _
theorem LL(b:fS h H)(t:cW)(x y:LV):vJ (iQ h t x y) (iQ H t x y):=by
 cases x with
 |bx id off=>
  simp only[iQ];rcases b id with q|q
  .rw[q];cases q2:H id with
   |box fz cs=>cases fz with
    |false=>exact λa=>⟨⟨a.1,a.2.1,DO b a.2.2⟩,rfl,rfl⟩
    |true=>exact .fail
   |_=>exact .fail
  .rw[q];exact .fail
 |rp id k j=>
  simp only[iQ];rcases b id with q|q
  .rw[q];cases q2:H id with
   |row fz s xs=>cases fz with
    |false=>
     simp only;cases q3:close h 8 y with
     |none=>exact .fail
     |some z=>
      obtain⟨c,d⟩:=tI b 8 y z q3;rw[c];simp only[d,vK b q3];exact .refl _
    |true=>exact .fail
   |_=>exact .fail
  .rw[q];exact .fail
 |_=>exact .refl _
theorem CM(c:fS h H){a:Nat}(i:h a=H a)(t:TypeId)(n:Nat)(b:List (Nat×LV)):vJ (eZ T h a t n b) (eZ T H a t n b):=by
 unfold eZ;split
 .have e:∀H:dP,(b.map λp=>close H 8 p.2)=(b.map (·.2)).map (close H 8):=λH=>by rw[E6];rfl
  have g:∀H:dP,(b.flatMap λp=>bX H 8 p.2)=(b.map (·.2)).flatMap (bX H 8):=λH=>by rw[F2]
  cases q:cS (b.map λp=>close h 8 p.2)with
  |none=>exact .fail
  |some xs=>
   rw[e]at q;obtain⟨d,f⟩:=qX c 8 q;rw[e,d];have j:=qY 8 q;simp only[g,f,iE c j,i];exact .refl _
 .exact .refl _
theorem Bn(c:fS h H){a:Nat}(i:h a=H a)(t:TypeId)(n:Nat)(b:List (Nat×LV)):vJ (eU T h a t n b) (eU T H a t n b):=by
 unfold eU;split
 .have e:∀H:dP,(b.map λp=>close H 8 p.2)=(b.map (·.2)).map (close H 8):=λH=>by rw[E6];rfl
  have g:∀H:dP,(b.flatMap λp=>bX H 8 p.2)=(b.map (·.2)).flatMap (bX H 8):=λH=>by rw[F2]
  cases q:cS (b.map λp=>close h 8 p.2)with
  |none=>exact .fail
  |some xs=>
   rw[e]at q;obtain⟨d,f⟩:=qX c 8 q;rw[e,d];have j:=qY 8 q;simp only[g,f,iE c j,i];exact .refl _
 .exact .refl _
theorem LM(b:fS h H)(s:TypeId)(x:LV)(f:Nat):vJ (lH T h s x f) (lH T H s x f):=by
 unfold lH;split
 .split
  .split
   .exact λa=>⟨⟨a.1,by rw[eA b a.2];exact a.2⟩,rfl,rfl⟩
   .exact λa=>⟨⟨a.1,by rw[eA b a.2];exact a.2⟩,rfl,rfl⟩
   .exact .refl _
   .exact .refl _
  .exact .refl _
 .exact .refl _
theorem DP(b:fS h H)(t:TypeId)(x i:LV):vJ (fO T h t x i) (fO T H t x i):=by
 unfold fO;split
 .exact .refl _
 .rename_i e id k n _ _ _;rcases b id with q|q<;>rw[q]<;>first|exact .refl _|exact .fail
 .rename_i e id k n c _ _ _;rcases b id with q|q<;>rw[q]<;>first|exact .refl _|exact .fail
 .exact λa=>⟨⟨a.1,a.2.1,by rw[eA b a.2.2.1];exact a.2.2⟩,rfl,rfl⟩
 .exact λa=>⟨⟨a.1,a.2.1,by rw[eA b a.2.2];exact a.2.2⟩,rfl,rfl⟩
 .exact λa=>⟨⟨a.1,a.2.1,by rw[eA b a.2.2];exact a.2.2⟩,rfl,rfl⟩
 .exact .refl _
 .exact .refl _
theorem LN(f:fS h H)(t:TypeId)(x:LV)(g d i:Option LV):vJ (lI T h t x g d i) (lI T H t x g d i):=by
 unfold lI;split
 .exact .refl _
 .exact .refl _
 .rename_i e id k n _;rcases f id with q|q<;>rw[q]<;>first|exact .refl _|exact .fail
 .exact .refl _
 .rename_i e id k n c _;rcases f id with q|q<;>rw[q]<;>first|exact .refl _|exact .fail
 .rename_i e id k n c _;cases iY 0 g<;>cases iY n d<;>cases i<;>first|exact .fail|exact λb=>⟨by have a:=b;simp only[kJ.cond]at a|-;rw[eA f a.2.2.2.1];exact a,rfl,rfl⟩
 .rename_i n e id off _;cases iY 0 g<;>cases iY n d<;>cases i<;>first|exact .fail|exact λb=>⟨by have a:=b;simp only[kJ.cond]at a|-;rw[eA f a.2.2.2.2.1];exact a,rfl,rfl⟩
 .exact .refl _
 .exact .refl _
theorem LO(b:fS h H)(t:TypeId)(x:LV):vJ (lR T h t x) (lR T H t x):=by
 unfold lR;split
 .exact .refl _
 .exact λa=>⟨⟨a.1,a.2.1,by rw[eA b a.2.2];exact a.2.2⟩,rfl,rfl⟩
 .exact .refl _
theorem IY(c:fS h H){a:Nat}(b:h a=H a)(t:TypeId)(s x:LV):vJ (jE T h a t s x) (jE T H a t s x):=by
 unfold jE;cases d:(T t).k with
 |slice e=>
  cases q1:jV h x with
  |none=>exact .fail
  |some ys=>
   rw[tJ c q1];simp only;cases s with
   |ow id k n=>simp only;rcases c id with q|q<;>rw[q]<;>first|(rw[b];exact .refl _)|exact .fail
   |nl=>simp only;rw[b];exact .refl _
   |_=>exact .fail
 |_=>exact .fail
theorem Fs(a:fS h H)(t:TypeId)(s x:LV):vJ (fY T h t s x) (fY T H t s x):=by
 unfold fY;cases b:(T t).k with
 |slice e=>
  cases q1:jV h x with
  |none=>exact .fail
  |some ys=>
   rw[tJ a q1];cases s with
   |ow id k n=>simp only;rcases a id with q|q<;>rw[q]<;>first|exact .refl _|exact .fail
   |_=>exact .fail
 |_=>exact .fail
theorem Hu(c:fS h H){a:Nat}(b:h a=H a)(t:TypeId)(s x:LV):vJ (lJ T h a t s x) (lJ T H a t s x):=by
 exact vJ.refl _
theorem Hv(e:fS h H){a:Nat}(d:h a=H a)(t:TypeId)(b c:Nat)(s x:LV):vJ (lK T h a t b c s x) (lK T H a t b c s x):=by
 exact vJ.refl _
theorem Hw(f:fS h H){a:Nat}(e:h a=H a)(d:h (a+1000)=H (a+1000))(t:TypeId)(b c:Nat)(v:Value)(s x:LV):vJ (nX T h a t b c v s x) (nX T H a t b c v s x):=by
 exact vJ.refl _
theorem Hx(d:fS h H){a:Nat}(c:h a=H a)(t:TypeId)(b:Nat)(s x:LV):vJ (nY T h a t b s x) (nY T H a t b s x):=by
 exact vJ.refl _
theorem Hy(c:fS h H){a:Nat}(b:h a=H a)(t:TypeId)(s x:LV):vJ (lL T h a t s x) (lL T H a t s x):=by
 exact vJ.refl _
theorem QA(a:fS h H)(t:TypeId)(x:LV):vJ (sE T h t x) (sE T H t x):=by
 exact vJ.refl _
theorem QB(a:fS h H)(t:TypeId)(s x:LV):vJ (sD T h t s x) (sD T H t s x):=by
 exact vJ.refl _
theorem LP(a:fS h H)(t:TypeId)(s x:LV):vJ (pP T h t s x) (pP T H t s x):=by
 exact vJ.refl _
theorem LQ(a:fS h H)(t:TypeId)(s x:LV):vJ (fP T h t s x) (fP T H t s x):=by
 unfold fP;split
 .rename_i e id k n c bs _;rcases a id with q|q<;>rw[q]<;>first|exact .refl _|exact .fail
 .exact .refl _
theorem LR(a:fS h H)(t:TypeId)(x:LV):vJ (lM T h t x) (lM T H t x):=by
 unfold lM;split
 .rename_i id k n _;rcases a id with q|q<;>rw[q]<;>first|exact .refl _|exact .fail
 .rename_i id k n c _;rcases a id with q|q<;>rw[q]<;>first|exact .refl _|exact .fail
 .exact .refl _
theorem Tp(d:fS h H)(t:TypeId)(x:LV)(b a c:Option LV):vJ (xK T h t x b a c) (xK T H t x b a c):=by
 exact vJ.refl _
theorem Tq(b:fS h H)(t:TypeId)(a c:Nat)(x:LV):vJ (xL T h t a c x) (xL T H t a c x):=by
 exact vJ.refl _
theorem QC(b:fS h H){x:LV}{n:Nat}(e:IB h x=some n):IB H x=some n:=by
 unfold IB at*;split at e<;>try exact e
 split at e
 .rename_i a;rw[eA b a];rw[if_pos a];exact e
 .cases e
theorem Tr(c:fS h H)(t:TypeId)(e b:Bool)(a:BinOp)(x:LV):vJ (nQ T h t e b a x) (nQ T H t e b a x):=by
 unfold nQ;cases q:IB h x with
 |none=>split<;>simp_all<;>exact .fail
 |some n=>rw[QC c q];exact .refl _
theorem Ts(c:fS h H)(t:TypeId)(x:LV):vJ (qS T h t x) (qS T H t x):=by
 unfold qS;split
 .exact .refl _
 .exact .refl _
 .exact λb=>⟨by have a:=b;simp only[kJ.cond]at a|-;rw[eA c a];exact a,rfl,rfl⟩
 .exact λb=>⟨by have a:=b;simp only[kJ.cond]at a|-;rw[eA c a];exact a,rfl,rfl⟩
 .exact λb=>⟨by have a:=b;simp only[kJ.cond]at a|-;rw[eA c a];exact a,rfl,rfl⟩
 .exact .refl _
 .exact .refl _
 .exact .refl _
 .rename_i id _;rcases c id with q|q<;>rw[q]<;>first|exact .refl _|exact .fail
 .exact .refl _
theorem LS(a:fS h H){x:LV}{p:List DV×List DV}(e:rY h x=some p):rY H x=some p:=by
 unfold rY at*;split at e<;>try exact e
 rename_i id;rcases a id with q|q
 .rw[<-q];exact e
 .rw[q]at e;cases e
theorem IZ(b:fS h H)(t:TypeId)(x i:LV)(a:Bool):vJ (cZ T h t x i a) (cZ T H t x i a):=by
 unfold cZ;cases q:rY h x with
 |none=>split<;>simp_all<;>exact .fail
 |some p=>rw[LS b q];exact .refl _
theorem vM(a:fS h H)(t:TypeId)(m k x:LV):vJ (cM T h t m k x) (cM T H t m k x):=by
 unfold cM;split
 .rename_i id _ _ _;rcases a id with q|q<;>rw[q]<;>first|exact .refl _|exact .fail
 .exact .refl _
theorem fS.frozen(a:fS h H){l:LV}{x:DV}(e:close h 8 l=some x):fS (cD h (bP h (bX h 8 l))) (cD H (bP h (bX h 8 l))):=λid=>by
 simp only[fD];cases dD (bP h (bX h 8 l)) id with
 |none=>exact a id
 |some o=>exact .inl rfl
theorem Ci(a:fS h H)(t:TypeId)(m k x:LV):vJ (iB T h t m k x) (iB T H t m k x):=by
 unfold iB;split
 .exact vM a _ _ _ _
 .cases q:close h 8 x with
  |none=>exact .fail
  |some v=>
   obtain⟨q2,q3⟩:=tI a 8 _ _ q;simp only[q2,q3,vK a q];have r:=vM (T:=T) (a.frozen q) t m k (.d v);intro b;obtain⟨c,d,e⟩:=r b;exact⟨c,d,by simp only[];rw[e]⟩
theorem Ja(a:fS h H)(t:TypeId)(m k:LV):vJ (pU T h t m k) (pU T H t m k):=by
 exact vJ.refl _
theorem zN(j:fS h H){σ:List (Nat×Nat)}{a:List Nat}:∀(d:List LV) (i:Nat) (c:List LV),lN h σ a i d=some c->lN H σ a i d=some c/\lQ H a i d=lQ h a i d/\∀id∈lQ h a i d,(h id).live=true
 |[],i,c,e=>⟨e,rfl,by simp[lQ]⟩
 |l::r,i,c,e=>by
  simp only[lN]at e|-;cases q:lN h σ a (i+1) r with
  |none=>rw[q]at e;cases e
  |some r'=>
   obtain⟨o,p,g⟩:=zN j r (i+1) r' q;rw[q]at e;simp only at e;rw[o];simp only[lQ,p];by_cases f:a.contains i=true
   .rw[if_pos f,A4]at e;obtain⟨x,k,rfl⟩:=e;obtain⟨m,n⟩:=tI j 8 l x k;simp only[if_pos f,m,n];refine⟨by first|rfl|trivial,by first|rfl|trivial,λid b=>?_⟩;rcases C4.1 b with b|b
    .exact mS 8 l x k id b
    .exact g id b
   .rw[if_neg f]at e;simp only[if_neg f];exact⟨e,by first|rfl|trivial,λid b=>g id (by simpa using b)⟩
theorem QD(a:fS h H)(s t:TypeId)(x:LV):vJ (aO T h s t x) (aO T H s t x):=by
 unfold aO;split
 .exact .refl _
 .exact .refl _
 .exact .refl _
 .rename_i b _ _ _ e _ _;cases q1:rN h b with
  |none=>cases(T e).k<;>try exact .fail
         rename_i k;cases k<;>exact .fail
  |some ys=>rw[IX a q1];exact .refl _
 .exact .refl _
theorem FP:∀(b:List RV) (d:Nat),∀p∈cU d b,∃i,p.1=d+1000*i
 |[],d,p,a=>by simp[cU]at a
 |r::b,d,p,a=>by
  simp only[cU,C4]at a;rcases a with a|a
  .cases r<;>simp[mR]at a;exact⟨0,by rw[a];simp⟩
  .obtain⟨i,c⟩:=FP b (d+1000) p a;exact⟨i+1,aD⟩
theorem FQ(v:RV)(d:Nat):∀p∈iC d v,∃i,p.1=d+1000*i:=by
 intro p a;cases v with
 |tup rs=>exact FP rs d p a
 |d x=>simp[iC,mR]at a
 |own s xs=>simp[iC,mR]at a;exact⟨0,by rw[a];simp⟩
theorem QE(j:fS h H)(r:Option jU){d:Nat}(o:∀i,h (d+1000*i)=H (d+1000*i))(f:LV)(e:List LV):vJ (dB P h r d f e) (dB P H r d f e):=by
 unfold dB;split
 .rename_i k c r _;cases q:cS ((e++c).map (close h 8))with
  |none=>exact .fail
  |some asl=>
   obtain⟨t,u⟩:=qX j 8 q;rw[t];have z:=qY 8 q;simp only[u,iE j z];exact λb=>⟨⟨b.1,λp a=>by obtain⟨i,m⟩:=FQ r.v d p a;rw[m,<-o i,<-m];exact b.2 p a⟩,rfl,rfl⟩
 .rename_i k c g _;cases q:lN h g.σ g.shut 0 (e++c)with
  |none=>exact .fail
  |some asl=>
   obtain⟨w,x,y⟩:=zN j _ _ _ q;rw[w];intro b;simp only at b;obtain⟨A,l,B,C,n,D⟩:=b;have v:(g.σ.map λp=>(p.2,cX g.σ (H p.1)))=g.σ.map λp=>(p.2,cX g.σ (h p.1)):=B1 λp a=>by rw[eA j (l p a)]
   simp only[x,iE j y,v];refine⟨⟨A,λp a=>by rw[eA j (l p a)];exact l p a,B,C,λp a=>⟨?_,(n p a).2⟩,D⟩,trivial,trivial⟩;obtain⟨s,F,G⟩:=n p a;have:p.2=d+1000*((p.2-d) / 1000):=aD;rw[this,<-o,<-this];exact s
 .rename_i k c E I r _;cases q:cS ((e++c).map (close h 8))with
  |none=>exact .fail
  |some asl=>
   obtain⟨t,u⟩:=qX j 8 q;rw[t];have z:=qY 8 q;simp only[u,iE j z];exact λb=>⟨⟨b.1,b.2.1,λp a=>by obtain⟨i,m⟩:=FQ r.v d p a;rw[m,<-o i,<-m];exact b.2.2 p a⟩,rfl,rfl⟩
 .rename_i k c g _ _;cases q:lN h g.σ g.shut 0 (e++c)with
  |none=>exact .fail
  |some asl=>
   obtain⟨w,x,y⟩:=zN j _ _ _ q;rw[w];intro b;simp only at b;obtain⟨A,l,B,C,n,D⟩:=b;have v:(g.σ.map λp=>(p.2,cX g.σ (H p.1)))=g.σ.map λp=>(p.2,cX g.σ (h p.1)):=B1 λp a=>by rw[eA j (l p a)]
   simp only[x,iE j y,v];refine⟨⟨A,λp a=>by rw[eA j (l p a)];exact l p a,B,C,λp a=>⟨?_,(n p a).2⟩,D⟩,trivial,trivial⟩;obtain⟨s,F,G⟩:=n p a;have:p.2=d+1000*((p.2-d) / 1000):=aD;rw[this,<-o,<-this];exact s
 .exact .refl _
theorem LT(b:fS h H)(f:LV)(a:List LV):vJ (pQ P T h f a) (pQ P T H f a):=by
 exact vJ.refl _
theorem DQ(a:fS h H)(g:Operand->LV)(r:Option jU)(o:Oper)(p:∀i,h (o.dst.getD 0+1000*i)=H (o.dst.getD 0+1000*i)):vJ (cC P T h g r o) (cC P T H g r o):=by
 have d:h (o.dst.getD 0)=H (o.dst.getD 0):=by simpa using p 0
 obtain⟨B,z,A,C,q,v⟩:=o;cases z<;>simp only[cC]<;>simp only at p d<;>first|exact .refl _|skip
 case assign x=>simp only[Option.getD]at d|-;rw[d];exact .refl _
 try(case sliceToArrayPointer t x=>exact LO a _ _)
 case alloc t=>rw[d];exact .refl _
 case box t x=>exact λj=>⟨⟨by rw[<-d];exact j.1,DO a j.2⟩,rfl,rfl⟩
 case buildSlice t n ps=>
  split
  .exact Bn a d _ _ _
  .exact CM a d _ _ _
 case load t x=>split;exact .refl _;exact Qz a _ _
 case store t x y=>split;exact .refl _;exact LL a _ _ _
 case nilCheck x=>
  split
  .exact λj=>⟨by have e:=j;simp only[kJ.cond]at e|-;rw[eA a e];exact e,rfl,rfl⟩
  .exact λj=>⟨by have e:=j;simp only[kJ.cond]at e|-;rw[eA a e];exact e,rfl,rfl⟩
  .exact .refl _
  .exact .refl _
  .exact .refl _
  .exact .refl _
 case convert s t x=>exact QD a _ _ _
 case makeFunc fn first cs=>cases fn<;>exact .refl _
 case slice t x lo hi mx=>
  split
  .exact .refl _
  .split
   .exact Tp a _ _ _ _ _
   .exact LN a _ _ _ _ _
 case binOp z t x y u=>
  split
  .exact .refl _
  .split
   .exact Tr a _ _ _ _ _
   .exact .refl _
  .exact .refl _
 case fieldAddr s x f=>exact LM a _ _ _
 case makeMap t r=>cases r<;>simp only[]<;>first|exact .refl _|(unfold lG;rw[d];exact .refl _)
 case lookup t x i ok=>exact IZ a _ _ _ _
 case mapUpdate t m k x=>exact Ci a _ _ _ _
 case insert t m k x=>exact Ci a _ _ _ _
 case range t x=>
  split
  .unfold pO;split
   .rw[d];exact .refl _
   .exact .refl _
  .exact .refl _
 case indexAddr t x i=>exact DP a _ _ _
 case call c=>
  obtain⟨l,w,D⟩:=c;cases l with
  |value f=>
   simp only;split
   .exact LT a _ _
   .exact QE a r p _ _
  |invoke r m=>exact .refl _
  |builtin b=>
   simp only;split
   .exact Ts a _ _
   .split
    .split
     .exact Fs a _ _ _
     .exact Hv a d _ _ _ _ _
     .exact Hw a d (by simpa using p 1) _ _ _ _ _ _
     .exact Hx a d _ _ _ _
     .split
      .exact Hu a d _ _ _
      .exact IY a d _ _ _
    .split
     .exact Hy a d _ _ _
     .exact .refl _
   .split
    .exact Tq a _ _ _ _
    .exact QA a _ _
   .exact LR a _ _
   .split
    .exact LP a _ _ _
    .split
     .exact LQ a _ _ _
     .exact QB a _ _ _
   .exact .refl _
   .exact .refl _
   .exact Ja a _ _ _
   .exact .refl _
theorem Xq(b:fS h H)(g:Operand->LV)(r:Option jU)(o:Oper)(a:∀i,h (o.dst.getD 0+1000*i)=H (o.dst.getD 0+1000*i)):vJ (iT P T h g r o) (iT P T H g r o):=by
 unfold iT;split
 .exact .refl _
 .exact DQ b _ r o a
end
end
section
open Go.RowKit
def jI(hide:List Nat)(H:dP):dP:=λid=>if hide.contains (id%1000)then .absent else H id
def yV(wr:List Nat)(p:Nat×bJ):Bool:=wr.contains (p.1%1000)
def jA(P:Program)(T:TypeId->cW)(N:Nat)(slots:Nat->Option Nat)(orc:Nat->Option jU)(hide wr:List Nat)(st:uF)(o:Oper):uF:=
 let r:=iZ P T slots st.env (jI hide st.H) (orc (o.dst.getD 0)) o
 {env:=mK st.env o.dst r.v
  H:=cD st.H (r.up.filter (yV wr))
  ok:=st.ok/\r.ok/\Ce N o.dst/\∀p∈r.up,yV wr p=true}
section
variable{P:Program} {T:TypeId->cW} {N:Nat} {w0:dE} {X:Nat->Prop} {β:Nat->Option Nat} {w:World} {a:Act} {o:Oper}
theorem QF(a:List Nat)(H:dP):fS (jI a H) H:=λid=>by
 unfold jI;split
 .exact .inr rfl
 .exact .inl rfl
theorem Jb(hT:fW P T)(hW:Cd T){ops:Array Oper}{f:Nat->Option Nat}(Y:∀j d,f j=some d->(ops[j]?).bind (·.dst)=some d/\d<N){r:Option jU}{c I:List Nat}(hd:c.contains (o.dst.getD 0%1000)=false){n:uF}
 (s:mG N w0 X n.env n.H β a w)(k:xN r r)(y:∀b,xN r b->(jA P T N f (λ_=>b) c I n o).ok){K:Act->World->Prop}{Q:Exit->Act->World->Prop}
 (x:∀b,xN r b->∀C z A,mG N w0 X (jA P T N f (λ_=>b) c I n o).env (jA P T N f (λ_=>b) c I n o).H A C z->K C z):
 if Region.wanted o (yielded ops a.tmps)then o.wp P a w K Q\/(o.asks P a w/\LetsOut Q)else K (a.put o.dst undef) w:=by
 have hp:=QF c n.H;have E:∀i,jI c n.H (o.dst.getD 0+1000*i)=n.H (o.dst.getD 0+1000*i):=λi=>by
  unfold jI;rw[if_neg (by rw[Nat.add_mul_mod_self_left,hd];simp)]
 have g:=λb h=>(y b h).2.1;have B:=λb h=>(y b h).2.2.2;have t:=(y r k).2.2.1;clear y;simp only[jA]at x g B;have G:∀l:List (Nat×bJ),(∀p∈l,yV I p=true)->l.filter (yV I)=l:=λl hl=>List.filter_eq_self.2 hl;have x:∀b,xN r b->∀C z A,mG N w0 X (mK n.env o.dst (iZ P T f n.env (jI c n.H) b o).v) (cD n.H (iZ P T f n.env (jI c n.H) b o).up) A C z->K C z:=λb h C z A s'=>x b h C z A (by rw[G _ (B b h)];exact s');cases L:o.guard with
 |none=>
  have e:∀r,iZ P T f n.env (jI c n.H) r o=cC P T (jI c n.H) (kK n.env) r o:=λr=>by unfold iZ;rw[L]
  simp only[e]at x g;have u:=λb h=>DQ hp (kK n.env) b o E (g b h);rw[if_pos (by simp[Region.wanted,L])];left;refine DK hT hW s.mem s.get k (λb h=>(u b h).1) K Q ?_;rintro Z ⟨b,D,rfl⟩ v z A m J H;obtain⟨_,M,O⟩:=u b D;refine x b D _ _ A ?_;rw[<-M,<-O];exact s.put m J H t
 |some p=>
  obtain⟨j,a0⟩:=p;unfold iZ at x g;simp only[L]at x g;have q:=g r k;split at q
  .rename_i ec F;simp only[F]at x g;obtain⟨q1,q2⟩:=q;obtain⟨d,S,U⟩:=A4.1 F;obtain⟨V,W⟩:=Y j d S;rw[DL s V W U L];cases ec with
   |true=>
    simp only[if_true];left;have u:=λb h=>Xq hp (kK n.env) b o E ((g b h).1 rfl);refine IR hT hW s.mem s.get k (λb h=>(u b h).1) (q2 rfl) K Q ?_;rintro Z ⟨b,D,rfl⟩ v z A m J H;obtain⟨_,M,O⟩:=u b D;refine x b D _ _ A ?_;rw[O]at m J H;rw[M]at H;exact s.put m J (.when true _ v (λ_=>H) (λh=>by cases h)) t
   |false=>
    simp only[C1,if_false];exact x r k _ _ β (s.put s.mem fB.refl (.when false _ undef (λh=>by cases h) (λ_=>rfl)) t)
  .exact q.elim
theorem LU{b a:eG}{c:Array Oper}(h:∀d∈o.looksAt c,b d=a d):∀x∈o.op.operands,kK b x=kK a x:=by
 intro x e;cases x with
 |tmp t=>exact h t (by unfold Oper.looksAt;exact C4.2 (.inl (List.mem_filterMap.2 ⟨.tmp t,by simpa using e,rfl⟩)))
 |_=>rfl
theorem Av:∀x∈kP o.op,x∈o.op.operands:=by
 intro x a;unfold kP at a;split at a
 .rename_i e;simp at a;rw[e,a];simp[Op.operands]
 .simpa using a
theorem Hz{h:dP}{g b:Operand->LV}{r:Option jU}(e:∀x∈o.op.operands,g x=b x):iT P T h g r o=iT P T h b r o:=by
 unfold iT;split
 .rename_i c x y a;rw[e c (by rw[a];simp[Op.operands]),e x (by rw[a];simp[Op.operands]),e y (by rw[a];simp[Op.operands])]
 .exact tD λx d=>by rw[e x d]
theorem Cj{l:List Oper}{env a:eG}{h:dP}{r:Option jU}(e:∀d∈o.looksAt l.toArray,env d=a d):iZ P T (cT N l) env h r o=iZ P T (cT N l) a h r o:=by
 have f:=LU e;unfold iZ;cases m:o.guard with
 |none=>exact tD f
 |some p=>
  obtain⟨j,b⟩:=p;simp only;have g:((cT N l j).map λd=>Bk b (env d))=(cT N l j).map λd=>Bk b (a d):=by
   cases q:cT N l j with
   |none=>rfl
   |some d=>
    have k:=(mW N l j d q).1;have:env d=a d:=e d (by unfold Oper.looksAt;rw[m];exact C4.2 (.inr (by simp only;rw[k];simp)));simp only[D6,this]
  rw[g,Hz f];have i:(∀x∈kP o.op,FN (kK env x)=true)=∀x∈kP o.op,FN (kK a x)=true:=by
   apply propext;exact⟨λh x c=>by rw[<-f x (Av x c)];exact h x c,λh x c=>by rw[f x (Av x c)];exact h x c⟩
  rw[i]
def Xr(hide1 wr1 hide2 wr2:List Nat):Bool:=wr1.all (λx=>hide2.contains x&& !wr2.contains x)&&wr2.all (λx=>hide1.contains x)
theorem oB(H:dP)(l:List (Nat×bJ))(b:List Nat)(id:Nat)(h:b.contains (id%1000)=false):cD H (l.filter (yV b)) id=H id:=by
 rw[fD];have:dD (l.filter (yV b)) id=none:=by
  induction l with
  |nil=>rfl
  |cons p r ih=>
   by_cases a:yV b p=true
   .rw[List.filter_cons_of_pos a];simp only[dD];rw[if_neg (λe=>by unfold yV at a;rw[<-e,h]at a;cases a)];exact ih
   .rw[List.filter_cons_of_neg a];exact ih
 rw[this];rfl
theorem FR(H:dP)(l:List (Nat×bJ)){c a:List Nat}(h:∀x∈c,a.contains x=true):jI a (cD H (l.filter (yV c)))=jI a H:=by
 funext id;unfold jI;by_cases b:a.contains (id%1000)=true
 .rw[if_pos b,if_pos b]
 .rw[if_neg b,if_neg b];refine oB H l c id ?_;cases q:c.contains (id%1000)with
  |false=>rfl
  |true=>exact absurd (h _ (by simpa using q)) b
theorem QG(H:dP)(c d:List (Nat×bJ)){a b:List Nat}(h:∀x∈a,b.contains x=false):cD (cD H (c.filter (yV a))) (d.filter (yV b))=cD (cD H (d.filter (yV b))) (c.filter (yV a)):=by
 funext id;cases q1:a.contains (id%1000)with
 |false=>
  rw[oB _ c a id q1,fD _ id,oB H c a id q1,fD _ id]
 |true=>
  have q2:b.contains (id%1000)=false:=h _ (by simpa using q1);rw[oB _ d b id q2,fD (c.filter _) id,fD (c.filter _) id,oB H d b id q2]
theorem Jc(c:eG){a b:Option Nat}(g i:LV)(h:∀d,a=some d->b≠some d):mK (mK c a g) b i=mK (mK c b i) a g:=by
 cases a with
 |none=>rfl
 |some a=>
  cases b with
  |none=>rfl
  |some b=>
   have:a≠b:=λe=>h a rfl (by rw[e]);funext j;simp only[mK,cQ];by_cases f:j=a
   .subst f;rw[if_neg this];simp
   .rw[if_neg f,if_neg f]
theorem FS(env:eG){a:Option Nat}(v:LV){d:Nat}(h:a≠some d):mK env a v d=env d:=by
 cases a with
 |none=>rfl
 |some a=>simp only[mK,cQ];rw[if_neg (λe=>h (by rw[e]))]
theorem LW{l:List Oper}{b:Nat->Option jU}{m k:Oper}{c i a j:List Nat}(s:m.apart l.toArray k=true)(z:Xr c i a j=true)(g:uF):
 jA P T N (cT N l) b a j (jA P T N (cT N l) b c i g m) k=jA P T N (cT N l) b c i (jA P T N (cT N l) b a j g k) m:=by
 obtain⟨B,C,D⟩:=Oper.apart_spec s;simp only[Xr,A0,A5]at z;obtain⟨A,E⟩:=z;have F:∀x∈i,a.contains x=true:=λx u=>(A x u).1;have G:∀x∈i,j.contains x=false:=λx u=>by simpa using(A x u).2
 have y:iZ P T (cT N l) (jA P T N (cT N l) b c i g m).env (jI a (jA P T N (cT N l) b c i g m).H) (b (k.dst.getD 0)) k=iZ P T (cT N l) g.env (jI a g.H) (b (k.dst.getD 0)) k:=by
  simp only[jA];rw[FR _ _ F];exact Cj λd t=>FS _ _ (λe=>B d e t)
 have w:iZ P T (cT N l) (jA P T N (cT N l) b a j g k).env (jI c (jA P T N (cT N l) b a j g k).H) (b (m.dst.getD 0)) m=iZ P T (cT N l) g.env (jI c g.H) (b (m.dst.getD 0)) m:=by
  simp only[jA];rw[FR _ _ E];exact Cj λd t=>FS _ _ (λe=>D d e t)
 have f:∀(h v:List Nat) (g:uF) (o:Oper),jA P T N (cT N l) b h v g o={env:=mK g.env o.dst (iZ P T (cT N l) g.env (jI h g.H) (b (o.dst.getD 0)) o).v,H:=cD g.H ((iZ P T (cT N l) g.env (jI h g.H) (b (o.dst.getD 0)) o).up.filter (yV v)),ok:=g.ok/\(iZ P T (cT N l) g.env (jI h g.H) (b (o.dst.getD 0)) o).ok/\Ce N o.dst/\∀p∈(iZ P T (cT N l) g.env (jI h g.H) (b (o.dst.getD 0)) o).up,yV v p=true}:=λ_ _ _ _=>rfl;rw[f a j,f c i (jA P T N (cT N l) b a j g k),w,y];clear w y;simp only[jA];clear f;generalize iZ P T (cT N l) g.env (jI c g.H) (b (m.dst.getD 0)) m=r1;generalize iZ P T (cT N l) g.env (jI a g.H) (b (k.dst.getD 0)) k=r2;congr 1
 .exact Jc _ _ _ C
 .exact QG _ _ _ G
 .refine propext ⟨?_,?_⟩
  .rintro⟨⟨n,q⟩,r⟩;exact⟨⟨n,r⟩,q⟩
  .rintro⟨⟨n,q⟩,r⟩;exact⟨⟨n,r⟩,q⟩
def SL(S:Nat->Bool)(i:Nat):Nat->Bool:=λj=>S j||j==i
def gK(f:uF->Nat->uF)(S:Nat->Bool)(st:uF):Nat->uF
 |0=>st
 |n+1=>if S n then f (gK f S st n) n else gK f S st n
def uG(S:Nat->Bool):Nat->Nat
 |0=>0
 |n+1=>uG S n+(if S n then 0 else 1)
theorem gZ{f:uF->Nat->uF}{S S':Nat->Bool}{a:uF}:∀n,(∀j,j<n->S j=S' j)->gK f S a n=gK f S' a n
 |0,_=>rfl
 |n+1,h=>by
  simp only[gK];rw[h n (F3 n),gZ n λj b=>h j (E7 b)]
theorem vN{S S':Nat->Bool}:∀n,(∀j,j<n->S j=S' j)->uG S n=uG S' n
 |0,_=>rfl
 |n+1,h=>by
  simp only[uG];rw[h n (F3 n),vN n λj a=>h j (E7 a)]
theorem Bo{S:Nat->Bool}{i j:Nat}(h:j≠i):SL S i j=S j:=by simp[SL,h]
theorem LY{S:Nat->Bool}{i:Nat}:SL S i i=true:=by simp[SL]
theorem Bp{f:uF->Nat->uF}{S:Nat->Bool}{a:uF}{i:Nat}(b:S i=false):∀n,i<n->(∀j,i<j->j<n->S j=true->∀a,f (f a i) j=f (f a j) i)->gK f (SL S i) a n=f (gK f S a n) i
 |0,h,_=>absurd h (D7 i)
 |n+1,h,hc=>by
  simp only[gK];by_cases e:n=i
  .subst e;rw[LY,if_pos rfl,b,if_neg bA,gZ n λj d=>Bo (E8 d)]
  .rw[Bo e,Bp b n aD λj c g=>hc j c aD];cases q:S n with
   |true=>rw[if_pos rfl,if_pos rfl,hc n aD aD q]
   |false=>rfl
theorem FT{S:Nat->Bool}{i:Nat}(a:S i=false):∀n,i<n->uG (SL S i) n+1=uG S n
 |0,h=>absurd h (D7 i)
 |n+1,h=>by
  simp only[uG];by_cases e:n=i
  .subst e;rw[LY,if_pos rfl,a,if_neg bA,vN n λj b=>Bo (E8 b)]
  .rw[Bo e];have:=FT a n aD;omega
theorem DR{S:Nat->Bool}:∀n,uG S n=0->∀j,j<n->S j=true
 |0,_,j,h=>absurd h (D7 j)
 |n+1,h,j,hj=>by
  simp only[uG]at h;by_cases e:j=n
  .subst e;cases q:S j with|true=>rfl|false=>rw[q]at h;simp at h
  .exact DR n aD j aD
theorem Jd{f:uF->Nat->uF}(p:∀a i,(f a i).ok->a.ok){c:Nat->List Nat}{n:Nat}(d:∀j,j<n->∀i∈c j,i<j)(o:∀i j,i<j->j<n->i∉c j->∀a,f (f a i) j=f (f a j) i)
 {S:Nat->Bool}(l:∀j,j<n->S j=true->∀i∈c j,S i=true){a:uF}:∀m,m<=n->(gK f (λj=>S j||decide (j<m)) a n).ok->(gK f S a n).ok
 |0,_,h=>by
  rw[gZ n (S':=S) λj _=>bA]at h;exact h
 |m+1,hm,h=>by
  refine Jd p d o l m aD ?_;cases q:S m with
  |true=>
   rw[gZ n (S':=λj=>S j||decide (j<m+1)) λj _=>?_]
   .exact h
   .by_cases e:j=m
    .subst e;simp[q]
    .have:(j<m+1)=(j<m):=by apply propext;omega
     simp only[this]
  |false=>
   have e:gK f (λj=>S j||decide (j<m+1)) a n=gK f (SL (λj=>S j||decide (j<m)) m) a n:=gZ n λj _=>by
    unfold SL;by_cases e:j=m
    .subst e;simp
    .have:(j<m+1)=(j<m):=by apply propext;omega
     simp only[this];simp[e]
   rw[e,Bp (by simp[q]) n aD λj r k b=>o m j r k λg=>?_]at h
   .exact p _ _ h
   .simp only[D8,decide_eq_true_eq]at b;rcases b with b|b
    .rw[l j k b m g]at q;cases q
    .omega
def jJ(P:Program)(T:TypeId->cW)(N:Nat)(l:List Oper)(orc:Nat->Option jU)(hide wr:Nat->List Nat)(st:uF)(i:Nat):uF:=
 match l[i]? with
 |some o=>jA P T N (cT N l) orc (hide i) (wr i) st o
 |none=>st
def DS(l:List Oper)(cl hide wr:Nat->List Nat):Bool:=(G2 l.length).all λj=>match l[j]? with
 |none=>true
 |some o=>
  o.after.all (λe=> !Region.binds .any e||decide (e.on<j))&&
  (cl j).all (λi=>decide (i<j)&&o.after.any (λe=>Region.binds .any e&&(e.on==i||(cl e.on).contains i)))&&
  !(hide j).contains (o.dst.getD 0%1000)&&
  (G2 j).all (λi=>(cl j).contains i||match l[i]? with
    |none=>true
    |some o'=>o'.apart l.toArray o&&Xr (hide i) (wr i) (hide j) (wr j))
section
variable{l:List Oper} {cl hide wr:Nat->List Nat} {orc:Nat->Option jU}
structure Tt(l:List Oper)(cl hide wr:Nat->List Nat):Prop where
 edge:∀j o,l[j]? =some o->∀e∈o.after,Region.binds .any e=true->e.on<j
 low:∀j,j<l.length->∀i∈cl j,i<j
 clo:∀j o,l[j]? =some o->∀i∈cl j,∃e∈o.after,Region.binds .any e=true/\(e.on=i\/i∈cl e.on)
 dst:∀j o,l[j]? =some o->(hide j).contains (o.dst.getD 0%1000)=false
 sep:∀i j o' o,i<j->l[i]? =some o'->l[j]? =some o->i∉cl j->o'.apart l.toArray o=true/\Xr (hide i) (wr i) (hide j) (wr j)=true
theorem QH(h:DS l cl hide wr=true):Tt l cl hide wr:=by
 have k:∀j o,l[j]? =some o->_:=λj o a=>by
  have d:=A5.1 h j (F7.2 (A8.1 a).1);rw[a]at d;simp only[A0]at d;exact d
 refine⟨λj o a e b g=>?_,λj a i c=>?_,λj o a i c=>?_,λj o a=>?_,λi j r o f c a m=>?_⟩
 .have:=Array.all_eq_true_iff_forall_mem.1 (k j o a).1.1.1 e b;simpa [g]using this
 .obtain⟨o,n⟩:∃o,l[j]? =some o:=⟨_,A1 a⟩;have:=A5.1 (k j o n).1.1.2 i c;simp only[A0,decide_eq_true_eq]at this;exact this.1
 .have:=A5.1 (k j o a).1.1.2 i c;simp only[A0,decide_eq_true_eq]at this;obtain⟨p,q,b⟩:=Array.any_eq_true.1 this.2;simp only[A0,D8,beq_iff_eq,D9]at b;exact⟨_,Array.getElem_mem q,b.1,b.2⟩
 .simpa using(k j o a).1.2
 .have:=A5.1 (k j o a).2 i (F7.2 f);simp only[D8,D9,c,A0]at this;exact this.resolve_left m
theorem LZ(a:uF)(i:Nat)(h:(jJ P T N l orc hide wr a i).ok):a.ok:=by
 unfold jJ at h;split at h
 .exact h.1
 .exact h
theorem Tt.comm(A:Tt l cl hide wr)(i j:Nat)(b:i<j)(g:j<l.length)(h:i∉cl j)(c:uF):
 jJ P T N l orc hide wr (jJ P T N l orc hide wr c i) j=jJ P T N l orc hide wr (jJ P T N l orc hide wr c j) i:=by
 obtain⟨o,d⟩:∃o,l[j]? =some o:=⟨_,A1 g⟩;obtain⟨k,a⟩:∃o,l[i]? =some o:=⟨_,A1 aD⟩;unfold jJ;simp only[d,a];obtain⟨e,f⟩:=A.sep i j k o b a d h;exact LW e f c
def yW(P:Program)(T:TypeId->cW)(N:Nat)(l:List Oper)(orc:Nat->Option jU)(hide wr:Nat->List Nat)(st:uF):uF:=gK (jJ P T N l orc hide wr) (λ_=>true) st l.length
theorem DT{f b:uF->Nat->uF}{S:Nat->Bool}{c:Nat}{a:uF}(h:∀q,S q=true->q<c->∀a,f a q=b a q):∀n,n<=c->gK f S a n=gK b S a n
 |0,_=>rfl
 |n+1,hn=>by
  simp only[gK];rw[DT h n aD];split
  .rename_i d;exact h n d aD _
  .rfl
structure Ma{ι:Type}(orcs:ι->Nat->Option jU)(Φ:ι->Prop)(l:List Oper):Prop where
 self:∀i,Φ i->∀d,xN (orcs i d) (orcs i d)
 alt:∀i,Φ i->∀(k:Nat) (o:Oper),l[k]? =some o->∀r',xN (orcs i (o.dst.getD 0)) r'->∃j,Φ j/\orcs j (o.dst.getD 0)=r'/\∀(q:Nat) (oq:Oper),l[q]? =some oq->q≠k->orcs j (oq.dst.getD 0)=orcs i (oq.dst.getD 0)
theorem IS.all{l:List Oper}{ι:Type}{orcs:ι->Nat->Option jU}{Φ:ι->Prop}{d0:Nat}(G:IS orcs Φ d0)(c:∀(i j:Nat) (o n:Oper),l[i]? =some o->l[j]? =some n->o.dst.getD 0=d0->n.dst.getD 0=d0->i=j):Ma orcs Φ l:=by
 refine⟨λi b d=>?_,λi b k o r p g=>?_⟩
 .by_cases a:d=d0
  .subst a;exact G.self i b
  .exact(G.det i b d a).1
 .by_cases a:o.dst.getD 0=d0
  .rw[a]at g;obtain⟨j,m,e⟩:=G.alt i b p g;refine⟨j,m,by rw[a];exact e,λq t s f=>?_⟩;exact G.base j i m b _ λh=>f (c q k t o s r h a)
  .exact⟨i,b,((G.det i b _ a).2 p g).symm,λ_ _ _ _=>rfl⟩
def aAq{ι κ:Type}(d0 d1:Nat)(base:Nat->Option jU)(g:ι->jU)(h:κ->jU)(i:ι×κ)(d:Nat):Option jU:=if d=d0 then some (g i.1)else if d=d1 then some (h i.2)else base d
theorem QI(hT:fW P T)(hW:Cd T)(A:Tt l cl hide wr){f:uF}{ι:Type}{c:ι->Nat->Option jU}{Φ:ι->Prop}(G:Ma c Φ l)(a2:∀i,Φ i->(yW P T N l (c i) hide wr f).ok){Q:Exit->Act->World->Prop}
 (hQ:∀i,Φ i->∀β a w,mG N w0 X (yW P T N l (c i) hide wr f).env (yW P T N l (c i) hide wr f).H β a w->Q .normal a w):
 ∀(d:ι),Φ d->∀(g:Nat) (b:Array Bool) (β:Nat->Option Nat) (a:Act) (w:World),b.size=l.length->uG (λj=>b.getD j false) l.length<=g->(∀j,j<l.length->b.getD j false=true->∀i∈cl j,b.getD i false=true)->
  mG N w0 X (gK (jJ P T N l (c d) hide wr) (λj=>b.getD j false) f l.length).env (gK (jJ P T N l (c d) hide wr) (λj=>b.getD j false) f l.length).H β a w->wpAny P .any l.toArray Q g b a w:=by
 have I:∀(d:ι),Φ d->∀(b:Array Bool) (β:Nat->Option Nat) (a:Act) (w:World),Region.ready .any l.toArray b=[]->b.size=l.length->mG N w0 X (gK (jJ P T N l (c d) hide wr) (λj=>b.getD j false) f l.length).env (gK (jJ P T N l (c d) hide wr) (λj=>b.getD j false) f l.length).H β a w->Q .normal a w:=by
  intro d z b β a w m p E;have:∀j,j<l.length->b.getD j false=true:=by
   intro j;induction j using F5 with
   |ind j ih=>
    intro s;cases q:b.getD j false with
    |true=>rfl
    |false=>
     exfalso;obtain⟨o,v⟩:∃o,l[j]? =some o:=⟨_,A1 s⟩;have:j∈Region.ready .any l.toArray b:=mem_ready.2 ⟨by
      simp only[A3]at q|-;rw[C0 aD]at q|-;exact q,o,by simpa using v,λe U M=>ih e.on (A.edge j o v e U M) (G0 (A.edge j o v e U M) s)⟩
     rw[m]at this;cases this
  rw[gZ (S':=λ_=>true) l.length this]at E;exact hQ d z β a w E
 intro d z g;induction g generalizing d with
 |zero=>
  intro b β a w p hm W E;have m:Region.ready .any l.toArray b=[]:=by
   cases m:Region.ready .any l.toArray b with
   |nil=>rfl
   |cons i r=>
    exfalso;have hi:i∈Region.ready .any l.toArray b:=by rw[m];exact B4
    obtain⟨y,o,v,_⟩:=mem_ready.1 hi;have n:i<l.length:=by have:=(B7.1 v).1;simpa using this
    have:=DR l.length (Nat.le_zero.1 hm) i n;simp only[A3]at y this;rw[C0 aD]at y this;simp only[Option.getD_some]at y this;rw[y]at this;cases this
  exact⟨m,I d z b β a w m p E⟩
 |succ g ih=>
  intro b β a w p hm W E;refine⟨λm=>I d z b β a w m p E,λi hi=>?_⟩;obtain⟨y,o,v,L⟩:=mem_ready.1 hi;have n:i<l.length:=by have:=(B7.1 v).1;simpa using this
  have t:l[i]? =some o:=by simpa using v
  have Y:b.getD i false=false:=by
   simp only[A3]at y|-;rw[C0 aD]at y|-;exact y
  have C:∀k,(b.setIfInBounds i true).getD k false=SL (λj=>b.getD j false) i k:=by
   intro k;by_cases e:k=i
   .subst e;rw[LY];simp[p,n]
   .rw[Bo e];exact getD_set_ne false (Ne.symm e)
  have a0:∀k∈cl i,b.getD k false=true:=by
   intro k Z;obtain⟨e,U,M,u⟩:=A.clo i o t k Z;have:=L e U M;rcases u with u|u
   .rw[<-u];exact this
   .exact W e.on (G0 (A.edge i o t e U M) n) this k u
  have O:∀j,j<l.length->(b.setIfInBounds i true).getD j false=true->∀k∈cl j,(b.setIfInBounds i true).getD k false=true:=by
   intro j s D k Z;rw[C]at D|-;have:b.getD k false=true:=by
    by_cases e:j=i
    .subst e;exact a0 k Z
    .rw[Bo e]at D;exact W j s D k Z
   simp[SL,this]
  have e1:∀d:ι,gK (jJ P T N l (c d) hide wr) (λj=>(b.setIfInBounds i true).getD j false) f l.length=jJ P T N l (c d) hide wr (gK (jJ P T N l (c d) hide wr) (λj=>b.getD j false) f l.length) i:=λd=>by
   rw[gZ (S':=SL (λj=>b.getD j false) i) l.length λj _=>C j];exact Bp Y l.length n λj J H h3=>A.comm i j J H λa1=>by
    have:=W j H h3 i a1;rw[Y]at this;cases this
  have a5:∀d,Φ d->(gK (jJ P T N l (c d) hide wr) (λj=>(b.setIfInBounds i true).getD j false) f l.length).ok:=λd z=>by
   refine Jd LZ A.low A.comm O l.length (B0 _) ?_;rw[gZ (S':=λ_=>true) l.length λj s=>by simp[s]];exact a2 d z
  have e2:∀d f,jJ P T N l (c d) hide wr f i=jA P T N (cT N l) (c d) (hide i) (wr i) f o:=λd f=>by unfold jJ;rw[t]
  have V:∀B,xN (c d (o.dst.getD 0)) B->∃j,Φ j/\(∀f,jA P T N (cT N l) (λ_=>B) (hide i) (wr i) f o=jA P T N (cT N l) (c j) (hide i) (wr i) f o)/\
   gK (jJ P T N l (c d) hide wr) (λj=>b.getD j false) f l.length=gK (jJ P T N l (c j) hide wr) (λj=>b.getD j false) f l.length:=λB m=>by
   obtain⟨j,s,e,hq⟩:=G.alt d z i o t B m;refine⟨j,s,λf=>by unfold jA;rw[e],DT (λq x a6 f=>?_) l.length (B0 _)⟩;have a4:q≠i:=λh=>by
    have x:b.getD q false=true:=x;rw[h,Y]at x;cases x
   unfold jJ;cases a3:l[q]? with
   |none=>rfl
   |some oq=>
    simp only[];unfold jA;rw[hq q oq a3 a4]
  have F:xN (c d (o.dst.getD 0)) (c d (o.dst.getD 0)):=G.self d z _;have:=Jb (P:=P) (T:=T) hT hW (ops:=l.toArray) (mW N l) (A.dst i o t) E F (r:=c d (o.dst.getD 0)) (λB m=>by
   obtain⟨j,s,J,H⟩:=V B m;have:=a5 j s;rw[e1,e2]at this;rw[J,H];exact this) (K:=wpAny P .any l.toArray Q g (b.setIfInBounds i true)) (Q:=Q) λB m a' w' β' s'=>by
   obtain⟨j,s,J,H⟩:=V B m;rw[J,H]at s';exact ih j s (b.setIfInBounds i true) β' a' w' (by simpa using p) (by
    rw[vN (S':=SL (λj=>b.getD j false) i) l.length λj _=>C j];have:=FT (S:=λj=>b.getD j false) Y l.length n;omega) O (by rw[e1,e2];exact s')
  unfold wpOp;simp only[v];exact this
theorem mG.drew{b:eG}{H:dP}{β:Nat->Option Nat}(s:mG N w0 X b H β a w):mG N w0 X b H β a {w with drawn:=w.drawn+1}:=by
 have c:Ah w.heap.size w {w with drawn:=w.drawn+1}:=⟨rfl,rfl,rfl,B0 _,λ_ _=>rfl,Nat.le_succ _⟩;obtain⟨m,g⟩:=s.mem.grow c;exact s.put (dst:=none) (v:=.slice none 0 0) (l:=.junk) m g (.junk _) (by trivial)
theorem Je:∀l:List Oper,∃d0,∀o∈l,o.dst.getD 0<d0
 |[]=>⟨0,λo c=>by cases c⟩
 |o::l=>by
  obtain⟨d,b⟩:=Je l;refine⟨d+o.dst.getD 0+1,λe a=>?_⟩;rcases F9.1 a with h|h
  .rw[h];exact Nat.lt_succ_of_le (Nat.le_add_left _ _)
  .exact Nat.lt_of_lt_of_le (b e h) (Nat.le_succ_of_le (Nat.le_add_right _ _))
theorem Jf(hT:fW P T)(hW:Cd T)(m:P.follows .mixedOrders=true){id:Nat}{Q:LX->eG->dP->Prop}{b:eG}{H:dP}(cl hide wr:Nat->List Nat)(k:DS l cl hide wr=true){ι:Type}{orcs:ι->Nat->Option jU}{Φ:ι->Prop}(G:Ma orcs Φ l)(e:ι)(g:Φ e)
 (h:∀i,Φ i->(yW P T N l (orcs i) hide wr ⟨b,H,True⟩).ok/\Q .normal (yW P T N l (orcs i) hide wr ⟨b,H,True⟩).env (yW P T N l (orcs i) hide wr ⟨b,H,True⟩).H):
 fF P N w0 X (.region id l.toArray true) Q b H:=by
 intro r o β a w s;refine LI kZ m o ?_;have f:∀n,gK (jJ P T N l (orcs e) hide wr) (λj=>(B6 l.toArray.size false).getD j false) ⟨b,H,True⟩ n=⟨b,H,True⟩:=λn=>by
  induction n with
  |zero=>rfl
  |succ n ih=>simp only[gK];rw[if_neg (by simp[D2];split<;>rfl)];exact ih
 refine QI hT hW (QH k) G (λi c=>(h i c).1) (λi c q t u p=>⟨.normal,_,_,q,trivial,p,(h i c).2⟩) e g _ _ β a _ bA ?_ (λj _ d=>?_) ?_
 .have:∀S n,uG S n<=n:=λS n=>by
   induction n with
   |zero=>exact B0 0
   |succ n ih=>simp only[uG];split<;>omega
  simpa using this _ l.length
 .exfalso;simp[D2]at d;split at d<;>cases d
 .rw[f];exact s.drew
theorem Jg(hT:fW P T)(hW:Cd T)(g:P.follows .mixedOrders=true){id:Nat}{Q:LX->eG->dP->Prop}{a:eG}{H:dP}(cl hide wr:Nat->List Nat)(f:DS l cl hide wr=true){ι:Type}{orcs:ι->Nat->Option jU}{Φ:ι->Prop}{d0:Nat}(G:IS orcs Φ d0)(c:ι)(e:Φ c)
 (b:∀(i j:Nat) (o d:Oper),l[i]? =some o->l[j]? =some d->o.dst.getD 0=d0->d.dst.getD 0=d0->i=j)
 (h:∀i,Φ i->(yW P T N l (orcs i) hide wr ⟨a,H,True⟩).ok/\Q .normal (yW P T N l (orcs i) hide wr ⟨a,H,True⟩).env (yW P T N l (orcs i) hide wr ⟨a,H,True⟩).H):
 fF P N w0 X (.region id l.toArray true) Q a H:=Jf hT hW g cl hide wr f (G.all b) c e h
theorem Mb(hT:fW P T)(hW:Cd T)(k:P.follows .mixedOrders=true){id:Nat}{Q:LX->eG->dP->Prop}{b:eG}{H:dP}(cl hide wr:Nat->List Nat)(g:DS l cl hide wr=true)(orc:Nat->Option jU)(a:∀d,tE (orc d))
 (h:(yW P T N l orc hide wr ⟨b,H,True⟩).ok/\Q .normal (yW P T N l orc hide wr ⟨b,H,True⟩).env (yW P T N l orc hide wr ⟨b,H,True⟩).H):
 fF P N w0 X (.region id l.toArray true) Q b H:=by
 obtain⟨d0,c⟩:=Je l;exact Jg hT hW k cl hide wr g (ι:=Unit) (orcs:=λ_=>orc) (Φ:=λ_=>True) (d0:=d0) ⟨λ_ _ _ _ _ _=>rfl,λ_ _ d _=>a d,λ_ _=>(a _).1,λ_ _ n m=>⟨(),trivial,((a _).2 n m).symm⟩⟩ () trivial
  (λi j o q e p f _=>absurd f (E8 (c o (A6 e)))) λ_ _=>h
end
end
end
section
open Go.RowKit
def lk(l:List (List Nat))(j:Nat):List Nat:=l.getD j []
section
variable{P:Program} {T:TypeId->cW} {N:Nat} {w0:dE} {X:Nat->Prop} {Q:LX->eG->dP->Prop} {env env' env'':eG} {H H' H'':dP}
def Od(l:LV)(A B:Prop):Prop:=match l with
 | .d (.bool b)=>(b=true->A)/\(b=false->B)
 |_=>False
theorem Mc{b:Bool}{A B:Prop}:Od (.d (.bool b)) A B↔(b=true->A)/\(b=false->B):=G1
theorem aM{c:Operand}{x y:Code}(h:Od (kK env c) (fF P N w0 X x Q env H) (fF P N w0 X y Q env H)):fF P N w0 X (.cond c x y) Q env H:=by
 unfold Od at h;split at h
 .rename_i b e;exact .cond e h.1 h.2
 .exact h.elim
theorem pD(a:List Nat)(σ:List (Nat×Nat))(f:(σ.map (·.2)).Nodup)(c:(σ.map (·.1)).Nodup)(b:∀id∈w0.pins,dL σ id=some id)(d:bB (a.map λt=>(t,ren σ 8 (env t)))=env')(e:aK (σ.map λp=>(p.2,cX σ (H p.1)))=H'):iO w0 env H env' H':=by
 subst d;subst e;exact oA a σ f c b
def Oe(w0:dE){ι:Type}(E:ι->eG)(O:ι->dP)(I:ι->Prop)(μ:ι->Nat)(i:ι)(env':eG)(H':dP):Prop:=∃j,iO w0 env' H' (E j) (O j)/\I j/\μ j<μ i
theorem Oe.mk{ι:Type}{E:ι->eG}{O:ι->dP}{I:ι->Prop}{μ:ι->Nat}{i:ι}(j:ι)(b:iO w0 env H (E j) (O j))(a:I j)(c:μ j<μ i):Oe w0 E O I μ i env H:=⟨j,b,a,c⟩
def Xs(t:Nat)(fresh:Bool)(r:RV)(x:LX)(env:eG)(H:dP):Prop:=(match x with| .exit _=>False|_=>True)/\qD H fresh (env t) r
def Tu(t u:Nat)(fresh:Bool)(r:RV)(y:DV)(x:LX)(env:eG)(H:dP):Prop:=(match x with| .exit _=>False|_=>True)/\qD H fresh (env t) r/\qD H fresh (env u) (.d y)
theorem Tv{t:Nat}{a:Bool}{r:RV}:Xs t a r .ret env H↔qD H a (env t) r:=by simp[Xs]
theorem QJ{t u:Nat}{a:Bool}{r:RV}{y:DV}:Tu t u a r y .ret env H↔qD H a (env t) r/\qD H a (env u) (.d y):=by simp[Tu]
theorem bC{c:Code}{ι:Type}(E:ι->eG)(O:ι->dP)(I:ι->Prop)(μ:ι->Nat)(i:ι)(z:iO w0 env H (E i) (O i))(t:I i)
 (b:∀i,I i->fF P N w0 X c (zL (Oe w0 E O I μ i) Q) (E i) (O i)):fF P N w0 X (.loop c) Q env H:=by
 refine gS z ?_;intro r B β a w s;have h:∀n i,μ i=n->I i->∀β a w,mG N w0 X (E i) (O i) β a w->(Code.loop c).wpIn (RF r) 0 P (λe d k=>∃x env' H' l,gR e x/\mG N w0 X env' H' l d k/\Q x env' H') a w:=by
  intro n i A y β a w s;refine vG (λn a w=>∃i β,μ i=n/\I i/\mG N w0 X (E i) (O i) β a w) n ⟨i,β,A,y,s⟩ λM d k ⟨C,l,L,u,v⟩=>?_;refine wpIn_mono (b C u r B.loop l d k v) ?_;rintro e J S ⟨D,env',H',o,m,f,g⟩;cases e<;>cases D<;>simp only[gR]at m
  .obtain⟨j,p,q,K⟩:=g;obtain⟨G,F⟩:=p _ _ _ _ _ f;exact⟨μ j,aD,j,G,rfl,q,F⟩
  .subst m;exact⟨.exit _,env',H',o,rfl,f,g⟩
  .exact⟨.ret,env',H',o,trivial,f,g⟩
 exact h _ i rfl t β a w s
theorem Bi.anti{w w':World}{E g:Nat->Prop}(l:∀k,g k->E k){B:Option Nat}{r:RV}{v:Value}(h:Bi w w' E B r v):Bi w w' g B r v:=by
 cases r with
 |d x=>exact RD.anti l h
 |own s xs=>
  obtain⟨A,C,f⟩:=h;refine⟨A,C,?_⟩;rcases f with f|⟨b,c,a,e,o,p,q,t,u,y,z,j⟩
  .exact .inl f
  .exact .inr ⟨b,c,a,e,o,p,q,t,u,y,z,λi d v m n=>⟨(j i d v m n).1,(j i d v m n).2.anti l⟩⟩
 |tup _=>exact h
theorem Ok.two{f:FuncId}{A:Func}{c:Code}{d:List DV}{I:RV}{y:DV}{e:Bool}{n t u:Nat}(M:P.funcs[f]? =some A)(p:(A.name== "runtime.NumGoroutine")=false)(L:A.body=some c)(N:A.ntmps=n)(o:d.length<=n)(D:A.results= #[.tmp t,.tmp u])
 (O:memless y=true)(h:∀w0 X,w0.pins=[]->fF P n w0 X c (Tu t u e I y) (iD d) (aK [])):Ok P f d ⟨.tup [I,.d y],e⟩:=by
 refine tG M p L N o λw0 X q=>(h w0 X q).mono λx env H ⟨E,z,J⟩=>⟨E,λβ a w s=>⟨_,results_tmp2 D _ _ _,?_⟩⟩;obtain⟨B,K⟩:=xT q s (s.env t) z;obtain⟨Q,C⟩:=xT q s (s.env u) J;refine⟨[a.tmps.getD t undef,a.tmps.getD u undef],λi=>if i=0 then B else none,rfl,rfl,λi j b F m=>?_,λi r v g l=>?_⟩
 .simp only at F m;by_cases E:i=0
  .by_cases z:j=0
   .omega
   .rw[if_neg z]at m;cases m
  .rw[if_neg E]at F;cases F
 .match i,g,l with
  |0,g,l=>
   injection g with g;injection l with l
   subst g;subst l;simp only[if_pos];refine Bi.anti (λk G=>?_) K;rcases G with G|⟨j,m⟩
   .exact .inl G
   .by_cases z:j=0
    .rw[if_pos z]at m;exact .inr m
    .rw[if_neg z]at m;cases m
  |1,g,l=>
   injection g with g;injection l with l
   subst g;subst l;simp only[Bi]at C|-;exact C.memless O
theorem Ok.ret{f:FuncId}{e:Func}{c:Code}{args:List DV}{r:RV}{a:Bool}{n t:Nat}(k:P.funcs[f]? =some e)(d:(e.name== "runtime.NumGoroutine")=false)(j:e.body=some c)(l:e.ntmps=n)(b:args.length<=n)(g:e.results= #[.tmp t])
 (i:∀rs,r≠ .tup rs)(h:∀w0 X,w0.pins=[]->fF P n w0 X c (Xs t a r) (iD args) (aK [])):Ok P f args ⟨r,a⟩:=Ok.one k d j l b g i h
def qZ(T:TypeId->cW)(H:dP)(ty:TypeId)(l:LV):kJ:=match l with
 | .bx id 0=>match H id with
   | .box _ cs=>.cond (FC (T ty).k.agg (T ty).size 0 cs) ((T ty).k.isNone=false/\(T ty).size<=cs.length/\((T ty).k.agg=false->(T ty).size=1))
   |_=>.fail
 |_=>.fail
theorem vO(hT:fW P T){β:Nat->Option Nat}{a:Act}{w:World}(s:mG N w0 X env H β a w){t:Nat}{i:TypeId}(c:(qZ T H i (env t)).ok):
 ∃v,(((asAddr (a.tmps.getD t undef)).run P w).andThen λa w=>(loadVar i a).run P w)=.ok v w/\R w (Ex X β H) β H (qZ T H i (env t)).v v:=by
 have o:=s.env t;generalize env t=l at*;unfold qZ at*;split at c
 .rename_i id;split at c
  .rename_i A z k;simp only[kJ.cond]at c|-;obtain⟨y,r,m⟩:=c;have g:=s.obj id;simp only[dS,k]at g;obtain⟨b,e,us,q,d,f,p,x⟩:=g;generalize n:a.tmps.getD t undef=vx at o;cases o with
   |bx _ _ b' _ _ _ hb'=>
    rw[q]at hb';injection hb' with hb';subst hb'
    have:=uX (P:=P) (w:=w) (b:=b) (off:=0) (us:=(us.drop 0).take (T i).size) hT y kH m (λj u h=>by
     rw[cell_of_row w b _ us.toArray e (0,0) d];rw[B3]at h;split at h
     .simpa using h
     .cases h)
    refine⟨_,?_,Hl f.symm p aD m x⟩;simp only[asAddr,Sem.run_pure,Result.andThen_ok,this]
   |bxdead _ _ _ hd=>rw[k]at hd;cases hd
  .exact c.elim
 .exact c.elim
def Xt(T:TypeId->cW)(t:Nat)(ty:TypeId)(fresh:Bool)(r:RV)(x:LX)(env:eG)(H:dP):Prop:=(match x with| .exit _=>False|_=>True)/\(qZ T H ty (env t)).ok/\qD H fresh (qZ T H ty (env t)).v r
theorem Tw{T:TypeId->cW}{t:Nat}{b:TypeId}{a:Bool}{r:RV}:Xt T t b a r .ret env H↔(qZ T H b (env t)).ok/\qD H a (qZ T H b (env t)).v r:=by simp[Xt]
theorem Ok.cell(hT:fW P T){f:FuncId}{j:Func}{c:Code}{b:List DV}{r:RV}{e:Bool}{n t:Nat}{u:TypeId}(D:P.funcs[f]? =some j)(i:(j.name== "runtime.NumGoroutine")=false)(C:j.body=some c)(E:j.ntmps=n)(g:b.length<=n)(l:j.results= #[.cell t u])
 (o:∀p,r≠ .tup p)(h:∀w0 X,w0.pins=[]->fF P n w0 X c (Xt T t u e r) (iD b) (aK [])):Ok P f b ⟨r,e⟩:=by
 refine tG D i C E g λw0 X k=>(h w0 X k).mono λx env H ⟨y,z,A⟩=>⟨y,λβ a w s=>?_⟩;obtain⟨v,G,F⟩:=vO hT s z;refine⟨v,?_,?_⟩
 .simp only[results,l];simpa [Sem.run_bind,Result.andThen]using G
 obtain⟨B,m⟩:=xT k s F A;cases q:r with
 |tup p=>exact absurd q (o p)
 |d x=>rw[q]at m;exact⟨B,m⟩
 |own sz xs=>rw[q]at m;exact⟨B,m⟩
section
variable{n k off id j m c:Nat} {cs:List LV} {f:FuncId} {x:DV} {σ:List (Nat×Nat)} {l:List (Nat×LV)} {lo:List (Nat×bJ)}
theorem Tx:bB l j=oZ l j:=rfl
theorem Ty:aK lo j=fN lo j:=rfl
theorem Of:close H (n+1) (.d x)=some x:=rfl
theorem QK:close H (n+1) (.agg cs)=(cS (cs.map (close H n))).map .agg:=rfl
theorem Tz:close H (n+1) (.oc id k m c)=match H id with| .row _ _ xs=>some (.sl ((xs.drop k).take m))|_=>none:=rfl
theorem TA:close H (n+1) (.ow id k m)=match H id with| .row _ _ xs=>some (.sl ((xs.drop k).take m))|_=>none:=rfl
theorem TB:close H (n+1) (.bx id off)=match H id with| .box _ cs=>(cS ((cs.drop off).map (close H n))).map .ro|_=>none:=rfl
theorem TC:close H (n+1) (.fn f cs)=(cS (cs.map (close H n))).map (.fn f):=rfl
theorem TD:close H (n+1) (.bm f cs)=(cS (cs.map (close H n))).map (.bm f):=rfl
theorem TE:close H (n+1) (.mp id)=match H id with| .map _ ks vs=>some (.mp ks vs)|_=>none:=rfl
theorem TF:bX H (n+1) (.mp id)=[id]:=rfl
theorem Zl:ren σ (n+1) (.mp id)=match dL σ id with|some j=>.mp j|none=>.junk:=rfl
theorem TG:close H (n+1) .nl=some (.sl []):=rfl
theorem Og:bX H (n+1) (.d x)=[]:=rfl
theorem QL:bX H (n+1) (.agg cs)=cs.flatMap (bX H n):=rfl
theorem TH:bX H (n+1) (.oc id k m c)=[id]:=rfl
theorem TI:bX H (n+1) (.ow id k m)=[id]:=rfl
theorem TJ:bX H (n+1) (.bx id off)=match H id with| .box _ cs=>id::(cs.drop off).flatMap (bX H n)|_=>[]:=rfl
theorem TL:bX H (n+1) (.fn f cs)=cs.flatMap (bX H n):=rfl
theorem TM:bX H (n+1) (.bm f cs)=cs.flatMap (bX H n):=rfl
theorem TN:bX H (n+1) .nl=[]:=rfl
theorem aAr:ren σ (n+1) (.d x)=.d x:=rfl
theorem Xu:ren σ (n+1) (.agg cs)=.agg (cs.map (ren σ n)):=rfl
theorem Zm:ren σ (n+1) (.bx id off)=match dL σ id with|some j=>.bx j off|none=>.junk:=rfl
theorem Zn:ren σ (n+1) (.rp id k j)=match dL σ id with|some i=>.rp i k j|none=>.junk:=rfl
theorem Zo:ren σ (n+1) (.oc id k m c)=match dL σ id with|some i=>.oc i k m c|none=>.junk:=rfl
theorem Zp:ren σ (n+1) (.ow id k m)=match dL σ id with|some i=>.ow i k m|none=>.junk:=rfl
theorem Zq:ren σ (n+1) (.fn f cs)=.fn f (cs.map (ren σ n)):=rfl
theorem Zr:ren σ (n+1) (.bm f cs)=.bm f (cs.map (ren σ n)):=rfl
theorem Zs:ren σ (n+1) .nl=.nl:=rfl
theorem TO:ren σ (n+1) .junk=.junk:=rfl
theorem Md{cs:List DV}:aQ (.agg cs)=cs:=rfl
theorem Me{k:IntKind}{i:Int}:aQ (.int k i)=[.int k i]:=rfl
theorem Jh{b:Bool}:aQ (.bool b)=[.bool b]:=rfl
theorem Mf{s:List UInt8}:aQ (.str s)=[.str s]:=rfl
theorem QM{a:List DV}:aQ (.sl a)=[.sl a]:=rfl
theorem QN{a:List DV}:aQ (.ro a)=[.ro a]:=rfl
theorem QO{a:List DV}:aQ (.fn f a)=[.fn f a]:=rfl
theorem QP{a:List DV}:aQ (.bm f a)=[.bm f a]:=rfl
theorem Mg:dT (.agg cs)=cs:=rfl
theorem Ji{cs:List DV}:dT (.d (.agg cs))=cs.map .d:=rfl
theorem Mh{k:IntKind}{i:Int}:dT (.d (.int k i))=[.d (.int k i)]:=rfl
theorem Jj{b:Bool}:dT (.d (.bool b))=[.d (.bool b)]:=rfl
theorem Mi{s:List UInt8}:dT (.d (.str s))=[.d (.str s)]:=rfl
theorem QQ{a:List DV}:dT (.d (.sl a))=[.d (.sl a)]:=rfl
theorem QR{a:List DV}:dT (.d (.fn f a))=[.d (.fn f a)]:=rfl
theorem QS{a:List DV}:dT (.d (.bm f a))=[.d (.bm f a)]:=rfl
theorem QT:dT (.oc id k m c)=[.oc id k m c]:=rfl
theorem QU:dT (.ow id k m)=[.ow id k m]:=rfl
theorem QV:dT (.bx id off)=[.bx id off]:=rfl
theorem Mj:dT (.fn f cs)=[.fn f cs]:=rfl
theorem Mk:dT (.bm f cs)=[.bm f cs]:=rfl
theorem QW:dT (.mp id)=[.mp id]:=rfl
theorem QX{a b:List DV}:aQ (.mp a b)=[.mp a b]:=rfl
theorem Ml{a b:List DV}:dT (.d (.mp a b))=[.d (.mp a b)]:=rfl
theorem QY:dT .nl=[.nl]:=rfl
end
end
end
section
open Go.RowKit
section
variable{P:Program} {T:TypeId->cW} {N:Nat} {w0:dE} {X:Nat->Prop} {Q:LX->eG->dP->Prop} {env env' env'':eG} {H H' H'':dP}
def HA(args:List LV):eG:=bB ((args.zipIdx).map λp=>(p.2,p.1))
theorem TP(a:List LV)(t:Nat):HA a t=(a[t]?).getD .junk:=by
 have b:∀(l:List LV) (k t:Nat),oZ ((l.zipIdx k).map λp=>(p.2,p.1)) (k+t)=(l[t]?).getD .junk:=by
  intro l;induction l with
  |nil=>intro k t;simp[oZ]
  |cons x r ih=>
   intro k t;simp only[F1,A2,oZ];cases t with
   |zero=>simp
   |succ t=>
    rw[if_neg aD];have:=ih (k+1) t;rw[show k+1+t=k+(t+1)by omega]at this;rw[this];simp
 have:=b a 0 t;rw[E5]at this;exact this
theorem vP{f:FuncId}{e:Func}{c:Code}{b:List LV}{h d:List (Nat×bJ)}{i:LV}{n:Nat}(z:P.funcs[f]? =some e)(g:(e.name== "runtime.NumGoroutine")=false)(y:e.body=some c)(K:e.ntmps=n)(l:b.length<=n)
 (G:∀w0 X,w0.pins=h.map (·.1)->fF P n w0 X c (λx env H=>(match x with| .exit _=>False|_=>True)/\∀β a w,mG n w0 X env H β a w->∃v j,(results e a.tmps).run P w=.ok v w/\dV w0 X (aK d) j w/\R w (Ex X j (aK d)) j (aK d) i v) (HA b) (aK h)):
 mH P f b h d i:=by
 refine⟨⟨e,z,g,by rw[y];rfl⟩,λw X β k m u E=>?_⟩;refine tF (β:=β) z y rfl (G ⟨w,β,aK h,h.map (·.1),false⟩ X rfl) ?_ ?_
 .refine⟨FA.nil,?_,m.ext,m.xold,m.fresh,m.inj,λt=>?_,m.obj,m.pin⟩
  .simp;omega
  .rw[TP];cases q:b[t]? with
   |none=>exact .junk _
   |some x=>
    have A:t<k.length:=by rw[u];exact(A8.1 q).1
    have F:(k.toArray++B6 (e.ntmps-k.toArray.size) undef).getD t undef=k[t]:=by
     simp[A3,B9,A]
    rw[F];exact E t x _ q (A1 A)
 .rintro x env H J B I ⟨C,D⟩ s;obtain⟨v,j,o,p,r⟩:=D J B I s;exact⟨C,v,o,v,j,rfl,p,r⟩
def FU(w0:dE)(fin:List (Nat×bJ))(x:LX)(env:eG)(H:dP):Prop:=(match x with| .exit _=>False|_=>True)/\iO w0 env H (bB []) (aK fin)
def Oh(w0:dE)(t:Nat)(fin:List (Nat×bJ))(ret:LV)(x:LX)(env:eG)(H:dP):Prop:=(match x with| .exit _=>False|_=>True)/\iO w0 env H (bB [(t,ret)]) (aK fin)
theorem QZ{a:List (Nat×bJ)}:FU w0 a .ret env H↔iO w0 env H (bB []) (aK a):=by simp[FU]
theorem HB{a:List (Nat×bJ)}:FU w0 a .normal env H↔iO w0 env H (bB []) (aK a):=by simp[FU]
theorem Ra{t:Nat}{a:List (Nat×bJ)}{b:LV}:Oh w0 t a b .ret env H↔iO w0 env H (bB [(t,b)]) (aK a):=by simp[Oh]
theorem TQ{f:FuncId}{i:Func}{c:Code}{b:List LV}{h g:List (Nat×bJ)}{n:Nat}(o:P.funcs[f]? =some i)(e:(i.name== "runtime.NumGoroutine")=false)(m:i.body=some c)(p:i.ntmps=n)(d:b.length<=n)(j:i.results= #[])
 (r:∀w0 X,w0.pins=h.map (·.1)->fF P n w0 X c (FU w0 g) (HA b) (aK h)):mH P f b h g (.tup []):=
 vP o e m p d λw0 X q=>(r w0 X q).mono λx env H ⟨k,l⟩=>⟨k,λβ a w s=>by
  obtain⟨u,t⟩:=l _ _ _ _ _ s;exact⟨.tuple #[],u,results_none j _ _ _,t.mem,.tup [] [] rfl bA⟩⟩
theorem mH.one{f:FuncId}{i:Func}{c:Code}{args:List LV}{h g:List (Nat×bJ)}{b:LV}{n t:Nat}(p:P.funcs[f]? =some i)(e:(i.name== "runtime.NumGoroutine")=false)(o:i.body=some c)(q:i.ntmps=n)(d:args.length<=n)(j:i.results= #[.tmp t])
 (u:∀w0 X,w0.pins=h.map (·.1)->fF P n w0 X c (Oh w0 t g b) (HA args) (aK h)):mH P f args h g b:=
 vP p e o q d λw0 X r=>(u w0 X r).mono λx env H ⟨l,m⟩=>⟨l,λβ a w s=>by
  obtain⟨β',k⟩:=m _ _ _ _ _ s;have:=k.env t;rw[show bB [(t,b)] t=b by simp[bB,oZ]]at this;exact⟨_,β',results_tmp j _ _ _,k.mem,this⟩⟩
def YO(w0:dE)(t:Nat)(Rel:List (Nat×bJ)->LV->Prop)(x:LX)(env:eG)(H:dP):Prop:=(match x with| .exit _=>False|_=>True)/\∃fin ret,Rel fin ret/\iO w0 env H (bB [(t,ret)]) (aK fin)
theorem Rb{t:Nat}{a:List (Nat×bJ)->LV->Prop}:YO w0 t a .ret env H↔∃b c,a b c/\iO w0 env H (bB [(t,c)]) (aK b):=by simp[YO]
theorem DU{n:Nat}:∀{cs:List DV},cS (F8 (close H (n+1)∘LV.d) cs)=some cs
 |[]=>rfl
 |c::cs=>by
  have a:=DU (n:=n) (cs:=cs);simp only[A2,Function.comp,Of,cS]at a|-;rw[a];rfl
theorem Rc{n:Nat}{a:List DV}:cS (F8 (close H (n+1)) (F8 LV.d a))=some a:=by rw[E6];exact DU
theorem TR{n:Nat}{a:List DV}:(F8 LV.d a).flatMap (bX H (n+1))=[]:=by
 induction a with
 |nil=>rfl
 |cons c a ih=>simp only[A2,D1,Og,List.nil_append];exact ih
end
end
section
open Go.RowKit
section
variable{P:Program} {T:TypeId->cW} {N:Nat} {w0:dE} {X:Nat->Prop} {env:eG} {H:dP}
def Oi(T:TypeId->cW)(env:eG)(H:dP):ResultVar->kJ
 | .tmp t=>.plain (env t)
 | .cell t ty=>qZ T H ty (env t)
def Jk(T:TypeId->cW)(fresh:Bool)(env:eG)(H:dP):List ResultVar->List RV->Prop
 |[],[]=>True
 |r::rs,x::xs=>(Oi T env H r).ok/\qD H fresh (Oi T env H r).v x/\Jk T fresh env H rs xs
 |_,_=>False
def Zt(T:TypeId->cW)(l:List ResultVar)(fresh:Bool)(rs:List RV)(x:LX)(env:eG)(H:dP):Prop:=(match x with| .exit _=>False|_=>True)/\Jk T fresh env H l rs
theorem TS{l:List ResultVar}{a:Bool}{b:List RV}:Zt T l a b .ret env H↔Jk T a env H l b:=by simp[Zt]
def Jl(tmps:Array Value):ResultVar->Sem Value
 | .tmp t=>pure (tmps.getD t undef)
 | .cell b t=>do loadVar t (<-asAddr (tmps.getD b undef))
theorem FV(hT:fW P T){β:Nat->Option Nat}{a:Act}{w:World}{b:Bool}(s:mG N w0 X env H β a w):∀(l:List ResultVar) (d:List RV),Jk T b env H l d->
 ∃e:List Value,e.length=d.length/\(l.mapM (Jl a.tmps)).run P w=.ok e w/\
  ∀(i:Nat) (r:RV) (v:Value),d[i]? =some r->e[i]? =some v->∃x,R w (Ex X β H) β H x v/\qD H b x r
 |[],[],_=>⟨[],rfl,bA,bA⟩
 |[],_::_,h=>h.elim
 |_::_,[],h=>h.elim
 |r::l,x::d,h=>by
  obtain⟨n,o,p⟩:=h;obtain⟨e,q,g,y⟩:=FV hT s l d p;have m:∃v,(Jl a.tmps r).run P w=.ok v w/\R w (Ex X β H) β H (Oi T env H r).v v:=by
   cases r with
   |tmp t=>exact⟨_,by simp[Jl],s.env t⟩
   |cell t ty=>
    obtain⟨v,j,g⟩:=vO hT s n;exact⟨v,by simpa [Jl,Sem.run_bind,Result.andThen]using j,g⟩
  obtain⟨v,j,k⟩:=m;refine⟨v::e,by simp[q],?_,?_⟩
  .rw[List.mapM_cons];simp only[Sem.run_bind,j,Result.andThen_ok,g,Sem.run_pure]
  .intro i z u c f;cases i with
   |zero=>simp at c f;subst c;subst f;exact⟨_,k,o⟩
   |succ i=>simp at c f;exact y i z u c f
def RV.isD:RV->Bool
 | .d _=>true
 |_=>false
def RV.isM:RV->Bool
 | .d y=>memless y
 |_=>false
def YP(rs:List RV):Bool:=rs.all RV.isD||rs.tail.all RV.isM
theorem TT{r:RV}(h:r.isD=true):∃y,r=.d y:=by cases r<;>first|exact⟨_,rfl⟩|cases h
theorem TU{r:RV}(h:r.isM=true):∃y,r=.d y/\memless y=true:=by cases r<;>first|exact⟨_,rfl,h⟩|cases h
theorem Aw(hT:fW P T){f:FuncId}{I:Func}{c:Code}{g:List DV}{u:List RV}{l:List ResultVar}{e:Bool}{n:Nat}(Z:P.funcs[f]? =some I)(D:(I.name== "runtime.NumGoroutine")=false)(Y:I.body=some c)(hn:I.ntmps=n)(A:g.length<=n)(N:I.results=l.toArray)
 (hl:2<=u.length)(K:YP u=true)
 (h:∀w0 X,w0.pins=[]->fF P n w0 X c (Zt T l e u) (iD g) (aK [])):Ok P f g ⟨.tup u,e⟩:=by
 have t:(∀x∈u,∃y,x=.d y)\/∃S d,u=S::d/\∀x∈d,∃y,x=.d y/\memless y=true:=by
  unfold YP at K;rcases Bool.or_eq_true_iff.1 K with z|z
  .exact .inl λx t=>TT (A5.1 z x t)
  .cases u with
   |nil=>simp at hl
   |cons S d=>exact .inr ⟨S,d,rfl,λx t=>TU (A5.1 z x t)⟩
 refine tG Z D Y hn A λw0 X M=>(h w0 X M).mono λx env H ⟨z,F⟩=>⟨z,λβ a w s=>?_⟩;obtain⟨G,E,O,hp⟩:=FV hT s l u F;refine⟨.tuple G.toArray,?_,?_⟩
 .simp only[results,N,List.mapM_toArray,map_eq_pure_bind,Sem.run_bind,Sem.run_pure];change ((((l.mapM (Jl a.tmps)).run P w).andThen _).andThen _)=_;rw[O];simp only[Result.andThen_ok];rw[dif_neg kH]
 .have o:∀(i:Nat) (r:RV) (v:Value),u[i]? =some r->G[i]? =some v->∃B:Option Nat,Bi w0.w w (λk=>(X k\/e=true/\k<w0.w.heap.size)\/B=some k) B r v:=λi r v p q=>by
   obtain⟨x,V,W⟩:=hp i r v p q;exact xT M s V W
  rcases t with t|⟨S,d,rfl,t⟩
  .refine⟨G,λ_=>none,rfl,E,(by intro i j b L m;simp at L),λi r v p q=>?_⟩;obtain⟨B,U⟩:=o i r v p q;obtain⟨y,rfl⟩:=t r (A6 p);simp only[Bi]at U|-;exact RD.anti (λk C=>.inl (by rcases C with C|⟨j,m⟩;exact C;cases m)) U
  .obtain⟨v1,Q⟩:∃v,G[0]? =some v:=⟨G[0]'(by rw[E];simp),A1 _⟩;obtain⟨B,U⟩:=o 0 S v1 rfl Q;refine⟨G,λi=>if i=0 then B else none,rfl,E,λi j b L m=>?_,λi r v p q=>?_⟩
   .simp only at L m;by_cases z:i=0
    .by_cases F:j=0
     .omega
     .rw[if_neg F]at m;cases m
    .rw[if_neg z]at L;cases L
   .cases i with
    |zero=>
     rw[Q]at q;injection q with q;subst q
     simp at p;subst p;simp only[if_pos];refine Bi.anti (λk C=>?_) U;rcases C with C|⟨j,m⟩
     .exact .inl C
     .by_cases F:j=0
      .rw[if_pos F]at m;exact .inr m
      .rw[if_neg F]at m;cases m
    |succ i=>
     obtain⟨B',J⟩:=o (i+1) r v p q;simp at p;obtain⟨y,rfl,hy⟩:=t r (A6 p);simp only[Bi]at J|-;exact J.memless hy
def Xv(w0:dE){ι:Type}(E:ι->eG)(O:ι->dP)(I:ι->Prop)(Q:LX->eG->dP->Prop):LX->eG->dP->Prop
 | .normal,env,H=>∃i,iO w0 env H (E i) (O i)/\I i
 |e,env,H=>Q e env H
theorem aL{ι:Type}{E:ι->eG}{O:ι->dP}{I:ι->Prop}{Q:LX->eG->dP->Prop}:Xv w0 E O I Q .normal env H↔∃i,iO w0 env H (E i) (O i)/\I i:=G1
theorem aZ{ι:Type}{E:ι->eG}{O:ι->dP}{I:ι->Prop}{Q:LX->eG->dP->Prop}:Xv w0 E O I Q .ret env H↔Q .ret env H:=G1
theorem aP{ι:Type}{E:ι->eG}{O:ι->dP}{I:ι->Prop}{Q:LX->eG->dP->Prop}{j:Nat}:Xv w0 E O I Q (.exit j) env H↔Q (.exit j) env H:=G1
theorem Xv.mk{ι:Type}{E:ι->eG}{O:ι->dP}{I:ι->Prop}(i:ι)(b:iO w0 env H (E i) (O i))(a:I i):∃i,iO w0 env H (E i) (O i)/\I i:=⟨i,b,a⟩
theorem bI{x y:Code}{Q:LX->eG->dP->Prop}{ι:Type}(E:ι->eG)(O:ι->dP)(I:ι->Prop)(a:fF P N w0 X x (Xv w0 E O I Q) env H)(b:∀i,I i->fF P N w0 X y Q (E i) (O i)):fF P N w0 X (.seq x y) Q env H:=by
 refine fF.seq (a.mono λe env H h=>?_);cases e with
 |normal=>obtain⟨i,d,c⟩:=h;exact gS d (b i c)
 |exit j=>exact h
 |ret=>exact h
end
end
section
open Go.RowKit
section
variable{P:Program} {T:TypeId->cW} {N:Nat} {w0:dE} {X:Nat->Prop} {Q:LX->eG->dP->Prop} {env:eG} {H:dP} {l:List Oper} {id:Nat}
def TV(l:List Oper)(d0:Nat):Bool:=decide ((l.filter λo=>o.dst.getD 0==d0).length<=1)
theorem DW(hT:fW P T)(hW:Cd T)(c:Nat)(e:Bool)(a:Nat->Option jU)(f:∀d,tE (a d))(m:TV l c=true)
 (h:∀b:Bool,(b=true->e=true)->(fG P T N l (uM c a (λb=>.nil e b) b) env H).ok/\Q .normal (fG P T N l (uM c a (λb=>.nil e b) b) env H).env (fG P T N l (uM c a (λb=>.nil e b) b) env H).H):fF P N w0 X (.region id l.toArray false) Q env H:=
 DM hT hW c a (λb=>.nil e b) (λb=>b=true->e=true) f (λb k=>⟨b,k,rfl⟩) (λb _ n ⟨j,g,i⟩=>⟨j,g,i.symm⟩) false bA (of_decide_eq_true m) h
theorem Mm(hT:fW P T)(hW:Cd T)(g:Nat)(b:Qm->Prop)(e:Bool)(k:Qm)(m:b k/\k.fresh=e)(a:Nat->Option jU)(i:∀d,tE (a d))(f:TV l g=true)
 (h:∀r:Qm,b r->(fG P T N l (uM g a (λr=>.rel b e r) r) env H).ok/\Q .normal (fG P T N l (uM g a (λr=>.rel b e r) r) env H).env (fG P T N l (uM g a (λr=>.rel b e r) r) env H).H):fF P N w0 X (.region id l.toArray false) Q env H:=
 DM hT hW g a (λr=>.rel b e r) (λr=>b r/\r.fresh=e) i (λc f=>⟨c,f.1,f.2,rfl⟩) (λc _ q ⟨j,n,o,p⟩=>⟨j,⟨n,o⟩,p.symm⟩) k m (of_decide_eq_true f) λc f=>h c f.1
theorem Jm(hT:fW P T)(hW:Cd T)(g:Nat)(σ f:List (Nat×Nat))(e:List Nat)(b:List (Nat×bJ)->LV->Prop)(o:List (Nat×bJ))(p:LV)(q:b o p)(a:Nat->Option jU)(j:∀d,tE (a d))(m:TV l g=true)
 (h:∀(i:List (Nat×bJ)×LV),b i.1 i.2->(fG P T N l (uM g a (λ(i:List (Nat×bJ)×LV)=>.genR ⟨σ,f,e,i.1,i.2⟩ b) i) env H).ok/\Q .normal (fG P T N l (uM g a (λ(i:List (Nat×bJ)×LV)=>.genR ⟨σ,f,e,i.1,i.2⟩ b) i) env H).env (fG P T N l (uM g a (λ(i:List (Nat×bJ)×LV)=>.genR ⟨σ,f,e,i.1,i.2⟩ b) i) env H).H):
 fF P N w0 X (.region id l.toArray false) Q env H:=
 DM hT hW g a (λ(i:List (Nat×bJ)×LV)=>.genR ⟨σ,f,e,i.1,i.2⟩ b) (λi=>b i.1 i.2) j (λc m=>⟨c.1,c.2,m,rfl⟩) (λc _ t ⟨k,n,r,s⟩=>⟨(k,n),r,s.symm⟩) (o,p) q (of_decide_eq_true m) h
theorem dV.rebox{β:Nat->Option Nat}{w:World}(m:dV w0 X H β w){b:Nat}{fz:Bool}{cs cs':List LV}(p:H b=.box fz cs)(A:cs'.length=cs.length)(h:∀(i:Nat) (c r:LV) (v:Value),cs[i]? =some c->cs'[i]? =some r->R w (Ex X β H) β H c v->R w (Ex X β H) β H r v):
 dV w0 X (cQ H b (.box fz cs')) β w/\fB X H β w (cQ H b (.box fz cs')) β w:=by
 have l:∀i,(cQ H b (.box fz cs') i).mut=(H i).mut:=λi=>by
  by_cases a:i=b
  .subst a;rw[aW,p];rfl
  .rw[cO _ _ a]
 have d:∀i,(cQ H b (.box fz cs') i).live=(H i).live:=λi=>by
  by_cases a:i=b
  .subst a;rw[aW,p];rfl
  .rw[cO _ _ a]
 have n:fB X H β w (cQ H b (.box fz cs')) β w:=by
  refine⟨B0 _,λ_ _ _=>rfl,λk _ q=>?_,λi=>?_⟩
  .rcases q with q|⟨i,f,g⟩
   .exact .inl q
   .rw[l]at f;exact .inr ⟨i,f,g⟩
  .by_cases a:i=b
   .subst a;unfold bW;rw[p,aW];exact .inr ⟨⟨fz,cs',rfl⟩,rfl⟩
   .have B:=bW.refl (w:=w) (β:=β) (H:=H) i;unfold bW at*;rw[cO _ _ a];exact B
 refine⟨⟨m.ext,m.xold,λi o f g=>?_,λi j o f g=>?_,λi=>?_,λi a=>(m.pin i a).trans (n.pass i)⟩,n⟩
 .rw[d]at f;rw[l];exact m.fresh i o f g
 .rw[d]at f g;exact m.inj i j o f g
 .by_cases a:i=b
  .subst a;have u:=m.obj i;unfold dS at*;rw[p]at u;rw[aW];obtain⟨o,e,D,f,g,x,y,z⟩:=u;refine⟨o,e,D,f,g,by rw[A];exact x,y,λj c v s C=>?_⟩;have t:j<cs.length:=by have:=(A8.1 s).1;omega
   exact n.R (h j _ c v (A1 t) s (z j _ v (A1 t) C))
  .exact(m.obj i).step n.size n.out (λ_ _=>n.D) (λ_ _=>n.R) (cO _ _ a) (λ_=>rfl) λ_ _ _=>rfl
theorem Jn{f:FuncId}{l:Func}{c:Code}{e:List DV}{o:Qm->Prop}{n:Nat}(F:P.funcs[f]? =some l)(m:(l.name== "runtime.NumGoroutine")=false)(E:l.body=some c)(Q:l.ntmps=n)(z:e.length<=n)
 (h:∀w0 X,w0.pins=[]->fF P n w0 X c (λx env H=>(match x with| .exit _=>False|_=>True)/\∀β a w,mG n w0 X env H β a w->∃v r,o r/\(results l a.tmps).run P w=.ok v w/\ID w0.w w (λk=>X k\/r.fresh=true/\k<w0.w.heap.size) r.v v) (iD e) (aK [])):
 YY P f e o:=by
 refine⟨⟨l,F,m,by rw[E];rfl⟩,λw X y D A=>?_⟩;refine tF (β:=λ_=>none) F E rfl (h ⟨w,λ_=>none,λ_=>.absent,[],false⟩ X rfl) ?_ ?_
 .refine⟨FA.nil,?_,⟨rfl,rfl,rfl,B0 _,λ_ _ _=>rfl,B0 _⟩,⟨λk g=>⟨D.1 k g,by rintro⟨id,d,_⟩;cases d⟩,D.2.anti λk g=>by rcases g with g|⟨id,d,_⟩;exact g;cases d⟩,λid b hl _=>by simp[aK,fN,bJ.live]at hl,λi j b N _=>by simp[aK,fN,bJ.live]at N,λt=>?_,λid=>by unfold dS;trivial,λid d=>by cases d⟩
  .have:=A.1;simp;omega
  .rw[qW];cases q:e[t]? with
   |none=>exact .junk _
   |some x=>
    have G:t<y.length:=by rw[A.1];exact(A8.1 q).1
    have O:(y.toArray++B6 (l.ntmps-y.toArray.size) undef).getD t undef=y[t]:=by
     simp[A3,B9,G]
    rw[O];refine .d _ _ ((A.2 t x _ q (A1 G)).anti λk g=>?_);rcases g with g|⟨id,K,_⟩
    .exact g
    .cases K
 .rintro x env H β J I ⟨L,M⟩ s;obtain⟨v,r,u,B,C⟩:=M β J I s;have p:Ah w.heap.size w I:=⟨s.ext.os,s.ext.tape,s.ext.output,s.ext.size,λk g=>s.ext.block k g (by rintro⟨id,d,_⟩;cases d),s.ext.drawn⟩;exact⟨L,v,B,v,r,u,rfl,p,C⟩
def Zu(t:Nat)(fresh:Bool)(Rel:RV->Prop)(x:LX)(env:eG)(H:dP):Prop:=(match x with| .exit _=>False|_=>True)/\∃r,Rel r/\(∀rs,r≠ .tup rs)/\qD H fresh (env t) r
theorem TW{t:Nat}{a:Bool}{b:RV->Prop}:Zu t a b .ret env H↔∃r,b r/\(∀c,r≠ .tup c)/\qD H a (env t) r:=by simp[Zu]
theorem YY.ret{f:FuncId}{i:Func}{c:Code}{args:List DV}{Rel:RV->Prop}{b:Bool}{n t:Nat}(y:P.funcs[f]? =some i)(g:(i.name== "runtime.NumGoroutine")=false)(v:i.body=some c)(z:i.ntmps=n)(e:args.length<=n)(k:i.results= #[.tmp t])
 (h:∀w0 X,w0.pins=[]->fF P n w0 X c (Zu t b Rel) (iD args) (aK [])):YY P f args (λr=>Rel r.v/\r.fresh=b):=by
 refine Jn y g v z e λw0 X j=>(h w0 X j).mono λx env H ⟨m,r,o,p,u⟩=>⟨m,λβ a w s=>⟨a.tmps.getD t undef,⟨r,b⟩,⟨o,rfl⟩,results_tmp k _ _ _,?_⟩⟩;obtain⟨B,l⟩:=xT j s (s.env t) u;cases q:r with
 |tup rs=>exact absurd q (p rs)
 |d x=>rw[q]at l;exact⟨B,l⟩
 |own sz xs=>rw[q]at l;exact⟨B,l⟩
end
end
section
section
variable{P:Program} {N:Nat} {w0:dE} {X:Nat->Prop} {Q:LX->eG->dP->Prop} {env:eG} {H:dP} {c:Code}
theorem fF.label{l:Nat}(h:Q .normal env H):fF P N w0 X (.label l) Q env H:=λ_ _ β _ _ s=>wpIn_label ⟨.normal,env,H,β,trivial,s,h⟩
theorem fF.scope(h:fF P N w0 X c Q env H):fF P N w0 X (.scope c) Q env H:=λr o β a w s=>by
 obtain⟨n,m⟩:=o.resolve_right (by simp[mV]);subst n;refine wpIn_wide.2 (wp_scope_straight (wp_mono (wpIn_wide.1 (h none (.inl ⟨rfl,m⟩) β a w s)) λe q t k=>by
 obtain⟨f,b,g,p,d,i,j⟩:=k;cases e with
 |goto l=>cases f<;>exact d.elim
 |_=>exact⟨f,b,g,p,d,i,j⟩))
end
end
end Go.Eng
