/- Part 2 of the proof. No condition. -/
import Derived.Test.YtepoffhhiddlkaaGreatDoorMA
import Derived.Lib.ConvBytes
import Derived.MapKept
set_option linter.unusedVariables false
set_option linter.unusedSimpArgs false
set_option maxRecDepth 20000
set_option maxHeartbeats 4000000
open List renaming getElem?_eq_getElem→A0,getElem?_take→A1,mem_of_getElem?→A2,getElem?_eq_some_iff→A3,mem_of_mem_take→A4,length_take→A5,eq_nil_of_length_eq_zero→A6,map_cons→A7,getElem?_append_left→A8,mem_map→A9,getElem?_append_right→B0,flatMap_cons→B1,getElem?_drop→B2,size_toArray→B5,mem_of_mem_drop→B6,getD_eq_getElem?_getD→B9,length_append→C1,getElem?_map→C2,length_drop→C5,getElem?_toArray→C8,mem_append→C9,nil_append→D0,mem_cons_of_mem→D1,getElem_mem→D3,length_cons→D4,getElem?_cons_zero→D5,length_map→D7,getElem_of_mem→D8,mem_cons→D9,mem_cons_self→E0,map_nil→E2,map_toArray→E5,cons_append→E6,map_map→E9,zipIdx_cons→F3,mem_flatMap→F4,take_of_length_le→F7,range_eq_range'→G1,map_congr_left→G3,append_assoc→G7,getElem_take→G8,nodup_append→G9,foldlM_cons→H4,ext_getElem→H5,any_eq_true→H6,length→H9,foldl_cons→I1,foldlM_nil→I2,find?_cons→I3,toArray→I4
open Nat renaming add_mul→B4,mul_le_mul_right→B7,le_refl→B8,zero_add→C4,le_trans→D2,eq_zero_or_pos→D6,zero_mul→E1,add_assoc→E8,le_of_mul_le_mul_right→F0,lt_of_lt_of_le→F1,le_mul_of_pos_right→F5,add_zero→F6,zero_le→G0,mul_one→H7
open Int renaming le_refl→F9,toNat_natCast→G6
open Option renaming map_eq_some_iff→B3,map_some→C0,map_none→C3
open Array renaming getElem?_eq_some_iff→C7,getElem?_setIfInBounds_ne→E3,getElem?_modify→E4,getElem?_eq_getElem→F2,getElem?_toList→F8,toArray_toList→G2,getElem?_push→G4,ext'→G5,toList_map→H3
open Bool renaming false_eq_true→C6,and_eq_true→E7
open UInt8 renaming ofNat→I0
namespace Go.Eng
section
open Go.RowKit
section
variable{P:Program} {T:TypeId->cW} {w0:dE} {X:Nat->Prop} {H:Nat->bJ} {β:Nat->Option Nat} {w:World} {a:Act} {o:Oper} {g:Operand->LV} {E:Nat->Prop}
theorem eJ{α γ:Type}{f:α->γ}{l:List α}{i:Nat}{y:γ}(h:(l.map f)[i]? =some y):∃x,l[i]? =some x/\f x=y:=by
 rw[C2,B3]at h;exact h
theorem RD.ro_drop{e:List DV}{b a k:Nat}(h:RD w E (.ro e) (.pointer (some ⟨b,a,none⟩))):RD w E (.ro (e.drop k)) (.pointer (some ⟨b,a+k,none⟩)):=by
 cases h with
 |ro _ _ _ us hb hul h1 hlt hcell hp=>
  refine .ro (e.drop k) b (a+k) (us.drop k) hb (by simp[hul]) (λu c=>h1 u (B6 c)) hlt (λj u c=>?_) λi d v f g=>?_
  .rw[B2]at c;have:=hcell (k+j) u c
   rwa[E8]
  .rw[B2]at f g;exact hp _ d v f g
theorem RD.ro_form{c:List DV}{v:Value}(h:RD w E (.ro c) v):∃b a,v=.pointer (some ⟨b,a,none⟩):=by cases h;exact⟨_,_,rfl⟩
theorem SV(hT:fW P T)(m:dV w0 X H β w)(I:∀x,R w (Ex X β H) β H (g x) (a.eval x)){s:TypeId}{x:Operand}{f:Nat}(J:o.op=.fieldAddr s x f)
 (K:∀r,(T s).k=.struct r->∀p∈r,(T p.2).k.isNone=false)(c:(lH T H s (g x) f).ok):lT P w0 X H β w a o (lH T H s (g x) f):=by
 have n:=I x;generalize g x=lx at*;generalize i:a.eval x=vx at n;unfold lH at*;split at c
 .rename_i r D;obtain⟨F,L,E⟩:=hT.struct D;split at c
  .rename_i h B t;rw[<-E]at t;obtain⟨G,v,u⟩:=eJ t;injection u with e1 e2
   have A:(T B).k.isNone=false:=K r D (h,B) (by rw[<-E];exact A2 t);have e:∀b l,vx=.pointer (some ⟨b,l,none⟩)->(T B).size≠0->(execOp a.eval o).run P w=.ok (.value (.pointer (some ⟨b,l+h,none⟩))) w:=by
    intro b l M z;have q:F[f]? =some G:=by simpa using v
    have y:=cR (P:=P) (w:=w) hT A;rw[M]at i;simp[execOp,J,Instr.fieldAt,run_underlying L,q,Instr.sureAddr,i,fieldPlace,e2,y,z,e1,Addr.add_lit]
   split at c
   .rename_i id l;simp only[kJ.cond]at c|-;cases n with
    |bx _ _ b fz C hH hb=>exact lT.plain m (e b l rfl c.1) (.bx id (l+h) b fz C hH hb)
    |bxdead _ _ _ hd=>rw[hd]at c;exact absurd c.2 (by simp[bJ.live])
   .rename_i id k j;simp only[kJ.cond]at c|-;cases n with
    |rp _ _ _ b fz s' xs hH hb=>
     have:=e b (k*s'+j) rfl c.1;rw[E8]at this;exact lT.plain m this (.rp id k (j+h) b fz s' xs hH hb)
    |rpdead _ _ _ _ hd=>rw[hd]at c;exact absurd c.2 (by simp[bJ.live])
   .rename_i C;simp only[kJ.cond]at c|-;cases n with
    |d _ _ n=>
     obtain⟨b,l,rfl⟩:=n.ro_form;exact lT.plain m (e b l rfl c) (.d _ _ n.ro_drop)
   .exact c.elim
  .exact c.elim
 .exact c.elim
theorem Dv(hT:fW P T){t:TypeId}(h:(T t).k.isNone=false){cs:List Value}{off:Nat}(b:off+(T t).size<=cs.length)(c:(T t).k.agg=false->(T t).size=1):
 (part t cs.toArray off).run P w=.ok (if(T t).k.agg then .agg ((cs.drop off).take (T t).size).toArray else((cs.drop off).take (T t).size).getD 0 undef) w:=by
 unfold part;rw[Sem.run_bind,FF hT h];simp only[Result.andThen_ok];cases e:(T t).k.agg
 .have:=c e;have a:off<cs.length:=aD;simp[this,a,B9,B2]
 .simp[cR hT h]
theorem Xg(hT:fW P T)(m:dV w0 X H β w)(E:∀x,R w (Ex X β H) β H (g x) (a.eval x)){s:TypeId}{x:Operand}{f:Nat}(z:o.op=.field s x f)
 (F:∀l,(T s).k=.struct l->∀p∈l,(T p.2).k.isNone=false)(b:(Ai T s (g x) f).ok):lT P w0 X H β w a o (Ai T s (g x) f):=by
 have k:=E x;generalize g x=lx at*;generalize e:a.eval x=vx at k;unfold Ai at*;split at b
 .rename_i l v;obtain⟨C,n,y⟩:=hT.struct v;split at b
  .rename_i i A q;rw[<-y]at q;obtain⟨D,t,r⟩:=eJ q;injection r with e1 e2
   have j:(T A).k.isNone=false:=F l v (i,A) (by rw[<-y];exact A2 q);have c:C[f]? =some D:=by simpa using t
   split at b
   .rename_i B;simp only[kJ.cond]at b|-;cases k with
    |d _ _ k=>cases k with
     |agg _ vs hl h1 hp=>
      refine lT.plain m ?_ (.d _ _ (CQ (us:=vs) aD (λu n _=>h1 u (A2 n)) b.1 b.2 hp));have h:=Dv (P:=P) (w:=w) hT j (cs:=vs) (off:=i) aD b.2;simp only[execOp,z,Instr.field,Sem.run_bind,run_underlying n,Result.andThen_ok,c,e,asAgg,Sem.run_pure,e1,e2,h]
   .rename_i B;simp only[kJ.cond]at b|-;cases k with
    |agg _ vs hl h1 hp=>
     refine lT.plain m ?_ (Hl (us:=vs) aD h1 b.1 b.2 hp);have h:=Dv (P:=P) (w:=w) hT j (cs:=vs) (off:=i) aD b.2;simp only[execOp,z,Instr.field,Sem.run_bind,run_underlying n,Result.andThen_ok,c,e,asAgg,Sem.run_pure,e1,e2,h]
   .exact b.elim
  .exact b.elim
 .exact b.elim
theorem RD.sl_at{f:List DV}{v:Value}(h:RD w E (.sl f) v){i:Nat}(m:i<f.length){s:Nat}(r:(aQ (f.getD i default)).length=s):
 ∃b a c,v=.slice (some ⟨b,a,none⟩) f.length c/\RD w E (.ro (aQ (f.getD i default))) (.pointer (some ⟨b,a+i*s,none⟩)):=by
 cases h with
 |sl0=>simp at m
 |sl _ b a c size us hx hb hall hlen hc hul h1 hlt hcell hp=>
  obtain⟨g,l⟩:=sG m hall;have n:s=size:=by rw[<-r,g]
  subst n;have q:i*s+s<=f.length*s:=by have:(i+1)*s<=f.length*s:=B7 _ m;rw[B4,Nat.one_mul]at this;exact this
  refine⟨b,a,c,rfl,.ro _ b (a+i*s) ((us.drop (i*s)).take s) hb (by rw[A5,C5,g];omega) (λu e=>h1 u (B6 (A4 e))) hlt (λj u e=>?_) λj d v o k=>?_⟩
  .rw[A1]at e;split at e
   .rw[B2]at e;have:=hcell _ u e
    rwa[E8]
   .cases e
  .rw[A1]at k;split at k
   .rename_i p;rw[B2]at k;exact hp _ d v (by rw[l j p];exact o) k
   .cases k
theorem Hm(hT:fW P T)(m:dV w0 X H β w)(S:∀x,R w (Ex X β H) β H (g x) (a.eval x)){t:TypeId}{x i:Operand}(I:o.op=.indexAddr t x i)
 (K:∀e,(T t).k=.slice e\/(∃n,(T t).k=.arr n e)->(T e).k.isNone=false)(f:(fO T H t (g x) (g i)).ok):lT P w0 X H β w a o (fO T H t (g x) (g i)):=by
 have C:=S x;have G:=S i;generalize g x=lx at*;generalize g i=li at*;generalize l:a.eval x=vx at C;generalize u:a.eval i=vi at G;unfold fO at*;split at f
 .rename_i e L k r q;simp only[kJ.cond]at f|-;obtain⟨y,z,v⟩:=f;have:=G.int;subst this;have B:=hT.slice q;have h:=cR (P:=P) (w:=w) hT (K e (.inl q));cases C with
  |d _ _ C=>
   obtain⟨b,N,c,V,J⟩:=C.sl_at (i:=r.toNat) aD v;subst V;refine lT.plain m ?_ (.d _ _ J);simp[execOp,I,Instr.indexAt,l,u,asIntOf,run_underlying B,h,y,z,Addr.add_lit]
 .rename_i e id k n M r q;split at f
  .rename_i D s L A;simp only[kJ.cond]at f|-;obtain⟨y,z,v⟩:=f;have:=G.int;subst this;have B:=hT.slice q;have h:=cR (P:=P) (w:=w) hT (K e (.inl q));cases C with
   |ow _ _ _ b c _ _ _ cur e' hH' F=>
    rw[A]at hH';injection hH' with _ e1 e2;subst e1;subst e2
    have J:R w (Ex X β H) β H (.rp id (k+r.toNat) 0) (.pointer (some ⟨b,k*s+r.toNat*s,none⟩)):=by
     have:=R.rp (w:=w) (E:=Ex X β H) (β:=β) (H:=H) id (k+r.toNat) 0 b D s L A F
     rwa[B4,F6]at this
    refine lT.plain m ?_ J;simp[execOp,I,Instr.indexAt,l,u,asIntOf,run_underlying B,h,y,z,Addr.add_lit,v]
   |ow0=>omega
   |owdead _ _ _ _ hd=>rw[A]at hd;cases hd
  .exact f.elim
 .rename_i e id k n c M r q;split at f
  .rename_i D s L A;simp only[kJ.cond]at f|-;obtain⟨y,z,v⟩:=f;have:=G.int;subst this;have B:=hT.slice q;have h:=cR (P:=P) (w:=w) hT (K e (.inl q));cases C with
   |oc _ _ _ _ p _ _ _ hH' hn hkc hc Q=>
    rw[A]at hH';injection hH' with _ e1 e2;subst e1;subst e2
    rcases Q with Q|⟨b,F,rfl⟩
    .omega
    have J:R w (Ex X β H) β H (.rp id (k+r.toNat) 0) (.pointer (some ⟨b,k*s+r.toNat*s,none⟩)):=by
     have:=R.rp (w:=w) (E:=Ex X β H) (β:=β) (H:=H) id (k+r.toNat) 0 b D s L A F
     rwa[B4,F6]at this
    refine lT.plain m ?_ J;simp[execOp,I,Instr.indexAt,l,u,asIntOf,run_underlying B,h,y,z,Addr.add_lit,v]
   |ocdead _ _ _ _ _ hd=>rw[A]at hd;cases hd
  .exact f.elim
 .rename_i e id k n c M r q;simp only[kJ.cond]at f|-;obtain⟨y,z,v,U⟩:=f;have:=G.int;subst this;have B:=hT.slice q;have h:=cR (P:=P) (w:=w) hT (K e (.inl q));cases C with
  |sb _ _ _ _ p b D O A F hn hc Q=>
   obtain rfl:p=some ⟨b,k,none⟩:=Q.resolve_left aD;refine lT.plain m ?_ (.bx id (k+r.toNat) b D O A F);simp[execOp,I,Instr.indexAt,l,u,asIntOf,run_underlying B,h,y,z,Addr.add_lit,U]
  |sbdead _ _ _ _ _ hd=>rw[hd]at v;exact absurd v (by simp[bJ.live])
 .rename_i n e id N M r q;simp only[kJ.cond]at f|-;obtain⟨y,z,v⟩:=f;have:=G.int;subst this;have B:=hT.arr q;have h:=cR (P:=P) (w:=w) hT (K e (.inr ⟨n,q⟩));cases C with
  |bx _ _ b D O A F=>
   refine lT.plain m ?_ (.bx id _ b D O A F);simp[execOp,I,Instr.indexAt,l,u,asIntOf,run_underlying B,h,y,z,Addr.add_lit,Instr.sureAddr]
  |bxdead _ _ _ hd=>rw[hd]at v;exact absurd v (by simp[bJ.live])
 .rename_i n e id k j M r q;simp only[kJ.cond]at f|-;obtain⟨y,z,v⟩:=f;have:=G.int;subst this;have B:=hT.arr q;have h:=cR (P:=P) (w:=w) hT (K e (.inr ⟨n,q⟩));cases C with
  |rp _ _ _ b D s L A F=>
   have J:R w (Ex X β H) β H (.rp id k (j+r.toNat*(T e).size)) (.pointer (some ⟨b,k*s+j+r.toNat*(T e).size,none⟩)):=by
    have:=R.rp (w:=w) (E:=Ex X β H) (β:=β) (H:=H) id k (j+r.toNat*(T e).size) b D s L A F
    rwa[<-E8]at this
   refine lT.plain m ?_ J;simp[execOp,I,Instr.indexAt,l,u,asIntOf,run_underlying B,h,y,z,Addr.add_lit,Instr.sureAddr]
  |rpdead _ _ _ _ hd=>rw[hd]at v;exact absurd v (by simp[bJ.live])
 .rename_i n e O M r q;simp only[kJ.cond]at f|-;obtain⟨y,z⟩:=f;have:=G.int;subst this;have B:=hT.arr q;have h:=cR (P:=P) (w:=w) hT (K e (.inr ⟨n,q⟩));cases C with
  |d _ _ C=>
   obtain⟨b,N,rfl⟩:=C.ro_form;refine lT.plain m ?_ (.d _ _ (C.ro_drop (k:=r.toNat*(T e).size)));simp[execOp,I,Instr.indexAt,l,u,asIntOf,run_underlying B,h,y,z,Addr.add_lit,Instr.sureAddr]
 .exact f.elim
theorem SW(hT:fW P T)(m:dV w0 X H β w)(D:∀x,R w (Ex X β H) β H (g x) (a.eval x)){t:TypeId}{x i:Operand}(E:o.op=.index t x i)
 (I:∀e n,(T t).k=.arr n e->(T e).k.isNone=false)(b:(aU T t (g x) (g i)).ok):lT P w0 X H β w a o (aU T t (g x) (g i)):=by
 have p:=D x;have y:=D i;generalize g x=lx at*;generalize g i=li at*;generalize c:a.eval x=vx at p;generalize l:a.eval i=vi at y;unfold aU at*;split at b
 .rename_i s J f q;simp only[kJ.cond]at b|-;obtain⟨r,B⟩:=b;have:=y.int;subst this;have:=p.str;subst this;have k:=hT.str q;have h:f.toNat<s.length:=aD;refine lT.plain m (v:=.int .u8 (s.getD f.toNat 0).toNat) ?_ (cY _ _);have G:(⟨s.toArray⟩:ByteArray)[f.toNat]? =some (s.getD f.toNat 0):=by
   have:f.toNat<(⟨s.toArray⟩:ByteArray).size:=by simpa [ByteArray.size]using h
   rw[getElem?_pos (⟨s.toArray⟩:ByteArray) f.toNat this];simp[B9,h];rfl
  simp only[execOp,E,Instr.index,c,l,asIntOf,Sem.run_bind,Sem.run_pure,Result.andThen_ok,run_underlying k,r,if_true,G]
 .rename_i n e K J f q;simp only[kJ.cond]at b|-;obtain⟨r,B,F,C⟩:=b;have:=y.int;subst this;have k:=hT.arr q;have j:=I e n q;have A:=cR (P:=P) (w:=w) hT j;cases p with
  |d _ _ p=>cases p with
   |agg _ vs hl h1' hp=>
    refine lT.plain m ?_ (.d _ _ (CQ (us:=vs) aD (λu k _=>h1' u (A2 k)) F C hp));have z:=Dv (P:=P) (w:=w) hT j (cs:=vs) (off:=f.toNat*(T e).size) aD C;simp only[execOp,E,Instr.index,c,l,asIntOf,Sem.run_bind,Sem.run_pure,Result.andThen_ok,run_underlying k,r,B,and_self,if_true,A,z]
 .exact b.elim
theorem eF{c:Option Operand}{d:Int}{l:Int}(f:∀x,R w (Ex X β H) β H (g x) (a.eval x))(h:iY d (c.map g)=some l):
 (c=none/\l=d)\/∃x k,c=some x/\a.eval x=.int k l:=by
 cases c with
 |none=>left;simp[iY]at h;exact⟨rfl,h.symm⟩
 |some x=>
  right;have e:=f x;simp only[C0]at h;unfold iY at h;split at h
  .rename_i b;cases b
  .rename_i k i b;injection b with b
   injection h with h
   subst h;rw[b]at e;exact⟨x,_,rfl,e.int⟩
  .cases h
theorem pX(d:Bool)(e b:Nat){lo hi:Option Operand}{l h:Int}(p:(lo=none/\l=0)\/∃x k,lo=some x/\a.eval x=.int k l)(o:(hi=none/\h=e)\/∃x k,hi=some x/\a.eval x=.int k h)
 (m:0<=l)(q:l<=h)(n:h<=b):(Instr.sliceBounds d e b (lo.map a.eval) (hi.map a.eval) none).run P w=.ok (l.toNat,h.toNat,b) w:=by
 unfold Instr.sliceBounds;have g:∀k c,(Instr.sliceBound (.int k h) b c).run P w=.ok h.toNat w:=λk c=>run_sliceBound w k h b c aD n;have f:∀k c,(Instr.sliceBound (.int k l) h.toNat c).run P w=.ok l.toNat w:=λk c=>run_sliceBound w k l h.toNat c m aD;rcases o with⟨rfl,rfl⟩|⟨x,k,rfl,i⟩<;>rcases p with⟨rfl,rfl⟩|⟨y,r,rfl,j⟩
 .simp
 .simp at f;simp[j,f]
 .simp[i,g]
 .simp[i,j,g,f]
theorem RD.sl_cut{f:List DV}{a:Option Addr}{n c s l h:Nat}(B:RD w E (.sl f) (.slice a n c))(C:∀x∈f,(aQ x).length=s)(A:l<=h)(o:h<=f.length):
 RD w E (.sl ((f.take h).drop l)) (.slice (if c=l then a else a.map (·.add (l*s))) (h-l) (c-l)):=by
 have e:((f.take h).drop l).length=h-l:=kH;cases B with
 |sl0 _ _ hc=>
  simp at o;subst o;have:l=0:=aD;subst this;simp;exact .sl0 _ _ hc
 |sl _ b off _ size us q hb hall hlen' hc hul h1 hlt hcell hp=>
  rcases D6 (h-l)with y|y
  .have:(f.take h).drop l=[]:=A6 aD;rw[this,y];exact .sl0 _ _ aD
  .have r:s=size:=by
    have G:=C (f[0]'aD) (D3 _);have H:=hall (f[0]'aD) (D3 _);omega
   subst r;have D:l*s+(h-l)*s=h*s:=by rw[<-B4];congr 1;omega
   have F:h*s<=f.length*s:=B7 _ o;have k:∀x∈(f.take h).drop l,(aQ x).length=s:=λx q=>hall x (A4 (B6 q));rw[if_neg aD];simp only[C0,Addr.add_lit];have g:=RD.sl (w:=w) (E:=E) ((f.take h).drop l) b (off+l*s) (c-l) s ((us.take (h*s)).drop (l*s)) (by intro o;rw[o]at e;simp at e;omega) hb k aD aD
    (by rw[e,C5,A5];omega) (λu m=>h1 u (A4 (B6 m))) hlt (λj u m=>?_) (λi d v p t=>?_)
   .rw[e]at g;exact g
   .rw[B2,A1]at m;split at m
    .have:=hcell _ u m;rwa[E8]
    .cases m
   .rw[xQ (λx q=>hall x (A4 q)),jW hall,B2,A1]at p;rw[B2,A1]at t;split at p
    .rename_i z;rw[if_pos z]at t;exact hp _ d v p t
    .cases p
theorem mT(hT:fW P T){t e:TypeId}(r:(T t).k=.slice e)(p:(T e).k.isNone=false){b:Option Addr}{n c:Nat}{g d:Option Operand}{l h:Int}
 (s:(g=none/\l=0)\/∃x k,g=some x/\a.eval x=.int k l)(q:(d=none/\h=n)\/∃x k,d=some x/\a.eval x=.int k h)(i:0<=l)(j:l<=h)(m:h<=c):
 (Instr.sliceAt t (.slice b n c) (g.map a.eval) (d.map a.eval) none).run P w=.ok (.slice (if c=l.toNat then b else b.map (·.add (l.toNat*(T e).size))) (h.toNat-l.toNat) (c-l.toNat)) w:=by
 have u:=hT.slice r;have f:=cR (P:=P) (w:=w) hT p;have o:=pX (P:=P) (w:=w) (a:=a) true n c s q i j m;simp only[Instr.sliceAt,Instr.slice,Sem.run_bind,run_underlying u,Result.andThen_ok,o,f,Sem.run_pure]
theorem Lu(hT:fW P T){t e:TypeId}(z:(T t).k=.slice e)(v:(T e).k.isNone=false){b:Option Addr}{n c:Nat}{g f:Option Operand}{r:Operand}{l h m:Int}{C:IntKind}
 (A:(g=none/\l=0)\/∃x k,g=some x/\a.eval x=.int k l)(j:(f=none/\h=n)\/∃x k,f=some x/\a.eval x=.int k h)(o:a.eval r=.int C m)(u:l=0/\h=0/\m=0):
 ∃s,(Instr.sliceAt t (.slice b n c) (g.map a.eval) (f.map a.eval) ((some r).map a.eval)).run P w=.ok (.slice s 0 0) w\/(f=none):=by
 have p:=hT.slice z;have d:=cR (P:=P) (w:=w) hT v;obtain⟨rfl,rfl,rfl⟩:=u;rcases j with⟨rfl,j⟩|⟨x,k,rfl,q⟩
 .exact⟨none,.inr rfl⟩
 .have i:∀k y c,(Instr.sliceBound (.int k 0) y c).run P w=.ok 0 w:=λk y c=>run_sliceBound w k 0 y c (F9 _) aD;refine⟨b,.inl ?_⟩;rcases A with⟨rfl,_⟩|⟨y,D,rfl,B⟩
  .simp[Instr.sliceAt,Instr.slice,Instr.sliceBounds,run_underlying p,q,o,i,d]
  .simp[Instr.sliceAt,Instr.slice,Instr.sliceBounds,run_underlying p,q,o,B,i,d]
theorem Dw:∀(n s:Nat) (cs:List DV),(kU n s cs).length=n
 |0,_,_=>rfl
 |n+1,s,cs=>by simp[kU,Dw n s]
theorem BX{s:Nat}:∀{n:Nat} {cs:List DV},n*s<=cs.length->bZ (kU n s cs)=cs.take (n*s)
 |0,_,_=>by simp[kU,bZ]
 |n+1,cs,h=>by
  have e:(n+1)*s=s+n*s:=by rw[B4];omega
  have a:=BX (s:=s) (n:=n) (cs:=cs.drop s) (by rw[C5];omega);unfold bZ at a|-;rw[kU,B1,a,e,List.take_add];rfl
theorem BY{s:Nat}:∀{n:Nat} {cs:List DV},n*s<=cs.length->∀x∈kU n s cs,(aQ x).length=s
 |0,_,_=>by simp[kU]
 |n+1,cs,h=>by
  have e:(n+1)*s=s+n*s:=by rw[B4];omega
  intro x a;rw[kU]at a;rcases D9.1 a with rfl|a
  .show(cs.take s).length=s;rw[A5];omega
  .exact BY (cs:=cs.drop s) (by rw[C5];omega) x a
theorem Xh{E:Nat->Prop}{x d:DV}{v:Value}(h:RD w E x v)(b:v.oneCell'=true)(a:aQ x=[d]):RD w E d v:=by
 cases x with
 |agg cs=>cases h;simp[Value.oneCell']at b
 |_=>simp only[aQ,List.cons.injEq,and_true]at a;subst a;exact h
theorem SX{l:List DV}(h:∀x∈l,(aQ x).length=1):∀{i:Nat} {d:DV},(bZ l)[i]? =some d->∃x,l[i]? =some x/\aQ x=[d]:=by
 induction l with
 |nil=>intro i d a;simp[bZ]at a
 |cons x r ih=>
  intro i d a;have e:=h x (E0 ..);obtain⟨c,b⟩:=List.length_eq_one_iff.1 e;rw[bZ,B1,b]at a;cases i with
  |zero=>simp at a;subst a;exact⟨x,rfl,b⟩
  |succ i=>
   simp at a;exact ih (λy f=>h y (D1 _ f)) a
theorem SY(hT:fW P T)(m:dV w0 X H β w)(M:∀x,R w (Ex X β H) β H (g x) (a.eval x)){t:TypeId}{x:Operand}{lo hi mx:Option Operand}(ho:o.op=.slice t x lo hi mx)
 (ht:∀e,(T t).k=.slice e->(T e).k.isNone=false)(c8:mx.isSome=true->hi.isSome=true)(f:(lI T H t (g x) (lo.map g) (hi.map g) (mx.map g)).ok):lT P w0 X H β w a o (lI T H t (g x) (lo.map g) (hi.map g) (mx.map g)):=by
 have N:=M x;generalize g x=lx at*;generalize z:a.eval x=vx at N;have a1:∀{e:TypeId} {b:Option Addr} {n c:Nat} {l h m':Int} {k:IntKind},(T t).k=.slice e->vx=.slice b n c->iY 0 (lo.map g)=some l->iY n (hi.map g)=some h->mx.map g=some (.d (.int k m'))->(l=0/\h=0/\m'=0)->
  lT P w0 X H β w a o ⟨.nl,l=0/\h=0/\m'=0,[]⟩:=by
  intro e b n c l h m' k C hv I Q L h4;obtain⟨mm,b8,a8⟩:=B3.1 L;have a6:=M mm;rw[a8]at a6;obtain⟨b',hr|hr⟩:=Lu (P:=P) (w:=w) (a:=a) (b:=b) (n:=n) (c:=c) hT C (ht e C) (eF M I) (eF M Q) a6.int h4
  .refine lT.plain m (v:=.slice b' 0 0) ?_ (.nl _);rw[b8]at ho;simp only[execOp,ho,z,hv,Sem.run_bind,hr,Result.andThen_ok,Sem.run_pure]
  .have:=c8 (by rw[b8];rfl);rw[hr]at this;cases this
 unfold lI at*;split at f
 .rename_i s C;split at f
  .rename_i l h D A G;simp only[kJ.cond]at f|-;obtain⟨U,I,Q⟩:=f;have:=N.str;subst this;have hu:=hT.str C;have r:mx=none:=by simpa using G
   have V:=pX (P:=P) (w:=w) (a:=a) false s.length s.length (eF M D) (eF M A) U I Q;refine lT.plain m (v:=.string ⟨((s.take h.toNat).drop l.toNat).toArray⟩) ?_ (xR _);have d1:(⟨s.toArray⟩:ByteArray).size=s.length:=by simp[ByteArray.size]
   have c4:(⟨s.toArray⟩:ByteArray).extract l.toNat h.toNat=⟨((s.take h.toNat).drop l.toNat).toArray⟩:=by
    apply ByteArray.ext;simp[ByteArray.data_extract,List.drop_take]
   simp[execOp,ho,z,r,Instr.sliceAt,Instr.slice,run_underlying hu,d1,V,c4]
  .exact f.elim
 .rename_i e xs C;split at f
  .rename_i l h D A G;simp only[kJ.cond]at f|-;obtain⟨U,I,Q,L⟩:=f;have r:mx=none:=by simpa using G
   subst r;cases N with
   |d _ _ N=>
    have Z:∃b c,vx=.slice b xs.length c/\xs.length<=c:=by cases N with
     |sl0 a c hc=>exact⟨a,c,rfl,G0 _⟩
     |sl _ b off c _ _ _ _ _ F=>exact⟨_,c,rfl,F⟩
    obtain⟨b,c,rfl,d5⟩:=Z;have hr:=mT (P:=P) (w:=w) (a:=a) (b:=b) (n:=xs.length) (c:=c) hT C (ht e C) (eF M D) (eF M A) U I aD;refine lT.plain m ?_ (.d _ _ (N.sl_cut L (l:=l.toNat) (h:=h.toNat) aD aD));simp only[execOp,ho,z,C3,Sem.run_bind,hr,Result.andThen_ok,Sem.run_pure]
  .rename_i l h k m' D A G;simp only[kJ.cond]at f|-;cases N with
   |d _ _ N=>
    have Z:∃b c,vx=.slice b xs.length c:=by cases N with
     |sl0 a c hc=>exact⟨a,c,rfl⟩
     |sl _ b off c _ _ _ _ _ F=>exact⟨_,c,rfl⟩
    obtain⟨b,c,rfl⟩:=Z;exact a1 C rfl D A G f
  .exact f.elim
 .rename_i e id k n C;split at f
  .rename_i fz s xs Y;split at f
   .rename_i l h D A G;simp only[kJ.cond]at f|-;obtain⟨U,I,Q,L⟩:=f;have r:mx=none:=by simpa using G
    subst r;have a4:=m.obj id;simp only[dS,Y]at a4;obtain⟨a7,d3,a4⟩:=a4;cases N with
    |ow _ _ _ b c _ _ _ cur e' hH' V hkn hn hc hblk hroom=>
     rw[Y]at hH';injection hH' with _ q1 q2;subst q1;subst q2
     have b4:xs.length<=k+c:=by
      rcases a4 with⟨a3,_⟩|⟨b',c1,b1,J,y,K,_⟩
      .rw[a3]at V;cases V
      .rw[V]at J;injection J with J;subst J
       rw[hblk]at y;injection y with y;injection y with p1 p2;subst p1
       rw[<-hroom]at K;exact F0 K a7
     have hr:=mT (P:=P) (w:=w) (a:=a) (b:=some ⟨b,k*s,none⟩) (n:=n) (c:=c) hT C (ht e C) (eF M D) (eF M A) U I aD;have d0:R w (Ex X β H) β H (.ow id (k+l.toNat) (h-l).toNat) (.slice (if c=l.toNat then some ⟨b,k*s,none⟩else(some (⟨b,k*s,none⟩:Addr)).map (·.add (l.toNat*(T e).size))) (h.toNat-l.toNat) (c-l.toNat)):=by
      have b3:(h-l).toNat=h.toNat-l.toNat:=aD;by_cases B:c=l.toNat
      .rw[if_pos B,b3];have D:h.toNat-l.toNat=0:=aD;have A:c-l.toNat=0:=aD;rw[D,A];refine .ow0 id _ _ fz s xs Y (.inr ⟨b,cur,e',V,hblk,?_,aD⟩);rw[<-hroom,B]
      .rw[if_neg B,b3];simp only[C0,Addr.add_lit];rw[<-L,<-B4];refine .ow id (k+l.toNat) _ b _ fz s xs cur e' Y V aD aD aD hblk ?_;have:k+l.toNat+(c-l.toNat)=k+c:=aD;rw[this];exact hroom
     refine lT.plain m ?_ d0;simp only[execOp,ho,z,C3,Sem.run_bind,hr,Result.andThen_ok,Sem.run_pure]
    |ow0 _ _ b _ _ _ hH' hk'=>
     rw[Y]at hH';injection hH' with _ q1 q2;subst q1;subst q2
     have b4:xs.length<=k:=by
      rcases a4 with⟨a3,he⟩|⟨b',c1,b1,J,y,K,_⟩
      .rw[he];exact G0 _
      .rcases hk' with⟨I,_⟩|⟨b2,d2,A,I,Q,L,_⟩
       .rw[I]at J;cases J
       .rw[I]at J;injection J with J;subst J
        rw[Q]at y;injection y with y;injection y with p1 p2;subst p1
        rw[<-L]at K;exact F0 K a7
     have c9:=R.ow0 (w:=w) (E:=Ex X β H) (β:=β) (H:=H) id k b fz s xs Y hk';clear hk';have hr:=mT (P:=P) (w:=w) (a:=a) (b:=b) (n:=0) (c:=0) hT C (ht e C) (eF M D) (eF M A) U I aD;refine lT.plain m (v:=.slice (if 0=l.toNat then b else b.map (·.add (l.toNat*(T e).size))) (h.toNat-l.toNat) (0-l.toNat)) (by simp only[execOp,ho,z,C3,Sem.run_bind,hr,Result.andThen_ok,Sem.run_pure]) ?_;have D:h.toNat-l.toNat=0:=aD;have A:(h-l).toNat=0:=aD;rw[D,A,Nat.zero_sub];have G:k+l.toNat=k:=aD;have e4:l.toNat=0:=aD;rw[G,e4,if_pos rfl];exact c9
    |owdead _ _ _ _ O=>rw[Y]at O;cases O
   .rename_i l h kk m' D A G;simp only[kJ.cond]at f|-;cases N with
    |ow _ _ _ b c=>exact a1 C rfl D A G f
    |ow0 _ _ b=>exact a1 C rfl D A G f
    |owdead _ _ _ _ O=>rw[Y]at O;cases O
   .exact f.elim
  .exact f.elim
 .rename_i e C;split at f
  .rename_i l h D A G;simp only[kJ.cond]at f|-;obtain⟨rfl,rfl⟩:=f;have r:mx=none:=by simpa using G
   subst r;cases N with
   |nl b=>
    have hr:=mT (P:=P) (w:=w) (a:=a) (b:=b) (n:=0) (c:=0) hT C (ht e C) (eF M D) (eF M A) (F9 _) (F9 _) (F9 _);refine lT.plain m (v:=.slice b 0 0) ?_ (.nl _);simp only[execOp,ho,z,C3,Sem.run_bind,hr,Result.andThen_ok,Sem.run_pure];simp
  .exact f.elim
 .rename_i e id k n c C;split at f
  .rename_i fz s xs Y;split at f
   .rename_i l h D A G;simp only[kJ.cond]at f|-;obtain⟨U,I,Q,L⟩:=f;have r:mx=none:=by simpa using G
    subst r;cases N with
    |oc _ _ _ _ p _ _ _ hH' hn hkc hc ha=>
     rw[Y]at hH';injection hH' with _ q1 q2;subst q1;subst q2
     have hr:=mT (P:=P) (w:=w) (a:=a) (b:=p) (n:=n) (c:=c) hT C (ht e C) (eF M D) (eF M A) U I aD;have hR:R w (Ex X β H) β H (.oc id (k+l.toNat) (h-l).toNat (c-l.toNat)) (.slice (if c=l.toNat then p else p.map (·.add (l.toNat*(T e).size))) (h-l).toNat (c-l.toNat)):=by
      refine .oc id (k+l.toNat) (h-l).toNat (c-l.toNat) _ fz s xs Y aD aD aD ?_;by_cases B:c=l.toNat
      .left;omega
      .right;rcases ha with ha|⟨b,V,rfl⟩
       .omega
       .exact⟨b,V,by rw[if_neg B];simp only[C0,Addr.add_lit];rw[<-L,<-B4]⟩
     refine lT.plain m ?_ hR;have:(h-l).toNat=h.toNat-l.toNat:=aD;rw[this];simp only[execOp,ho,z,C3,Sem.run_bind,hr,Result.andThen_ok,Sem.run_pure]
    |ocdead _ _ _ _ _ O=>rw[Y]at O;cases O
   .exact f.elim
  .exact f.elim
 .rename_i e id k n c C;split at f
  .rename_i l h D A G;simp only[kJ.cond]at f|-;obtain⟨U,I,Q,L,h4⟩:=f;have r:mx=none:=by simpa using G
   subst r;cases N with
   |sb _ _ _ _ p b fz S Y V hn hc ha=>
    have hr:=mT (P:=P) (w:=w) (a:=a) (b:=p) (n:=n) (c:=c) hT C (ht e C) (eF M D) (eF M A) U I aD;have hR:R w (Ex X β H) β H (.sb id (k+l.toNat) (h-l).toNat (c-l.toNat)) (.slice (if c=l.toNat then p else p.map (·.add (l.toNat*(T e).size))) (h-l).toNat (c-l.toNat)):=by
     refine .sb id (k+l.toNat) (h-l).toNat (c-l.toNat) _ b fz S Y V aD aD ?_;by_cases B:c=l.toNat
     .left;omega
     .right;rcases ha with ha|rfl
      .omega
      .rw[if_neg B];simp only[C0,Addr.add_lit,h4,H7]
    refine lT.plain m ?_ hR;have:(h-l).toNat=h.toNat-l.toNat:=aD;rw[this];simp only[execOp,ho,z,C3,Sem.run_bind,hr,Result.andThen_ok,Sem.run_pure]
   |sbdead _ _ _ _ _ O=>rw[O]at L;exact absurd L (by simp[bJ.live])
  .exact f.elim
 .rename_i n e id off C;split at f
  .rename_i l h D A G;simp only[kJ.cond]at f|-;obtain⟨U,I,Q,L,h4,h5,h6⟩:=f;have r:mx=none:=by simpa using G
   subst r;cases N with
   |bx _ _ b fz S Y V=>
    have hu:=hT.arr C;have a5:=cR (P:=P) (w:=w) hT h6;have a0:=pX (P:=P) (w:=w) (a:=a) false n n (eF M D) (eF M A) U I Q;have hR:R w (Ex X β H) β H (.sb id (off+l.toNat) (h-l).toNat (n-l.toNat)) (.slice (some (if n=l.toNat then⟨b,off,none⟩else(⟨b,off,none⟩:Addr).add (l.toNat*(T e).size))) (h.toNat-l.toNat) (n-l.toNat)):=by
     have:(h-l).toNat=h.toNat-l.toNat:=aD;rw[<-this];refine .sb id _ _ _ _ b fz S Y V aD (D2 (Nat.sub_le _ _) (D2 L bG)) ?_;by_cases B:n=l.toNat
     .left;omega
     .right;rw[if_neg B];simp only[Addr.add_lit,h5,H7]
    refine lT.plain m ?_ hR;simp[execOp,ho,z,Instr.sliceAt,run_underlying hu,Instr.sureAddr,a0,a5]
   |bxdead _ _ _ O=>rw[O]at h4;exact absurd h4 (by simp[bJ.live])
  .exact f.elim
 .rename_i n e S C;have c0:∀{h:Int},(hi=none/\h=n\/∃x k,hi=some x/\a.eval x=.int k h)->lo=none->mx=none->0<h->h<=n->n<=1000->(T e).size=1->n<=S.length->(T e).k.isNone=false->(∀x∈S.take n,(aQ x).length=1)->∀c,
   lT P w0 X H β w a o ⟨.d (.sl (S.take h.toNat)),c,[]⟩:=by
   intro h hh a9 r U I Q L h4 h5 h6 c;subst a9;subst r;cases N with
   |d _ _ N=>
    cases N with
    |ro _ b off us V hul hu1 hlt hcell hp=>
     have hu:=hT.arr C;have a5:=cR (P:=P) (w:=w) hT h5;have a0:=pX (P:=P) (w:=w) (a:=a) false n n (lo:=none) (l:=0) (.inl ⟨rfl,rfl⟩) hh aD aD aD;have b0:n≠0:=aD;obtain⟨H0,c2⟩:∃H0:Nat,h=H0:=⟨h.toNat,aD⟩;subst c2;refine lT.plain m (v:=.slice (some ⟨b,off,none⟩) H0 n) ?_ (.d _ _ ?_)
     .simp only[C3]at a0;simp[execOp,ho,z,Instr.sliceAt,run_underlying hu,Instr.sureAddr,a0,a5,b0,Addr.add_lit]
     .have b7:∀l:List DV,(∀x∈l,(aQ x).length=1)->bZ l=l.flatMap aQ:=λl _=>rfl;have b5:∀x∈S.take H0,(aQ x).length=1:=λx b9=>h6 x (by
       have:S.take H0=(S.take n).take H0:=(by rw[List.take_take,Nat.min_eq_left aD]);rw[this]at b9;exact A4 b9)
      have F:(S.take H0).length=H0:=(by rw[A5];omega);simp only[G6];have W:=RD.sl (w:=w) (E:=Ex X β H) (S.take H0) b off n 1 (us.take H0) (by intro q;rw[q]at F;simp at F;omega) V b5 (by rw[F];omega) (D2 Q bG)
       (by rw[F,A5];omega) (λu hu=>hu1 u (A4 hu)) hlt (λj u hj=>?_) (λi d v O hv=>?_)
      .rw[F]at W;exact W
      .rw[A1]at hj;split at hj
       .exact hcell j u hj
       .cases hj
      .rw[A1]at hv;split at hv
       .rename_i c7;have d4:i<(S.take H0).length:=aD;obtain⟨dd,b6,c3⟩:=SX b5 O;rw[A1,if_pos c7]at b6;exact Xh (hp i dd v b6 hv) (hu1 v (A2 hv)) c3
       .cases hv
  split at f
  .rename_i D A G;by_cases a2:(T e).k.agg=true
   .rw[if_pos a2]at f|-;simp only[kJ.cond]at f|-;obtain⟨U,I,Q,L,h4⟩:=f;have a9:lo=none:=by simpa using D
    have c5:hi=none:=by simpa using A
    have r:mx=none:=by simpa using G
    subst a9;subst c5;subst r;cases N with
    |d _ _ N=>
     cases N with
     |ro _ b off us V hul hu1 hlt hcell hp=>
      have hu:=hT.arr C;have a5:=cR (P:=P) (w:=w) hT h4;have a0:=pX (P:=P) (w:=w) (a:=a) false n n (lo:=none) (hi:=none) (l:=0) (h:=n) (.inl ⟨rfl,rfl⟩) (.inl ⟨rfl,rfl⟩) aD aD aD;have b0:n≠0:=aD;refine lT.plain m (v:=.slice (some ⟨b,off,none⟩) n n) ?_ (.d _ _ ?_)
      .simp only[C3]at a0;simp[execOp,ho,z,Instr.sliceAt,run_underlying hu,Instr.sureAddr,a0,a5,b0,Addr.add_lit]
      .have B:=Dw n (T e).size S;have b7:=BX L;have W:=RD.sl (w:=w) (E:=Ex X β H) (kU n (T e).size S) b off n (T e).size (us.take (n*(T e).size)) (by intro q;rw[q]at B;simp at B;omega) V (BY L) aD (D2 I bG)
        (by rw[B,A5];omega) (λu hu=>hu1 u (A4 hu)) hlt (λj u hj=>?_) (λi d v O hv=>?_)
       .rw[B]at W;exact W
       .rw[A1]at hj;split at hj
        .exact hcell j u hj
        .cases hj
       .rw[b7,A1]at O;rw[A1]at hv;split at O
        .rename_i hi;rw[if_pos hi]at hv;exact hp i d v O hv
        .cases O
   .rw[if_neg a2]at f|-;simp only[kJ.cond]at f|-;obtain⟨U,I,Q,L,h4,h5⟩:=f;have:=c0 (h:=(n:Int)) (.inl ⟨by simpa using A,rfl⟩) (by simpa using D) (by simpa using G) aD aD I Q L h4 h5 (0<n/\n<=1000/\(T e).size=1/\n<=S.length/\(T e).k.isNone=false/\∀x∈S.take n,(aQ x).length=1);simpa only[G6]using this
  .rename_i k h D A G;by_cases a2:(T e).k.agg=true
   .rw[if_pos a2]at f;exact f.elim
   .rw[if_neg a2]at f|-;simp only[kJ.cond]at f|-;obtain⟨U,I,Q,L,h4,h5,h6⟩:=f;obtain⟨hm,c6,a8⟩:=B3.1 A;have a6:=M hm;rw[a8]at a6;exact c0 (h:=h) (.inr ⟨hm,k,c6,a6.int⟩) (by simpa using D) (by simpa using G) U I Q L h4 h5 h6 _
  .exact f.elim
 .exact f.elim
end
end
section
open Go.RowKit
section
variable{P:Program} {T:TypeId->cW} {w0:dE} {X:Nat->Prop} {H:Nat->bJ} {β:Nat->Option Nat} {w:World} {a:Act} {o:Oper} {g:Operand->LV} {E:Nat->Prop}
theorem Qo(new:List Value):∀(j off:Nat) (cs:Array Value),off+j+new.length<=cs.size->
 (new.zipIdx j).foldl (λcs p=>cs.setIfInBounds (off+p.2) p.1) cs=(bE (off+j) cs.toList new).toArray:=by
 induction new with
 |nil=>intro j off cs h;simp[bE]
 |cons v t ih=>
  intro j off cs h;simp only[D4]at h;simp only[F3,I1];rw[ih (j+1) off _ kH];congr 1;apply List.ext_getElem?;intro i;have e:cs.toList.length=cs.size:=bA;have a:(cs.setIfInBounds (off+j) v).toList.length=cs.size:=bA;have q1:=gQ (off:=off+(j+1)) (cs:=(cs.setIfInBounds (off+j) v).toList) (new:=t) (by rw[a];omega) i;have q2:=gQ (off:=off+j) (cs:=cs.toList) (new:=v::t) (by rw[e];simp;omega) i;rw[q1,q2];simp only[D4,F8];by_cases b:i<off+j
  .rw[if_pos aD,if_pos b,E3 aD]
  .rw[if_neg b];by_cases d:i=off+j
   .subst d;rw[if_pos aD,if_pos aD];simp[show off+j<cs.size by omega]
   .rw[if_neg aD];by_cases c:i<off+j+(t.length+1)
    .rw[if_pos aD,if_pos c];rw[show i-(off+j)=(i-(off+(j+1)))+1 by omega];simp
    .rw[if_neg aD,if_neg c,E3 aD]
theorem FG{b:Nat->Option (Nat×Nat)}{a:Array Value}{i:Nat}{v:Value}{c:List (Nat×Value)}{off size:Nat}(d:b i=some (off,size))(f:v.cells.toList.length=size)(g:off+size<=a.size):
 Instr.fill b a ((i,v)::c)=Instr.fill b (bE off a.toList v.cells.toList).toArray c:=by
 have e:v.cells.size=size:=by simpa using f
 simp only[Instr.fill,d];rw[if_neg (by simp[e];omega)];congr 1;have:=Qo v.cells.toList 0 off a aD;simp only[F6]at this;rw[<-this,<-Array.foldl_toList];simp
theorem BZ(hT:fW P T){n:List (Nat×TypeId)}(D:∀p∈n,(T p.2).k.isNone=false):∀(e:List (Nat×Operand)) (j b:List LV) (d:List Value),
 Dl n T j (e.map λp=>(p.1,g p.2))=some b->(∀p∈e,iX H (g p.2)=true)->(∀x,R w E β H (g x) (a.eval x))->
 d.length=j.length->(∀u∈d,u.oneCell'=true)->(∀(i:Nat) (c:LV) (v:Value),j[i]? =some c->d[i]? =some v->R w E β H c v)->
 ∃f,Instr.fill (λi=>(n[i]?).map λp=>(p.1,(T p.2).size)) d.toArray (e.map λp=>(p.1,a.eval p.2))=some (I4 f)/\f.length=b.length/\(∀u∈f,u.oneCell'=true)/\
  ∀(i:Nat) (c:LV) (v:Value),b[i]? =some c->f[i]? =some v->R w E β H c v:=by
 intro e;induction e with
 |nil=>
  intro j b d h _ _ m o s;simp[Dl]at h;subst h;exact⟨d,by simp[Instr.fill],m,o,s⟩
 |cons p e ih=>
  intro j b d h t r m o s;simp only[A7,Dl]at h;split at h
  .cases h
  .rename_i l I B;split at h
   .rename_i y;obtain⟨z,A⟩:=y;have k:=t p bA;obtain⟨q1,q2⟩:=(r p.2).cells k;have q3:=(r p.2).cells1 k;obtain⟨f,F,G⟩:=ih _ b (bE l d (a.eval p.2).cells.toList) h (λq C=>t q (by simp[C])) r (by rw[fC aD,fC aD];exact m) (Ao o q3) (Du m q1 aD s q2);refine⟨f,?_,G⟩;simp only[A7];rw[FG (off:=l) (size:=(T I).size) (by simp[B]) aD (by rw[B5];omega)];exact F
   .cases h
theorem FH{b place':Nat->Option (Nat×Nat)}(d:∀i q,b i=some q->place' i=some q):∀{e:List (Nat×Value)} {a c:Array Value},Instr.fill b a e=some c->Instr.fill place' a e=some c
 |[],_,_,h=>h
 |(i,v)::r,a,c,h=>by
  simp only[Instr.fill]at h|-;cases q:b i with
  |none=>rw[q]at h;cases h
  |some p=>
   obtain⟨j,f⟩:=p;rw[q]at h;rw[d i _ q];simp only at h|-;split at h
   .cases h
   .rename_i g;rw[if_neg g];exact FH d h
theorem SZ(hT:fW P T)(m:dV w0 X H β w)(hg:∀x,R w (Ex X β H) β H (g x) (a.eval x)){t:TypeId}{s:Array (Nat×Operand)}(ho:o.op=.build t s)
 (ht:∀B,(T t).k=.struct B->∀p∈B,(T p.2).k.isNone=false)(S:∀n e,(T t).k=.arr n e->(T e).k.isNone=false)(b:(rZ T H t (s.toList.map λp=>(p.1,g p.2))).ok):lT P w0 X H β w a o (rZ T H t (s.toList.map λp=>(p.1,g p.2))):=by
 unfold rZ at*;split at b
 .rename_i B r;obtain⟨C,U,hm⟩:=hT.struct r;split at b
  .rename_i A k;simp only[kJ.cond]at b|-;obtain⟨W,d,z,K,h2,h3,h4,h5,L,M⟩:=hT.parts (t:=t) (by rw[r];rfl);have h:=(hT t (by rw[r];rfl)).one;obtain⟨vs,Y,r2,r3,r4⟩:=BZ (P:=P) (H:=H) (w:=w) (E:=Ex X β H) (β:=β) hT (ht B r) s.toList _ A (T t).zero k (λp J=>b _ (A9.2 ⟨p,J,rfl⟩)) hg bA h
    (λi c v F V=>by simp[V]at F;subst F;exact R.const v)
   refine lT.plain m (v:=.agg vs.toArray) ?_ (R.mkAgg r2 r3 r4);have y:z.cells=(T t).zero.toArray:=by rw[<-M]
   have j:∀w:World,(C.mapM λf=>(do pure (f.offset,<-sizeOf f.type):Sem (Nat×Nat))).run P w=.ok (C.map λf=>(f.offset,(T f.type).size)) w:=by
    intro w;have D:∀f∈C.toList,(T f.type).k.isNone=false:=λf N=>ht B r (f.offset,f.type) (by rw[<-hm];exact A9.2 ⟨f,N,rfl⟩);rw[Array.mapM_eq_mapM_toList];have:∀l:List Field,(∀f∈l,(T f.type).k.isNone=false)->(l.mapM λf=>(do pure (f.offset,<-sizeOf f.type):Sem (Nat×Nat))).run P w=.ok (l.map λf=>(f.offset,(T f.type).size)) w:=by
     intro l;induction l with
     |nil=>intro _;rfl
     |cons f l ih=>
      intro hl;have i1:=ih λf N=>hl f (by simp[N]);have i2:=cR (P:=P) (w:=w) hT (hl f bA);simp only[List.mapM_cons,A7,Sem.run_bind,i2,Result.andThen_ok,Sem.run_pure,i1]
    rw[Sem.run_map,this C.toList D];simp only[Result.andThen_ok];congr 1;apply G5;simp
   have G:(λi:Nat=>(C.map λf=>(f.offset,(T f.type).size))[i]?)=λi=>(B[i]?).map λp=>(p.1,(T p.2).size):=by
    funext i;rw[<-hm];simp;rfl
   have u:(s.map λ(p:Nat×Operand)=>(p.1,a.eval p.2)).toList=s.toList.map λp=>(p.1,a.eval p.2):=bA;simp only[execOp,ho,Instr.build,Sem.run_bind,zeroValue,typeInfo,run_program,Result.andThen_ok,K,L,Sem.run_pure,run_underlying U,j,G,y,u,Y]
  .exact b.elim
 .rename_i n e r;have U:=hT.arr r;have I:=S n e r;split at b
  .rename_i A k;simp only[kJ.cond]at b|-;obtain⟨W,d,z,K,h2,h3,h4,h5,L,M⟩:=hT.parts (t:=t) (by rw[r];rfl);have h:=(hT t (by rw[r];rfl)).one;obtain⟨vs,Y,r2,r3,r4⟩:=BZ (P:=P) (H:=H) (w:=w) (E:=Ex X β H) (β:=β) hT (λp J=>by obtain⟨i,_,rfl⟩:=A9.1 J;exact I) s.toList _ A (T t).zero k (λp J=>b _ (A9.2 ⟨p,J,rfl⟩)) hg bA h
    (λi c v F V=>by simp[V]at F;subst F;exact R.const v)
   refine lT.plain m (v:=.agg vs.toArray) ?_ (R.mkAgg r2 r3 r4);have y:z.cells=(T t).zero.toArray:=by rw[<-M]
   have Q:=cR (P:=P) (w:=w) hT I;have u:(s.map λ(p:Nat×Operand)=>(p.1,a.eval p.2)).toList=s.toList.map λp=>(p.1,a.eval p.2):=bA;have Z:=FH (place':=λi=>some (i*(T e).size,(T e).size)) (λi q O=>by
    rw[C2]at O;by_cases hi:i<n
    .simpa [hi]using O
    .simp[hi]at O) Y
   simp only[execOp,ho,Instr.build,Sem.run_bind,zeroValue,typeInfo,run_program,Result.andThen_ok,K,L,Sem.run_pure,run_underlying U,Q,y,u,Z]
  .exact b.elim
 .exact b.elim
theorem Dx{s:Nat}:∀(b:List Value) (k:Nat) (a:List Value),(∀v∈b,v.cells.toList.length=s)->(k+b.length)*s=a.length->
 Instr.fill (λi=>some (i*s,s)) a.toArray (b.zipIdx k |>.map λp=>(p.2,p.1))=some (a.take (k*s)++b.flatMap λv=>v.cells.toList).toArray:=by
 intro b;induction b with
 |nil=>
  intro k a _ h;simp at h;rw[F7 aD];simp[Instr.fill]
 |cons v t ih=>
  intro k a d h;simp only[D4]at h;have c:=d v bA;have m:(k+(t.length+1))*s=k*s+s+t.length*s:=by rw[B4,B4];omega
  simp only[F3,A7];have f:a.toArray.toList=a:=bA;rw[FG (off:=k*s) (size:=s) rfl c (by rw[B5];omega),f];rw[ih (k+1) _ (λu l=>d u (by simp[l])) (by rw[fC aD];rw[<-h];congr 1;omega)];congr 2;simp only[B1];rw[<-G7];congr 1;have e:(k+1)*s=k*s+s:=by rw[B4];omega
  rw[e];generalize v.cells.toList=u at c;unfold bE;have g:(a.take (k*s)).length=k*s:=by rw[A5];omega
  have j:(a.take (k*s)++u).length=k*s+s:=by rw[C1,g,c]
  rw[List.take_append_of_le_length aD,F7 aD]
theorem Ca{w:World}{E:Nat->Prop}{xs:List DV}{vs:List Value}{s:Nat}(e:vs.length=xs.length)(f:∀x∈xs,(aQ x).length=s)(h:∀(i:Nat) (c:DV) (v:Value),xs[i]? =some c->vs[i]? =some v->RD w E c v):
 (∀v∈vs,v.cells.toList.length=s)/\(vs.flatMap λv=>v.cells.toList).length=xs.length*s/\(∀u∈vs.flatMap λv=>v.cells.toList,u.oneCell'=true)/\
   ∀(i:Nat) (d:DV) (u:Value),(bZ xs)[i]? =some d->(vs.flatMap λv=>v.cells.toList)[i]? =some u->RD w E d u:=by
 induction xs generalizing vs with
 |nil=>
  have:vs=[]:=A6 (by simpa using e);subst this;simp[bZ]
 |cons x t ih=>
  match vs,e with
  |v::vs,e=>
   have g:=h 0 x v rfl rfl;obtain⟨j,k⟩:=g.cells;have l:=g.cells1;have o:=f x bA;obtain⟨r,z,A,B⟩:=ih (vs:=vs) (by simpa using e) (λy q=>f y (by simp[q])) (λi c v m p=>h (i+1) c v (by simpa using m) (by simpa using p));refine⟨λu a=>?_,?_,λu a=>?_,λi d u b a=>?_⟩
   .rcases D9.1 a with rfl|a
    .omega
    .exact r u a
   .simp only[B1,C1,D4,z,B4];omega
   .simp only[B1,C9]at a;rcases a with a|a
    .exact l u a
    .exact A u a
   .simp only[bZ,B1]at b;simp only[B1]at a;by_cases n:i<(aQ x).length
    .rw[A8 n]at b;rw[A8 aD]at a;exact k i d u b a
    .rw[B0 aD]at b;rw[B0 aD,j]at a;exact B _ d u b a
theorem Ho(m:dV w0 X H β w){d:Nat}(j:H d=.absent){s:Nat}(o:0<s){g:List DV}(a:∀x∈g,(aQ x).length=s){cur:Array Value}(e:TypeId)(f:g.length*s<=cur.size)
 (k:∀(i:Nat) (d:DV) (v:Value),(bZ g)[i]? =some d->cur[i]? =some v->v.oneCell'=true/\RD w (Ex X β H) d v){w':World}(h:Ah w.heap.size w w')(p:w.heap.size<w'.heap.size)(c:w'.heap[w.heap.size]? =some (.cells cur e (0,0))):
 dV w0 X (cQ H d (.row false s g)) (cQ β d (some w.heap.size)) w'/\fB X H β w (cQ H d (.row false s g)) (cQ β d (some w.heap.size)) w':=
 m.newObj h j (some w.heap.size) (λb h=>by injection h with h;omega) λn _=>by
  unfold dS;rw[aW];exact⟨o,a,.inr ⟨w.heap.size,e,cur,by rw[aW],c,f,λi d v j l=>⟨(k i d v j l).1,n _ _ (k i d v j l).2⟩⟩⟩
theorem uY(m:dV w0 X H β w){d:Nat}(c:H d=.absent){s:Nat}(e:0<s):dV w0 X (cQ H d (.row false s [])) (cQ β d none) w/\fB X H β w (cQ H d (.row false s [])) (cQ β d none) w:=
 m.newObj (Ah.refl _ _) c none (λb a=>by cases a) λ_ _=>by
  unfold dS;rw[aW];exact⟨e,bA,.inl ⟨by rw[aW],rfl⟩⟩
theorem rP{α:Type}:∀(a:List (Nat×α)) (k:Nat),a.map (·.1)=List.range' k a.length->a=((a.map (·.2)).zipIdx k).map λp=>(p.2,p.1)
 |[],_,_=>rfl
 |p::a,k,h=>by
  simp only[A7,D4,List.range'_succ,List.cons.injEq]at h;simp only[A7,F3];rw[<-rP a (k+1) h.2,<-h.1]
theorem Fq(hT:fW P T)(m:dV w0 X H β w)(hg:∀x,R w (Ex X β H) β H (g x) (a.eval x)){t:TypeId}{n:Nat}{j:Array (Nat×Operand)}{f:Nat}(ho:o.op=.buildSlice t n j)
 (Z:∀e,(T t).k=.slice e->(T e).k.isNone=false)(k:(eZ T H f t n (j.toList.map λp=>(p.1,g p.2))).ok):lT P w0 X H β w a o (eZ T H f t n (j.toList.map λp=>(p.1,g p.2))):=by
 unfold eZ at*;split at k
 .rename_i e O;split at k
  .rename_i A U;simp only at k|-;obtain⟨ha,Q,F,r,W⟩:=k;have hu:=hT.slice O;obtain⟨a0,d,z,h1,h2,h3,h4,h5,h6,h7⟩:=hT.parts (Z e O);have u:j.toList.length=n:=by have:=congrArg H9 Q;simpa using this
   obtain⟨I,S⟩:=jF U;simp only[D7]at I
   let q:=(j.toList.map λp=>(p.1,g p.2)).flatMap λp=>bX H 8 p.2
   obtain⟨m1,g1⟩:=m.freeze q;have B:cD H (bP H q) f=.absent:=by rw[eY,ha];simp[frozen]
   have L:∀(i:Nat) (c:DV) (v:Value),A[i]? =some c->(j.toList.map λp=>a.eval p.2)[i]? =some v->RD w (Ex X β (cD H (bP H q))) c v:=by
    intro i c v hc G;obtain⟨p,hp,rfl⟩:=eJ G;have C:(j.toList.map λp=>(p.1,g p.2))[i]? =some (p.1,g p.2):=by rw[C2,hp];rfl
    have M:=S i _ c C hc;exact fZ m M (λid hid=>F4.2 ⟨_,A2 C,hid⟩) (hg p.2)
   obtain⟨f1,K,f3,f4⟩:=Ca (xs:=A) (vs:=j.toList.map λp=>a.eval p.2) (s:=(T e).size) (by simp[I]) r L;generalize N:((j.toList.map λp=>a.eval p.2).flatMap λv=>v.cells.toList)=cs at*;have y:∀b:List Value,b.length=n*(T e).size->Instr.fill (λi=>some (i*(T e).size,(T e).size)) b.toArray (j.map λ(p:Nat×Operand)=>(p.1,a.eval p.2)).toList=some cs.toArray:=by
    intro b l;have e1:(j.map λ(p:Nat×Operand)=>(p.1,a.eval p.2)).toList=((j.toList.map λp=>a.eval p.2).zipIdx 0).map λp=>(p.2,p.1):=by
     have:=rP (j.toList.map λ(p:Nat×Operand)=>(p.1,a.eval p.2)) 0 (by
      rw[E9]at Q|-;rw[D7,u,<-G1,<-Q];rfl)
     rw[H3,this,E9];rfl
    rw[e1,Dx _ 0 b f1 (by rw[l];simp[u]),N];simp
   have h:∀b:Array Value,b.size=n*(T e).size->Instr.fill (λi=>some (i*(T e).size,(T e).size)) b (j.map λ(p:Nat×Operand)=>(p.1,a.eval p.2)).toList=some cs.toArray:=by
    intro b l;have:=y b.toList (by simpa using l)
    rwa[G2]at this
   have J:A.length=n:=aD;have D:(execOp a.eval o).run P w=.ok (.value (.slice (some ⟨w.heap.size,0,none⟩) n n)) (w.alloc (.cells cs.toArray e)):=by
    simp only[execOp,ho,Instr.buildSlice,Sem.run_bind,run_underlying hu,Result.andThen_ok,cR hT (Z e O)];rw[if_neg (by show¬(n*(T e).size>2^24);omega)];by_cases hz:n*(T e).size=0
    .simp only[if_pos hz,Sem.run_bind,Sem.run_pure,Result.andThen_ok];rw[h _ bA];simp[newRow]
    .simp only[if_neg hz,Sem.run_bind,zeroValue,typeInfo,run_program,h1,h6,Sem.run_pure,Result.andThen_ok];rw[h _ bA];simp[newRow]
   have:=Ho m1 B F r e (cur:=cs.toArray) (by rw[B5,K];omega) (λi d v hd G=>⟨f3 v (by simp at G;exact A2 G),f4 i d v hd (by simpa using G)⟩)
    ((Ah.refl _ _).alloc (B8 _) (.cells cs.toArray e)) bA (heap_alloc_new w _)
   refine cV D (by simp only[jX];exact this.1) (by simp only[jX];exact g1.trans this.2) ?_;simp only[jX];rcases D6 n with Y|Y
   .subst Y;exact .ow0 f 0 _ false (T e).size A (by rw[aW]) (.inr ⟨_,_,_,by rw[aW],heap_alloc_new w _,by rw[B5,K,J],G0 _⟩)
   .have V:=R.ow (w:=w.alloc (.cells cs.toArray e)) (E:=Ex X (cQ β f (some w.heap.size)) (cQ (cD H (bP H q)) f (.row false (T e).size A))) (β:=cQ β f (some w.heap.size)) (H:=cQ (cD H (bP H q)) f (.row false (T e).size A))
     f 0 n w.heap.size n false (T e).size A cs.toArray e (by rw[aW]) (by rw[aW]) aD (B8 _) (by unfold maxLen;have:=F5 n F;omega) (heap_alloc_new w _) (by rw[B5,K,C4,J])
    rw[E1]at V;exact V
  .exact k.elim
 .exact k.elim
theorem Dy(hT:fW P T)(m:dV w0 X H β w)(hg:∀x,R w (Ex X β H) β H (g x) (a.eval x)){t:TypeId}{n:Nat}{h:Array (Nat×Operand)}{l:Nat}(ho:o.op=.buildSlice t n h)
 (S:∀e,(T t).k=.slice e->(T e).k.isNone=false)(j:(eU T H l t n (h.toList.map λp=>(p.1,g p.2))).ok):lT P w0 X H β w a o (eU T H l t n (h.toList.map λp=>(p.1,g p.2))):=by
 unfold eU at*;split at j
 .rename_i e L;split at j
  .rename_i G O;simp only at j|-;obtain⟨ha,M,D,q,Q⟩:=j;have hu:=hT.slice L;obtain⟨a1,d,z,h1,h2,h3,h4,h5,h6,h7⟩:=hT.parts (S e L);have r:h.toList.length=n:=by have:=congrArg H9 M;simpa using this
   obtain⟨F,N⟩:=jF O;simp only[D7]at F
   let y:=(h.toList.map λp=>(p.1,g p.2)).flatMap λp=>bX H 8 p.2
   obtain⟨m1,g1⟩:=m.freeze y;have A:cD H (bP H y) l=.absent:=by rw[eY,ha];simp[frozen]
   have I:∀(i:Nat) (c:DV) (v:Value),G[i]? =some c->(h.toList.map λp=>a.eval p.2)[i]? =some v->RD w (Ex X β (cD H (bP H y))) c v:=by
    intro i c v hc E;obtain⟨p,hp,rfl⟩:=eJ E;have B:(h.toList.map λp=>(p.1,g p.2))[i]? =some (p.1,g p.2):=by rw[C2,hp];rfl
    have J:=N i _ c B hc;exact fZ m J (λid hid=>F4.2 ⟨_,A2 B,hid⟩) (hg p.2)
   obtain⟨W,Y,Z,f4⟩:=Ca (xs:=G) (vs:=h.toList.map λp=>a.eval p.2) (s:=(T e).size) (by simp[F]) q I;generalize K:((h.toList.map λp=>a.eval p.2).flatMap λv=>v.cells.toList)=cs at*;have u:∀b:List Value,b.length=n*(T e).size->Instr.fill (λi=>some (i*(T e).size,(T e).size)) b.toArray (h.map λ(p:Nat×Operand)=>(p.1,a.eval p.2)).toList=some cs.toArray:=by
    intro b k;have V:(h.map λ(p:Nat×Operand)=>(p.1,a.eval p.2)).toList=((h.toList.map λp=>a.eval p.2).zipIdx 0).map λp=>(p.2,p.1):=by
     have:=rP (h.toList.map λ(p:Nat×Operand)=>(p.1,a.eval p.2)) 0 (by
      rw[E9]at M|-;rw[D7,r,<-G1,<-M];rfl)
     rw[H3,this,E9];rfl
    rw[V,Dx _ 0 b W (by rw[k];simp[r]),K];simp
   have f:∀b:Array Value,b.size=n*(T e).size->Instr.fill (λi=>some (i*(T e).size,(T e).size)) b (h.map λ(p:Nat×Operand)=>(p.1,a.eval p.2)).toList=some cs.toArray:=by
    intro b k;have:=u b.toList (by simpa using k)
    rwa[G2]at this
   have a0:G.length=n:=aD;have C:(execOp a.eval o).run P w=.ok (.value (.slice (some ⟨w.heap.size,0,none⟩) n n)) (w.alloc (.cells cs.toArray e)):=by
    simp only[execOp,ho,Instr.buildSlice,Sem.run_bind,run_underlying hu,Result.andThen_ok,cR hT (S e L)];rw[if_neg (by show¬(n*(T e).size>2^24);omega)];by_cases U:n*(T e).size=0
    .simp only[if_pos U,Sem.run_bind,Sem.run_pure,Result.andThen_ok];rw[f _ bA];simp[newRow]
    .simp only[if_neg U,Sem.run_bind,zeroValue,typeInfo,run_program,h1,h6,Sem.run_pure,Result.andThen_ok];rw[f _ bA];simp[newRow]
   have:=Ho m1 A D q e (cur:=cs.toArray) (by rw[B5,Y];omega) (λi d v hd E=>⟨Z v (by simp at E;exact A2 E),f4 i d v hd (by simpa using E)⟩)
    ((Ah.refl _ _).alloc (B8 _) (.cells cs.toArray e)) bA (heap_alloc_new w _)
   refine cV C (by simp only[jX];exact this.1) (by simp only[jX];exact g1.trans this.2) ?_;simp only[jX];exact .oc l 0 n n _ false (T e).size G (by rw[aW]) (B8 _) aD (by unfold maxLen;have:=F5 n D;omega) (.inr ⟨w.heap.size,by rw[aW],by rw[E1]⟩)
  .exact j.elim
 .exact j.elim
end
end
section
open Go.RowKit
section
variable{P:Program} {T:TypeId->cW} {w0:dE} {X:Nat->Prop} {H:Nat->bJ} {β:Nat->Option Nat} {w:World} {a:Act} {o:Oper} {g:Operand->LV} {E:Nat->Prop}
theorem sH{w a:World}(h:a.heap=w.heap)(p:Addr):a.cell? p=w.cell? p:=by simp[World.cell?,h]
theorem jG{w:World}{a n:Nat}{b:Nat}{d l c:Nat}{e:List Value}(g:e.length=n*a)(f:∀(j:Nat) (u:Value),e[j]? =some u->w.cell? ⟨b,d+j,none⟩=some u):
 (Builtin.firstCells a n (.slice (some ⟨b,d,none⟩) l c)).run P w=.ok e.toArray w:=by
 simp only[Builtin.firstCells];rw[<-g];exact run_loadCells_list (P:=P) (w:=w) ⟨b,d,none⟩ e (λj v h=>by rw[Addr.add_lit];exact f j v h)
theorem IH(m:dV w0 X H β w){id k n b s:Nat}{E:Bool}{r:List DV}(F:H id=.row E s r)(v:β id=some b)(z:k+n<=r.length)(c:Nat):
 ∃e:List Value,(∀t:World,t.heap=w.heap->(Builtin.firstCells s n (.slice (some ⟨b,k*s,none⟩) n c)).run P t=.ok e.toArray t)/\e.length=n*s/\
  (∀u∈e,u.oneCell'=true)/\∀(i:Nat) (d:DV) (u:Value),(bZ ((r.drop k).take n))[i]? =some d->e[i]? =some u->RD w (Ex X β H) d u:=by
 have l:=m.obj id;simp only[dS,F]at l;obtain⟨C,f,l⟩:=l;rcases l with⟨p,_⟩|⟨M,D,a,h,o,A,B⟩
 .rw[p]at v;cases v
 rw[v]at h;injection h with h;subst h
 have J:k*s+n*s<=r.length*s:=by rw[<-B4];exact B7 _ z
 have G:a.toList.length=a.size:=bA;have I:=flat_len f;refine⟨(a.toList.drop (k*s)).take (n*s),λt K=>jG (by rw[A5,C5];omega) λj u g=>?_,by rw[A5,C5];omega,λu g=>?_,λi d u q g=>?_⟩
 .rw[sH K,cell_of_row w b _ a D (0,0) o];rw[A1]at g;split at g
  .simpa using g
  .cases g
 .obtain⟨i,y,rfl⟩:=D8 g;simp only[G8,List.getElem_drop];rw[A5,C5]at y;exact(B (k*s+i) ((bZ r)[k*s+i]'aD) _ (A0 _) bA).1
 .rw[jW (λx L=>f x (B6 L)),xQ f,A1]at q;rw[A1]at g;split at q
  .rename_i y;rw[if_pos y]at g;rw[B2]at q g;exact(B _ d u q (by simpa using g)).2
  .cases q
theorem xS(m:dV w0 X H β w){lx:LV}{vx:Value}(K:R w (Ex X β H) β H lx vx){L:List DV}(o:jV H lx=some L){s:Nat}(S:∀y∈L,(aQ y).length=s):
 ∃a:List Value,(Builtin.lenOf vx).run P w=.ok L.length w/\(∀g:World,g.heap=w.heap->(Builtin.firstCells s L.length vx).run P g=.ok a.toArray g)/\a.length=L.length*s/\
  (∀u∈a,u.oneCell'=true)/\∀(i:Nat) (d:DV) (u:Value),(bZ L)[i]? =some d->a[i]? =some u->RD w (Ex X β H) d u:=by
 have f:∀(b:Option Addr) (c:Nat),(∀g:World,(Builtin.firstCells s 0 (.slice b 0 c)).run P g=.ok #[] g):=by
  intro b c g;cases b with
  |none=>simp[Builtin.firstCells]
  |some b=>simp[Builtin.firstCells,loadCells,loadCellsFrom]
 unfold jV at o;split at o
 .rename_i C;injection o with o;subst o
  cases K with
  |d _ _ K=>cases K with
   |sl0 b c hc=>exact⟨[],by simp[Builtin.lenOf],λg _=>f b c g,bA,bA,by simp[bZ]⟩
   |sl _ b off c A us hne G r hlen hc hul h1 hlt hcell hp=>
    have E:s=A:=by
     cases C with
     |nil=>exact absurd rfl hne
     |cons x t=>rw[<-S x bA,r x bA]
    subst E;refine⟨us,by simp[Builtin.lenOf],λg O=>jG hul λj u hu=>?_,hul,h1,hp⟩;rw[sH O];exact hcell j u hu
 .rename_i B;injection o with o;subst o
  have:=K.str;subst this;have Y:(B.map λb=>(DV.int .u8 b.toNat))=[]\/s=1:=by
   cases B with
   |nil=>left;rfl
   |cons b t=>right;rw[<-S (.int .u8 b.toNat) bA];rfl
  refine⟨B.map λb=>.int .u8 b.toNat,by simp[Builtin.lenOf,ByteArray.size],λg _=>?_,?_,by simp[Value.oneCell'],λi d u I hu=>?_⟩
  .have Z:(⟨B.toArray⟩:ByteArray).extract 0 B.length=⟨B.toArray⟩:=by
    apply ByteArray.ext;simp[ByteArray.data_extract]
   simp[Builtin.firstCells,Z]
  .rcases Y with h|h
   .have:B=[]:=by simpa using h
    subst this;simp
   .subst h;simp
  .have V:∀l:List UInt8,bZ (l.map λb=>(DV.int .u8 b.toNat))=l.map λb=>(DV.int .u8 b.toNat):=by
    intro l;induction l with
    |nil=>rfl
    |cons b l ih=>simp only[bZ,A7,B1]at*;rw[ih];rfl
   rw[V]at I;obtain⟨b,G,rfl⟩:=eJ I;obtain⟨b',q,rfl⟩:=eJ hu;rw[G]at q;injection q with q;subst q
   exact .int _ _
 .injection o with o;subst o
  cases K with
  |nl b=>exact⟨[],by simp[Builtin.lenOf],λg _=>f b 0 g,bA,bA,by simp[bZ]⟩
 .rename_i id k n;split at o
  .rename_i fz A C F;injection o with o;subst o
   have z:=m.obj id;simp only[dS,F]at z;obtain⟨N,r,z⟩:=z;cases K with
   |ow0 _ _ b=>exact⟨[],by simp[Builtin.lenOf],λg _=>by simpa using f b 0 g,bA,bA,by simp[bZ]⟩
   |owdead _ _ _ _ I=>rw[F]at I;cases I
   |ow _ _ _ b c _ _ _ cur e hH' G hkn hn hc hblk hroom=>
    rw[F]at hH';injection hH' with _ q1 q2;subst q1;subst q2
    rcases z with⟨J,_⟩|⟨b',e',a0,q,U,W,hp⟩
    .rw[J]at G;cases G
    .rw[G]at q;injection q with q;subst q
     have D:((C.drop k).take n).length=n:=kH;rcases D6 n with Q|Q
     .subst Q;have M:(C.drop k).take 0=[]:=rfl;exact⟨[],by simp[Builtin.lenOf],λg _=>by simpa using f _ c g,bA,bA,by simp[bZ]⟩
     .have E:s=A:=by
       have v:((C.drop k).take n)[0]'aD∈(C.drop k).take n:=D3 _;rw[<-S _ v];exact r _ (B6 (A4 v))
      subst E;obtain⟨a,q1,q2,q3,q4⟩:=IH (P:=P) m F G hkn c;exact⟨a,by simp[Builtin.lenOf];omega,λg O=>by rw[D];exact q1 g O,by rw[D];exact q2,q3,q4⟩
  .cases o
 .rename_i id k n c;split at o
  .rename_i fz A C F;injection o with o;subst o
   have z:=m.obj id;simp only[dS,F]at z;obtain⟨N,r,z⟩:=z;cases K with
   |ocdead _ _ _ _ _ I=>rw[F]at I;cases I
   |oc _ _ _ _ p _ _ _ hH' hn hkc hc ha=>
    rw[F]at hH';injection hH' with _ q1 q2;subst q1;subst q2
    have D:((C.drop k).take n).length=n:=kH;rcases D6 n with Q|Q
    .subst Q;have M:(C.drop k).take 0=[]:=rfl;exact⟨[],by simp[Builtin.lenOf],λg _=>by simpa using f _ c g,bA,bA,by simp[bZ]⟩
    .rcases ha with ha|⟨b,G,rfl⟩
     .omega
     have E:s=A:=by
      have v:((C.drop k).take n)[0]'aD∈(C.drop k).take n:=D3 _;rw[<-S _ v];exact r _ (B6 (A4 v))
     subst E;obtain⟨a,q1,q2,q3,q4⟩:=IH (P:=P) m F G (show k+n<=C.length by omega) c;exact⟨a,by simp[Builtin.lenOf];omega,λg O=>by rw[D];exact q1 g O,by rw[D];exact q2,q3,q4⟩
  .cases o
 .cases o
theorem kM{t u ty e:TypeId}{d:TypeDesc}{i:TypeInfo}(n:P.underlying t=some (.slice e))(o:P.underlying u=some d)(p:∀k,d≠ .int k)(l:P.info? e=some i)
 {base:Option Addr}{sLen sCap m:Nat}{x:Value}{b:List Value}(f:(Builtin.lenOf x).run P w=.ok m w)(j:∀h:World,h.heap=w.heap->(Builtin.firstCells i.size m x).run P h=.ok b.toArray h)
 (c:sLen+m<=sCap):(Builtin.append_ #[t,u] ty #[.slice base sLen sCap,x]).run P w=(match base with|some a=>(storeCells (a.add (sLen*i.size)) b).run P w|none=>.ok () w).andThen λ_ w'=>.ok (.slice base (sLen+m) sCap) w':=by
 have g:=j w rfl;cases base<;>simp[Builtin.append_,run_underlying n,run_underlying o,sizeOf,typeInfo,l,f,c,g]
theorem pY{t u ty e:TypeId}{d:TypeDesc}{i:TypeInfo}{z:Value}(A:P.underlying t=some (.slice e))(B:P.underlying u=some d)(C:∀k,d≠ .int k)(s:P.info? e=some i)(o:i.zero=some z)
 {base:Option Addr}{sLen sCap m:Nat}{x:Value}{a news:List Value}(j:(Builtin.lenOf x).run P w=.ok m w)(r:∀c:World,c.heap=w.heap->(Builtin.firstCells i.size m x).run P c=.ok news.toArray c)
 (y:∀c:World,c.heap=w.heap->(Builtin.firstCells i.size sLen (.slice base sLen sCap)).run P c=.ok a.toArray c)
 (b:sCap<sLen+m)(q:sLen+m<=9223372036854775807)(h:(sLen+m)*i.bytes<=140737488355328):
 (Builtin.append_ #[t,u] ty #[.slice base sLen sCap,x]).run P w=
   .ok (.slice (some ⟨w.heap.size,0,none⟩) (sLen+m) (grownCap w (sLen+m) sCap e)) (w.drew.alloc (.cells (a.toArray++news.toArray++Builtin.zeroCells z.cells (grownCap w (sLen+m) sCap e-(sLen+m))) e)):=by
 have v:¬(sLen+m<=sCap):=aD;have g:¬(9223372036854775807<((sLen:Int)+(m:Int))):=aD;have p:=growslice_fits b h;have f:¬(281474976710656<Builtin.nextslicecap (sLen+m) sCap*i.bytes):=aD;have l:=r w.drew rfl;have n:=y w.drew rfl;simp[Builtin.append_,run_underlying A,run_underlying B,sizeOf,typeInfo,s,j,v,g,f,l,n,o,zeroValue,newRow,Question.forced,grownCap];congr 2;apply G5;simp[G7]
theorem lU{t u:TypeId}{s x:Operand}(c:o.op=.call {callee:=.builtin .append,args:= #[s,x],argTypes:= #[t,u]}){v:Value}{b:World}
 (d:(Builtin.append_ #[t,u] o.type #[a.eval s,a.eval x]).run P w=.ok v b):(execOp a.eval o).run P w=.ok (.value v) b:=by
 unfold execOp;simp only[c,resolve,invoke,builtin,Sem.run_bind,Sem.run_pure,Result.andThen_ok,E5,A7,E2,d]
theorem FI(m:dV w0 X H β w){d:Nat}(B:H d=.absent){s a old:Nat}(F:0<s){b:List DV}(c:∀x∈b,(aQ x).length=s){news:List Value}{e:TypeId}{z:Value}(G:z.cells.size=s)(n:b.length=a)
 (q:news.length=a*s)(l:∀u∈news,u.oneCell'=true)(D:∀(i:Nat) (d:DV) (u:Value),(bZ b)[i]? =some d->news[i]? =some u->RD w (Ex X β H) d u)(I:0<a)(y:a<=140737488355328){cur:Array Value}
 (g:cur=news.toArray++Builtin.zeroCells z.cells (grownCap w a old e-a)):
 dV w0 X (cQ H d (.row false s b)) (cQ β d (some w.heap.size)) (w.drew.alloc (.cells cur e))/\fB X H β w (cQ H d (.row false s b)) (cQ β d (some w.heap.size)) (w.drew.alloc (.cells cur e))/\
  R (w.drew.alloc (.cells cur e)) (Ex X (cQ β d (some w.heap.size)) (cQ H d (.row false s b))) (cQ β d (some w.heap.size)) (cQ H d (.row false s b)) (.ow d 0 a) (.slice (some ⟨w.heap.size,0,none⟩) a (grownCap w a old e)):=by
 have k:=grownCap_ge w a old e;have o:grownCap w a old e<=maxLen:=grownCap_le_maxLen w a old e (by unfold maxLen;omega);have h:cur.size=grownCap w a old e*s:=by
  rw[g];simp only[Array.size_append,B5,size_zeroCells,G,q,<-B4];congr 1;omega
 have f:(w.drew.alloc (.cells cur e)).heap[w.heap.size]? =some (.cells cur e (0,0)):=heap_alloc_new w.drew _;have p:b.length*s<=cur.size:=by rw[h,n];exact B7 _ k
 have:=Ho m B F c e (cur:=cur) p (λi A v j r=>by
  have C:i<news.length:=by have:=(A3.1 j).1;rw[flat_len c,n]at this;omega
  rw[g,Array.getElem?_append_left (by simpa using C)]at r;exact⟨l v (A2 (by simpa using r)),D i A v j (by simpa using r)⟩) (w':=w.drew.alloc (.cells cur e)) ((Ah.refl _ _).drew.alloc (B8 _) _) bA f
 refine⟨this.1,this.2,?_⟩;have t:=R.ow (w:=w.drew.alloc (.cells cur e)) (E:=Ex X (cQ β d (some w.heap.size)) (cQ H d (.row false s b))) (β:=cQ β d (some w.heap.size)) (H:=cQ H d (.row false s b)) d 0 a w.heap.size (grownCap w a old e) false s b cur e
  (by rw[aW]) (by rw[aW]) aD k o f (by rw[C4,h])
 rw[E1]at t;exact t
theorem Qp(hT:fW P T)(m:dV w0 X H β w)(hg:∀x,R w (Ex X β H) β H (g x) (a.eval x)){t u:TypeId}{s x:Operand}{f:Nat}(ho:o.op=.call {callee:=.builtin .append,args:= #[s,x],argTypes:= #[t,u]})
 (B:t=u\/(T u).k.isStr=true)(ht:∀e,(T t).k=.slice e->(T e).k.isNone=false)(A:(jE T H f t (g s) (g x)).ok):lT P w0 X H β w a o (jE T H f t (g s) (g x)):=by
 have hs:=hg s;have W:=hg x;generalize d2:g s=ls at*;generalize d3:g x=lx at*;unfold jE at*;split at A
 .rename_i e l hk hy;have S:=hT.slice hk;obtain⟨b2,d0,z,h1,h2,h3,h4,h5,h6,h7⟩:=hT.parts (ht e hk);have c3:∃d,P.underlying u=some d/\∀k,d≠ .int k:=by
   rcases B with rfl|B
   .exact⟨_,S,λk=>bA⟩
   .have:(T u).k=.str:=by cases q:(T u).k<;>simp_all[TK.isStr]
    exact⟨_,hT.str this,λk=>bA⟩
  obtain⟨d,a4,a1⟩:=c3;have b1:z.cells.size=(T e).size:=by
   have:=(hT e (ht e hk)).len;rw[<-h7]at this;simpa using this
  generalize U:a.eval s=vs at hs;have V:∀(H1:Nat->bJ) (b:Option Addr),vs=.slice b 0 0->dV w0 X H1 β w->fB X H β w H1 β w->H1 f=.absent->0<(T e).size->(∀y∈l,(aQ y).length=(T e).size)->l.length*(T e).bytes<=140737488355328->l.length<=140737488355328->
   ∃v w' β',(execOp a.eval o).run P w=.ok (.value v) w'/\dV w0 X (cQ H1 f (.row false (T e).size l)) β' w'/\fB X H β w (cQ H1 f (.row false (T e).size l)) β' w'/\R w' (Ex X β' (cQ H1 f (.row false (T e).size l))) β' (cQ H1 f (.row false (T e).size l)) (.ow f 0 l.length) v:=by
   intro H1 b hv m1 g1 Z p D J N;subst hv;obtain⟨h,e1,e2,e3,e4,e5⟩:=xS m W hy D;rw[<-h4]at e2;rcases D6 l.length with hz|hz
   .have c5:l=[]:=A6 hz;subst c5;have b9:h=[]:=A6 (by simpa using e3);subst b9;have r:=kM (P:=P) (w:=w) (ty:=o.type) (base:=b) (sLen:=0) (sCap:=0) S a4 a1 h1 e1 e2 (B8 _);obtain⟨m2,Y⟩:=uY m1 Z p;refine⟨.slice b 0 0,w,cQ β f none,lU ho ?_,m2,g1.trans Y,.ow0 f 0 b false (T e).size [] (by rw[aW]) (.inl ⟨by rw[aW],rfl⟩)⟩;rw[U,r];cases b<;>simp[storeCells]
   .have Q:∀w2:World,w2.heap=w.heap->(Builtin.firstCells b2.size 0 (.slice b 0 0)).run P w2=.ok (I4 []) w2:=by
     intro w2 _;cases b<;>simp[Builtin.firstCells,loadCells,loadCellsFrom]
    have r:=pY (P:=P) (w:=w) (ty:=o.type) (base:=b) (sLen:=0) (sCap:=0) S a4 a1 h1 h6 e1 e2 Q aD aD (by rw[C4,h5];exact J);obtain⟨m2,Y,hR⟩:=FI m1 Z p D b1 rfl e3 e4 (λi d u G B=>g1.D (e5 i d u G B)) hz N (old:=0) (e:=e) (cur:=h.toArray++Builtin.zeroCells z.cells (grownCap w l.length 0 e-l.length)) rfl;refine⟨_,_,_,lU ho ?_,m2,g1.trans Y,hR⟩;rw[U,r];simp
  split at A
  .rename_i id k n;split at A
   .rename_i sz I hH;simp only at A|-;obtain⟨Z,b6,c2,D,J,N⟩:=A;subst b6;subst c2;have hl:(H id).live=true:=by rw[hH];rfl
    have c0:f≠id:=λe=>by rw[e,hH]at Z;cases Z
    obtain⟨m1,g1⟩:=m.kill id hl;have a7:cQ H id .dead f=.absent:=by rw[cO _ _ c0];exact Z
    have a2:=m.obj id;simp only[dS,hH]at a2;obtain⟨p,F,a2⟩:=a2;have K:∀o',cD H [(f,o'),(id,bJ.dead)]=cQ (cQ H id .dead) f o':=λo'=>by rw[jX,cJ]
    cases hs with
    |owdead _ _ _ _ G=>rw[hH]at G;cases G
    |ow0 _ _ b=>
     obtain⟨v,w',β',q1,q2,q3,q4⟩:=V _ b rfl m1 g1 a7 p D (by rw[C4]at J;exact J) aD;refine cV (β':=β') q1 ?_ ?_ ?_<;>simp only[K,List.take_zero,D0,C4]
     .exact q2
     .exact q3
     .exact q4
    |ow _ _ _ b c _ _ _ cur e' hH' hb hkn hn hc hblk hroom=>
     rw[hH]at hH';injection hH' with _ q1 q2;subst q1;subst q2
     rcases a2 with⟨a6,_⟩|⟨b',c9,c6,a0,C,b8,hp⟩
     .rw[a6]at hb;cases hb
     .rw[hb]at a0;injection a0 with a0;subst a0
      rw[hblk]at C;injection C with C;injection C with p1 p2;subst p1;subst p2
      obtain⟨h,e1,e2,e3,e4,e5⟩:=xS m W hy D;rw[<-h4]at e2;have c1:n<=I.length:=aD;have d4:n*(T e).size<=I.length*(T e).size:=B7 _ c1;have b3:cur.toList.length=cur.size:=bA;have a3:(I.take n).length=n:=kH;have M:∀x∈I.take n++l,(aQ x).length=(T e).size:=λx W=>by
       rcases C9.1 W with W|W
       .exact F x (A4 W)
       .exact D x W
      have d1:=flat_len F;have O:(bZ (I.take n)).length=n*(T e).size:=by rw[flat_len (λx W=>F x (A4 W)),a3]
      simp only[E1,C4]at U hroom;have c7:(n+l.length)*(T e).size=n*(T e).size+l.length*(T e).size:=B4 _ _ _;by_cases a5:n+l.length<=c
      .have c8:n*(T e).size+h.length<=cur.size:=by
        have:(n+l.length)*(T e).size<=c*(T e).size:=B7 _ a5;omega
       have r:=kM (P:=P) (w:=w) (ty:=o.type) (base:=some ⟨b,0,none⟩) (sLen:=n) (sCap:=c) S a4 a1 h1 e1 e2 a5;have a9:=run_storeCells_at P b (n*(T e).size) e' h 0 cur w hblk aD e4;obtain⟨m2,Y⟩:=m.moveObj (id:=id) (d:=f) n hH Z;have a8:(bE (n*(T e).size) cur.toList h).toArray.size=cur.size:=by rw[B5,fC aD];exact b3
       have b4:bZ (I.take n++l)=bZ (I.take n)++bZ l:=qT _ _;have b5:(bZ l).length=l.length*(T e).size:=flat_len D;have:=m2.rewrite (id:=f) (b:=b) (o':=.row false (T e).size (I.take n++l)) (cur':=(bE (n*(T e).size) cur.toList h).toArray) (by rw[aW];rfl) (by rw[aW];exact hb) hblk aD
        (.inr ⟨_,_,_,by rw[aW],rfl,bA⟩) (λhD _=>by
          unfold dS;rw[aW];refine⟨p,M,.inr ⟨b,e',_,by rw[aW];exact hb,setRow_heap w b _ _ e' (0,0) hblk,by rw[a8,C1,a3];omega,λi d v G hv=>?_⟩⟩;simp only[C8]at hv;rw[gQ aD]at hv;rw[b4]at G;have hi:i<n*(T e).size+l.length*(T e).size:=by have:=(A3.1 G).1;rw[C1,O,b5]at this;exact this
          by_cases L:i<n*(T e).size
          .rw[if_pos L]at hv;rw[A8 aD,jW F,A1,if_pos L]at G;have:=hp i d v G (by simpa using hv);exact⟨this.1,hD _ _ (Y.D this.2)⟩
          .rw[if_neg L,if_pos aD]at hv;rw[B0 aD,O]at G;exact⟨e4 v (A2 hv),hD _ _ (Y.D (e5 _ d v G hv))⟩)
       have b0:cQ (cQ (cQ H id .dead) f (.row false (T e).size (I.take n))) f (.row false (T e).size (I.take n++l))=cQ (cQ H id .dead) f (.row false (T e).size (I.take n++l)):=by
        funext j;simp only[cQ];split<;>rfl
       rw[b0]at this;refine cV (v:=.slice (some ⟨b,0,none⟩) (n+l.length) c) (w':=w.setRow b (bE (n*(T e).size) cur.toList h).toArray) (β':=cQ β f (β id)) (lU ho ?_) ?_ ?_ ?_
       .rw[U,r];simp only[Addr.add_lit,C4,h4];simp only[F6]at a9;rw[a9];rfl
       .simp only[K];exact this.1
       .simp only[K];exact Y.trans this.2
       .simp only[K];have hR:=R.ow (w:=w.setRow b (bE (n*(T e).size) cur.toList h).toArray) (E:=Ex X (cQ β f (β id)) (cQ (cQ H id .dead) f (.row false (T e).size (I.take n++l)))) (β:=cQ β f (β id)) (H:=cQ (cQ H id .dead) f (.row false (T e).size (I.take n++l)))
         f 0 (n+l.length) b c false (T e).size (I.take n++l) _ e' (by rw[aW]) (by rw[aW];exact hb) (by rw[C1,a3];omega) a5 hc (setRow_heap w b _ _ e' (0,0) hblk) (by rw[a8,C4];exact hroom)
        rw[E1]at hR;exact hR
      .have Q:∀w2:World,w2.heap=w.heap->(Builtin.firstCells b2.size n (.slice (some ⟨b,0,none⟩) n c)).run P w2=.ok ((cur.toList.take (n*(T e).size)).toArray) w2:=by
        intro w2 hw;refine jG (by rw[h4,A5];omega) λj u B=>?_;rw[sH hw,cell_of_row w b _ cur e' (0,0) hblk];rw[A1]at B;split at B
        .simpa using B
        .cases B
       have r:=pY (P:=P) (w:=w) (ty:=o.type) (base:=some ⟨b,0,none⟩) (sLen:=n) (sCap:=c) S a4 a1 h1 h6 e1 e2 Q aD aD (by rw[h5];exact J);have c4:(I.take n++l).length=n+l.length:=by rw[C1,a3]
       obtain⟨m2,Y,hR⟩:=FI m1 a7 p M b1 c4 (news:=cur.toList.take (n*(T e).size)++h) (by rw[C1,A5];omega)
        (λu B=>by
          rcases C9.1 B with B|B
          .obtain⟨i,hi,rfl⟩:=D8 B;rw[A5]at hi;simp only[G8];exact(hp i ((bZ I)[i]'aD) _ (A0 _) bA).1
          .exact e4 u B)
        (λi d u G B=>by
          have b7:(cur.toList.take (n*(T e).size)).length=n*(T e).size:=(by rw[A5];omega);rw[qT]at G;by_cases L:i<n*(T e).size
          .rw[A8 aD,A1,if_pos L]at B;rw[A8 aD,jW F,A1,if_pos L]at G;exact g1.D (hp i d u G (by simpa using B)).2
          .rw[B0 aD,b7]at B;rw[B0 aD,O]at G;exact g1.D (e5 _ d u G B))
        aD N (old:=c) (e:=e) (cur:=(cur.toList.take (n*(T e).size)++h).toArray++Builtin.zeroCells z.cells (grownCap w (n+l.length) c e-(n+l.length))) rfl
       refine cV (lU ho ?_) (by simp only[K];exact m2) (by simp only[K];exact g1.trans Y) (by simp only[K];exact hR);rw[U,r];simp
   .exact A.elim
  .simp only at A|-;obtain⟨Z,p,D,J,N⟩:=A;cases hs with
   |nl b=>
    obtain⟨v,w',β',q1,q2,q3,q4⟩:=V _ b rfl m fB.refl Z p D J N;refine cV (β':=β') q1 ?_ ?_ ?_<;>simp only[cJ]
    .exact q2
    .exact q3
    .exact q4
  .exact A.elim
 .exact A.elim
end
end
section
open Go.RowKit
section
variable{P:Program} {T:TypeId->cW} {w0:dE} {X:Nat->Prop} {H:Nat->bJ} {β:Nat->Option Nat} {w:World} {a:Act} {o:Oper} {g:Operand->LV} {E:Nat->Prop}
theorem RD.sl_len{d:List DV}{v:Value}(h:RD w E (.sl d) v):∃b c,v=.slice b d.length c/\d.length<=c/\c<=maxLen:=by
 cases h with
 |sl0 a c hc=>exact⟨a,c,rfl,G0 _,hc⟩
 |sl _ b off c _ _ _ _ _ hlen hc=>exact⟨_,c,rfl,hlen,hc⟩
theorem jH{t a e:TypeId}(h:P.underlying t=some (.slice e))(b:Option Addr)(n c:Nat):(Builtin.len_ #[t] a #[.slice b n c]).run P w=.ok (.int .i64 n) w:=by
 simp only[Builtin.len_,C8,D5,Sem.run_bind,run_underlying h,Result.andThen_ok,Sem.run_pure,goInt]
theorem II{t a:TypeId}(h:P.underlying t=some .string)(s:ByteArray):(Builtin.len_ #[t] a #[.string s]).run P w=.ok (.int .i64 s.size) w:=by
 simp only[Builtin.len_,C8,D5,Sem.run_bind,run_underlying h,Result.andThen_ok,Sem.run_pure,goInt]
theorem IJ{t a e:TypeId}{n:Nat}(h:P.underlying t=some (.array n e))(v:Value):(Builtin.len_ #[t] a #[v]).run P w=.ok (.int .i64 n) w:=by
 simp only[Builtin.len_,C8,D5,Sem.run_bind,run_underlying h,Result.andThen_ok,Sem.run_pure,goInt]
theorem Dz{t i g d:TypeId}{b a:Nat}{c:Array MapEntry}(h:P.underlying t=some (.map g d))(e:w.heap[b]? =some (.map c a)):(Builtin.len_ #[t] i #[.map (some b)]).run P w=.ok (.int .i64 c.size) w:=by
 have f:(getObj b).run P w=.ok (.map c a) w:=by simp[getObj,Sem.run,e]
 simp only[Builtin.len_,C8,D5,Sem.run_bind,run_underlying h,Result.andThen_ok,Sem.run_pure,goInt,f]
theorem Zd(hT:fW P T)(m:dV w0 X H β w)(E:∀x,R w (Ex X β H) β H (g x) (a.eval x)){t:TypeId}{x:Operand}(z:o.op=.call {callee:=.builtin .len,args:= #[x],argTypes:= #[t]})
 (f:(qS T H t (g x)).ok):lT P w0 X H β w a o (qS T H t (g x)):=by
 have j:=E x;generalize g x=lx at*;generalize y:a.eval x=vx at j;have h:∀{v:Value},(Builtin.len_ #[t] o.type #[vx]).run P w=.ok v w->(execOp a.eval o).run P w=.ok (.value v) w:=by
  intro v F;simp only[execOp,z,resolve,invoke,builtin,Sem.run_bind,Sem.run_pure,Result.andThen_ok,E5,A7,E2,y,F]
 unfold qS at*;split at f
 .rename_i s i;have:=j.str;subst this;exact lT.plain m (h (II (hT.str i) _)) (cY _ _)
 .rename_i e M i;cases j with
  |d _ _ j=>
   obtain⟨b,c,G,_⟩:=j.sl_len;clear j;subst G;exact lT.plain m (h (jH (hT.slice i) _ _ _)) (cY _ _)
 .rename_i e id k n i;have u:=hT.slice i;simp only[kJ.cond]at f|-;cases j with
  |ow _ _ _ b c=>exact lT.plain m (h (jH u _ _ _)) (cY _ _)
  |ow0 _ _ b=>exact lT.plain m (h (jH u _ _ _)) (cY _ _)
  |owdead _ _ _ _ hd=>rw[hd]at f;cases f
 .rename_i e id k n c i;have u:=hT.slice i;simp only[kJ.cond]at f|-;cases j with
  |oc _ _ _ _ p=>exact lT.plain m (h (jH u _ _ _)) (cY _ _)
  |ocdead _ _ _ _ _ hd=>rw[hd]at f;cases f
 .rename_i e id k n c i;have u:=hT.slice i;simp only[kJ.cond]at f|-;cases j with
  |sb _ _ _ _ p=>exact lT.plain m (h (jH u _ _ _)) (cY _ _)
  |sbdead _ _ _ _ _ hd=>rw[hd]at f;cases f
 .rename_i e i;cases j with
  |nl b=>exact lT.plain m (h (jH (hT.slice i) _ _ _)) (cY _ _)
 .rename_i n e i;exact lT.plain m (h (IJ (hT.arr i) _)) (cY _ _)
 .rename_i J C I K i;cases j with
  |d _ _ j=>cases j with
   |mp _ _ b q A _ _ l r=>
    rw[r];exact lT.plain m (h (Dz (hT.mapd i) l)) (cY _ _)
 .rename_i J C id i;split at f
  .rename_i L I K B;have z:=m.obj id;simp only[dS,B]at z;obtain⟨b,A,q,D,l,r,_⟩:=z;cases j with
   |mp _ b' _ _ _ hH' hb'=>
    rw[D]at hb';injection hb' with hb';subst hb'
    rw[r];exact lT.plain m (h (Dz (hT.mapd i) l)) (cY _ _)
   |mpdead _ _ hd=>rw[B]at hd;cases hd
  .exact f.elim
 .exact f.elim
theorem Ta(m:dV w0 X H β w)(h:∀x,R w (Ex X β H) β H (g x) (a.eval x)){mx:Bool}{args:Array Operand}{s:Array TypeId}(i:o.op=.call {callee:=.builtin (if mx then .max else .min),args:=args,argTypes:=s})
 (b:(xM mx (args.toList.map g)).ok):lT P w0 X H β w a o (xM mx (args.toList.map g)):=by
 obtain⟨l⟩:=args;simp only at b|-;unfold xM at*;split at b
 .rename_i k x t y d;split at b
  .rename_i r;subst r;rw[if_pos rfl];have c:∃p q,l=[p,q]:=by
    have:=congrArg H9 d;simp only[D7,D4,List.length_nil]at this
    match l,this with
    |[p,q],_=>exact⟨p,q,rfl⟩
   obtain⟨p,q,rfl⟩:=c
   .simp only[A7,E2,List.cons.injEq,and_true]at d;have j:=h p;have n:=h q;rw[d.1]at j;rw[d.2]at n;have e:=j.int;have f:=n.int;cases mx
    .refine lT.plain m (v:=.int k (if y<x then y else x)) ?_ (cY _ _);simp only[execOp,i,resolve,invoke,builtin,Sem.run_bind,Sem.run_pure,Result.andThen_ok,E5,A7,E2,e,f,C6,if_false,Builtin.min_,H4,I2,Builtin.min2]
    .refine lT.plain m (v:=.int k (if y>x then y else x)) ?_ (cY _ _);simp only[execOp,i,resolve,invoke,builtin,Sem.run_bind,Sem.run_pure,Result.andThen_ok,E5,A7,E2,e,f,if_true,Builtin.max_,H4,I2,Builtin.max2]
  .exact b.elim
 .exact b.elim
theorem Lv(m:dV w0 X H β w)(f:∀x,R w (Ex X β H) β H (g x) (a.eval x)){x:Operand}{i:Nat}(h:o.op=.extract x i)(b:(bM (g x) i).ok):lT P w0 X H β w a o (bM (g x) i):=by
 have e:=f x;generalize g x=lx at*;generalize c:a.eval x=vx at e;unfold bM at*;split at b
 .rename_i j;simp only[kJ.cond]at b|-;cases e with
  |tup _ us hl hp=>
   have d:i<us.length:=aD;refine lT.plain m (v:=us[i]) ?_ (hp i _ _ (by simp[B9,b]) (A0 d));simp[execOp,h,Instr.extract,c,d]
 .exact b.elim
theorem Lw(m:dV w0 X H β w){s t e:TypeId}(O:P.underlying s=some .string)(Q:P.underlying t=some (.slice e))(U:P.underlying e=some (.int .u8)){l:List UInt8}(Y:l.length<=1099511627776)
 (z:(execOp a.eval o).run P w=(convert s t (.string ⟨l.toArray⟩)>>= λv=>pure (.value v)).run P w){c:Prop}:lT P w0 X H β w a o ⟨.d (.sl (l.map λb=>.int .u8 b.toNat)),c,[]⟩:=by
 obtain⟨S,q⟩:∃S:ByteArray,S=⟨l.toArray⟩:=⟨_,rfl⟩;have f:S.size=l.length:=by rw[q];simp[ByteArray.size]
 have h:S.data.toList=l:=by rw[q]
 rw[<-q]at z;have F:=Lib.run_convert_string_bytes (P:=P) w s t e S O Q U;have W:=grownCap_ge w S.size 0 e;have k:grownCap w S.size 0 e<=maxLen:=grownCap_le_maxLen w S.size 0 e (by unfold maxLen;omega);have p:=Lib.bytesWorld_at_old w e S;have a0:=Lib.bytesWorld_size w e S;have D:=Lib.bytesWorld_cell w e S;have B:Ah w.heap.size w (Lib.bytesWorld w e S):=by
  refine⟨?_,?_,?_,aD,λj g=>p j g,?_⟩<;>(unfold Lib.bytesWorld World.freeze;split<;>first|rfl|exact Nat.le_succ w.drawn)
 obtain⟨m1,N⟩:=m.grow B;rw[Sem.run_bind,F]at z;simp only[Result.andThen_ok,Sem.run_pure]at z;refine cV (r:=⟨.d (.sl (l.map λb=>.int .u8 b.toNat)),c,[]⟩) z m1 N (.d _ _ ?_);generalize grownCap w S.size 0 e=C at*;generalize Lib.bytesWorld w e S=w1 at*;by_cases K:l=[]
 .subst K;rw[show S.size=0 by simpa using f];exact .sl0 _ C k
 .have L:¬Ex X β H w.heap.size:=λG=>by
   rcases G with G|⟨id,Z,V⟩
   .have:=(m.xold.1 _ G).1;have:=m.ext.size;omega
   .have:=(m.fresh id _ (bS Z) V).2;omega
  have I:bZ (l.map λb=>DV.int .u8 b.toNat)=l.map λb=>DV.int .u8 b.toNat:=by
   clear Y f h K q;induction l with
   |nil=>rfl
   |cons x r ih=>simp only[bZ,A7,B1]at*;rw[ih];rfl
  have M:=RD.sl (w:=w1) (E:=Ex X β H) (l.map λb=>DV.int .u8 b.toNat) w.heap.size 0 C 1 (l.map λb=>Value.int .u8 b.toNat) (by simpa using K) L (λx hx=>by obtain⟨b,_,rfl⟩:=A9.1 hx;rfl) kH k bA
   (λu hu=>by obtain⟨b,_,rfl⟩:=A9.1 hu;rfl) aD (λj u g=>by
     have n:j<l.length:=by have:=(A3.1 g).1;simpa using this
     rw[C4,D j aD,h];rw[C2,A0 n]at g;simp only[C0,Option.some.injEq]at g;rw[<-g,B9,A0 n];rfl) (λi d v y A=>by
     rw[I]at y;have J:i<l.length:=by have:=(A3.1 A).1;simpa using this
     rw[C2,A0 J]at y A;simp only[C0,Option.some.injEq]at y A;rw[<-y,<-A];exact .int _ _)
  rw[D7,<-f]at M;exact M
theorem Xi(hT:fW P T)(m:dV w0 X H β w)(hg:∀x,R w (Ex X β H) β H (g x) (a.eval x)){s t:TypeId}{x:Operand}(M:o.op=.convert s t x)(f:(aO T H s t (g x)).ok):lT P w0 X H β w a o (aO T H s t (g x)):=by
 have z:=hg x;generalize g x=lx at*;generalize h:a.eval x=vx at z;unfold aO at*;split at f
 .rename_i k' k k2 n p q;have C:=hT.int p;have E:=hT.int q;have:=z.int;subst this;exact lT.plain m (v:=.int k (k.wrap n)) (by simp[execOp,M,h,convert,run_underlying C,run_underlying E,Conv.intToInt]) (cY _ _)
 .rename_i O p q;have C:=hT.str p;have E:=hT.str q;have:=z.str;subst this;exact lT.plain m (v:=.string ⟨O.toArray⟩) (by simp[execOp,M,h,convert,run_underlying C,run_underlying E]) (xR _)
 .rename_i e O p q;split at f
  .rename_i I;simp only[kJ.cond]at f|-;have:=z.str;subst this;exact Lw m (hT.str p) (hT.slice q) (hT.int I) f (by simp only[execOp,M,h])
  .exact f.elim
 .rename_i lx _ _ _ e p q;split at f
  .rename_i u I A;simp only[kJ.cond]at f|-;have C:=hT.slice p;have E:=hT.str q;have h3:=hT.int I;have L:∀O,lx≠ .d (.str O):=by intro O e;subst e;simp[rN]at A
   have j:jV H lx=some u:=by
    unfold rN at A;split at A
    .exact absurd rfl (L _)
    .exact A
   obtain⟨D,e1,Q,S,e4,U⟩:=xS (P:=P) m z j (s:=1) (λy A=>by obtain⟨n,rfl⟩:=f y A;rfl);have G:∃b c,vx=.slice b u.length c:=by
    clear h A Q U;cases vx<;>simp only[Builtin.lenOf,run_stuck,Sem.run_pure,Result.ok.injEq,and_true,reduceCtorEq]at e1
    case slice b n c=>exact⟨b,c,by rw[e1]⟩
    case string str=>
     exfalso;unfold jV at j;split at j
     .cases z with|d _ _ z=>cases z
     .exact absurd rfl (L _)
     .cases z
     .split at j
      .rename_i V;cases z with|owdead _ _ _ _ F=>rw[V]at F;cases F
      .cases j
     .split at j
      .rename_i V;cases z with|ocdead _ _ _ _ _ F=>rw[V]at F;cases F
      .cases j
     .cases j
   obtain⟨b,c,hv⟩:=G;have W:bZ u=u:=by
    have Z:∀l:List DV,(∀y∈l,∃n,y=.int .u8 n)->bZ l=l:=by
     intro l;induction l with
     |nil=>intro _;rfl
     |cons y t ih=>
      intro K;obtain⟨n,rfl⟩:=K y bA;have:=ih (λy A=>K y (by simp[A]));simp only[bZ,B1]at*;rw[this];rfl
    exact Z u f
   rw[W]at U;have J:D=(u.map λ| .int _ n=>n|_=>0).map (Value.int .u8):=by
    apply H5
    .simp[S]
    .intro i C E;have hi:i<u.length:=aD;obtain⟨n,hn⟩:=f _ (D3 hi);have:=U i _ _ (A0 hi) (A0 C);rw[hn]at this;have F:=R.int (R.d (β:=β) (H:=H) _ _ this);rw[F];simp[hn]
   have N:∀(l:List Int) (r:ByteArray),l.foldl (λr n=>r.push (I0 n.toNat)) r=⟨(r.data.toList++l.map λn=>I0 n.toNat).toArray⟩:=by
    intro l;induction l with
    |nil=>intro r;simp
    |cons x t ih=>intro r;rw[I1,ih];simp[ByteArray.push]
   have B:(u.map λ| .int _ n=>n|_=>0).map (λn:Int=>I0 n.toNat)=u.map rO:=by
    rw[E9];apply G3;intro y A;obtain⟨n,rfl⟩:=f y A;rfl
   refine lT.plain m (v:=.string ⟨(u.map rO).toArray⟩) ?_ (xR _);subst hv;cases b with
   |none=>
    have hz:u=[]:=by
     have:=Q w rfl;simp only[Builtin.firstCells,Sem.run_pure,Result.ok.injEq,and_true]at this;have Y:D=[]:=by simpa using this.symm
     rw[Y]at S;exact A6 (by simpa using S.symm)
    subst hz;simp[execOp,M,h,convert,run_underlying C,run_underlying E,run_underlying h3,Conv.bytesToString];rfl
   |some b=>
    have K:=Q w rfl;simp only[Builtin.firstCells,H7]at K;rw[J]at K;have hr:=run_bytesToString w b u.length c _ K;rw[N,B]at hr;simp[execOp,M,h,convert,run_underlying C,run_underlying E,run_underlying h3,hr]
  .exact f.elim
 .exact f.elim
theorem IK(m:dV w0 X H β w)(r:∀x,R w (Ex X β H) β H (g x) (a.eval x)){f:FuncId}{first b:Array Operand}(n:o.op=.makeFunc (.func f) first b)(d:(if first.size=0 then kJ.plain (.fn f (b.toList.map g))else kJ.cond (.bm f (first.toList.map g)) (b.size=0)).ok):
 lT P w0 X H β w a o (if first.size=0 then kJ.plain (.fn f (b.toList.map g))else kJ.cond (.bm f (first.toList.map g)) (b.size=0)):=by
 have p:∀c:Array Operand,∀(i:Nat) (l:LV) (v:Value),(c.toList.map g)[i]? =some l->(c.toList.map a.eval)[i]? =some v->R w (Ex X β H) β H l v:=λc i l v s t=>by
  obtain⟨x,u,rfl⟩:=eJ s;obtain⟨y,h,rfl⟩:=eJ t;rw[u]at h;injection h with h;subst h
  exact r x
 have k:∀c:Array Operand,(c.toList.map a.eval).toArray=c.map a.eval:=λc=>by apply G5;simp
 split at d
 .rename_i e;rw[if_pos e];have j:first= #[]:=by simpa using e
  subst j;refine lT.plain m (v:=.func (.func f) #[] (b.toList.map a.eval).toArray) ?_ (.fn f _ _ bA (p b));simp[execOp,n,Instr.makeFunc,k]
 .rename_i e;rw[if_neg e];have q:b= #[]:=by simpa [kJ.cond]using d
  subst q;refine lT.plain m (v:=.func (.func f) (first.toList.map a.eval).toArray #[]) ?_ (.bm f _ _ bA (p first));simp[execOp,n,Instr.makeFunc,k]
end
end
section
open Go.RowKit
theorem tC:∀{σ:List (Nat×Nat)} {i j:Nat},dL σ i=some j->(i,j)∈σ
 |[],_,_,h=>by simp[dL]at h
 |p::r,i,j,h=>by
  simp only[dL]at h;split at h
  .rename_i e;injection h with h;subst e;subst h;exact E0 ..
  .exact D1 _ (tC h)
theorem mU{α γ:Type}{f:α->γ}:∀{l:List α},(l.map f).Nodup->∀p q,p∈l->q∈l->f p=f q->p=q
 |[],_,_,_,hp,_,_=>by cases hp
 |x::r,h,p,q,hp,hq,e=>by
  simp only[A7,List.nodup_cons]at h;rcases D9.1 hp with a|a<;>rcases D9.1 hq with b|b
  .rw[a,b]
  .exact absurd (A9.2 ⟨q,b,by rw[<-e,a]⟩) h.1
  .exact absurd (A9.2 ⟨p,a,by rw[e,b]⟩) h.1
  .exact mU h.2 p q a b e
theorem fH(σ:List (Nat×Nat))(o:bJ):(cX σ o).live=o.live:=by cases o<;>rfl
theorem pZ(σ:List (Nat×Nat))(o:bJ):(cX σ o).mut=o.mut:=by cases o<;>rfl
theorem R.ren{w:World}{E y:Nat->Prop}{β B:Nat->Option Nat}{H z:Nat->bJ}{σ:List (Nat×Nat)}(D:∀x v,RD w E x v->RD w y x v)(s:∀i j,dL σ i=some j->z j=cX σ (H i)/\B j=β i):
 ∀(n:Nat) (l:LV) (v:Value),R w E β H l v->R w y B z (ren σ n l) v:=by
 intro n;induction n with
 |zero=>intro l v _;exact .junk _
 |succ n ih=>
  intro l v h;have u:∀(t:List LV) (r:List Value),(∀(i:Nat) (c:LV) (v:Value),t[i]? =some c->r[i]? =some v->R w E β H c v)->∀(i:Nat) (c:LV) (v:Value),(t.map (Eng.ren σ n))[i]? =some c->r[i]? =some v->R w y B z c v:=by
   intro t r G i c v F I;obtain⟨C,A,rfl⟩:=eJ F;exact ih _ _ (G i C v A I)
  cases h with
  |d x v h=>exact .d _ _ (D _ _ h)
  |agg t r hl h1 h=>exact .agg _ r (by simpa using hl) h1 (u t r h)
  |fn f t r hl h=>exact .fn f _ r (by simpa using hl) (u t r h)
  |bm f t r hl h=>exact .bm f _ r (by simpa using hl) (u t r h)
  |tup t r hl h=>exact .tup _ r (by simpa using hl) (u t r h)
  |bx id off b fz t h1 h2=>
   simp only[Eng.ren];cases q:dL σ id with
   |none=>exact .junk _
   |some j=>obtain⟨g,o⟩:=s id j q;exact .bx j off b fz _ (by rw[g,h1];rfl) (by rw[o];exact h2)
  |bxdead id off v h1 h2=>
   simp only[Eng.ren];cases q:dL σ id with
   |none=>exact .junk _
   |some j=>obtain⟨g,o⟩:=s id j q;exact .bxdead j off v (by rw[g,h1];rfl) h2
  |rp id k j b fz size xs h1 h2=>
   simp only[Eng.ren];cases q:dL σ id with
   |none=>exact .junk _
   |some i=>obtain⟨g,o⟩:=s id i q;exact .rp i k j b fz size xs (by rw[g,h1];rfl) (by rw[o];exact h2)
  |rpdead id k j v h1 h2=>
   simp only[Eng.ren];cases q:dL σ id with
   |none=>exact .junk _
   |some i=>obtain⟨g,o⟩:=s id i q;exact .rpdead i k j v (by rw[g,h1];rfl) h2
  |ow id k m b c fz size xs cur e h1 h2 h3 h4 h5 h6 h7=>
   simp only[Eng.ren];cases q:dL σ id with
   |none=>exact .junk _
   |some i=>obtain⟨g,o⟩:=s id i q;exact .ow i k m b c fz size xs cur e (by rw[g,h1];rfl) (by rw[o];exact h2) h3 h4 h5 h6 h7
  |ow0 id k a fz size xs h1 h2=>
   simp only[Eng.ren];cases q:dL σ id with
   |none=>exact .junk _
   |some i=>obtain⟨g,o⟩:=s id i q;exact .ow0 i k a fz size xs (by rw[g,h1];rfl) (by rw[o];exact h2)
  |owdead id k m v h1 h2=>
   simp only[Eng.ren];cases q:dL σ id with
   |none=>exact .junk _
   |some i=>obtain⟨g,o⟩:=s id i q;exact .owdead i k m v (by rw[g,h1];rfl) h2
  |oc id k m c p fz size xs h1 h2 h3 h4 h5=>
   simp only[Eng.ren];cases q:dL σ id with
   |none=>exact .junk _
   |some i=>obtain⟨g,o⟩:=s id i q;exact .oc i k m c p fz size xs (by rw[g,h1];rfl) h2 h3 h4 (by rw[o];exact h5)
  |ocdead id k m c v h1 h2=>
   simp only[Eng.ren];cases q:dL σ id with
   |none=>exact .junk _
   |some i=>obtain⟨g,o⟩:=s id i q;exact .ocdead i k m c v (by rw[g,h1];rfl) h2
  |sb id k m c p b fz t h1 h2 h3 h4 h5=>
   simp only[Eng.ren];cases q:dL σ id with
   |none=>exact .junk _
   |some i=>obtain⟨g,o⟩:=s id i q;exact .sb i k m c p b fz (t.map (Eng.ren σ 8)) (by rw[g,h1];rfl) (by rw[o];exact h2) h3 h4 h5
  |sbdead id k m c v h1 h2=>
   simp only[Eng.ren];cases q:dL σ id with
   |none=>exact .junk _
   |some i=>obtain⟨g,o⟩:=s id i q;exact .sbdead i k m c v (by rw[g,h1];rfl) h2
  |when=>exact .junk _
  |nl a=>exact .nl a
  |mp id b fz ks r h1 h2=>
   simp only[Eng.ren];cases q:dL σ id with
   |none=>exact .junk _
   |some i=>obtain⟨g,o⟩:=s id i q;exact .mp i b fz ks r (by rw[g,h1];rfl) (by rw[o];exact h2)
  |mpdead id v h1 h2=>
   simp only[Eng.ren];cases q:dL σ id with
   |none=>exact .junk _
   |some i=>obtain⟨g,o⟩:=s id i q;exact .mpdead i v (by rw[g,h1];rfl) h2
  |it id b fz ks r h1 h2=>
   simp only[Eng.ren];cases q:dL σ id with
   |none=>exact .junk _
   |some i=>obtain⟨g,o⟩:=s id i q;exact .it i b fz ks r (by rw[g,h1];rfl) (by rw[o];exact h2)
  |itdead id v h1 h2=>
   simp only[Eng.ren];cases q:dL σ id with
   |none=>exact .junk _
   |some i=>obtain⟨g,o⟩:=s id i q;exact .itdead i v (by rw[g,h1];rfl) h2
  |junk=>exact .junk _
theorem bW.of_ren{σ:List (Nat×Nat)}{w k:World}{β l m:Nat->Option Nat}{c i j:Nat->bJ}{id:Nat}(h:bW w β c k l i id)(e:j id=cX σ (i id))(o:m id=l id):bW w β c k m j id:=by
 unfold bW at*;rw[e,o];cases q:c id with
 |absent=>trivial
 |dead=>simp only[q]at h;simp only[h,cX]
 |box fz cs=>
  simp only[q]at h;rcases h with h|⟨⟨a,n,h⟩,b⟩
  .exact .inl (by rw[h];rfl)
  .exact .inr ⟨⟨a,_,by rw[h];rfl⟩,b⟩
 |row fz s xs=>
  simp only[q]at h;rcases h with h|⟨⟨a,g,h,p⟩,b⟩
  .exact .inl (by rw[h];rfl)
  .exact .inr ⟨⟨a,g,by rw[h];rfl,p⟩,b⟩
 |map fz ks vs=>
  simp only[q]at h;rcases h with h|⟨⟨a,d,f,h⟩,b⟩
  .exact .inl (by rw[h];rfl)
  .exact .inr ⟨⟨a,d,f,by rw[h];rfl⟩,b⟩
 |iter fz ks vs=>
  simp only[q]at h;rcases h with h|⟨⟨a,d,f,h⟩,b⟩
  .exact .inl (by rw[h];rfl)
  .exact .inr ⟨⟨a,d,f,by rw[h];rfl⟩,b⟩
 |know x v=>trivial
theorem Lx{σ τ:List (Nat×Nat)}{w m:World}{β n o p:Nat->Option Nat}{H i k l:Nat->bJ}{id j:Nat}(h:bW w n i m o k j)(e:i j=cX σ (H id))(u:n j=β id)(t:l id=cX τ (k j))(c:p id=o j):bW w β H m p l id:=by
 unfold bW at*;rw[e,u]at h;rw[t,c];cases q:H id with
 |absent=>trivial
 |dead=>rw[q]at h;simp only[cX]at h|-;rw[h]
 |box fz cs=>
  rw[q]at h;simp only[cX]at h;rcases h with h|⟨⟨a,r,h⟩,b⟩
  .exact .inl (by rw[h];rfl)
  .exact .inr ⟨⟨a,_,by rw[h];rfl⟩,b⟩
 |row fz s xs=>
  rw[q]at h;simp only[cX]at h;rcases h with h|⟨⟨a,g,h,y⟩,b⟩
  .exact .inl (by rw[h];rfl)
  .exact .inr ⟨⟨a,g,by rw[h];rfl,y⟩,b⟩
 |map fz ks vs=>
  rw[q]at h;simp only[cX]at h;rcases h with h|⟨⟨a,d,f,h⟩,b⟩
  .exact .inl (by rw[h];rfl)
  .exact .inr ⟨⟨a,d,f,by rw[h];rfl⟩,b⟩
 |iter fz ks vs=>
  rw[q]at h;simp only[cX]at h;rcases h with h|⟨⟨a,d,f,h⟩,b⟩
  .exact .inl (by rw[h];rfl)
  .exact .inr ⟨⟨a,d,f,by rw[h];rfl⟩,b⟩
 |know x v=>trivial
def kO(l:List (Nat×Nat))(β:Nat->Option Nat)(j:Nat):Option Nat:=((l.find? λp=>p.2=j).map λp=>p.1).bind β
theorem Tb(σ:List (Nat×Nat))(H:Nat->bJ)(β:Nat->Option Nat)(j:Nat):∀l:List (Nat×Nat),
 (∃p∈l,p.2=j/\aK (l.map λp=>(p.2,cX σ (H p.1))) j=cX σ (H p.1)/\kO l β j=β p.1)\/
   (aK (l.map λp=>(p.2,cX σ (H p.1))) j=.absent/\kO l β j=none/\∀p∈l,p.2≠j):=by
 intro l;unfold aK kO;induction l with
 |nil=>right;exact⟨rfl,rfl,bA⟩
 |cons q r ih=>
  by_cases a:q.2=j
  .left;exact⟨q,E0 ..,a,by simp[fN,a],by simp[a]⟩
  .simp only[A7,fN,if_neg (λe:j=q.2=>a e.symm),I3];have:(decide (q.2=j))=false:=by simpa using a
   simp only[this];rcases ih with⟨p,b,c,d,f⟩|⟨c,d,f⟩
   .exact .inl ⟨p,D1 _ b,c,d,f⟩
   .refine .inr ⟨c,d,λp b=>?_⟩;rcases D9.1 b with rfl|b
    .exact a
    .exact f p b
theorem Qq(τ:List (Nat×Nat))(F H:Nat->bJ)(β:Nat->Option Nat)(j:Nat):∀l:List (Nat×Nat),
 (∃p∈l,p.2=j/\cD H (l.map λp=>(p.2,cX τ (F p.1))) j=cX τ (F p.1)/\kO l β j=β p.1)\/
   (cD H (l.map λp=>(p.2,cX τ (F p.1))) j=H j/\∀p∈l,p.2≠j):=by
 intro l;unfold kO;induction l with
 |nil=>right;exact⟨rfl,bA⟩
 |cons q r ih=>
  by_cases a:q.2=j
  .left;exact⟨q,E0 ..,a,by simp[cD,a],by simp[a]⟩
  .simp only[A7,cD,if_neg (λe:j=q.2=>a e.symm),I3];have:(decide (q.2=j))=false:=by simpa using a
   simp only[this];rcases ih with⟨p,b,c,f,d⟩|⟨c,d⟩
   .exact .inl ⟨p,D1 _ b,c,f,d⟩
   .refine .inr ⟨c,λp b=>?_⟩;rcases D9.1 b with rfl|b
    .exact a
    .exact d p b
theorem dS.ren{w:World}{E C:Nat->Prop}{β L:Nat->Option Nat}{H D:Nat->bJ}{σ:List (Nat×Nat)}(M:∀k,C k->E k)(V:∀i j,dL σ i=some j->D j=cX σ (H i)/\L j=β i)
 {i j:Nat}(Q:D j=cX σ (H i))(y:L j=β i)(f:dS w E β H i):dS w C L D j:=by
 have u:∀x v,RD w E x v->RD w C x v:=λx v h=>h.anti M;have N:=R.ren u V;unfold dS at*;rw[Q];cases q:H i with
 |absent=>trivial
 |dead=>trivial
 |box fz cs=>
  rw[q]at f;simp only[cX]at f|-;obtain⟨b,e,X,o,p,g,m,r⟩:=f;refine⟨b,e,X,by rw[y];exact o,p,by simpa using g,m,λi c v W B=>?_⟩;obtain⟨P,K,rfl⟩:=eJ W;exact N 8 _ _ (r i P v K B)
 |row fz size xs=>
  rw[q]at f;simp only[cX]at f|-;obtain⟨o,p,g⟩:=f;refine⟨o,p,?_⟩;rcases g with⟨g,m⟩|⟨b,e,F,g,m,r,t⟩
  .exact .inl ⟨by rw[y];exact g,m⟩
  .exact .inr ⟨b,e,F,by rw[y];exact g,m,r,λi d v l B=>⟨(t i d v l B).1,u _ _ (t i d v l B).2⟩⟩
 |map fz ks vs=>
  rw[q]at f;simp only[cX]at f|-;obtain⟨b,n,a,o,p,g,m,r,t,J⟩:=f;exact⟨b,n,a,by rw[y];exact o,p,g,m,r,λi d e l s=>u _ _ (t i d e l s),λi d e l s=>u _ _ (J i d e l s)⟩
 |iter fz ks vs=>
  rw[q]at f;simp only[cX]at f|-;obtain⟨b,O,n,a,A,z,o,p,g,m,r,t,J,S,U,G,I⟩:=f;exact⟨b,O,n,a,A,z,by rw[y];exact o,p,λh=>g (M _ h),m,r,t,J,S,U,λi d e l s=>u _ _ (G i d e l s),λi d e l s=>u _ _ (I i d e l s)⟩
 |know x v=>
  rw[q]at f;simp only[cX]at f|-;exact N 8 _ _ f
section
variable{w0:dE} {X:Nat->Prop} {H:Nat->bJ} {β:Nat->Option Nat} {w:World}
theorem dV.callG(m:dV w0 X H β w)(σ o:List (Nat×Nat))(a2:((gO σ o).map (·.1)).Nodup)(a3:((gO σ o).map (·.2)).Nodup)(b1:∀p∈o,H p.2=.absent):
 ∃(I:Nat->Prop) (βc:Nat->Option Nat),(∀k,I k->k<w.heap.size)/\
  dV ⟨w,βc,aK (σ.map λp=>(p.2,cX σ (H p.1))),σ.map (·.2),false⟩ I (aK (σ.map λp=>(p.2,cX σ (H p.1)))) βc w/\
  (∀x v,RD w (Ex X β H) x v->RD w (Ex I βc (aK (σ.map λp=>(p.2,cX σ (H p.1))))) x v)/\
  (∀l v,R w (Ex X β H) β H l v->R w (Ex I βc (aK (σ.map λp=>(p.2,cX σ (H p.1))))) βc (aK (σ.map λp=>(p.2,cX σ (H p.1)))) (Eng.ren σ 8 l) v)/\
  ∀(F:Nat->bJ) (G:Nat->Option Nat) (N:World),dV ⟨w,βc,aK (σ.map λp=>(p.2,cX σ (H p.1))),σ.map (·.2),false⟩ I F G N->
   ∃M,dV w0 X (cD H ((gO σ o).map λp=>(p.2,cX (gO σ o) (F p.1)))) M N/\fB X H β w (cD H ((gO σ o).map λp=>(p.2,cX (gO σ o) (F p.1)))) M N/\
    ∀l v,R N (Ex I G F) G F l v->R N (Ex X M (cD H ((gO σ o).map λp=>(p.2,cX (gO σ o) (F p.1))))) M (cD H ((gO σ o).map λp=>(p.2,cX (gO σ o) (F p.1)))) (Eng.ren (gO σ o) 8 l) v:=by
 generalize b8:aK (σ.map λp=>(p.2,cX σ (H p.1)))=hc;generalize hτ:gO σ o=τ at*;have m1:τ.map (·.1)=σ.map (·.2)++o.map (·.1):=by rw[<-hτ];simp[gO]
 have m2:τ.map (·.2)=σ.map (·.1)++o.map (·.2):=by rw[<-hτ];simp[gO]
 have c3:(σ.map (·.2)).Nodup:=by rw[m1]at a2;exact(G9.1 a2).1
 have c0:(σ.map (·.1)).Nodup:=by rw[m2]at a3;exact(G9.1 a3).1
 have c5:∀p∈σ,(p.2,p.1)∈τ:=λp d=>by rw[<-hτ];exact C9.2 (.inl (A9.2 ⟨p,d,rfl⟩))
 have c4:∀p∈τ,(p.2,p.1)∈σ\/p∈o:=λp d=>by
  rw[<-hτ]at d;rcases C9.1 d with d|d
  .obtain⟨q,D,rfl⟩:=A9.1 d;exact .inl D
  .exact .inr d
 have y:∀j,(∃p∈σ,p.2=j/\hc j=cX σ (H p.1)/\kO σ β j=β p.1)\/(hc j=.absent/\kO σ β j=none/\∀p∈σ,p.2≠j):=λj=>by rw[<-b8];exact Tb σ H β j σ
 have B:∀p∈σ,hc p.2=cX σ (H p.1)/\kO σ β p.2=β p.1:=λp d=>by
  rcases y p.2 with⟨q,D,a,c,C⟩|⟨_,_,C⟩
  .have:=mU c3 q p D d a;subst this;exact⟨c,C⟩
  .exact absurd rfl (C p d)
 let I:Nat->Prop:=λk=>X k\/∃id,(∀p∈σ,p.1≠id)/\(H id).mut=true/\β id=some k
 have Q:∀k,I k->Ex X β H k:=λk u=>by
  rcases u with u|⟨id,_,c,C⟩
  .exact .inl u
  .exact .inr ⟨id,c,C⟩
 have a5:∀k,Ex I (kO σ β) hc k->Ex X β H k:=λk u=>by
  rcases u with u|⟨j,a,c⟩
  .exact Q k u
  .rcases y j with⟨p,d,_,e,f⟩|⟨e,_,_⟩
   .rw[e,pZ]at a;exact .inr ⟨p.1,a,by rw[<-f];exact c⟩
   .rw[e]at a;cases a
 have a7:∀i j,dL σ i=some j->hc j=cX σ (H i)/\kO σ β j=β i:=λi j h=>B (i,j) (tC h);have a4:∀x v,RD w (Ex X β H) x v->RD w (Ex I (kO σ β) hc) x v:=λx v h=>h.anti a5;refine⟨I,kO σ β,λk u=>(Q k u).lt m,?_,a4,λl v h=>R.ren a4 a7 8 l v h,?_⟩
 .refine⟨⟨rfl,rfl,rfl,B8 _,λ_ _ _=>rfl,B8 _⟩,⟨λk u=>⟨(Q k u).lt m,λb9=>?_⟩,m.globL.anti λk u=>?_⟩,λj b J L=>?_,λi j b S z a c=>?_,λj=>?_,λid _=>bW.refl id⟩
  .obtain⟨j,z,a,c⟩:=b9;obtain⟨p,d,rfl⟩:=A9.1 z;obtain⟨e,f⟩:=B p d;have a:(hc p.2).live=true:=a;have c:kO σ β p.2=some k:=c;rw[e,fH]at a;rw[f]at c;rcases u with u|⟨id,g1,g2,g3⟩
   .rcases(m.fresh p.1 k a c).1 with h|h
    .have:=(m.xold.1 k u).1;omega
    .exact(m.xold.1 k u).2 h.1
   .exact g1 p d (m.inj p.1 id k a (bS g2) c g3)
  .rcases u with u|⟨j,z,a,c⟩
   .rcases Q k u with h|⟨id,a,c⟩
    .exact .inl h
    .exact .inr ⟨id,bS a,c⟩
   .obtain⟨p,d,rfl⟩:=A9.1 z;obtain⟨e,f⟩:=B p d;have a:(hc p.2).live=true:=a;have c:kO σ β p.2=some k:=c;rw[e,fH]at a;rw[f]at c;exact .inr ⟨p.1,a,c⟩
  .rcases y j with⟨p,d,e0,e,f⟩|⟨e,_,_⟩
   .have b0:=J;rw[e,fH]at b0;exact⟨.inr ⟨⟨j,A9.2 ⟨p,d,e0⟩,J,L⟩,λhm=>⟨j,A9.2 ⟨p,d,e0⟩,hm,L⟩⟩,(m.fresh p.1 b b0 (by rw[<-f];exact L)).2⟩
   .rw[e]at J;cases J
  .rcases y i with⟨p,d,p1,e,f⟩|⟨e,_,_⟩
   .rcases y j with⟨q,D,q1,P,W⟩|⟨P,_,_⟩
    .rw[e,fH]at S;rw[P,fH]at z;have:=m.inj p.1 q.1 b S z (by rw[<-f];exact a) (by rw[<-W];exact c);have:=mU c0 p q d D this;rw[<-p1,<-q1,this]
    .rw[P]at z;cases z
   .rw[e]at S;cases S
  .rcases y j with⟨p,d,p1,e,f⟩|⟨e,_,_⟩
   .exact dS.ren a5 a7 e f (m.obj p.1)
   .unfold dS;rw[e];trivial
 .intro F G N E;generalize a6:cD H (τ.map λp=>(p.2,cX τ (F p.1)))=H2
  let M:Nat->Option Nat:=λid=>if(τ.any λp=>p.2==id)=true then kO τ G id else β id
  have n:∀id,(∃p∈τ,p.2=id/\H2 id=cX τ (F p.1)/\M id=G p.1)\/(H2 id=H id/\M id=β id/\∀p∈τ,p.2≠id):=λid=>by
   rcases Qq τ F H G id τ with⟨p,d,a,c,C⟩|⟨a,c⟩
   .refine .inl ⟨p,d,a,by rw[<-a6];exact c,?_⟩;show(if(τ.any λp=>p.2==id)=true then kO τ G id else β id)=_;rw[if_pos (H6.2 ⟨p,d,by simpa using a⟩)];exact C
   .refine .inr ⟨by rw[<-a6];exact a,?_,c⟩;show(if(τ.any λp=>p.2==id)=true then kO τ G id else β id)=_;rw[if_neg];intro h;obtain⟨p,d,h⟩:=H6.1 h;exact c p d (by simpa using h)
  have b4:∀p∈τ,H2 p.2=cX τ (F p.1)/\M p.2=G p.1:=λp d=>by
   rcases n p.2 with⟨q,D,a,c,C⟩|⟨_,_,C⟩
   .have:=mU a3 q p D d a;subst this;exact⟨c,C⟩
   .exact absurd rfl (C p d)
  have a8:∀i j,dL τ i=some j->H2 j=cX τ (F i)/\M j=G i:=λi j h=>b4 (i,j) (tC h);have V:∀id,(∀p∈τ,p.2≠id)->∀p∈σ,p.1≠id:=λid h p d=>h _ (c5 p d);have a1:∀k,Ex X M H2 k->Ex I G F k:=λk u=>by
   rcases u with u|⟨id,a,c⟩
   .exact .inl (.inl u)
   .rcases n id with⟨p,d,_,e,f⟩|⟨e,f,Z⟩
    .rw[e,pZ]at a;exact .inr ⟨p.1,a,by rw[<-f];exact c⟩
    .rw[e]at a;rw[f]at c;exact .inl (.inr ⟨id,V id Z,a,c⟩)
  have b6:∀x v,RD N (Ex I G F) x v->RD N (Ex X M H2) x v:=λx v h=>h.anti a1
  let wc:dE:=⟨w,kO σ β,hc,σ.map (·.2),false⟩
  have E:dV wc I F G N:=E;have A:∀k,wc.own k->∃p∈σ,(H p.1).mut=true/\β p.1=some k:=λk ⟨j,z,a,c⟩=>by
   obtain⟨p,d,rfl⟩:=A9.1 z;obtain⟨e,f⟩:=B p d;have a:(hc p.2).mut=true:=a;have c:kO σ β p.2=some k:=c;rw[e,pZ]at a;rw[f]at c;exact⟨p,d,a,c⟩
  have K:∀k,wc.mine k->∃p∈σ,(H p.1).live=true/\β p.1=some k:=λk ⟨j,z,a,c⟩=>by
   obtain⟨p,d,rfl⟩:=A9.1 z;obtain⟨e,f⟩:=B p d;have a:(hc p.2).live=true:=a;have c:kO σ β p.2=some k:=c;rw[e,fH]at a;rw[f]at c;exact⟨p,d,a,c⟩
  have a0:∀id b,(∀p∈τ,p.2≠id)->(H id).live=true->β id=some b->N.heap[b]? =w.heap[b]? :=λid b hid J L=>by
   refine E.ext.block b (m.fresh id b J L).2 λho=>?_;obtain⟨p,d,a,c⟩:=A b ho;exact V id hid p d (m.inj p.1 id b (bS a) J c L)
  have g:fB X H β w H2 M N:=by
   refine⟨E.ext.size,λk u he=>E.ext.block k u λho=>?_,λk u he=>?_,λid=>?_⟩
   .obtain⟨p,d,a,c⟩:=A k ho;exact he (.inr ⟨p.1,a,c⟩)
   .rcases a1 k he with h|⟨j,a,c⟩
    .exact Q k h
    .rcases(E.fresh j k (bS a) c).1 with h|h
     .have h:w.heap.size<=k:=h;omega
     .obtain⟨p,d,C,h4⟩:=A k (h.2 a);exact .inr ⟨p.1,C,h4⟩
   .rcases n id with⟨p,d,U,e,f⟩|⟨e,f,Z⟩
    .rcases c4 p d with D|D
     .have b3:bW w (kO σ β) hc N G F p.1:=E.pin p.1 (A9.2 ⟨_,D,rfl⟩);obtain⟨c1,c2⟩:=B _ D;simp only at c1 c2;rw[U]at c1 c2;exact Lx b3 c1 c2 e f
     .unfold bW;rw[<-U,b1 p D];trivial
    .have d:=bW.refl (w:=w) (β:=β) (H:=H) id;unfold bW at*;rw[e,f];cases q:H id with
     |absent=>trivial
     |dead=>rfl
     |box fz cs=>simpa only[q]using d
     |row fz s xs=>exact .inr ⟨⟨fz,xs,rfl,B8 _⟩,rfl,λb b5 t b7 a9=>⟨b5,t,by rw[a0 id b Z (by rw[q];rfl) b7];exact a9,rfl⟩⟩
     |map fz ks vs=>simpa only[q]using d
     |iter fz ks vs=>simpa only[q]using d
     |know x v=>trivial
  refine⟨M,⟨⟨E.ext.os.trans m.ext.os,E.ext.tape.trans m.ext.tape,E.ext.output.trans m.ext.output,D2 m.ext.size E.ext.size,λk u b2=>?_,D2 m.ext.drawn E.ext.drawn⟩,m.xold,λid b J L=>?_,λi j b S z a c=>?_,λid=>?_,λid hid=>(m.pin id hid).trans (g.pass id)⟩,g,λl v h=>R.ren b6 a8 8 l v h⟩
  .refine(E.ext.block k (F1 u m.ext.size) λho=>?_).trans (m.ext.block k u b2);obtain⟨p,d,a,c⟩:=A k ho;rcases(m.fresh p.1 k (bS a) c).1 with h|h
   .omega
   .exact b2 (h.2 a)
  .rcases n id with⟨p,d,U,e,f⟩|⟨e,f,Z⟩
   .rw[e,fH]at J;rw[f]at L;have hf:=E.fresh p.1 b J L;refine⟨?_,hf.2⟩;by_cases Y:w0.w.heap.size<=b
    .exact .inl Y
    .right;rcases hf.1 with h|⟨C,h4⟩
     .exact absurd (D2 m.ext.size h) Y
     .obtain⟨q,_,q1,q2⟩:=K b C;refine⟨((m.fresh q.1 b q1 q2).1.resolve_left Y).1,λhm=>?_⟩;rw[e,pZ]at hm;obtain⟨r,_,r1,r2⟩:=A b (h4 hm);exact((m.fresh r.1 b (bS r1) r2).1.resolve_left Y).2 r1
   .rw[e]at J|-;rw[f]at L;have hf:=m.fresh id b J L;exact⟨hf.1,F1 hf.2 E.ext.size⟩
  .have O:∀p∈τ,∀j,(∀p∈τ,p.2≠j)->(F p.1).live=true->G p.1=some b->(H j).live=true->β j=some b->False:=λp d j z a c C h4=>by
    rcases(E.fresh p.1 b a c).1 with h|h
    .have h:w.heap.size<=b:=h;have:=(m.fresh j b C h4).2;omega
    .obtain⟨q,D,q1,q2⟩:=K b h.1;exact V j z q D (m.inj q.1 j b q1 C q2 h4)
   rcases n i with⟨p,d,p0,e,f⟩|⟨e,f,Z⟩
   .rw[e,fH]at S;rw[f]at a;rcases n j with⟨q,D,q0,P,W⟩|⟨P,W,f3⟩
    .rw[P,fH]at z;rw[W]at c;have:=mU a2 p q d D (E.inj p.1 q.1 b S z a c);rw[<-p0,<-q0,this]
    .rw[P]at z;rw[W]at c;exact(O p d j f3 S a z c).elim
   .rw[e]at S;rw[f]at a;rcases n j with⟨q,D,q0,P,W⟩|⟨P,W,f3⟩
    .rw[P,fH]at z;rw[W]at c;exact(O q D i Z z c S a).elim
    .rw[P]at z;rw[W]at c;exact m.inj i j b S z a c
  .rcases n id with⟨p,d,p0,e,f⟩|⟨e,f,Z⟩
   .exact dS.ren a1 a8 e f (E.obj p.1)
   .exact(m.obj id).step g.size g.out (λ_ _=>g.D) (λ_ _=>g.R) e (λ_=>f) λb J L=>a0 id b Z J L
end
end
section
open Go.RowKit
def dD:List (Nat×bJ)->Nat->Option bJ
 |[],_=>none
 |p::r,j=>if j=p.1 then some p.2 else dD r j
def mJ(l:List (Nat×bJ))(B β:Nat->Option Nat)(id:Nat):Option Nat:=if(dD l id).isSome then B id else β id
section
variable{P:Program} {T:TypeId->cW} {w0:dE} {X:Nat->Prop} {H:Nat->bJ} {β:Nat->Option Nat} {w w':World} {a:Act} {o:Oper} {g:Operand->LV} {E:Nat->Prop}
theorem fD(l:List (Nat×bJ))(j:Nat):cD H l j=(dD l j).getD (H j):=by
 induction l with
 |nil=>rfl
 |cons p r ih=>
  simp only[cD,dD];split
  .rfl
  .exact ih
theorem dV.newMany(m:dV w0 X H β w)(p:Ah w.heap.size w w')(l:List (Nat×bJ))(B:Nat->Option Nat)(D:∀id o,dD l id=some o->H id=.absent)
 (s:∀id o b,dD l id=some o->B id=some b->w.heap.size<=b/\b<w'.heap.size)(r:∀i j b,B i=some b->B j=some b->i=j)
 (E:(∀x v,RD w (Ex X β H) x v->RD w' (Ex X (mJ l B β) (cD H l)) x v)->∀id o,dD l id=some o->dS w' (Ex X (mJ l B β) (cD H l)) (mJ l B β) (cD H l) id):
 dV w0 X (cD H l) (mJ l B β) w'/\fB X H β w (cD H l) (mJ l B β) w':=by
 have a:∀id,dD l id=none->cD H l id=H id/\mJ l B β id=β id:=λid h=>by rw[fD,h];exact⟨rfl,by simp[mJ,h]⟩
 have f:∀id o,dD l id=some o->cD H l id=o/\mJ l B β id=B id:=λid o h=>by rw[fD,h];exact⟨rfl,by simp[mJ,h]⟩
 have n:fB X H β w (cD H l) (mJ l B β) w':=by
  refine⟨p.size,λk C _=>p.block k C,λk C z=>?_,λid=>?_⟩
  .rcases z with z|⟨id,e,c⟩
   .exact .inl z
   .cases q:dD l id with
    |some o=>rw[(f id o q).2]at c;have:=(s id o k q c).1;omega
    |none=>rw[(a id q).1]at e;rw[(a id q).2]at c;exact .inr ⟨id,e,c⟩
  .cases q:dD l id with
   |some o=>unfold bW;rw[D id o q];trivial
   |none=>
    have F:=(m.grow p).2.pass id;unfold bW at*;rw[(a id q).1];rw[(a id q).2];exact F
 refine⟨⟨m.ext.of_below p,m.xold,λid b u d=>?_,λi j b A t e c=>?_,λid=>?_,λid hid=>(m.pin id hid).trans (n.pass id)⟩,n⟩
 .cases q:dD l id with
  |some o=>rw[(f id o q).2]at d;have e:=s id o b q d;exact⟨.inl (D2 m.ext.size e.1),e.2⟩
  |none=>rw[(a id q).1]at u|-;rw[(a id q).2]at d;have:=m.fresh id b u d;exact⟨this.1,F1 this.2 p.size⟩
 .cases y:dD l i with
  |some oi=>
   rw[(f i oi y).2]at e;cases g:dD l j with
   |some oj=>rw[(f j oj g).2]at c;exact r i j b e c
   |none=>rw[(a j g).1]at t;rw[(a j g).2]at c;have:=s i oi b y e;have:=(m.fresh j b t c).2;omega
  |none=>
   rw[(a i y).1]at A;rw[(a i y).2]at e;cases g:dD l j with
   |some oj=>rw[(f j oj g).2]at c;have:=s j oj b g c;have:=(m.fresh i b A e).2;omega
   |none=>rw[(a j g).1]at t;rw[(a j g).2]at c;exact m.inj i j b A t e c
 .cases q:dD l id with
  |some o=>exact E (λ_ _=>n.D) id o q
  |none=>exact(m.obj id).step n.size n.out (λ_ _=>n.D) (λ_ _=>n.R) (a id q).1 (λ_=>(a id q).2) λb u d=>p.block b (m.fresh id b u d).2
theorem qV:∀(b:List RV) (d id:Nat) (o:bJ),dD (cU d b) id=some o->∃i s a,b[i]? =some (.own s a)/\id=d+1000*i/\o=.row false s a
 |[],d,id,o,h=>by simp[cU,dD]at h
 |r::b,d,id,o,h=>by
  have next:dD (cU (d+1000) b) id=some o->∃i s a,(r::b)[i]? =some (.own s a)/\id=d+1000*i/\o=.row false s a:=λh=>by
   obtain⟨i,s,a,c,g,f⟩:=qV b (d+1000) id o h;exact⟨i+1,s,a,by simpa using c,aD,f⟩
  cases r with
  |own s a=>
   simp only[cU,mR,E6,D0,dD]at h;split at h
   .rename_i e;injection h with h
    exact⟨0,s,a,rfl,by simpa using e,h.symm⟩
   .exact next h
  |d x=>simp only[cU,mR,D0]at h;exact next h
  |tup x=>simp only[cU,mR,D0]at h;exact next h
theorem uZ:∀(b:List RV) (d i s:Nat) (a:List DV),b[i]? =some (.own s a)->dD (cU d b) (d+1000*i)=some (.row false s a)
 |[],d,i,s,a,h=>by simp at h
 |r::b,d,i,s,a,h=>by
  have next:∀j,i=j+1->dD (cU (d+1000) b) (d+1000*i)=some (.row false s a):=λj e=>by
   subst e;have:=uZ b (d+1000) j s a (by simpa using h);rw[<-this];congr 1;omega
  cases i with
  |zero=>simp at h;subst h;simp[cU,mR,dD]
  |succ j=>
   cases r with
   |own s' xs'=>simp only[cU,mR,E6,D0,dD];rw[if_neg aD];exact next j rfl
   |d x=>simp only[cU,mR,D0];exact next j rfl
   |tup x=>simp only[cU,mR,D0];exact next j rfl
theorem DA:∀(a:List RV) (d i:Nat) (l:LV),(pV d a)[i]? =some l->∃r,a[i]? =some r/\l=IC (d+1000*i) r
 |[],_,_,_,h=>by simp[pV]at h
 |r::a,d,0,l,h=>by simp[pV]at h;exact⟨r,rfl,by simp[h]⟩
 |r::a,d,i+1,l,h=>by
  simp only[pV,List.getElem?_cons_succ]at h;obtain⟨e,b,c⟩:=DA a (d+1000) i l h;exact⟨e,by simpa using b,by rw[c];congr 1;omega⟩
theorem DB:∀(a:List RV) (d:Nat),(pV d a).length=a.length
 |[],_=>rfl
 |_::a,d=>by simp[pV,DB a]
theorem Hp(m:dV w0 X H β w)(hb:Ah w.heap.size w w')(d:Nat)(a:List RV)(M:List Value)(B:Nat->Option Nat)(Q:∀i j b,B i=some b->B j=some b->i=j)(hE:∀k,Ex X β H k->E k)
 (P:∀p∈cU d a,H p.1=.absent)(h:∀(i:Nat) (r:RV) (v:Value),a[i]? =some r->M[i]? =some v->Bi w w' (λk=>E k\/∃j,B j=some k) (B i) r v)(hl:M.length=a.length):
 ∃W,dV w0 X (cD H (cU d a)) W w'/\fB X H β w (cD H (cU d a)) W w'/\
  ∀(i:Nat) (l:LV) (v:Value),(pV d a)[i]? =some l->M[i]? =some v->R w' (Ex X W (cD H (cU d a))) W (cD H (cU d a)) l v:=by
 have K:∀id o,dD (cU d a) id=some o->H id=.absent:=by
  have:∀(l:List (Nat×bJ)) id o,dD l id=some o->(id,o)∈l:=by
   intro l;induction l with
   |nil=>intro id o h;simp[dD]at h
   |cons p r ih=>
    intro id o h;simp only[dD]at h;split at h
    .rename_i e;injection h with h;subst h;subst e;simp
    .exact D1 _ (ih id o h)
  exact λid o h=>P _ (this _ id o h)
 let C:Nat->Option Nat:=λid=>if(id-d)%1000=0/\d<=id then B ((id-d) / 1000)else none
 have n:∀i,C (d+1000*i)=B i:=λi=>by
  show(if(d+1000*i-d)%1000=0/\d<=d+1000*i then B ((d+1000*i-d) / 1000)else none)=B i;rw[if_pos ⟨aD,aD⟩];congr 1;omega
 have J:∀i j b,C i=some b->C j=some b->i=j:=λi j b g f=>by
  simp only[C]at g f;split at g
  .split at f
   .rename_i q1 q2;have:=Q _ _ b g f;omega
   .cases f
  .cases g
 have F:∀i s t,a[i]? =some (.own s t)->∃v,M[i]? =some v/\Bi w w' (λk=>E k\/∃j,B j=some k) (B i) (.own s t) v:=λi s t A=>by
  have hi:i<M.length:=by have:=(A3.1 A).1;omega
  exact⟨M[i],A0 hi,h i _ _ A (A0 hi)⟩
 have I:∀k,Ex X (mJ (cU d a) C β) (cD H (cU d a)) k->E k\/∃j,B j=some k:=λk hk=>by
  rcases hk with hk|⟨id,g,f⟩
  .exact .inl (hE k (.inl hk))
  .cases q:dD (cU d a) id with
   |some o=>
    simp only[mJ,q,Option.isSome_some,if_true]at f;obtain⟨i,s,t,_,e,_⟩:=qV a d id o q;subst e;rw[n]at f;exact .inr ⟨i,f⟩
   |none=>
    rw[fD,q]at g;simp only[mJ,q]at f;exact .inl (hE k (.inr ⟨id,g,by simpa using f⟩))
 obtain⟨m',g'⟩:=m.newMany hb (cU d a) C K (λid o b y hbb=>by
  obtain⟨i,s,t,A,e,_⟩:=qV a d id o y;subst e;rw[n]at hbb;obtain⟨v,_,_,_,U⟩:=F i s t A;rcases U with⟨S,_⟩|⟨V,c,z,e,g,_,f,N,_⟩
  .rw[S]at hbb;cases hbb
  .rw[g]at hbb;injection hbb with hbb;subst hbb
   exact⟨f,(C7.1 N).1⟩) J (λ_ id o y=>by
  obtain⟨i,s,t,A,e,e2⟩:=qV a d id o y;subst e;subst e2;obtain⟨v,_,G,D,U⟩:=F i s t A;unfold dS;rw[fD,y];simp only[Option.getD_some];refine⟨G,D,?_⟩;rcases U with⟨S,he,_⟩|⟨V,c,z,e,g,_,f,N,Y,h5,Z,h7⟩
  .exact .inl ⟨by simpa [mJ,y,n]using S,he⟩
  .exact .inr ⟨V,e,z,by simpa [mJ,y,n]using g,N,D2 (B7 _ Y) (Nat.le_of_eq Z),λk dd u hd hu=>⟨(h7 k dd u hd hu).1,(h7 k dd u hd hu).2.anti I⟩⟩)
 refine⟨_,m',g',λi l v a0 U=>?_⟩;obtain⟨r,A,rfl⟩:=DA a d i l a0;have L:=h i r v A U;cases r with
 |d x=>exact .d _ _ (RD.anti I L)
 |tup x=>exact L.elim
 |own s t=>
  have y:=uZ a d i s t A;obtain⟨G,D,a1⟩:=L;have O:cD H (cU d a) (d+1000*i)=.row false s t:=by rw[fD,y];rfl
  rcases a1 with⟨S,he,b,rfl⟩|⟨V,c,z,e,g,rfl,f,N,Y,h5,Z,h7⟩
  .subst he;exact .ow0 _ _ _ false s [] O (.inl ⟨by simpa [mJ,y,n]using S,rfl⟩)
  .have hR:=R.ow (w:=w') (E:=Ex X (mJ (cU d a) C β) (cD H (cU d a))) (β:=mJ (cU d a) C β) (H:=cD H (cU d a))
    (d+1000*i) 0 t.length V c false s t z e O (by simpa [mJ,y,n]using g) aD Y h5 N (by rw[C4];exact Z)
   rw[E1]at hR;exact hR
theorem Ly{g:LV}{n:Value}{f:FuncId}{a:List LV}(h:eM g=some (f,a))(e:R w E β H g n):
 ∃j b:List Value,n=.func (.func f) j.toArray b.toArray/\j.length=(dA g).length/\(∀(i:Nat) (c:LV) (v:Value),(dA g)[i]? =some c->j[i]? =some v->R w E β H c v)/\
  b.length=a.length/\∀(i:Nat) (c:LV) (v:Value),a[i]? =some c->b[i]? =some v->R w E β H c v:=by
 unfold eM at h;split at h
 .injection h with h;injection h with h1 h2;subst h1;subst h2
  cases e with
  |d _ _ e=>cases e with
   |fn _ cs b hl hp=>
    refine⟨[],b,rfl,rfl,by simp[dA],by simpa using hl,λi c v k l=>?_⟩;obtain⟨x,m,rfl⟩:=eJ k;exact .d _ _ (hp i x v m l)
 .injection h with h;injection h with h1 h2;subst h1;subst h2
  cases e with
  |fn _ cs b hl hp=>exact⟨[],b,rfl,rfl,by simp[dA],hl,hp⟩
 .injection h with h;injection h with h1 h2;subst h1;subst h2
  cases e with
  |d _ _ e=>cases e with
   |bm _ cs b hl hp=>
    refine⟨b,[],rfl,by simpa [dA]using hl,λi c v k l=>?_,rfl,bA⟩;obtain⟨x,m,rfl⟩:=eJ k;exact .d _ _ (hp i x v m l)
 .injection h with h;injection h with h1 h2;subst h1;subst h2
  cases e with
  |bm _ cs b hl hp=>exact⟨b,[],rfl,hl,hp,rfl,bA⟩
 .cases h
theorem DC(I:∀x,R w (Ex X β H) β H (g x) (a.eval x)){f:Operand}{args:Array Operand}{U:Array TypeId}(Q:o.op=.call {callee:=.value f,args:=args,argTypes:=U}){j:FuncId}{b:List LV}(e:eM (g f)=some (j,b))(l:pW P j):
 ∃d:List Value,(execOp a.eval o).run P w=.ok (.enter j d.toArray) w/\d.length=(dA (g f)++args.toList.map g++b).length/\
  ∀(i:Nat) (c:LV) (v:Value),(dA (g f)++args.toList.map g++b)[i]? =some c->d[i]? =some v->R w (Ex X β H) β H c v:=by
 obtain⟨G,C,n,z⟩:=l;obtain⟨k,h,B,m,D,l,A⟩:=Ly e (I f);have r:∀(s F:List LV) (u E:List Value),u.length=s.length->(∀(i:Nat) (c:LV) (v:Value),s[i]? =some c->u[i]? =some v->R w (Ex X β H) β H c v)->(∀(i:Nat) (c:LV) (v:Value),F[i]? =some c->E[i]? =some v->R w (Ex X β H) β H c v)->
  ∀(i:Nat) (c:LV) (v:Value),(s++F)[i]? =some c->(u++E)[i]? =some v->R w (Ex X β H) β H c v:=by
  intro s F u E O K L i c v e p;by_cases N:i<s.length
  .rw[A8 N]at e;rw[A8 aD]at p;exact K i c v e p
  .rw[B0 aD]at e p;rw[O]at p;exact L _ c v e p
 refine⟨k++args.toList.map a.eval++h,?_,by simp[m,l],r _ _ _ _ (by simp[m]) (r _ _ _ _ m D λi c v e p=>?_) A⟩
 .have J:(k.toArray++args.map a.eval++h.toArray)=(k++args.toList.map a.eval++h).toArray:=by
   apply G5;simp
  simp only[execOp,Q,resolve,B,Deferred.ofValue,Sem.run_bind,Sem.run_pure,Result.andThen_ok,invoke,callFunc,run_program,C,n,C6,if_false];have M:G.body.isNone=false:=by cases q:G.body<;>simp_all
  simp only[M,C6,if_false,Sem.run_pure];rw[<-J]
 .obtain⟨x,S,rfl⟩:=eJ e;obtain⟨y,t,rfl⟩:=eJ p;rw[S]at t;injection t with t;subst t
  exact I x
theorem DD{σ:List (Nat×Nat)}{a:List Nat}:∀(k:List LV) (i:Nat) (f:List LV),lN H σ a i k=some f->f.length=k.length/\
 ∀(j:Nat) (l c:LV),k[j]? =some l->f[j]? =some c->(∃x,close H 8 l=some x/\c=.d x/\∀id∈bX H 8 l,id∈lQ H a i k)\/c=ren σ 8 l
 |[],i,f,h=>by simp[lN]at h;subst h;simp
 |l::r,i,f,h=>by
  simp only[lN]at h;cases q:lN H σ a (i+1) r with
  |none=>rw[q]at h;cases h
  |some r'=>
   rw[q]at h;obtain⟨n,t⟩:=DD r (i+1) r' q;simp only at h;have next:∀(j:Nat) (b c:LV),r[j]? =some b->r'[j]? =some c->(∃x,close H 8 b=some x/\c=.d x/\∀id∈bX H 8 b,id∈lQ H a i (l::r))\/c=ren σ 8 b:=λj b c e d=>by
    rcases t j b c e d with⟨x,o,p,s⟩|g
    .exact .inl ⟨x,o,p,λid hid=>C9.2 (.inr (s id hid))⟩
    .exact .inr g
   by_cases m:a.contains i=true
   .rw[if_pos m,B3]at h;obtain⟨x,u,rfl⟩:=h;refine⟨by simp[n],λj b c e d=>?_⟩;cases j with
    |zero=>
     simp at e d;subst e;subst d;exact .inl ⟨x,u,rfl,λid hid=>C9.2 (.inl (by rw[if_pos m];exact hid))⟩
    |succ j=>exact next j b c (by simpa using e) (by simpa using d)
   .rw[if_neg m]at h;injection h with h;subst h
    refine⟨by simp[n],λj b c e d=>?_⟩;cases j with
    |zero=>simp at e d;subst e;subst d;exact .inr rfl
    |succ j=>exact next j b c (by simpa using e) (by simpa using d)
theorem Cb(l a:List (Nat×bJ)):cD H (l++a)=cD (cD H a) l:=by
 funext j;induction l with
 |nil=>rfl
 |cons p q ih=>simp only[E6,cD];rw[ih]
theorem FJ(m:dV w0 X H β w)(hg:∀x,R w (Ex X β H) β H (g x) (a.eval x)){f:Operand}{args:Array Operand}{ts:Array TypeId}{σ j:List (Nat×Nat)}{k:List Nat}(ho:o.op=.call {callee:=.value f,args:=args,argTypes:=ts}){z:FuncId}{b W:List LV}
 (hc:eM (g f)=some (z,b))(N:lN H σ k 0 (dA (g f)++args.toList.map g++b)=some W){y:List (Nat×bJ)->LV->Prop}(d:Xa P z W (σ.map λp=>(p.2,cX σ (H p.1))) y)
 (O:((gO σ j).map (·.1)).Nodup)(S:((gO σ j).map (·.2)).Nodup)(D:∀p∈j,H p.2=.absent)(C:∀id∈lQ H k 0 (dA (g f)++args.toList.map g++b),id∉σ.map (·.1)){c:Prop}:
 SK P w0 X H β w a o (λV=>∃l n,y l n/\V=⟨ren (gO σ j) 8 n,c,((gO σ j).map λp=>(p.2,cX (gO σ j) (aK l p.1)))++bP H (lQ H k 0 (dA (g f)++args.toList.map g++b))⟩):=by
 obtain⟨J,G,a2,I⟩:=DC hg ho hc d.1;generalize r:lQ H k 0 (dA (g f)++args.toList.map g++b)=ids at*;obtain⟨m1,Y⟩:=m.freeze ids;have u:(σ.map λp=>(p.2,cX σ (H p.1)))=σ.map λp=>(p.2,cX σ (cD H (bP H ids) p.1)):=G3 λp U=>by
  rw[eY,if_neg λh=>C p.1 h (A9.2 ⟨p,U,rfl⟩)]
 rw[u]at d;obtain⟨Xc,βc,a0,mc,hD,hR,q⟩:=m1.callG σ j O S λp U=>by
  rw[eY,D p U];simp[frozen]
 obtain⟨a1,M⟩:=DD _ _ _ N;have t:(σ.map λp=>(p.2,cX σ (cD H (bP H ids) p.1))).map (·.1)=σ.map (·.2):=bA;have A:=d.2 w Xc βc J;rw[t]at A;intro K Q hK;unfold Oper.wp;rw[G];simp only[Oper.upon];refine(A mc aD λi c v B Z=>?_).mono ?_
 .have hi:i<(dA (g f)++args.toList.map g++b).length:=by have:=(A3.1 B).1;omega
  have s:=A0 hi;rcases M i _ c s B with⟨x,L,rfl,h3⟩|L
  .exact .d _ _ (hD _ _ (fZ m (ids:=ids) L (λid hid=>by rw[<-r];exact h3 id hid) (I i _ v s Z)))
  .rw[L];exact hR _ _ (Y.R (I i _ v s Z))
 .rintro e w' ⟨v,β',l,n,E,rfl,m',F⟩;obtain⟨β2,m2,g2,h2⟩:=q (aK l) β' w' m';refine hK _ ⟨l,n,E,rfl⟩ v w' β2 ?_ ?_ ?_<;>simp only[]<;>rw[Cb]
  .exact m2
  .exact Y.trans g2
  .exact h2 _ _ F
theorem Tc(m:dV w0 X H β w)(y:∀x,R w (Ex X β H) β H (g x) (a.eval x)){f:Operand}{args:Array Operand}{B:Array TypeId}{b:Gen}(z:o.op=.call {callee:=.value f,args:=args,argTypes:=B}){i:FuncId}{d r:List LV}
 (v:eM (g f)=some (i,d))(l:lN H b.σ b.shut 0 (dA (g f)++args.toList.map g++d)=some r)(h:mH P i r (b.σ.map λp=>(p.2,cX b.σ (H p.1))) b.fin b.ret)
 (n:((gO b.σ b.new).map (·.1)).Nodup)(q:((gO b.σ b.new).map (·.2)).Nodup)(k:∀p∈b.new,H p.2=.absent)(j:∀id∈lQ H b.shut 0 (dA (g f)++args.toList.map g++d),id∉b.σ.map (·.1)){c:Prop}:
 lT P w0 X H β w a o ⟨ren (gO b.σ b.new) 8 b.ret,c,((gO b.σ b.new).map λp=>(p.2,cX (gO b.σ b.new) (aK b.fin p.1)))++bP H (lQ H b.shut 0 (dA (g f)++args.toList.map g++d))⟩:=
 (FJ m y z v l h.toR n q k j (c:=c)).toS λC ⟨u,A,⟨s,t⟩,e⟩=>by subst s;subst t;subst e;exact⟨rfl,rfl⟩
theorem IL(m:dV w0 X H β w)(hg:∀x,R w (Ex X β H) β H (g x) (a.eval x)){f:Operand}{args:Array Operand}{ts:Array TypeId}{dst:Nat}(ho:o.op=.call {callee:=.value f,args:=args,argTypes:=ts})
 {S:FuncId}{t:List LV}(hc:eM (g f)=some (S,t)){az:List DV}(b0:cS ((dA (g f)++args.toList.map g++t).map (close H 8))=some az){fr:Bool}{A:Qm->Prop}(n:YY P S az A)
 (b1:∀r,A r->r.fresh=fr)(u:∀r,A r->∀p∈iC dst r.v,H p.1=.absent){c:Prop}:
 SK P w0 X H β w a o (λb3=>∃r,A r/\b3=⟨Dn dst r.v,c,iC dst r.v++(if fr then []else bP H ((dA (g f)++args.toList.map g++t).flatMap (bX H 8)))⟩):=by
 obtain⟨D,a3,b5,a6⟩:=DC hg ho hc n.1;have n:=n.2
 let N:=dA (g f)++args.toList.map g++t
 obtain⟨a8,a9⟩:=jF b0;have b4:az.length=N.length:=a8
 let d:=N.flatMap (bX H 8)
 let G:=if fr then H else cD H (bP H d)
 have a7:dV w0 X G β w/\fB X H β w G β w:=by
  show dV w0 X (if fr then H else cD H (bP H d)) β w/\fB X H β w (if fr then H else cD H (bP H d)) β w;cases fr
  .exact m.freeze d
  .exact⟨m,fB.refl⟩
 obtain⟨m1,g1⟩:=a7
 let Xc:Nat->Prop:=λk=>fr=false/\Ex X β G k
 have J:Lq w Xc az D:=by
  refine⟨aD,λi c v hc hv=>?_⟩;have hi:i<N.length:=by have:=(A3.1 hc).1;omega
  have L:=A0 hi;have Y:=a9 i _ c L hc;cases Z:fr with
  |true=>
   refine nZ m.obj (λx v h=>h.anti (λk z=>?_)) 8 _ c v Y (λid _ b _ he=>?_) (a6 i _ v L hv)
   .have:=z.1;rw[Z]at this;cases this
   .have:=he.1;rw[Z]at this;cases this
  |false=>
   have hH:G=cD H (bP H d):=by show(if fr then H else _)=_;rw[Z];rfl
   refine RD.anti (λk z=>?_) (fZ m (ids:=d) Y (λid hid=>F4.2 ⟨_,D3 hi,hid⟩) (a6 i _ v L hv));have:=z.2;rw[hH]at this;exact this
 intro K Q hK;unfold Oper.wp;rw[a3];simp only[Oper.upon];refine(n w Xc D ⟨λk z=>z.2.lt m1,m1.glob.anti λk z=>z.2⟩ J).mono ?_;rintro e w' ⟨v,r,y,rfl,W,s⟩;have a0:=b1 r y;have u:=u r y;rw[a0]at s;have hE:∀k,Ex X β G k->Xc k\/fr=true/\k<w.heap.size:=λk z=>by
  cases Z:fr with
  |true=>exact .inr ⟨rfl,z.lt m1⟩
  |false=>exact .inl ⟨Z,z⟩
 have I:∀p∈iC dst r.v,G p.1=.absent:=λp hp=>by
  have:=u p hp;show(if fr then H else cD H (bP H d)) p.1=.absent;cases fr
  .simp only[C6,if_false];rw[eY,this];simp[frozen]
  .exact this
 have a4:cD H (iC dst r.v++(if fr then []else bP H d))=cD G (iC dst r.v):=by
  have b2:∀(l:List (Nat×bJ)) (l2:List (Nat×bJ)),cD H (l++l2)=cD (cD H l2) l:=by
   intro l l2;funext j;induction l with
   |nil=>rfl
   |cons p q ih=>simp only[E6,cD];rw[ih]
  rw[b2];show cD (cD H (if fr then []else bP H d)) _=cD (if fr then H else cD H (bP H d)) _;cases fr<;>rfl
 have U:∀(C:List RV) (E:List Value) (B:Nat->Option Nat),iC dst r.v=cU dst C->(∀i j b,B i=some b->B j=some b->i=j)->E.length=C.length->
  (∀(i:Nat) (q:RV) (v:Value),C[i]? =some q->E[i]? =some v->Bi w w' (λk=>(Xc k\/fr=true/\k<w.heap.size)\/∃j,B j=some k) (B i) q v)->
  ((∀O F,(∀(i:Nat) (l:LV) (v:Value),(pV dst C)[i]? =some l->E[i]? =some v->R w' (Ex X F O) F O l v)->R w' (Ex X F O) F O (Dn dst r.v) v))->K (a.put o.dst v) w':=by
  intro C E B e1 e2 e3 e4 e5;obtain⟨F,m2,g2,hR⟩:=Hp m1 W dst C E B e2 hE (by rw[<-e1];exact I) e4 e3;refine hK _ ⟨r,y,rfl⟩ v w' F ?_ ?_ ?_<;>simp only[]<;>rw[a4,e1]
  .exact m2
  .exact g1.trans g2
  .exact e5 _ _ hR
 unfold ID at s;split at s
 .rename_i C a2;obtain⟨E,B,rfl,V,h2,h3⟩:=s;exact U C E B (by rw[a2];rfl) h2 V h3 (λO F hp=>by
   rw[a2];exact .tup _ E (by rw[DB];exact V) hp)
 .rename_i a1;obtain⟨B,hB⟩:=s;refine U [r.v] [v] (λi=>if i=0 then B else none) ?_ ?_ rfl ?_ ?_
  .cases q:r.v<;>simp[iC,cU];exact absurd q (a1 _)
  .intro i j b V h2;split at V
   .split at h2
    .omega
    .cases h2
   .cases V
  .intro i q v' hq a5;cases i with
   |zero=>
    simp at hq a5;subst hq;subst a5;have M:∀k,(∃j:Nat,(if j=0 then B else none)=some k)↔B=some k:=by
     intro k;constructor
     .rintro⟨j,hj⟩;split at hj
      .exact hj
      .cases hj
     .intro h;exact⟨0,by simpa using h⟩
    simp only[M,if_true];exact hB
   |succ i=>simp at hq
  .intro O F hp;have:=hp 0 (IC dst r.v) v rfl rfl;cases q:r.v<;>rw[q]at this<;>first|exact this|exact absurd q (a1 _)
theorem Xj(m:dV w0 X H β w)(A:∀x,R w (Ex X β H) β H (g x) (a.eval x)){f:Operand}{args:Array Operand}{K:Array TypeId}{r:Option jU}{j:Nat}(B:o.op=.call {callee:=.value f,args:=args,argTypes:=K})(v:xN r r)
 (z:∀l,xN r l->(dB P H l j (g f) (dA (g f)++args.toList.map g)).ok):SK P w0 X H β w a o (λt=>∃l,xN r l/\t=dB P H l j (g f) (dA (g f)++args.toList.map g)):=by
 have b:=z r v;cases e:eM (g f)with
 |none=>unfold dB at b;rw[e]at b;cases r<;>exact b.elim
 |some p=>
  obtain⟨y,i⟩:=p;cases r with
  |none=>unfold dB at b;rw[e]at b;exact b.elim
  |some q=>
   cases q with
   |plain r=>
    have u:∀k,cS ((dA (g f)++args.toList.map g++i).map (close H 8))=some k->dB P H (some (.plain r)) j (g f) (dA (g f)++args.toList.map g)=⟨Dn j r.v,Ok P y k r/\(∀p∈iC j r.v,H p.1=.absent),iC j r.v++(if r.fresh then []else bP H ((dA (g f)++args.toList.map g++i).flatMap (bX H 8)))⟩:=λk d=>by
     unfold dB;rw[e];simp only[d]
    cases d:cS ((dA (g f)++args.toList.map g++i).map (close H 8))with
    |none=>unfold dB at b;rw[e]at b;simp only[d]at b;exact b.elim
    |some k=>
     rw[u k d]at b;refine(IL m A B e d b.1.toR (fr:=r.fresh) (λl h=>by rw[h]) (λl h=>by rw[h];exact b.2) (c:=True)).mono ?_;rintro t ⟨l,rfl,rfl⟩;exact⟨_,⟨_,rfl,rfl⟩,by rw[u k d],by rw[u k d]⟩
   |gen gn=>
    have u:∀k,lN H gn.σ gn.shut 0 (dA (g f)++args.toList.map g++i)=some k->(dB P H (some (.gen gn)) j (g f) (dA (g f)++args.toList.map g)).v=ren (gO gn.σ gn.new) 8 gn.ret/\(dB P H (some (.gen gn)) j (g f) (dA (g f)++args.toList.map g)).up=((gO gn.σ gn.new).map λp=>(p.2,cX (gO gn.σ gn.new) (aK gn.fin p.1)))++bP H (lQ H gn.shut 0 (dA (g f)++args.toList.map g++i)):=λk d=>by
     unfold dB;rw[e];simp only[d];exact⟨trivial,trivial⟩
    cases d:lN H gn.σ gn.shut 0 (dA (g f)++args.toList.map g++i)with
    |none=>unfold dB at b;rw[e]at b;simp only[d]at b;exact b.elim
    |some k=>
     unfold dB at b;rw[e]at b;simp only[d]at b;obtain⟨C,J,D,E,F,G⟩:=b;refine((Tc m A B e d C D E (λp I=>(F p I).1) G (c:=True)).toE (rs:=λt=>t=_) rfl).mono ?_;rintro t rfl;exact⟨_,⟨_,rfl,rfl⟩,(u k d).1,(u k d).2⟩
   |rel Rel fr r=>
    have u:∀k r,cS ((dA (g f)++args.toList.map g++i).map (close H 8))=some k->dB P H (some (.rel Rel fr r)) j (g f) (dA (g f)++args.toList.map g)=⟨Dn j r.v,YY P y k Rel/\(∀q,Rel q->q.fresh=fr)/\(∀p∈iC j r.v,H p.1=.absent),iC j r.v++(if fr then []else bP H ((dA (g f)++args.toList.map g++i).flatMap (bX H 8)))⟩:=λk r d=>by
     unfold dB;rw[e];simp only[d]
    cases d:cS ((dA (g f)++args.toList.map g++i).map (close H 8))with
    |none=>unfold dB at b;rw[e]at b;simp only[d]at b;exact b.elim
    |some k=>
     rw[u k r d]at b;refine(IL (dst:=j) m A B e d b.1 (fr:=fr) b.2.1 (λl h=>?_) (c:=True)).mono ?_
     .have:=z (some (.rel Rel fr l)) ⟨l,h,b.2.1 l h,rfl⟩;rw[u k l d]at this;exact this.2.2
     .rintro t ⟨l,h,rfl⟩;exact⟨_,⟨_,⟨l,h,b.2.1 l h,rfl⟩,rfl⟩,by rw[u k l d],by rw[u k l d]⟩
   |genR gn Rel=>
    have u:∀k n s,lN H gn.σ gn.shut 0 (dA (g f)++args.toList.map g++i)=some k->(dB P H (some (.genR {gn with fin:=n,ret:=s} Rel)) j (g f) (dA (g f)++args.toList.map g)).v=ren (gO gn.σ gn.new) 8 s/\
     (dB P H (some (.genR {gn with fin:=n,ret:=s} Rel)) j (g f) (dA (g f)++args.toList.map g)).up=((gO gn.σ gn.new).map λp=>(p.2,cX (gO gn.σ gn.new) (aK n p.1)))++bP H (lQ H gn.shut 0 (dA (g f)++args.toList.map g++i)):=λk n s d=>by
     unfold dB;rw[e];simp only[d];exact⟨trivial,trivial⟩
    cases d:lN H gn.σ gn.shut 0 (dA (g f)++args.toList.map g++i)with
    |none=>unfold dB at b;rw[e]at b;simp only[d]at b;exact b.elim
    |some k=>
     unfold dB at b;rw[e]at b;simp only[d]at b;obtain⟨C,J,D,E,F,G⟩:=b;refine(FJ m A B e d C D E (λp I=>(F p I).1) G (c:=True)).mono ?_;rintro t ⟨n,s,h,rfl⟩;exact⟨_,⟨_,⟨n,s,h,rfl⟩,rfl⟩,(u k n s d).1,(u k n s d).2⟩
   |_=>unfold dB at b;rw[e]at b;exact b.elim
end
end
section
open Go.RowKit
theorem gF.empty:gF #[] 0:=⟨λi e h=>by simp at h,λi j e a h=>by simp at h⟩
theorem gF.push{b:Array MapEntry}{a:Nat}(h:gF b a)(k v:Value):gF (b.push {key:=k,val:=v,born:=a}) (a+1):=by
 have key:∀(i:Nat) (e:MapEntry),(b.push {key:=k,val:=v,born:=a})[i]? =some e->(i=b.size/\e.born=a)\/(b[i]? =some e/\i<b.size):=λi e c=>by
  rw[G4]at c;split at c
  .injection c with c;subst c;exact .inl ⟨by assumption,rfl⟩
  .exact .inr ⟨c,(C7.1 c).1⟩
 refine⟨λi e c=>?_,λi j e d c l g=>?_⟩
 .rcases key i e c with⟨_,f⟩|⟨f,_⟩
  .omega
  .have:=h.1 i e f;omega
 .rcases key i e c with⟨p1,p2⟩|⟨p1,p2⟩<;>rcases key j d l with⟨q1,q2⟩|⟨q1,q2⟩
  .omega
  .have:=h.1 j d q1;omega
  .have:=h.1 i e p1;omega
  .exact h.2 i j e d p1 q1 g
theorem gF.modify{b:Array MapEntry}{a:Nat}(h:gF b a)(i:Nat)(k v:Value):gF (b.modify i λe=>{e with key:=k,val:=v}) a:=by
 have f:∀(j:Nat) (e:MapEntry),(b.modify i λe=>{e with key:=k,val:=v})[j]? =some e->∃d,b[j]? =some d/\e.born=d.born:=λj e c=>by
  rw[E4]at c;split at c
  .rw[B3]at c;obtain⟨d,g,rfl⟩:=c;exact⟨d,g,rfl⟩
  .exact⟨e,c,rfl⟩
 refine⟨λj e c=>?_,λj l e n c q s=>?_⟩
 .obtain⟨d,g,m⟩:=f j e c;rw[m];exact h.1 j d g
 .obtain⟨d,g,m⟩:=f j e c;obtain⟨o,p,r⟩:=f l n q;exact h.2 j l d o g p aD
theorem Qr{a:Array MapEntry}{i j:Nat}:(a.eraseIdxIfInBounds i)[j]? =if j<i then a[j]? else a[j+1]? :=by
 rw[<-F8,Array.toList_eraseIdxIfInBounds,List.getElem?_eraseIdx];split<;>simp
theorem gF.erase{b:Array MapEntry}{a:Nat}(h:gF b a)(i:Nat):gF (b.eraseIdxIfInBounds i) a:=by
 have d:∀(j:Nat) (e:MapEntry),(b.eraseIdxIfInBounds i)[j]? =some e->b[if j<i then j else j+1]? =some e:=λj e c=>by
  rw[Qr]at c;split at c
  .rename_i h;rw[if_pos h];exact c
  .rename_i h;rw[if_neg h];exact c
 refine⟨λj e c=>h.1 _ e (d j e c),λj l e f c k g=>?_⟩;have:=h.2 _ _ e f (d j e c) (d l f k) g;split at this<;>split at this<;>omega
theorem IM{a b:DV}(h:FB a b=some true):a=b:=by
 unfold FB at h;split at h
 .split at h
  .rename_i e;subst e;simp at h;rw[h]
  .cases h
 .simp at h;rw[h]
 .simp at h;rw[h]
 .cases h
theorem FK:∀{a b:List DV},fX a b=some true->a=b
 |[],[],_=>rfl
 |[],_::_,h=>by simp[fX]at h
 |_::_,[],h=>by simp[fX]at h
 |a::x,b::y,h=>by
  simp only[fX]at h;split at h
  .rename_i p q c d;simp only[Option.some.injEq,E7]at h;rw[h.1]at c;rw[h.2]at d;rw[IM c,FK d]
  .cases h
theorem Lz{a b:DV}(h:kL a b=some true):a=b:=by
 unfold kL at h;split at h
 .rw[FK h]
 .exact IM h
theorem vA:∀{k:DV} {a:List DV} {i j:Nat},iM k a i=some (some j)->i<=j/\a[j-i]? =some k
 |k,[],i,j,h=>by simp[iM]at h
 |k,x::r,i,j,h=>by
  simp only[iM]at h;split at h
  .rename_i e;injection h with h;injection h with h;subst h
   exact⟨B8 _,by simp[Lz e]⟩
  .obtain⟨c,b⟩:=vA h;refine⟨aD,?_⟩;rw[show j-i=(j-(i+1))+1 by omega];simpa using b
  .cases h
section
variable{P:Program} {T:TypeId->cW} {w0:dE} {X:Nat->Prop} {H:Nat->bJ} {β:Nat->Option Nat} {w:World} {a:Act} {o:Oper} {g:Operand->LV} {E:Nat->Prop}
structure DE(P:Program)(kt:TypeId)(k:DV):Prop where
 check:∀(w:World) (E:Nat->Prop) (em:Bool) (v:Value),RD w E k v->(Instr.checkKey em 10000 kt v).run P w=.ok () w
 find:∀(w:World) (E:Nat->Prop) (v:Value),RD w E k v->∀(ks:List DV) (es:List MapEntry) (i:Nat) (r:Option Nat),ks.length=es.length->(∀(j:Nat) (d:DV) (e:MapEntry),ks[j]? =some d->es[j]? =some e->RD w E d e.key)->
  iM k ks i=some r->(∃d,P.underlying kt=some d/\(Instr.findNow d v es i=some (r.map λj=>(j,(es.getD (j-i) default).val))\/(Instr.findNow d v es i=none/\(Instr.findAsking kt v es i).run P w=.ok (r.map λj=>(j,(es.getD (j-i) default).val)) w)))
 same:∀(w:World) (E:Nat->Prop) (v v':Value),RD w E k v->RD w E k v'->Instr.sameBits 10000 v' v=true
theorem DF(x:ByteArray):(x==x)=true:=by
 show(x.data==x.data)=true;simp
def Hq(d:TypeDesc):Prop:=(∃q,d=.int q)\/d=.bool\/d=.string
theorem vB{a:TypeId}{d:TypeDesc}(c:P.underlying a=some d)(e:Hq d)(b:Bool)(n:Nat)(v:Value):(Instr.checkKey b (n+1) a v).run P w=.ok () w:=by
 unfold Instr.checkKey;rcases e with⟨q,rfl⟩|rfl|rfl<;>simp[run_underlying c]
def LA(v:Value):Prop:=(∃k n,v=.int k n)\/(∃b,v=.bool b)\/∃s,v=.string s
theorem vC{v:Value}(h:LA v)(n:Nat):Instr.sameBits n v v=true:=by
 rcases h with⟨k,m,rfl⟩|⟨b,rfl⟩|⟨s,rfl⟩
 .cases n<;>simp[Instr.sameBits]
 .cases n<;>simp[Instr.sameBits]
 .cases n<;>simp[Instr.sameBits,DF]
theorem zE{t:TK}{c:DV}(h:gG t c=true):∃v,LA v/\∀w E u,RD w E c u->u=v:=by
 cases t<;>cases c<;>simp only[gG]at h<;>try(cases h;done)
 .rename_i k n;exact⟨.int k n,.inl ⟨_,_,rfl⟩,λw E u a=>by cases a;rfl⟩
 .rename_i b;exact⟨.bool b,.inr (.inl ⟨_,rfl⟩),λw E u a=>by cases a;rfl⟩
 .rename_i b;exact⟨.string ⟨b.toArray⟩,.inr (.inr ⟨_,rfl⟩),λw E u a=>by cases a;rfl⟩
theorem Qs(a b:List UInt8):((⟨a.toArray⟩:ByteArray)==⟨b.toArray⟩)=(a==b):=by
 show(a.toArray==b.toArray)=(a==b);simp
theorem Cc{t:TK}{d:TypeDesc}(b:uL d t){k x:DV}(h:gG t k=true){c:Bool}(a:kL k x=some c){v i:Value}(f:RD w E k v)(g:RD w E x i):Instr.sameNow d v i=some c:=by
 cases t<;>cases k<;>simp only[gG]at h<;>try(cases h;done)
 .rename_i l j n;cases x<;>simp only[kL,FB]at a<;>try(cases a;done)
  cases f;cases g;cases d<;>simp only[uL]at b;split at a
  .rename_i e;subst e;simp only[Instr.sameNow,if_true];rw[<-a];rfl
  .cases a
 .cases x<;>simp only[kL,FB]at a<;>try(cases a;done)
  cases f;cases g;cases d<;>simp only[uL]at b;simpa only[Instr.sameNow]using a
 .cases x<;>simp only[kL,FB]at a<;>try(cases a;done)
  cases f;cases g;cases d<;>simp only[uL]at b;simp only[Instr.sameNow,Qs];exact a
theorem Qt{z:TypeId}{k:DV}{d:TypeDesc}{t:TK}(u:P.underlying z=some d)(c:uL d t)(g:gG t k=true):DE P z k:=by
 have l:Hq d:=by
  cases t<;>cases k<;>simp only[gG]at g<;>try(cases g;done)
  all_goals cases d<;>simp only[uL]at c<;>first|exact .inl ⟨_,rfl⟩|exact .inr (.inl rfl)|exact .inr (.inr rfl)
 obtain⟨D,o,a⟩:=zE g;refine⟨λw E A v h=>vB u l A 9999 v,λw E v h s f i r m l b=>⟨d,u,.inl ?_⟩,λw E v F h p=>by rw[a _ _ _ h,a _ _ _ p];exact vC o 10000⟩;induction s generalizing f i r with
 |nil=>
  have:f=[]:=A6 (by simpa using m.symm);subst this;simp only[iM,Option.some.injEq]at b;subst b;rfl
 |cons x s ih=>
  cases f with
  |nil=>simp at m
  |cons e f=>
   have y:=l 0 x e rfl rfl;have n:∀(j:Nat) (d:DV) (e:MapEntry),s[j]? =some d->f[j]? =some e->RD w E d e.key:=λj d e C B=>l (j+1) d e (by simpa using C) (by simpa using B);simp only[iM]at b;simp only[Instr.findNow];split at b
   .rename_i q;injection b with b;subst b
    rw[Cc c g q h y];simp
   .rename_i q;rw[Cc c g q h y];simp only;rw[ih f (i+1) r (by simpa using m) n b];cases r with
    |none=>rfl
    |some j=>
     have:=(vA b).1;simp only[C0];rw[show j-i=(j-(i+1))+1 by omega];simp
   .cases b
theorem Fr{S:TypeId}{b:List DV}{a:List TK}(a4:b≠[])(z:bV a b=true)(g2:P.stoodInHeld S=false){F:Array Field}(U:P.underlying S=some (.struct F))(g4:F.toList.length=a.length)
 (g5:∀(j:Nat) (f:Field) (k:TK),F.toList[j]? =some f->a[j]? =some k->f.name≠ "_" /\f.offset=j/\gP P f.type k):DE P S (.agg b):=by
 have K:P.fieldsOf S=F:=by simp[Program.fieldsOf,U]
 have G:∀(a:List TK) (b:List DV),bV a b=true->a.length=b.length:=by
  intro a;induction a with
  |nil=>intro b h;cases b<;>simp_all[bV]
  |cons t r ih=>intro b h;cases b with
   |nil=>simp[bV]at h
   |cons c b=>simp only[bV,E7]at h;simp[ih b h.2]
 have N:∀(a:List TK) (b:List DV),bV a b=true->∀(i:Nat) (t:TK) (c:DV),a[i]? =some t->b[i]? =some c->gG t c=true:=by
  intro a;induction a with
  |nil=>intro b h i t c X;simp at X
  |cons t r ih=>intro b h i t' c X hc;cases b with
   |nil=>simp at hc
   |cons c0 b=>
    simp only[bV,E7]at h;cases i with
    |zero=>simp at X hc;subst X;subst hc;exact h.1
    |succ i=>exact ih b h.2 i t' c (by simpa using X) (by simpa using hc)
 have J:∀(w:World) (E:Nat->Prop) (v Z:Value) (x:DV) (c:Bool),RD w E (.agg b) v->RD w E x Z->kL (.agg b) x=some c->(Op.equal S v Z).run P w=.ok c w:=by
  intro w E v Z x c p hx hq;cases x with
  |agg ys=>
   simp only[kL]at hq;cases p with
   |agg _ I A _ o=>cases hx with
    |agg _ l Q _ B=>
     have H:=run_equalIn_struct (P:=P) w 9999 S I.toArray l.toArray (by rw[K];exact U) g2;rw[K,Ak 9998 b ys a I l I.toArray l.toArray F.toList 0 c E hq z A Q g4 o B (λi v h=>by simpa using h) (λi v h=>by simpa using h) (λi f k h1 V=>by simpa using g5 i f k h1 V)]at H;exact H
  |_=>simp[kL,FB]at hq
 have m:∀(w:World) (E:Nat->Prop) (v:Value),RD w E (.agg b) v->∃l:List Value,v=.agg l.toArray/\l.length=b.length/\∀(i:Nat) (c:DV) (v:Value),b[i]? =some c->l[i]? =some v->RD w E c v:=λw E v p=>by
  cases p with|agg _ I A _ o=>exact⟨I,rfl,A,o⟩
 refine⟨λw E em v p=>?_,λw E v p ks D i r hl hp n=>⟨_,U,?_⟩,λw E v Z p a2=>?_⟩
 .obtain⟨l,rfl,Q,B⟩:=m w E v p;have g:∀f∈F.toList,f.name≠ "_" /\∃u,(part f.type l.toArray f.offset).run P w=.ok u w/\(Instr.checkKey em 9999 f.type u).run P w=.ok () w:=by
   intro f hf;obtain⟨j,hj,rfl⟩:=D8 hf;have W:j<a.length:=aD;have a3:j<b.length:=by rw[<-G a b z];exact W
   obtain⟨n1,n2,s⟩:=g5 j _ _ (A0 hj) (A0 W);clear hf;generalize F.toList[j]=fl at n1 n2 s|-;refine⟨n1,l[j]'aD,?_,?_⟩
   .obtain⟨d,d1,d2⟩:∃d,P.underlying fl.type=some d/\(match d with| .struct _| .array _ _=>true|_=>false)=false:=by
     cases q:a[j]<;>rw[q]at s<;>simp only[gP]at s<;>first|(cases s;done)|exact⟨_,s,rfl⟩
    unfold part;have:(isAgg fl.type).run P w=.ok false w:=by
     rw[<-d2];cases d<;>simp[isAgg,run_underlying d1]
    rw[Sem.run_bind,this];simp[n2,show j<l.length by omega]
   .have:∃d,P.underlying fl.type=some d/\Hq d:=by
     cases q:a[j]<;>rw[q]at s<;>simp only[gP]at s<;>first|(cases s;done)|exact⟨_,s,.inl ⟨_,rfl⟩⟩|exact⟨_,s,.inr (.inl rfl)⟩|exact⟨_,s,.inr (.inr rfl)⟩
    obtain⟨d,d1,d2⟩:=this;exact vB d1 d2 em 9998 _
  rw[show(10000:Nat)=9999+1 from rfl,Instr.checkKey];simp only[Sem.run_bind,run_underlying U,Result.andThen_ok];rw[<-Array.forIn_toList];clear U g4 g5 K J;generalize F.toList=L at g;induction L with
  |nil=>simp
  |cons f L ih=>
   obtain⟨hn,u,p1,p2⟩:=g f bA;simp only[List.forIn_cons,Sem.run_bind,hn,ne_eq,not_false_eq_true,if_true,Result.andThen_ok,p1,p2,Sem.run_pure];exact ih (λy hy=>g y (by simp[hy]))
 .have Y:=m w E v p;cases D with
  |nil=>
   cases ks with
   |nil=>simp only[iM,Option.some.injEq]at n;subst n;exact .inl rfl
   |cons=>simp at hl
  |cons e0 es0=>
   right;refine⟨?_,?_⟩
   .obtain⟨l,rfl,_⟩:=Y;simp[Instr.findNow,Instr.sameNow]
   .clear Y;generalize e0::es0=D at*;induction ks generalizing D i r with
    |nil=>
     have:D=[]:=A6 (by simpa using hl.symm);subst this;simp only[iM,Option.some.injEq]at n;subst n;simp[Instr.findAsking]
    |cons x ks ih=>
     cases D with
     |nil=>simp at hl
     |cons e D=>
      have hx:=hp 0 x e rfl rfl;have a1:∀(j:Nat) (d:DV) (e:MapEntry),ks[j]? =some d->D[j]? =some e->RD w E d e.key:=λj d e hj he=>hp (j+1) d e (by simpa using hj) (by simpa using he);simp only[iM]at n;simp only[Instr.findAsking,Sem.run_bind];split at n
      .rename_i q;injection n with n;subst n
       rw[J w E v e.key x true p hx q];simp
      .rename_i q;rw[J w E v e.key x false p hx q];simp only[Result.andThen_ok,C6,if_false];rw[ih (i+1) r n D (by simpa using hl) a1];cases r with
       |none=>rfl
       |some j=>
        have:=(vA n).1;simp only[C0];rw[show j-i=(j-(i+1))+1 by omega];simp
      .cases n
 .obtain⟨l,rfl,Q,B⟩:=m w E v p;obtain⟨I,rfl,A,o⟩:=m w E Z a2;have g:∀(i:Nat) (M:i<b.length),I[i]'aD=l[i]'aD/\LA (l[i]'aD):=λi M=>by
   have a0:i<a.length:=(by rw[G a b z];exact M);obtain⟨pv,h1,V⟩:=zE (N a b z i _ _ (A0 a0) (A0 M));rw[V _ _ _ (B i _ _ (A0 M) (A0 aD)),V _ _ _ (o i _ _ (A0 M) (A0 aD))];exact⟨rfl,h1⟩
  have O:I=l:=H5 aD λi h1 V=>(g i aD).1;subst O;simp only[Instr.sameBits,B5,beq_self_eq_true,Bool.true_and,List.all_eq_true];rintro⟨x,y⟩ C;obtain⟨i,M,C⟩:=D8 C;simp at M C;obtain⟨rfl,rfl⟩:=C;exact vC (g i aD).2 9999
theorem Hr(hT:fW P T)(v:∀t,(T t).eqk≠[]->(T t).k.isNone=false){a:TypeId}{k:DV}(h:rX (T a) k=true):DE P a k:=by
 unfold rX at h;split at h
 .rename_i i;simp only[E7,Bool.not_eq_true',List.isEmpty_eq_false_iff]at h;have b:(T a).eqk≠[]:=λe=>by rw[e]at h;cases i<;>simp_all[bV]
  obtain⟨B,s|r⟩:=(hT a (v a b)).eqk b
  .obtain⟨l,j,m,o,p⟩:=s;exact Fr h.1.2 h.1.1 l m o p
  .exfalso;obtain⟨n,e,f,y,x,_⟩:=r;have c:=h.2;cases q:(T a).k with
   |struct j=>obtain⟨A,g,_⟩:=hT.struct q;rw[x]at g;cases g
   |_=>rw[q]at c;cases c
 .have w:(T a).k.isNone=false:=by cases q:(T a).k<;>rw[q]at h<;>simp_all[gG,TK.isNone]
  obtain⟨f,d,z,C,c,u,_⟩:=hT.parts w;exact Qt c u h
theorem DE.findKey{c:TypeId}{k:DV}(h:DE P c k){v:Value}(m:RD w E k v){a:List DV}{es:List MapEntry}{r:Option Nat}(g:a.length=es.length)(i:∀(j:Nat) (d:DV) (e:MapEntry),a[j]? =some d->es[j]? =some e->RD w E d e.key)
 (l:iM k a 0=some r):(Instr.findKey c v es).run P w=.ok (r.map λj=>(j,(es.getD j default).val)) w:=by
 obtain⟨d,b,h|⟨h,f⟩⟩:=h.find w E v m a es 0 r g i l
 .simp[Instr.findKey,run_underlying b,h]
 .simp[Instr.findKey,run_underlying b,h,f]
theorem LB(m:dV w0 X H β w){x:LV}{v:Value}(n:R w (Ex X β H) β H x v){q s:List DV}(g:rY H x=some (q,s)):
 ∃b a c,v=.map (some b)/\w.heap[b]? =some (.map c a)/\q.length=c.size/\s.length=c.size/\gF c a/\
  (∀(i:Nat) (d:DV) (e:MapEntry),q[i]? =some d->c[i]? =some e->RD w (Ex X β H) d e.key)/\∀(i:Nat) (d:DV) (e:MapEntry),s[i]? =some d->c[i]? =some e->RD w (Ex X β H) d e.val:=by
 unfold rY at g;split at g
 .rename_i r t;injection g with g;injection g with j k;subst j;subst k
  cases n with
  |d _ _ n=>cases n with
   |mp _ _ b a c _ _ h o p f j k=>exact⟨b,a,c,rfl,h,o,p,f,j,k⟩
 .rename_i id;cases l:H id with
  |map fz r t=>
   rw[l]at g;injection g with g;injection g with j k;subst j;subst k
   have u:=m.obj id;simp only[dS,l]at u;obtain⟨b,c,a,y,h,o,p,f,j,k⟩:=u;cases n with
   |mp _ b' _ _ _ _ hb'=>
    rw[y]at hb';injection hb' with hb';subst hb'
    exact⟨b,a,c,rfl,h,o,p,f,j,k⟩
   |mpdead _ _ hd=>rw[l]at hd;cases hd
  |_=>rw[l]at g;cases g
 .cases g
theorem qA{b a:Nat}{c:Array MapEntry}(d:w.heap[b]? =some (.map c a)):(getObj b).run P w=.ok (.map c a) w:=by simp[getObj,Sem.run,d]
theorem DG(u:Value)(h:u.oneCell'=true):RD w E (uT u) u:=by
 unfold uT;split
 .exact .bool _
 .exact .int _ _
 .rename_i s;have:=RD.str (w:=w) (E:=E) s.data.toList;rw[xP]at this;exact this
 .exact .sl0 none 0 (by unfold maxLen;omega)
 .exact .val _ h
theorem Xk(hT:fW P T){t:TypeId}(h:(T t).k.isNone=false):∃z,(zeroValue t).run P w=.ok z w/\RD w E (lF (T t)) z:=by
 obtain⟨l,e,f,g⟩:=(hT t h).zv;have a:=(hT t h).one;refine⟨_,by simp[zeroValue,typeInfo,e,f];rfl,?_⟩;unfold lF;cases q:(T t).k.agg with
 |true=>
  simp only[if_true];refine .agg _ _ bA a λi c v b d=>?_;rw[C2,d]at b;simp at b;subst b;exact DG v (a v (A2 d))
 |false=>
  have j:=g q
  match k:(T t).zero,j with
  |[u],_=>
   simp only[C6,if_false,A7,E2,List.getD_cons_zero];exact DG u (a u (by rw[k];simp))
theorem LC(m:dV w0 X H β w){t:TypeId}(f:o.op=.makeMap t none)(c:(lG H (o.dst.getD 0)).ok):lT P w0 X H β w a o (lG H (o.dst.getD 0)):=by
 simp only[lG]at c|-;obtain⟨g,e⟩:=m.newObj (w':=w.alloc (.map #[] 0)) ((Ah.refl _ _).alloc (B8 _) _) c (o:=.map false [] []) (some w.heap.size) (λb d=>by injection d with d;subst d;simp) λ_ _=>by
  unfold dS;rw[aW];exact⟨w.heap.size,#[],0,by rw[aW],heap_alloc_new w _,rfl,rfl,gF.empty,bA,bA⟩
 refine cV (v:=.map (some w.heap.size)) (w':=w.alloc (.map #[] 0)) (β':=cQ β (o.dst.getD 0) (some w.heap.size)) ?_ (by simp only[cJ];exact g) (by simp only[cJ];exact e) ?_
 .simp[execOp,f,Instr.makeMap]
 .simp only[cJ];exact .mp _ w.heap.size false [] [] (by rw[aW]) (by rw[aW])
theorem Qu(hT:fW P T)(S:∀t,(T t).eqk≠[]->(T t).k.isNone=false)(m:dV w0 X H β w)(U:∀x,R w (Ex X β H) β H (g x) (a.eval x)){t:TypeId}{x i:Operand}{u:Bool}(V:o.op=.lookup t x i u)
 (p:(cZ T H t (g x) (g i) u).ok):lT P w0 X H β w a o (cZ T H t (g x) (g i) u):=by
 unfold cZ at*;split at p
 .rename_i kt Z Y Q k hk hm M;obtain⟨b,L,q,f,s,N,a1,_,F,J⟩:=LB m (U x) hm;have D:=U i;rw[M]at D;have D:RD w (Ex X β H) k (a.eval i):=by cases D with|d _ _ h=>exact h
  have W:=hT.mapd hk;have A:∀(r:Option Nat) (z:Value),DE P kt k->iM k Y 0=some r->(r=none->(zeroValue Z).run P w=.ok z w)->
   (execOp a.eval o).run P w=.ok (.value (if u then .tuple #[match r with|some j=>(q.toList.getD j default).val|none=>z,.bool r.isSome]else match r with|some j=>(q.toList.getD j default).val|none=>z)) w:=by
   intro r z y hr O;have B:=y.check w _ q.isEmpty _ D;have C:=y.findKey (es:=q.toList) D (by simpa using N) (λj d e hd he=>F j d e hd (by simpa using he)) hr;cases r with
   |none=>simp[execOp,V,Instr.lookup,run_underlying W,f,qA s,B,C,O rfl]
   |some j=>simp[execOp,V,Instr.lookup,run_underlying W,f,qA s,B,C]
  split at p
  .rename_i j K;simp only[kJ.cond]at p|-;have y:=Hr hT S p;have hj:=vA K;have a0:j<Y.length:=by have:=(A3.1 hj.2).1;omega
   have G:RD w (Ex X β H) (Q.getD j default) (q.toList.getD j default).val:=by
    have B:j<Q.length:=aD;have C:j<q.size:=aD;have:=J j (Q[j]) (q[j]) (A0 B) (F2 C);simpa [B9,B,C]using this
   have c:=A (some j) undef y K bA;cases u with
   |true=>
    simp only[if_true]at c|-;refine lT.plain m c (.tup _ [_,_] rfl λi l v n f=>?_)
    match i,n,f with
    |0,n,f=>injection n with n;injection f with f;subst n;subst f;exact .d _ _ G
    |1,n,f=>injection n with n;injection f with f;subst n;subst f;exact dW _
   |false=>exact lT.plain m c (.d _ _ G)
  .rename_i K;simp only[kJ.cond]at p|-;have y:=Hr hT S p.1;obtain⟨z,O,I⟩:=Xk (P:=P) (w:=w) (E:=Ex X β H) hT p.2;have c:=A none z y K (λ_=>O);cases u with
   |true=>
    simp only[if_true]at c|-;refine lT.plain m c (.tup _ [_,_] rfl λi l v n f=>?_)
    match i,n,f with
    |0,n,f=>injection n with n;injection f with f;subst n;subst f;exact .d _ _ I
    |1,n,f=>injection n with n;injection f with f;subst n;subst f;exact dW _
   |false=>exact lT.plain m c (.d _ _ I)
  .exact p.elim
 .exact p.elim
theorem Td(w:World)(b:Nat)(a:Obj)(k:Nat)(h:k≠b):(w.heap.setIfInBounds b a)[k]? =w.heap[k]? :=by simp[Ne.symm h]
theorem dV.rewriteMap(m:dV w0 X H β w){id b a clock':Nat}{t u ks' vs':List DV}{j arr':Array MapEntry}(q:H id=.map false t u)(r:β id=some b)(f:w.heap[b]? =some (.map j a))
 (o:ks'.length=arr'.size)(s:vs'.length=arr'.size)(c:gF arr' clock')
 (g:∀(i:Nat) (d:DV) (e:MapEntry),ks'[i]? =some d->arr'[i]? =some e->RD w (Ex X β H) d e.key)(h:∀(i:Nat) (d:DV) (e:MapEntry),vs'[i]? =some d->arr'[i]? =some e->RD w (Ex X β H) d e.val):
 dV w0 X (cQ H id (.map false ks' vs')) β {w with heap:=w.heap.setIfInBounds b (.map arr' clock')}/\fB X H β w (cQ H id (.map false ks' vs')) β {w with heap:=w.heap.setIfInBounds b (.map arr' clock')}:=by
 refine m.rewriteG (by rw[q];rfl) r rfl rfl rfl (B8 _) bA (λk o=>Td w b _ k o) ?_ λp _=>?_
 .unfold bW;rw[q,aW];exact .inr ⟨⟨false,ks',vs',rfl⟩,rfl⟩
 .unfold dS;rw[aW];exact⟨b,arr',clock',r,by simp[(C7.1 f).1],o,s,c,λi d e l n=>p _ _ (g i d e l n),λi d e l n=>p _ _ (h i d e l n)⟩
theorem DH{b a:Nat}{c:Array MapEntry}(d:Obj)(e:w.heap[b]? =some (.map c a)):(setObj b d).run P w=.ok () {w with heap:=w.heap.setIfInBounds b d}:=by simp[setObj,Sem.run,e]
theorem Ap(hT:fW P T)(hE:∀t,(T t).eqk≠[]->(T t).k.isNone=false)(m:dV w0 X H β w){t:TypeId}{x i y:Operand}{lx li ly:LV}(hx:R w (Ex X β H) β H lx (a.eval x))(D:R w (Ex X β H) β H li (a.eval i))(V:R w (Ex X β H) β H ly (a.eval y))(E:o.op=.mapUpdate t x i y\/o.op=.insert t x i y)
 (r:(cM T H t lx li ly).ok):lT P w0 X H β w a o (cM T H t lx li ly):=by
 unfold cM at*;split at r
 .rename_i kt et id k v hk;split at r
  .rename_i W vs O;have D:RD w (Ex X β H) k (a.eval i):=by cases D with|d _ _ h=>exact h
   have V:RD w (Ex X β H) v (a.eval y):=by cases V with|d _ _ h=>exact h
   have U:=hT.mapd hk;have L:=m.obj id;simp only[dS,O]at L;obtain⟨b,p,g,hb,s,C,I,B,A,F⟩:=L;have N:a.eval x=.map (some b):=by
    generalize a.eval x=vx at hx;cases hx with
    |mp _ b' _ _ _ _ hb'=>rw[hb]at hb';injection hb' with hb';rw[hb']
    |mpdead _ _ c=>rw[O]at c;cases c
   split at r
   .rename_i j Q;simp only at r|-;have J:=Hr hT hE r;have h1:=J.check w _ false _ D;have h2:=J.findKey (es:=p.toList) D (by simpa using C) (λj d e c n=>A j d e c (by simpa using n)) Q;have S:=(vA Q).2;rw[Nat.sub_zero]at S;have a1:j<W.length:=(A3.1 S).1;have K:j<p.size:=aD;have M:=A j k p[j] S (F2 K);have a0:(Instr.keyThatStays p[j].key (a.eval i)).run P w=.ok (a.eval i) w:=by simp[Instr.keyThatStays,J.same w _ _ _ D M]
    obtain⟨m2,Z⟩:=m.rewriteMap O hb s (ks':=W) (vs':=vs.set j v) (arr':=p.modify j λe=>{e with key:=a.eval i,val:=a.eval y}) (clock':=g) (by simpa using C) (by simpa using I) (B.modify j _ _)
     (λl d e c n=>by
       rw[E4]at n;split at n
       .rename_i q;subst q;rw[S]at c;injection c with c;subst c
        rw[B3]at n;obtain⟨e0,_,rfl⟩:=n;exact D
       .exact A l d e c n)
     (λl d e c n=>by
       rw[E4]at n;rw[List.getElem?_set]at c;split at n
       .rename_i q;subst q;rw[if_pos rfl,if_pos aD]at c;injection c with c;subst c
        rw[B3]at n;obtain⟨e0,_,rfl⟩:=n;exact V
       .rename_i q;rw[if_neg q]at c;exact F l d e c n)
    refine qU (w':=_) (β':=β) ?_ (by simp only[cJ];exact m2) (by simp only[cJ];exact Z) rfl;rcases E with E|E<;>simp[execOp,E,Instr.mapUpdate,run_underlying U,N,qA s,h1,h2,K,a0,DH _ s]
   .rename_i Q;simp only at r|-;have J:=Hr hT hE r;have h1:=J.check w _ false _ D;have h2:=J.findKey (es:=p.toList) D (by simpa using C) (λj d e c n=>A j d e c (by simpa using n)) Q;have G:∀(Y:List DV) (z:DV) (u:Value) (f:MapEntry->Value),Y.length=p.size->f {key:=a.eval i,val:=a.eval y,born:=g}=u->RD w (Ex X β H) z u->(∀(i:Nat) (d:DV) (e:MapEntry),Y[i]? =some d->p[i]? =some e->RD w (Ex X β H) d (f e))->
     ∀(l:Nat) (d:DV) (e:MapEntry),(Y++[z])[l]? =some d->(p.push {key:=a.eval i,val:=a.eval y,born:=g})[l]? =some e->RD w (Ex X β H) d (f e):=by
     intro Y z u f hl U hz hp l d e c n;rw[G4]at n;split at n
     .rename_i q;injection n with n;subst n
      rw[B0 aD]at c;rw[U];rw[q,hl]at c;simp at c;subst c;exact hz
     .have a2:=(C7.1 n).1;rw[A8 aD]at c;exact hp l d e c n
    obtain⟨m2,Z⟩:=m.rewriteMap O hb s (ks':=W++[k]) (vs':=vs++[v]) (arr':=p.push {key:=a.eval i,val:=a.eval y,born:=g}) (clock':=g+1) (by simp[C]) (by simp[I]) (B.push _ _)
     (G W k _ (·.key) C rfl D A) (G vs v _ (·.val) I rfl V F)
    refine qU (w':=_) (β':=β) ?_ (by simp only[cJ];exact m2) (by simp only[cJ];exact Z) rfl;rcases E with E|E<;>simp[execOp,E,Instr.mapUpdate,run_underlying U,N,qA s,h1,h2,DH _ s]
   .exact r.elim
  .exact r.elim
 .exact r.elim
theorem FL(hT:fW P T)(f:∀t,(T t).eqk≠[]->(T t).k.isNone=false)(m:dV w0 X H β w)(d:∀x,R w (Ex X β H) β H (g x) (a.eval x)){t:TypeId}{x i y:Operand}(j:o.op=.mapUpdate t x i y\/o.op=.insert t x i y)
 (b:(iB T H t (g x) (g i) (g y)).ok):lT P w0 X H β w a o (iB T H t (g x) (g i) (g y)):=by
 have k:=d y;generalize g y=ly at*;unfold iB at*;split at b
 .exact Ap hT f m (d x) (d i) k j b
 .cases q:close H 8 ly with
  |none=>simp only[q]at b;exact b.elim
  |some v=>
   simp only[q]at b|-;obtain⟨r,e⟩:=m.freeze (bX H 8 ly);have c:=Ap hT f r (e.R (d x)) (e.R (d i)) (.d _ _ (fZ m q (λ_ h=>h) k)) j b;intro K Q n;refine c K Q λu z A s l p=>n u z A ?_ ?_ ?_<;>simp only[]<;>rw[Cb]
   .exact s
   .exact e.trans l
   .exact p
theorem Qv(hT:fW P T)(c:∀t,(T t).eqk≠[]->(T t).k.isNone=false)(m:dV w0 X H β w)(d:∀x,R w (Ex X β H) β H (g x) (a.eval x)){t u:TypeId}{x i:Operand}(e:o.op=.call {callee:=.builtin .delete,args:= #[x,i],argTypes:= #[t,u]})
 (b:(pU T H t (g x) (g i)).ok):lT P w0 X H β w a o (pU T H t (g x) (g i)):=by
 exact(show False from b).elim
theorem Te(hT:fW P T)(m:dV w0 X H β w)(N:∀x,R w (Ex X β H) β H (g x) (a.eval x)){t V L:TypeId}{x:Operand}(Q:o.op=.range t x)(O:(T t).k=.map V L)
 (l:(pO H (o.dst.getD 0) (g x)).ok):lT P w0 X H β w a o (pO H (o.dst.getD 0) (g x)):=by
 have u:=N x;have S:=hT.mapd O;unfold pO at*;split at l
 .rename_i y z E;simp only at l|-;rw[E]at u;obtain⟨b,c,f,U,r,G,n,F,I,p,q,s⟩:∃b c f,a.eval x=.map (some b)/\¬Ex X β H b/\b<w.heap.size/\w.heap[b]? =some (.map f c)/\y.length=f.size/\z.length=f.size/\gF f c/\
   (∀(i:Nat) (d:DV) (e:MapEntry),y[i]? =some d->f[i]? =some e->RD w (Ex X β H) d e.key)/\∀(i:Nat) (d:DV) (e:MapEntry),z[i]? =some d->f[i]? =some e->RD w (Ex X β H) d e.val:=by
   generalize a.eval x=vx at u;cases u with
   |d _ _ u=>cases u with
    |mp _ _ b c f h1 h2 h3 h4 h5 h6 h7 h8=>exact⟨b,c,f,rfl,h1,h2,h3,h4,h5,h6,h7,h8⟩
  have k:(f.filter λe=> !(#[]:Array Nat).contains e.born)=f:=bA;have D:=(m.grow (w':=w.alloc (.mapIter (some b) c #[] c)) ((Ah.refl _ _).alloc (B8 _) _)).2;obtain⟨W,M⟩:=m.newObj (w':=w.alloc (.mapIter (some b) c #[] c)) ((Ah.refl _ _).alloc (B8 _) _) l (o:=.iter false y z) (some w.heap.size) (λb A=>by injection A with A;subst A;simp) λJ _=>by
   unfold dS;rw[aW];refine⟨w.heap.size,b,f,c,#[],c,by rw[aW],heap_alloc_new w _,?_,kH,?_,p,rfl,by rw[k];exact F,by rw[k];exact I,by rw[k];exact λi d e B C=>J _ _ (q i d e B C),by rw[k];exact λi d e B C=>J _ _ (s i d e B C)⟩
   .rintro(h|⟨j,h1,h2⟩)
    .exact r (.inl h)
    .by_cases K:j=o.dst.getD 0
     .subst K;rw[aW]at h2;injection h2 with h2;omega
     .rw[cO _ _ K]at h1 h2;exact r (.inr ⟨j,h1,h2⟩)
   .rw[Below.heap_alloc _ _ _ G];exact n
  refine cV (v:=.pointer (some ⟨w.heap.size,0,none⟩)) (w':=w.alloc (.mapIter (some b) c #[] c)) (β':=cQ β (o.dst.getD 0) (some w.heap.size)) ?_ (by simp only[cJ];exact W) (by simp only[cJ];exact M) ?_
  .simp[execOp,Q,Instr.range,run_underlying S,U,qA n]
  .simp only[cJ];exact .it _ w.heap.size false y z (by rw[aW]) (by rw[aW])
 .exact l.elim
end
end
end Go.Eng
