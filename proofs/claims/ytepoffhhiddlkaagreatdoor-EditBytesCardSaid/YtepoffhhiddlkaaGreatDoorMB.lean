/- Part 2 of the proof. No condition. -/
import Derived.Test.YtepoffhhiddlkaaGreatDoorMA
import Derived.Lib.ConvBytes
import Derived.MapKept
set_option linter.unusedVariables false
set_option linter.unusedSimpArgs false
set_option maxRecDepth 20000
set_option maxHeartbeats 4000000
namespace Go.Eng
section
open Go.RowKit
section
variable{P:Program} {T:TypeId->eC} {w0:cX} {X:Nat->Prop} {H:Nat->aV} {β:Nat->Option Nat} {w:World} {a:Act} {o:Oper} {g:Operand->LV} {E:Nat->Prop}
theorem fK{α γ:Type}{f:α->γ}{l:List α}{i:Nat}{y:γ}(h:(l.map f)[i]? =some y):∃x,l[i]? =some x/\f x=y:=by
 rw[List.getElem?_map,Option.map_eq_some_iff]at h;exact h
theorem RD.ro_drop{cs:List DV}{b off k:Nat}(h:RD w E (.ro cs) (.pointer (some ⟨b,off,none⟩))):RD w E (.ro (cs.drop k)) (.pointer (some ⟨b,off+k,none⟩)):=by
 cases h with
 |ro _ _ _ us hb hul h1 hlt hcell hp=>
  refine .ro (cs.drop k) b (off+k) (us.drop k) hb (by simp[hul]) (λu hu=>h1 u (List.mem_of_mem_drop hu)) hlt (λj u hu=>?_) λi d v hd hv=>?_
  ·rw[List.getElem?_drop]at hu;have:=hcell (k+j) u hu
   rwa[Nat.add_assoc]
  ·rw[List.getElem?_drop]at hd hv;exact hp _ d v hd hv
theorem RD.ro_form{cs:List DV}{v:Value}(h:RD w E (.ro cs) v):∃b off,v=.pointer (some ⟨b,off,none⟩):=by cases h;exact⟨_,_,rfl⟩
theorem Kx(hT:fC P T)(m:cV w0 X H β w)(hg:∀x,R w (Ex X β H) β H (g x) (a.eval x)){s:TypeId}{x:Operand}{f:Nat}(ho:o.op=.fieldAddr s x f)
 (ht:∀fs,(T s).k=.struct fs->∀p∈fs,(T p.2).k.isNone=false)(hok:(jE T H s (g x) f).ok):iV P w0 X H β w a o (jE T H s (g x) f):=by
 have hx:=hg x;generalize g x=lx at*;generalize hval:a.eval x=vx at hx;unfold jE at*;split at hok
 ·rename_i fs hk;obtain⟨fa,hu,hm⟩:=hT.struct hk;split at hok
  ·rename_i off ty hf;rw[<-hm]at hf;obtain⟨fl,hfl,hfe⟩:=fK hf;injection hfe with e1 e2
   have hty:(T ty).k.isNone=false:=ht fs hk (off,ty) (by rw[<-hm];exact List.mem_of_getElem? hf);have hrun:∀b o',vx=.pointer (some ⟨b,o',none⟩)->(T ty).size≠0->(execOp a.eval o).run P w=.ok (.value (.pointer (some ⟨b,o'+off,none⟩))) w:=by
    intro b o' hv hsz;have hfl':fa[f]? =some fl:=by simpa using hfl
    have hso:=bQ (P:=P) (w:=w) hT hty;rw[hv]at hval;simp[execOp,ho,Instr.fieldAt,run_underlying hu,hfl',Instr.sureAddr,hval,fieldPlace,e2,hso,hsz,e1,Addr.add_lit]
   split at hok
   ·rename_i id o';simp only[iO.cond]at hok|-;cases hx with
    |bx _ _ b fz cs hH hb=>exact iV.plain m (hrun b o' rfl hok.1) (.bx id (o'+off) b fz cs hH hb)
    |bxdead _ _ _ hd=>rw[hd]at hok;exact absurd hok.2 (by simp[aV.live])
   ·rename_i id k j;simp only[iO.cond]at hok|-;cases hx with
    |rp _ _ _ b fz s' xs hH hb=>
     have:=hrun b (k*s'+j) rfl hok.1;rw[Nat.add_assoc]at this;exact iV.plain m this (.rp id k (j+off) b fz s' xs hH hb)
    |rpdead _ _ _ _ hd=>rw[hd]at hok;exact absurd hok.2 (by simp[aV.live])
   ·rename_i cs;simp only[iO.cond]at hok|-;cases hx with
    |d _ _ hx=>
     obtain⟨b,o',rfl⟩:=hx.ro_form;exact iV.plain m (hrun b o' rfl hok) (.d _ _ hx.ro_drop)
   ·exact hok.elim
  ·exact hok.elim
 ·exact hok.elim
theorem Au(hT:fC P T){t:TypeId}(h:(T t).k.isNone=false){cs:List Value}{off:Nat}(hle:off+(T t).size<=cs.length)(hs:(T t).k.agg=false->(T t).size=1):
 (part t cs.toArray off).run P w=.ok (if(T t).k.agg then .agg ((cs.drop off).take (T t).size).toArray else((cs.drop off).take (T t).size).getD 0 undef) w:=by
 unfold part;rw[Sem.run_bind,Cj hT h];simp only[Result.andThen_ok];cases e:(T t).k.agg
 ·have:=hs e;have h1:off<cs.length:=by omega
  simp[this,h1,List.getD_eq_getElem?_getD,List.getElem?_drop]
 ·simp[bQ hT h]
theorem Nf(hT:fC P T)(m:cV w0 X H β w)(hg:∀x,R w (Ex X β H) β H (g x) (a.eval x)){s:TypeId}{x:Operand}{f:Nat}(ho:o.op=.field s x f)
 (ht:∀fs,(T s).k=.struct fs->∀p∈fs,(T p.2).k.isNone=false)(hok:(vK T s (g x) f).ok):iV P w0 X H β w a o (vK T s (g x) f):=by
 have hx:=hg x;generalize g x=lx at*;generalize hval:a.eval x=vx at hx;unfold vK at*;split at hok
 ·rename_i fs hk;obtain⟨fa,hu,hm⟩:=hT.struct hk;split at hok
  ·rename_i off ty hf;rw[<-hm]at hf;obtain⟨fl,hfl,hfe⟩:=fK hf;injection hfe with e1 e2
   have hty:(T ty).k.isNone=false:=ht fs hk (off,ty) (by rw[<-hm];exact List.mem_of_getElem? hf);have hfl':fa[f]? =some fl:=by simpa using hfl
   split at hok
   ·rename_i cs;simp only[iO.cond]at hok|-;cases hx with
    |d _ _ hx=>cases hx with
     |agg _ vs hl h1 hp=>
      refine iV.plain m ?_ (.d _ _ (zU (us:=vs) (by omega) (λu hu _=>h1 u (List.mem_of_getElem? hu)) hok.1 hok.2 hp));have hrp:=Au (P:=P) (w:=w) hT hty (cs:=vs) (off:=off) (by omega) hok.2;simp only[execOp,ho,Instr.field,Sem.run_bind,run_underlying hu,Result.andThen_ok,hfl',hval,asAgg,Sem.run_pure,e1,e2,hrp]
   ·rename_i cs;simp only[iO.cond]at hok|-;cases hx with
    |agg _ vs hl h1 hp=>
     refine iV.plain m ?_ (Dh (us:=vs) (by omega) h1 hok.1 hok.2 hp);have hrp:=Au (P:=P) (w:=w) hT hty (cs:=vs) (off:=off) (by omega) hok.2;simp only[execOp,ho,Instr.field,Sem.run_bind,run_underlying hu,Result.andThen_ok,hfl',hval,asAgg,Sem.run_pure,e1,e2,hrp]
   ·exact hok.elim
  ·exact hok.elim
 ·exact hok.elim
theorem RD.sl_at{xs:List DV}{v:Value}(h:RD w E (.sl xs) v){i:Nat}(hi:i<xs.length){s:Nat}(hs:(aK (xs.getD i default)).length=s):
 ∃b off c,v=.slice (some ⟨b,off,none⟩) xs.length c/\RD w E (.ro (aK (xs.getD i default))) (.pointer (some ⟨b,off+i*s,none⟩)):=by
 cases h with
 |sl0=>simp at hi
 |sl _ b off c size us hx hb hall hlen hc hul h1 hlt hcell hp=>
  obtain⟨hcl,hcc⟩:=pC hi hall;have hss:s=size:=by rw[<-hs,hcl]
  subst hss;have hks:i*s+s<=xs.length*s:=by have:(i+1)*s<=xs.length*s:=Nat.mul_le_mul_right _ hi;rw[Nat.add_mul,Nat.one_mul]at this;exact this
  refine⟨b,off,c,rfl,.ro _ b (off+i*s) ((us.drop (i*s)).take s) hb (by rw[List.length_take,List.length_drop,hcl];omega) (λu hu=>h1 u (List.mem_of_mem_drop (List.mem_of_mem_take hu))) hlt (λj u hu=>?_) λj d v hd hv=>?_⟩
  ·rw[List.getElem?_take]at hu;split at hu
   ·rw[List.getElem?_drop]at hu;have:=hcell _ u hu
    rwa[Nat.add_assoc]
   ·cases hu
  ·rw[List.getElem?_take]at hv;split at hv
   ·rename_i hj;rw[List.getElem?_drop]at hv;exact hp _ d v (by rw[hcc j hj];exact hd) hv
   ·cases hv
theorem Di(hT:fC P T)(m:cV w0 X H β w)(hg:∀x,R w (Ex X β H) β H (g x) (a.eval x)){t:TypeId}{x i:Operand}(ho:o.op=.indexAddr t x i)
 (ht:∀e,(T t).k=.slice e\/(∃n,(T t).k=.arr n e)->(T e).k.isNone=false)(hok:(eM T H t (g x) (g i)).ok):iV P w0 X H β w a o (eM T H t (g x) (g i)):=by
 have hx:=hg x;have hi:=hg i;generalize g x=lx at*;generalize g i=li at*;generalize hval:a.eval x=vx at hx;generalize hvi:a.eval i=vi at hi;unfold eM at*;split at hok
 ·rename_i e xs k i' hk;simp only[iO.cond]at hok|-;obtain⟨h0,h1,h2⟩:=hok;have:=hi.int;subst this;have hu:=hT.slice hk;have hso:=bQ (P:=P) (w:=w) hT (ht e (.inl hk));cases hx with
  |d _ _ hx=>
   obtain⟨b,off,c,hv,hr⟩:=hx.sl_at (i:=i'.toNat) (by omega) h2;subst hv;refine iV.plain m ?_ (.d _ _ hr);simp[execOp,ho,Instr.indexAt,hval,hvi,asIntOf,run_underlying hu,hso,h0,h1,Addr.add_lit]
 ·rename_i e id k n kk i' hk;split at hok
  ·rename_i fz s xs hH;simp only[iO.cond]at hok|-;obtain⟨h0,h1,h2⟩:=hok;have:=hi.int;subst this;have hu:=hT.slice hk;have hso:=bQ (P:=P) (w:=w) hT (ht e (.inl hk));cases hx with
   |ow _ _ _ b c _ _ _ cur e' hH' hb=>
    rw[hH]at hH';injection hH' with _ e1 e2;subst e1;subst e2
    have hr:R w (Ex X β H) β H (.rp id (k+i'.toNat) 0) (.pointer (some ⟨b,k*s+i'.toNat*s,none⟩)):=by
     have:=R.rp (w:=w) (E:=Ex X β H) (β:=β) (H:=H) id (k+i'.toNat) 0 b fz s xs hH hb
     rwa[Nat.add_mul,Nat.add_zero]at this
    refine iV.plain m ?_ hr;simp[execOp,ho,Instr.indexAt,hval,hvi,asIntOf,run_underlying hu,hso,h0,h1,Addr.add_lit,h2]
   |ow0=>omega
   |owdead _ _ _ _ hd=>rw[hH]at hd;cases hd
  ·exact hok.elim
 ·rename_i e id k n c kk i' hk;split at hok
  ·rename_i fz s xs hH;simp only[iO.cond]at hok|-;obtain⟨h0,h1,h2⟩:=hok;have:=hi.int;subst this;have hu:=hT.slice hk;have hso:=bQ (P:=P) (w:=w) hT (ht e (.inl hk));cases hx with
   |oc _ _ _ _ p _ _ _ hH' hn hkc hc ha=>
    rw[hH]at hH';injection hH' with _ e1 e2;subst e1;subst e2
    rcases ha with ha|⟨b,hb,rfl⟩
    ·omega
    have hr:R w (Ex X β H) β H (.rp id (k+i'.toNat) 0) (.pointer (some ⟨b,k*s+i'.toNat*s,none⟩)):=by
     have:=R.rp (w:=w) (E:=Ex X β H) (β:=β) (H:=H) id (k+i'.toNat) 0 b fz s xs hH hb
     rwa[Nat.add_mul,Nat.add_zero]at this
    refine iV.plain m ?_ hr;simp[execOp,ho,Instr.indexAt,hval,hvi,asIntOf,run_underlying hu,hso,h0,h1,Addr.add_lit,h2]
   |ocdead _ _ _ _ _ hd=>rw[hH]at hd;cases hd
  ·exact hok.elim
 ·rename_i e id k n c kk i' hk;simp only[iO.cond]at hok|-;obtain⟨h0,h1,h2,h3⟩:=hok;have:=hi.int;subst this;have hu:=hT.slice hk;have hso:=bQ (P:=P) (w:=w) hT (ht e (.inl hk));cases hx with
  |sb _ _ _ _ p b fz cs hH hb hn hc ha=>
   obtain rfl:p=some ⟨b,k,none⟩:=ha.resolve_left (by omega);refine iV.plain m ?_ (.bx id (k+i'.toNat) b fz cs hH hb);simp[execOp,ho,Instr.indexAt,hval,hvi,asIntOf,run_underlying hu,hso,h0,h1,Addr.add_lit,h3]
  |sbdead _ _ _ _ _ hd=>rw[hd]at h2;exact absurd h2 (by simp[aV.live])
 ·rename_i n e id off kk i' hk;simp only[iO.cond]at hok|-;obtain⟨h0,h1,h2⟩:=hok;have:=hi.int;subst this;have hu:=hT.arr hk;have hso:=bQ (P:=P) (w:=w) hT (ht e (.inr ⟨n,hk⟩));cases hx with
  |bx _ _ b fz cs hH hb=>
   refine iV.plain m ?_ (.bx id _ b fz cs hH hb);simp[execOp,ho,Instr.indexAt,hval,hvi,asIntOf,run_underlying hu,hso,h0,h1,Addr.add_lit,Instr.sureAddr]
  |bxdead _ _ _ hd=>rw[hd]at h2;exact absurd h2 (by simp[aV.live])
 ·rename_i n e id k j kk i' hk;simp only[iO.cond]at hok|-;obtain⟨h0,h1,h2⟩:=hok;have:=hi.int;subst this;have hu:=hT.arr hk;have hso:=bQ (P:=P) (w:=w) hT (ht e (.inr ⟨n,hk⟩));cases hx with
  |rp _ _ _ b fz s xs hH hb=>
   have hr:R w (Ex X β H) β H (.rp id k (j+i'.toNat*(T e).size)) (.pointer (some ⟨b,k*s+j+i'.toNat*(T e).size,none⟩)):=by
    have:=R.rp (w:=w) (E:=Ex X β H) (β:=β) (H:=H) id k (j+i'.toNat*(T e).size) b fz s xs hH hb
    rwa[<-Nat.add_assoc]at this
   refine iV.plain m ?_ hr;simp[execOp,ho,Instr.indexAt,hval,hvi,asIntOf,run_underlying hu,hso,h0,h1,Addr.add_lit,Instr.sureAddr]
  |rpdead _ _ _ _ hd=>rw[hd]at h2;exact absurd h2 (by simp[aV.live])
 ·rename_i n e cs kk i' hk;simp only[iO.cond]at hok|-;obtain⟨h0,h1⟩:=hok;have:=hi.int;subst this;have hu:=hT.arr hk;have hso:=bQ (P:=P) (w:=w) hT (ht e (.inr ⟨n,hk⟩));cases hx with
  |d _ _ hx=>
   obtain⟨b,off,rfl⟩:=hx.ro_form;refine iV.plain m ?_ (.d _ _ (hx.ro_drop (k:=i'.toNat*(T e).size)));simp[execOp,ho,Instr.indexAt,hval,hvi,asIntOf,run_underlying hu,hso,h0,h1,Addr.add_lit,Instr.sureAddr]
 ·exact hok.elim
theorem Ky(hT:fC P T)(m:cV w0 X H β w)(hg:∀x,R w (Ex X β H) β H (g x) (a.eval x)){t:TypeId}{x i:Operand}(ho:o.op=.index t x i)
 (ht:∀e n,(T t).k=.arr n e->(T e).k.isNone=false)(hok:(fA T t (g x) (g i)).ok):iV P w0 X H β w a o (fA T t (g x) (g i)):=by
 have hx:=hg x;have hi:=hg i;generalize g x=lx at*;generalize g i=li at*;generalize hval:a.eval x=vx at hx;generalize hvi:a.eval i=vi at hi;unfold fA at*;split at hok
 ·rename_i s kk i' hk;simp only[iO.cond]at hok|-;obtain⟨h0,h1⟩:=hok;have:=hi.int;subst this;have:=hx.str;subst this;have hu:=hT.str hk;have hlt:i'.toNat<s.length:=by omega
  refine iV.plain m (v:=.int .u8 (s.getD i'.toNat 0).toNat) ?_ (bO _ _);have hb:(⟨s.toArray⟩:ByteArray)[i'.toNat]? =some (s.getD i'.toNat 0):=by
   have:i'.toNat<(⟨s.toArray⟩:ByteArray).size:=by simpa [ByteArray.size]using hlt
   rw[getElem?_pos (⟨s.toArray⟩:ByteArray) i'.toNat this];simp[List.getD_eq_getElem?_getD,hlt];rfl
  simp only[execOp,ho,Instr.index,hval,hvi,asIntOf,Sem.run_bind,Sem.run_pure,Result.andThen_ok,run_underlying hu,h0,if_true,hb]
 ·rename_i n e cs kk i' hk;simp only[iO.cond]at hok|-;obtain⟨h0,h1,h2,h3⟩:=hok;have:=hi.int;subst this;have hu:=hT.arr hk;have hte:=ht e n hk;have hso:=bQ (P:=P) (w:=w) hT hte;cases hx with
  |d _ _ hx=>cases hx with
   |agg _ vs hl h1' hp=>
    refine iV.plain m ?_ (.d _ _ (zU (us:=vs) (by omega) (λu hu _=>h1' u (List.mem_of_getElem? hu)) h2 h3 hp));have hrp:=Au (P:=P) (w:=w) hT hte (cs:=vs) (off:=i'.toNat*(T e).size) (by omega) h3;simp only[execOp,ho,Instr.index,hval,hvi,asIntOf,Sem.run_bind,Sem.run_pure,Result.andThen_ok,run_underlying hu,h0,h1,and_self,if_true,hso,hrp]
 ·exact hok.elim
theorem cJ{lo:Option Operand}{d:Int}{l:Int}(hg:∀x,R w (Ex X β H) β H (g x) (a.eval x))(h:eS d (lo.map g)=some l):
 (lo=none/\l=d)\/∃x k,lo=some x/\a.eval x=.int k l:=by
 cases lo with
 |none=>left;simp[eS]at h;exact⟨rfl,h.symm⟩
 |some x=>
  right;have hx:=hg x;simp only[Option.map_some]at h;unfold eS at h;split at h
  ·rename_i heq;cases heq
  ·rename_i k i heq;injection heq with heq
   injection h with h
   subst h;rw[heq]at hx;exact⟨x,_,rfl,hx.int⟩
  ·cases h
theorem mZ(isSlice:Bool)(len cap:Nat){lo hi:Option Operand}{l h:Int}(hl:(lo=none/\l=0)\/∃x k,lo=some x/\a.eval x=.int k l)(hh:(hi=none/\h=len)\/∃x k,hi=some x/\a.eval x=.int k h)
 (h0:0<=l)(h1:l<=h)(h2:h<=cap):(Instr.sliceBounds isSlice len cap (lo.map a.eval) (hi.map a.eval) none).run P w=.ok (l.toNat,h.toNat,cap) w:=by
 unfold Instr.sliceBounds;have b1:∀k c,(Instr.sliceBound (.int k h) cap c).run P w=.ok h.toNat w:=λk c=>run_sliceBound w k h cap c (by omega) h2;have b2:∀k c,(Instr.sliceBound (.int k l) h.toNat c).run P w=.ok l.toNat w:=λk c=>run_sliceBound w k l h.toNat c h0 (by omega);rcases hh with⟨rfl,rfl⟩|⟨x,k,rfl,hx⟩<;>rcases hl with⟨rfl,rfl⟩|⟨y,k',rfl,hy⟩
 ·simp
 ·simp at b2;simp[hy,b2]
 ·simp[hx,b1]
 ·simp[hx,hy,b1,b2]
theorem RD.sl_cut{xs:List DV}{a:Option Addr}{n c s l h:Nat}(hr:RD w E (.sl xs) (.slice a n c))(hs:∀x∈xs,(aK x).length=s)(hlh:l<=h)(hh:h<=xs.length):
 RD w E (.sl ((xs.take h).drop l)) (.slice (if c=l then a else a.map (·.add (l*s))) (h-l) (c-l)):=by
 have hlen:((xs.take h).drop l).length=h-l:=by simp;omega
 cases hr with
 |sl0 _ _ hc=>
  simp at hh;subst hh;have:l=0:=by omega
  subst this;simp;exact .sl0 _ _ hc
 |sl _ b off _ size us hx hb hall hlen' hc hul h1 hlt hcell hp=>
  rcases Nat.eq_zero_or_pos (h-l)with hz|hz
  ·have:(xs.take h).drop l=[]:=List.eq_nil_of_length_eq_zero (by omega);rw[this,hz];exact .sl0 _ _ (by omega)
  ·have hss:s=size:=by
    have h3:=hs (xs[0]'(by omega)) (List.getElem_mem _);have h4:=hall (xs[0]'(by omega)) (List.getElem_mem _);omega
   subst hss;have e1:l*s+(h-l)*s=h*s:=by rw[<-Nat.add_mul];congr 1;omega
   have e2:h*s<=xs.length*s:=Nat.mul_le_mul_right _ hh;have hall':∀x∈(xs.take h).drop l,(aK x).length=s:=λx hx=>hall x (List.mem_of_mem_take (List.mem_of_mem_drop hx));rw[if_neg (by omega)];simp only[Option.map_some,Addr.add_lit];have hfin:=RD.sl (w:=w) (E:=E) ((xs.take h).drop l) b (off+l*s) (c-l) s ((us.take (h*s)).drop (l*s)) (by intro hh;rw[hh]at hlen;simp at hlen;omega) hb hall' (by omega) (by omega)
    (by rw[hlen,List.length_drop,List.length_take];omega) (λu hu=>h1 u (List.mem_of_mem_take (List.mem_of_mem_drop hu))) hlt (λj u hu=>?_) (λi d v hd hv=>?_)
   ·rw[hlen]at hfin;exact hfin
   ·rw[List.getElem?_drop,List.getElem?_take]at hu;split at hu
    ·have:=hcell _ u hu;rwa[Nat.add_assoc]
    ·cases hu
   ·rw[tJ (λx hx=>hall x (List.mem_of_mem_take hx)),iA hall,List.getElem?_drop,List.getElem?_take]at hd;rw[List.getElem?_drop,List.getElem?_take]at hv;split at hd
    ·rename_i hi;rw[if_pos hi]at hv;exact hp _ d v hd hv
    ·cases hd
theorem kT(hT:fC P T){t e:TypeId}(hk:(T t).k=.slice e)(he:(T e).k.isNone=false){b:Option Addr}{n c:Nat}{lo hi:Option Operand}{l h:Int}
 (hl:(lo=none/\l=0)\/∃x k,lo=some x/\a.eval x=.int k l)(hh:(hi=none/\h=n)\/∃x k,hi=some x/\a.eval x=.int k h)(h0:0<=l)(h1:l<=h)(h2:h<=c):
 (Instr.sliceAt t (.slice b n c) (lo.map a.eval) (hi.map a.eval) none).run P w=.ok (.slice (if c=l.toNat then b else b.map (·.add (l.toNat*(T e).size))) (h.toNat-l.toNat) (c-l.toNat)) w:=by
 have hu:=hT.slice hk;have hso:=bQ (P:=P) (w:=w) hT he;have hb:=mZ (P:=P) (w:=w) (a:=a) true n c hl hh h0 h1 h2;simp only[Instr.sliceAt,Instr.slice,Sem.run_bind,run_underlying hu,Result.andThen_ok,hb,hso,Sem.run_pure]
theorem Gh(hT:fC P T){t e:TypeId}(hk:(T t).k=.slice e)(he:(T e).k.isNone=false){b:Option Addr}{n c:Nat}{lo hi:Option Operand}{mx:Operand}{l h m:Int}{km:IntKind}
 (hl:(lo=none/\l=0)\/∃x k,lo=some x/\a.eval x=.int k l)(hh:(hi=none/\h=n)\/∃x k,hi=some x/\a.eval x=.int k h)(hm:a.eval mx=.int km m)(h0:l=0/\h=0/\m=0):
 ∃b',(Instr.sliceAt t (.slice b n c) (lo.map a.eval) (hi.map a.eval) ((some mx).map a.eval)).run P w=.ok (.slice b' 0 0) w\/(hi=none):=by
 have hu:=hT.slice hk;have hso:=bQ (P:=P) (w:=w) hT he;obtain⟨rfl,rfl,rfl⟩:=h0;rcases hh with⟨rfl,hh⟩|⟨x,k,rfl,hx⟩
 ·exact⟨none,.inr rfl⟩
 ·have b1:∀k y c,(Instr.sliceBound (.int k 0) y c).run P w=.ok 0 w:=λk y c=>run_sliceBound w k 0 y c (Int.le_refl _) (by omega);refine⟨b,.inl ?_⟩;rcases hl with⟨rfl,_⟩|⟨y,k',rfl,hy⟩
  ·simp[Instr.sliceAt,Instr.slice,Instr.sliceBounds,run_underlying hu,hx,hm,b1,hso]
  ·simp[Instr.sliceAt,Instr.slice,Instr.sliceBounds,run_underlying hu,hx,hm,hy,b1,hso]
theorem Av:∀(n s:Nat) (cs:List DV),(jT n s cs).length=n
 |0,_,_=>rfl
 |n+1,s,cs=>by simp[jT,Av n s]
theorem yM{s:Nat}:∀{n:Nat} {cs:List DV},n*s<=cs.length->bB (jT n s cs)=cs.take (n*s)
 |0,_,_=>by simp[jT,bB]
 |n+1,cs,h=>by
  have e:(n+1)*s=s+n*s:=by rw[Nat.add_mul];omega
  have ih:=yM (s:=s) (n:=n) (cs:=cs.drop s) (by rw[List.length_drop];omega);unfold bB at ih|-;rw[jT,List.flatMap_cons,ih,e,List.take_add];rfl
theorem yN{s:Nat}:∀{n:Nat} {cs:List DV},n*s<=cs.length->∀x∈jT n s cs,(aK x).length=s
 |0,_,_=>by simp[jT]
 |n+1,cs,h=>by
  have e:(n+1)*s=s+n*s:=by rw[Nat.add_mul];omega
  intro x hx;rw[jT]at hx;rcases List.mem_cons.1 hx with rfl|hx
  ·show(cs.take s).length=s;rw[List.length_take];omega
  ·exact yN (cs:=cs.drop s) (by rw[List.length_drop];omega) x hx
theorem Ng{E:Nat->Prop}{x d:DV}{v:Value}(h:RD w E x v)(hv:v.oneCell'=true)(hc:aK x=[d]):RD w E d v:=by
 cases x with
 |agg cs=>cases h;simp[Value.oneCell']at hv
 |_=>simp only[aK,List.cons.injEq,and_true]at hc;subst hc;exact h
theorem Kz{l:List DV}(h:∀x∈l,(aK x).length=1):∀{i:Nat} {d:DV},(bB l)[i]? =some d->∃x,l[i]? =some x/\aK x=[d]:=by
 induction l with
 |nil=>intro i d hd;simp[bB]at hd
 |cons x r ih=>
  intro i d hd;have hx:=h x (List.mem_cons_self ..);obtain⟨c,hc⟩:=List.length_eq_one_iff.1 hx;rw[bB,List.flatMap_cons,hc]at hd;cases i with
  |zero=>simp at hd;subst hd;exact⟨x,rfl,hc⟩
  |succ i=>
   simp at hd;exact ih (λy hy=>h y (List.mem_cons_of_mem _ hy)) hd
theorem KA(hT:fC P T)(m:cV w0 X H β w)(hg:∀x,R w (Ex X β H) β H (g x) (a.eval x)){t:TypeId}{x:Operand}{lo hi mx:Option Operand}(ho:o.op=.slice t x lo hi mx)
 (ht:∀e,(T t).k=.slice e->(T e).k.isNone=false)(hmx:mx.isSome=true->hi.isSome=true)(hok:(jF T H t (g x) (lo.map g) (hi.map g) (mx.map g)).ok):iV P w0 X H β w a o (jF T H t (g x) (lo.map g) (hi.map g) (mx.map g)):=by
 have hx:=hg x;generalize g x=lx at*;generalize hval:a.eval x=vx at hx;have three:∀{e:TypeId} {b:Option Addr} {n c:Nat} {l h m':Int} {k:IntKind},(T t).k=.slice e->vx=.slice b n c->eS 0 (lo.map g)=some l->eS n (hi.map g)=some h->mx.map g=some (.d (.int k m'))->(l=0/\h=0/\m'=0)->
  iV P w0 X H β w a o ⟨.nl,l=0/\h=0/\m'=0,[]⟩:=by
  intro e b n c l h m' k hk hv h1 h2 h3 h4;obtain⟨mm,hmm,hgm⟩:=Option.map_eq_some_iff.1 h3;have hvm:=hg mm;rw[hgm]at hvm;obtain⟨b',hr|hr⟩:=Gh (P:=P) (w:=w) (a:=a) (b:=b) (n:=n) (c:=c) hT hk (ht e hk) (cJ hg h1) (cJ hg h2) hvm.int h4
  ·refine iV.plain m (v:=.slice b' 0 0) ?_ (.nl _);rw[hmm]at ho;simp only[execOp,ho,hval,hv,Sem.run_bind,hr,Result.andThen_ok,Sem.run_pure]
  ·have:=hmx (by rw[hmm];rfl);rw[hr]at this;cases this
 unfold jF at*;split at hok
 ·rename_i s hk;split at hok
  ·rename_i l h e1 e2 e3;simp only[iO.cond]at hok|-;obtain⟨h0,h1,h2⟩:=hok;have:=hx.str;subst this;have hu:=hT.str hk;have hmx':mx=none:=by simpa using e3
   have hb:=mZ (P:=P) (w:=w) (a:=a) false s.length s.length (cJ hg e1) (cJ hg e2) h0 h1 h2;refine iV.plain m (v:=.string ⟨((s.take h.toNat).drop l.toNat).toArray⟩) ?_ (zT _);have hsz:(⟨s.toArray⟩:ByteArray).size=s.length:=by simp[ByteArray.size]
   have hex:(⟨s.toArray⟩:ByteArray).extract l.toNat h.toNat=⟨((s.take h.toNat).drop l.toNat).toArray⟩:=by
    apply ByteArray.ext;simp[ByteArray.data_extract,List.drop_take]
   simp[execOp,ho,hval,hmx',Instr.sliceAt,Instr.slice,run_underlying hu,hsz,hb,hex]
  ·exact hok.elim
 ·rename_i e xs hk;split at hok
  ·rename_i l h e1 e2 e3;simp only[iO.cond]at hok|-;obtain⟨h0,h1,h2,h3⟩:=hok;have hmx':mx=none:=by simpa using e3
   subst hmx';cases hx with
   |d _ _ hx=>
    have hform:∃b c,vx=.slice b xs.length c/\xs.length<=c:=by cases hx with
     |sl0 a c hc=>exact⟨a,c,rfl,Nat.zero_le _⟩
     |sl _ b off c _ _ _ _ _ hlen=>exact⟨_,c,rfl,hlen⟩
    obtain⟨b,c,rfl,hlc⟩:=hform;have hr:=kT (P:=P) (w:=w) (a:=a) (b:=b) (n:=xs.length) (c:=c) hT hk (ht e hk) (cJ hg e1) (cJ hg e2) h0 h1 (by omega);refine iV.plain m ?_ (.d _ _ (hx.sl_cut h3 (l:=l.toNat) (h:=h.toNat) (by omega) (by omega)));simp only[execOp,ho,hval,Option.map_none,Sem.run_bind,hr,Result.andThen_ok,Sem.run_pure]
  ·rename_i l h k m' e1 e2 e3;simp only[iO.cond]at hok|-;cases hx with
   |d _ _ hx=>
    have hform:∃b c,vx=.slice b xs.length c:=by cases hx with
     |sl0 a c hc=>exact⟨a,c,rfl⟩
     |sl _ b off c _ _ _ _ _ hlen=>exact⟨_,c,rfl⟩
    obtain⟨b,c,rfl⟩:=hform;exact three hk rfl e1 e2 e3 hok
  ·exact hok.elim
 ·rename_i e id k n hk;split at hok
  ·rename_i fz s xs hH;split at hok
   ·rename_i l h e1 e2 e3;simp only[iO.cond]at hok|-;obtain⟨h0,h1,h2,h3⟩:=hok;have hmx':mx=none:=by simpa using e3
    subst hmx';have hob:=m.obj id;simp only[cP,hH]at hob;obtain⟨hpos,hall,hob⟩:=hob;cases hx with
    |ow _ _ _ b c _ _ _ cur e' hH' hb hkn hn hc hblk hroom=>
     rw[hH]at hH';injection hH' with _ q1 q2;subst q1;subst q2
     have hcap:xs.length<=k+c:=by
      rcases hob with⟨hnone,_⟩|⟨b',e'',cur',hb',hblk',hlen',_⟩
      ·rw[hnone]at hb;cases hb
      ·rw[hb]at hb';injection hb' with hb';subst hb'
       rw[hblk]at hblk';injection hblk' with hblk';injection hblk' with p1 p2;subst p1
       rw[<-hroom]at hlen';exact Nat.le_of_mul_le_mul_right hlen' hpos
     have hr:=kT (P:=P) (w:=w) (a:=a) (b:=some ⟨b,k*s,none⟩) (n:=n) (c:=c) hT hk (ht e hk) (cJ hg e1) (cJ hg e2) h0 h1 (by omega);have hrR:R w (Ex X β H) β H (.ow id (k+l.toNat) (h-l).toNat) (.slice (if c=l.toNat then some ⟨b,k*s,none⟩else(some (⟨b,k*s,none⟩:Addr)).map (·.add (l.toNat*(T e).size))) (h.toNat-l.toNat) (c-l.toNat)):=by
      have ehl:(h-l).toNat=h.toNat-l.toNat:=(by omega);by_cases hcl:c=l.toNat
      ·rw[if_pos hcl,ehl];have e1:h.toNat-l.toNat=0:=by omega
       have e2:c-l.toNat=0:=(by omega);rw[e1,e2];refine .ow0 id _ _ fz s xs hH (.inr ⟨b,cur,e',hb,hblk,?_,by omega⟩);rw[<-hroom,hcl]
      ·rw[if_neg hcl,ehl];simp only[Option.map_some,Addr.add_lit];rw[<-h3,<-Nat.add_mul];refine .ow id (k+l.toNat) _ b _ fz s xs cur e' hH hb (by omega) (by omega) (by omega) hblk ?_;have:k+l.toNat+(c-l.toNat)=k+c:=by omega
       rw[this];exact hroom
     refine iV.plain m ?_ hrR;simp only[execOp,ho,hval,Option.map_none,Sem.run_bind,hr,Result.andThen_ok,Sem.run_pure]
    |ow0 _ _ b _ _ _ hH' hk'=>
     rw[hH]at hH';injection hH' with _ q1 q2;subst q1;subst q2
     have hcap:xs.length<=k:=by
      rcases hob with⟨hnone,he⟩|⟨b',e'',cur',hb',hblk',hlen',_⟩
      ·rw[he];exact Nat.zero_le _
      ·rcases hk' with⟨h1,_⟩|⟨b2,cur2,e2,h1,h2,h3,_⟩
       ·rw[h1]at hb';cases hb'
       ·rw[h1]at hb';injection hb' with hb';subst hb'
        rw[h2]at hblk';injection hblk' with hblk';injection hblk' with p1 p2;subst p1
        rw[<-h3]at hlen';exact Nat.le_of_mul_le_mul_right hlen' hpos
     have hr0:=R.ow0 (w:=w) (E:=Ex X β H) (β:=β) (H:=H) id k b fz s xs hH hk';clear hk';have hr:=kT (P:=P) (w:=w) (a:=a) (b:=b) (n:=0) (c:=0) hT hk (ht e hk) (cJ hg e1) (cJ hg e2) h0 h1 (by omega);refine iV.plain m (v:=.slice (if 0=l.toNat then b else b.map (·.add (l.toNat*(T e).size))) (h.toNat-l.toNat) (0-l.toNat)) (by simp only[execOp,ho,hval,Option.map_none,Sem.run_bind,hr,Result.andThen_ok,Sem.run_pure]) ?_;have e1:h.toNat-l.toNat=0:=by omega
     have e2:(h-l).toNat=0:=(by omega);rw[e1,e2,Nat.zero_sub];have e3:k+l.toNat=k:=by omega
     have e4:l.toNat=0:=(by omega);rw[e3,e4,if_pos rfl];exact hr0
    |owdead _ _ _ _ hd=>rw[hH]at hd;cases hd
   ·rename_i l h kk m' e1 e2 e3;simp only[iO.cond]at hok|-;cases hx with
    |ow _ _ _ b c=>exact three hk rfl e1 e2 e3 hok
    |ow0 _ _ b=>exact three hk rfl e1 e2 e3 hok
    |owdead _ _ _ _ hd=>rw[hH]at hd;cases hd
   ·exact hok.elim
  ·exact hok.elim
 ·rename_i e hk;split at hok
  ·rename_i l h e1 e2 e3;simp only[iO.cond]at hok|-;obtain⟨rfl,rfl⟩:=hok;have hmx':mx=none:=by simpa using e3
   subst hmx';cases hx with
   |nl b=>
    have hr:=kT (P:=P) (w:=w) (a:=a) (b:=b) (n:=0) (c:=0) hT hk (ht e hk) (cJ hg e1) (cJ hg e2) (Int.le_refl _) (Int.le_refl _) (Int.le_refl _);refine iV.plain m (v:=.slice b 0 0) ?_ (.nl _);simp only[execOp,ho,hval,Option.map_none,Sem.run_bind,hr,Result.andThen_ok,Sem.run_pure];simp
  ·exact hok.elim
 ·rename_i e id k n c hk;split at hok
  ·rename_i fz s xs hH;split at hok
   ·rename_i l h e1 e2 e3;simp only[iO.cond]at hok|-;obtain⟨h0,h1,h2,h3⟩:=hok;have hmx':mx=none:=by simpa using e3
    subst hmx';cases hx with
    |oc _ _ _ _ p _ _ _ hH' hn hkc hc ha=>
     rw[hH]at hH';injection hH' with _ q1 q2;subst q1;subst q2
     have hr:=kT (P:=P) (w:=w) (a:=a) (b:=p) (n:=n) (c:=c) hT hk (ht e hk) (cJ hg e1) (cJ hg e2) h0 h1 (by omega);have hR:R w (Ex X β H) β H (.oc id (k+l.toNat) (h-l).toNat (c-l.toNat)) (.slice (if c=l.toNat then p else p.map (·.add (l.toNat*(T e).size))) (h-l).toNat (c-l.toNat)):=by
      refine .oc id (k+l.toNat) (h-l).toNat (c-l.toNat) _ fz s xs hH (by omega) (by omega) (by omega) ?_;by_cases hcl:c=l.toNat
      ·left;omega
      ·right;rcases ha with ha|⟨b,hb,rfl⟩
       ·omega
       ·exact⟨b,hb,by rw[if_neg hcl];simp only[Option.map_some,Addr.add_lit];rw[<-h3,<-Nat.add_mul]⟩
     refine iV.plain m ?_ hR;have:(h-l).toNat=h.toNat-l.toNat:=by omega
     rw[this];simp only[execOp,ho,hval,Option.map_none,Sem.run_bind,hr,Result.andThen_ok,Sem.run_pure]
    |ocdead _ _ _ _ _ hd=>rw[hH]at hd;cases hd
   ·exact hok.elim
  ·exact hok.elim
 ·rename_i e id k n c hk;split at hok
  ·rename_i l h e1 e2 e3;simp only[iO.cond]at hok|-;obtain⟨h0,h1,h2,h3,h4⟩:=hok;have hmx':mx=none:=by simpa using e3
   subst hmx';cases hx with
   |sb _ _ _ _ p b fz cs hH hb hn hc ha=>
    have hr:=kT (P:=P) (w:=w) (a:=a) (b:=p) (n:=n) (c:=c) hT hk (ht e hk) (cJ hg e1) (cJ hg e2) h0 h1 (by omega);have hR:R w (Ex X β H) β H (.sb id (k+l.toNat) (h-l).toNat (c-l.toNat)) (.slice (if c=l.toNat then p else p.map (·.add (l.toNat*(T e).size))) (h-l).toNat (c-l.toNat)):=by
     refine .sb id (k+l.toNat) (h-l).toNat (c-l.toNat) _ b fz cs hH hb (by omega) (by omega) ?_;by_cases hcl:c=l.toNat
     ·left;omega
     ·right;rcases ha with ha|rfl
      ·omega
      ·rw[if_neg hcl];simp only[Option.map_some,Addr.add_lit,h4,Nat.mul_one]
    refine iV.plain m ?_ hR;have:(h-l).toNat=h.toNat-l.toNat:=by omega
    rw[this];simp only[execOp,ho,hval,Option.map_none,Sem.run_bind,hr,Result.andThen_ok,Sem.run_pure]
   |sbdead _ _ _ _ _ hd=>rw[hd]at h3;exact absurd h3 (by simp[aV.live])
  ·exact hok.elim
 ·rename_i n e id off hk;split at hok
  ·rename_i l h e1 e2 e3;simp only[iO.cond]at hok|-;obtain⟨h0,h1,h2,h3,h4,h5,h6⟩:=hok;have hmx':mx=none:=by simpa using e3
   subst hmx';cases hx with
   |bx _ _ b fz cs hH hb=>
    have hu:=hT.arr hk;have hso:=bQ (P:=P) (w:=w) hT h6;have hsb:=mZ (P:=P) (w:=w) (a:=a) false n n (cJ hg e1) (cJ hg e2) h0 h1 h2;have hR:R w (Ex X β H) β H (.sb id (off+l.toNat) (h-l).toNat (n-l.toNat)) (.slice (some (if n=l.toNat then⟨b,off,none⟩else(⟨b,off,none⟩:Addr).add (l.toNat*(T e).size))) (h.toNat-l.toNat) (n-l.toNat)):=by
     have:(h-l).toNat=h.toNat-l.toNat:=(by omega);rw[<-this];refine .sb id _ _ _ _ b fz cs hH hb (by omega) (Nat.le_trans (Nat.sub_le _ _) (Nat.le_trans h3 (by decide))) ?_;by_cases hcl:n=l.toNat
     ·left;omega
     ·right;rw[if_neg hcl];simp only[Addr.add_lit,h5,Nat.mul_one]
    refine iV.plain m ?_ hR;simp[execOp,ho,hval,Instr.sliceAt,run_underlying hu,Instr.sureAddr,hsb,hso]
   |bxdead _ _ _ hd=>rw[hd]at h4;exact absurd h4 (by simp[aV.live])
  ·exact hok.elim
 ·rename_i n e cs hk;have one:∀{h:Int},(hi=none/\h=n\/∃x k,hi=some x/\a.eval x=.int k h)->lo=none->mx=none->0<h->h<=n->n<=1000->(T e).size=1->n<=cs.length->(T e).k.isNone=false->(∀x∈cs.take n,(aK x).length=1)->∀c,
   iV P w0 X H β w a o ⟨.d (.sl (cs.take h.toNat)),c,[]⟩:=by
   intro h hh hlo hmx' h0 h1 h2 h3 h4 h5 h6 c;subst hlo;subst hmx';cases hx with
   |d _ _ hx=>
    cases hx with
    |ro _ b off us hb hul hu1 hlt hcell hp=>
     have hu:=hT.arr hk;have hso:=bQ (P:=P) (w:=w) hT h5;have hsb:=mZ (P:=P) (w:=w) (a:=a) false n n (lo:=none) (l:=0) (.inl ⟨rfl,rfl⟩) hh (by omega) (by omega) (by omega);have hn0:n≠0:=by omega
     obtain⟨H0,hH0⟩:∃H0:Nat,h=H0:=⟨h.toNat,by omega⟩;subst hH0;refine iV.plain m (v:=.slice (some ⟨b,off,none⟩) H0 n) ?_ (.d _ _ ?_)
     ·simp only[Option.map_none]at hsb;simp[execOp,ho,hval,Instr.sliceAt,run_underlying hu,Instr.sureAddr,hsb,hso,hn0,Addr.add_lit]
     ·have hfl:∀l:List DV,(∀x∈l,(aK x).length=1)->bB l=l.flatMap aK:=λl _=>rfl;have hcs:∀x∈cs.take H0,(aK x).length=1:=λx hx'=>h6 x (by
       have:cs.take H0=(cs.take n).take H0:=by rw[List.take_take,Nat.min_eq_left (by omega)]
       rw[this]at hx';exact List.mem_of_mem_take hx')
      have hlen:(cs.take H0).length=H0:=(by rw[List.length_take];omega);simp only[Int.toNat_natCast];have hfin:=RD.sl (w:=w) (E:=Ex X β H) (cs.take H0) b off n 1 (us.take H0) (by intro q;rw[q]at hlen;simp at hlen;omega) hb hcs (by rw[hlen];omega) (Nat.le_trans h2 (by decide))
       (by rw[hlen,List.length_take];omega) (λu hu=>hu1 u (List.mem_of_mem_take hu)) hlt (λj u hj=>?_) (λi d v hd hv=>?_)
      ·rw[hlen]at hfin;exact hfin
      ·rw[List.getElem?_take]at hj;split at hj
       ·exact hcell j u hj
       ·cases hj
      ·rw[List.getElem?_take]at hv;split at hv
       ·rename_i hi';have hci:i<(cs.take H0).length:=by omega
        obtain⟨dd,hdd,hdq⟩:=Kz hcs hd;rw[List.getElem?_take,if_pos hi']at hdd;exact Ng (hp i dd v hdd hv) (hu1 v (List.mem_of_getElem? hv)) hdq
       ·cases hv
  split at hok
  ·rename_i e1 e2 e3;by_cases hag:(T e).k.agg=true
   ·rw[if_pos hag]at hok|-;simp only[iO.cond]at hok|-;obtain⟨h0,h1,h2,h3,h4⟩:=hok;have hlo:lo=none:=by simpa using e1
    have hhi:hi=none:=by simpa using e2
    have hmx':mx=none:=by simpa using e3
    subst hlo;subst hhi;subst hmx';cases hx with
    |d _ _ hx=>
     cases hx with
     |ro _ b off us hb hul hu1 hlt hcell hp=>
      have hu:=hT.arr hk;have hso:=bQ (P:=P) (w:=w) hT h4;have hsb:=mZ (P:=P) (w:=w) (a:=a) false n n (lo:=none) (hi:=none) (l:=0) (h:=n) (.inl ⟨rfl,rfl⟩) (.inl ⟨rfl,rfl⟩) (by omega) (by omega) (by omega);have hn0:n≠0:=by omega
      refine iV.plain m (v:=.slice (some ⟨b,off,none⟩) n n) ?_ (.d _ _ ?_)
      ·simp only[Option.map_none]at hsb;simp[execOp,ho,hval,Instr.sliceAt,run_underlying hu,Instr.sureAddr,hsb,hso,hn0,Addr.add_lit]
      ·have hcl:=Av n (T e).size cs;have hfl:=yM h3;have hfin:=RD.sl (w:=w) (E:=Ex X β H) (jT n (T e).size cs) b off n (T e).size (us.take (n*(T e).size)) (by intro q;rw[q]at hcl;simp at hcl;omega) hb (yN h3) (by omega) (Nat.le_trans h1 (by decide))
        (by rw[hcl,List.length_take];omega) (λu hu=>hu1 u (List.mem_of_mem_take hu)) hlt (λj u hj=>?_) (λi d v hd hv=>?_)
       ·rw[hcl]at hfin;exact hfin
       ·rw[List.getElem?_take]at hj;split at hj
        ·exact hcell j u hj
        ·cases hj
       ·rw[hfl,List.getElem?_take]at hd;rw[List.getElem?_take]at hv;split at hd
        ·rename_i hi;rw[if_pos hi]at hv;exact hp i d v hd hv
        ·cases hd
   ·rw[if_neg hag]at hok|-;simp only[iO.cond]at hok|-;obtain⟨h0,h1,h2,h3,h4,h5⟩:=hok;have:=one (h:=(n:Int)) (.inl ⟨by simpa using e2,rfl⟩) (by simpa using e1) (by simpa using e3) (by omega) (by omega) h1 h2 h3 h4 h5 (0<n/\n<=1000/\(T e).size=1/\n<=cs.length/\(T e).k.isNone=false/\∀x∈cs.take n,(aK x).length=1);simpa only[Int.toNat_natCast]using this
  ·rename_i k h e1 e2 e3;by_cases hag:(T e).k.agg=true
   ·rw[if_pos hag]at hok;exact hok.elim
   ·rw[if_neg hag]at hok|-;simp only[iO.cond]at hok|-;obtain⟨h0,h1,h2,h3,h4,h5,h6⟩:=hok;obtain⟨hm,hhm,hgm⟩:=Option.map_eq_some_iff.1 e2;have hvm:=hg hm;rw[hgm]at hvm;exact one (h:=h) (.inr ⟨hm,k,hhm,hvm.int⟩) (by simpa using e1) (by simpa using e3) h0 h1 h2 h3 h4 h5 h6 _
  ·exact hok.elim
 ·exact hok.elim
end
end
section
open Go.RowKit
section
variable{P:Program} {T:TypeId->eC} {w0:cX} {X:Nat->Prop} {H:Nat->aV} {β:Nat->Option Nat} {w:World} {a:Act} {o:Oper} {g:Operand->LV} {E:Nat->Prop}
theorem Iy(new:List Value):∀(j off:Nat) (cs:Array Value),off+j+new.length<=cs.size->
 (new.zipIdx j).foldl (λcs p=>cs.setIfInBounds (off+p.2) p.1) cs=(aQ (off+j) cs.toList new).toArray:=by
 induction new with
 |nil=>intro j off cs h;simp[aQ]
 |cons v t ih=>
  intro j off cs h;simp only[List.length_cons]at h;simp only[List.zipIdx_cons,List.foldl_cons];rw[ih (j+1) off _ (by simp;omega)];congr 1;apply List.ext_getElem?;intro i;have hl:cs.toList.length=cs.size:=by simp
  have hl2:(cs.setIfInBounds (off+j) v).toList.length=cs.size:=by simp
  have q1:=eT (off:=off+(j+1)) (cs:=(cs.setIfInBounds (off+j) v).toList) (new:=t) (by rw[hl2];omega) i;have q2:=eT (off:=off+j) (cs:=cs.toList) (new:=v::t) (by rw[hl];simp;omega) i;rw[q1,q2];simp only[List.length_cons,Array.getElem?_toList];by_cases h1:i<off+j
  ·rw[if_pos (by omega),if_pos h1,Array.getElem?_setIfInBounds_ne (by omega)]
  ·rw[if_neg h1];by_cases h2:i=off+j
   ·subst h2;rw[if_pos (by omega),if_pos (by omega)];simp[show off+j<cs.size by omega]
   ·rw[if_neg (by omega)];by_cases h3:i<off+j+(t.length+1)
    ·rw[if_pos (by omega),if_pos h3];rw[show i-(off+j)=(i-(off+(j+1)))+1 by omega];simp
    ·rw[if_neg (by omega),if_neg h3,Array.getElem?_setIfInBounds_ne (by omega)]
theorem Ck{place:Nat->Option (Nat×Nat)}{cells:Array Value}{i:Nat}{v:Value}{rest:List (Nat×Value)}{off size:Nat}(hp:place i=some (off,size))(hv:v.cells.toList.length=size)(hf:off+size<=cells.size):
 Instr.fill place cells ((i,v)::rest)=Instr.fill place (aQ off cells.toList v.cells.toList).toArray rest:=by
 have hs:v.cells.size=size:=by simpa using hv
 simp only[Instr.fill,hp];rw[if_neg (by simp[hs];omega)];congr 1;have:=Iy v.cells.toList 0 off cells (by omega);simp only[Nat.add_zero]at this;rw[<-this,<-Array.foldl_toList];simp
theorem yO(hT:fC P T){fs:List (Nat×TypeId)}(hsz:∀p∈fs,(T p.2).k.isNone=false):∀(ps:List (Nat×Operand)) (cs res:List LV) (us:List Value),
 Al fs T cs (ps.map λp=>(p.1,g p.2))=some res->(∀p∈ps,gO H (g p.2)=true)->(∀x,R w E β H (g x) (a.eval x))->
 us.length=cs.length->(∀u∈us,u.oneCell'=true)->(∀(i:Nat) (c:LV) (v:Value),cs[i]? =some c->us[i]? =some v->R w E β H c v)->
 ∃vs,Instr.fill (λi=>(fs[i]?).map λp=>(p.1,(T p.2).size)) us.toArray (ps.map λp=>(p.1,a.eval p.2))=some (List.toArray vs)/\vs.length=res.length/\(∀u∈vs,u.oneCell'=true)/\
  ∀(i:Nat) (c:LV) (v:Value),res[i]? =some c->vs[i]? =some v->R w E β H c v:=by
 intro ps;induction ps with
 |nil=>
  intro cs res us h _ _ hl h1 hp;simp[Al]at h;subst h;exact⟨us,by simp[Instr.fill],hl,h1,hp⟩
 |cons p ps ih=>
  intro cs res us h hs hg hl h1 hp;simp only[List.map_cons,Al]at h;split at h
  ·cases h
  ·rename_i off ty hf;split at h
   ·rename_i hc;obtain⟨hc1,hc2⟩:=hc;have hsp:=hs p (by simp);obtain⟨q1,q2⟩:=(hg p.2).cells hsp;have q3:=(hg p.2).cells1 hsp;obtain⟨vs,r1,r2⟩:=ih _ res (aQ off us (a.eval p.2).cells.toList) h (λq hq=>hs q (by simp[hq])) hg (by rw[dI (by omega),dI (by omega)];exact hl) (vQ h1 q3) (At hl q1 (by omega) hp q2);refine⟨vs,?_,r2⟩;simp only[List.map_cons];rw[Ck (off:=off) (size:=(T ty).size) (by simp[hf]) (by omega) (by rw[List.size_toArray];omega)];exact r1
   ·cases h
theorem Cl{place place':Nat->Option (Nat×Nat)}(hp:∀i q,place i=some q->place' i=some q):∀{ps:List (Nat×Value)} {cells res:Array Value},Instr.fill place cells ps=some res->Instr.fill place' cells ps=some res
 |[],_,_,h=>h
 |(i,v)::r,cells,res,h=>by
  simp only[Instr.fill]at h|-;cases q:place i with
  |none=>rw[q]at h;cases h
  |some p=>
   obtain⟨off,size⟩:=p;rw[q]at h;rw[hp i _ q];simp only at h|-;split at h
   ·cases h
   ·rename_i hc;rw[if_neg hc];exact Cl hp h
theorem KB(hT:fC P T)(m:cV w0 X H β w)(hg:∀x,R w (Ex X β H) β H (g x) (a.eval x)){t:TypeId}{ps:Array (Nat×Operand)}(ho:o.op=.build t ps)
 (ht:∀fs,(T t).k=.struct fs->∀p∈fs,(T p.2).k.isNone=false)(hta:∀n e,(T t).k=.arr n e->(T e).k.isNone=false)(hok:(oZ T H t (ps.toList.map λp=>(p.1,g p.2))).ok):iV P w0 X H β w a o (oZ T H t (ps.toList.map λp=>(p.1,g p.2))):=by
 unfold oZ at*;split at hok
 ·rename_i fs hk;obtain⟨fa,hu,hm⟩:=hT.struct hk;split at hok
  ·rename_i res hres;simp only[iO.cond]at hok|-;obtain⟨inf,d,z,h1,h2,h3,h4,h5,h6,h7⟩:=hT.parts (t:=t) (by rw[hk];rfl);have hone:=(hT t (by rw[hk];rfl)).one;obtain⟨vs,r1,r2,r3,r4⟩:=yO (P:=P) (H:=H) (w:=w) (E:=Ex X β H) (β:=β) hT (ht fs hk) ps.toList _ res (T t).zero hres (λp hp=>hok _ (List.mem_map.2 ⟨p,hp,rfl⟩)) hg (by simp) hone
    (λi c v hc hv=>by simp[hv]at hc;subst hc;exact R.const v)
   refine iV.plain m (v:=.agg vs.toArray) ?_ (R.mkAgg r2 r3 r4);have hzc:z.cells=(T t).zero.toArray:=by rw[<-h7]
   have hplaces:∀w:World,(fa.mapM λf=>(do pure (f.offset,<-sizeOf f.type):Sem (Nat×Nat))).run P w=.ok (fa.map λf=>(f.offset,(T f.type).size)) w:=by
    intro w;have hall:∀f∈fa.toList,(T f.type).k.isNone=false:=λf hf=>ht fs hk (f.offset,f.type) (by rw[<-hm];exact List.mem_map.2 ⟨f,hf,rfl⟩);rw[Array.mapM_eq_mapM_toList];have:∀l:List Field,(∀f∈l,(T f.type).k.isNone=false)->(l.mapM λf=>(do pure (f.offset,<-sizeOf f.type):Sem (Nat×Nat))).run P w=.ok (l.map λf=>(f.offset,(T f.type).size)) w:=by
     intro l;induction l with
     |nil=>intro _;rfl
     |cons f l ih=>
      intro hl;have i1:=ih λf hf=>hl f (by simp[hf]);have i2:=bQ (P:=P) (w:=w) hT (hl f (by simp));simp only[List.mapM_cons,List.map_cons,Sem.run_bind,i2,Result.andThen_ok,Sem.run_pure,i1]
    rw[Sem.run_map,this fa.toList hall];simp only[Result.andThen_ok];congr 1;apply Array.ext';simp
   have hfun:(λi:Nat=>(fa.map λf=>(f.offset,(T f.type).size))[i]?)=λi=>(fs[i]?).map λp=>(p.1,(T p.2).size):=by
    funext i;rw[<-hm];simp;rfl
   have hps:(ps.map λ(p:Nat×Operand)=>(p.1,a.eval p.2)).toList=ps.toList.map λp=>(p.1,a.eval p.2):=(by simp);simp only[execOp,ho,Instr.build,Sem.run_bind,zeroValue,typeInfo,run_program,Result.andThen_ok,h1,h6,Sem.run_pure,run_underlying hu,hplaces,hfun,hzc,hps,r1]
  ·exact hok.elim
 ·rename_i n e hk;have hu:=hT.arr hk;have hne:=hta n e hk;split at hok
  ·rename_i res hres;simp only[iO.cond]at hok|-;obtain⟨inf,d,z,h1,h2,h3,h4,h5,h6,h7⟩:=hT.parts (t:=t) (by rw[hk];rfl);have hone:=(hT t (by rw[hk];rfl)).one;obtain⟨vs,r1,r2,r3,r4⟩:=yO (P:=P) (H:=H) (w:=w) (E:=Ex X β H) (β:=β) hT (λp hp=>by obtain⟨i,_,rfl⟩:=List.mem_map.1 hp;exact hne) ps.toList _ res (T t).zero hres (λp hp=>hok _ (List.mem_map.2 ⟨p,hp,rfl⟩)) hg (by simp) hone
    (λi c v hc hv=>by simp[hv]at hc;subst hc;exact R.const v)
   refine iV.plain m (v:=.agg vs.toArray) ?_ (R.mkAgg r2 r3 r4);have hzc:z.cells=(T t).zero.toArray:=by rw[<-h7]
   have hso:=bQ (P:=P) (w:=w) hT hne;have hps:(ps.map λ(p:Nat×Operand)=>(p.1,a.eval p.2)).toList=ps.toList.map λp=>(p.1,a.eval p.2):=by simp
   have r1':=Cl (place':=λi=>some (i*(T e).size,(T e).size)) (λi q hq=>by
    rw[List.getElem?_map]at hq;by_cases hi:i<n
    ·simpa [hi]using hq
    ·simp[hi]at hq) r1
   simp only[execOp,ho,Instr.build,Sem.run_bind,zeroValue,typeInfo,run_program,Result.andThen_ok,h1,h6,Sem.run_pure,run_underlying hu,hso,hzc,hps,r1']
  ·exact hok.elim
 ·exact hok.elim
theorem Aw{s:Nat}:∀(vs:List Value) (k:Nat) (cur:List Value),(∀v∈vs,v.cells.toList.length=s)->(k+vs.length)*s=cur.length->
 Instr.fill (λi=>some (i*s,s)) cur.toArray (vs.zipIdx k |>.map λp=>(p.2,p.1))=some (cur.take (k*s)++vs.flatMap λv=>v.cells.toList).toArray:=by
 intro vs;induction vs with
 |nil=>
  intro k cur _ h;simp at h;rw[List.take_of_length_le (by omega)];simp[Instr.fill]
 |cons v t ih=>
  intro k cur hs h;simp only[List.length_cons]at h;have hv:=hs v (by simp);have e1:(k+(t.length+1))*s=k*s+s+t.length*s:=by rw[Nat.add_mul,Nat.add_mul];omega
  simp only[List.zipIdx_cons,List.map_cons];have e3:cur.toArray.toList=cur:=by simp
  rw[Ck (off:=k*s) (size:=s) rfl hv (by rw[List.size_toArray];omega),e3];rw[ih (k+1) _ (λu hu=>hs u (by simp[hu])) (by rw[dI (by omega)];rw[<-h];congr 1;omega)];congr 2;simp only[List.flatMap_cons];rw[<-List.append_assoc];congr 1;have e2:(k+1)*s=k*s+s:=by rw[Nat.add_mul];omega
  rw[e2];generalize v.cells.toList=u at hv;unfold aQ;have hl:(cur.take (k*s)).length=k*s:=by rw[List.length_take];omega
  have hl2:(cur.take (k*s)++u).length=k*s+s:=by rw[List.length_append,hl,hv]
  rw[List.take_append_of_le_length (by omega),List.take_of_length_le (by omega)]
theorem yP{w:World}{E:Nat->Prop}{xs:List DV}{vs:List Value}{s:Nat}(hl:vs.length=xs.length)(hs:∀x∈xs,(aK x).length=s)(h:∀(i:Nat) (c:DV) (v:Value),xs[i]? =some c->vs[i]? =some v->RD w E c v):
 (∀v∈vs,v.cells.toList.length=s)/\(vs.flatMap λv=>v.cells.toList).length=xs.length*s/\(∀u∈vs.flatMap λv=>v.cells.toList,u.oneCell'=true)/\
   ∀(i:Nat) (d:DV) (u:Value),(bB xs)[i]? =some d->(vs.flatMap λv=>v.cells.toList)[i]? =some u->RD w E d u:=by
 induction xs generalizing vs with
 |nil=>
  have:vs=[]:=List.eq_nil_of_length_eq_zero (by simpa using hl);subst this;simp[bB]
 |cons x t ih=>
  match vs,hl with
  |v::vs,hl=>
   have hx:=h 0 x v rfl rfl;obtain⟨c1,c2⟩:=hx.cells;have c3:=hx.cells1;have hsx:=hs x (by simp);obtain⟨i1,i2,i3,i4⟩:=ih (vs:=vs) (by simpa using hl) (λy hy=>hs y (by simp[hy])) (λi c v hc hv=>h (i+1) c v (by simpa using hc) (by simpa using hv));refine⟨λu hu=>?_,?_,λu hu=>?_,λi d u hd hu=>?_⟩
   ·rcases List.mem_cons.1 hu with rfl|hu
    ·omega
    ·exact i1 u hu
   ·simp only[List.flatMap_cons,List.length_append,List.length_cons,i2,Nat.add_mul];omega
   ·simp only[List.flatMap_cons,List.mem_append]at hu;rcases hu with hu|hu
    ·exact c3 u hu
    ·exact i3 u hu
   ·simp only[bB,List.flatMap_cons]at hd;simp only[List.flatMap_cons]at hu;by_cases hi:i<(aK x).length
    ·rw[List.getElem?_append_left hi]at hd;rw[List.getElem?_append_left (by omega)]at hu;exact c2 i d u hd hu
    ·rw[List.getElem?_append_right (by omega)]at hd;rw[List.getElem?_append_right (by omega),c1]at hu;exact i4 _ d u hd hu
theorem vR(m:cV w0 X H β w){d:Nat}(hd:H d=.absent){s:Nat}(hs:0<s){xs:List DV}(hall:∀x∈xs,(aK x).length=s){cur:Array Value}(e:TypeId)(hlen:xs.length*s<=cur.size)
 (hp:∀(i:Nat) (d:DV) (v:Value),(bB xs)[i]? =some d->cur[i]? =some v->v.oneCell'=true/\RD w (Ex X β H) d v){w':World}(hb:BP w.heap.size w w')(hsz:w.heap.size<w'.heap.size)(hblk:w'.heap[w.heap.size]? =some (.cells cur e (0,0))):
 cV w0 X (bU H d (.row false s xs)) (bU β d (some w.heap.size)) w'/\eY X H β w (bU H d (.row false s xs)) (bU β d (some w.heap.size)) w':=
 m.newObj hb hd (some w.heap.size) (λb hb=>by injection hb with hb;omega) λhD _=>by
  unfold cP;rw[aM];exact⟨hs,hall,.inr ⟨w.heap.size,e,cur,by rw[aM],hblk,hlen,λi d v hd hv=>⟨(hp i d v hd hv).1,hD _ _ (hp i d v hd hv).2⟩⟩⟩
theorem nA(m:cV w0 X H β w){d:Nat}(hd:H d=.absent){s:Nat}(hs:0<s):cV w0 X (bU H d (.row false s [])) (bU β d none) w/\eY X H β w (bU H d (.row false s [])) (bU β d none) w:=
 m.newObj (BP.refl _ _) hd none (λb hb=>by cases hb) λ_ _=>by
  unfold cP;rw[aM];exact⟨hs,by simp,.inl ⟨by rw[aM],rfl⟩⟩
theorem oS{α:Type}:∀(ps:List (Nat×α)) (k:Nat),ps.map (·.1)=List.range' k ps.length->ps=((ps.map (·.2)).zipIdx k).map λp=>(p.2,p.1)
 |[],_,_=>rfl
 |p::ps,k,h=>by
  simp only[List.map_cons,List.length_cons,List.range'_succ,List.cons.injEq]at h;simp only[List.map_cons,List.zipIdx_cons];rw[<-oS ps (k+1) h.2,<-h.1]
theorem BQ(hT:fC P T)(m:cV w0 X H β w)(hg:∀x,R w (Ex X β H) β H (g x) (a.eval x)){t:TypeId}{n:Nat}{ps:Array (Nat×Operand)}{dst:Nat}(ho:o.op=.buildSlice t n ps)
 (ht:∀e,(T t).k=.slice e->(T e).k.isNone=false)(hok:(dQ T H dst t n (ps.toList.map λp=>(p.1,g p.2))).ok):iV P w0 X H β w a o (dQ T H dst t n (ps.toList.map λp=>(p.1,g p.2))):=by
 unfold dQ at*;split at hok
 ·rename_i e hk;split at hok
  ·rename_i xs hxs;simp only at hok|-;obtain⟨ha,hr,hs0,hall,hlim⟩:=hok;have hu:=hT.slice hk;obtain⟨inf,d,z,h1,h2,h3,h4,h5,h6,h7⟩:=hT.parts (ht e hk);have hlps:ps.toList.length=n:=by have:=congrArg List.length hr;simpa using this
   obtain⟨hxl,hxp⟩:=kS hxs;simp only[List.length_map]at hxl
   let ids:=(ps.toList.map λp=>(p.1,g p.2)).flatMap λp=>bJ H 8 p.2
   obtain⟨m1,g1⟩:=m.freeze ids;have hids:bP H (bF H ids) dst=.absent:=by rw[eF,ha];simp[frozen]
   have hRD:∀(i:Nat) (c:DV) (v:Value),xs[i]? =some c->(ps.toList.map λp=>a.eval p.2)[i]? =some v->RD w (Ex X β (bP H (bF H ids))) c v:=by
    intro i c v hc hv;obtain⟨p,hp,rfl⟩:=fK hv;have hp':(ps.toList.map λp=>(p.1,g p.2))[i]? =some (p.1,g p.2):=by rw[List.getElem?_map,hp];rfl
    have hcl:=hxp i _ c hp' hc;exact gC m hcl (λid hid=>List.mem_flatMap.2 ⟨_,List.mem_of_getElem? hp',hid⟩) (hg p.2)
   obtain⟨f1,f2,f3,f4⟩:=yP (xs:=xs) (vs:=ps.toList.map λp=>a.eval p.2) (s:=(T e).size) (by simp[hxl]) hall hRD;generalize hcs:((ps.toList.map λp=>a.eval p.2).flatMap λv=>v.cells.toList)=cs at*;have hfill:∀cur:List Value,cur.length=n*(T e).size->Instr.fill (λi=>some (i*(T e).size,(T e).size)) cur.toArray (ps.map λ(p:Nat×Operand)=>(p.1,a.eval p.2)).toList=some cs.toArray:=by
    intro cur hcur;have e1:(ps.map λ(p:Nat×Operand)=>(p.1,a.eval p.2)).toList=((ps.toList.map λp=>a.eval p.2).zipIdx 0).map λp=>(p.2,p.1):=by
     have:=oS (ps.toList.map λ(p:Nat×Operand)=>(p.1,a.eval p.2)) 0 (by
      rw[List.map_map]at hr|-;rw[List.length_map,hlps,<-List.range_eq_range',<-hr];rfl)
     rw[Array.toList_map,this,List.map_map];rfl
    rw[e1,Aw _ 0 cur f1 (by rw[hcur];simp[hlps]),hcs];simp
   have hfillA:∀cur:Array Value,cur.size=n*(T e).size->Instr.fill (λi=>some (i*(T e).size,(T e).size)) cur (ps.map λ(p:Nat×Operand)=>(p.1,a.eval p.2)).toList=some cs.toArray:=by
    intro cur hcur;have:=hfill cur.toList (by simpa using hcur)
    rwa[Array.toArray_toList]at this
   have hxn:xs.length=n:=(by omega);have hrun:(execOp a.eval o).run P w=.ok (.value (.slice (some ⟨w.heap.size,0,none⟩) n n)) (w.alloc (.cells cs.toArray e)):=by
    simp only[execOp,ho,Instr.buildSlice,Sem.run_bind,run_underlying hu,Result.andThen_ok,bQ hT (ht e hk)];rw[if_neg (by show¬(n*(T e).size>2^24);omega)];by_cases hz:n*(T e).size=0
    ·simp only[if_pos hz,Sem.run_bind,Sem.run_pure,Result.andThen_ok];rw[hfillA _ (by simp)];simp[newRow]
    ·simp only[if_neg hz,Sem.run_bind,zeroValue,typeInfo,run_program,h1,h6,Sem.run_pure,Result.andThen_ok];rw[hfillA _ (by simp)];simp[newRow]
   have:=vR m1 hids hs0 hall e (cur:=cs.toArray) (by rw[List.size_toArray,f2];omega) (λi d v hd hv=>⟨f3 v (by simp at hv;exact List.mem_of_getElem? hv),f4 i d v hd (by simpa using hv)⟩)
    ((BP.refl _ _).alloc (Nat.le_refl _) (.cells cs.toArray e)) (by simp) (heap_alloc_new w _)
   refine bG hrun (by simp only[fN];exact this.1) (by simp only[fN];exact g1.trans this.2) ?_;simp only[fN];rcases Nat.eq_zero_or_pos n with hn|hn
   ·subst hn;exact .ow0 dst 0 _ false (T e).size xs (by rw[aM]) (.inr ⟨_,_,_,by rw[aM],heap_alloc_new w _,by rw[List.size_toArray,f2,hxn],Nat.zero_le _⟩)
   ·have hR:=R.ow (w:=w.alloc (.cells cs.toArray e)) (E:=Ex X (bU β dst (some w.heap.size)) (bU (bP H (bF H ids)) dst (.row false (T e).size xs))) (β:=bU β dst (some w.heap.size)) (H:=bU (bP H (bF H ids)) dst (.row false (T e).size xs))
     dst 0 n w.heap.size n false (T e).size xs cs.toArray e (by rw[aM]) (by rw[aM]) (by omega) (Nat.le_refl _) (by unfold maxLen;have:=Nat.le_mul_of_pos_right n hs0;omega) (heap_alloc_new w _) (by rw[List.size_toArray,f2,Nat.zero_add,hxn])
    rw[Nat.zero_mul]at hR;exact hR
  ·exact hok.elim
 ·exact hok.elim
theorem Ay(hT:fC P T)(m:cV w0 X H β w)(hg:∀x,R w (Ex X β H) β H (g x) (a.eval x)){t:TypeId}{n:Nat}{ps:Array (Nat×Operand)}{dst:Nat}(ho:o.op=.buildSlice t n ps)
 (ht:∀e,(T t).k=.slice e->(T e).k.isNone=false)(hok:(dK T H dst t n (ps.toList.map λp=>(p.1,g p.2))).ok):iV P w0 X H β w a o (dK T H dst t n (ps.toList.map λp=>(p.1,g p.2))):=by
 unfold dK at*;split at hok
 ·rename_i e hk;split at hok
  ·rename_i xs hxs;simp only at hok|-;obtain⟨ha,hr,hs0,hall,hlim⟩:=hok;have hu:=hT.slice hk;obtain⟨inf,d,z,h1,h2,h3,h4,h5,h6,h7⟩:=hT.parts (ht e hk);have hlps:ps.toList.length=n:=by have:=congrArg List.length hr;simpa using this
   obtain⟨hxl,hxp⟩:=kS hxs;simp only[List.length_map]at hxl
   let ids:=(ps.toList.map λp=>(p.1,g p.2)).flatMap λp=>bJ H 8 p.2
   obtain⟨m1,g1⟩:=m.freeze ids;have hids:bP H (bF H ids) dst=.absent:=by rw[eF,ha];simp[frozen]
   have hRD:∀(i:Nat) (c:DV) (v:Value),xs[i]? =some c->(ps.toList.map λp=>a.eval p.2)[i]? =some v->RD w (Ex X β (bP H (bF H ids))) c v:=by
    intro i c v hc hv;obtain⟨p,hp,rfl⟩:=fK hv;have hp':(ps.toList.map λp=>(p.1,g p.2))[i]? =some (p.1,g p.2):=by rw[List.getElem?_map,hp];rfl
    have hcl:=hxp i _ c hp' hc;exact gC m hcl (λid hid=>List.mem_flatMap.2 ⟨_,List.mem_of_getElem? hp',hid⟩) (hg p.2)
   obtain⟨f1,f2,f3,f4⟩:=yP (xs:=xs) (vs:=ps.toList.map λp=>a.eval p.2) (s:=(T e).size) (by simp[hxl]) hall hRD;generalize hcs:((ps.toList.map λp=>a.eval p.2).flatMap λv=>v.cells.toList)=cs at*;have hfill:∀cur:List Value,cur.length=n*(T e).size->Instr.fill (λi=>some (i*(T e).size,(T e).size)) cur.toArray (ps.map λ(p:Nat×Operand)=>(p.1,a.eval p.2)).toList=some cs.toArray:=by
    intro cur hcur;have e1:(ps.map λ(p:Nat×Operand)=>(p.1,a.eval p.2)).toList=((ps.toList.map λp=>a.eval p.2).zipIdx 0).map λp=>(p.2,p.1):=by
     have:=oS (ps.toList.map λ(p:Nat×Operand)=>(p.1,a.eval p.2)) 0 (by
      rw[List.map_map]at hr|-;rw[List.length_map,hlps,<-List.range_eq_range',<-hr];rfl)
     rw[Array.toList_map,this,List.map_map];rfl
    rw[e1,Aw _ 0 cur f1 (by rw[hcur];simp[hlps]),hcs];simp
   have hfillA:∀cur:Array Value,cur.size=n*(T e).size->Instr.fill (λi=>some (i*(T e).size,(T e).size)) cur (ps.map λ(p:Nat×Operand)=>(p.1,a.eval p.2)).toList=some cs.toArray:=by
    intro cur hcur;have:=hfill cur.toList (by simpa using hcur)
    rwa[Array.toArray_toList]at this
   have hxn:xs.length=n:=(by omega);have hrun:(execOp a.eval o).run P w=.ok (.value (.slice (some ⟨w.heap.size,0,none⟩) n n)) (w.alloc (.cells cs.toArray e)):=by
    simp only[execOp,ho,Instr.buildSlice,Sem.run_bind,run_underlying hu,Result.andThen_ok,bQ hT (ht e hk)];rw[if_neg (by show¬(n*(T e).size>2^24);omega)];by_cases hz:n*(T e).size=0
    ·simp only[if_pos hz,Sem.run_bind,Sem.run_pure,Result.andThen_ok];rw[hfillA _ (by simp)];simp[newRow]
    ·simp only[if_neg hz,Sem.run_bind,zeroValue,typeInfo,run_program,h1,h6,Sem.run_pure,Result.andThen_ok];rw[hfillA _ (by simp)];simp[newRow]
   have:=vR m1 hids hs0 hall e (cur:=cs.toArray) (by rw[List.size_toArray,f2];omega) (λi d v hd hv=>⟨f3 v (by simp at hv;exact List.mem_of_getElem? hv),f4 i d v hd (by simpa using hv)⟩)
    ((BP.refl _ _).alloc (Nat.le_refl _) (.cells cs.toArray e)) (by simp) (heap_alloc_new w _)
   refine bG hrun (by simp only[fN];exact this.1) (by simp only[fN];exact g1.trans this.2) ?_;simp only[fN];exact .oc dst 0 n n _ false (T e).size xs (by rw[aM]) (Nat.le_refl _) (by omega) (by unfold maxLen;have:=Nat.le_mul_of_pos_right n hs0;omega) (.inr ⟨w.heap.size,by rw[aM],by rw[Nat.zero_mul]⟩)
  ·exact hok.elim
 ·exact hok.elim
end
end
section
open Go.RowKit
section
variable{P:Program} {T:TypeId->eC} {w0:cX} {X:Nat->Prop} {H:Nat->aV} {β:Nat->Option Nat} {w:World} {a:Act} {o:Oper} {g:Operand->LV} {E:Nat->Prop}
theorem pD{w w2:World}(h:w2.heap=w.heap)(p:Addr):w2.cell? p=w.cell? p:=by simp[World.cell?,h]
theorem gW{w:World}{size n:Nat}{b:Nat}{off l c:Nat}{us:List Value}(hl:us.length=n*size)(hc:∀(j:Nat) (u:Value),us[j]? =some u->w.cell? ⟨b,off+j,none⟩=some u):
 (Builtin.firstCells size n (.slice (some ⟨b,off,none⟩) l c)).run P w=.ok us.toArray w:=by
 simp only[Builtin.firstCells];rw[<-hl];exact run_loadCells_list (P:=P) (w:=w) ⟨b,off,none⟩ us (λj v hv=>by rw[Addr.add_lit];exact hc j v hv)
theorem vS(m:cV w0 X H β w){id k n b s:Nat}{fz:Bool}{xs:List DV}(hH:H id=.row fz s xs)(hb:β id=some b)(hkn:k+n<=xs.length)(c:Nat):
 ∃news:List Value,(∀w2:World,w2.heap=w.heap->(Builtin.firstCells s n (.slice (some ⟨b,k*s,none⟩) n c)).run P w2=.ok news.toArray w2)/\news.length=n*s/\
  (∀u∈news,u.oneCell'=true)/\∀(i:Nat) (d:DV) (u:Value),(bB ((xs.drop k).take n))[i]? =some d->news[i]? =some u->RD w (Ex X β H) d u:=by
 have hob:=m.obj id;simp only[cP,hH]at hob;obtain⟨hpos,hall,hob⟩:=hob;rcases hob with⟨hnone,_⟩|⟨b',e',cur',hb',hblk',hlen',hp⟩
 ·rw[hnone]at hb;cases hb
 rw[hb]at hb';injection hb' with hb';subst hb'
 have hkm:k*s+n*s<=xs.length*s:=by rw[<-Nat.add_mul];exact Nat.mul_le_mul_right _ hkn
 have hcs:cur'.toList.length=cur'.size:=by simp
 have hfl:=flat_len hall;refine⟨(cur'.toList.drop (k*s)).take (n*s),λw2 hw=>gW (by rw[List.length_take,List.length_drop];omega) λj u hu=>?_,by rw[List.length_take,List.length_drop];omega,λu hu=>?_,λi d u hd hu=>?_⟩
 ·rw[pD hw,cell_of_row w b _ cur' e' (0,0) hblk'];rw[List.getElem?_take]at hu;split at hu
  ·simpa using hu
  ·cases hu
 ·obtain⟨i,hi,rfl⟩:=List.getElem_of_mem hu;simp only[List.getElem_take,List.getElem_drop];rw[List.length_take,List.length_drop]at hi;exact(hp (k*s+i) ((bB xs)[k*s+i]'(by omega)) _ (List.getElem?_eq_getElem _) (by simp)).1
 ·rw[iA (λx hx=>hall x (List.mem_of_mem_drop hx)),tJ hall,List.getElem?_take]at hd;rw[List.getElem?_take]at hu;split at hd
  ·rename_i hi;rw[if_pos hi]at hu;rw[List.getElem?_drop]at hd hu;exact(hp _ d u hd (by simpa using hu)).2
  ·cases hd
theorem gK(m:cV w0 X H β w){lx:LV}{vx:Value}(hx:R w (Ex X β H) β H lx vx){ys:List DV}(hy:cZ H lx=some ys){s:Nat}(hs:∀y∈ys,(aK y).length=s):
 ∃news:List Value,(Builtin.lenOf vx).run P w=.ok ys.length w/\(∀w2:World,w2.heap=w.heap->(Builtin.firstCells s ys.length vx).run P w2=.ok news.toArray w2)/\news.length=ys.length*s/\
  (∀u∈news,u.oneCell'=true)/\∀(i:Nat) (d:DV) (u:Value),(bB ys)[i]? =some d->news[i]? =some u->RD w (Ex X β H) d u:=by
 have empty:∀(b:Option Addr) (c:Nat),(∀w2:World,(Builtin.firstCells s 0 (.slice b 0 c)).run P w2=.ok #[] w2):=by
  intro b c w2;cases b with
  |none=>simp[Builtin.firstCells]
  |some b=>simp[Builtin.firstCells,loadCells,loadCellsFrom]
 unfold cZ at hy;split at hy
 ·rename_i xs;injection hy with hy;subst hy
  cases hx with
  |d _ _ hx=>cases hx with
   |sl0 b c hc=>exact⟨[],by simp[Builtin.lenOf],λw2 _=>empty b c w2,by simp,by simp,by simp[bB]⟩
   |sl _ b off c size us hne hb hall hlen hc hul h1 hlt hcell hp=>
    have hss:s=size:=by
     cases xs with
     |nil=>exact absurd rfl hne
     |cons x t=>rw[<-hs x (by simp),hall x (by simp)]
    subst hss;refine⟨us,by simp[Builtin.lenOf],λw2 hw=>gW hul λj u hu=>?_,hul,h1,hp⟩;rw[pD hw];exact hcell j u hu
 ·rename_i str;injection hy with hy;subst hy
  have:=hx.str;subst this;have hs1:(str.map λb=>(DV.int .u8 b.toNat))=[]\/s=1:=by
   cases str with
   |nil=>left;rfl
   |cons b t=>right;rw[<-hs (.int .u8 b.toNat) (by simp)];rfl
  refine⟨str.map λb=>.int .u8 b.toNat,by simp[Builtin.lenOf,ByteArray.size],λw2 _=>?_,?_,by simp[Value.oneCell'],λi d u hd hu=>?_⟩
  ·have hsz:(⟨str.toArray⟩:ByteArray).extract 0 str.length=⟨str.toArray⟩:=by
    apply ByteArray.ext;simp[ByteArray.data_extract]
   simp[Builtin.firstCells,hsz]
  ·rcases hs1 with h|h
   ·have:str=[]:=by simpa using h
    subst this;simp
   ·subst h;simp
  ·have hfl:∀l:List UInt8,bB (l.map λb=>(DV.int .u8 b.toNat))=l.map λb=>(DV.int .u8 b.toNat):=by
    intro l;induction l with
    |nil=>rfl
    |cons b l ih=>simp only[bB,List.map_cons,List.flatMap_cons]at*;rw[ih];rfl
   rw[hfl]at hd;obtain⟨b,hb,rfl⟩:=fK hd;obtain⟨b',hb',rfl⟩:=fK hu;rw[hb]at hb';injection hb' with hb';subst hb'
   exact .int _ _
 ·injection hy with hy;subst hy
  cases hx with
  |nl b=>exact⟨[],by simp[Builtin.lenOf],λw2 _=>empty b 0 w2,by simp,by simp,by simp[bB]⟩
 ·rename_i id k n;split at hy
  ·rename_i fz size xs hH;injection hy with hy;subst hy
   have hob:=m.obj id;simp only[cP,hH]at hob;obtain⟨hpos,hall,hob⟩:=hob;cases hx with
   |ow0 _ _ b=>exact⟨[],by simp[Builtin.lenOf],λw2 _=>by simpa using empty b 0 w2,by simp,by simp,by simp[bB]⟩
   |owdead _ _ _ _ hd=>rw[hH]at hd;cases hd
   |ow _ _ _ b c _ _ _ cur e hH' hb hkn hn hc hblk hroom=>
    rw[hH]at hH';injection hH' with _ q1 q2;subst q1;subst q2
    rcases hob with⟨hnone,_⟩|⟨b',e',cur',hb',hblk',hlen',hp⟩
    ·rw[hnone]at hb;cases hb
    ·rw[hb]at hb';injection hb' with hb';subst hb'
     have hln:((xs.drop k).take n).length=n:=by simp;omega
     rcases Nat.eq_zero_or_pos n with hz|hz
     ·subst hz;have hnil:(xs.drop k).take 0=[]:=rfl;exact⟨[],by simp[Builtin.lenOf],λw2 _=>by simpa using empty _ c w2,by simp,by simp,by simp[bB]⟩
     ·have hss:s=size:=by
       have hmem:((xs.drop k).take n)[0]'(by omega)∈(xs.drop k).take n:=List.getElem_mem _;rw[<-hs _ hmem];exact hall _ (List.mem_of_mem_drop (List.mem_of_mem_take hmem))
      subst hss;obtain⟨news,q1,q2,q3,q4⟩:=vS (P:=P) m hH hb hkn c;exact⟨news,by simp[Builtin.lenOf];omega,λw2 hw=>by rw[hln];exact q1 w2 hw,by rw[hln];exact q2,q3,q4⟩
  ·cases hy
 ·rename_i id k n c;split at hy
  ·rename_i fz size xs hH;injection hy with hy;subst hy
   have hob:=m.obj id;simp only[cP,hH]at hob;obtain⟨hpos,hall,hob⟩:=hob;cases hx with
   |ocdead _ _ _ _ _ hd=>rw[hH]at hd;cases hd
   |oc _ _ _ _ p _ _ _ hH' hn hkc hc ha=>
    rw[hH]at hH';injection hH' with _ q1 q2;subst q1;subst q2
    have hln:((xs.drop k).take n).length=n:=by simp;omega
    rcases Nat.eq_zero_or_pos n with hz|hz
    ·subst hz;have hnil:(xs.drop k).take 0=[]:=rfl;exact⟨[],by simp[Builtin.lenOf],λw2 _=>by simpa using empty _ c w2,by simp,by simp,by simp[bB]⟩
    ·rcases ha with ha|⟨b,hb,rfl⟩
     ·omega
     have hss:s=size:=by
      have hmem:((xs.drop k).take n)[0]'(by omega)∈(xs.drop k).take n:=List.getElem_mem _;rw[<-hs _ hmem];exact hall _ (List.mem_of_mem_drop (List.mem_of_mem_take hmem))
     subst hss;obtain⟨news,q1,q2,q3,q4⟩:=vS (P:=P) m hH hb (show k+n<=xs.length by omega) c;exact⟨news,by simp[Builtin.lenOf];omega,λw2 hw=>by rw[hln];exact q1 w2 hw,by rw[hln];exact q2,q3,q4⟩
  ·cases hy
 ·cases hy
theorem eN{t u ty e:TypeId}{d:TypeDesc}{i:TypeInfo}(ht:P.underlying t=some (.slice e))(hu:P.underlying u=some d)(hd:∀k,d≠ .int k)(hi:P.info? e=some i)
 {base:Option Addr}{sLen sCap m:Nat}{x:Value}{news:List Value}(hlen:(Builtin.lenOf x).run P w=.ok m w)(hf:∀w2:World,w2.heap=w.heap->(Builtin.firstCells i.size m x).run P w2=.ok news.toArray w2)
 (hroom:sLen+m<=sCap):(Builtin.append_ #[t,u] ty #[.slice base sLen sCap,x]).run P w=(match base with|some a=>(storeCells (a.add (sLen*i.size)) news).run P w|none=>.ok () w).andThen λ_ w'=>.ok (.slice base (sLen+m) sCap) w':=by
 have hf0:=hf w rfl;cases base<;>simp[Builtin.append_,run_underlying ht,run_underlying hu,sizeOf,typeInfo,hi,hlen,hroom,hf0]
theorem gX{t u ty e:TypeId}{d:TypeDesc}{i:TypeInfo}{z:Value}(ht:P.underlying t=some (.slice e))(hu:P.underlying u=some d)(hd:∀k,d≠ .int k)(hi:P.info? e=some i)(hzz:i.zero=some z)
 {base:Option Addr}{sLen sCap m:Nat}{x:Value}{olds news:List Value}(hlen:(Builtin.lenOf x).run P w=.ok m w)(hf:∀w2:World,w2.heap=w.heap->(Builtin.firstCells i.size m x).run P w2=.ok news.toArray w2)
 (ho:∀w2:World,w2.heap=w.heap->(Builtin.firstCells i.size sLen (.slice base sLen sCap)).run P w2=.ok olds.toArray w2)
 (hroom:sCap<sLen+m)(h63:sLen+m<=9223372036854775807)(hfit:(sLen+m)*i.bytes<=140737488355328):
 (Builtin.append_ #[t,u] ty #[.slice base sLen sCap,x]).run P w=
   .ok (.slice (some ⟨w.heap.size,0,none⟩) (sLen+m) (grownCap w (sLen+m) sCap e)) (w.drew.alloc (.cells (olds.toArray++news.toArray++Builtin.zeroCells z.cells (grownCap w (sLen+m) sCap e-(sLen+m))) e)):=by
 have hn:¬(sLen+m<=sCap):=by omega
 have h63':¬(9223372036854775807<((sLen:Int)+(m:Int))):=by omega
 have h48:=growslice_fits hroom hfit;have h48':¬(281474976710656<Builtin.nextslicecap (sLen+m) sCap*i.bytes):=by omega
 have hf1:=hf w.drew rfl;have ho1:=ho w.drew rfl;simp[Builtin.append_,run_underlying ht,run_underlying hu,sizeOf,typeInfo,hi,hlen,hn,h63',h48',hf1,ho1,hzz,zeroValue,newRow,Question.forced,grownCap];congr 2;apply Array.ext';simp[List.append_assoc]
theorem dM{t u:TypeId}{s x:Operand}(ho:o.op=.call {callee:=.builtin .append,args:= #[s,x],argTypes:= #[t,u]}){v:Value}{w':World}
 (hr:(Builtin.append_ #[t,u] o.type #[a.eval s,a.eval x]).run P w=.ok v w'):(execOp a.eval o).run P w=.ok (.value v) w':=by
 unfold execOp;simp only[ho,resolve,invoke,builtin,Sem.run_bind,Sem.run_pure,Result.andThen_ok,List.map_toArray,List.map_cons,List.map_nil,hr]
theorem tK(m:cV w0 X H β w){d:Nat}(hd:H d=.absent){s need old:Nat}(hs:0<s){xs:List DV}(hall:∀x∈xs,(aK x).length=s){news:List Value}{e:TypeId}{z:Value}(hz:z.cells.size=s)(hxl:xs.length=need)
 (hnl:news.length=need*s)(hone:∀u∈news,u.oneCell'=true)(hp:∀(i:Nat) (d:DV) (u:Value),(bB xs)[i]? =some d->news[i]? =some u->RD w (Ex X β H) d u)(hn:0<need)(hmax:need<=140737488355328){cur:Array Value}
 (hcur:cur=news.toArray++Builtin.zeroCells z.cells (grownCap w need old e-need)):
 cV w0 X (bU H d (.row false s xs)) (bU β d (some w.heap.size)) (w.drew.alloc (.cells cur e))/\eY X H β w (bU H d (.row false s xs)) (bU β d (some w.heap.size)) (w.drew.alloc (.cells cur e))/\
  R (w.drew.alloc (.cells cur e)) (Ex X (bU β d (some w.heap.size)) (bU H d (.row false s xs))) (bU β d (some w.heap.size)) (bU H d (.row false s xs)) (.ow d 0 need) (.slice (some ⟨w.heap.size,0,none⟩) need (grownCap w need old e)):=by
 have hge:=grownCap_ge w need old e;have hcm:grownCap w need old e<=maxLen:=grownCap_le_maxLen w need old e (by unfold maxLen;omega);have hcs:cur.size=grownCap w need old e*s:=by
  rw[hcur];simp only[Array.size_append,List.size_toArray,size_zeroCells,hz,hnl,<-Nat.add_mul];congr 1;omega
 have hblk:(w.drew.alloc (.cells cur e)).heap[w.heap.size]? =some (.cells cur e (0,0)):=heap_alloc_new w.drew _;have hle:xs.length*s<=cur.size:=by rw[hcs,hxl];exact Nat.mul_le_mul_right _ hge
 have:=vR m hd hs hall e (cur:=cur) hle (λi dd v hdd hv=>by
  have hi:i<news.length:=by have:=(List.getElem?_eq_some_iff.1 hdd).1;rw[flat_len hall,hxl]at this;omega
  rw[hcur,Array.getElem?_append_left (by simpa using hi)]at hv;exact⟨hone v (List.mem_of_getElem? (by simpa using hv)),hp i dd v hdd (by simpa using hv)⟩) (w':=w.drew.alloc (.cells cur e)) ((BP.refl _ _).drew.alloc (Nat.le_refl _) _) (by simp) hblk
 refine⟨this.1,this.2,?_⟩;have hR:=R.ow (w:=w.drew.alloc (.cells cur e)) (E:=Ex X (bU β d (some w.heap.size)) (bU H d (.row false s xs))) (β:=bU β d (some w.heap.size)) (H:=bU H d (.row false s xs)) d 0 need w.heap.size (grownCap w need old e) false s xs cur e
  (by rw[aM]) (by rw[aM]) (by omega) hge hcm hblk (by rw[Nat.zero_add,hcs])
 rw[Nat.zero_mul]at hR;exact hR
theorem Iz(hT:fC P T)(m:cV w0 X H β w)(hg:∀x,R w (Ex X β H) β H (g x) (a.eval x)){t u:TypeId}{s x:Operand}{dst:Nat}(ho:o.op=.call {callee:=.builtin .append,args:= #[s,x],argTypes:= #[t,u]})
 (hu:t=u\/(T u).k.isStr=true)(ht:∀e,(T t).k=.slice e->(T e).k.isNone=false)(hok:(gU T H dst t (g s) (g x)).ok):iV P w0 X H β w a o (gU T H dst t (g s) (g x)):=by
 have hs:=hg s;have hx:=hg x;generalize hgs:g s=ls at*;generalize hgx:g x=lx at*;unfold gU at*;split at hok
 ·rename_i e ys hk hy;have hut:=hT.slice hk;obtain⟨inf,d0,z,h1,h2,h3,h4,h5,h6,h7⟩:=hT.parts (ht e hk);have huu:∃d,P.underlying u=some d/\∀k,d≠ .int k:=by
   rcases hu with rfl|hu
   ·exact⟨_,hut,λk=>by simp⟩
   ·have:(T u).k=.str:=by cases q:(T u).k<;>simp_all[TK.isStr]
    exact⟨_,hT.str this,λk=>by simp⟩
  obtain⟨d,hud,hdk⟩:=huu;have hzs:z.cells.size=(T e).size:=by
   have:=(hT e (ht e hk)).len;rw[<-h7]at this;simpa using this
  generalize hvs:a.eval s=vs at hs;have iL:∀(H1:Nat->aV) (b:Option Addr),vs=.slice b 0 0->cV w0 X H1 β w->eY X H β w H1 β w->H1 dst=.absent->0<(T e).size->(∀y∈ys,(aK y).length=(T e).size)->ys.length*(T e).bytes<=140737488355328->ys.length<=140737488355328->
   ∃v w' β',(execOp a.eval o).run P w=.ok (.value v) w'/\cV w0 X (bU H1 dst (.row false (T e).size ys)) β' w'/\eY X H β w (bU H1 dst (.row false (T e).size ys)) β' w'/\R w' (Ex X β' (bU H1 dst (.row false (T e).size ys))) β' (bU H1 dst (.row false (T e).size ys)) (.ow dst 0 ys.length) v:=by
   intro H1 b hv m1 g1 ha hpos hys hby hbl;subst hv;obtain⟨news,e1,e2,e3,e4,e5⟩:=gK m hx hy hys;rw[<-h4]at e2;rcases Nat.eq_zero_or_pos ys.length with hz|hz
   ·have hy0:ys=[]:=List.eq_nil_of_length_eq_zero hz;subst hy0;have hn0:news=[]:=List.eq_nil_of_length_eq_zero (by simpa using e3);subst hn0;have hrun:=eN (P:=P) (w:=w) (ty:=o.type) (base:=b) (sLen:=0) (sCap:=0) hut hud hdk h1 e1 e2 (Nat.le_refl _);obtain⟨m2,g2⟩:=nA m1 ha hpos;refine⟨.slice b 0 0,w,bU β dst none,dM ho ?_,m2,g1.trans g2,.ow0 dst 0 b false (T e).size [] (by rw[aM]) (.inl ⟨by rw[aM],rfl⟩)⟩;rw[hvs,hrun];cases b<;>simp[storeCells]
   ·have hold:∀w2:World,w2.heap=w.heap->(Builtin.firstCells inf.size 0 (.slice b 0 0)).run P w2=.ok (List.toArray []) w2:=by
     intro w2 _;cases b<;>simp[Builtin.firstCells,loadCells,loadCellsFrom]
    have hrun:=gX (P:=P) (w:=w) (ty:=o.type) (base:=b) (sLen:=0) (sCap:=0) hut hud hdk h1 h6 e1 e2 hold (by omega) (by omega) (by rw[Nat.zero_add,h5];exact hby);obtain⟨m2,g2,hR⟩:=tK m1 ha hpos hys hzs rfl e3 e4 (λi d u hd hu=>g1.D (e5 i d u hd hu)) hz hbl (old:=0) (e:=e) (cur:=news.toArray++Builtin.zeroCells z.cells (grownCap w ys.length 0 e-ys.length)) rfl;refine⟨_,_,_,dM ho ?_,m2,g1.trans g2,hR⟩;rw[hvs,hrun];simp
  split at hok
  ·rename_i id k n;split at hok
   ·rename_i sz xs hH;simp only at hok|-;obtain⟨ha,hk0,hsz,hys,hby,hbl⟩:=hok;subst hk0;subst hsz;have hl:(H id).live=true:=by rw[hH];rfl
    have hne:dst≠id:=λe=>by rw[e,hH]at ha;cases ha
    obtain⟨m1,g1⟩:=m.kill id hl;have ha1:bU H id .dead dst=.absent:=by rw[bS _ _ hne];exact ha
    have hob:=m.obj id;simp only[cP,hH]at hob;obtain⟨hpos,hall,hob⟩:=hob;have hup:∀o',bP H [(dst,o'),(id,aV.dead)]=bU (bU H id .dead) dst o':=λo'=>by rw[fN,aR]
    cases hs with
    |owdead _ _ _ _ hd=>rw[hH]at hd;cases hd
    |ow0 _ _ b=>
     obtain⟨v,w',β',q1,q2,q3,q4⟩:=iL _ b rfl m1 g1 ha1 hpos hys (by rw[Nat.zero_add]at hby;exact hby) (by omega);refine bG (β':=β') q1 ?_ ?_ ?_<;>simp only[hup,List.take_zero,List.nil_append,Nat.zero_add]
     ·exact q2
     ·exact q3
     ·exact q4
    |ow _ _ _ b c _ _ _ cur e' hH' hb hkn hn hc hblk hroom=>
     rw[hH]at hH';injection hH' with _ q1 q2;subst q1;subst q2
     rcases hob with⟨hnone,_⟩|⟨b',e'',cur',hb',hblk',hlen',hp⟩
     ·rw[hnone]at hb;cases hb
     ·rw[hb]at hb';injection hb' with hb';subst hb'
      rw[hblk]at hblk';injection hblk' with hblk';injection hblk' with p1 p2;subst p1;subst p2
      obtain⟨news,e1,e2,e3,e4,e5⟩:=gK m hx hy hys;rw[<-h4]at e2;have hnx:n<=xs.length:=by omega
      have hns:n*(T e).size<=xs.length*(T e).size:=Nat.mul_le_mul_right _ hnx;have hcs:cur.toList.length=cur.size:=by simp
      have htk:(xs.take n).length=n:=by simp;omega
      have hallt:∀x∈xs.take n++ys,(aK x).length=(T e).size:=λx hx=>by
       rcases List.mem_append.1 hx with hx|hx
       ·exact hall x (List.mem_of_mem_take hx)
       ·exact hys x hx
      have hfl:=flat_len hall;have hflt:(bB (xs.take n)).length=n*(T e).size:=by rw[flat_len (λx hx=>hall x (List.mem_of_mem_take hx)),htk]
      simp only[Nat.zero_mul,Nat.zero_add]at hvs hroom;have hadd:(n+ys.length)*(T e).size=n*(T e).size+ys.length*(T e).size:=Nat.add_mul _ _ _;by_cases hin:n+ys.length<=c
      ·have hfit:n*(T e).size+news.length<=cur.size:=by
        have:(n+ys.length)*(T e).size<=c*(T e).size:=Nat.mul_le_mul_right _ hin;omega
       have hrun:=eN (P:=P) (w:=w) (ty:=o.type) (base:=some ⟨b,0,none⟩) (sLen:=n) (sCap:=c) hut hud hdk h1 e1 e2 hin;have hst:=run_storeCells_at P b (n*(T e).size) e' news 0 cur w hblk (by omega) e4;obtain⟨m2,g2⟩:=m.moveObj (id:=id) (d:=dst) n hH ha;have hpl:(aQ (n*(T e).size) cur.toList news).toArray.size=cur.size:=by rw[List.size_toArray,dI (by omega)];exact hcs
       have hfa:bB (xs.take n++ys)=bB (xs.take n)++bB ys:=gV _ _;have hfy:(bB ys).length=ys.length*(T e).size:=flat_len hys;have:=m2.rewrite (id:=dst) (b:=b) (o':=.row false (T e).size (xs.take n++ys)) (cur':=(aQ (n*(T e).size) cur.toList news).toArray) (by rw[aM];rfl) (by rw[aM];exact hb) hblk (by omega)
        (.inr ⟨_,_,_,by rw[aM],rfl,by simp⟩) (λhD _=>by
          unfold cP;rw[aM];refine⟨hpos,hallt,.inr ⟨b,e',_,by rw[aM];exact hb,setRow_heap w b _ _ e' (0,0) hblk,by rw[hpl,List.length_append,htk];omega,λi d v hd hv=>?_⟩⟩;simp only[List.getElem?_toArray]at hv;rw[eT (by omega)]at hv;rw[hfa]at hd;have hi:i<n*(T e).size+ys.length*(T e).size:=by have:=(List.getElem?_eq_some_iff.1 hd).1;rw[List.length_append,hflt,hfy]at this;exact this
          by_cases hi2:i<n*(T e).size
          ·rw[if_pos hi2]at hv;rw[List.getElem?_append_left (by omega),iA hall,List.getElem?_take,if_pos hi2]at hd;have:=hp i d v hd (by simpa using hv);exact⟨this.1,hD _ _ (g2.D this.2)⟩
          ·rw[if_neg hi2,if_pos (by omega)]at hv;rw[List.getElem?_append_right (by omega),hflt]at hd;exact⟨e4 v (List.mem_of_getElem? hv),hD _ _ (g2.D (e5 _ d v hd hv))⟩)
       have hup2:bU (bU (bU H id .dead) dst (.row false (T e).size (xs.take n))) dst (.row false (T e).size (xs.take n++ys))=bU (bU H id .dead) dst (.row false (T e).size (xs.take n++ys)):=by
        funext j;simp only[bU];split<;>rfl
       rw[hup2]at this;refine bG (v:=.slice (some ⟨b,0,none⟩) (n+ys.length) c) (w':=w.setRow b (aQ (n*(T e).size) cur.toList news).toArray) (β':=bU β dst (β id)) (dM ho ?_) ?_ ?_ ?_
       ·rw[hvs,hrun];simp only[Addr.add_lit,Nat.zero_add,h4];simp only[Nat.add_zero]at hst;rw[hst];rfl
       ·simp only[hup];exact this.1
       ·simp only[hup];exact g2.trans this.2
       ·simp only[hup];have hR:=R.ow (w:=w.setRow b (aQ (n*(T e).size) cur.toList news).toArray) (E:=Ex X (bU β dst (β id)) (bU (bU H id .dead) dst (.row false (T e).size (xs.take n++ys)))) (β:=bU β dst (β id)) (H:=bU (bU H id .dead) dst (.row false (T e).size (xs.take n++ys)))
         dst 0 (n+ys.length) b c false (T e).size (xs.take n++ys) _ e' (by rw[aM]) (by rw[aM];exact hb) (by rw[List.length_append,htk];omega) hin hc (setRow_heap w b _ _ e' (0,0) hblk) (by rw[hpl,Nat.zero_add];exact hroom)
        rw[Nat.zero_mul]at hR;exact hR
      ·have hold:∀w2:World,w2.heap=w.heap->(Builtin.firstCells inf.size n (.slice (some ⟨b,0,none⟩) n c)).run P w2=.ok ((cur.toList.take (n*(T e).size)).toArray) w2:=by
        intro w2 hw;refine gW (by rw[h4,List.length_take];omega) λj u hu=>?_;rw[pD hw,cell_of_row w b _ cur e' (0,0) hblk];rw[List.getElem?_take]at hu;split at hu
        ·simpa using hu
        ·cases hu
       have hrun:=gX (P:=P) (w:=w) (ty:=o.type) (base:=some ⟨b,0,none⟩) (sLen:=n) (sCap:=c) hut hud hdk h1 h6 e1 e2 hold (by omega) (by omega) (by rw[h5];exact hby);have hxl:(xs.take n++ys).length=n+ys.length:=by rw[List.length_append,htk]
       obtain⟨m2,g2,hR⟩:=tK m1 ha1 hpos hallt hzs hxl (news:=cur.toList.take (n*(T e).size)++news) (by rw[List.length_append,List.length_take];omega)
        (λu hu=>by
          rcases List.mem_append.1 hu with hu|hu
          ·obtain⟨i,hi,rfl⟩:=List.getElem_of_mem hu;rw[List.length_take]at hi;simp only[List.getElem_take];exact(hp i ((bB xs)[i]'(by omega)) _ (List.getElem?_eq_getElem _) (by simp)).1
          ·exact e4 u hu)
        (λi d u hd hu=>by
          have hl1:(cur.toList.take (n*(T e).size)).length=n*(T e).size:=(by rw[List.length_take];omega);rw[gV]at hd;by_cases hi2:i<n*(T e).size
          ·rw[List.getElem?_append_left (by omega),List.getElem?_take,if_pos hi2]at hu;rw[List.getElem?_append_left (by omega),iA hall,List.getElem?_take,if_pos hi2]at hd;exact g1.D (hp i d u hd (by simpa using hu)).2
          ·rw[List.getElem?_append_right (by omega),hl1]at hu;rw[List.getElem?_append_right (by omega),hflt]at hd;exact g1.D (e5 _ d u hd hu))
        (by omega) hbl (old:=c) (e:=e) (cur:=(cur.toList.take (n*(T e).size)++news).toArray++Builtin.zeroCells z.cells (grownCap w (n+ys.length) c e-(n+ys.length))) rfl
       refine bG (dM ho ?_) (by simp only[hup];exact m2) (by simp only[hup];exact g1.trans g2) (by simp only[hup];exact hR);rw[hvs,hrun];simp
   ·exact hok.elim
  ·simp only at hok|-;obtain⟨ha,hpos,hys,hby,hbl⟩:=hok;cases hs with
   |nl b=>
    obtain⟨v,w',β',q1,q2,q3,q4⟩:=iL _ b rfl m eY.refl ha hpos hys hby hbl;refine bG (β':=β') q1 ?_ ?_ ?_<;>simp only[aR]
    ·exact q2
    ·exact q3
    ·exact q4
  ·exact hok.elim
 ·exact hok.elim
end
end
section
open Go.RowKit
section
variable{P:Program} {T:TypeId->eC} {w0:cX} {X:Nat->Prop} {H:Nat->aV} {β:Nat->Option Nat} {w:World} {a:Act} {o:Oper} {g:Operand->LV} {E:Nat->Prop}
theorem RD.sl_len{xs:List DV}{v:Value}(h:RD w E (.sl xs) v):∃b c,v=.slice b xs.length c/\xs.length<=c/\c<=maxLen:=by
 cases h with
 |sl0 a c hc=>exact⟨a,c,rfl,Nat.zero_le _,hc⟩
 |sl _ b off c _ _ _ _ _ hlen hc=>exact⟨_,c,rfl,hlen,hc⟩
theorem kU{t ty e:TypeId}(h:P.underlying t=some (.slice e))(b:Option Addr)(n c:Nat):(Builtin.len_ #[t] ty #[.slice b n c]).run P w=.ok (.int .i64 n) w:=by
 simp only[Builtin.len_,List.getElem?_toArray,List.getElem?_cons_zero,Sem.run_bind,run_underlying h,Result.andThen_ok,Sem.run_pure,goInt]
theorem Er{t ty:TypeId}(h:P.underlying t=some .string)(s:ByteArray):(Builtin.len_ #[t] ty #[.string s]).run P w=.ok (.int .i64 s.size) w:=by
 simp only[Builtin.len_,List.getElem?_toArray,List.getElem?_cons_zero,Sem.run_bind,run_underlying h,Result.andThen_ok,Sem.run_pure,goInt]
theorem Es{t ty e:TypeId}{n:Nat}(h:P.underlying t=some (.array n e))(v:Value):(Builtin.len_ #[t] ty #[v]).run P w=.ok (.int .i64 n) w:=by
 simp only[Builtin.len_,List.getElem?_toArray,List.getElem?_cons_zero,Sem.run_bind,run_underlying h,Result.andThen_ok,Sem.run_pure,goInt]
theorem Az{t ty kt et:TypeId}{b clock:Nat}{arr:Array MapEntry}(h:P.underlying t=some (.map kt et))(hb:w.heap[b]? =some (.map arr clock)):(Builtin.len_ #[t] ty #[.map (some b)]).run P w=.ok (.int .i64 arr.size) w:=by
 have hg:(getObj b).run P w=.ok (.map arr clock) w:=by simp[getObj,Sem.run,hb]
 simp only[Builtin.len_,List.getElem?_toArray,List.getElem?_cons_zero,Sem.run_bind,run_underlying h,Result.andThen_ok,Sem.run_pure,goInt,hg]
theorem Oq(hT:fC P T)(m:cV w0 X H β w)(hg:∀x,R w (Ex X β H) β H (g x) (a.eval x)){t:TypeId}{x:Operand}(ho:o.op=.call {callee:=.builtin .len,args:= #[x],argTypes:= #[t]})
 (hok:(oC T H t (g x)).ok):iV P w0 X H β w a o (oC T H t (g x)):=by
 have hx:=hg x;generalize g x=lx at*;generalize hval:a.eval x=vx at hx;have fin:∀{v:Value},(Builtin.len_ #[t] o.type #[vx]).run P w=.ok v w->(execOp a.eval o).run P w=.ok (.value v) w:=by
  intro v hr;simp only[execOp,ho,resolve,invoke,builtin,Sem.run_bind,Sem.run_pure,Result.andThen_ok,List.map_toArray,List.map_cons,List.map_nil,hval,hr]
 unfold oC at*;split at hok
 ·rename_i s hk;have:=hx.str;subst this;exact iV.plain m (fin (Er (hT.str hk) _)) (bO _ _)
 ·rename_i e xs hk;cases hx with
  |d _ _ hx=>
   obtain⟨b,c,hv,_⟩:=hx.sl_len;clear hx;subst hv;exact iV.plain m (fin (kU (hT.slice hk) _ _ _)) (bO _ _)
 ·rename_i e id k n hk;have hu:=hT.slice hk;simp only[iO.cond]at hok|-;cases hx with
  |ow _ _ _ b c=>exact iV.plain m (fin (kU hu _ _ _)) (bO _ _)
  |ow0 _ _ b=>exact iV.plain m (fin (kU hu _ _ _)) (bO _ _)
  |owdead _ _ _ _ hd=>rw[hd]at hok;cases hok
 ·rename_i e id k n c hk;have hu:=hT.slice hk;simp only[iO.cond]at hok|-;cases hx with
  |oc _ _ _ _ p=>exact iV.plain m (fin (kU hu _ _ _)) (bO _ _)
  |ocdead _ _ _ _ _ hd=>rw[hd]at hok;cases hok
 ·rename_i e id k n c hk;have hu:=hT.slice hk;simp only[iO.cond]at hok|-;cases hx with
  |sb _ _ _ _ p=>exact iV.plain m (fin (kU hu _ _ _)) (bO _ _)
  |sbdead _ _ _ _ _ hd=>rw[hd]at hok;cases hok
 ·rename_i e hk;cases hx with
  |nl b=>exact iV.plain m (fin (kU (hT.slice hk) _ _ _)) (bO _ _)
 ·rename_i n e hk;exact iV.plain m (fin (Es (hT.arr hk) _)) (bO _ _)
 ·rename_i kt et ks vs hk;cases hx with
  |d _ _ hx=>cases hx with
   |mp _ _ b clock arr _ _ hblk hkl=>
    rw[hkl];exact iV.plain m (fin (Az (hT.mapd hk) hblk)) (bO _ _)
 ·rename_i kt et id hk;split at hok
  ·rename_i fz ks vs hH;have ho:=m.obj id;simp only[cP,hH]at ho;obtain⟨b,arr,clock,hb,hblk,hkl,_⟩:=ho;cases hx with
   |mp _ b' _ _ _ hH' hb'=>
    rw[hb]at hb';injection hb' with hb';subst hb'
    rw[hkl];exact iV.plain m (fin (Az (hT.mapd hk) hblk)) (bO _ _)
   |mpdead _ _ hd=>rw[hH]at hd;cases hd
  ·exact hok.elim
 ·exact hok.elim
theorem KC(m:cV w0 X H β w)(hg:∀x,R w (Ex X β H) β H (g x) (a.eval x)){mx:Bool}{args:Array Operand}{ts:Array TypeId}(ho:o.op=.call {callee:=.builtin (if mx then .max else .min),args:=args,argTypes:=ts})
 (hok:(tG mx (args.toList.map g)).ok):iV P w0 X H β w a o (tG mx (args.toList.map g)):=by
 obtain⟨l⟩:=args;simp only at hok|-;unfold tG at*;split at hok
 ·rename_i k x k' y hl;split at hok
  ·rename_i hk;subst hk;rw[if_pos rfl];have hform:∃p q,l=[p,q]:=by
    have:=congrArg List.length hl;simp only[List.length_map,List.length_cons,List.length_nil]at this
    match l,this with
    |[p,q],_=>exact⟨p,q,rfl⟩
   obtain⟨p,q,rfl⟩:=hform
   ·simp only[List.map_cons,List.map_nil,List.cons.injEq,and_true]at hl;have hp:=hg p;have hq:=hg q;rw[hl.1]at hp;rw[hl.2]at hq;have e1:=hp.int;have e2:=hq.int;cases mx
    ·refine iV.plain m (v:=.int k (if y<x then y else x)) ?_ (bO _ _);simp only[execOp,ho,resolve,invoke,builtin,Sem.run_bind,Sem.run_pure,Result.andThen_ok,List.map_toArray,List.map_cons,List.map_nil,e1,e2,Bool.false_eq_true,if_false,Builtin.min_,List.foldlM_cons,List.foldlM_nil,Builtin.min2]
    ·refine iV.plain m (v:=.int k (if y>x then y else x)) ?_ (bO _ _);simp only[execOp,ho,resolve,invoke,builtin,Sem.run_bind,Sem.run_pure,Result.andThen_ok,List.map_toArray,List.map_cons,List.map_nil,e1,e2,if_true,Builtin.max_,List.foldlM_cons,List.foldlM_nil,Builtin.max2]
  ·exact hok.elim
 ·exact hok.elim
theorem Gi(m:cV w0 X H β w)(hg:∀x,R w (Ex X β H) β H (g x) (a.eval x)){x:Operand}{i:Nat}(ho:o.op=.extract x i)(hok:(cO (g x) i).ok):iV P w0 X H β w a o (cO (g x) i):=by
 have hx:=hg x;generalize g x=lx at*;generalize hval:a.eval x=vx at hx;unfold cO at*;split at hok
 ·rename_i vs;simp only[iO.cond]at hok|-;cases hx with
  |tup _ us hl hp=>
   have hi:i<us.length:=(by omega);refine iV.plain m (v:=us[i]) ?_ (hp i _ _ (by simp[List.getD_eq_getElem?_getD,hok]) (List.getElem?_eq_getElem hi));simp[execOp,ho,Instr.extract,hval,hi]
 ·exact hok.elim
theorem Gj(m:cV w0 X H β w){s t e:TypeId}(h1:P.underlying s=some .string)(h2:P.underlying t=some (.slice e))(h3:P.underlying e=some (.int .u8)){l:List UInt8}(hl:l.length<=16777216)
 (ho:(execOp a.eval o).run P w=(convert s t (.string ⟨l.toArray⟩)>>= λv=>pure (.value v)).run P w){c:Prop}:iV P w0 X H β w a o ⟨.d (.sl (l.map λb=>.int .u8 b.toNat)),c,[]⟩:=by
 obtain⟨S,hS⟩:∃S:ByteArray,S=⟨l.toArray⟩:=⟨_,rfl⟩;have hSl:S.size=l.length:=by rw[hS];simp[ByteArray.size]
 have hSd:S.data.toList=l:=by rw[hS]
 rw[<-hS]at ho;have hcv:=Lib.run_convert_string_bytes (P:=P) w s t e S h1 h2 h3;have hge:=grownCap_ge w S.size 0 e;have hcm:grownCap w S.size 0 e<=maxLen:=grownCap_le_maxLen w S.size 0 e (by unfold maxLen;omega);have hold:=Lib.bytesWorld_at_old w e S;have hsz:=Lib.bytesWorld_size w e S;have hcl:=Lib.bytesWorld_cell w e S;have bel:BP w.heap.size w (Lib.bytesWorld w e S):=by
  refine⟨?_,?_,?_,by omega,λj hj=>hold j hj,?_⟩<;>(unfold Lib.bytesWorld World.freeze;split<;>first|rfl|exact Nat.le_succ w.drawn)
 obtain⟨m1,g1⟩:=m.grow bel;rw[Sem.run_bind,hcv]at ho;simp only[Result.andThen_ok,Sem.run_pure]at ho;refine bG (r:=⟨.d (.sl (l.map λb=>.int .u8 b.toNat)),c,[]⟩) ho m1 g1 (.d _ _ ?_);generalize grownCap w S.size 0 e=C at*;generalize Lib.bytesWorld w e S=w1 at*;by_cases hn:l=[]
 ·subst hn;rw[show S.size=0 by simpa using hSl];exact .sl0 _ C hcm
 ·have hnx:¬Ex X β H w.heap.size:=λhe=>by
   rcases he with he|⟨id,hm,hb⟩
   ·have:=(m.xold.1 _ he).1;have:=m.ext.size;omega
   ·have:=(m.fresh id _ (bV hm) hb).2;omega
  have hfl:bB (l.map λb=>DV.int .u8 b.toNat)=l.map λb=>DV.int .u8 b.toNat:=by
   clear hl hSl hSd hn hS;induction l with
   |nil=>rfl
   |cons x r ih=>simp only[bB,List.map_cons,List.flatMap_cons]at*;rw[ih];rfl
  have hR:=RD.sl (w:=w1) (E:=Ex X β H) (l.map λb=>DV.int .u8 b.toNat) w.heap.size 0 C 1 (l.map λb=>Value.int .u8 b.toNat) (by simpa using hn) hnx (λx hx=>by obtain⟨b,_,rfl⟩:=List.mem_map.1 hx;rfl) (by simp;omega) hcm (by simp)
   (λu hu=>by obtain⟨b,_,rfl⟩:=List.mem_map.1 hu;rfl) (by omega) (λj u hj=>by
     have hjl:j<l.length:=by have:=(List.getElem?_eq_some_iff.1 hj).1;simpa using this
     rw[Nat.zero_add,hcl j (by omega),hSd];rw[List.getElem?_map,List.getElem?_eq_getElem hjl]at hj;simp only[Option.map_some,Option.some.injEq]at hj;rw[<-hj,List.getD_eq_getElem?_getD,List.getElem?_eq_getElem hjl];rfl) (λi d v hd hv=>by
     rw[hfl]at hd;have hil:i<l.length:=by have:=(List.getElem?_eq_some_iff.1 hv).1;simpa using this
     rw[List.getElem?_map,List.getElem?_eq_getElem hil]at hd hv;simp only[Option.map_some,Option.some.injEq]at hd hv;rw[<-hd,<-hv];exact .int _ _)
  rw[List.length_map,<-hSl]at hR;exact hR
theorem Nh(hT:fC P T)(m:cV w0 X H β w)(hg:∀x,R w (Ex X β H) β H (g x) (a.eval x)){s t:TypeId}{x:Operand}(ho:o.op=.convert s t x)(hok:(aZ T H s t (g x)).ok):iV P w0 X H β w a o (aZ T H s t (g x)):=by
 have hx:=hg x;generalize g x=lx at*;generalize hval:a.eval x=vx at hx;unfold aZ at*;split at hok
 ·rename_i k' k k2 n hk1 hk2;have h1:=hT.int hk1;have h2:=hT.int hk2;have:=hx.int;subst this;exact iV.plain m (v:=.int k (k.wrap n)) (by simp[execOp,ho,hval,convert,run_underlying h1,run_underlying h2,Conv.intToInt]) (bO _ _)
 ·rename_i s' hk1 hk2;have h1:=hT.str hk1;have h2:=hT.str hk2;have:=hx.str;subst this;exact iV.plain m (v:=.string ⟨s'.toArray⟩) (by simp[execOp,ho,hval,convert,run_underlying h1,run_underlying h2]) (zT _)
 ·rename_i e s' hk1 hk2;split at hok
  ·rename_i hk3;simp only[iO.cond]at hok|-;have:=hx.str;subst this;exact Gj m (hT.str hk1) (hT.slice hk2) (hT.int hk3) hok (by simp only[execOp,ho,hval])
  ·exact hok.elim
 ·rename_i lx _ _ _ e hk1 hk2;split at hok
  ·rename_i ys hk3 hy;simp only[iO.cond]at hok|-;have h1:=hT.slice hk1;have h2:=hT.str hk2;have h3:=hT.int hk3;have hns:∀s',lx≠ .d (.str s'):=by intro s' e;subst e;simp[oQ]at hy
   have hy':cZ H lx=some ys:=by
    unfold oQ at hy;split at hy
    ·exact absurd rfl (hns _)
    ·exact hy
   obtain⟨news,e1,e2,e3,e4,e5⟩:=gK (P:=P) m hx hy' (s:=1) (λy hy=>by obtain⟨n,rfl⟩:=hok y hy;rfl);have hform:∃b c,vx=.slice b ys.length c:=by
    clear hval hy e2 e5;cases vx<;>simp only[Builtin.lenOf,run_stuck,Sem.run_pure,Result.ok.injEq,and_true,reduceCtorEq]at e1
    case slice b n c=>exact⟨b,c,by rw[e1]⟩
    case string str=>
     exfalso;unfold cZ at hy';split at hy'
     ·cases hx with|d _ _ hx=>cases hx
     ·exact absurd rfl (hns _)
     ·cases hx
     ·split at hy'
      ·rename_i hH;cases hx with|owdead _ _ _ _ hd=>rw[hH]at hd;cases hd
      ·cases hy'
     ·split at hy'
      ·rename_i hH;cases hx with|ocdead _ _ _ _ _ hd=>rw[hH]at hd;cases hd
      ·cases hy'
     ·cases hy'
   obtain⟨b,c,hv⟩:=hform;have hfl:bB ys=ys:=by
    have key:∀l:List DV,(∀y∈l,∃n,y=.int .u8 n)->bB l=l:=by
     intro l;induction l with
     |nil=>intro _;rfl
     |cons y t ih=>
      intro hl;obtain⟨n,rfl⟩:=hl y (by simp);have:=ih (λy hy=>hl y (by simp[hy]));simp only[bB,List.flatMap_cons]at*;rw[this];rfl
    exact key ys hok
   rw[hfl]at e5;have hnews:news=(ys.map λ| .int _ n=>n|_=>0).map (Value.int .u8):=by
    apply List.ext_getElem
    ·simp[e3]
    ·intro i h1 h2;have hi:i<ys.length:=by omega
     obtain⟨n,hn⟩:=hok _ (List.getElem_mem hi);have:=e5 i _ _ (List.getElem?_eq_getElem hi) (List.getElem?_eq_getElem h1);rw[hn]at this;have hd:=R.int (R.d (β:=β) (H:=H) _ _ this);rw[hd];simp[hn]
   have hstr:∀(l:List Int) (r:ByteArray),l.foldl (λr n=>r.push (UInt8.ofNat n.toNat)) r=⟨(r.data.toList++l.map λn=>UInt8.ofNat n.toNat).toArray⟩:=by
    intro l;induction l with
    |nil=>intro r;simp
    |cons x t ih=>intro r;rw[List.foldl_cons,ih];simp[ByteArray.push]
   have hbytes:(ys.map λ| .int _ n=>n|_=>0).map (λn:Int=>UInt8.ofNat n.toNat)=ys.map iX:=by
    rw[List.map_map];apply List.map_congr_left;intro y hy;obtain⟨n,rfl⟩:=hok y hy;rfl
   refine iV.plain m (v:=.string ⟨(ys.map iX).toArray⟩) ?_ (zT _);subst hv;cases b with
   |none=>
    have hz:ys=[]:=by
     have:=e2 w rfl;simp only[Builtin.firstCells,Sem.run_pure,Result.ok.injEq,and_true]at this;have hn0:news=[]:=by simpa using this.symm
     rw[hn0]at e3;exact List.eq_nil_of_length_eq_zero (by simpa using e3.symm)
    subst hz;simp[execOp,ho,hval,convert,run_underlying h1,run_underlying h2,run_underlying h3,Conv.bytesToString];rfl
   |some b=>
    have hl:=e2 w rfl;simp only[Builtin.firstCells,Nat.mul_one]at hl;rw[hnews]at hl;have hr:=run_bytesToString w b ys.length c _ hl;rw[hstr,hbytes]at hr;simp[execOp,ho,hval,convert,run_underlying h1,run_underlying h2,run_underlying h3,hr]
  ·exact hok.elim
 ·exact hok.elim
theorem Et(m:cV w0 X H β w)(hg:∀x,R w (Ex X β H) β H (g x) (a.eval x)){f:FuncId}{first cs:Array Operand}(ho:o.op=.makeFunc (.func f) first cs)(hok:(if first.size=0 then iO.plain (.fn f (cs.toList.map g))else iO.cond (.bm f (first.toList.map g)) (cs.size=0)).ok):
 iV P w0 X H β w a o (if first.size=0 then iO.plain (.fn f (cs.toList.map g))else iO.cond (.bm f (first.toList.map g)) (cs.size=0)):=by
 have pt:∀xs:Array Operand,∀(i:Nat) (l:LV) (v:Value),(xs.toList.map g)[i]? =some l->(xs.toList.map a.eval)[i]? =some v->R w (Ex X β H) β H l v:=λxs i l v hl hv=>by
  obtain⟨x,hx,rfl⟩:=fK hl;obtain⟨y,hy,rfl⟩:=fK hv;rw[hx]at hy;injection hy with hy;subst hy
  exact hg x
 have ea:∀xs:Array Operand,(xs.toList.map a.eval).toArray=xs.map a.eval:=λxs=>by apply Array.ext';simp
 split at hok
 ·rename_i h0;rw[if_pos h0];have h0':first= #[]:=by simpa using h0
  subst h0';refine iV.plain m (v:=.func (.func f) #[] (cs.toList.map a.eval).toArray) ?_ (.fn f _ _ (by simp) (pt cs));simp[execOp,ho,Instr.makeFunc,ea]
 ·rename_i h0;rw[if_neg h0];have h1:cs= #[]:=by simpa [iO.cond]using hok
  subst h1;refine iV.plain m (v:=.func (.func f) (first.toList.map a.eval).toArray #[]) ?_ (.bm f _ _ (by simp) (pt first));simp[execOp,ho,Instr.makeFunc,ea]
end
end
section
open Go.RowKit
theorem pY:∀{σ:List (Nat×Nat)} {i j:Nat},cY σ i=some j->(i,j)∈σ
 |[],_,_,h=>by simp[cY]at h
 |p::r,i,j,h=>by
  simp only[cY]at h;split at h
  ·rename_i e;injection h with h;subst e;subst h;exact List.mem_cons_self ..
  ·exact List.mem_cons_of_mem _ (pY h)
theorem kV{α γ:Type}{f:α->γ}:∀{l:List α},(l.map f).Nodup->∀p q,p∈l->q∈l->f p=f q->p=q
 |[],_,_,_,hp,_,_=>by cases hp
 |x::r,h,p,q,hp,hq,e=>by
  simp only[List.map_cons,List.nodup_cons]at h;rcases List.mem_cons.1 hp with hp1|hp1<;>rcases List.mem_cons.1 hq with hq1|hq1
  ·rw[hp1,hq1]
  ·exact absurd (List.mem_map.2 ⟨q,hq1,by rw[<-e,hp1]⟩) h.1
  ·exact absurd (List.mem_map.2 ⟨p,hp1,by rw[e,hq1]⟩) h.1
  ·exact kV h.2 p q hp1 hq1 e
theorem eO(σ:List (Nat×Nat))(o:aV):(cL σ o).live=o.live:=by cases o<;>rfl
theorem pE(σ:List (Nat×Nat))(o:aV):(cL σ o).mut=o.mut:=by cases o<;>rfl
theorem R.ren{w:World}{E E':Nat->Prop}{β β':Nat->Option Nat}{H H':Nat->aV}{σ:List (Nat×Nat)}(hD:∀x v,RD w E x v->RD w E' x v)(hH:∀i j,cY σ i=some j->H' j=cL σ (H i)/\β' j=β i):
 ∀(n:Nat) (l:LV) (v:Value),R w E β H l v->R w E' β' H' (ren σ n l) v:=by
 intro n;induction n with
 |zero=>intro l v _;exact .junk _
 |succ n ih=>
  intro l v h;have list:∀(cs:List LV) (vs:List Value),(∀(i:Nat) (c:LV) (v:Value),cs[i]? =some c->vs[i]? =some v->R w E β H c v)->∀(i:Nat) (c:LV) (v:Value),(cs.map (Eng.ren σ n))[i]? =some c->vs[i]? =some v->R w E' β' H' c v:=by
   intro cs vs hp i c v hc hv;obtain⟨c0,hc0,rfl⟩:=fK hc;exact ih _ _ (hp i c0 v hc0 hv)
  cases h with
  |d x v h=>exact .d _ _ (hD _ _ h)
  |agg cs vs hl h1 h=>exact .agg _ vs (by simpa using hl) h1 (list cs vs h)
  |fn f cs vs hl h=>exact .fn f _ vs (by simpa using hl) (list cs vs h)
  |bm f cs vs hl h=>exact .bm f _ vs (by simpa using hl) (list cs vs h)
  |tup cs vs hl h=>exact .tup _ vs (by simpa using hl) (list cs vs h)
  |bx id off b fz cs h1 h2=>
   simp only[Eng.ren];cases q:cY σ id with
   |none=>exact .junk _
   |some j=>obtain⟨e1,e2⟩:=hH id j q;exact .bx j off b fz _ (by rw[e1,h1];rfl) (by rw[e2];exact h2)
  |bxdead id off v h1 h2=>
   simp only[Eng.ren];cases q:cY σ id with
   |none=>exact .junk _
   |some j=>obtain⟨e1,e2⟩:=hH id j q;exact .bxdead j off v (by rw[e1,h1];rfl) h2
  |rp id k j b fz size xs h1 h2=>
   simp only[Eng.ren];cases q:cY σ id with
   |none=>exact .junk _
   |some i=>obtain⟨e1,e2⟩:=hH id i q;exact .rp i k j b fz size xs (by rw[e1,h1];rfl) (by rw[e2];exact h2)
  |rpdead id k j v h1 h2=>
   simp only[Eng.ren];cases q:cY σ id with
   |none=>exact .junk _
   |some i=>obtain⟨e1,e2⟩:=hH id i q;exact .rpdead i k j v (by rw[e1,h1];rfl) h2
  |ow id k m b c fz size xs cur e h1 h2 h3 h4 h5 h6 h7=>
   simp only[Eng.ren];cases q:cY σ id with
   |none=>exact .junk _
   |some i=>obtain⟨e1,e2⟩:=hH id i q;exact .ow i k m b c fz size xs cur e (by rw[e1,h1];rfl) (by rw[e2];exact h2) h3 h4 h5 h6 h7
  |ow0 id k a fz size xs h1 h2=>
   simp only[Eng.ren];cases q:cY σ id with
   |none=>exact .junk _
   |some i=>obtain⟨e1,e2⟩:=hH id i q;exact .ow0 i k a fz size xs (by rw[e1,h1];rfl) (by rw[e2];exact h2)
  |owdead id k m v h1 h2=>
   simp only[Eng.ren];cases q:cY σ id with
   |none=>exact .junk _
   |some i=>obtain⟨e1,e2⟩:=hH id i q;exact .owdead i k m v (by rw[e1,h1];rfl) h2
  |oc id k m c p fz size xs h1 h2 h3 h4 h5=>
   simp only[Eng.ren];cases q:cY σ id with
   |none=>exact .junk _
   |some i=>obtain⟨e1,e2⟩:=hH id i q;exact .oc i k m c p fz size xs (by rw[e1,h1];rfl) h2 h3 h4 (by rw[e2];exact h5)
  |ocdead id k m c v h1 h2=>
   simp only[Eng.ren];cases q:cY σ id with
   |none=>exact .junk _
   |some i=>obtain⟨e1,e2⟩:=hH id i q;exact .ocdead i k m c v (by rw[e1,h1];rfl) h2
  |sb id k m c p b fz cs h1 h2 h3 h4 h5=>
   simp only[Eng.ren];cases q:cY σ id with
   |none=>exact .junk _
   |some i=>obtain⟨e1,e2⟩:=hH id i q;exact .sb i k m c p b fz (cs.map (Eng.ren σ 8)) (by rw[e1,h1];rfl) (by rw[e2];exact h2) h3 h4 h5
  |sbdead id k m c v h1 h2=>
   simp only[Eng.ren];cases q:cY σ id with
   |none=>exact .junk _
   |some i=>obtain⟨e1,e2⟩:=hH id i q;exact .sbdead i k m c v (by rw[e1,h1];rfl) h2
  |when=>exact .junk _
  |nl a=>exact .nl a
  |mp id b fz ks vs h1 h2=>
   simp only[Eng.ren];cases q:cY σ id with
   |none=>exact .junk _
   |some i=>obtain⟨e1,e2⟩:=hH id i q;exact .mp i b fz ks vs (by rw[e1,h1];rfl) (by rw[e2];exact h2)
  |mpdead id v h1 h2=>
   simp only[Eng.ren];cases q:cY σ id with
   |none=>exact .junk _
   |some i=>obtain⟨e1,e2⟩:=hH id i q;exact .mpdead i v (by rw[e1,h1];rfl) h2
  |it id b fz ks vs h1 h2=>
   simp only[Eng.ren];cases q:cY σ id with
   |none=>exact .junk _
   |some i=>obtain⟨e1,e2⟩:=hH id i q;exact .it i b fz ks vs (by rw[e1,h1];rfl) (by rw[e2];exact h2)
  |itdead id v h1 h2=>
   simp only[Eng.ren];cases q:cY σ id with
   |none=>exact .junk _
   |some i=>obtain⟨e1,e2⟩:=hH id i q;exact .itdead i v (by rw[e1,h1];rfl) h2
  |junk=>exact .junk _
theorem bL.of_ren{σ:List (Nat×Nat)}{w w':World}{β β1 β2:Nat->Option Nat}{H0 H1 H2:Nat->aV}{id:Nat}(h:bL w β H0 w' β1 H1 id)(e:H2 id=cL σ (H1 id))(eb:β2 id=β1 id):bL w β H0 w' β2 H2 id:=by
 unfold bL at*;rw[e,eb];cases q:H0 id with
 |absent=>trivial
 |dead=>simp only[q]at h;simp only[h,cL]
 |box fz cs=>
  simp only[q]at h;rcases h with h|⟨⟨fz',cs',h⟩,hb⟩
  ·exact .inl (by rw[h];rfl)
  ·exact .inr ⟨⟨fz',_,by rw[h];rfl⟩,hb⟩
 |row fz s xs=>
  simp only[q]at h;rcases h with h|⟨⟨fz',xs',h,hl⟩,hb⟩
  ·exact .inl (by rw[h];rfl)
  ·exact .inr ⟨⟨fz',xs',by rw[h];rfl,hl⟩,hb⟩
 |map fz ks vs=>
  simp only[q]at h;rcases h with h|⟨⟨fz',k',v',h⟩,hb⟩
  ·exact .inl (by rw[h];rfl)
  ·exact .inr ⟨⟨fz',k',v',by rw[h];rfl⟩,hb⟩
 |iter fz ks vs=>
  simp only[q]at h;rcases h with h|⟨⟨fz',k',v',h⟩,hb⟩
  ·exact .inl (by rw[h];rfl)
  ·exact .inr ⟨⟨fz',k',v',by rw[h];rfl⟩,hb⟩
 |know x v=>trivial
theorem Gk{σ τ:List (Nat×Nat)}{w w':World}{β β1 β2 β3:Nat->Option Nat}{H H1 H2 H3:Nat->aV}{id j:Nat}(h:bL w β1 H1 w' β2 H2 j)(e:H1 j=cL σ (H id))(eb:β1 j=β id)(e':H3 id=cL τ (H2 j))(eb':β3 id=β2 j):bL w β H w' β3 H3 id:=by
 unfold bL at*;rw[e,eb]at h;rw[e',eb'];cases q:H id with
 |absent=>trivial
 |dead=>rw[q]at h;simp only[cL]at h|-;rw[h]
 |box fz cs=>
  rw[q]at h;simp only[cL]at h;rcases h with h|⟨⟨fz',cs',h⟩,hb⟩
  ·exact .inl (by rw[h];rfl)
  ·exact .inr ⟨⟨fz',_,by rw[h];rfl⟩,hb⟩
 |row fz s xs=>
  rw[q]at h;simp only[cL]at h;rcases h with h|⟨⟨fz',xs',h,hl⟩,hb⟩
  ·exact .inl (by rw[h];rfl)
  ·exact .inr ⟨⟨fz',xs',by rw[h];rfl,hl⟩,hb⟩
 |map fz ks vs=>
  rw[q]at h;simp only[cL]at h;rcases h with h|⟨⟨fz',k',v',h⟩,hb⟩
  ·exact .inl (by rw[h];rfl)
  ·exact .inr ⟨⟨fz',k',v',by rw[h];rfl⟩,hb⟩
 |iter fz ks vs=>
  rw[q]at h;simp only[cL]at h;rcases h with h|⟨⟨fz',k',v',h⟩,hb⟩
  ·exact .inl (by rw[h];rfl)
  ·exact .inr ⟨⟨fz',k',v',by rw[h];rfl⟩,hb⟩
 |know x v=>trivial
def iP(l:List (Nat×Nat))(β:Nat->Option Nat)(j:Nat):Option Nat:=((l.find? λp=>p.2=j).map λp=>p.1).bind β
theorem KD(σ:List (Nat×Nat))(H:Nat->aV)(β:Nat->Option Nat)(j:Nat):∀l:List (Nat×Nat),
 (∃p∈l,p.2=j/\aL (l.map λp=>(p.2,cL σ (H p.1))) j=cL σ (H p.1)/\iP l β j=β p.1)\/
   (aL (l.map λp=>(p.2,cL σ (H p.1))) j=.absent/\iP l β j=none/\∀p∈l,p.2≠j):=by
 intro l;unfold aL iP;induction l with
 |nil=>right;exact⟨rfl,rfl,by simp⟩
 |cons q r ih=>
  by_cases hq:q.2=j
  ·left;exact⟨q,List.mem_cons_self ..,hq,by simp[gP,hq],by simp[hq]⟩
  ·simp only[List.map_cons,gP,if_neg (λe:j=q.2=>hq e.symm),List.find?_cons];have:(decide (q.2=j))=false:=by simpa using hq
   simp only[this];rcases ih with⟨p,hp,h1,h2,h3⟩|⟨h1,h2,h3⟩
   ·exact .inl ⟨p,List.mem_cons_of_mem _ hp,h1,h2,h3⟩
   ·refine .inr ⟨h1,h2,λp hp=>?_⟩;rcases List.mem_cons.1 hp with rfl|hp
    ·exact hq
    ·exact h3 p hp
theorem IA(τ:List (Nat×Nat))(F H:Nat->aV)(β:Nat->Option Nat)(j:Nat):∀l:List (Nat×Nat),
 (∃p∈l,p.2=j/\bP H (l.map λp=>(p.2,cL τ (F p.1))) j=cL τ (F p.1)/\iP l β j=β p.1)\/
   (bP H (l.map λp=>(p.2,cL τ (F p.1))) j=H j/\∀p∈l,p.2≠j):=by
 intro l;unfold iP;induction l with
 |nil=>right;exact⟨rfl,by simp⟩
 |cons q r ih=>
  by_cases hq:q.2=j
  ·left;exact⟨q,List.mem_cons_self ..,hq,by simp[bP,hq],by simp[hq]⟩
  ·simp only[List.map_cons,bP,if_neg (λe:j=q.2=>hq e.symm),List.find?_cons];have:(decide (q.2=j))=false:=by simpa using hq
   simp only[this];rcases ih with⟨p,hp,h1,h2,h3⟩|⟨h1,h3⟩
   ·exact .inl ⟨p,List.mem_cons_of_mem _ hp,h1,h2,h3⟩
   ·refine .inr ⟨h1,λp hp=>?_⟩;rcases List.mem_cons.1 hp with rfl|hp
    ·exact hq
    ·exact h3 p hp
theorem cP.ren{w:World}{E E':Nat->Prop}{β β':Nat->Option Nat}{H H':Nat->aV}{σ:List (Nat×Nat)}(hE:∀k,E' k->E k)(hH:∀i j,cY σ i=some j->H' j=cL σ (H i)/\β' j=β i)
 {i j:Nat}(e1:H' j=cL σ (H i))(e2:β' j=β i)(ho:cP w E β H i):cP w E' β' H' j:=by
 have hD:∀x v,RD w E x v->RD w E' x v:=λx v h=>h.anti hE;have hR:=R.ren hD hH;unfold cP at*;rw[e1];cases q:H i with
 |absent=>trivial
 |dead=>trivial
 |box fz cs=>
  rw[q]at ho;simp only[cL]at ho|-;obtain⟨b,e,us,h1,h2,h3,h4,h5⟩:=ho;refine⟨b,e,us,by rw[e2];exact h1,h2,by simpa using h3,h4,λi c v hc hv=>?_⟩;obtain⟨c0,hc0,rfl⟩:=fK hc;exact hR 8 _ _ (h5 i c0 v hc0 hv)
 |row fz size xs=>
  rw[q]at ho;simp only[cL]at ho|-;obtain⟨h1,h2,h3⟩:=ho;refine⟨h1,h2,?_⟩;rcases h3 with⟨h3,h4⟩|⟨b,e,cur,h3,h4,h5,h6⟩
  ·exact .inl ⟨by rw[e2];exact h3,h4⟩
  ·exact .inr ⟨b,e,cur,by rw[e2];exact h3,h4,h5,λi d v hd hv=>⟨(h6 i d v hd hv).1,hD _ _ (h6 i d v hd hv).2⟩⟩
 |map fz ks vs=>
  rw[q]at ho;simp only[cL]at ho|-;obtain⟨b,arr,clock,h1,h2,h3,h4,h5,h6,h7⟩:=ho;exact⟨b,arr,clock,by rw[e2];exact h1,h2,h3,h4,h5,λi d e hd he=>hD _ _ (h6 i d e hd he),λi d e hd he=>hD _ _ (h7 i d e hd he)⟩
 |iter fz ks vs=>
  rw[q]at ho;simp only[cL]at ho|-;obtain⟨b,bm,arr,clock,seen,last,h1,h2,h3,h4,h5,h6,h7,h8,h9,h10,h11⟩:=ho;exact⟨b,bm,arr,clock,seen,last,by rw[e2];exact h1,h2,λh=>h3 (hE _ h),h4,h5,h6,h7,h8,h9,λi d e hd he=>hD _ _ (h10 i d e hd he),λi d e hd he=>hD _ _ (h11 i d e hd he)⟩
 |know x v=>
  rw[q]at ho;simp only[cL]at ho|-;exact hR 8 _ _ ho
section
variable{w0:cX} {X:Nat->Prop} {H:Nat->aV} {β:Nat->Option Nat} {w:World}
theorem cV.callG(m:cV w0 X H β w)(σ new:List (Nat×Nat))(hn1:((fL σ new).map (·.1)).Nodup)(hn2:((fL σ new).map (·.2)).Nodup)(hnew:∀p∈new,H p.2=.absent):
 ∃(Xc:Nat->Prop) (βc:Nat->Option Nat),(∀k,Xc k->k<w.heap.size)/\
  cV ⟨w,βc,aL (σ.map λp=>(p.2,cL σ (H p.1))),σ.map (·.2),false⟩ Xc (aL (σ.map λp=>(p.2,cL σ (H p.1)))) βc w/\
  (∀x v,RD w (Ex X β H) x v->RD w (Ex Xc βc (aL (σ.map λp=>(p.2,cL σ (H p.1))))) x v)/\
  (∀l v,R w (Ex X β H) β H l v->R w (Ex Xc βc (aL (σ.map λp=>(p.2,cL σ (H p.1))))) βc (aL (σ.map λp=>(p.2,cL σ (H p.1)))) (Eng.ren σ 8 l) v)/\
  ∀(F:Nat->aV) (β':Nat->Option Nat) (w':World),cV ⟨w,βc,aL (σ.map λp=>(p.2,cL σ (H p.1))),σ.map (·.2),false⟩ Xc F β' w'->
   ∃β2,cV w0 X (bP H ((fL σ new).map λp=>(p.2,cL (fL σ new) (F p.1)))) β2 w'/\eY X H β w (bP H ((fL σ new).map λp=>(p.2,cL (fL σ new) (F p.1)))) β2 w'/\
    ∀l v,R w' (Ex Xc β' F) β' F l v->R w' (Ex X β2 (bP H ((fL σ new).map λp=>(p.2,cL (fL σ new) (F p.1))))) β2 (bP H ((fL σ new).map λp=>(p.2,cL (fL σ new) (F p.1)))) (Eng.ren (fL σ new) 8 l) v:=by
 generalize hhc:aL (σ.map λp=>(p.2,cL σ (H p.1)))=hc;generalize hτ:fL σ new=τ at*;have m1:τ.map (·.1)=σ.map (·.2)++new.map (·.1):=by rw[<-hτ];simp[fL]
 have m2:τ.map (·.2)=σ.map (·.1)++new.map (·.2):=by rw[<-hτ];simp[fL]
 have hσ2:(σ.map (·.2)).Nodup:=by rw[m1]at hn1;exact(List.nodup_append.1 hn1).1
 have hσ1:(σ.map (·.1)).Nodup:=by rw[m2]at hn2;exact(List.nodup_append.1 hn2).1
 have hτσ:∀p∈σ,(p.2,p.1)∈τ:=λp hp=>by rw[<-hτ];exact List.mem_append.2 (.inl (List.mem_map.2 ⟨p,hp,rfl⟩))
 have hτc:∀p∈τ,(p.2,p.1)∈σ\/p∈new:=λp hp=>by
  rw[<-hτ]at hp;rcases List.mem_append.1 hp with hp|hp
  ·obtain⟨q,hq,rfl⟩:=List.mem_map.1 hp;exact .inl hq
  ·exact .inr hp
 have lookc:∀j,(∃p∈σ,p.2=j/\hc j=cL σ (H p.1)/\iP σ β j=β p.1)\/(hc j=.absent/\iP σ β j=none/\∀p∈σ,p.2≠j):=λj=>by rw[<-hhc];exact KD σ H β j σ
 have at_c:∀p∈σ,hc p.2=cL σ (H p.1)/\iP σ β p.2=β p.1:=λp hp=>by
  rcases lookc p.2 with⟨q,hq,h1,h2,h3⟩|⟨_,_,h3⟩
  ·have:=kV hσ2 q p hq hp h1;subst this;exact⟨h2,h3⟩
  ·exact absurd rfl (h3 p hp)
 let Xc:Nat->Prop:=λk=>X k\/∃id,(∀p∈σ,p.1≠id)/\(H id).mut=true/\β id=some k
 have hXX:∀k,Xc k->Ex X β H k:=λk hk=>by
  rcases hk with hk|⟨id,_,h2,h3⟩
  ·exact .inl hk
  ·exact .inr ⟨id,h2,h3⟩
 have hEc:∀k,Ex Xc (iP σ β) hc k->Ex X β H k:=λk hk=>by
  rcases hk with hk|⟨j,h1,h2⟩
  ·exact hXX k hk
  ·rcases lookc j with⟨p,hp,_,e1,e2⟩|⟨e1,_,_⟩
   ·rw[e1,pE]at h1;exact .inr ⟨p.1,h1,by rw[<-e2];exact h2⟩
   ·rw[e1]at h1;cases h1
 have hHc:∀i j,cY σ i=some j->hc j=cL σ (H i)/\iP σ β j=β i:=λi j h=>at_c (i,j) (pY h);have hDc:∀x v,RD w (Ex X β H) x v->RD w (Ex Xc (iP σ β) hc) x v:=λx v h=>h.anti hEc;refine⟨Xc,iP σ β,λk hk=>(hXX k hk).lt m,?_,hDc,λl v h=>R.ren hDc hHc 8 l v h,?_⟩
 ·refine⟨⟨rfl,rfl,rfl,Nat.le_refl _,λ_ _ _=>rfl,Nat.le_refl _⟩,⟨λk hk=>⟨(hXX k hk).lt m,λhmn=>?_⟩,m.globL.anti λk hk=>?_⟩,λj b hl hb=>?_,λi j b hi hj h1 h2=>?_,λj=>?_,λid _=>bL.refl id⟩
  ·obtain⟨j,hj,h1,h2⟩:=hmn;obtain⟨p,hp,rfl⟩:=List.mem_map.1 hj;obtain⟨e1,e2⟩:=at_c p hp;have h1:(hc p.2).live=true:=h1;have h2:iP σ β p.2=some k:=h2;rw[e1,eO]at h1;rw[e2]at h2;rcases hk with hk|⟨id,g1,g2,g3⟩
   ·rcases(m.fresh p.1 k h1 h2).1 with h|h
    ·have:=(m.xold.1 k hk).1;omega
    ·exact(m.xold.1 k hk).2 h.1
   ·exact g1 p hp (m.inj p.1 id k h1 (bV g2) h2 g3)
  ·rcases hk with hk|⟨j,hj,h1,h2⟩
   ·rcases hXX k hk with h|⟨id,h1,h2⟩
    ·exact .inl h
    ·exact .inr ⟨id,bV h1,h2⟩
   ·obtain⟨p,hp,rfl⟩:=List.mem_map.1 hj;obtain⟨e1,e2⟩:=at_c p hp;have h1:(hc p.2).live=true:=h1;have h2:iP σ β p.2=some k:=h2;rw[e1,eO]at h1;rw[e2]at h2;exact .inr ⟨p.1,h1,h2⟩
  ·rcases lookc j with⟨p,hp,e0,e1,e2⟩|⟨e1,_,_⟩
   ·have hl':=hl;rw[e1,eO]at hl';exact⟨.inr ⟨⟨j,List.mem_map.2 ⟨p,hp,e0⟩,hl,hb⟩,λhm=>⟨j,List.mem_map.2 ⟨p,hp,e0⟩,hm,hb⟩⟩,(m.fresh p.1 b hl' (by rw[<-e2];exact hb)).2⟩
   ·rw[e1]at hl;cases hl
  ·rcases lookc i with⟨p,hp,p1,e1,e2⟩|⟨e1,_,_⟩
   ·rcases lookc j with⟨q,hq,q1,f1,f2⟩|⟨f1,_,_⟩
    ·rw[e1,eO]at hi;rw[f1,eO]at hj;have:=m.inj p.1 q.1 b hi hj (by rw[<-e2];exact h1) (by rw[<-f2];exact h2);have:=kV hσ1 p q hp hq this;rw[<-p1,<-q1,this]
    ·rw[f1]at hj;cases hj
   ·rw[e1]at hi;cases hi
  ·rcases lookc j with⟨p,hp,p1,e1,e2⟩|⟨e1,_,_⟩
   ·exact cP.ren hEc hHc e1 e2 (m.obj p.1)
   ·unfold cP;rw[e1];trivial
 ·intro F β' w' mc;generalize hH2:bP H (τ.map λp=>(p.2,cL τ (F p.1)))=H2
  let β2:Nat->Option Nat:=λid=>if(τ.any λp=>p.2==id)=true then iP τ β' id else β id
  have look2:∀id,(∃p∈τ,p.2=id/\H2 id=cL τ (F p.1)/\β2 id=β' p.1)\/(H2 id=H id/\β2 id=β id/\∀p∈τ,p.2≠id):=λid=>by
   rcases IA τ F H β' id τ with⟨p,hp,h1,h2,h3⟩|⟨h1,h2⟩
   ·refine .inl ⟨p,hp,h1,by rw[<-hH2];exact h2,?_⟩;show(if(τ.any λp=>p.2==id)=true then iP τ β' id else β id)=_;rw[if_pos (List.any_eq_true.2 ⟨p,hp,by simpa using h1⟩)];exact h3
   ·refine .inr ⟨by rw[<-hH2];exact h1,?_,h2⟩;show(if(τ.any λp=>p.2==id)=true then iP τ β' id else β id)=_;rw[if_neg];intro h;obtain⟨p,hp,h⟩:=List.any_eq_true.1 h;exact h2 p hp (by simpa using h)
  have at2:∀p∈τ,H2 p.2=cL τ (F p.1)/\β2 p.2=β' p.1:=λp hp=>by
   rcases look2 p.2 with⟨q,hq,h1,h2,h3⟩|⟨_,_,h3⟩
   ·have:=kV hn2 q p hq hp h1;subst this;exact⟨h2,h3⟩
   ·exact absurd rfl (h3 p hp)
  have hHo:∀i j,cY τ i=some j->H2 j=cL τ (F i)/\β2 j=β' i:=λi j h=>at2 (i,j) (pY h);have nots:∀id,(∀p∈τ,p.2≠id)->∀p∈σ,p.1≠id:=λid h p hp=>h _ (hτσ p hp);have hE2:∀k,Ex X β2 H2 k->Ex Xc β' F k:=λk hk=>by
   rcases hk with hk|⟨id,h1,h2⟩
   ·exact .inl (.inl hk)
   ·rcases look2 id with⟨p,hp,_,e1,e2⟩|⟨e1,e2,e3⟩
    ·rw[e1,pE]at h1;exact .inr ⟨p.1,h1,by rw[<-e2];exact h2⟩
    ·rw[e1]at h1;rw[e2]at h2;exact .inl (.inr ⟨id,nots id e3,h1,h2⟩)
  have hD2:∀x v,RD w' (Ex Xc β' F) x v->RD w' (Ex X β2 H2) x v:=λx v h=>h.anti hE2
  let wc:cX:=⟨w,iP σ β,hc,σ.map (·.2),false⟩
  have mc:cV wc Xc F β' w':=mc;have own_c:∀k,wc.own k->∃p∈σ,(H p.1).mut=true/\β p.1=some k:=λk ⟨j,hj,h1,h2⟩=>by
   obtain⟨p,hp,rfl⟩:=List.mem_map.1 hj;obtain⟨e1,e2⟩:=at_c p hp;have h1:(hc p.2).mut=true:=h1;have h2:iP σ β p.2=some k:=h2;rw[e1,pE]at h1;rw[e2]at h2;exact⟨p,hp,h1,h2⟩
  have mine_c:∀k,wc.mine k->∃p∈σ,(H p.1).live=true/\β p.1=some k:=λk ⟨j,hj,h1,h2⟩=>by
   obtain⟨p,hp,rfl⟩:=List.mem_map.1 hj;obtain⟨e1,e2⟩:=at_c p hp;have h1:(hc p.2).live=true:=h1;have h2:iP σ β p.2=some k:=h2;rw[e1,eO]at h1;rw[e2]at h2;exact⟨p,hp,h1,h2⟩
  have same:∀id b,(∀p∈τ,p.2≠id)->(H id).live=true->β id=some b->w'.heap[b]? =w.heap[b]? :=λid b hid hl hb=>by
   refine mc.ext.block b (m.fresh id b hl hb).2 λho=>?_;obtain⟨p,hp,h1,h2⟩:=own_c b ho;exact nots id hid p hp (m.inj p.1 id b (bV h1) hl h2 hb)
  have g:eY X H β w H2 β2 w':=by
   refine⟨mc.ext.size,λk hk he=>mc.ext.block k hk λho=>?_,λk hk he=>?_,λid=>?_⟩
   ·obtain⟨p,hp,h1,h2⟩:=own_c k ho;exact he (.inr ⟨p.1,h1,h2⟩)
   ·rcases hE2 k he with h|⟨j,h1,h2⟩
    ·exact hXX k h
    ·rcases(mc.fresh j k (bV h1) h2).1 with h|h
     ·have h:w.heap.size<=k:=h;omega
     ·obtain⟨p,hp,h3,h4⟩:=own_c k (h.2 h1);exact .inr ⟨p.1,h3,h4⟩
   ·rcases look2 id with⟨p,hp,hpid,e1,e2⟩|⟨e1,e2,e3⟩
    ·rcases hτc p hp with hq|hq
     ·have hpin:bL w (iP σ β) hc w' β' F p.1:=mc.pin p.1 (List.mem_map.2 ⟨_,hq,rfl⟩);obtain⟨c1,c2⟩:=at_c _ hq;simp only at c1 c2;rw[hpid]at c1 c2;exact Gk hpin c1 c2 e1 e2
     ·unfold bL;rw[<-hpid,hnew p hq];trivial
    ·have hp:=bL.refl (w:=w) (β:=β) (H:=H) id;unfold bL at*;rw[e1,e2];cases q:H id with
     |absent=>trivial
     |dead=>rfl
     |box fz cs=>simpa only[q]using hp
     |row fz s xs=>exact .inr ⟨⟨fz,xs,rfl,Nat.le_refl _⟩,rfl,λb cur t hbb hblk=>⟨cur,t,by rw[same id b e3 (by rw[q];rfl) hbb];exact hblk,rfl⟩⟩
     |map fz ks vs=>simpa only[q]using hp
     |iter fz ks vs=>simpa only[q]using hp
     |know x v=>trivial
  refine⟨β2,⟨⟨mc.ext.os.trans m.ext.os,mc.ext.tape.trans m.ext.tape,mc.ext.output.trans m.ext.output,Nat.le_trans m.ext.size mc.ext.size,λk hk hno=>?_,Nat.le_trans m.ext.drawn mc.ext.drawn⟩,m.xold,λid b hl hb=>?_,λi j b hi hj h1 h2=>?_,λid=>?_,λid hid=>(m.pin id hid).trans (g.pass id)⟩,g,λl v h=>R.ren hD2 hHo 8 l v h⟩
  ·refine(mc.ext.block k (Nat.lt_of_lt_of_le hk m.ext.size) λho=>?_).trans (m.ext.block k hk hno);obtain⟨p,hp,h1,h2⟩:=own_c k ho;rcases(m.fresh p.1 k (bV h1) h2).1 with h|h
   ·omega
   ·exact hno (h.2 h1)
  ·rcases look2 id with⟨p,hp,hpid,e1,e2⟩|⟨e1,e2,e3⟩
   ·rw[e1,eO]at hl;rw[e2]at hb;have hf:=mc.fresh p.1 b hl hb;refine⟨?_,hf.2⟩;by_cases hsz:w0.w.heap.size<=b
    ·exact .inl hsz
    ·right;rcases hf.1 with h|⟨h3,h4⟩
     ·exact absurd (Nat.le_trans m.ext.size h) hsz
     ·obtain⟨q,_,q1,q2⟩:=mine_c b h3;refine⟨((m.fresh q.1 b q1 q2).1.resolve_left hsz).1,λhm=>?_⟩;rw[e1,pE]at hm;obtain⟨r,_,r1,r2⟩:=own_c b (h4 hm);exact((m.fresh r.1 b (bV r1) r2).1.resolve_left hsz).2 r1
   ·rw[e1]at hl|-;rw[e2]at hb;have hf:=m.fresh id b hl hb;exact⟨hf.1,Nat.lt_of_lt_of_le hf.2 mc.ext.size⟩
  ·have cross:∀p∈τ,∀j,(∀p∈τ,p.2≠j)->(F p.1).live=true->β' p.1=some b->(H j).live=true->β j=some b->False:=λp hp j hj h1 h2 h3 h4=>by
    rcases(mc.fresh p.1 b h1 h2).1 with h|h
    ·have h:w.heap.size<=b:=h;have:=(m.fresh j b h3 h4).2;omega
    ·obtain⟨q,hq,q1,q2⟩:=mine_c b h.1;exact nots j hj q hq (m.inj q.1 j b q1 h3 q2 h4)
   rcases look2 i with⟨p,hp,p0,e1,e2⟩|⟨e1,e2,e3⟩
   ·rw[e1,eO]at hi;rw[e2]at h1;rcases look2 j with⟨q,hq,q0,f1,f2⟩|⟨f1,f2,f3⟩
    ·rw[f1,eO]at hj;rw[f2]at h2;have:=kV hn1 p q hp hq (mc.inj p.1 q.1 b hi hj h1 h2);rw[<-p0,<-q0,this]
    ·rw[f1]at hj;rw[f2]at h2;exact(cross p hp j f3 hi h1 hj h2).elim
   ·rw[e1]at hi;rw[e2]at h1;rcases look2 j with⟨q,hq,q0,f1,f2⟩|⟨f1,f2,f3⟩
    ·rw[f1,eO]at hj;rw[f2]at h2;exact(cross q hq i e3 hj h2 hi h1).elim
    ·rw[f1]at hj;rw[f2]at h2;exact m.inj i j b hi hj h1 h2
  ·rcases look2 id with⟨p,hp,p0,e1,e2⟩|⟨e1,e2,e3⟩
   ·exact cP.ren hE2 hHo e1 e2 (mc.obj p.1)
   ·exact(m.obj id).step g.size g.out (λ_ _=>g.D) (λ_ _=>g.R) e1 (λ_=>e2) λb hl hb=>same id b e3 hl hb
end
end
section
open Go.RowKit
def cI:List (Nat×aV)->Nat->Option aV
 |[],_=>none
 |p::r,j=>if j=p.1 then some p.2 else cI r j
def jU(l:List (Nat×aV))(B β:Nat->Option Nat)(id:Nat):Option Nat:=if(cI l id).isSome then B id else β id
section
variable{P:Program} {T:TypeId->eC} {w0:cX} {X:Nat->Prop} {H:Nat->aV} {β:Nat->Option Nat} {w w':World} {a:Act} {o:Oper} {g:Operand->LV} {E:Nat->Prop}
theorem dR(l:List (Nat×aV))(j:Nat):bP H l j=(cI l j).getD (H j):=by
 induction l with
 |nil=>rfl
 |cons p r ih=>
  simp only[bP,cI];split
  ·rfl
  ·exact ih
theorem cV.newMany(m:cV w0 X H β w)(hb:BP w.heap.size w w')(l:List (Nat×aV))(B:Nat->Option Nat)(hd:∀id o,cI l id=some o->H id=.absent)
 (hB:∀id o b,cI l id=some o->B id=some b->w.heap.size<=b/\b<w'.heap.size)(hinj:∀i j b,B i=some b->B j=some b->i=j)
 (ho:(∀x v,RD w (Ex X β H) x v->RD w' (Ex X (jU l B β) (bP H l)) x v)->∀id o,cI l id=some o->cP w' (Ex X (jU l B β) (bP H l)) (jU l B β) (bP H l) id):
 cV w0 X (bP H l) (jU l B β) w'/\eY X H β w (bP H l) (jU l B β) w':=by
 have old:∀id,cI l id=none->bP H l id=H id/\jU l B β id=β id:=λid h=>by rw[dR,h];exact⟨rfl,by simp[jU,h]⟩
 have new:∀id o,cI l id=some o->bP H l id=o/\jU l B β id=B id:=λid o h=>by rw[dR,h];exact⟨rfl,by simp[jU,h]⟩
 have hg:eY X H β w (bP H l) (jU l B β) w':=by
  refine⟨hb.size,λk hk _=>hb.block k hk,λk hk he=>?_,λid=>?_⟩
  ·rcases he with he|⟨id,h1,h2⟩
   ·exact .inl he
   ·cases q:cI l id with
    |some o=>rw[(new id o q).2]at h2;have:=(hB id o k q h2).1;omega
    |none=>rw[(old id q).1]at h1;rw[(old id q).2]at h2;exact .inr ⟨id,h1,h2⟩
  ·cases q:cI l id with
   |some o=>unfold bL;rw[hd id o q];trivial
   |none=>
    have hp:=(m.grow hb).2.pass id;unfold bL at*;rw[(old id q).1];rw[(old id q).2];exact hp
 refine⟨⟨m.ext.of_below hb,m.xold,λid b hl hbb=>?_,λi j b hi hj h1 h2=>?_,λid=>?_,λid hid=>(m.pin id hid).trans (hg.pass id)⟩,hg⟩
 ·cases q:cI l id with
  |some o=>rw[(new id o q).2]at hbb;have h1:=hB id o b q hbb;exact⟨.inl (Nat.le_trans m.ext.size h1.1),h1.2⟩
  |none=>rw[(old id q).1]at hl|-;rw[(old id q).2]at hbb;have:=m.fresh id b hl hbb;exact⟨this.1,Nat.lt_of_lt_of_le this.2 hb.size⟩
 ·cases qi:cI l i with
  |some oi=>
   rw[(new i oi qi).2]at h1;cases qj:cI l j with
   |some oj=>rw[(new j oj qj).2]at h2;exact hinj i j b h1 h2
   |none=>rw[(old j qj).1]at hj;rw[(old j qj).2]at h2;have:=hB i oi b qi h1;have:=(m.fresh j b hj h2).2;omega
  |none=>
   rw[(old i qi).1]at hi;rw[(old i qi).2]at h1;cases qj:cI l j with
   |some oj=>rw[(new j oj qj).2]at h2;have:=hB j oj b qj h2;have:=(m.fresh i b hi h1).2;omega
   |none=>rw[(old j qj).1]at hj;rw[(old j qj).2]at h2;exact m.inj i j b hi hj h1 h2
 ·cases q:cI l id with
  |some o=>exact ho (λ_ _=>hg.D) id o q
  |none=>exact(m.obj id).step hg.size hg.out (λ_ _=>hg.D) (λ_ _=>hg.R) (old id q).1 (λ_=>(old id q).2) λb hl hbb=>hb.block b (m.fresh id b hl hbb).2
theorem oE:∀(rs:List RV) (d id:Nat) (o:aV),cI (bX d rs) id=some o->∃i s xs,rs[i]? =some (.own s xs)/\id=d+1000*i/\o=.row false s xs
 |[],d,id,o,h=>by simp[bX,cI]at h
 |r::rs,d,id,o,h=>by
  have next:cI (bX (d+1000) rs) id=some o->∃i s xs,(r::rs)[i]? =some (.own s xs)/\id=d+1000*i/\o=.row false s xs:=λh=>by
   obtain⟨i,s,xs,h1,h2,h3⟩:=oE rs (d+1000) id o h;exact⟨i+1,s,xs,by simpa using h1,by omega,h3⟩
  cases r with
  |own s xs=>
   simp only[bX,kR,List.cons_append,List.nil_append,cI]at h;split at h
   ·rename_i e;injection h with h
    exact⟨0,s,xs,rfl,by simpa using e,h.symm⟩
   ·exact next h
  |d x=>simp only[bX,kR,List.nil_append]at h;exact next h
  |tup x=>simp only[bX,kR,List.nil_append]at h;exact next h
theorem rY:∀(rs:List RV) (d i s:Nat) (xs:List DV),rs[i]? =some (.own s xs)->cI (bX d rs) (d+1000*i)=some (.row false s xs)
 |[],d,i,s,xs,h=>by simp at h
 |r::rs,d,i,s,xs,h=>by
  have next:∀j,i=j+1->cI (bX (d+1000) rs) (d+1000*i)=some (.row false s xs):=λj e=>by
   subst e;have:=rY rs (d+1000) j s xs (by simpa using h);rw[<-this];congr 1;omega
  cases i with
  |zero=>simp at h;subst h;simp[bX,kR,cI]
  |succ j=>
   cases r with
   |own s' xs'=>simp only[bX,kR,List.cons_append,List.nil_append,cI];rw[if_neg (by omega)];exact next j rfl
   |d x=>simp only[bX,kR,List.nil_append];exact next j rfl
   |tup x=>simp only[bX,kR,List.nil_append];exact next j rfl
theorem AA:∀(rs:List RV) (d i:Nat) (l:LV),(mY d rs)[i]? =some l->∃r,rs[i]? =some r/\l=Em (d+1000*i) r
 |[],_,_,_,h=>by simp[mY]at h
 |r::rs,d,0,l,h=>by simp[mY]at h;exact⟨r,rfl,by simp[h]⟩
 |r::rs,d,i+1,l,h=>by
  simp only[mY,List.getElem?_cons_succ]at h;obtain⟨r',h1,h2⟩:=AA rs (d+1000) i l h;exact⟨r',by simpa using h1,by rw[h2];congr 1;omega⟩
theorem AB:∀(rs:List RV) (d:Nat),(mY d rs).length=rs.length
 |[],_=>rfl
 |_::rs,d=>by simp[mY,AB rs]
theorem Dj(m:cV w0 X H β w)(hb:BP w.heap.size w w')(d:Nat)(rs:List RV)(vs:List Value)(B:Nat->Option Nat)(hinj:∀i j b,B i=some b->B j=some b->i=j)(hE:∀k,Ex X β H k->E k)
 (habs:∀p∈bX d rs,H p.1=.absent)(h:∀(i:Nat) (r:RV) (v:Value),rs[i]? =some r->vs[i]? =some v->zN w w' (λk=>E k\/∃j,B j=some k) (B i) r v)(hl:vs.length=rs.length):
 ∃β',cV w0 X (bP H (bX d rs)) β' w'/\eY X H β w (bP H (bX d rs)) β' w'/\
  ∀(i:Nat) (l:LV) (v:Value),(mY d rs)[i]? =some l->vs[i]? =some v->R w' (Ex X β' (bP H (bX d rs))) β' (bP H (bX d rs)) l v:=by
 have habs':∀id o,cI (bX d rs) id=some o->H id=.absent:=by
  have:∀(l:List (Nat×aV)) id o,cI l id=some o->(id,o)∈l:=by
   intro l;induction l with
   |nil=>intro id o h;simp[cI]at h
   |cons p r ih=>
    intro id o h;simp only[cI]at h;split at h
    ·rename_i e;injection h with h;subst h;subst e;simp
    ·exact List.mem_cons_of_mem _ (ih id o h)
  exact λid o h=>habs _ (this _ id o h)
 let B':Nat->Option Nat:=λid=>if(id-d)%1000=0/\d<=id then B ((id-d) / 1000)else none
 have hB':∀i,B' (d+1000*i)=B i:=λi=>by
  show(if(d+1000*i-d)%1000=0/\d<=d+1000*i then B ((d+1000*i-d) / 1000)else none)=B i;rw[if_pos ⟨by omega,by omega⟩];congr 1;omega
 have hBinj:∀i j b,B' i=some b->B' j=some b->i=j:=λi j b h1 h2=>by
  simp only[B']at h1 h2;split at h1
  ·split at h2
   ·rename_i q1 q2;have:=hinj _ _ b h1 h2;omega
   ·cases h2
  ·cases h1
 have hown:∀i s xs,rs[i]? =some (.own s xs)->∃v,vs[i]? =some v/\zN w w' (λk=>E k\/∃j,B j=some k) (B i) (.own s xs) v:=λi s xs hr=>by
  have hi:i<vs.length:=by have:=(List.getElem?_eq_some_iff.1 hr).1;omega
  exact⟨vs[i],List.getElem?_eq_getElem hi,h i _ _ hr (List.getElem?_eq_getElem hi)⟩
 have hsub:∀k,Ex X (jU (bX d rs) B' β) (bP H (bX d rs)) k->E k\/∃j,B j=some k:=λk hk=>by
  rcases hk with hk|⟨id,h1,h2⟩
  ·exact .inl (hE k (.inl hk))
  ·cases q:cI (bX d rs) id with
   |some o=>
    simp only[jU,q,Option.isSome_some,if_true]at h2;obtain⟨i,s,xs,_,e,_⟩:=oE rs d id o q;subst e;rw[hB']at h2;exact .inr ⟨i,h2⟩
   |none=>
    rw[dR,q]at h1;simp only[jU,q]at h2;exact .inl (hE k (.inr ⟨id,h1,by simpa using h2⟩))
 obtain⟨m',g'⟩:=m.newMany hb (bX d rs) B' habs' (λid o b hq hbb=>by
  obtain⟨i,s,xs,hr,e,_⟩:=oE rs d id o hq;subst e;rw[hB']at hbb;obtain⟨v,_,_,_,hv⟩:=hown i s xs hr;rcases hv with⟨hn,_⟩|⟨b',c,cur,e,h1,_,h2,h3,_⟩
  ·rw[hn]at hbb;cases hbb
  ·rw[h1]at hbb;injection hbb with hbb;subst hbb
   exact⟨h2,(Array.getElem?_eq_some_iff.1 h3).1⟩) hBinj (λ_ id o hq=>by
  obtain⟨i,s,xs,hr,e,e2⟩:=oE rs d id o hq;subst e;subst e2;obtain⟨v,_,hpos,hall,hv⟩:=hown i s xs hr;unfold cP;rw[dR,hq];simp only[Option.getD_some];refine⟨hpos,hall,?_⟩;rcases hv with⟨hn,he,_⟩|⟨b',c,cur,e,h1,_,h2,h3,h4,h5,h6,h7⟩
  ·exact .inl ⟨by simpa [jU,hq,hB']using hn,he⟩
  ·exact .inr ⟨b',e,cur,by simpa [jU,hq,hB']using h1,h3,Nat.le_trans (Nat.mul_le_mul_right _ h4) (Nat.le_of_eq h6),λk dd u hd hu=>⟨(h7 k dd u hd hu).1,(h7 k dd u hd hu).2.anti hsub⟩⟩)
 refine⟨_,m',g',λi l v hlv hv=>?_⟩;obtain⟨r,hr,rfl⟩:=AA rs d i l hlv;have hrv:=h i r v hr hv;cases r with
 |d x=>exact .d _ _ (RD.anti hsub hrv)
 |tup x=>exact hrv.elim
 |own s xs=>
  have hq:=rY rs d i s xs hr;obtain⟨hpos,hall,hvv⟩:=hrv;have hHq:bP H (bX d rs) (d+1000*i)=.row false s xs:=by rw[dR,hq];rfl
  rcases hvv with⟨hn,he,b,rfl⟩|⟨b',c,cur,e,h1,rfl,h2,h3,h4,h5,h6,h7⟩
  ·subst he;exact .ow0 _ _ _ false s [] hHq (.inl ⟨by simpa [jU,hq,hB']using hn,rfl⟩)
  ·have hR:=R.ow (w:=w') (E:=Ex X (jU (bX d rs) B' β) (bP H (bX d rs))) (β:=jU (bX d rs) B' β) (H:=bP H (bX d rs))
    (d+1000*i) 0 xs.length b' c false s xs cur e hHq (by simpa [jU,hq,hB']using h1) (by omega) h4 h5 h3 (by rw[Nat.zero_add];exact h6)
   rw[Nat.zero_mul]at hR;exact hR
theorem Gl{lf:LV}{vf:Value}{f:FuncId}{caps:List LV}(h:gA lf=some (f,caps))(hr:R w E β H lf vf):
 ∃fs vs:List Value,vf=.func (.func f) fs.toArray vs.toArray/\fs.length=(cE lf).length/\(∀(i:Nat) (c:LV) (v:Value),(cE lf)[i]? =some c->fs[i]? =some v->R w E β H c v)/\
  vs.length=caps.length/\∀(i:Nat) (c:LV) (v:Value),caps[i]? =some c->vs[i]? =some v->R w E β H c v:=by
 unfold gA at h;split at h
 ·injection h with h;injection h with h1 h2;subst h1;subst h2
  cases hr with
  |d _ _ hr=>cases hr with
   |fn _ cs vs hl hp=>
    refine⟨[],vs,rfl,rfl,by simp[cE],by simpa using hl,λi c v hc hv=>?_⟩;obtain⟨x,hx,rfl⟩:=fK hc;exact .d _ _ (hp i x v hx hv)
 ·injection h with h;injection h with h1 h2;subst h1;subst h2
  cases hr with
  |fn _ cs vs hl hp=>exact⟨[],vs,rfl,rfl,by simp[cE],hl,hp⟩
 ·injection h with h;injection h with h1 h2;subst h1;subst h2
  cases hr with
  |d _ _ hr=>cases hr with
   |bm _ cs vs hl hp=>
    refine⟨vs,[],rfl,by simpa [cE]using hl,λi c v hc hv=>?_,rfl,by simp⟩;obtain⟨x,hx,rfl⟩:=fK hc;exact .d _ _ (hp i x v hx hv)
 ·injection h with h;injection h with h1 h2;subst h1;subst h2
  cases hr with
  |bm _ cs vs hl hp=>exact⟨vs,[],rfl,hl,hp,rfl,by simp⟩
 ·cases h
theorem AC(hg:∀x,R w (Ex X β H) β H (g x) (a.eval x)){f:Operand}{args:Array Operand}{ts:Array TypeId}(ho:o.op=.call {callee:=.value f,args:=args,argTypes:=ts}){fid:FuncId}{caps:List LV}(hc:gA (g f)=some (fid,caps))(hcl:pA P fid):
 ∃vals:List Value,(execOp a.eval o).run P w=.ok (.enter fid vals.toArray) w/\vals.length=(cE (g f)++args.toList.map g++caps).length/\
  ∀(i:Nat) (c:LV) (v:Value),(cE (g f)++args.toList.map g++caps)[i]? =some c->vals[i]? =some v->R w (Ex X β H) β H c v:=by
 obtain⟨fn,hfn,hname,hbody⟩:=hcl;obtain⟨fvs,cvs,hcv,hfl,hfp,hcl,hcp⟩:=Gl hc (hg f);have app:∀(xs ys:List LV) (us vs:List Value),us.length=xs.length->(∀(i:Nat) (c:LV) (v:Value),xs[i]? =some c->us[i]? =some v->R w (Ex X β H) β H c v)->(∀(i:Nat) (c:LV) (v:Value),ys[i]? =some c->vs[i]? =some v->R w (Ex X β H) β H c v)->
  ∀(i:Nat) (c:LV) (v:Value),(xs++ys)[i]? =some c->(us++vs)[i]? =some v->R w (Ex X β H) β H c v:=by
  intro xs ys us vs hl h1 h2 i c v hc hv;by_cases hi:i<xs.length
  ·rw[List.getElem?_append_left hi]at hc;rw[List.getElem?_append_left (by omega)]at hv;exact h1 i c v hc hv
  ·rw[List.getElem?_append_right (by omega)]at hc hv;rw[hl]at hv;exact h2 _ c v hc hv
 refine⟨fvs++args.toList.map a.eval++cvs,?_,by simp[hfl,hcl],app _ _ _ _ (by simp[hfl]) (app _ _ _ _ hfl hfp λi c v hc hv=>?_) hcp⟩
 ·have e1:(fvs.toArray++args.map a.eval++cvs.toArray)=(fvs++args.toList.map a.eval++cvs).toArray:=by
   apply Array.ext';simp
  simp only[execOp,ho,resolve,hcv,Deferred.ofValue,Sem.run_bind,Sem.run_pure,Result.andThen_ok,invoke,callFunc,run_program,hfn,hname,Bool.false_eq_true,if_false];have hb:fn.body.isNone=false:=by cases q:fn.body<;>simp_all
  simp only[hb,Bool.false_eq_true,if_false,Sem.run_pure];rw[<-e1]
 ·obtain⟨x,hx,rfl⟩:=fK hc;obtain⟨y,hy,rfl⟩:=fK hv;rw[hx]at hy;injection hy with hy;subst hy
  exact hg x
theorem AD{σ:List (Nat×Nat)}{shut:List Nat}:∀(ls:List LV) (i:Nat) (az:List LV),jI H σ shut i ls=some az->az.length=ls.length/\
 ∀(j:Nat) (l c:LV),ls[j]? =some l->az[j]? =some c->(∃x,close H 8 l=some x/\c=.d x/\∀id∈bJ H 8 l,id∈jJ H shut i ls)\/c=ren σ 8 l
 |[],i,az,h=>by simp[jI]at h;subst h;simp
 |l::r,i,az,h=>by
  simp only[jI]at h;cases q:jI H σ shut (i+1) r with
  |none=>rw[q]at h;cases h
  |some r'=>
   rw[q]at h;obtain⟨h1,h2⟩:=AD r (i+1) r' q;simp only at h;have next:∀(j:Nat) (l' c:LV),r[j]? =some l'->r'[j]? =some c->(∃x,close H 8 l'=some x/\c=.d x/\∀id∈bJ H 8 l',id∈jJ H shut i (l::r))\/c=ren σ 8 l':=λj l' c hl hc=>by
    rcases h2 j l' c hl hc with⟨x,g1,g2,g3⟩|g
    ·exact .inl ⟨x,g1,g2,λid hid=>List.mem_append.2 (.inr (g3 id hid))⟩
    ·exact .inr g
   by_cases hs:shut.contains i=true
   ·rw[if_pos hs,Option.map_eq_some_iff]at h;obtain⟨x,hx,rfl⟩:=h;refine⟨by simp[h1],λj l' c hl hc=>?_⟩;cases j with
    |zero=>
     simp at hl hc;subst hl;subst hc;exact .inl ⟨x,hx,rfl,λid hid=>List.mem_append.2 (.inl (by rw[if_pos hs];exact hid))⟩
    |succ j=>exact next j l' c (by simpa using hl) (by simpa using hc)
   ·rw[if_neg hs]at h;injection h with h;subst h
    refine⟨by simp[h1],λj l' c hl hc=>?_⟩;cases j with
    |zero=>simp at hl hc;subst hl;subst hc;exact .inr rfl
    |succ j=>exact next j l' c (by simpa using hl) (by simpa using hc)
theorem yQ(l l2:List (Nat×aV)):bP H (l++l2)=bP (bP H l2) l:=by
 funext j;induction l with
 |nil=>rfl
 |cons p q ih=>simp only[List.cons_append,bP];rw[ih]
theorem Cm(m:cV w0 X H β w)(hg:∀x,R w (Ex X β H) β H (g x) (a.eval x)){f:Operand}{args:Array Operand}{ts:Array TypeId}{σ new:List (Nat×Nat)}{shut:List Nat}(ho:o.op=.call {callee:=.value f,args:=args,argTypes:=ts}){fid:FuncId}{caps az:List LV}
 (hc:gA (g f)=some (fid,caps))(has:jI H σ shut 0 (cE (g f)++args.toList.map g++caps)=some az){Rel:List (Nat×aV)->LV->Prop}(hcall:Ks P fid az (σ.map λp=>(p.2,cL σ (H p.1))) Rel)
 (hn1:((fL σ new).map (·.1)).Nodup)(hn2:((fL σ new).map (·.2)).Nodup)(hnew:∀p∈new,H p.2=.absent)(hids:∀id∈jJ H shut 0 (cE (g f)++args.toList.map g++caps),id∉σ.map (·.1)){c:Prop}:
 Kl P w0 X H β w a o (λres=>∃fin ret,Rel fin ret/\res=⟨ren (fL σ new) 8 ret,c,((fL σ new).map λp=>(p.2,cL (fL σ new) (aL fin p.1)))++bF H (jJ H shut 0 (cE (g f)++args.toList.map g++caps))⟩):=by
 obtain⟨vals,hrun,hvl,hvp⟩:=AC hg ho hc hcall.1;generalize hids0:jJ H shut 0 (cE (g f)++args.toList.map g++caps)=ids at*;obtain⟨m1,g1⟩:=m.freeze ids;have hsame:(σ.map λp=>(p.2,cL σ (H p.1)))=σ.map λp=>(p.2,cL σ (bP H (bF H ids) p.1)):=List.map_congr_left λp hp=>by
  rw[eF,if_neg λh=>hids p.1 h (List.mem_map.2 ⟨p,hp,rfl⟩)]
 rw[hsame]at hcall;obtain⟨Xc,βc,hXc,mc,hD,hR,hback⟩:=m1.callG σ new hn1 hn2 λp hp=>by
  rw[eF,hnew p hp];simp[frozen]
 obtain⟨hal,hap⟩:=AD _ _ _ has;have hpins:(σ.map λp=>(p.2,cL σ (bP H (bF H ids) p.1))).map (·.1)=σ.map (·.2):=by simp
 have hcc:=hcall.2 w Xc βc vals;rw[hpins]at hcc;intro K Q hK;unfold Oper.wp;rw[hrun];simp only[Oper.upon];refine(hcc mc (by omega) λi c v hci hv=>?_).mono ?_
 ·have hi:i<(cE (g f)++args.toList.map g++caps).length:=by have:=(List.getElem?_eq_some_iff.1 hci).1;omega
  have hli:=List.getElem?_eq_getElem hi;rcases hap i _ c hli hci with⟨x,h1,rfl,h3⟩|h1
  ·exact .d _ _ (hD _ _ (gC m (ids:=ids) h1 (λid hid=>by rw[<-hids0];exact h3 id hid) (hvp i _ v hli hv)))
  ·rw[h1];exact hR _ _ (g1.R (hvp i _ v hli hv))
 ·rintro e w' ⟨v,β',fin,ret,hrel,rfl,m',hret⟩;obtain⟨β2,m2,g2,h2⟩:=hback (aL fin) β' w' m';refine hK _ ⟨fin,ret,hrel,rfl⟩ v w' β2 ?_ ?_ ?_<;>simp only[]<;>rw[yQ]
  ·exact m2
  ·exact g1.trans g2
  ·exact h2 _ _ hret
theorem KE(m:cV w0 X H β w)(hg:∀x,R w (Ex X β H) β H (g x) (a.eval x)){f:Operand}{args:Array Operand}{ts:Array TypeId}{gn:Qb}(ho:o.op=.call {callee:=.value f,args:=args,argTypes:=ts}){fid:FuncId}{caps az:List LV}
 (hc:gA (g f)=some (fid,caps))(has:jI H gn.σ gn.shut 0 (cE (g f)++args.toList.map g++caps)=some az)(hcall:BO P fid az (gn.σ.map λp=>(p.2,cL gn.σ (H p.1))) gn.fin gn.ret)
 (hn1:((fL gn.σ gn.new).map (·.1)).Nodup)(hn2:((fL gn.σ gn.new).map (·.2)).Nodup)(hnew:∀p∈gn.new,H p.2=.absent)(hids:∀id∈jJ H gn.shut 0 (cE (g f)++args.toList.map g++caps),id∉gn.σ.map (·.1)){c:Prop}:
 iV P w0 X H β w a o ⟨ren (fL gn.σ gn.new) 8 gn.ret,c,((fL gn.σ gn.new).map λp=>(p.2,cL (fL gn.σ gn.new) (aL gn.fin p.1)))++bF H (jJ H gn.shut 0 (cE (g f)++args.toList.map g++caps))⟩:=
 (Cm m hg ho hc has hcall.toR hn1 hn2 hnew hids (c:=c)).toS λr' ⟨fin,ret,⟨e1,e2⟩,e⟩=>by subst e1;subst e2;subst e;exact⟨rfl,rfl⟩
theorem Eu(m:cV w0 X H β w)(hg:∀x,R w (Ex X β H) β H (g x) (a.eval x)){f:Operand}{args:Array Operand}{ts:Array TypeId}{dst:Nat}(ho:o.op=.call {callee:=.value f,args:=args,argTypes:=ts})
 {fid:FuncId}{caps:List LV}(hc:gA (g f)=some (fid,caps)){az:List DV}(has:cC ((cE (g f)++args.toList.map g++caps).map (close H 8))=some az){fr:Bool}{Rel:Gb->Prop}(hcall:MX P fid az Rel)
 (hfr:∀r,Rel r->r.fresh=fr)(habs:∀r,Rel r->∀p∈gB dst r.v,H p.1=.absent){c:Prop}:
 Kl P w0 X H β w a o (λres=>∃r,Rel r/\res=⟨An dst r.v,c,gB dst r.v++(if fr then []else bF H ((cE (g f)++args.toList.map g++caps).flatMap (bJ H 8)))⟩):=by
 obtain⟨vals,hrun,hvl,hvp⟩:=AC hg ho hc hcall.1;have hcall:=hcall.2
 let lvs:=cE (g f)++args.toList.map g++caps
 obtain⟨hal,hap⟩:=kS has;have hal':az.length=lvs.length:=hal
 let ids:=lvs.flatMap (bJ H 8)
 let H1:=if fr then H else bP H (bF H ids)
 have hH1:cV w0 X H1 β w/\eY X H β w H1 β w:=by
  show cV w0 X (if fr then H else bP H (bF H ids)) β w/\eY X H β w (if fr then H else bP H (bF H ids)) β w;cases fr
  ·exact m.freeze ids
  ·exact⟨m,eY.refl⟩
 obtain⟨m1,g1⟩:=hH1
 let Xc:Nat->Prop:=λk=>fr=false/\Ex X β H1 k
 have hargs:Oj w Xc az vals:=by
  refine⟨by omega,λi c v hc hv=>?_⟩;have hi:i<lvs.length:=by have:=(List.getElem?_eq_some_iff.1 hc).1;omega
  have hli:=List.getElem?_eq_getElem hi;have hcl:=hap i _ c hli hc;cases hf:fr with
  |true=>
   refine rV m.obj (λx v h=>h.anti (λk hk=>?_)) 8 _ c v hcl (λid _ b _ he=>?_) (hvp i _ v hli hv)
   ·have:=hk.1;rw[hf]at this;cases this
   ·have:=he.1;rw[hf]at this;cases this
  |false=>
   have hH:H1=bP H (bF H ids):=by show(if fr then H else _)=_;rw[hf];rfl
   refine RD.anti (λk hk=>?_) (gC m (ids:=ids) hcl (λid hid=>List.mem_flatMap.2 ⟨_,List.getElem_mem hi,hid⟩) (hvp i _ v hli hv));have:=hk.2;rw[hH]at this;exact this
 intro K Q hK;unfold Oper.wp;rw[hrun];simp only[Oper.upon];refine(hcall w Xc vals ⟨λk hk=>hk.2.lt m1,m1.glob.anti λk hk=>hk.2⟩ hargs).mono ?_;rintro e w' ⟨v,r,hrel,rfl,hbel,hret⟩;have hfre:=hfr r hrel;have habs:=habs r hrel;rw[hfre]at hret;have hE:∀k,Ex X β H1 k->Xc k\/fr=true/\k<w.heap.size:=λk hk=>by
  cases hf:fr with
  |true=>exact .inr ⟨rfl,hk.lt m1⟩
  |false=>exact .inl ⟨hf,hk⟩
 have habs1:∀p∈gB dst r.v,H1 p.1=.absent:=λp hp=>by
  have:=habs p hp;show(if fr then H else bP H (bF H ids)) p.1=.absent;cases fr
  ·simp only[Bool.false_eq_true,if_false];rw[eF,this];simp[frozen]
  ·exact this
 have hups:bP H (gB dst r.v++(if fr then []else bF H ids))=bP H1 (gB dst r.v):=by
  have key:∀(l:List (Nat×aV)) (l2:List (Nat×aV)),bP H (l++l2)=bP (bP H l2) l:=by
   intro l l2;funext j;induction l with
   |nil=>rfl
   |cons p q ih=>simp only[List.cons_append,bP];rw[ih]
  rw[key];show bP (bP H (if fr then []else bF H ids)) _=bP (if fr then H else bP H (bF H ids)) _;cases fr<;>rfl
 have fin:∀(rs:List RV) (vs:List Value) (B:Nat->Option Nat),gB dst r.v=bX dst rs->(∀i j b,B i=some b->B j=some b->i=j)->vs.length=rs.length->
  (∀(i:Nat) (q:RV) (v:Value),rs[i]? =some q->vs[i]? =some v->zN w w' (λk=>(Xc k\/fr=true/\k<w.heap.size)\/∃j,B j=some k) (B i) q v)->
  ((∀H' β',(∀(i:Nat) (l:LV) (v:Value),(mY dst rs)[i]? =some l->vs[i]? =some v->R w' (Ex X β' H') β' H' l v)->R w' (Ex X β' H') β' H' (An dst r.v) v))->K (a.put o.dst v) w':=by
  intro rs vs B e1 e2 e3 e4 e5;obtain⟨β',m2,g2,hR⟩:=Dj m1 hbel dst rs vs B e2 hE (by rw[<-e1];exact habs1) e4 e3;refine hK _ ⟨r,hrel,rfl⟩ v w' β' ?_ ?_ ?_<;>simp only[]<;>rw[hups,e1]
  ·exact m2
  ·exact g1.trans g2
  ·exact e5 _ _ hR
 unfold En at hret;split at hret
 ·rename_i rs hrs;obtain⟨vs,B,rfl,h1,h2,h3⟩:=hret;exact fin rs vs B (by rw[hrs];rfl) h2 h1 h3 (λH' β' hp=>by
   rw[hrs];exact .tup _ vs (by rw[AB];exact h1) hp)
 ·rename_i hnt;obtain⟨B,hB⟩:=hret;refine fin [r.v] [v] (λi=>if i=0 then B else none) ?_ ?_ rfl ?_ ?_
  ·cases q:r.v<;>simp[gB,bX];exact absurd q (hnt _)
  ·intro i j b h1 h2;split at h1
   ·split at h2
    ·omega
    ·cases h2
   ·cases h1
  ·intro i q v' hq hv';cases i with
   |zero=>
    simp at hq hv';subst hq;subst hv';have hsame:∀k,(∃j:Nat,(if j=0 then B else none)=some k)↔B=some k:=by
     intro k;constructor
     ·rintro⟨j,hj⟩;split at hj
      ·exact hj
      ·cases hj
     ·intro h;exact⟨0,by simpa using h⟩
    simp only[hsame,if_true];exact hB
   |succ i=>simp at hq
  ·intro H' β' hp;have:=hp 0 (Em dst r.v) v rfl rfl;cases q:r.v<;>rw[q]at this<;>first|exact this|exact absurd q (hnt _)
theorem Ni(m:cV w0 X H β w)(hg:∀x,R w (Ex X β H) β H (g x) (a.eval x)){f:Operand}{args:Array Operand}{ts:Array TypeId}{r:Option hU}{dst:Nat}(ho:o.op=.call {callee:=.value f,args:=args,argTypes:=ts})(hself:rQ r r)
 (hok:∀r',rQ r r'->(cF P H r' dst (g f) (cE (g f)++args.toList.map g)).ok):Kl P w0 X H β w a o (λres=>∃r',rQ r r'/\res=cF P H r' dst (g f) (cE (g f)++args.toList.map g)):=by
 have hok0:=hok r hself;cases hcal:gA (g f)with
 |none=>unfold cF at hok0;rw[hcal]at hok0;cases r<;>exact hok0.elim
 |some p=>
  obtain⟨fid,caps⟩:=p;cases r with
  |none=>unfold cF at hok0;rw[hcal]at hok0;exact hok0.elim
  |some q=>
   cases q with
   |plain r=>
    have he:∀az,cC ((cE (g f)++args.toList.map g++caps).map (close H 8))=some az->cF P H (some (.plain r)) dst (g f) (cE (g f)++args.toList.map g)=⟨An dst r.v,Ok P fid az r/\(∀p∈gB dst r.v,H p.1=.absent),gB dst r.v++(if r.fresh then []else bF H ((cE (g f)++args.toList.map g++caps).flatMap (bJ H 8)))⟩:=λaz has=>by
     unfold cF;rw[hcal];simp only[has]
    cases has:cC ((cE (g f)++args.toList.map g++caps).map (close H 8))with
    |none=>unfold cF at hok0;rw[hcal]at hok0;simp only[has]at hok0;exact hok0.elim
    |some az=>
     rw[he az has]at hok0;refine(Eu m hg ho hcal has hok0.1.toR (fr:=r.fresh) (λr' h=>by rw[h]) (λr' h=>by rw[h];exact hok0.2) (c:=True)).mono ?_;rintro res ⟨r',rfl,rfl⟩;exact⟨_,⟨_,rfl,rfl⟩,by rw[he az has],by rw[he az has]⟩
   |gen gn=>
    have he:∀az,jI H gn.σ gn.shut 0 (cE (g f)++args.toList.map g++caps)=some az->(cF P H (some (.gen gn)) dst (g f) (cE (g f)++args.toList.map g)).v=ren (fL gn.σ gn.new) 8 gn.ret/\(cF P H (some (.gen gn)) dst (g f) (cE (g f)++args.toList.map g)).up=((fL gn.σ gn.new).map λp=>(p.2,cL (fL gn.σ gn.new) (aL gn.fin p.1)))++bF H (jJ H gn.shut 0 (cE (g f)++args.toList.map g++caps)):=λaz has=>by
     unfold cF;rw[hcal];simp only[has];exact⟨trivial,trivial⟩
    cases has:jI H gn.σ gn.shut 0 (cE (g f)++args.toList.map g++caps)with
    |none=>unfold cF at hok0;rw[hcal]at hok0;simp only[has]at hok0;exact hok0.elim
    |some az=>
     unfold cF at hok0;rw[hcal]at hok0;simp only[has]at hok0;obtain⟨h1,h2,h3,h4,h5,h6⟩:=hok0;refine((KE m hg ho hcal has h1 h3 h4 (λp hp=>(h5 p hp).1) h6 (c:=True)).toE (rs:=λres=>res=_) rfl).mono ?_;rintro res rfl;exact⟨_,⟨_,rfl,rfl⟩,(he az has).1,(he az has).2⟩
   |rel Rel fr r=>
    have he:∀az r,cC ((cE (g f)++args.toList.map g++caps).map (close H 8))=some az->cF P H (some (.rel Rel fr r)) dst (g f) (cE (g f)++args.toList.map g)=⟨An dst r.v,MX P fid az Rel/\(∀q,Rel q->q.fresh=fr)/\(∀p∈gB dst r.v,H p.1=.absent),gB dst r.v++(if fr then []else bF H ((cE (g f)++args.toList.map g++caps).flatMap (bJ H 8)))⟩:=λaz r has=>by
     unfold cF;rw[hcal];simp only[has]
    cases has:cC ((cE (g f)++args.toList.map g++caps).map (close H 8))with
    |none=>unfold cF at hok0;rw[hcal]at hok0;simp only[has]at hok0;exact hok0.elim
    |some az=>
     rw[he az r has]at hok0;refine(Eu (dst:=dst) m hg ho hcal has hok0.1 (fr:=fr) hok0.2.1 (λr' h=>?_) (c:=True)).mono ?_
     ·have:=hok (some (.rel Rel fr r')) ⟨r',h,hok0.2.1 r' h,rfl⟩;rw[he az r' has]at this;exact this.2.2
     ·rintro res ⟨r',h,rfl⟩;exact⟨_,⟨_,⟨r',h,hok0.2.1 r' h,rfl⟩,rfl⟩,by rw[he az r' has],by rw[he az r' has]⟩
   |genR gn Rel=>
    have he:∀az fin ret,jI H gn.σ gn.shut 0 (cE (g f)++args.toList.map g++caps)=some az->(cF P H (some (.genR {gn with fin:=fin,ret:=ret} Rel)) dst (g f) (cE (g f)++args.toList.map g)).v=ren (fL gn.σ gn.new) 8 ret/\
     (cF P H (some (.genR {gn with fin:=fin,ret:=ret} Rel)) dst (g f) (cE (g f)++args.toList.map g)).up=((fL gn.σ gn.new).map λp=>(p.2,cL (fL gn.σ gn.new) (aL fin p.1)))++bF H (jJ H gn.shut 0 (cE (g f)++args.toList.map g++caps)):=λaz fin ret has=>by
     unfold cF;rw[hcal];simp only[has];exact⟨trivial,trivial⟩
    cases has:jI H gn.σ gn.shut 0 (cE (g f)++args.toList.map g++caps)with
    |none=>unfold cF at hok0;rw[hcal]at hok0;simp only[has]at hok0;exact hok0.elim
    |some az=>
     unfold cF at hok0;rw[hcal]at hok0;simp only[has]at hok0;obtain⟨h1,h2,h3,h4,h5,h6⟩:=hok0;refine(Cm m hg ho hcal has h1 h3 h4 (λp hp=>(h5 p hp).1) h6 (c:=True)).mono ?_;rintro res ⟨fin,ret,h,rfl⟩;exact⟨_,⟨_,⟨fin,ret,h,rfl⟩,rfl⟩,(he az fin ret has).1,(he az fin ret has).2⟩
   |_=>unfold cF at hok0;rw[hcal]at hok0;exact hok0.elim
end
end
section
open Go.RowKit
theorem eR.empty:eR #[] 0:=⟨λi e h=>by simp at h,λi j e e' h=>by simp at h⟩
theorem eR.push{arr:Array MapEntry}{clock:Nat}(h:eR arr clock)(k v:Value):eR (arr.push {key:=k,val:=v,born:=clock}) (clock+1):=by
 have key:∀(i:Nat) (e:MapEntry),(arr.push {key:=k,val:=v,born:=clock})[i]? =some e->(i=arr.size/\e.born=clock)\/(arr[i]? =some e/\i<arr.size):=λi e hi=>by
  rw[Array.getElem?_push]at hi;split at hi
  ·injection hi with hi;subst hi;exact .inl ⟨by assumption,rfl⟩
  ·exact .inr ⟨hi,(Array.getElem?_eq_some_iff.1 hi).1⟩
 refine⟨λi e hi=>?_,λi j e e' hi hj he=>?_⟩
 ·rcases key i e hi with⟨_,h1⟩|⟨h1,_⟩
  ·omega
  ·have:=h.1 i e h1;omega
 ·rcases key i e hi with⟨p1,p2⟩|⟨p1,p2⟩<;>rcases key j e' hj with⟨q1,q2⟩|⟨q1,q2⟩
  ·omega
  ·have:=h.1 j e' q1;omega
  ·have:=h.1 i e p1;omega
  ·exact h.2 i j e e' p1 q1 he
theorem eR.modify{arr:Array MapEntry}{clock:Nat}(h:eR arr clock)(i:Nat)(k v:Value):eR (arr.modify i λe=>{e with key:=k,val:=v}) clock:=by
 have key:∀(j:Nat) (e:MapEntry),(arr.modify i λe=>{e with key:=k,val:=v})[j]? =some e->∃e0,arr[j]? =some e0/\e.born=e0.born:=λj e hj=>by
  rw[Array.getElem?_modify]at hj;split at hj
  ·rw[Option.map_eq_some_iff]at hj;obtain⟨e0,h1,rfl⟩:=hj;exact⟨e0,h1,rfl⟩
  ·exact⟨e,hj,rfl⟩
 refine⟨λj e hj=>?_,λj l e e' hj hl he=>?_⟩
 ·obtain⟨e0,h1,h2⟩:=key j e hj;rw[h2];exact h.1 j e0 h1
 ·obtain⟨e0,h1,h2⟩:=key j e hj;obtain⟨f0,g1,g2⟩:=key l e' hl;exact h.2 j l e0 f0 h1 g1 (by omega)
theorem xE{arr:Array MapEntry}{i j:Nat}:(arr.eraseIdxIfInBounds i)[j]? =if j<i then arr[j]? else arr[j+1]? :=by
 rw[<-Array.getElem?_toList,Array.toList_eraseIdxIfInBounds,List.getElem?_eraseIdx];split<;>simp
theorem eR.erase{arr:Array MapEntry}{clock:Nat}(h:eR arr clock)(i:Nat):eR (arr.eraseIdxIfInBounds i) clock:=by
 have key:∀(j:Nat) (e:MapEntry),(arr.eraseIdxIfInBounds i)[j]? =some e->arr[if j<i then j else j+1]? =some e:=λj e hj=>by
  rw[xE]at hj;split at hj
  ·rename_i h;rw[if_pos h];exact hj
  ·rename_i h;rw[if_neg h];exact hj
 refine⟨λj e hj=>h.1 _ e (key j e hj),λj l e e' hj hl he=>?_⟩;have:=h.2 _ _ e e' (key j e hj) (key l e' hl) he;split at this<;>split at this<;>omega
theorem Ev{a b:DV}(h:Ga a b=some true):a=b:=by
 unfold Ga at h;split at h
 ·split at h
  ·rename_i e;subst e;simp at h;rw[h]
  ·cases h
 ·simp at h;rw[h]
 ·simp at h;rw[h]
 ·cases h
theorem Cn:∀{a b:List DV},eX a b=some true->a=b
 |[],[],_=>rfl
 |[],_::_,h=>by simp[eX]at h
 |_::_,[],h=>by simp[eX]at h
 |a::x,b::y,h=>by
  simp only[eX]at h;split at h
  ·rename_i p q h1 h2;simp only[Option.some.injEq,Bool.and_eq_true]at h;rw[h.1]at h1;rw[h.2]at h2;rw[Ev h1,Cn h2]
  ·cases h
theorem Gm{a b:DV}(h:mX a b=some true):a=b:=by
 unfold mX at h;split at h
 ·rw[Cn h]
 ·exact Ev h
theorem pF:∀{k:DV} {ks:List DV} {i j:Nat},iK k ks i=some (some j)->i<=j/\ks[j-i]? =some k
 |k,[],i,j,h=>by simp[iK]at h
 |k,x::r,i,j,h=>by
  simp only[iK]at h;split at h
  ·rename_i e;injection h with h;injection h with h;subst h
   exact⟨Nat.le_refl _,by simp[Gm e]⟩
  ·obtain⟨h1,h2⟩:=pF h;refine⟨by omega,?_⟩;rw[show j-i=(j-(i+1))+1 by omega];simpa using h2
  ·cases h
section
variable{P:Program} {T:TypeId->eC} {w0:cX} {X:Nat->Prop} {H:Nat->aV} {β:Nat->Option Nat} {w:World} {a:Act} {o:Oper} {g:Operand->LV} {E:Nat->Prop}
structure AE(P:Program)(kt:TypeId)(k:DV):Prop where
 check:∀(w:World) (E:Nat->Prop) (em:Bool) (v:Value),RD w E k v->(Instr.checkKey em 10000 kt v).run P w=.ok () w
 find:∀(w:World) (E:Nat->Prop) (v:Value),RD w E k v->∀(ks:List DV) (es:List MapEntry) (i:Nat) (r:Option Nat),ks.length=es.length->(∀(j:Nat) (d:DV) (e:MapEntry),ks[j]? =some d->es[j]? =some e->RD w E d e.key)->
  iK k ks i=some r->(∃d,P.underlying kt=some d/\(Instr.findNow d v es i=some (r.map λj=>(j,(es.getD (j-i) default).val))\/(Instr.findNow d v es i=none/\(Instr.findAsking kt v es i).run P w=.ok (r.map λj=>(j,(es.getD (j-i) default).val)) w)))
 same:∀(w:World) (E:Nat->Prop) (v v':Value),RD w E k v->RD w E k v'->Instr.sameBits 10000 v' v=true
theorem AF(x:ByteArray):(x==x)=true:=by
 show(x.data==x.data)=true;simp
def Dk(d:TypeDesc):Prop:=(∃q,d=.int q)\/d=.bool\/d=.string
theorem rZ{kt:TypeId}{d:TypeDesc}(hd:P.underlying kt=some d)(hp:Dk d)(em:Bool)(n:Nat)(v:Value):(Instr.checkKey em (n+1) kt v).run P w=.ok () w:=by
 unfold Instr.checkKey;rcases hp with⟨q,rfl⟩|rfl|rfl<;>simp[run_underlying hd]
def Gn(v:Value):Prop:=(∃k n,v=.int k n)\/(∃b,v=.bool b)\/∃s,v=.string s
theorem sA{v:Value}(h:Gn v)(n:Nat):Instr.sameBits n v v=true:=by
 rcases h with⟨k,m,rfl⟩|⟨b,rfl⟩|⟨s,rfl⟩
 ·cases n<;>simp[Instr.sameBits]
 ·cases n<;>simp[Instr.sameBits]
 ·cases n<;>simp[Instr.sameBits,AF]
theorem uG{t:TK}{c:DV}(h:eE t c=true):∃v,Gn v/\∀w E u,RD w E c u->u=v:=by
 cases t<;>cases c<;>simp only[eE]at h<;>try(cases h;done)
 ·rename_i k n;exact⟨.int k n,.inl ⟨_,_,rfl⟩,λw E u hu=>by cases hu;rfl⟩
 ·rename_i b;exact⟨.bool b,.inr (.inl ⟨_,rfl⟩),λw E u hu=>by cases hu;rfl⟩
 ·rename_i b;exact⟨.string ⟨b.toArray⟩,.inr (.inr ⟨_,rfl⟩),λw E u hu=>by cases hu;rfl⟩
theorem IB(a b:List UInt8):((⟨a.toArray⟩:ByteArray)==⟨b.toArray⟩)=(a==b):=by
 show(a.toArray==b.toArray)=(a==b);simp
theorem yR{t:TK}{d:TypeDesc}(hd:pW d t){k x:DV}(hk:eE t k=true){c:Bool}(hq:mX k x=some c){v v':Value}(hv:RD w E k v)(hx:RD w E x v'):Instr.sameNow d v v'=some c:=by
 cases t<;>cases k<;>simp only[eE]at hk<;>try(cases hk;done)
 ·rename_i kk j n;cases x<;>simp only[mX,Ga]at hq<;>try(cases hq;done)
  cases hv;cases hx;cases d<;>simp only[pW]at hd;split at hq
  ·rename_i e;subst e;simp only[Instr.sameNow,if_true];rw[<-hq];rfl
  ·cases hq
 ·cases x<;>simp only[mX,Ga]at hq<;>try(cases hq;done)
  cases hv;cases hx;cases d<;>simp only[pW]at hd;simpa only[Instr.sameNow]using hq
 ·cases x<;>simp only[mX,Ga]at hq<;>try(cases hq;done)
  cases hv;cases hx;cases d<;>simp only[pW]at hd;simp only[Instr.sameNow,IB];exact hq
theorem IC{kt:TypeId}{k:DV}{d:TypeDesc}{t:TK}(hd:P.underlying kt=some d)(htk:pW d t)(hk:eE t k=true):AE P kt k:=by
 have hp:Dk d:=by
  cases t<;>cases k<;>simp only[eE]at hk<;>try(cases hk;done)
  all_goals cases d<;>simp only[pW]at htk<;>first|exact .inl ⟨_,rfl⟩|exact .inr (.inl rfl)|exact .inr (.inr rfl)
 obtain⟨pv,hpv,huniq⟩:=uG hk;refine⟨λw E em v hv=>rZ hd hp em 9999 v,λw E v hv ks es i r hl hp hr=>⟨d,hd,.inl ?_⟩,λw E v v' hv hv'=>by rw[huniq _ _ _ hv,huniq _ _ _ hv'];exact sA hpv 10000⟩;induction ks generalizing es i r with
 |nil=>
  have:es=[]:=List.eq_nil_of_length_eq_zero (by simpa using hl.symm);subst this;simp only[iK,Option.some.injEq]at hr;subst hr;rfl
 |cons x ks ih=>
  cases es with
  |nil=>simp at hl
  |cons e es=>
   have hx:=hp 0 x e rfl rfl;have hp':∀(j:Nat) (d:DV) (e:MapEntry),ks[j]? =some d->es[j]? =some e->RD w E d e.key:=λj d e hj he=>hp (j+1) d e (by simpa using hj) (by simpa using he);simp only[iK]at hr;simp only[Instr.findNow];split at hr
   ·rename_i q;injection hr with hr;subst hr
    rw[yR htk hk q hv hx];simp
   ·rename_i q;rw[yR htk hk q hv hx];simp only;rw[ih es (i+1) r (by simpa using hl) hp' hr];cases r with
    |none=>rfl
    |some j=>
     have:=(pF hr).1;simp only[Option.map_some];rw[show j-i=(j-(i+1))+1 by omega];simp
   ·cases hr
theorem BR{kt:TypeId}{cs:List DV}{tks:List TK}(hne:cs≠[])(hks:bH tks cs=true)(g2:P.stoodInHeld kt=false){fs:Array Field}(g3:P.underlying kt=some (.struct fs))(g4:fs.toList.length=tks.length)
 (g5:∀(j:Nat) (f:Field) (k:TK),fs.toList[j]? =some f->tks[j]? =some k->f.name≠ "_" /\f.offset=j/\fM P f.type k):AE P kt (.agg cs):=by
 have hfo:P.fieldsOf kt=fs:=by simp[Program.fieldsOf,g3]
 have hlen:∀(tks:List TK) (cs:List DV),bH tks cs=true->tks.length=cs.length:=by
  intro tks;induction tks with
  |nil=>intro cs h;cases cs<;>simp_all[bH]
  |cons t r ih=>intro cs h;cases cs with
   |nil=>simp[bH]at h
   |cons c cs=>simp only[bH,Bool.and_eq_true]at h;simp[ih cs h.2]
 have hkind:∀(tks:List TK) (cs:List DV),bH tks cs=true->∀(i:Nat) (t:TK) (c:DV),tks[i]? =some t->cs[i]? =some c->eE t c=true:=by
  intro tks;induction tks with
  |nil=>intro cs h i t c ht;simp at ht
  |cons t r ih=>intro cs h i t' c ht hc;cases cs with
   |nil=>simp at hc
   |cons c0 cs=>
    simp only[bH,Bool.and_eq_true]at h;cases i with
    |zero=>simp at ht hc;subst ht;subst hc;exact h.1
    |succ i=>exact ih cs h.2 i t' c (by simpa using ht) (by simpa using hc)
 have heq:∀(w:World) (E:Nat->Prop) (v v':Value) (x:DV) (c:Bool),RD w E (.agg cs) v->RD w E x v'->mX (.agg cs) x=some c->(Op.equal kt v v').run P w=.ok c w:=by
  intro w E v v' x c hv hx hq;cases x with
  |agg ys=>
   simp only[mX]at hq;cases hv with
   |agg _ us hul _ hup=>cases hx with
    |agg _ vs hvl _ hvp=>
     have hrun:=run_equalIn_struct (P:=P) w 9999 kt us.toArray vs.toArray (by rw[hfo];exact g3) g2;rw[hfo,vM 9998 cs ys tks us vs us.toArray vs.toArray fs.toList 0 c E hq hks hul hvl g4 hup hvp (λi v h=>by simpa using h) (λi v h=>by simpa using h) (λi f k h1 h2=>by simpa using g5 i f k h1 h2)]at hrun;exact hrun
  |_=>simp[mX,Ga]at hq
 have hagg:∀(w:World) (E:Nat->Prop) (v:Value),RD w E (.agg cs) v->∃vs:List Value,v=.agg vs.toArray/\vs.length=cs.length/\∀(i:Nat) (c:DV) (v:Value),cs[i]? =some c->vs[i]? =some v->RD w E c v:=λw E v hv=>by
  cases hv with|agg _ us hul _ hup=>exact⟨us,rfl,hul,hup⟩
 refine⟨λw E em v hv=>?_,λw E v hv ks es i r hl hp hr=>⟨_,g3,?_⟩,λw E v v' hv hv'=>?_⟩
 ·obtain⟨vs,rfl,hvl,hvp⟩:=hagg w E v hv;have each:∀f∈fs.toList,f.name≠ "_" /\∃u,(part f.type vs.toArray f.offset).run P w=.ok u w/\(Instr.checkKey em 9999 f.type u).run P w=.ok () w:=by
   intro f hf;obtain⟨j,hj,rfl⟩:=List.getElem_of_mem hf;have hjl:j<tks.length:=by omega
   have hjc:j<cs.length:=(by rw[<-hlen tks cs hks];exact hjl);obtain⟨n1,n2,n3⟩:=g5 j _ _ (List.getElem?_eq_getElem hj) (List.getElem?_eq_getElem hjl);clear hf;generalize fs.toList[j]=fl at n1 n2 n3|-;refine⟨n1,vs[j]'(by omega),?_,?_⟩
   ·obtain⟨d,d1,d2⟩:∃d,P.underlying fl.type=some d/\(match d with| .struct _| .array _ _=>true|_=>false)=false:=by
     cases q:tks[j]<;>rw[q]at n3<;>simp only[fM]at n3<;>first|(cases n3;done)|exact⟨_,n3,rfl⟩
    unfold part;have:(isAgg fl.type).run P w=.ok false w:=by
     rw[<-d2];cases d<;>simp[isAgg,run_underlying d1]
    rw[Sem.run_bind,this];simp[n2,show j<vs.length by omega]
   ·have:∃d,P.underlying fl.type=some d/\Dk d:=by
     cases q:tks[j]<;>rw[q]at n3<;>simp only[fM]at n3<;>first|(cases n3;done)|exact⟨_,n3,.inl ⟨_,rfl⟩⟩|exact⟨_,n3,.inr (.inl rfl)⟩|exact⟨_,n3,.inr (.inr rfl)⟩
    obtain⟨d,d1,d2⟩:=this;exact rZ d1 d2 em 9998 _
  rw[show(10000:Nat)=9999+1 from rfl,Instr.checkKey];simp only[Sem.run_bind,run_underlying g3,Result.andThen_ok];rw[<-Array.forIn_toList];clear g3 g4 g5 hfo heq;generalize fs.toList=L at each;induction L with
  |nil=>simp
  |cons f L ih=>
   obtain⟨hn,u,p1,p2⟩:=each f (by simp);simp only[List.forIn_cons,Sem.run_bind,hn,ne_eq,not_false_eq_true,if_true,Result.andThen_ok,p1,p2,Sem.run_pure];exact ih (λy hy=>each y (by simp[hy]))
 ·have hvs:=hagg w E v hv;cases es with
  |nil=>
   cases ks with
   |nil=>simp only[iK,Option.some.injEq]at hr;subst hr;exact .inl rfl
   |cons=>simp at hl
  |cons e0 es0=>
   right;refine⟨?_,?_⟩
   ·obtain⟨vs,rfl,_⟩:=hvs;simp[Instr.findNow,Instr.sameNow]
   ·clear hvs;generalize e0::es0=es at*;induction ks generalizing es i r with
    |nil=>
     have:es=[]:=List.eq_nil_of_length_eq_zero (by simpa using hl.symm);subst this;simp only[iK,Option.some.injEq]at hr;subst hr;simp[Instr.findAsking]
    |cons x ks ih=>
     cases es with
     |nil=>simp at hl
     |cons e es=>
      have hx:=hp 0 x e rfl rfl;have hp':∀(j:Nat) (d:DV) (e:MapEntry),ks[j]? =some d->es[j]? =some e->RD w E d e.key:=λj d e hj he=>hp (j+1) d e (by simpa using hj) (by simpa using he);simp only[iK]at hr;simp only[Instr.findAsking,Sem.run_bind];split at hr
      ·rename_i q;injection hr with hr;subst hr
       rw[heq w E v e.key x true hv hx q];simp
      ·rename_i q;rw[heq w E v e.key x false hv hx q];simp only[Result.andThen_ok,Bool.false_eq_true,if_false];rw[ih (i+1) r hr es (by simpa using hl) hp'];cases r with
       |none=>rfl
       |some j=>
        have:=(pF hr).1;simp only[Option.map_some];rw[show j-i=(j-(i+1))+1 by omega];simp
      ·cases hr
 ·obtain⟨vs,rfl,hvl,hvp⟩:=hagg w E v hv;obtain⟨us,rfl,hul,hup⟩:=hagg w E v' hv';have each:∀(i:Nat) (hi:i<cs.length),us[i]'(by omega)=vs[i]'(by omega)/\Gn (vs[i]'(by omega)):=λi hi=>by
   have hit:i<tks.length:=(by rw[hlen tks cs hks];exact hi);obtain⟨pv,h1,h2⟩:=uG (hkind tks cs hks i _ _ (List.getElem?_eq_getElem hit) (List.getElem?_eq_getElem hi));rw[h2 _ _ _ (hvp i _ _ (List.getElem?_eq_getElem hi) (List.getElem?_eq_getElem (by omega))),h2 _ _ _ (hup i _ _ (List.getElem?_eq_getElem hi) (List.getElem?_eq_getElem (by omega)))];exact⟨rfl,h1⟩
  have hsame:us=vs:=List.ext_getElem (by omega) λi h1 h2=>(each i (by omega)).1;subst hsame;simp only[Instr.sameBits,List.size_toArray,beq_self_eq_true,Bool.true_and,List.all_eq_true];rintro⟨x,y⟩ hxy;obtain⟨i,hi,hxy⟩:=List.getElem_of_mem hxy;simp at hi hxy;obtain⟨rfl,rfl⟩:=hxy;exact sA (each i (by omega)).2 9999
theorem xF(hT:fC P T)(hE:∀t,(T t).eqk≠[]->(T t).k.isNone=false){kt:TypeId}{k:DV}(h:kQ (T kt) k=true):AE P kt k:=by
 unfold kQ at h;split at h
 ·rename_i cs;simp only[Bool.and_eq_true,Bool.not_eq_true',List.isEmpty_eq_false_iff]at h;have hek:(T kt).eqk≠[]:=λe=>by rw[e]at h;cases cs<;>simp_all[bH]
  obtain⟨g1,gs|ga⟩:=(hT kt (hE kt hek)).eqk hek
  ·obtain⟨g2,fs,g3,g4,g5⟩:=gs;exact BR h.1.2 h.1.1 g2 g3 g4 g5
  ·exfalso;obtain⟨n,e,inf,kse,hu,_⟩:=ga;have h2:=h.2;cases q:(T kt).k with
   |struct fs=>obtain⟨fa,hf,_⟩:=hT.struct q;rw[hu]at hf;cases hf
   |_=>rw[q]at h2;cases h2
 ·have hn:(T kt).k.isNone=false:=by cases q:(T kt).k<;>rw[q]at h<;>simp_all[eE,TK.isNone]
  obtain⟨inf,d,z,h1,h2,h3,_⟩:=hT.parts hn;exact IC h2 h3 h
theorem AE.findKey{kt:TypeId}{k:DV}(h:AE P kt k){v:Value}(hv:RD w E k v){ks:List DV}{es:List MapEntry}{r:Option Nat}(hl:ks.length=es.length)(hp:∀(j:Nat) (d:DV) (e:MapEntry),ks[j]? =some d->es[j]? =some e->RD w E d e.key)
 (hr:iK k ks 0=some r):(Instr.findKey kt v es).run P w=.ok (r.map λj=>(j,(es.getD j default).val)) w:=by
 obtain⟨d,hd,h|⟨h,h2⟩⟩:=h.find w E v hv ks es 0 r hl hp hr
 ·simp[Instr.findKey,run_underlying hd,h]
 ·simp[Instr.findKey,run_underlying hd,h,h2]
theorem Gp(m:cV w0 X H β w){x:LV}{v:Value}(hx:R w (Ex X β H) β H x v){ks vs:List DV}(hm:uD H x=some (ks,vs)):
 ∃b clock arr,v=.map (some b)/\w.heap[b]? =some (.map arr clock)/\ks.length=arr.size/\vs.length=arr.size/\eR arr clock/\
  (∀(i:Nat) (d:DV) (e:MapEntry),ks[i]? =some d->arr[i]? =some e->RD w (Ex X β H) d e.key)/\∀(i:Nat) (d:DV) (e:MapEntry),vs[i]? =some d->arr[i]? =some e->RD w (Ex X β H) d e.val:=by
 unfold uD at hm;split at hm
 ·rename_i ks' vs';injection hm with hm;injection hm with h1 h2;subst h1;subst h2
  cases hx with
  |d _ _ hx=>cases hx with
   |mp _ _ b clock arr _ _ hblk hk hl hborn h1 h2=>exact⟨b,clock,arr,rfl,hblk,hk,hl,hborn,h1,h2⟩
 ·rename_i id;cases hH:H id with
  |map fz ks' vs'=>
   rw[hH]at hm;injection hm with hm;injection hm with h1 h2;subst h1;subst h2
   have ho:=m.obj id;simp only[cP,hH]at ho;obtain⟨b,arr,clock,hb,hblk,hk,hl,hborn,h1,h2⟩:=ho;cases hx with
   |mp _ b' _ _ _ _ hb'=>
    rw[hb]at hb';injection hb' with hb';subst hb'
    exact⟨b,clock,arr,rfl,hblk,hk,hl,hborn,h1,h2⟩
   |mpdead _ _ hd=>rw[hH]at hd;cases hd
  |_=>rw[hH]at hm;cases hm
 ·cases hm
theorem iY{b clock:Nat}{arr:Array MapEntry}(hb:w.heap[b]? =some (.map arr clock)):(getObj b).run P w=.ok (.map arr clock) w:=by simp[getObj,Sem.run,hb]
theorem AG(u:Value)(h:u.oneCell'=true):RD w E (pU u) u:=by
 unfold pU;split
 ·exact .bool _
 ·exact .int _ _
 ·rename_i s;have:=RD.str (w:=w) (E:=E) s.data.toList;rw[tI]at this;exact this
 ·exact .sl0 none 0 (by unfold maxLen;omega)
 ·exact .val _ h
theorem Nj(hT:fC P T){t:TypeId}(h:(T t).k.isNone=false):∃z,(zeroValue t).run P w=.ok z w/\RD w E (dH (T t)) z:=by
 obtain⟨inf,h1,h2,h3⟩:=(hT t h).zv;have one:=(hT t h).one;refine⟨_,by simp[zeroValue,typeInfo,h1,h2];rfl,?_⟩;unfold dH;cases q:(T t).k.agg with
 |true=>
  simp only[if_true];refine .agg _ _ (by simp) one λi c v hc hv=>?_;rw[List.getElem?_map,hv]at hc;simp at hc;subst hc;exact AG v (one v (List.mem_of_getElem? hv))
 |false=>
  have hl:=h3 q
  match hz:(T t).zero,hl with
  |[u],_=>
   simp only[Bool.false_eq_true,if_false,List.map_cons,List.map_nil,List.getD_cons_zero];exact AG u (one u (by rw[hz];simp))
theorem Gq(m:cV w0 X H β w){t:TypeId}(ho:o.op=.makeMap t none)(hok:(jD H (o.dst.getD 0)).ok):iV P w0 X H β w a o (jD H (o.dst.getD 0)):=by
 simp only[jD]at hok|-;obtain⟨m2,g2⟩:=m.newObj (w':=w.alloc (.map #[] 0)) ((BP.refl _ _).alloc (Nat.le_refl _) _) hok (o:=.map false [] []) (some w.heap.size) (λb hb=>by injection hb with hb;subst hb;simp) λ_ _=>by
  unfold cP;rw[aM];exact⟨w.heap.size,#[],0,by rw[aM],heap_alloc_new w _,rfl,rfl,eR.empty,by simp,by simp⟩
 refine bG (v:=.map (some w.heap.size)) (w':=w.alloc (.map #[] 0)) (β':=bU β (o.dst.getD 0) (some w.heap.size)) ?_ (by simp only[aR];exact m2) (by simp only[aR];exact g2) ?_
 ·simp[execOp,ho,Instr.makeMap]
 ·simp only[aR];exact .mp _ w.heap.size false [] [] (by rw[aM]) (by rw[aM])
theorem ID(hT:fC P T)(hE:∀t,(T t).eqk≠[]->(T t).k.isNone=false)(m:cV w0 X H β w)(hg:∀x,R w (Ex X β H) β H (g x) (a.eval x)){t:TypeId}{x i:Operand}{ck:Bool}(ho:o.op=.lookup t x i ck)
 (hok:(dZ T H t (g x) (g i) ck).ok):iV P w0 X H β w a o (dZ T H t (g x) (g i) ck):=by
 unfold dZ at*;split at hok
 ·rename_i kt et ks vs k hk hm hgi;obtain⟨b,clock,arr,hv,hblk,hkl,hvl,_,hkey,hval⟩:=Gp m (hg x) hm;have hi:=hg i;rw[hgi]at hi;have hi:RD w (Ex X β H) k (a.eval i):=by cases hi with|d _ _ h=>exact h
  have hu:=hT.mapd hk;have fin:∀(r:Option Nat) (z:Value),AE P kt k->iK k ks 0=some r->(r=none->(zeroValue et).run P w=.ok z w)->
   (execOp a.eval o).run P w=.ok (.value (if ck then .tuple #[match r with|some j=>(arr.toList.getD j default).val|none=>z,.bool r.isSome]else match r with|some j=>(arr.toList.getD j default).val|none=>z)) w:=by
   intro r z hK hr hz;have h1:=hK.check w _ arr.isEmpty _ hi;have h2:=hK.findKey (es:=arr.toList) hi (by simpa using hkl) (λj d e hd he=>hkey j d e hd (by simpa using he)) hr;cases r with
   |none=>simp[execOp,ho,Instr.lookup,run_underlying hu,hv,iY hblk,h1,h2,hz rfl]
   |some j=>simp[execOp,ho,Instr.lookup,run_underlying hu,hv,iY hblk,h1,h2]
  split at hok
  ·rename_i j hf;simp only[iO.cond]at hok|-;have hK:=xF hT hE hok;have hj:=pF hf;have hjl:j<ks.length:=by have:=(List.getElem?_eq_some_iff.1 hj.2).1;omega
   have hrv:RD w (Ex X β H) (vs.getD j default) (arr.toList.getD j default).val:=by
    have h1:j<vs.length:=(by omega);have h2:j<arr.size:=(by omega);have:=hval j (vs[j]) (arr[j]) (List.getElem?_eq_getElem h1) (Array.getElem?_eq_getElem h2);simpa [List.getD_eq_getElem?_getD,h1,h2]using this
   have hrun:=fin (some j) undef hK hf (by simp);cases ck with
   |true=>
    simp only[if_true]at hrun|-;refine iV.plain m hrun (.tup _ [_,_] rfl λi l v hl hv=>?_)
    match i,hl,hv with
    |0,hl,hv=>injection hl with hl;injection hv with hv;subst hl;subst hv;exact .d _ _ hrv
    |1,hl,hv=>injection hl with hl;injection hv with hv;subst hl;subst hv;exact cB _
   |false=>exact iV.plain m hrun (.d _ _ hrv)
  ·rename_i hf;simp only[iO.cond]at hok|-;have hK:=xF hT hE hok.1;obtain⟨z,hz,hrz⟩:=Nj (P:=P) (w:=w) (E:=Ex X β H) hT hok.2;have hrun:=fin none z hK hf (λ_=>hz);cases ck with
   |true=>
    simp only[if_true]at hrun|-;refine iV.plain m hrun (.tup _ [_,_] rfl λi l v hl hv=>?_)
    match i,hl,hv with
    |0,hl,hv=>injection hl with hl;injection hv with hv;subst hl;subst hv;exact .d _ _ hrz
    |1,hl,hv=>injection hl with hl;injection hv with hv;subst hl;subst hv;exact cB _
   |false=>exact iV.plain m hrun (.d _ _ hrz)
  ·exact hok.elim
 ·exact hok.elim
theorem KF(w:World)(b:Nat)(o':Obj)(k:Nat)(h:k≠b):(w.heap.setIfInBounds b o')[k]? =w.heap[k]? :=by simp[Ne.symm h]
theorem cV.rewriteMap(m:cV w0 X H β w){id b clock clock':Nat}{ks vs ks' vs':List DV}{arr arr':Array MapEntry}(hH:H id=.map false ks vs)(hb:β id=some b)(hblk:w.heap[b]? =some (.map arr clock))
 (hk:ks'.length=arr'.size)(hl:vs'.length=arr'.size)(hborn:eR arr' clock')
 (hkey:∀(i:Nat) (d:DV) (e:MapEntry),ks'[i]? =some d->arr'[i]? =some e->RD w (Ex X β H) d e.key)(hval:∀(i:Nat) (d:DV) (e:MapEntry),vs'[i]? =some d->arr'[i]? =some e->RD w (Ex X β H) d e.val):
 cV w0 X (bU H id (.map false ks' vs')) β {w with heap:=w.heap.setIfInBounds b (.map arr' clock')}/\eY X H β w (bU H id (.map false ks' vs')) β {w with heap:=w.heap.setIfInBounds b (.map arr' clock')}:=by
 refine m.rewriteG (by rw[hH];rfl) hb rfl rfl rfl (Nat.le_refl _) (by simp) (λk hk=>KF w b _ k hk) ?_ λhD _=>?_
 ·unfold bL;rw[hH,aM];exact .inr ⟨⟨false,ks',vs',rfl⟩,rfl⟩
 ·unfold cP;rw[aM];exact⟨b,arr',clock',hb,by simp[(Array.getElem?_eq_some_iff.1 hblk).1],hk,hl,hborn,λi d e hd he=>hD _ _ (hkey i d e hd he),λi d e hd he=>hD _ _ (hval i d e hd he)⟩
theorem pZ{b clock:Nat}{arr:Array MapEntry}(o':Obj)(hb:w.heap[b]? =some (.map arr clock)):(setObj b o').run P w=.ok () {w with heap:=w.heap.setIfInBounds b o'}:=by simp[setObj,Sem.run,hb]
theorem vT(hT:fC P T)(hE:∀t,(T t).eqk≠[]->(T t).k.isNone=false)(m:cV w0 X H β w){t:TypeId}{x i y:Operand}{lx li ly:LV}(hx:R w (Ex X β H) β H lx (a.eval x))(hi:R w (Ex X β H) β H li (a.eval i))(hy:R w (Ex X β H) β H ly (a.eval y))(ho:o.op=.mapUpdate t x i y\/o.op=.insert t x i y)
 (hok:(cH T H t lx li ly).ok):iV P w0 X H β w a o (cH T H t lx li ly):=by
 unfold cH at*;split at hok
 ·rename_i kt et id k v hk;split at hok
  ·rename_i ks vs hH;have hi:RD w (Ex X β H) k (a.eval i):=by cases hi with|d _ _ h=>exact h
   have hy:RD w (Ex X β H) v (a.eval y):=by cases hy with|d _ _ h=>exact h
   have hu:=hT.mapd hk;have hob:=m.obj id;simp only[cP,hH]at hob;obtain⟨b,arr,clock,hb,hblk,hkl,hvl,hborn,hkey,hval⟩:=hob;have hxv:a.eval x=.map (some b):=by
    generalize a.eval x=vx at hx;cases hx with
    |mp _ b' _ _ _ _ hb'=>rw[hb]at hb';injection hb' with hb';rw[hb']
    |mpdead _ _ hd=>rw[hH]at hd;cases hd
   split at hok
   ·rename_i j hf;simp only at hok|-;have hK:=xF hT hE hok;have h1:=hK.check w _ false _ hi;have h2:=hK.findKey (es:=arr.toList) hi (by simpa using hkl) (λj d e hd he=>hkey j d e hd (by simpa using he)) hf;have hj:=(pF hf).2;rw[Nat.sub_zero]at hj;have hjl:j<ks.length:=(List.getElem?_eq_some_iff.1 hj).1;have hja:j<arr.size:=by omega
    have hold:=hkey j k arr[j] hj (Array.getElem?_eq_getElem hja);have hst:(Instr.keyThatStays arr[j].key (a.eval i)).run P w=.ok (a.eval i) w:=by simp[Instr.keyThatStays,hK.same w _ _ _ hi hold]
    obtain⟨m2,g2⟩:=m.rewriteMap hH hb hblk (ks':=ks) (vs':=vs.set j v) (arr':=arr.modify j λe=>{e with key:=a.eval i,val:=a.eval y}) (clock':=clock) (by simpa using hkl) (by simpa using hvl) (hborn.modify j _ _)
     (λl d e hd he=>by
       rw[Array.getElem?_modify]at he;split at he
       ·rename_i q;subst q;rw[hj]at hd;injection hd with hd;subst hd
        rw[Option.map_eq_some_iff]at he;obtain⟨e0,_,rfl⟩:=he;exact hi
       ·exact hkey l d e hd he)
     (λl d e hd he=>by
       rw[Array.getElem?_modify]at he;rw[List.getElem?_set]at hd;split at he
       ·rename_i q;subst q;rw[if_pos rfl,if_pos (by omega)]at hd;injection hd with hd;subst hd
        rw[Option.map_eq_some_iff]at he;obtain⟨e0,_,rfl⟩:=he;exact hy
       ·rename_i q;rw[if_neg q]at hd;exact hval l d e hd he)
    refine oD (w':=_) (β':=β) ?_ (by simp only[aR];exact m2) (by simp only[aR];exact g2) rfl;rcases ho with ho|ho<;>simp[execOp,ho,Instr.mapUpdate,run_underlying hu,hxv,iY hblk,h1,h2,hja,hst,pZ _ hblk]
   ·rename_i hf;simp only at hok|-;have hK:=xF hT hE hok;have h1:=hK.check w _ false _ hi;have h2:=hK.findKey (es:=arr.toList) hi (by simpa using hkl) (λj d e hd he=>hkey j d e hd (by simpa using he)) hf;have last:∀(ls:List DV) (z:DV) (u:Value) (f:MapEntry->Value),ls.length=arr.size->f {key:=a.eval i,val:=a.eval y,born:=clock}=u->RD w (Ex X β H) z u->(∀(i:Nat) (d:DV) (e:MapEntry),ls[i]? =some d->arr[i]? =some e->RD w (Ex X β H) d (f e))->
     ∀(l:Nat) (d:DV) (e:MapEntry),(ls++[z])[l]? =some d->(arr.push {key:=a.eval i,val:=a.eval y,born:=clock})[l]? =some e->RD w (Ex X β H) d (f e):=by
     intro ls z u f hl hu hz hp l d e hd he;rw[Array.getElem?_push]at he;split at he
     ·rename_i q;injection he with he;subst he
      rw[List.getElem?_append_right (by omega)]at hd;rw[hu];rw[q,hl]at hd;simp at hd;subst hd;exact hz
     ·have hlt:=(Array.getElem?_eq_some_iff.1 he).1;rw[List.getElem?_append_left (by omega)]at hd;exact hp l d e hd he
    obtain⟨m2,g2⟩:=m.rewriteMap hH hb hblk (ks':=ks++[k]) (vs':=vs++[v]) (arr':=arr.push {key:=a.eval i,val:=a.eval y,born:=clock}) (clock':=clock+1) (by simp[hkl]) (by simp[hvl]) (hborn.push _ _)
     (last ks k _ (·.key) hkl rfl hi hkey) (last vs v _ (·.val) hvl rfl hy hval)
    refine oD (w':=_) (β':=β) ?_ (by simp only[aR];exact m2) (by simp only[aR];exact g2) rfl;rcases ho with ho|ho<;>simp[execOp,ho,Instr.mapUpdate,run_underlying hu,hxv,iY hblk,h1,h2,pZ _ hblk]
   ·exact hok.elim
  ·exact hok.elim
 ·exact hok.elim
theorem Co(hT:fC P T)(hE:∀t,(T t).eqk≠[]->(T t).k.isNone=false)(m:cV w0 X H β w)(hg:∀x,R w (Ex X β H) β H (g x) (a.eval x)){t:TypeId}{x i y:Operand}(ho:o.op=.mapUpdate t x i y\/o.op=.insert t x i y)
 (hok:(fY T H t (g x) (g i) (g y)).ok):iV P w0 X H β w a o (fY T H t (g x) (g i) (g y)):=by
 have hy:=hg y;generalize g y=ly at*;unfold fY at*;split at hok
 ·exact vT hT hE m (hg x) (hg i) hy ho hok
 ·cases q:close H 8 ly with
  |none=>simp only[q]at hok;exact hok.elim
  |some v=>
   simp only[q]at hok|-;obtain⟨m',gg⟩:=m.freeze (bJ H 8 ly);have core:=vT hT hE m' (gg.R (hg x)) (gg.R (hg i)) (.d _ _ (gC m q (λ_ h=>h) hy)) ho hok;intro K Q hK;refine core K Q λu w' β' m2 g2 hv=>hK u w' β' ?_ ?_ ?_<;>simp only[]<;>rw[yQ]
   ·exact m2
   ·exact gg.trans g2
   ·exact hv
theorem IE(hT:fC P T)(hE:∀t,(T t).eqk≠[]->(T t).k.isNone=false)(m:cV w0 X H β w)(hg:∀x,R w (Ex X β H) β H (g x) (a.eval x)){t u:TypeId}{x i:Operand}(ho:o.op=.call {callee:=.builtin .delete,args:= #[x,i],argTypes:= #[t,u]})
 (hok:(fZ T H t (g x) (g i)).ok):iV P w0 X H β w a o (fZ T H t (g x) (g i)):=by
 unfold fZ at*;split at hok
 ·rename_i kt et id k hk hgx hgi;split at hok
  ·rename_i ks vs hH;have hx:=hg x;have hi:=hg i;rw[hgx]at hx;rw[hgi]at hi;have hi:RD w (Ex X β H) k (a.eval i):=by cases hi with|d _ _ h=>exact h
   have hu:=hT.mapd hk;have hob:=m.obj id;simp only[cP,hH]at hob;obtain⟨b,arr,clock,hb,hblk,hkl,hvl,hborn,hkey,hval⟩:=hob;have hxv:a.eval x=.map (some b):=by
    generalize a.eval x=vx at hx;cases hx with
    |mp _ b' _ _ _ _ hb'=>rw[hb]at hb';injection hb' with hb';rw[hb']
    |mpdead _ _ hd=>rw[hH]at hd;cases hd
   split at hok
   ·rename_i j hf;simp only at hok|-;have hK:=xF hT hE hok;have h1:=hK.check w _ arr.isEmpty _ hi;have h2:=hK.findKey (es:=arr.toList) hi (by simpa using hkl) (λj d e hd he=>hkey j d e hd (by simpa using he)) hf;have hj:=(pF hf).2;rw[Nat.sub_zero]at hj;have hjl:j<ks.length:=(List.getElem?_eq_some_iff.1 hj).1;have hsz:(arr.eraseIdxIfInBounds j).size=arr.size-1:=by simp[Array.eraseIdxIfInBounds,show j<arr.size by omega]
    obtain⟨m2,g2⟩:=m.rewriteMap hH hb hblk (ks':=ks.eraseIdx j) (vs':=vs.eraseIdx j) (arr':=arr.eraseIdxIfInBounds j) (clock':=clock) (by rw[hsz,List.length_eraseIdx_of_lt hjl];omega) (by rw[hsz,List.length_eraseIdx_of_lt (by omega)];omega) (hborn.erase j)
     (λl d e hd he=>by
       rw[xE]at he;rw[List.getElem?_eraseIdx]at hd;split at he
       ·rename_i q;rw[if_pos q]at hd;exact hkey _ d e hd he
       ·rename_i q;rw[if_neg q]at hd;exact hkey _ d e hd he)
     (λl d e hd he=>by
       rw[xE]at he;rw[List.getElem?_eraseIdx]at hd;split at he
       ·rename_i q;rw[if_pos q]at hd;exact hval _ d e hd he
       ·rename_i q;rw[if_neg q]at hd;exact hval _ d e hd he)
    refine bG (v:=.tuple #[]) (w':=_) (β':=β) ?_ (by simp only[aR];exact m2) (by simp only[aR];exact g2) (.junk _);simp[execOp,ho,resolve,invoke,builtin,Builtin.delete_,run_underlying hu,hxv,iY hblk,h1,h2,pZ _ hblk]
   ·rename_i hf;simp only at hok|-;have hK:=xF hT hE hok;have h1:=hK.check w _ arr.isEmpty _ hi;have h2:=hK.findKey (es:=arr.toList) hi (by simpa using hkl) (λj d e hd he=>hkey j d e hd (by simpa using he)) hf;obtain⟨m2,g2⟩:=m.rewriteMap hH hb hblk (ks':=ks) (vs':=vs) (arr':=arr) (clock':=clock) hkl hvl hborn hkey hval;refine bG (v:=.tuple #[]) (w':=_) (β':=β) ?_ (by simp only[aR];exact m2) (by simp only[aR];exact g2) (.junk _);simp[execOp,ho,resolve,invoke,builtin,Builtin.delete_,run_underlying hu,hxv,iY hblk,h1,h2,pZ _ hblk]
   ·exact hok.elim
  ·exact hok.elim
 ·exact hok.elim
theorem KG(hT:fC P T)(m:cV w0 X H β w)(hg:∀x,R w (Ex X β H) β H (g x) (a.eval x)){t kt et:TypeId}{x:Operand}(ho:o.op=.range t x)(hk:(T t).k=.map kt et)
 (hok:(mO H (o.dst.getD 0) (g x)).ok):iV P w0 X H β w a o (mO H (o.dst.getD 0) (g x)):=by
 have hx:=hg x;have hu:=hT.mapd hk;unfold mO at*;split at hok
 ·rename_i ks vs hgx;simp only at hok|-;rw[hgx]at hx;obtain⟨b,clock,arr,hv,hne,hlt,hblk,hkl,hvl,hborn,hkey,hval⟩:∃b clock arr,a.eval x=.map (some b)/\¬Ex X β H b/\b<w.heap.size/\w.heap[b]? =some (.map arr clock)/\ks.length=arr.size/\vs.length=arr.size/\eR arr clock/\
   (∀(i:Nat) (d:DV) (e:MapEntry),ks[i]? =some d->arr[i]? =some e->RD w (Ex X β H) d e.key)/\∀(i:Nat) (d:DV) (e:MapEntry),vs[i]? =some d->arr[i]? =some e->RD w (Ex X β H) d e.val:=by
   generalize a.eval x=vx at hx;cases hx with
   |d _ _ hx=>cases hx with
    |mp _ _ b clock arr h1 h2 h3 h4 h5 h6 h7 h8=>exact⟨b,clock,arr,rfl,h1,h2,h3,h4,h5,h6,h7,h8⟩
  have hfil:(arr.filter λe=> !(#[]:Array Nat).contains e.born)=arr:=by simp
  have hgrow:=(m.grow (w':=w.alloc (.mapIter (some b) clock #[] clock)) ((BP.refl _ _).alloc (Nat.le_refl _) _)).2;obtain⟨m2,g2⟩:=m.newObj (w':=w.alloc (.mapIter (some b) clock #[] clock)) ((BP.refl _ _).alloc (Nat.le_refl _) _) hok (o:=.iter false ks vs) (some w.heap.size) (λb hb=>by injection hb with hb;subst hb;simp) λhD _=>by
   unfold cP;rw[aM];refine⟨w.heap.size,b,arr,clock,#[],clock,by rw[aM],heap_alloc_new w _,?_,by simp;omega,?_,hborn,rfl,by rw[hfil];exact hkl,by rw[hfil];exact hvl,by rw[hfil];exact λi d e hd he=>hD _ _ (hkey i d e hd he),by rw[hfil];exact λi d e hd he=>hD _ _ (hval i d e hd he)⟩
   ·rintro(h|⟨j,h1,h2⟩)
    ·exact hne (.inl h)
    ·by_cases hj:j=o.dst.getD 0
     ·subst hj;rw[aM]at h2;injection h2 with h2;omega
     ·rw[bS _ _ hj]at h1 h2;exact hne (.inr ⟨j,h1,h2⟩)
   ·rw[Below.heap_alloc _ _ _ hlt];exact hblk
  refine bG (v:=.pointer (some ⟨w.heap.size,0,none⟩)) (w':=w.alloc (.mapIter (some b) clock #[] clock)) (β':=bU β (o.dst.getD 0) (some w.heap.size)) ?_ (by simp only[aR];exact m2) (by simp only[aR];exact g2) ?_
  ·simp[execOp,ho,Instr.range,run_underlying hu,hv,iY hblk]
  ·simp only[aR];exact .it _ w.heap.size false ks vs (by rw[aM]) (by rw[aM])
 ·exact hok.elim
end
end
end Go.Eng
