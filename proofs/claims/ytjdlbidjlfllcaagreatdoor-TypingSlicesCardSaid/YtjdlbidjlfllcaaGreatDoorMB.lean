/- Part 2 of the proof. No condition. -/
import Derived.Test.YtjdlbidjlfllcaaGreatDoorMA
import Derived.MapKept
import Derived.Laws.MakeOwn
import Derived.Lib.SliceRun
import Derived.Lib.AppendZerosOnto
import Derived.Lib.Overlaps
set_option linter.unusedVariables false
set_option linter.unusedSimpArgs false
set_option maxRecDepth 20000
set_option maxHeartbeats 4000000
namespace Go.Eng
section
open Go.RowKit
section
variable{P:Program} {T:TypeId->fE} {w0:cX} {X:Nat->Prop} {H:Nat->bB} {β:Nat->Option Nat} {w:World} {a:Act} {o:Oper} {g:Operand->LV} {E:Nat->Prop}
theorem QG(new:List Value):∀(j off:Nat) (cs:Array Value),off+j+new.length<=cs.size->
 (new.zipIdx j).foldl (λcs p=>cs.setIfInBounds (off+p.2) p.1) cs=(dI (off+j) cs.toList new).toArray:=by
 induction new with
 |nil=>intro j off cs h;simp[dI]
 |cons v t ih=>
  intro j off cs h;simp only[List.length_cons]at h;simp only[List.zipIdx_cons,List.foldl_cons];rw[ih (j+1) off _ kG];congr 1;apply List.ext_getElem?;intro i;have hl:cs.toList.length=cs.size:=aM;have hl2:(cs.setIfInBounds (off+j) v).toList.length=cs.size:=aM;have q1:=gL (off:=off+(j+1)) (cs:=(cs.setIfInBounds (off+j) v).toList) (new:=t) (by rw[hl2];omega) i;have q2:=gL (off:=off+j) (cs:=cs.toList) (new:=v::t) (by rw[hl];simp;omega) i;rw[q1,q2];simp only[List.length_cons,Array.getElem?_toList];by_cases h1:i<off+j
  ·rw[if_pos aE,if_pos h1,Array.getElem?_setIfInBounds_ne aE]
  ·rw[if_neg h1];by_cases h2:i=off+j
   ·subst h2;rw[if_pos aE,if_pos aE];simp[show off+j<cs.size by omega]
   ·rw[if_neg aE];by_cases h3:i<off+j+(t.length+1)
    ·rw[if_pos aE,if_pos h3];rw[show i-(off+j)=(i-(off+(j+1)))+1 by omega];simp
    ·rw[if_neg aE,if_neg h3,Array.getElem?_setIfInBounds_ne aE]
theorem FW{place:Nat->Option (Nat×Nat)}{cells:Array Value}{i:Nat}{v:Value}{rest:List (Nat×Value)}{off size:Nat}(hp:place i=some (off,size))(hv:v.cells.toList.length=size)(hf:off+size<=cells.size):
 Instr.fill place cells ((i,v)::rest)=Instr.fill place (dI off cells.toList v.cells.toList).toArray rest:=by
 have hs:v.cells.size=size:=by simpa using hv
 simp only[Instr.fill,hp];rw[if_neg (by simp[hs];omega)];congr 1;have:=QG v.cells.toList 0 off cells aE;simp only[Nat.add_zero]at this;rw[<-this,<-Array.foldl_toList];simp
theorem BP(hT:fP P T){fs:List (Nat×TypeId)}(hsz:∀p∈fs,(T p.2).k.isNone=false):∀(ps:List (Nat×Operand)) (cs res:List LV) (us:List Value),
 Di fs T cs (ps.map λp=>(p.1,g p.2))=some res->(∀p∈ps,iU H (g p.2)=true)->(∀x,R w E β H (g x) (a.eval x))->
 us.length=cs.length->(∀u∈us,u.oneCell'=true)->(∀(i:Nat) (c:LV) (v:Value),cs[i]? =some c->us[i]? =some v->R w E β H c v)->
 ∃vs,Instr.fill (λi=>(fs[i]?).map λp=>(p.1,(T p.2).size)) us.toArray (ps.map λp=>(p.1,a.eval p.2))=some (List.toArray vs)/\vs.length=res.length/\(∀u∈vs,u.oneCell'=true)/\
  ∀(i:Nat) (c:LV) (v:Value),res[i]? =some c->vs[i]? =some v->R w E β H c v:=by
 intro ps;induction ps with
 |nil=>
  intro cs res us h _ _ hl h1 hp;simp[Di]at h;subst h;exact⟨us,by simp[Instr.fill],hl,h1,hp⟩
 |cons p ps ih=>
  intro cs res us h hs hg hl h1 hp;simp only[List.map_cons,Di]at h;split at h
  ·cases h
  ·rename_i off ty hf;split at h
   ·rename_i hc;obtain⟨hc1,hc2⟩:=hc;have hsp:=hs p aM;obtain⟨q1,q2⟩:=(hg p.2).cells hsp;have q3:=(hg p.2).cells1 hsp;obtain⟨vs,r1,r2⟩:=ih _ res (dI off us (a.eval p.2).cells.toList) h (λq hq=>hs q (by simp[hq])) hg (by rw[fW aE,fW aE];exact hl) (Dr h1 q3) (Jq hl q1 aE hp q2);refine⟨vs,?_,r2⟩;simp only[List.map_cons];rw[FW (off:=off) (size:=(T ty).size) (by simp[hf]) aE (by rw[List.size_toArray];omega)];exact r1
   ·cases h
theorem FX{place place':Nat->Option (Nat×Nat)}(hp:∀i q,place i=some q->place' i=some q):∀{ps:List (Nat×Value)} {cells res:Array Value},Instr.fill place cells ps=some res->Instr.fill place' cells ps=some res
 |[],_,_,h=>h
 |(i,v)::r,cells,res,h=>by
  simp only[Instr.fill]at h|-;cases q:place i with
  |none=>rw[q]at h;cases h
  |some p=>
   obtain⟨off,size⟩:=p;rw[q]at h;rw[hp i _ q];simp only at h|-;split at h
   ·cases h
   ·rename_i hc;rw[if_neg hc];exact FX hp h
theorem TL(hT:fP P T)(m:dR w0 X H β w)(hg:∀x,R w (Ex X β H) β H (g x) (a.eval x)){t:TypeId}{ps:Array (Nat×Operand)}(ho:o.op=.build t ps)
 (ht:∀fs,(T t).k=.struct fs->∀p∈fs,(T p.2).k.isNone=false)(hta:∀n e,(T t).k=.arr n e->(T e).k.isNone=false)(hok:(rQ T H t (ps.toList.map λp=>(p.1,g p.2))).ok):mD P w0 X H β w a o (rQ T H t (ps.toList.map λp=>(p.1,g p.2))):=by
 unfold rQ at*;split at hok
 ·rename_i fs hk;obtain⟨fa,hu,hm⟩:=hT.struct hk;split at hok
  ·rename_i res hres;simp only[kQ.cond]at hok|-;obtain⟨inf,d,z,h1,h2,h3,h4,h5,h6,h7⟩:=hT.parts (t:=t) (by rw[hk];rfl);have hone:=(hT t (by rw[hk];rfl)).one;obtain⟨vs,r1,r2,r3,r4⟩:=BP (P:=P) (H:=H) (w:=w) (E:=Ex X β H) (β:=β) hT (ht fs hk) ps.toList _ res (T t).zero hres (λp hp=>hok _ (List.mem_map.2 ⟨p,hp,rfl⟩)) hg aM hone
    (λi c v hc hv=>by simp[hv]at hc;subst hc;exact R.const v)
   refine mD.plain m (v:=.agg vs.toArray) ?_ (R.mkAgg r2 r3 r4);have hzc:z.cells=(T t).zero.toArray:=by rw[<-h7]
   have hplaces:∀w:World,(fa.mapM λf=>(do pure (f.offset,<-sizeOf f.type):Sem (Nat×Nat))).run P w=.ok (fa.map λf=>(f.offset,(T f.type).size)) w:=by
    intro w;have hall:∀f∈fa.toList,(T f.type).k.isNone=false:=λf hf=>ht fs hk (f.offset,f.type) (by rw[<-hm];exact List.mem_map.2 ⟨f,hf,rfl⟩);rw[Array.mapM_eq_mapM_toList];have:∀l:List Field,(∀f∈l,(T f.type).k.isNone=false)->(l.mapM λf=>(do pure (f.offset,<-sizeOf f.type):Sem (Nat×Nat))).run P w=.ok (l.map λf=>(f.offset,(T f.type).size)) w:=by
     intro l;induction l with
     |nil=>intro _;rfl
     |cons f l ih=>
      intro hl;have i1:=ih λf hf=>hl f (by simp[hf]);have i2:=cP (P:=P) (w:=w) hT (hl f aM);simp only[List.mapM_cons,List.map_cons,Sem.run_bind,i2,Result.andThen_ok,Sem.run_pure,i1]
    rw[Sem.run_map,this fa.toList hall];simp only[Result.andThen_ok];congr 1;apply Array.ext';simp
   have hfun:(λi:Nat=>(fa.map λf=>(f.offset,(T f.type).size))[i]?)=λi=>(fs[i]?).map λp=>(p.1,(T p.2).size):=by
    funext i;rw[<-hm];simp;rfl
   have hps:(ps.map λ(p:Nat×Operand)=>(p.1,a.eval p.2)).toList=ps.toList.map λp=>(p.1,a.eval p.2):=aM;simp only[execOp,ho,Instr.build,Sem.run_bind,zeroValue,typeInfo,run_program,Result.andThen_ok,h1,h6,Sem.run_pure,run_underlying hu,hplaces,hfun,hzc,hps,r1]
  ·exact hok.elim
 ·rename_i n e hk;have hu:=hT.arr hk;have hne:=hta n e hk;split at hok
  ·rename_i res hres;simp only[kQ.cond]at hok|-;obtain⟨inf,d,z,h1,h2,h3,h4,h5,h6,h7⟩:=hT.parts (t:=t) (by rw[hk];rfl);have hone:=(hT t (by rw[hk];rfl)).one;obtain⟨vs,r1,r2,r3,r4⟩:=BP (P:=P) (H:=H) (w:=w) (E:=Ex X β H) (β:=β) hT (λp hp=>by obtain⟨i,_,rfl⟩:=List.mem_map.1 hp;exact hne) ps.toList _ res (T t).zero hres (λp hp=>hok _ (List.mem_map.2 ⟨p,hp,rfl⟩)) hg aM hone
    (λi c v hc hv=>by simp[hv]at hc;subst hc;exact R.const v)
   refine mD.plain m (v:=.agg vs.toArray) ?_ (R.mkAgg r2 r3 r4);have hzc:z.cells=(T t).zero.toArray:=by rw[<-h7]
   have hso:=cP (P:=P) (w:=w) hT hne;have hps:(ps.map λ(p:Nat×Operand)=>(p.1,a.eval p.2)).toList=ps.toList.map λp=>(p.1,a.eval p.2):=aM;have r1':=FX (place':=λi=>some (i*(T e).size,(T e).size)) (λi q hq=>by
    rw[List.getElem?_map]at hq;by_cases hi:i<n
    ·simpa [hi]using hq
    ·simp[hi]at hq) r1
   simp only[execOp,ho,Instr.build,Sem.run_bind,zeroValue,typeInfo,run_program,Result.andThen_ok,h1,h6,Sem.run_pure,run_underlying hu,hso,hzc,hps,r1']
  ·exact hok.elim
 ·exact hok.elim
theorem Mu{s:Nat}:∀(vs:List Value) (k:Nat) (cur:List Value),(∀v∈vs,v.cells.toList.length=s)->(k+vs.length)*s=cur.length->
 Instr.fill (λi=>some (i*s,s)) cur.toArray (vs.zipIdx k |>.map λp=>(p.2,p.1))=some (cur.take (k*s)++vs.flatMap λv=>v.cells.toList).toArray:=by
 intro vs;induction vs with
 |nil=>
  intro k cur _ h;simp at h;rw[List.take_of_length_le aE];simp[Instr.fill]
 |cons v t ih=>
  intro k cur hs h;simp only[List.length_cons]at h;have hv:=hs v aM;have e1:(k+(t.length+1))*s=k*s+s+t.length*s:=by rw[Nat.add_mul,Nat.add_mul];omega
  simp only[List.zipIdx_cons,List.map_cons];have e3:cur.toArray.toList=cur:=aM;rw[FW (off:=k*s) (size:=s) rfl hv (by rw[List.size_toArray];omega),e3];rw[ih (k+1) _ (λu hu=>hs u (by simp[hu])) (by rw[fW aE];rw[<-h];congr 1;omega)];congr 2;simp only[List.flatMap_cons];rw[<-List.append_assoc];congr 1;have e2:(k+1)*s=k*s+s:=by rw[Nat.add_mul];omega
  rw[e2];generalize v.cells.toList=u at hv;unfold dI;have hl:(cur.take (k*s)).length=k*s:=by rw[List.length_take];omega
  have hl2:(cur.take (k*s)++u).length=k*s+s:=by rw[List.length_append,hl,hv]
  rw[List.take_append_of_le_length aE,List.take_of_length_le aE]
theorem Js{w:World}{E:Nat->Prop}{xs:List DV}{vs:List Value}{s:Nat}(hl:vs.length=xs.length)(hs:∀x∈xs,(aQ x).length=s)(h:∀(i:Nat) (c:DV) (v:Value),xs[i]? =some c->vs[i]? =some v->RD w E c v):
 (∀v∈vs,v.cells.toList.length=s)/\(vs.flatMap λv=>v.cells.toList).length=xs.length*s/\(∀u∈vs.flatMap λv=>v.cells.toList,u.oneCell'=true)/\
   ∀(i:Nat) (d:DV) (u:Value),(bS xs)[i]? =some d->(vs.flatMap λv=>v.cells.toList)[i]? =some u->RD w E d u:=by
 induction xs generalizing vs with
 |nil=>
  have:vs=[]:=List.eq_nil_of_length_eq_zero (by simpa using hl);subst this;simp[bS]
 |cons x t ih=>
  match vs,hl with
  |v::vs,hl=>
   have hx:=h 0 x v rfl rfl;obtain⟨c1,c2⟩:=hx.cells;have c3:=hx.cells1;have hsx:=hs x aM;obtain⟨i1,i2,i3,i4⟩:=ih (vs:=vs) (by simpa using hl) (λy hy=>hs y (by simp[hy])) (λi c v hc hv=>h (i+1) c v (by simpa using hc) (by simpa using hv));refine⟨λu hu=>?_,?_,λu hu=>?_,λi d u hd hu=>?_⟩
   ·rcases List.mem_cons.1 hu with rfl|hu
    ·omega
    ·exact i1 u hu
   ·simp only[List.flatMap_cons,List.length_append,List.length_cons,i2,Nat.add_mul];omega
   ·simp only[List.flatMap_cons,List.mem_append]at hu;rcases hu with hu|hu
    ·exact c3 u hu
    ·exact i3 u hu
   ·simp only[bS,List.flatMap_cons]at hd;simp only[List.flatMap_cons]at hu;by_cases hi:i<(aQ x).length
    ·rw[List.getElem?_append_left hi]at hd;rw[List.getElem?_append_left aE]at hu;exact c2 i d u hd hu
    ·rw[List.getElem?_append_right aE]at hd;rw[List.getElem?_append_right aE,c1]at hu;exact i4 _ d u hd hu
theorem HI(m:dR w0 X H β w){d:Nat}(hd:H d=.absent){s:Nat}(hs:0<s){xs:List DV}(hall:∀x∈xs,(aQ x).length=s){cur:Array Value}(e:TypeId)(hlen:xs.length*s<=cur.size)
 (hp:∀(i:Nat) (d:DV) (v:Value),(bS xs)[i]? =some d->cur[i]? =some v->v.oneCell'=true/\RD w (Ex X β H) d v){w':World}(hb:zN w.heap.size w w')(hsz:w.heap.size<w'.heap.size)(hblk:w'.heap[w.heap.size]? =some (.cells cur e (0,0))):
 dR w0 X (cE H d (.row false s xs)) (cE β d (some w.heap.size)) w'/\eT X H β w (cE H d (.row false s xs)) (cE β d (some w.heap.size)) w':=
 m.newObj hb hd (some w.heap.size) (λb hb=>by injection hb with hb;omega) λhD _=>by
  unfold dO;rw[aX];exact⟨hs,hall,.inr ⟨w.heap.size,e,cur,by rw[aX],hblk,hlen,λi d v hd hv=>⟨(hp i d v hd hv).1,hD _ _ (hp i d v hd hv).2⟩⟩⟩
theorem uS(m:dR w0 X H β w){d:Nat}(hd:H d=.absent){s:Nat}(hs:0<s):dR w0 X (cE H d (.row false s [])) (cE β d none) w/\eT X H β w (cE H d (.row false s [])) (cE β d none) w:=
 m.newObj (zN.refl _ _) hd none (λb hb=>by cases hb) λ_ _=>by
  unfold dO;rw[aX];exact⟨hs,aM,.inl ⟨by rw[aX],rfl⟩⟩
theorem yB{α:Type}:∀(ps:List (Nat×α)) (k:Nat),ps.map (·.1)=List.range' k ps.length->ps=((ps.map (·.2)).zipIdx k).map λp=>(p.2,p.1)
 |[],_,_=>rfl
 |p::ps,k,h=>by
  simp only[List.map_cons,List.length_cons,List.range'_succ,List.cons.injEq]at h;simp only[List.map_cons,List.zipIdx_cons];rw[<-yB ps (k+1) h.2,<-h.1]
theorem FC(hT:fP P T)(m:dR w0 X H β w)(hg:∀x,R w (Ex X β H) β H (g x) (a.eval x)){t:TypeId}{n:Nat}{ps:Array (Nat×Operand)}{dst:Nat}(ho:o.op=.buildSlice t n ps)
 (ht:∀e,(T t).k=.slice e->(T e).k.isNone=false)(hok:(eS T H dst t n (ps.toList.map λp=>(p.1,g p.2))).ok):mD P w0 X H β w a o (eS T H dst t n (ps.toList.map λp=>(p.1,g p.2))):=by
 unfold eS at*;split at hok
 ·rename_i e hk;split at hok
  ·rename_i xs hxs;simp only at hok|-;obtain⟨ha,hr,hs0,hall,hlim⟩:=hok;have hu:=hT.slice hk;obtain⟨inf,d,z,h1,h2,h3,h4,h5,h6,h7⟩:=hT.parts (ht e hk);have hlps:ps.toList.length=n:=by have:=congrArg List.length hr;simpa using this
   obtain⟨hxl,hxp⟩:=kZ hxs;simp only[List.length_map]at hxl
   let ids:=(ps.toList.map λp=>(p.1,g p.2)).flatMap λp=>bR H 8 p.2
   obtain⟨m1,g1⟩:=m.freeze ids;have hids:bW H (bI H ids) dst=.absent:=by rw[fF,ha];simp[frozen]
   have hRD:∀(i:Nat) (c:DV) (v:Value),xs[i]? =some c->(ps.toList.map λp=>a.eval p.2)[i]? =some v->RD w (Ex X β (bW H (bI H ids))) c v:=by
    intro i c v hc hv;obtain⟨p,hp,rfl⟩:=eG hv;have hp':(ps.toList.map λp=>(p.1,g p.2))[i]? =some (p.1,g p.2):=by rw[List.getElem?_map,hp];rfl
    have hcl:=hxp i _ c hp' hc;exact gX m hcl (λid hid=>List.mem_flatMap.2 ⟨_,List.mem_of_getElem? hp',hid⟩) (hg p.2)
   obtain⟨f1,f2,f3,f4⟩:=Js (xs:=xs) (vs:=ps.toList.map λp=>a.eval p.2) (s:=(T e).size) (by simp[hxl]) hall hRD;generalize hcs:((ps.toList.map λp=>a.eval p.2).flatMap λv=>v.cells.toList)=cs at*;have hfill:∀cur:List Value,cur.length=n*(T e).size->Instr.fill (λi=>some (i*(T e).size,(T e).size)) cur.toArray (ps.map λ(p:Nat×Operand)=>(p.1,a.eval p.2)).toList=some cs.toArray:=by
    intro cur hcur;have e1:(ps.map λ(p:Nat×Operand)=>(p.1,a.eval p.2)).toList=((ps.toList.map λp=>a.eval p.2).zipIdx 0).map λp=>(p.2,p.1):=by
     have:=yB (ps.toList.map λ(p:Nat×Operand)=>(p.1,a.eval p.2)) 0 (by
      rw[List.map_map]at hr|-;rw[List.length_map,hlps,<-List.range_eq_range',<-hr];rfl)
     rw[Array.toList_map,this,List.map_map];rfl
    rw[e1,Mu _ 0 cur f1 (by rw[hcur];simp[hlps]),hcs];simp
   have hfillA:∀cur:Array Value,cur.size=n*(T e).size->Instr.fill (λi=>some (i*(T e).size,(T e).size)) cur (ps.map λ(p:Nat×Operand)=>(p.1,a.eval p.2)).toList=some cs.toArray:=by
    intro cur hcur;have:=hfill cur.toList (by simpa using hcur)
    rwa[Array.toArray_toList]at this
   have hxn:xs.length=n:=aE;have hrun:(execOp a.eval o).run P w=.ok (.value (.slice (some ⟨w.heap.size,0,none⟩) n n)) (w.alloc (.cells cs.toArray e)):=by
    simp only[execOp,ho,Instr.buildSlice,Sem.run_bind,run_underlying hu,Result.andThen_ok,cP hT (ht e hk)];rw[if_neg (by show¬(n*(T e).size>2^24);omega)];by_cases hz:n*(T e).size=0
    ·simp only[if_pos hz,Sem.run_bind,Sem.run_pure,Result.andThen_ok];rw[hfillA _ aM];simp[newRow]
    ·simp only[if_neg hz,Sem.run_bind,zeroValue,typeInfo,run_program,h1,h6,Sem.run_pure,Result.andThen_ok];rw[hfillA _ aM];simp[newRow]
   have:=HI m1 hids hs0 hall e (cur:=cs.toArray) (by rw[List.size_toArray,f2];omega) (λi d v hd hv=>⟨f3 v (by simp at hv;exact List.mem_of_getElem? hv),f4 i d v hd (by simpa using hv)⟩)
    ((zN.refl _ _).alloc (Nat.le_refl _) (.cells cs.toArray e)) aM (heap_alloc_new w _)
   refine dE hrun (by simp only[pF];exact this.1) (by simp only[pF];exact g1.trans this.2) ?_;simp only[pF];rcases Nat.eq_zero_or_pos n with hn|hn
   ·subst hn;exact .ow0 dst 0 _ false (T e).size xs (by rw[aX]) (.inr ⟨_,_,_,by rw[aX],heap_alloc_new w _,by rw[List.size_toArray,f2,hxn],Nat.zero_le _⟩)
   ·have hR:=R.ow (w:=w.alloc (.cells cs.toArray e)) (E:=Ex X (cE β dst (some w.heap.size)) (cE (bW H (bI H ids)) dst (.row false (T e).size xs))) (β:=cE β dst (some w.heap.size)) (H:=cE (bW H (bI H ids)) dst (.row false (T e).size xs))
     dst 0 n w.heap.size n false (T e).size xs cs.toArray e (by rw[aX]) (by rw[aX]) aE (Nat.le_refl _) (by unfold maxLen;have:=Nat.le_mul_of_pos_right n hs0;omega) (heap_alloc_new w _) (by rw[List.size_toArray,f2,Nat.zero_add,hxn])
    rw[Nat.zero_mul]at hR;exact hR
  ·exact hok.elim
 ·exact hok.elim
theorem Dv(hT:fP P T)(m:dR w0 X H β w)(hg:∀x,R w (Ex X β H) β H (g x) (a.eval x)){t:TypeId}{n:Nat}{ps:Array (Nat×Operand)}{dst:Nat}(ho:o.op=.buildSlice t n ps)
 (ht:∀e,(T t).k=.slice e->(T e).k.isNone=false)(hok:(fS T H dst t n (ps.toList.map λp=>(p.1,g p.2))).ok):mD P w0 X H β w a o (fS T H dst t n (ps.toList.map λp=>(p.1,g p.2))):=by
 exact(show False from hok).elim
end
end
section
open Go.RowKit
section
variable{P:Program} {T:TypeId->fE} {w0:cX} {X:Nat->Prop} {H:Nat->bB} {β:Nat->Option Nat} {w:World} {a:Act} {o:Oper} {g:Operand->LV} {E:Nat->Prop}
theorem rZ{w w2:World}(h:w2.heap=w.heap)(p:Addr):w2.cell? p=w.cell? p:=by simp[World.cell?,h]
theorem jD{w:World}{size n:Nat}{b:Nat}{off l c:Nat}{us:List Value}(hl:us.length=n*size)(hc:∀(j:Nat) (u:Value),us[j]? =some u->w.cell? ⟨b,off+j,none⟩=some u):
 (Builtin.firstCells size n (.slice (some ⟨b,off,none⟩) l c)).run P w=.ok us.toArray w:=by
 simp only[Builtin.firstCells];rw[<-hl];exact run_loadCells_list (P:=P) (w:=w) ⟨b,off,none⟩ us (λj v hv=>by rw[Addr.add_lit];exact hc j v hv)
theorem Jt(m:dR w0 X H β w){id k n b s:Nat}{fz:Bool}{xs:List DV}(hH:H id=.row fz s xs)(hb:β id=some b)(hkn:k+n<=xs.length)(c:Nat):
 ∃news:List Value,(∀w2:World,w2.heap=w.heap->(Builtin.firstCells s n (.slice (some ⟨b,k*s,none⟩) n c)).run P w2=.ok news.toArray w2)/\news.length=n*s/\
  (∀u∈news,u.oneCell'=true)/\∀(i:Nat) (d:DV) (u:Value),(bS ((xs.drop k).take n))[i]? =some d->news[i]? =some u->RD w (Ex X β H) d u:=by
 have hob:=m.obj id;simp only[dO,hH]at hob;obtain⟨hpos,hall,hob⟩:=hob;rcases hob with⟨hnone,_⟩|⟨b',e',cur',hb',hblk',hlen',hp⟩
 ·rw[hnone]at hb;cases hb
 rw[hb]at hb';injection hb' with hb';subst hb'
 have hkm:k*s+n*s<=xs.length*s:=by rw[<-Nat.add_mul];exact Nat.mul_le_mul_right _ hkn
 have hcs:cur'.toList.length=cur'.size:=aM;have hfl:=flat_len hall;refine⟨(cur'.toList.drop (k*s)).take (n*s),λw2 hw=>jD (by rw[List.length_take,List.length_drop];omega) λj u hu=>?_,by rw[List.length_take,List.length_drop];omega,λu hu=>?_,λi d u hd hu=>?_⟩
 ·rw[rZ hw,cell_of_row w b _ cur' e' (0,0) hblk'];rw[List.getElem?_take]at hu;split at hu
  ·simpa using hu
  ·cases hu
 ·obtain⟨i,hi,rfl⟩:=List.getElem_of_mem hu;simp only[List.getElem_take,List.getElem_drop];rw[List.length_take,List.length_drop]at hi;exact(hp (k*s+i) ((bS xs)[k*s+i]'aE) _ (List.getElem?_eq_getElem _) aM).1
 ·rw[jS (λx hx=>hall x (List.mem_of_mem_drop hx)),wS hall,List.getElem?_take]at hd;rw[List.getElem?_take]at hu;split at hd
  ·rename_i hi;rw[if_pos hi]at hu;rw[List.getElem?_drop]at hd hu;exact(hp _ d u hd (by simpa using hu)).2
  ·cases hd
theorem wU(m:dR w0 X H β w){lx:LV}{vx:Value}(hx:R w (Ex X β H) β H lx vx){ys:List DV}(hy:jR H lx=some ys){s:Nat}(hs:∀y∈ys,(aQ y).length=s):
 ∃news:List Value,(Builtin.lenOf vx).run P w=.ok ys.length w/\(∀w2:World,w2.heap=w.heap->(Builtin.firstCells s ys.length vx).run P w2=.ok news.toArray w2)/\news.length=ys.length*s/\
  (∀u∈news,u.oneCell'=true)/\∀(i:Nat) (d:DV) (u:Value),(bS ys)[i]? =some d->news[i]? =some u->RD w (Ex X β H) d u:=by
 have empty:∀(b:Option Addr) (c:Nat),(∀w2:World,(Builtin.firstCells s 0 (.slice b 0 c)).run P w2=.ok #[] w2):=by
  intro b c w2;cases b with
  |none=>simp[Builtin.firstCells]
  |some b=>simp[Builtin.firstCells,loadCells,loadCellsFrom]
 unfold jR at hy;split at hy
 ·rename_i xs;injection hy with hy;subst hy
  cases hx with
  |d _ _ hx=>cases hx with
   |sl0 b c hc=>exact⟨[],by simp[Builtin.lenOf],λw2 _=>empty b c w2,aM,aM,by simp[bS]⟩
   |sl _ b off c size us hne hb hall hlen hc hul h1 hlt hcell hp=>
    have hss:s=size:=by
     cases xs with
     |nil=>exact absurd rfl hne
     |cons x t=>rw[<-hs x aM,hall x aM]
    subst hss;refine⟨us,by simp[Builtin.lenOf],λw2 hw=>jD hul λj u hu=>?_,hul,h1,hp⟩;rw[rZ hw];exact hcell j u hu
 ·rename_i str;injection hy with hy;subst hy
  have:=hx.str;subst this;have hs1:(str.map λb=>(DV.int .u8 b.toNat))=[]\/s=1:=by
   cases str with
   |nil=>left;rfl
   |cons b t=>right;rw[<-hs (.int .u8 b.toNat) aM];rfl
  refine⟨str.map λb=>.int .u8 b.toNat,by simp[Builtin.lenOf,ByteArray.size],λw2 _=>?_,?_,by simp[Value.oneCell'],λi d u hd hu=>?_⟩
  ·have hsz:(⟨str.toArray⟩:ByteArray).extract 0 str.length=⟨str.toArray⟩:=by
    apply ByteArray.ext;simp[ByteArray.data_extract]
   simp[Builtin.firstCells,hsz]
  ·rcases hs1 with h|h
   ·have:str=[]:=by simpa using h
    subst this;simp
   ·subst h;simp
  ·have hfl:∀l:List UInt8,bS (l.map λb=>(DV.int .u8 b.toNat))=l.map λb=>(DV.int .u8 b.toNat):=by
    intro l;induction l with
    |nil=>rfl
    |cons b l ih=>simp only[bS,List.map_cons,List.flatMap_cons]at*;rw[ih];rfl
   rw[hfl]at hd;obtain⟨b,hb,rfl⟩:=eG hd;obtain⟨b',hb',rfl⟩:=eG hu;rw[hb]at hb';injection hb' with hb';subst hb'
   exact .int _ _
 ·injection hy with hy;subst hy
  cases hx with
  |nl b=>exact⟨[],by simp[Builtin.lenOf],λw2 _=>empty b 0 w2,aM,aM,by simp[bS]⟩
 ·rename_i id k n;split at hy
  ·rename_i fz size xs hH;injection hy with hy;subst hy
   have hob:=m.obj id;simp only[dO,hH]at hob;obtain⟨hpos,hall,hob⟩:=hob;cases hx with
   |ow0 _ _ b=>exact⟨[],by simp[Builtin.lenOf],λw2 _=>by simpa using empty b 0 w2,aM,aM,by simp[bS]⟩
   |owdead _ _ _ _ hd=>rw[hH]at hd;cases hd
   |ow _ _ _ b c _ _ _ cur e hH' hb hkn hn hc hblk hroom=>
    rw[hH]at hH';injection hH' with _ q1 q2;subst q1;subst q2
    rcases hob with⟨hnone,_⟩|⟨b',e',cur',hb',hblk',hlen',hp⟩
    ·rw[hnone]at hb;cases hb
    ·rw[hb]at hb';injection hb' with hb';subst hb'
     have hln:((xs.drop k).take n).length=n:=kG;rcases Nat.eq_zero_or_pos n with hz|hz
     ·subst hz;have hnil:(xs.drop k).take 0=[]:=rfl;exact⟨[],by simp[Builtin.lenOf],λw2 _=>by simpa using empty _ c w2,aM,aM,by simp[bS]⟩
     ·have hss:s=size:=by
       have hmem:((xs.drop k).take n)[0]'aE∈(xs.drop k).take n:=List.getElem_mem _;rw[<-hs _ hmem];exact hall _ (List.mem_of_mem_drop (List.mem_of_mem_take hmem))
      subst hss;obtain⟨news,q1,q2,q3,q4⟩:=Jt (P:=P) m hH hb hkn c;exact⟨news,by simp[Builtin.lenOf];omega,λw2 hw=>by rw[hln];exact q1 w2 hw,by rw[hln];exact q2,q3,q4⟩
  ·cases hy
 ·rename_i id k n c;split at hy
  ·rename_i fz size xs hH;injection hy with hy;subst hy
   have hob:=m.obj id;simp only[dO,hH]at hob;obtain⟨hpos,hall,hob⟩:=hob;cases hx with
   |ocdead _ _ _ _ _ hd=>rw[hH]at hd;cases hd
   |oc _ _ _ _ p _ _ _ hH' hn hkc hc ha=>
    rw[hH]at hH';injection hH' with _ q1 q2;subst q1;subst q2
    have hln:((xs.drop k).take n).length=n:=kG;rcases Nat.eq_zero_or_pos n with hz|hz
    ·subst hz;have hnil:(xs.drop k).take 0=[]:=rfl;exact⟨[],by simp[Builtin.lenOf],λw2 _=>by simpa using empty _ c w2,aM,aM,by simp[bS]⟩
    ·rcases ha with ha|⟨b,hb,rfl⟩
     ·omega
     have hss:s=size:=by
      have hmem:((xs.drop k).take n)[0]'aE∈(xs.drop k).take n:=List.getElem_mem _;rw[<-hs _ hmem];exact hall _ (List.mem_of_mem_drop (List.mem_of_mem_take hmem))
     subst hss;obtain⟨news,q1,q2,q3,q4⟩:=Jt (P:=P) m hH hb (show k+n<=xs.length by omega) c;exact⟨news,by simp[Builtin.lenOf];omega,λw2 hw=>by rw[hln];exact q1 w2 hw,by rw[hln];exact q2,q3,q4⟩
  ·cases hy
 ·cases hy
theorem kJ{t u ty e:TypeId}{d:TypeDesc}{i:TypeInfo}(ht:P.underlying t=some (.slice e))(hu:P.underlying u=some d)(hd:∀k,d≠ .int k)(hi:P.info? e=some i)
 {base:Option Addr}{sLen sCap m:Nat}{x:Value}{news:List Value}(hlen:(Builtin.lenOf x).run P w=.ok m w)(hf:∀w2:World,w2.heap=w.heap->(Builtin.firstCells i.size m x).run P w2=.ok news.toArray w2)
 (hroom:sLen+m<=sCap):(Builtin.append_ #[t,u] ty #[.slice base sLen sCap,x]).run P w=(match base with|some a=>(storeCells (a.add (sLen*i.size)) news).run P w|none=>.ok () w).andThen λ_ w'=>.ok (.slice base (sLen+m) sCap) w':=by
 have hf0:=hf w rfl;cases base<;>simp[Builtin.append_,run_underlying ht,run_underlying hu,sizeOf,typeInfo,hi,hlen,hroom,hf0]
theorem pP{t u ty e:TypeId}{d:TypeDesc}{i:TypeInfo}{z:Value}(ht:P.underlying t=some (.slice e))(hu:P.underlying u=some d)(hd:∀k,d≠ .int k)(hi:P.info? e=some i)(hzz:i.zero=some z)
 {base:Option Addr}{sLen sCap m:Nat}{x:Value}{olds news:List Value}(hlen:(Builtin.lenOf x).run P w=.ok m w)(hf:∀w2:World,w2.heap=w.heap->(Builtin.firstCells i.size m x).run P w2=.ok news.toArray w2)
 (ho:∀w2:World,w2.heap=w.heap->(Builtin.firstCells i.size sLen (.slice base sLen sCap)).run P w2=.ok olds.toArray w2)
 (hroom:sCap<sLen+m)(h63:sLen+m<=9223372036854775807)(hfit:(sLen+m)*i.bytes<=140737488355328):
 (Builtin.append_ #[t,u] ty #[.slice base sLen sCap,x]).run P w=
   .ok (.slice (some ⟨w.heap.size,0,none⟩) (sLen+m) (grownCap w (sLen+m) sCap e)) (w.drew.alloc (.cells (olds.toArray++news.toArray++Builtin.zeroCells z.cells (grownCap w (sLen+m) sCap e-(sLen+m))) e)):=by
 have hn:¬(sLen+m<=sCap):=aE;have h63':¬(9223372036854775807<((sLen:Int)+(m:Int))):=aE;have h48:=growslice_fits hroom hfit;have h48':¬(281474976710656<Builtin.nextslicecap (sLen+m) sCap*i.bytes):=aE;have hf1:=hf w.drew rfl;have ho1:=ho w.drew rfl;simp[Builtin.append_,run_underlying ht,run_underlying hu,sizeOf,typeInfo,hi,hlen,hn,h63',h48',hf1,ho1,hzz,zeroValue,newRow,Question.forced,grownCap];congr 2;apply Array.ext';simp[List.append_assoc]
theorem lT{t u:TypeId}{s x:Operand}(ho:o.op=.call {callee:=.builtin .append,args:= #[s,x],argTypes:= #[t,u]}){v:Value}{w':World}
 (hr:(Builtin.append_ #[t,u] o.type #[a.eval s,a.eval x]).run P w=.ok v w'):(execOp a.eval o).run P w=.ok (.value v) w':=by
 unfold execOp;simp only[ho,resolve,invoke,builtin,Sem.run_bind,Sem.run_pure,Result.andThen_ok,List.map_toArray,List.map_cons,List.map_nil,hr]
theorem FY(m:dR w0 X H β w){d:Nat}(hd:H d=.absent){s need old:Nat}(hs:0<s){xs:List DV}(hall:∀x∈xs,(aQ x).length=s){news:List Value}{e:TypeId}{z:Value}(hz:z.cells.size=s)(hxl:xs.length=need)
 (hnl:news.length=need*s)(hone:∀u∈news,u.oneCell'=true)(hp:∀(i:Nat) (d:DV) (u:Value),(bS xs)[i]? =some d->news[i]? =some u->RD w (Ex X β H) d u)(hn:0<need)(hmax:need<=140737488355328){cur:Array Value}
 (hcur:cur=news.toArray++Builtin.zeroCells z.cells (grownCap w need old e-need)):
 dR w0 X (cE H d (.row false s xs)) (cE β d (some w.heap.size)) (w.drew.alloc (.cells cur e))/\eT X H β w (cE H d (.row false s xs)) (cE β d (some w.heap.size)) (w.drew.alloc (.cells cur e))/\
  R (w.drew.alloc (.cells cur e)) (Ex X (cE β d (some w.heap.size)) (cE H d (.row false s xs))) (cE β d (some w.heap.size)) (cE H d (.row false s xs)) (.ow d 0 need) (.slice (some ⟨w.heap.size,0,none⟩) need (grownCap w need old e)):=by
 have hge:=grownCap_ge w need old e;have hcm:grownCap w need old e<=maxLen:=grownCap_le_maxLen w need old e (by unfold maxLen;omega);have hcs:cur.size=grownCap w need old e*s:=by
  rw[hcur];simp only[Array.size_append,List.size_toArray,size_zeroCells,hz,hnl,<-Nat.add_mul];congr 1;omega
 have hblk:(w.drew.alloc (.cells cur e)).heap[w.heap.size]? =some (.cells cur e (0,0)):=heap_alloc_new w.drew _;have hle:xs.length*s<=cur.size:=by rw[hcs,hxl];exact Nat.mul_le_mul_right _ hge
 have:=HI m hd hs hall e (cur:=cur) hle (λi dd v hdd hv=>by
  have hi:i<news.length:=by have:=(List.getElem?_eq_some_iff.1 hdd).1;rw[flat_len hall,hxl]at this;omega
  rw[hcur,Array.getElem?_append_left (by simpa using hi)]at hv;exact⟨hone v (List.mem_of_getElem? (by simpa using hv)),hp i dd v hdd (by simpa using hv)⟩) (w':=w.drew.alloc (.cells cur e)) ((zN.refl _ _).drew.alloc (Nat.le_refl _) _) aM hblk
 refine⟨this.1,this.2,?_⟩;have hR:=R.ow (w:=w.drew.alloc (.cells cur e)) (E:=Ex X (cE β d (some w.heap.size)) (cE H d (.row false s xs))) (β:=cE β d (some w.heap.size)) (H:=cE H d (.row false s xs)) d 0 need w.heap.size (grownCap w need old e) false s xs cur e
  (by rw[aX]) (by rw[aX]) aE hge hcm hblk (by rw[Nat.zero_add,hcs])
 rw[Nat.zero_mul]at hR;exact hR
theorem QH(hT:fP P T)(m:dR w0 X H β w)(hg:∀x,R w (Ex X β H) β H (g x) (a.eval x)){t u:TypeId}{s x:Operand}{dst:Nat}(ho:o.op=.call {callee:=.builtin .append,args:= #[s,x],argTypes:= #[t,u]})
 (hu:t=u\/(T u).k.isStr=true)(ht:∀e,(T t).k=.slice e->(T e).k.isNone=false)(hok:(jB T H dst t (g s) (g x)).ok):mD P w0 X H β w a o (jB T H dst t (g s) (g x)):=by
 have hs:=hg s;have hx:=hg x;generalize hgs:g s=ls at*;generalize hgx:g x=lx at*;unfold jB at*;split at hok
 ·rename_i e ys hk hy;have hut:=hT.slice hk;obtain⟨inf,d0,z,h1,h2,h3,h4,h5,h6,h7⟩:=hT.parts (ht e hk);have huu:∃d,P.underlying u=some d/\∀k,d≠ .int k:=by
   rcases hu with rfl|hu
   ·exact⟨_,hut,λk=>aM⟩
   ·have:(T u).k=.str:=by cases q:(T u).k<;>simp_all[TK.isStr]
    exact⟨_,hT.str this,λk=>aM⟩
  obtain⟨d,hud,hdk⟩:=huu;have hzs:z.cells.size=(T e).size:=by
   have:=(hT e (ht e hk)).len;rw[<-h7]at this;simpa using this
  generalize hvs:a.eval s=vs at hs;have small:∀(H1:Nat->bB) (b:Option Addr),vs=.slice b 0 0->dR w0 X H1 β w->eT X H β w H1 β w->H1 dst=.absent->0<(T e).size->(∀y∈ys,(aQ y).length=(T e).size)->ys.length*(T e).bytes<=140737488355328->ys.length<=140737488355328->
   ∃v w' β',(execOp a.eval o).run P w=.ok (.value v) w'/\dR w0 X (cE H1 dst (.row false (T e).size ys)) β' w'/\eT X H β w (cE H1 dst (.row false (T e).size ys)) β' w'/\R w' (Ex X β' (cE H1 dst (.row false (T e).size ys))) β' (cE H1 dst (.row false (T e).size ys)) (.ow dst 0 ys.length) v:=by
   intro H1 b hv m1 g1 ha hpos hys hby hbl;subst hv;obtain⟨news,e1,e2,e3,e4,e5⟩:=wU m hx hy hys;rw[<-h4]at e2;rcases Nat.eq_zero_or_pos ys.length with hz|hz
   ·have hy0:ys=[]:=List.eq_nil_of_length_eq_zero hz;subst hy0;have hn0:news=[]:=List.eq_nil_of_length_eq_zero (by simpa using e3);subst hn0;have hrun:=kJ (P:=P) (w:=w) (ty:=o.type) (base:=b) (sLen:=0) (sCap:=0) hut hud hdk h1 e1 e2 (Nat.le_refl _);obtain⟨m2,g2⟩:=uS m1 ha hpos;refine⟨.slice b 0 0,w,cE β dst none,lT ho ?_,m2,g1.trans g2,.ow0 dst 0 b false (T e).size [] (by rw[aX]) (.inl ⟨by rw[aX],rfl⟩)⟩;rw[hvs,hrun];cases b<;>simp[storeCells]
   ·have hold:∀w2:World,w2.heap=w.heap->(Builtin.firstCells inf.size 0 (.slice b 0 0)).run P w2=.ok (List.toArray []) w2:=by
     intro w2 _;cases b<;>simp[Builtin.firstCells,loadCells,loadCellsFrom]
    have hrun:=pP (P:=P) (w:=w) (ty:=o.type) (base:=b) (sLen:=0) (sCap:=0) hut hud hdk h1 h6 e1 e2 hold aE aE (by rw[Nat.zero_add,h5];exact hby);obtain⟨m2,g2,hR⟩:=FY m1 ha hpos hys hzs rfl e3 e4 (λi d u hd hu=>g1.D (e5 i d u hd hu)) hz hbl (old:=0) (e:=e) (cur:=news.toArray++Builtin.zeroCells z.cells (grownCap w ys.length 0 e-ys.length)) rfl;refine⟨_,_,_,lT ho ?_,m2,g1.trans g2,hR⟩;rw[hvs,hrun];simp
  split at hok
  ·rename_i id k n;split at hok
   ·rename_i sz xs hH;simp only at hok|-;obtain⟨ha,hk0,hsz,hys,hby,hbl⟩:=hok;subst hk0;subst hsz;have hl:(H id).live=true:=by rw[hH];rfl
    have hne:dst≠id:=λe=>by rw[e,hH]at ha;cases ha
    obtain⟨m1,g1⟩:=m.kill id hl;have ha1:cE H id .dead dst=.absent:=by rw[cG _ _ hne];exact ha
    have hob:=m.obj id;simp only[dO,hH]at hob;obtain⟨hpos,hall,hob⟩:=hob;have hup:∀o',bW H [(dst,o'),(id,bB.dead)]=cE (cE H id .dead) dst o':=λo'=>by rw[pF,cD]
    cases hs with
    |owdead _ _ _ _ hd=>rw[hH]at hd;cases hd
    |ow0 _ _ b=>
     obtain⟨v,w',β',q1,q2,q3,q4⟩:=small _ b rfl m1 g1 ha1 hpos hys (by rw[Nat.zero_add]at hby;exact hby) aE;refine dE (β':=β') q1 ?_ ?_ ?_<;>simp only[hup,List.take_zero,List.nil_append,Nat.zero_add]
     ·exact q2
     ·exact q3
     ·exact q4
    |ow _ _ _ b c _ _ _ cur e' hH' hb hkn hn hc hblk hroom=>
     rw[hH]at hH';injection hH' with _ q1 q2;subst q1;subst q2
     rcases hob with⟨hnone,_⟩|⟨b',e'',cur',hb',hblk',hlen',hp⟩
     ·rw[hnone]at hb;cases hb
     ·rw[hb]at hb';injection hb' with hb';subst hb'
      rw[hblk]at hblk';injection hblk' with hblk';injection hblk' with p1 p2;subst p1;subst p2
      obtain⟨news,e1,e2,e3,e4,e5⟩:=wU m hx hy hys;rw[<-h4]at e2;have hnx:n<=xs.length:=aE;have hns:n*(T e).size<=xs.length*(T e).size:=Nat.mul_le_mul_right _ hnx;have hcs:cur.toList.length=cur.size:=aM;have htk:(xs.take n).length=n:=kG;have hallt:∀x∈xs.take n++ys,(aQ x).length=(T e).size:=λx hx=>by
       rcases List.mem_append.1 hx with hx|hx
       ·exact hall x (List.mem_of_mem_take hx)
       ·exact hys x hx
      have hfl:=flat_len hall;have hflt:(bS (xs.take n)).length=n*(T e).size:=by rw[flat_len (λx hx=>hall x (List.mem_of_mem_take hx)),htk]
      simp only[Nat.zero_mul,Nat.zero_add]at hvs hroom;have hadd:(n+ys.length)*(T e).size=n*(T e).size+ys.length*(T e).size:=Nat.add_mul _ _ _;by_cases hin:n+ys.length<=c
      ·have hfit:n*(T e).size+news.length<=cur.size:=by
        have:(n+ys.length)*(T e).size<=c*(T e).size:=Nat.mul_le_mul_right _ hin;omega
       have hrun:=kJ (P:=P) (w:=w) (ty:=o.type) (base:=some ⟨b,0,none⟩) (sLen:=n) (sCap:=c) hut hud hdk h1 e1 e2 hin;have hst:=run_storeCells_at P b (n*(T e).size) e' news 0 cur w hblk aE e4;obtain⟨m2,g2⟩:=m.moveObj (id:=id) (d:=dst) n hH ha;have hpl:(dI (n*(T e).size) cur.toList news).toArray.size=cur.size:=by rw[List.size_toArray,fW aE];exact hcs
       have hfa:bS (xs.take n++ys)=bS (xs.take n)++bS ys:=qS _ _;have hfy:(bS ys).length=ys.length*(T e).size:=flat_len hys;have:=m2.rewrite (id:=dst) (b:=b) (o':=.row false (T e).size (xs.take n++ys)) (cur':=(dI (n*(T e).size) cur.toList news).toArray) (by rw[aX];rfl) (by rw[aX];exact hb) hblk aE
        (.inr ⟨_,_,_,by rw[aX],rfl,aM⟩) (λhD _=>by
          unfold dO;rw[aX];refine⟨hpos,hallt,.inr ⟨b,e',_,by rw[aX];exact hb,setRow_heap w b _ _ e' (0,0) hblk,by rw[hpl,List.length_append,htk];omega,λi d v hd hv=>?_⟩⟩;simp only[List.getElem?_toArray]at hv;rw[gL aE]at hv;rw[hfa]at hd;have hi:i<n*(T e).size+ys.length*(T e).size:=by have:=(List.getElem?_eq_some_iff.1 hd).1;rw[List.length_append,hflt,hfy]at this;exact this
          by_cases hi2:i<n*(T e).size
          ·rw[if_pos hi2]at hv;rw[List.getElem?_append_left aE,jS hall,List.getElem?_take,if_pos hi2]at hd;have:=hp i d v hd (by simpa using hv);exact⟨this.1,hD _ _ (g2.D this.2)⟩
          ·rw[if_neg hi2,if_pos aE]at hv;rw[List.getElem?_append_right aE,hflt]at hd;exact⟨e4 v (List.mem_of_getElem? hv),hD _ _ (g2.D (e5 _ d v hd hv))⟩)
       have hup2:cE (cE (cE H id .dead) dst (.row false (T e).size (xs.take n))) dst (.row false (T e).size (xs.take n++ys))=cE (cE H id .dead) dst (.row false (T e).size (xs.take n++ys)):=by
        funext j;simp only[cE];split<;>rfl
       rw[hup2]at this;refine dE (v:=.slice (some ⟨b,0,none⟩) (n+ys.length) c) (w':=w.setRow b (dI (n*(T e).size) cur.toList news).toArray) (β':=cE β dst (β id)) (lT ho ?_) ?_ ?_ ?_
       ·rw[hvs,hrun];simp only[Addr.add_lit,Nat.zero_add,h4];simp only[Nat.add_zero]at hst;rw[hst];rfl
       ·simp only[hup];exact this.1
       ·simp only[hup];exact g2.trans this.2
       ·simp only[hup];have hR:=R.ow (w:=w.setRow b (dI (n*(T e).size) cur.toList news).toArray) (E:=Ex X (cE β dst (β id)) (cE (cE H id .dead) dst (.row false (T e).size (xs.take n++ys)))) (β:=cE β dst (β id)) (H:=cE (cE H id .dead) dst (.row false (T e).size (xs.take n++ys)))
         dst 0 (n+ys.length) b c false (T e).size (xs.take n++ys) _ e' (by rw[aX]) (by rw[aX];exact hb) (by rw[List.length_append,htk];omega) hin hc (setRow_heap w b _ _ e' (0,0) hblk) (by rw[hpl,Nat.zero_add];exact hroom)
        rw[Nat.zero_mul]at hR;exact hR
      ·have hold:∀w2:World,w2.heap=w.heap->(Builtin.firstCells inf.size n (.slice (some ⟨b,0,none⟩) n c)).run P w2=.ok ((cur.toList.take (n*(T e).size)).toArray) w2:=by
        intro w2 hw;refine jD (by rw[h4,List.length_take];omega) λj u hu=>?_;rw[rZ hw,cell_of_row w b _ cur e' (0,0) hblk];rw[List.getElem?_take]at hu;split at hu
        ·simpa using hu
        ·cases hu
       have hrun:=pP (P:=P) (w:=w) (ty:=o.type) (base:=some ⟨b,0,none⟩) (sLen:=n) (sCap:=c) hut hud hdk h1 h6 e1 e2 hold aE aE (by rw[h5];exact hby);have hxl:(xs.take n++ys).length=n+ys.length:=by rw[List.length_append,htk]
       obtain⟨m2,g2,hR⟩:=FY m1 ha1 hpos hallt hzs hxl (news:=cur.toList.take (n*(T e).size)++news) (by rw[List.length_append,List.length_take];omega)
        (λu hu=>by
          rcases List.mem_append.1 hu with hu|hu
          ·obtain⟨i,hi,rfl⟩:=List.getElem_of_mem hu;rw[List.length_take]at hi;simp only[List.getElem_take];exact(hp i ((bS xs)[i]'aE) _ (List.getElem?_eq_getElem _) aM).1
          ·exact e4 u hu)
        (λi d u hd hu=>by
          have hl1:(cur.toList.take (n*(T e).size)).length=n*(T e).size:=(by rw[List.length_take];omega);rw[qS]at hd;by_cases hi2:i<n*(T e).size
          ·rw[List.getElem?_append_left aE,List.getElem?_take,if_pos hi2]at hu;rw[List.getElem?_append_left aE,jS hall,List.getElem?_take,if_pos hi2]at hd;exact g1.D (hp i d u hd (by simpa using hu)).2
          ·rw[List.getElem?_append_right aE,hl1]at hu;rw[List.getElem?_append_right aE,hflt]at hd;exact g1.D (e5 _ d u hd hu))
        aE hbl (old:=c) (e:=e) (cur:=(cur.toList.take (n*(T e).size)++news).toArray++Builtin.zeroCells z.cells (grownCap w (n+ys.length) c e-(n+ys.length))) rfl
       refine dE (lT ho ?_) (by simp only[hup];exact m2) (by simp only[hup];exact g1.trans g2) (by simp only[hup];exact hR);rw[hvs,hrun];simp
   ·exact hok.elim
  ·simp only at hok|-;obtain⟨ha,hpos,hys,hby,hbl⟩:=hok;cases hs with
   |nl b=>
    obtain⟨v,w',β',q1,q2,q3,q4⟩:=small _ b rfl m eT.refl ha hpos hys hby hbl;refine dE (β':=β') q1 ?_ ?_ ?_<;>simp only[cD]
    ·exact q2
    ·exact q3
    ·exact q4
  ·exact hok.elim
 ·exact hok.elim
end
end
section
open Go.RowKit
section
variable{P:Program} {T:TypeId->fE} {w0:cX} {X:Nat->Prop} {H:Nat->bB} {β:Nat->Option Nat} {w:World} {a:Act} {o:Oper} {g:Operand->LV} {E:Nat->Prop}
theorem RD.sl_len{xs:List DV}{v:Value}(h:RD w E (.sl xs) v):∃b c,v=.slice b xs.length c/\xs.length<=c/\c<=maxLen:=by
 cases h with
 |sl0 a c hc=>exact⟨a,c,rfl,Nat.zero_le _,hc⟩
 |sl _ b off c _ _ _ _ _ hlen hc=>exact⟨_,c,rfl,hlen,hc⟩
theorem lA{t ty e:TypeId}(h:P.underlying t=some (.slice e))(b:Option Addr)(n c:Nat):(Builtin.len_ #[t] ty #[.slice b n c]).run P w=.ok (.int .i64 n) w:=by
 simp only[Builtin.len_,List.getElem?_toArray,List.getElem?_cons_zero,Sem.run_bind,run_underlying h,Result.andThen_ok,Sem.run_pure,goInt]
theorem Ju{t ty:TypeId}(h:P.underlying t=some .string)(s:ByteArray):(Builtin.len_ #[t] ty #[.string s]).run P w=.ok (.int .i64 s.size) w:=by
 simp only[Builtin.len_,List.getElem?_toArray,List.getElem?_cons_zero,Sem.run_bind,run_underlying h,Result.andThen_ok,Sem.run_pure,goInt]
theorem Jv{t ty e:TypeId}{n:Nat}(h:P.underlying t=some (.array n e))(v:Value):(Builtin.len_ #[t] ty #[v]).run P w=.ok (.int .i64 n) w:=by
 simp only[Builtin.len_,List.getElem?_toArray,List.getElem?_cons_zero,Sem.run_bind,run_underlying h,Result.andThen_ok,Sem.run_pure,goInt]
theorem Dw{t ty kt et:TypeId}{b clock:Nat}{arr:Array MapEntry}(h:P.underlying t=some (.map kt et))(hb:w.heap[b]? =some (.map arr clock)):(Builtin.len_ #[t] ty #[.map (some b)]).run P w=.ok (.int .i64 arr.size) w:=by
 have hg:(getObj b).run P w=.ok (.map arr clock) w:=by simp[getObj,Sem.run,hb]
 simp only[Builtin.len_,List.getElem?_toArray,List.getElem?_cons_zero,Sem.run_bind,run_underlying h,Result.andThen_ok,Sem.run_pure,goInt,hg]
theorem Zv(hT:fP P T)(m:dR w0 X H β w)(hg:∀x,R w (Ex X β H) β H (g x) (a.eval x)){t:TypeId}{x:Operand}(ho:o.op=.call {callee:=.builtin .len,args:= #[x],argTypes:= #[t]})
 (hok:(qR T H t (g x)).ok):mD P w0 X H β w a o (qR T H t (g x)):=by
 have hx:=hg x;generalize g x=lx at*;generalize hval:a.eval x=vx at hx;have fin:∀{v:Value},(Builtin.len_ #[t] o.type #[vx]).run P w=.ok v w->(execOp a.eval o).run P w=.ok (.value v) w:=by
  intro v hr;simp only[execOp,ho,resolve,invoke,builtin,Sem.run_bind,Sem.run_pure,Result.andThen_ok,List.map_toArray,List.map_cons,List.map_nil,hval,hr]
 unfold qR at*;split at hok
 ·rename_i s hk;have:=hx.str;subst this;exact mD.plain m (fin (Ju (hT.str hk) _)) (dF _ _)
 ·rename_i e xs hk;cases hx with
  |d _ _ hx=>
   obtain⟨b,c,hv,_⟩:=hx.sl_len;clear hx;subst hv;exact mD.plain m (fin (lA (hT.slice hk) _ _ _)) (dF _ _)
 ·rename_i e id k n hk;have hu:=hT.slice hk;simp only[kQ.cond]at hok|-;cases hx with
  |ow _ _ _ b c=>exact mD.plain m (fin (lA hu _ _ _)) (dF _ _)
  |ow0 _ _ b=>exact mD.plain m (fin (lA hu _ _ _)) (dF _ _)
  |owdead _ _ _ _ hd=>rw[hd]at hok;cases hok
 ·rename_i e id k n c hk;have hu:=hT.slice hk;simp only[kQ.cond]at hok|-;cases hx with
  |oc _ _ _ _ p=>exact mD.plain m (fin (lA hu _ _ _)) (dF _ _)
  |ocdead _ _ _ _ _ hd=>rw[hd]at hok;cases hok
 ·rename_i e hk;cases hx with
  |nl b=>exact mD.plain m (fin (lA (hT.slice hk) _ _ _)) (dF _ _)
 ·rename_i n e hk;exact mD.plain m (fin (Jv (hT.arr hk) _)) (dF _ _)
 ·rename_i kt et ks vs hk;cases hx with
  |d _ _ hx=>cases hx with
   |mp _ _ b clock arr _ _ hblk hkl=>
    rw[hkl];exact mD.plain m (fin (Dw (hT.mapd hk) hblk)) (dF _ _)
 ·rename_i kt et id hk;split at hok
  ·rename_i fz ks vs hH;have ho:=m.obj id;simp only[dO,hH]at ho;obtain⟨b,arr,clock,hb,hblk,hkl,_⟩:=ho;cases hx with
   |mp _ b' _ _ _ hH' hb'=>
    rw[hb]at hb';injection hb' with hb';subst hb'
    rw[hkl];exact mD.plain m (fin (Dw (hT.mapd hk) hblk)) (dF _ _)
   |mpdead _ _ hd=>rw[hH]at hd;cases hd
  ·exact hok.elim
 ·exact hok.elim
theorem TM(m:dR w0 X H β w)(hg:∀x,R w (Ex X β H) β H (g x) (a.eval x)){mx:Bool}{args:Array Operand}{ts:Array TypeId}(ho:o.op=.call {callee:=.builtin (if mx then .max else .min),args:=args,argTypes:=ts})
 (hok:(wP mx (args.toList.map g)).ok):mD P w0 X H β w a o (wP mx (args.toList.map g)):=by
 obtain⟨l⟩:=args;simp only at hok|-;unfold wP at*;split at hok
 ·rename_i k x k' y hl;split at hok
  ·rename_i hk;subst hk;rw[if_pos rfl];have hform:∃p q,l=[p,q]:=by
    have:=congrArg List.length hl;simp only[List.length_map,List.length_cons,List.length_nil]at this
    match l,this with
    |[p,q],_=>exact⟨p,q,rfl⟩
   obtain⟨p,q,rfl⟩:=hform
   ·simp only[List.map_cons,List.map_nil,List.cons.injEq,and_true]at hl;have hp:=hg p;have hq:=hg q;rw[hl.1]at hp;rw[hl.2]at hq;have e1:=hp.int;have e2:=hq.int;cases mx
    ·refine mD.plain m (v:=.int k (if y<x then y else x)) ?_ (dF _ _);simp only[execOp,ho,resolve,invoke,builtin,Sem.run_bind,Sem.run_pure,Result.andThen_ok,List.map_toArray,List.map_cons,List.map_nil,e1,e2,Bool.false_eq_true,if_false,Builtin.min_,List.foldlM_cons,List.foldlM_nil,Builtin.min2]
    ·refine mD.plain m (v:=.int k (if y>x then y else x)) ?_ (dF _ _);simp only[execOp,ho,resolve,invoke,builtin,Sem.run_bind,Sem.run_pure,Result.andThen_ok,List.map_toArray,List.map_cons,List.map_nil,e1,e2,if_true,Builtin.max_,List.foldlM_cons,List.foldlM_nil,Builtin.max2]
  ·exact hok.elim
 ·exact hok.elim
theorem Mv(m:dR w0 X H β w)(hg:∀x,R w (Ex X β H) β H (g x) (a.eval x)){x:Operand}{i:Nat}(ho:o.op=.extract x i)(hok:(bD (g x) i).ok):mD P w0 X H β w a o (bD (g x) i):=by
 have hx:=hg x;generalize g x=lx at*;generalize hval:a.eval x=vx at hx;unfold bD at*;split at hok
 ·rename_i vs;simp only[kQ.cond]at hok|-;cases hx with
  |tup _ us hl hp=>
   have hi:i<us.length:=aE;refine mD.plain m (v:=us[i]) ?_ (hp i _ _ (by simp[List.getD_eq_getElem?_getD,hok]) (List.getElem?_eq_getElem hi));simp[execOp,ho,Instr.extract,hval,hi]
 ·exact hok.elim
theorem Xt(hT:fP P T)(m:dR w0 X H β w)(hg:∀x,R w (Ex X β H) β H (g x) (a.eval x)){s t:TypeId}{x:Operand}(ho:o.op=.convert s t x)(hok:(nU T H s t (g x)).ok):mD P w0 X H β w a o (nU T H s t (g x)):=by
 have hx:=hg x;generalize g x=lx at*;generalize hval:a.eval x=vx at hx;unfold nU at*;split at hok
 ·rename_i k' k k2 n hk1 hk2;have h1:=hT.int hk1;have h2:=hT.int hk2;have:=hx.int;subst this;exact mD.plain m (v:=.int k (k.wrap n)) (by simp[execOp,ho,hval,convert,run_underlying h1,run_underlying h2,Conv.intToInt]) (dF _ _)
 ·rename_i s' hk1 hk2;have h1:=hT.str hk1;have h2:=hT.str hk2;have:=hx.str;subst this;exact mD.plain m (v:=.string ⟨s'.toArray⟩) (by simp[execOp,ho,hval,convert,run_underlying h1,run_underlying h2]) (wT _)
 ·rename_i lx _ _ _ e hk1 hk2;split at hok
  ·rename_i ys hk3 hy;simp only[kQ.cond]at hok|-;have h1:=hT.slice hk1;have h2:=hT.str hk2;have h3:=hT.int hk3;have hns:∀s',lx≠ .d (.str s'):=by intro s' e;subst e;simp[uP]at hy
   have hy':jR H lx=some ys:=by
    unfold uP at hy;split at hy
    ·exact absurd rfl (hns _)
    ·exact hy
   obtain⟨news,e1,e2,e3,e4,e5⟩:=wU (P:=P) m hx hy' (s:=1) (λy hy=>by obtain⟨n,rfl⟩:=hok y hy;rfl);have hform:∃b c,vx=.slice b ys.length c:=by
    clear hval hy e2 e5;cases vx<;>simp only[Builtin.lenOf,run_stuck,Sem.run_pure,Result.ok.injEq,and_true,reduceCtorEq]at e1
    case slice b n c=>exact⟨b,c,by rw[e1]⟩
    case string str=>
     exfalso;unfold jR at hy';split at hy'
     ·cases hx with|d _ _ hx=>cases hx
     ·exact absurd rfl (hns _)
     ·cases hx
     ·split at hy'
      ·rename_i hH;cases hx with|owdead _ _ _ _ hd=>rw[hH]at hd;cases hd
      ·cases hy'
     ·split at hy'
      ·rename_i hH;cases hx with|ocdead _ _ _ _ _ hd=>rw[hH]at hd;cases hd
      ·cases hy'
     ·cases hy'
   obtain⟨b,c,hv⟩:=hform;have hfl:bS ys=ys:=by
    have key:∀l:List DV,(∀y∈l,∃n,y=.int .u8 n)->bS l=l:=by
     intro l;induction l with
     |nil=>intro _;rfl
     |cons y t ih=>
      intro hl;obtain⟨n,rfl⟩:=hl y aM;have:=ih (λy hy=>hl y (by simp[hy]));simp only[bS,List.flatMap_cons]at*;rw[this];rfl
    exact key ys hok
   rw[hfl]at e5;have hnews:news=(ys.map λ| .int _ n=>n|_=>0).map (Value.int .u8):=by
    apply List.ext_getElem
    ·simp[e3]
    ·intro i h1 h2;have hi:i<ys.length:=aE;obtain⟨n,hn⟩:=hok _ (List.getElem_mem hi);have:=e5 i _ _ (List.getElem?_eq_getElem hi) (List.getElem?_eq_getElem h1);rw[hn]at this;have hd:=R.int (R.d (β:=β) (H:=H) _ _ this);rw[hd];simp[hn]
   have hstr:∀(l:List Int) (r:ByteArray),l.foldl (λr n=>r.push (UInt8.ofNat n.toNat)) r=⟨(r.data.toList++l.map λn=>UInt8.ofNat n.toNat).toArray⟩:=by
    intro l;induction l with
    |nil=>intro r;simp
    |cons x t ih=>intro r;rw[List.foldl_cons,ih];simp[ByteArray.push]
   have hbytes:(ys.map λ| .int _ n=>n|_=>0).map (λn:Int=>UInt8.ofNat n.toNat)=ys.map Mo:=by
    rw[List.map_map];apply List.map_congr_left;intro y hy;obtain⟨n,rfl⟩:=hok y hy;rfl
   refine mD.plain m (v:=.string ⟨(ys.map Mo).toArray⟩) ?_ (wT _);subst hv;cases b with
   |none=>
    have hz:ys=[]:=by
     have:=e2 w rfl;simp only[Builtin.firstCells,Sem.run_pure,Result.ok.injEq,and_true]at this;have hn0:news=[]:=by simpa using this.symm
     rw[hn0]at e3;exact List.eq_nil_of_length_eq_zero (by simpa using e3.symm)
    subst hz;simp[execOp,ho,hval,convert,run_underlying h1,run_underlying h2,run_underlying h3,Conv.bytesToString];rfl
   |some b=>
    have hl:=e2 w rfl;simp only[Builtin.firstCells,Nat.mul_one]at hl;rw[hnews]at hl;have hr:=run_bytesToString w b ys.length c _ hl;rw[hstr,hbytes]at hr;simp[execOp,ho,hval,convert,run_underlying h1,run_underlying h2,run_underlying h3,hr]
  ·exact hok.elim
 ·exact hok.elim
theorem Jw(m:dR w0 X H β w)(hg:∀x,R w (Ex X β H) β H (g x) (a.eval x)){f:FuncId}{first cs:Array Operand}(ho:o.op=.makeFunc (.func f) first cs)(hok:(if first.size=0 then kQ.plain (.fn f (cs.toList.map g))else kQ.cond (.bm f (first.toList.map g)) (cs.size=0)).ok):
 mD P w0 X H β w a o (if first.size=0 then kQ.plain (.fn f (cs.toList.map g))else kQ.cond (.bm f (first.toList.map g)) (cs.size=0)):=by
 have pt:∀xs:Array Operand,∀(i:Nat) (l:LV) (v:Value),(xs.toList.map g)[i]? =some l->(xs.toList.map a.eval)[i]? =some v->R w (Ex X β H) β H l v:=λxs i l v hl hv=>by
  obtain⟨x,hx,rfl⟩:=eG hl;obtain⟨y,hy,rfl⟩:=eG hv;rw[hx]at hy;injection hy with hy;subst hy
  exact hg x
 have ea:∀xs:Array Operand,(xs.toList.map a.eval).toArray=xs.map a.eval:=λxs=>by apply Array.ext';simp
 split at hok
 ·rename_i h0;rw[if_pos h0];have h0':first= #[]:=by simpa using h0
  subst h0';refine mD.plain m (v:=.func (.func f) #[] (cs.toList.map a.eval).toArray) ?_ (.fn f _ _ aM (pt cs));simp[execOp,ho,Instr.makeFunc,ea]
 ·rename_i h0;rw[if_neg h0];have h1:cs= #[]:=by simpa [kQ.cond]using hok
  subst h1;refine mD.plain m (v:=.func (.func f) (first.toList.map a.eval).toArray #[]) ?_ (.bm f _ _ aM (pt first));simp[execOp,ho,Instr.makeFunc,ea]
end
end
section
open Go.RowKit
theorem tA:∀{σ:List (Nat×Nat)} {i j:Nat},dP σ i=some j->(i,j)∈σ
 |[],_,_,h=>by simp[dP]at h
 |p::r,i,j,h=>by
  simp only[dP]at h;split at h
  ·rename_i e;injection h with h;subst e;subst h;exact List.mem_cons_self ..
  ·exact List.mem_cons_of_mem _ (tA h)
theorem mX{α γ:Type}{f:α->γ}:∀{l:List α},(l.map f).Nodup->∀p q,p∈l->q∈l->f p=f q->p=q
 |[],_,_,_,hp,_,_=>by cases hp
 |x::r,h,p,q,hp,hq,e=>by
  simp only[List.map_cons,List.nodup_cons]at h;rcases List.mem_cons.1 hp with hp1|hp1<;>rcases List.mem_cons.1 hq with hq1|hq1
  ·rw[hp1,hq1]
  ·exact absurd (List.mem_map.2 ⟨q,hq1,by rw[<-e,hp1]⟩) h.1
  ·exact absurd (List.mem_map.2 ⟨p,hp1,by rw[e,hq1]⟩) h.1
  ·exact mX h.2 p q hp1 hq1 e
theorem eY(σ:List (Nat×Nat))(o:bB):(cQ σ o).live=o.live:=by cases o<;>rfl
theorem pQ(σ:List (Nat×Nat))(o:bB):(cQ σ o).mut=o.mut:=by cases o<;>rfl
theorem R.ren{w:World}{E E':Nat->Prop}{β β':Nat->Option Nat}{H H':Nat->bB}{σ:List (Nat×Nat)}(hD:∀x v,RD w E x v->RD w E' x v)(hH:∀i j,dP σ i=some j->H' j=cQ σ (H i)/\β' j=β i):
 ∀(n:Nat) (l:LV) (v:Value),R w E β H l v->R w E' β' H' (ren σ n l) v:=by
 intro n;induction n with
 |zero=>intro l v _;exact .junk _
 |succ n ih=>
  intro l v h;have list:∀(cs:List LV) (vs:List Value),(∀(i:Nat) (c:LV) (v:Value),cs[i]? =some c->vs[i]? =some v->R w E β H c v)->∀(i:Nat) (c:LV) (v:Value),(cs.map (Eng.ren σ n))[i]? =some c->vs[i]? =some v->R w E' β' H' c v:=by
   intro cs vs hp i c v hc hv;obtain⟨c0,hc0,rfl⟩:=eG hc;exact ih _ _ (hp i c0 v hc0 hv)
  cases h with
  |d x v h=>exact .d _ _ (hD _ _ h)
  |agg cs vs hl h1 h=>exact .agg _ vs (by simpa using hl) h1 (list cs vs h)
  |fn f cs vs hl h=>exact .fn f _ vs (by simpa using hl) (list cs vs h)
  |bm f cs vs hl h=>exact .bm f _ vs (by simpa using hl) (list cs vs h)
  |tup cs vs hl h=>exact .tup _ vs (by simpa using hl) (list cs vs h)
  |bx id off b fz cs h1 h2=>
   simp only[Eng.ren];cases q:dP σ id with
   |none=>exact .junk _
   |some j=>obtain⟨e1,e2⟩:=hH id j q;exact .bx j off b fz _ (by rw[e1,h1];rfl) (by rw[e2];exact h2)
  |bxdead id off v h1 h2=>
   simp only[Eng.ren];cases q:dP σ id with
   |none=>exact .junk _
   |some j=>obtain⟨e1,e2⟩:=hH id j q;exact .bxdead j off v (by rw[e1,h1];rfl) h2
  |rp id k j b fz size xs h1 h2=>
   simp only[Eng.ren];cases q:dP σ id with
   |none=>exact .junk _
   |some i=>obtain⟨e1,e2⟩:=hH id i q;exact .rp i k j b fz size xs (by rw[e1,h1];rfl) (by rw[e2];exact h2)
  |rpdead id k j v h1 h2=>
   simp only[Eng.ren];cases q:dP σ id with
   |none=>exact .junk _
   |some i=>obtain⟨e1,e2⟩:=hH id i q;exact .rpdead i k j v (by rw[e1,h1];rfl) h2
  |ow id k m b c fz size xs cur e h1 h2 h3 h4 h5 h6 h7=>
   simp only[Eng.ren];cases q:dP σ id with
   |none=>exact .junk _
   |some i=>obtain⟨e1,e2⟩:=hH id i q;exact .ow i k m b c fz size xs cur e (by rw[e1,h1];rfl) (by rw[e2];exact h2) h3 h4 h5 h6 h7
  |ow0 id k a fz size xs h1 h2=>
   simp only[Eng.ren];cases q:dP σ id with
   |none=>exact .junk _
   |some i=>obtain⟨e1,e2⟩:=hH id i q;exact .ow0 i k a fz size xs (by rw[e1,h1];rfl) (by rw[e2];exact h2)
  |owdead id k m v h1 h2=>
   simp only[Eng.ren];cases q:dP σ id with
   |none=>exact .junk _
   |some i=>obtain⟨e1,e2⟩:=hH id i q;exact .owdead i k m v (by rw[e1,h1];rfl) h2
  |oc id k m c p fz size xs h1 h2 h3 h4 h5=>
   simp only[Eng.ren];cases q:dP σ id with
   |none=>exact .junk _
   |some i=>obtain⟨e1,e2⟩:=hH id i q;exact .oc i k m c p fz size xs (by rw[e1,h1];rfl) h2 h3 h4 (by rw[e2];exact h5)
  |ocdead id k m c v h1 h2=>
   simp only[Eng.ren];cases q:dP σ id with
   |none=>exact .junk _
   |some i=>obtain⟨e1,e2⟩:=hH id i q;exact .ocdead i k m c v (by rw[e1,h1];rfl) h2
  |when=>exact .junk _
  |nl a=>exact .nl a
  |mp id b fz ks vs h1 h2=>
   simp only[Eng.ren];cases q:dP σ id with
   |none=>exact .junk _
   |some i=>obtain⟨e1,e2⟩:=hH id i q;exact .mp i b fz ks vs (by rw[e1,h1];rfl) (by rw[e2];exact h2)
  |mpdead id v h1 h2=>
   simp only[Eng.ren];cases q:dP σ id with
   |none=>exact .junk _
   |some i=>obtain⟨e1,e2⟩:=hH id i q;exact .mpdead i v (by rw[e1,h1];rfl) h2
  |it id b fz ks vs h1 h2=>
   simp only[Eng.ren];cases q:dP σ id with
   |none=>exact .junk _
   |some i=>obtain⟨e1,e2⟩:=hH id i q;exact .it i b fz ks vs (by rw[e1,h1];rfl) (by rw[e2];exact h2)
  |itdead id v h1 h2=>
   simp only[Eng.ren];cases q:dP σ id with
   |none=>exact .junk _
   |some i=>obtain⟨e1,e2⟩:=hH id i q;exact .itdead i v (by rw[e1,h1];rfl) h2
  |junk=>exact .junk _
theorem bQ.of_ren{σ:List (Nat×Nat)}{w w':World}{β β1 β2:Nat->Option Nat}{H0 H1 H2:Nat->bB}{id:Nat}(h:bQ w β H0 w' β1 H1 id)(e:H2 id=cQ σ (H1 id))(eb:β2 id=β1 id):bQ w β H0 w' β2 H2 id:=by
 unfold bQ at*;rw[e,eb];cases q:H0 id with
 |absent=>trivial
 |dead=>simp only[q]at h;simp only[h,cQ]
 |box fz cs=>
  simp only[q]at h;rcases h with h|⟨⟨fz',cs',h⟩,hb⟩
  ·exact .inl (by rw[h];rfl)
  ·exact .inr ⟨⟨fz',_,by rw[h];rfl⟩,hb⟩
 |row fz s xs=>
  simp only[q]at h;rcases h with h|⟨⟨fz',xs',h,hl⟩,hb⟩
  ·exact .inl (by rw[h];rfl)
  ·exact .inr ⟨⟨fz',xs',by rw[h];rfl,hl⟩,hb⟩
 |map fz ks vs=>
  simp only[q]at h;rcases h with h|⟨⟨fz',k',v',h⟩,hb⟩
  ·exact .inl (by rw[h];rfl)
  ·exact .inr ⟨⟨fz',k',v',by rw[h];rfl⟩,hb⟩
 |iter fz ks vs=>
  simp only[q]at h;rcases h with h|⟨⟨fz',k',v',h⟩,hb⟩
  ·exact .inl (by rw[h];rfl)
  ·exact .inr ⟨⟨fz',k',v',by rw[h];rfl⟩,hb⟩
 |know x v=>trivial
theorem Mw{σ τ:List (Nat×Nat)}{w w':World}{β β1 β2 β3:Nat->Option Nat}{H H1 H2 H3:Nat->bB}{id j:Nat}(h:bQ w β1 H1 w' β2 H2 j)(e:H1 j=cQ σ (H id))(eb:β1 j=β id)(e':H3 id=cQ τ (H2 j))(eb':β3 id=β2 j):bQ w β H w' β3 H3 id:=by
 unfold bQ at*;rw[e,eb]at h;rw[e',eb'];cases q:H id with
 |absent=>trivial
 |dead=>rw[q]at h;simp only[cQ]at h|-;rw[h]
 |box fz cs=>
  rw[q]at h;simp only[cQ]at h;rcases h with h|⟨⟨fz',cs',h⟩,hb⟩
  ·exact .inl (by rw[h];rfl)
  ·exact .inr ⟨⟨fz',_,by rw[h];rfl⟩,hb⟩
 |row fz s xs=>
  rw[q]at h;simp only[cQ]at h;rcases h with h|⟨⟨fz',xs',h,hl⟩,hb⟩
  ·exact .inl (by rw[h];rfl)
  ·exact .inr ⟨⟨fz',xs',by rw[h];rfl,hl⟩,hb⟩
 |map fz ks vs=>
  rw[q]at h;simp only[cQ]at h;rcases h with h|⟨⟨fz',k',v',h⟩,hb⟩
  ·exact .inl (by rw[h];rfl)
  ·exact .inr ⟨⟨fz',k',v',by rw[h];rfl⟩,hb⟩
 |iter fz ks vs=>
  rw[q]at h;simp only[cQ]at h;rcases h with h|⟨⟨fz',k',v',h⟩,hb⟩
  ·exact .inl (by rw[h];rfl)
  ·exact .inr ⟨⟨fz',k',v',by rw[h];rfl⟩,hb⟩
 |know x v=>trivial
def kK(l:List (Nat×Nat))(β:Nat->Option Nat)(j:Nat):Option Nat:=((l.find? λp=>p.2=j).map λp=>p.1).bind β
theorem TN(σ:List (Nat×Nat))(H:Nat->bB)(β:Nat->Option Nat)(j:Nat):∀l:List (Nat×Nat),
 (∃p∈l,p.2=j/\aL (l.map λp=>(p.2,cQ σ (H p.1))) j=cQ σ (H p.1)/\kK l β j=β p.1)\/
   (aL (l.map λp=>(p.2,cQ σ (H p.1))) j=.absent/\kK l β j=none/\∀p∈l,p.2≠j):=by
 intro l;unfold aL kK;induction l with
 |nil=>right;exact⟨rfl,rfl,aM⟩
 |cons q r ih=>
  by_cases hq:q.2=j
  ·left;exact⟨q,List.mem_cons_self ..,hq,by simp[fI,hq],by simp[hq]⟩
  ·simp only[List.map_cons,fI,if_neg (λe:j=q.2=>hq e.symm),List.find?_cons];have:(decide (q.2=j))=false:=by simpa using hq
   simp only[this];rcases ih with⟨p,hp,h1,h2,h3⟩|⟨h1,h2,h3⟩
   ·exact .inl ⟨p,List.mem_cons_of_mem _ hp,h1,h2,h3⟩
   ·refine .inr ⟨h1,h2,λp hp=>?_⟩;rcases List.mem_cons.1 hp with rfl|hp
    ·exact hq
    ·exact h3 p hp
theorem QI(τ:List (Nat×Nat))(F H:Nat->bB)(β:Nat->Option Nat)(j:Nat):∀l:List (Nat×Nat),
 (∃p∈l,p.2=j/\bW H (l.map λp=>(p.2,cQ τ (F p.1))) j=cQ τ (F p.1)/\kK l β j=β p.1)\/
   (bW H (l.map λp=>(p.2,cQ τ (F p.1))) j=H j/\∀p∈l,p.2≠j):=by
 intro l;unfold kK;induction l with
 |nil=>right;exact⟨rfl,aM⟩
 |cons q r ih=>
  by_cases hq:q.2=j
  ·left;exact⟨q,List.mem_cons_self ..,hq,by simp[bW,hq],by simp[hq]⟩
  ·simp only[List.map_cons,bW,if_neg (λe:j=q.2=>hq e.symm),List.find?_cons];have:(decide (q.2=j))=false:=by simpa using hq
   simp only[this];rcases ih with⟨p,hp,h1,h2,h3⟩|⟨h1,h3⟩
   ·exact .inl ⟨p,List.mem_cons_of_mem _ hp,h1,h2,h3⟩
   ·refine .inr ⟨h1,λp hp=>?_⟩;rcases List.mem_cons.1 hp with rfl|hp
    ·exact hq
    ·exact h3 p hp
theorem dO.ren{w:World}{E E':Nat->Prop}{β β':Nat->Option Nat}{H H':Nat->bB}{σ:List (Nat×Nat)}(hE:∀k,E' k->E k)(hH:∀i j,dP σ i=some j->H' j=cQ σ (H i)/\β' j=β i)
 {i j:Nat}(e1:H' j=cQ σ (H i))(e2:β' j=β i)(ho:dO w E β H i):dO w E' β' H' j:=by
 have hD:∀x v,RD w E x v->RD w E' x v:=λx v h=>h.anti hE;have hR:=R.ren hD hH;unfold dO at*;rw[e1];cases q:H i with
 |absent=>trivial
 |dead=>trivial
 |box fz cs=>
  rw[q]at ho;simp only[cQ]at ho|-;obtain⟨b,e,us,h1,h2,h3,h4,h5⟩:=ho;refine⟨b,e,us,by rw[e2];exact h1,h2,by simpa using h3,h4,λi c v hc hv=>?_⟩;obtain⟨c0,hc0,rfl⟩:=eG hc;exact hR 8 _ _ (h5 i c0 v hc0 hv)
 |row fz size xs=>
  rw[q]at ho;simp only[cQ]at ho|-;obtain⟨h1,h2,h3⟩:=ho;refine⟨h1,h2,?_⟩;rcases h3 with⟨h3,h4⟩|⟨b,e,cur,h3,h4,h5,h6⟩
  ·exact .inl ⟨by rw[e2];exact h3,h4⟩
  ·exact .inr ⟨b,e,cur,by rw[e2];exact h3,h4,h5,λi d v hd hv=>⟨(h6 i d v hd hv).1,hD _ _ (h6 i d v hd hv).2⟩⟩
 |map fz ks vs=>
  rw[q]at ho;simp only[cQ]at ho|-;obtain⟨b,arr,clock,h1,h2,h3,h4,h5,h6,h7⟩:=ho;exact⟨b,arr,clock,by rw[e2];exact h1,h2,h3,h4,h5,λi d e hd he=>hD _ _ (h6 i d e hd he),λi d e hd he=>hD _ _ (h7 i d e hd he)⟩
 |iter fz ks vs=>
  rw[q]at ho;simp only[cQ]at ho|-;obtain⟨b,bm,arr,clock,seen,last,h1,h2,h3,h4,h5,h6,h7,h8,h9,h10,h11⟩:=ho;exact⟨b,bm,arr,clock,seen,last,by rw[e2];exact h1,h2,λh=>h3 (hE _ h),h4,h5,h6,h7,h8,h9,λi d e hd he=>hD _ _ (h10 i d e hd he),λi d e hd he=>hD _ _ (h11 i d e hd he)⟩
 |know x v=>
  rw[q]at ho;simp only[cQ]at ho|-;exact hR 8 _ _ ho
section
variable{w0:cX} {X:Nat->Prop} {H:Nat->bB} {β:Nat->Option Nat} {w:World}
theorem dR.callG(m:dR w0 X H β w)(σ new:List (Nat×Nat))(hn1:((gK σ new).map (·.1)).Nodup)(hn2:((gK σ new).map (·.2)).Nodup)(hnew:∀p∈new,H p.2=.absent):
 ∃(Xc:Nat->Prop) (βc:Nat->Option Nat),(∀k,Xc k->k<w.heap.size)/\
  dR ⟨w,βc,aL (σ.map λp=>(p.2,cQ σ (H p.1))),σ.map (·.2),false⟩ Xc (aL (σ.map λp=>(p.2,cQ σ (H p.1)))) βc w/\
  (∀x v,RD w (Ex X β H) x v->RD w (Ex Xc βc (aL (σ.map λp=>(p.2,cQ σ (H p.1))))) x v)/\
  (∀l v,R w (Ex X β H) β H l v->R w (Ex Xc βc (aL (σ.map λp=>(p.2,cQ σ (H p.1))))) βc (aL (σ.map λp=>(p.2,cQ σ (H p.1)))) (Eng.ren σ 8 l) v)/\
  ∀(F:Nat->bB) (β':Nat->Option Nat) (w':World),dR ⟨w,βc,aL (σ.map λp=>(p.2,cQ σ (H p.1))),σ.map (·.2),false⟩ Xc F β' w'->
   ∃β2,dR w0 X (bW H ((gK σ new).map λp=>(p.2,cQ (gK σ new) (F p.1)))) β2 w'/\eT X H β w (bW H ((gK σ new).map λp=>(p.2,cQ (gK σ new) (F p.1)))) β2 w'/\
    ∀l v,R w' (Ex Xc β' F) β' F l v->R w' (Ex X β2 (bW H ((gK σ new).map λp=>(p.2,cQ (gK σ new) (F p.1))))) β2 (bW H ((gK σ new).map λp=>(p.2,cQ (gK σ new) (F p.1)))) (Eng.ren (gK σ new) 8 l) v:=by
 generalize hhc:aL (σ.map λp=>(p.2,cQ σ (H p.1)))=hc;generalize hτ:gK σ new=τ at*;have m1:τ.map (·.1)=σ.map (·.2)++new.map (·.1):=by rw[<-hτ];simp[gK]
 have m2:τ.map (·.2)=σ.map (·.1)++new.map (·.2):=by rw[<-hτ];simp[gK]
 have hσ2:(σ.map (·.2)).Nodup:=by rw[m1]at hn1;exact(List.nodup_append.1 hn1).1
 have hσ1:(σ.map (·.1)).Nodup:=by rw[m2]at hn2;exact(List.nodup_append.1 hn2).1
 have hτσ:∀p∈σ,(p.2,p.1)∈τ:=λp hp=>by rw[<-hτ];exact List.mem_append.2 (.inl (List.mem_map.2 ⟨p,hp,rfl⟩))
 have hτc:∀p∈τ,(p.2,p.1)∈σ\/p∈new:=λp hp=>by
  rw[<-hτ]at hp;rcases List.mem_append.1 hp with hp|hp
  ·obtain⟨q,hq,rfl⟩:=List.mem_map.1 hp;exact .inl hq
  ·exact .inr hp
 have lookc:∀j,(∃p∈σ,p.2=j/\hc j=cQ σ (H p.1)/\kK σ β j=β p.1)\/(hc j=.absent/\kK σ β j=none/\∀p∈σ,p.2≠j):=λj=>by rw[<-hhc];exact TN σ H β j σ
 have at_c:∀p∈σ,hc p.2=cQ σ (H p.1)/\kK σ β p.2=β p.1:=λp hp=>by
  rcases lookc p.2 with⟨q,hq,h1,h2,h3⟩|⟨_,_,h3⟩
  ·have:=mX hσ2 q p hq hp h1;subst this;exact⟨h2,h3⟩
  ·exact absurd rfl (h3 p hp)
 let Xc:Nat->Prop:=λk=>X k\/∃id,(∀p∈σ,p.1≠id)/\(H id).mut=true/\β id=some k
 have hXX:∀k,Xc k->Ex X β H k:=λk hk=>by
  rcases hk with hk|⟨id,_,h2,h3⟩
  ·exact .inl hk
  ·exact .inr ⟨id,h2,h3⟩
 have hEc:∀k,Ex Xc (kK σ β) hc k->Ex X β H k:=λk hk=>by
  rcases hk with hk|⟨j,h1,h2⟩
  ·exact hXX k hk
  ·rcases lookc j with⟨p,hp,_,e1,e2⟩|⟨e1,_,_⟩
   ·rw[e1,pQ]at h1;exact .inr ⟨p.1,h1,by rw[<-e2];exact h2⟩
   ·rw[e1]at h1;cases h1
 have hHc:∀i j,dP σ i=some j->hc j=cQ σ (H i)/\kK σ β j=β i:=λi j h=>at_c (i,j) (tA h);have hDc:∀x v,RD w (Ex X β H) x v->RD w (Ex Xc (kK σ β) hc) x v:=λx v h=>h.anti hEc;refine⟨Xc,kK σ β,λk hk=>(hXX k hk).lt m,?_,hDc,λl v h=>R.ren hDc hHc 8 l v h,?_⟩
 ·refine⟨⟨rfl,rfl,rfl,Nat.le_refl _,λ_ _ _=>rfl,Nat.le_refl _⟩,⟨λk hk=>⟨(hXX k hk).lt m,λhmn=>?_⟩,m.globL.anti λk hk=>?_⟩,λj b hl hb=>?_,λi j b hi hj h1 h2=>?_,λj=>?_,λid _=>bQ.refl id⟩
  ·obtain⟨j,hj,h1,h2⟩:=hmn;obtain⟨p,hp,rfl⟩:=List.mem_map.1 hj;obtain⟨e1,e2⟩:=at_c p hp;have h1:(hc p.2).live=true:=h1;have h2:kK σ β p.2=some k:=h2;rw[e1,eY]at h1;rw[e2]at h2;rcases hk with hk|⟨id,g1,g2,g3⟩
   ·rcases(m.fresh p.1 k h1 h2).1 with h|h
    ·have:=(m.xold.1 k hk).1;omega
    ·exact(m.xold.1 k hk).2 h.1
   ·exact g1 p hp (m.inj p.1 id k h1 (bK g2) h2 g3)
  ·rcases hk with hk|⟨j,hj,h1,h2⟩
   ·rcases hXX k hk with h|⟨id,h1,h2⟩
    ·exact .inl h
    ·exact .inr ⟨id,bK h1,h2⟩
   ·obtain⟨p,hp,rfl⟩:=List.mem_map.1 hj;obtain⟨e1,e2⟩:=at_c p hp;have h1:(hc p.2).live=true:=h1;have h2:kK σ β p.2=some k:=h2;rw[e1,eY]at h1;rw[e2]at h2;exact .inr ⟨p.1,h1,h2⟩
  ·rcases lookc j with⟨p,hp,e0,e1,e2⟩|⟨e1,_,_⟩
   ·have hl':=hl;rw[e1,eY]at hl';exact⟨.inr ⟨⟨j,List.mem_map.2 ⟨p,hp,e0⟩,hl,hb⟩,λhm=>⟨j,List.mem_map.2 ⟨p,hp,e0⟩,hm,hb⟩⟩,(m.fresh p.1 b hl' (by rw[<-e2];exact hb)).2⟩
   ·rw[e1]at hl;cases hl
  ·rcases lookc i with⟨p,hp,p1,e1,e2⟩|⟨e1,_,_⟩
   ·rcases lookc j with⟨q,hq,q1,f1,f2⟩|⟨f1,_,_⟩
    ·rw[e1,eY]at hi;rw[f1,eY]at hj;have:=m.inj p.1 q.1 b hi hj (by rw[<-e2];exact h1) (by rw[<-f2];exact h2);have:=mX hσ1 p q hp hq this;rw[<-p1,<-q1,this]
    ·rw[f1]at hj;cases hj
   ·rw[e1]at hi;cases hi
  ·rcases lookc j with⟨p,hp,p1,e1,e2⟩|⟨e1,_,_⟩
   ·exact dO.ren hEc hHc e1 e2 (m.obj p.1)
   ·unfold dO;rw[e1];trivial
 ·intro F β' w' mc;generalize hH2:bW H (τ.map λp=>(p.2,cQ τ (F p.1)))=H2
  let β2:Nat->Option Nat:=λid=>if(τ.any λp=>p.2==id)=true then kK τ β' id else β id
  have look2:∀id,(∃p∈τ,p.2=id/\H2 id=cQ τ (F p.1)/\β2 id=β' p.1)\/(H2 id=H id/\β2 id=β id/\∀p∈τ,p.2≠id):=λid=>by
   rcases QI τ F H β' id τ with⟨p,hp,h1,h2,h3⟩|⟨h1,h2⟩
   ·refine .inl ⟨p,hp,h1,by rw[<-hH2];exact h2,?_⟩;show(if(τ.any λp=>p.2==id)=true then kK τ β' id else β id)=_;rw[if_pos (List.any_eq_true.2 ⟨p,hp,by simpa using h1⟩)];exact h3
   ·refine .inr ⟨by rw[<-hH2];exact h1,?_,h2⟩;show(if(τ.any λp=>p.2==id)=true then kK τ β' id else β id)=_;rw[if_neg];intro h;obtain⟨p,hp,h⟩:=List.any_eq_true.1 h;exact h2 p hp (by simpa using h)
  have at2:∀p∈τ,H2 p.2=cQ τ (F p.1)/\β2 p.2=β' p.1:=λp hp=>by
   rcases look2 p.2 with⟨q,hq,h1,h2,h3⟩|⟨_,_,h3⟩
   ·have:=mX hn2 q p hq hp h1;subst this;exact⟨h2,h3⟩
   ·exact absurd rfl (h3 p hp)
  have hHo:∀i j,dP τ i=some j->H2 j=cQ τ (F i)/\β2 j=β' i:=λi j h=>at2 (i,j) (tA h);have nots:∀id,(∀p∈τ,p.2≠id)->∀p∈σ,p.1≠id:=λid h p hp=>h _ (hτσ p hp);have hE2:∀k,Ex X β2 H2 k->Ex Xc β' F k:=λk hk=>by
   rcases hk with hk|⟨id,h1,h2⟩
   ·exact .inl (.inl hk)
   ·rcases look2 id with⟨p,hp,_,e1,e2⟩|⟨e1,e2,e3⟩
    ·rw[e1,pQ]at h1;exact .inr ⟨p.1,h1,by rw[<-e2];exact h2⟩
    ·rw[e1]at h1;rw[e2]at h2;exact .inl (.inr ⟨id,nots id e3,h1,h2⟩)
  have hD2:∀x v,RD w' (Ex Xc β' F) x v->RD w' (Ex X β2 H2) x v:=λx v h=>h.anti hE2
  let wc:cX:=⟨w,kK σ β,hc,σ.map (·.2),false⟩
  have mc:dR wc Xc F β' w':=mc;have own_c:∀k,wc.own k->∃p∈σ,(H p.1).mut=true/\β p.1=some k:=λk ⟨j,hj,h1,h2⟩=>by
   obtain⟨p,hp,rfl⟩:=List.mem_map.1 hj;obtain⟨e1,e2⟩:=at_c p hp;have h1:(hc p.2).mut=true:=h1;have h2:kK σ β p.2=some k:=h2;rw[e1,pQ]at h1;rw[e2]at h2;exact⟨p,hp,h1,h2⟩
  have mine_c:∀k,wc.mine k->∃p∈σ,(H p.1).live=true/\β p.1=some k:=λk ⟨j,hj,h1,h2⟩=>by
   obtain⟨p,hp,rfl⟩:=List.mem_map.1 hj;obtain⟨e1,e2⟩:=at_c p hp;have h1:(hc p.2).live=true:=h1;have h2:kK σ β p.2=some k:=h2;rw[e1,eY]at h1;rw[e2]at h2;exact⟨p,hp,h1,h2⟩
  have same:∀id b,(∀p∈τ,p.2≠id)->(H id).live=true->β id=some b->w'.heap[b]? =w.heap[b]? :=λid b hid hl hb=>by
   refine mc.ext.block b (m.fresh id b hl hb).2 λho=>?_;obtain⟨p,hp,h1,h2⟩:=own_c b ho;exact nots id hid p hp (m.inj p.1 id b (bK h1) hl h2 hb)
  have g:eT X H β w H2 β2 w':=by
   refine⟨mc.ext.size,λk hk he=>mc.ext.block k hk λho=>?_,λk hk he=>?_,λid=>?_⟩
   ·obtain⟨p,hp,h1,h2⟩:=own_c k ho;exact he (.inr ⟨p.1,h1,h2⟩)
   ·rcases hE2 k he with h|⟨j,h1,h2⟩
    ·exact hXX k h
    ·rcases(mc.fresh j k (bK h1) h2).1 with h|h
     ·have h:w.heap.size<=k:=h;omega
     ·obtain⟨p,hp,h3,h4⟩:=own_c k (h.2 h1);exact .inr ⟨p.1,h3,h4⟩
   ·rcases look2 id with⟨p,hp,hpid,e1,e2⟩|⟨e1,e2,e3⟩
    ·rcases hτc p hp with hq|hq
     ·have hpin:bQ w (kK σ β) hc w' β' F p.1:=mc.pin p.1 (List.mem_map.2 ⟨_,hq,rfl⟩);obtain⟨c1,c2⟩:=at_c _ hq;simp only at c1 c2;rw[hpid]at c1 c2;exact Mw hpin c1 c2 e1 e2
     ·unfold bQ;rw[<-hpid,hnew p hq];trivial
    ·have hp:=bQ.refl (w:=w) (β:=β) (H:=H) id;unfold bQ at*;rw[e1,e2];cases q:H id with
     |absent=>trivial
     |dead=>rfl
     |box fz cs=>simpa only[q]using hp
     |row fz s xs=>exact .inr ⟨⟨fz,xs,rfl,Nat.le_refl _⟩,rfl,λb cur t hbb hblk=>⟨cur,t,by rw[same id b e3 (by rw[q];rfl) hbb];exact hblk,rfl⟩⟩
     |map fz ks vs=>simpa only[q]using hp
     |iter fz ks vs=>simpa only[q]using hp
     |know x v=>trivial
  refine⟨β2,⟨⟨mc.ext.os.trans m.ext.os,mc.ext.tape.trans m.ext.tape,mc.ext.output.trans m.ext.output,Nat.le_trans m.ext.size mc.ext.size,λk hk hno=>?_,Nat.le_trans m.ext.drawn mc.ext.drawn⟩,m.xold,λid b hl hb=>?_,λi j b hi hj h1 h2=>?_,λid=>?_,λid hid=>(m.pin id hid).trans (g.pass id)⟩,g,λl v h=>R.ren hD2 hHo 8 l v h⟩
  ·refine(mc.ext.block k (Nat.lt_of_lt_of_le hk m.ext.size) λho=>?_).trans (m.ext.block k hk hno);obtain⟨p,hp,h1,h2⟩:=own_c k ho;rcases(m.fresh p.1 k (bK h1) h2).1 with h|h
   ·omega
   ·exact hno (h.2 h1)
  ·rcases look2 id with⟨p,hp,hpid,e1,e2⟩|⟨e1,e2,e3⟩
   ·rw[e1,eY]at hl;rw[e2]at hb;have hf:=mc.fresh p.1 b hl hb;refine⟨?_,hf.2⟩;by_cases hsz:w0.w.heap.size<=b
    ·exact .inl hsz
    ·right;rcases hf.1 with h|⟨h3,h4⟩
     ·exact absurd (Nat.le_trans m.ext.size h) hsz
     ·obtain⟨q,_,q1,q2⟩:=mine_c b h3;refine⟨((m.fresh q.1 b q1 q2).1.resolve_left hsz).1,λhm=>?_⟩;rw[e1,pQ]at hm;obtain⟨r,_,r1,r2⟩:=own_c b (h4 hm);exact((m.fresh r.1 b (bK r1) r2).1.resolve_left hsz).2 r1
   ·rw[e1]at hl|-;rw[e2]at hb;have hf:=m.fresh id b hl hb;exact⟨hf.1,Nat.lt_of_lt_of_le hf.2 mc.ext.size⟩
  ·have cross:∀p∈τ,∀j,(∀p∈τ,p.2≠j)->(F p.1).live=true->β' p.1=some b->(H j).live=true->β j=some b->False:=λp hp j hj h1 h2 h3 h4=>by
    rcases(mc.fresh p.1 b h1 h2).1 with h|h
    ·have h:w.heap.size<=b:=h;have:=(m.fresh j b h3 h4).2;omega
    ·obtain⟨q,hq,q1,q2⟩:=mine_c b h.1;exact nots j hj q hq (m.inj q.1 j b q1 h3 q2 h4)
   rcases look2 i with⟨p,hp,p0,e1,e2⟩|⟨e1,e2,e3⟩
   ·rw[e1,eY]at hi;rw[e2]at h1;rcases look2 j with⟨q,hq,q0,f1,f2⟩|⟨f1,f2,f3⟩
    ·rw[f1,eY]at hj;rw[f2]at h2;have:=mX hn1 p q hp hq (mc.inj p.1 q.1 b hi hj h1 h2);rw[<-p0,<-q0,this]
    ·rw[f1]at hj;rw[f2]at h2;exact(cross p hp j f3 hi h1 hj h2).elim
   ·rw[e1]at hi;rw[e2]at h1;rcases look2 j with⟨q,hq,q0,f1,f2⟩|⟨f1,f2,f3⟩
    ·rw[f1,eY]at hj;rw[f2]at h2;exact(cross q hq i e3 hj h2 hi h1).elim
    ·rw[f1]at hj;rw[f2]at h2;exact m.inj i j b hi hj h1 h2
  ·rcases look2 id with⟨p,hp,p0,e1,e2⟩|⟨e1,e2,e3⟩
   ·exact dO.ren hE2 hHo e1 e2 (mc.obj p.1)
   ·exact(m.obj id).step g.size g.out (λ_ _=>g.D) (λ_ _=>g.R) e1 (λ_=>e2) λb hl hb=>same id b e3 hl hb
end
end
section
open Go.RowKit
def cW:List (Nat×bB)->Nat->Option bB
 |[],_=>none
 |p::r,j=>if j=p.1 then some p.2 else cW r j
def mG(l:List (Nat×bB))(B β:Nat->Option Nat)(id:Nat):Option Nat:=if(cW l id).isSome then B id else β id
section
variable{P:Program} {T:TypeId->fE} {w0:cX} {X:Nat->Prop} {H:Nat->bB} {β:Nat->Option Nat} {w w':World} {a:Act} {o:Oper} {g:Operand->LV} {E:Nat->Prop}
theorem eU(l:List (Nat×bB))(j:Nat):bW H l j=(cW l j).getD (H j):=by
 induction l with
 |nil=>rfl
 |cons p r ih=>
  simp only[bW,cW];split
  ·rfl
  ·exact ih
theorem dR.newMany(m:dR w0 X H β w)(hb:zN w.heap.size w w')(l:List (Nat×bB))(B:Nat->Option Nat)(hd:∀id o,cW l id=some o->H id=.absent)
 (hB:∀id o b,cW l id=some o->B id=some b->w.heap.size<=b/\b<w'.heap.size)(hinj:∀i j b,B i=some b->B j=some b->i=j)
 (ho:(∀x v,RD w (Ex X β H) x v->RD w' (Ex X (mG l B β) (bW H l)) x v)->∀id o,cW l id=some o->dO w' (Ex X (mG l B β) (bW H l)) (mG l B β) (bW H l) id):
 dR w0 X (bW H l) (mG l B β) w'/\eT X H β w (bW H l) (mG l B β) w':=by
 have old:∀id,cW l id=none->bW H l id=H id/\mG l B β id=β id:=λid h=>by rw[eU,h];exact⟨rfl,by simp[mG,h]⟩
 have new:∀id o,cW l id=some o->bW H l id=o/\mG l B β id=B id:=λid o h=>by rw[eU,h];exact⟨rfl,by simp[mG,h]⟩
 have hg:eT X H β w (bW H l) (mG l B β) w':=by
  refine⟨hb.size,λk hk _=>hb.block k hk,λk hk he=>?_,λid=>?_⟩
  ·rcases he with he|⟨id,h1,h2⟩
   ·exact .inl he
   ·cases q:cW l id with
    |some o=>rw[(new id o q).2]at h2;have:=(hB id o k q h2).1;omega
    |none=>rw[(old id q).1]at h1;rw[(old id q).2]at h2;exact .inr ⟨id,h1,h2⟩
  ·cases q:cW l id with
   |some o=>unfold bQ;rw[hd id o q];trivial
   |none=>
    have hp:=(m.grow hb).2.pass id;unfold bQ at*;rw[(old id q).1];rw[(old id q).2];exact hp
 refine⟨⟨m.ext.of_below hb,m.xold,λid b hl hbb=>?_,λi j b hi hj h1 h2=>?_,λid=>?_,λid hid=>(m.pin id hid).trans (hg.pass id)⟩,hg⟩
 ·cases q:cW l id with
  |some o=>rw[(new id o q).2]at hbb;have h1:=hB id o b q hbb;exact⟨.inl (Nat.le_trans m.ext.size h1.1),h1.2⟩
  |none=>rw[(old id q).1]at hl|-;rw[(old id q).2]at hbb;have:=m.fresh id b hl hbb;exact⟨this.1,Nat.lt_of_lt_of_le this.2 hb.size⟩
 ·cases qi:cW l i with
  |some oi=>
   rw[(new i oi qi).2]at h1;cases qj:cW l j with
   |some oj=>rw[(new j oj qj).2]at h2;exact hinj i j b h1 h2
   |none=>rw[(old j qj).1]at hj;rw[(old j qj).2]at h2;have:=hB i oi b qi h1;have:=(m.fresh j b hj h2).2;omega
  |none=>
   rw[(old i qi).1]at hi;rw[(old i qi).2]at h1;cases qj:cW l j with
   |some oj=>rw[(new j oj qj).2]at h2;have:=hB j oj b qj h2;have:=(m.fresh i b hi h1).2;omega
   |none=>rw[(old j qj).1]at hj;rw[(old j qj).2]at h2;exact m.inj i j b hi hj h1 h2
 ·cases q:cW l id with
  |some o=>exact ho (λ_ _=>hg.D) id o q
  |none=>exact(m.obj id).step hg.size hg.out (λ_ _=>hg.D) (λ_ _=>hg.R) (old id q).1 (λ_=>(old id q).2) λb hl hbb=>hb.block b (m.fresh id b hl hbb).2
theorem qU:∀(rs:List RV) (d id:Nat) (o:bB),cW (cO d rs) id=some o->∃i s xs,rs[i]? =some (.own s xs)/\id=d+1000*i/\o=.row false s xs
 |[],d,id,o,h=>by simp[cO,cW]at h
 |r::rs,d,id,o,h=>by
  have next:cW (cO (d+1000) rs) id=some o->∃i s xs,(r::rs)[i]? =some (.own s xs)/\id=d+1000*i/\o=.row false s xs:=λh=>by
   obtain⟨i,s,xs,h1,h2,h3⟩:=qU rs (d+1000) id o h;exact⟨i+1,s,xs,by simpa using h1,aE,h3⟩
  cases r with
  |own s xs=>
   simp only[cO,mV,List.cons_append,List.nil_append,cW]at h;split at h
   ·rename_i e;injection h with h
    exact⟨0,s,xs,rfl,by simpa using e,h.symm⟩
   ·exact next h
  |d x=>simp only[cO,mV,List.nil_append]at h;exact next h
  |tup x=>simp only[cO,mV,List.nil_append]at h;exact next h
theorem uT:∀(rs:List RV) (d i s:Nat) (xs:List DV),rs[i]? =some (.own s xs)->cW (cO d rs) (d+1000*i)=some (.row false s xs)
 |[],d,i,s,xs,h=>by simp at h
 |r::rs,d,i,s,xs,h=>by
  have next:∀j,i=j+1->cW (cO (d+1000) rs) (d+1000*i)=some (.row false s xs):=λj e=>by
   subst e;have:=uT rs (d+1000) j s xs (by simpa using h);rw[<-this];congr 1;omega
  cases i with
  |zero=>simp at h;subst h;simp[cO,mV,cW]
  |succ j=>
   cases r with
   |own s' xs'=>simp only[cO,mV,List.cons_append,List.nil_append,cW];rw[if_neg aE];exact next j rfl
   |d x=>simp only[cO,mV,List.nil_append];exact next j rfl
   |tup x=>simp only[cO,mV,List.nil_append];exact next j rfl
theorem Dx:∀(rs:List RV) (d i:Nat) (l:LV),(pM d rs)[i]? =some l->∃r,rs[i]? =some r/\l=Jm (d+1000*i) r
 |[],_,_,_,h=>by simp[pM]at h
 |r::rs,d,0,l,h=>by simp[pM]at h;exact⟨r,rfl,by simp[h]⟩
 |r::rs,d,i+1,l,h=>by
  simp only[pM,List.getElem?_cons_succ]at h;obtain⟨r',h1,h2⟩:=Dx rs (d+1000) i l h;exact⟨r',by simpa using h1,by rw[h2];congr 1;omega⟩
theorem Dy:∀(rs:List RV) (d:Nat),(pM d rs).length=rs.length
 |[],_=>rfl
 |_::rs,d=>by simp[pM,Dy rs]
theorem HJ(m:dR w0 X H β w)(hb:zN w.heap.size w w')(d:Nat)(rs:List RV)(vs:List Value)(B:Nat->Option Nat)(hinj:∀i j b,B i=some b->B j=some b->i=j)(hE:∀k,Ex X β H k->E k)
 (habs:∀p∈cO d rs,H p.1=.absent)(h:∀(i:Nat) (r:RV) (v:Value),rs[i]? =some r->vs[i]? =some v->AQ w w' (λk=>E k\/∃j,B j=some k) (B i) r v)(hl:vs.length=rs.length):
 ∃β',dR w0 X (bW H (cO d rs)) β' w'/\eT X H β w (bW H (cO d rs)) β' w'/\
  ∀(i:Nat) (l:LV) (v:Value),(pM d rs)[i]? =some l->vs[i]? =some v->R w' (Ex X β' (bW H (cO d rs))) β' (bW H (cO d rs)) l v:=by
 have habs':∀id o,cW (cO d rs) id=some o->H id=.absent:=by
  have:∀(l:List (Nat×bB)) id o,cW l id=some o->(id,o)∈l:=by
   intro l;induction l with
   |nil=>intro id o h;simp[cW]at h
   |cons p r ih=>
    intro id o h;simp only[cW]at h;split at h
    ·rename_i e;injection h with h;subst h;subst e;simp
    ·exact List.mem_cons_of_mem _ (ih id o h)
  exact λid o h=>habs _ (this _ id o h)
 let B':Nat->Option Nat:=λid=>if(id-d)%1000=0/\d<=id then B ((id-d) / 1000)else none
 have hB':∀i,B' (d+1000*i)=B i:=λi=>by
  show(if(d+1000*i-d)%1000=0/\d<=d+1000*i then B ((d+1000*i-d) / 1000)else none)=B i;rw[if_pos ⟨aE,aE⟩];congr 1;omega
 have hBinj:∀i j b,B' i=some b->B' j=some b->i=j:=λi j b h1 h2=>by
  simp only[B']at h1 h2;split at h1
  ·split at h2
   ·rename_i q1 q2;have:=hinj _ _ b h1 h2;omega
   ·cases h2
  ·cases h1
 have hown:∀i s xs,rs[i]? =some (.own s xs)->∃v,vs[i]? =some v/\AQ w w' (λk=>E k\/∃j,B j=some k) (B i) (.own s xs) v:=λi s xs hr=>by
  have hi:i<vs.length:=by have:=(List.getElem?_eq_some_iff.1 hr).1;omega
  exact⟨vs[i],List.getElem?_eq_getElem hi,h i _ _ hr (List.getElem?_eq_getElem hi)⟩
 have hsub:∀k,Ex X (mG (cO d rs) B' β) (bW H (cO d rs)) k->E k\/∃j,B j=some k:=λk hk=>by
  rcases hk with hk|⟨id,h1,h2⟩
  ·exact .inl (hE k (.inl hk))
  ·cases q:cW (cO d rs) id with
   |some o=>
    simp only[mG,q,Option.isSome_some,if_true]at h2;obtain⟨i,s,xs,_,e,_⟩:=qU rs d id o q;subst e;rw[hB']at h2;exact .inr ⟨i,h2⟩
   |none=>
    rw[eU,q]at h1;simp only[mG,q]at h2;exact .inl (hE k (.inr ⟨id,h1,by simpa using h2⟩))
 obtain⟨m',g'⟩:=m.newMany hb (cO d rs) B' habs' (λid o b hq hbb=>by
  obtain⟨i,s,xs,hr,e,_⟩:=qU rs d id o hq;subst e;rw[hB']at hbb;obtain⟨v,_,_,_,hv⟩:=hown i s xs hr;rcases hv with⟨hn,_⟩|⟨b',c,cur,e,h1,_,h2,h3,_⟩
  ·rw[hn]at hbb;cases hbb
  ·rw[h1]at hbb;injection hbb with hbb;subst hbb
   exact⟨h2,(Array.getElem?_eq_some_iff.1 h3).1⟩) hBinj (λ_ id o hq=>by
  obtain⟨i,s,xs,hr,e,e2⟩:=qU rs d id o hq;subst e;subst e2;obtain⟨v,_,hpos,hall,hv⟩:=hown i s xs hr;unfold dO;rw[eU,hq];simp only[Option.getD_some];refine⟨hpos,hall,?_⟩;rcases hv with⟨hn,he,_⟩|⟨b',c,cur,e,h1,_,h2,h3,h4,h5,h6,h7⟩
  ·exact .inl ⟨by simpa [mG,hq,hB']using hn,he⟩
  ·exact .inr ⟨b',e,cur,by simpa [mG,hq,hB']using h1,h3,Nat.le_trans (Nat.mul_le_mul_right _ h4) (Nat.le_of_eq h6),λk dd u hd hu=>⟨(h7 k dd u hd hu).1,(h7 k dd u hd hu).2.anti hsub⟩⟩)
 refine⟨_,m',g',λi l v hlv hv=>?_⟩;obtain⟨r,hr,rfl⟩:=Dx rs d i l hlv;have hrv:=h i r v hr hv;cases r with
 |d x=>exact .d _ _ (RD.anti hsub hrv)
 |tup x=>exact hrv.elim
 |own s xs=>
  have hq:=uT rs d i s xs hr;obtain⟨hpos,hall,hvv⟩:=hrv;have hHq:bW H (cO d rs) (d+1000*i)=.row false s xs:=by rw[eU,hq];rfl
  rcases hvv with⟨hn,he,b,rfl⟩|⟨b',c,cur,e,h1,rfl,h2,h3,h4,h5,h6,h7⟩
  ·subst he;exact .ow0 _ _ _ false s [] hHq (.inl ⟨by simpa [mG,hq,hB']using hn,rfl⟩)
  ·have hR:=R.ow (w:=w') (E:=Ex X (mG (cO d rs) B' β) (bW H (cO d rs))) (β:=mG (cO d rs) B' β) (H:=bW H (cO d rs))
    (d+1000*i) 0 xs.length b' c false s xs cur e hHq (by simpa [mG,hq,hB']using h1) aE h4 h5 h3 (by rw[Nat.zero_add];exact h6)
   rw[Nat.zero_mul]at hR;exact hR
theorem Mx{lf:LV}{vf:Value}{f:FuncId}{caps:List LV}(h:eF lf=some (f,caps))(hr:R w E β H lf vf):
 ∃fs vs:List Value,vf=.func (.func f) fs.toArray vs.toArray/\fs.length=(cS lf).length/\(∀(i:Nat) (c:LV) (v:Value),(cS lf)[i]? =some c->fs[i]? =some v->R w E β H c v)/\
  vs.length=caps.length/\∀(i:Nat) (c:LV) (v:Value),caps[i]? =some c->vs[i]? =some v->R w E β H c v:=by
 unfold eF at h;split at h
 ·injection h with h;injection h with h1 h2;subst h1;subst h2
  cases hr with
  |d _ _ hr=>cases hr with
   |fn _ cs vs hl hp=>
    refine⟨[],vs,rfl,rfl,by simp[cS],by simpa using hl,λi c v hc hv=>?_⟩;obtain⟨x,hx,rfl⟩:=eG hc;exact .d _ _ (hp i x v hx hv)
 ·injection h with h;injection h with h1 h2;subst h1;subst h2
  cases hr with
  |fn _ cs vs hl hp=>exact⟨[],vs,rfl,rfl,by simp[cS],hl,hp⟩
 ·injection h with h;injection h with h1 h2;subst h1;subst h2
  cases hr with
  |d _ _ hr=>cases hr with
   |bm _ cs vs hl hp=>
    refine⟨vs,[],rfl,by simpa [cS]using hl,λi c v hc hv=>?_,rfl,aM⟩;obtain⟨x,hx,rfl⟩:=eG hc;exact .d _ _ (hp i x v hx hv)
 ·injection h with h;injection h with h1 h2;subst h1;subst h2
  cases hr with
  |bm _ cs vs hl hp=>exact⟨vs,[],rfl,hl,hp,rfl,aM⟩
 ·cases h
theorem Dz(hg:∀x,R w (Ex X β H) β H (g x) (a.eval x)){f:Operand}{args:Array Operand}{ts:Array TypeId}(ho:o.op=.call {callee:=.value f,args:=args,argTypes:=ts}){fid:FuncId}{caps:List LV}(hc:eF (g f)=some (fid,caps))(hcl:pN P fid):
 ∃vals:List Value,(execOp a.eval o).run P w=.ok (.enter fid vals.toArray) w/\vals.length=(cS (g f)++args.toList.map g++caps).length/\
  ∀(i:Nat) (c:LV) (v:Value),(cS (g f)++args.toList.map g++caps)[i]? =some c->vals[i]? =some v->R w (Ex X β H) β H c v:=by
 obtain⟨fn,hfn,hname,hbody⟩:=hcl;obtain⟨fvs,cvs,hcv,hfl,hfp,hcl,hcp⟩:=Mx hc (hg f);have app:∀(xs ys:List LV) (us vs:List Value),us.length=xs.length->(∀(i:Nat) (c:LV) (v:Value),xs[i]? =some c->us[i]? =some v->R w (Ex X β H) β H c v)->(∀(i:Nat) (c:LV) (v:Value),ys[i]? =some c->vs[i]? =some v->R w (Ex X β H) β H c v)->
  ∀(i:Nat) (c:LV) (v:Value),(xs++ys)[i]? =some c->(us++vs)[i]? =some v->R w (Ex X β H) β H c v:=by
  intro xs ys us vs hl h1 h2 i c v hc hv;by_cases hi:i<xs.length
  ·rw[List.getElem?_append_left hi]at hc;rw[List.getElem?_append_left aE]at hv;exact h1 i c v hc hv
  ·rw[List.getElem?_append_right aE]at hc hv;rw[hl]at hv;exact h2 _ c v hc hv
 refine⟨fvs++args.toList.map a.eval++cvs,?_,by simp[hfl,hcl],app _ _ _ _ (by simp[hfl]) (app _ _ _ _ hfl hfp λi c v hc hv=>?_) hcp⟩
 ·have e1:(fvs.toArray++args.map a.eval++cvs.toArray)=(fvs++args.toList.map a.eval++cvs).toArray:=by
   apply Array.ext';simp
  simp only[execOp,ho,resolve,hcv,Deferred.ofValue,Sem.run_bind,Sem.run_pure,Result.andThen_ok,invoke,callFunc,run_program,hfn,hname,Bool.false_eq_true,if_false];have hb:fn.body.isNone=false:=by cases q:fn.body<;>simp_all
  simp only[hb,Bool.false_eq_true,if_false,Sem.run_pure];rw[<-e1]
 ·obtain⟨x,hx,rfl⟩:=eG hc;obtain⟨y,hy,rfl⟩:=eG hv;rw[hx]at hy;injection hy with hy;subst hy
  exact hg x
theorem DA{σ:List (Nat×Nat)}{shut:List Nat}:∀(ls:List LV) (i:Nat) (az:List LV),lQ H σ shut i ls=some az->az.length=ls.length/\
 ∀(j:Nat) (l c:LV),ls[j]? =some l->az[j]? =some c->(∃x,close H 8 l=some x/\c=.d x/\∀id∈bR H 8 l,id∈lR H shut i ls)\/c=ren σ 8 l
 |[],i,az,h=>by simp[lQ]at h;subst h;simp
 |l::r,i,az,h=>by
  simp only[lQ]at h;cases q:lQ H σ shut (i+1) r with
  |none=>rw[q]at h;cases h
  |some r'=>
   rw[q]at h;obtain⟨h1,h2⟩:=DA r (i+1) r' q;simp only at h;have next:∀(j:Nat) (l' c:LV),r[j]? =some l'->r'[j]? =some c->(∃x,close H 8 l'=some x/\c=.d x/\∀id∈bR H 8 l',id∈lR H shut i (l::r))\/c=ren σ 8 l':=λj l' c hl hc=>by
    rcases h2 j l' c hl hc with⟨x,g1,g2,g3⟩|g
    ·exact .inl ⟨x,g1,g2,λid hid=>List.mem_append.2 (.inr (g3 id hid))⟩
    ·exact .inr g
   by_cases hs:shut.contains i=true
   ·rw[if_pos hs,Option.map_eq_some_iff]at h;obtain⟨x,hx,rfl⟩:=h;refine⟨by simp[h1],λj l' c hl hc=>?_⟩;cases j with
    |zero=>
     simp at hl hc;subst hl;subst hc;exact .inl ⟨x,hx,rfl,λid hid=>List.mem_append.2 (.inl (by rw[if_pos hs];exact hid))⟩
    |succ j=>exact next j l' c (by simpa using hl) (by simpa using hc)
   ·rw[if_neg hs]at h;injection h with h;subst h
    refine⟨by simp[h1],λj l' c hl hc=>?_⟩;cases j with
    |zero=>simp at hl hc;subst hl;subst hc;exact .inr rfl
    |succ j=>exact next j l' c (by simpa using hl) (by simpa using hc)
theorem BQ(l l2:List (Nat×bB)):bW H (l++l2)=bW (bW H l2) l:=by
 funext j;induction l with
 |nil=>rfl
 |cons p q ih=>simp only[List.cons_append,bW];rw[ih]
theorem FZ(m:dR w0 X H β w)(hg:∀x,R w (Ex X β H) β H (g x) (a.eval x)){f:Operand}{args:Array Operand}{ts:Array TypeId}{σ new:List (Nat×Nat)}{shut:List Nat}(ho:o.op=.call {callee:=.value f,args:=args,argTypes:=ts}){fid:FuncId}{caps az:List LV}
 (hc:eF (g f)=some (fid,caps))(has:lQ H σ shut 0 (cS (g f)++args.toList.map g++caps)=some az){Rel:List (Nat×bB)->LV->Prop}(hcall:Xm P fid az (σ.map λp=>(p.2,cQ σ (H p.1))) Rel)
 (hn1:((gK σ new).map (·.1)).Nodup)(hn2:((gK σ new).map (·.2)).Nodup)(hnew:∀p∈new,H p.2=.absent)(hids:∀id∈lR H shut 0 (cS (g f)++args.toList.map g++caps),id∉σ.map (·.1)){c:Prop}:
 Tw P w0 X H β w a o (λres=>∃fin ret,Rel fin ret/\res=⟨ren (gK σ new) 8 ret,c,((gK σ new).map λp=>(p.2,cQ (gK σ new) (aL fin p.1)))++bI H (lR H shut 0 (cS (g f)++args.toList.map g++caps))⟩):=by
 obtain⟨vals,hrun,hvl,hvp⟩:=Dz hg ho hc hcall.1;generalize hids0:lR H shut 0 (cS (g f)++args.toList.map g++caps)=ids at*;obtain⟨m1,g1⟩:=m.freeze ids;have hsame:(σ.map λp=>(p.2,cQ σ (H p.1)))=σ.map λp=>(p.2,cQ σ (bW H (bI H ids) p.1)):=List.map_congr_left λp hp=>by
  rw[fF,if_neg λh=>hids p.1 h (List.mem_map.2 ⟨p,hp,rfl⟩)]
 rw[hsame]at hcall;obtain⟨Xc,βc,hXc,mc,hD,hR,hback⟩:=m1.callG σ new hn1 hn2 λp hp=>by
  rw[fF,hnew p hp];simp[frozen]
 obtain⟨hal,hap⟩:=DA _ _ _ has;have hpins:(σ.map λp=>(p.2,cQ σ (bW H (bI H ids) p.1))).map (·.1)=σ.map (·.2):=aM;have hcc:=hcall.2 w Xc βc vals;rw[hpins]at hcc;intro K Q hK;unfold Oper.wp;rw[hrun];simp only[Oper.upon];refine(hcc mc aE λi c v hci hv=>?_).mono ?_
 ·have hi:i<(cS (g f)++args.toList.map g++caps).length:=by have:=(List.getElem?_eq_some_iff.1 hci).1;omega
  have hli:=List.getElem?_eq_getElem hi;rcases hap i _ c hli hci with⟨x,h1,rfl,h3⟩|h1
  ·exact .d _ _ (hD _ _ (gX m (ids:=ids) h1 (λid hid=>by rw[<-hids0];exact h3 id hid) (hvp i _ v hli hv)))
  ·rw[h1];exact hR _ _ (g1.R (hvp i _ v hli hv))
 ·rintro e w' ⟨v,β',fin,ret,hrel,rfl,m',hret⟩;obtain⟨β2,m2,g2,h2⟩:=hback (aL fin) β' w' m';refine hK _ ⟨fin,ret,hrel,rfl⟩ v w' β2 ?_ ?_ ?_<;>simp only[]<;>rw[BQ]
  ·exact m2
  ·exact g1.trans g2
  ·exact h2 _ _ hret
theorem TO(m:dR w0 X H β w)(hg:∀x,R w (Ex X β H) β H (g x) (a.eval x)){f:Operand}{args:Array Operand}{ts:Array TypeId}{gn:Gen}(ho:o.op=.call {callee:=.value f,args:=args,argTypes:=ts}){fid:FuncId}{caps az:List LV}
 (hc:eF (g f)=some (fid,caps))(has:lQ H gn.σ gn.shut 0 (cS (g f)++args.toList.map g++caps)=some az)(hcall:iG P fid az (gn.σ.map λp=>(p.2,cQ gn.σ (H p.1))) gn.fin gn.ret)
 (hn1:((gK gn.σ gn.new).map (·.1)).Nodup)(hn2:((gK gn.σ gn.new).map (·.2)).Nodup)(hnew:∀p∈gn.new,H p.2=.absent)(hids:∀id∈lR H gn.shut 0 (cS (g f)++args.toList.map g++caps),id∉gn.σ.map (·.1)){c:Prop}:
 mD P w0 X H β w a o ⟨ren (gK gn.σ gn.new) 8 gn.ret,c,((gK gn.σ gn.new).map λp=>(p.2,cQ (gK gn.σ gn.new) (aL gn.fin p.1)))++bI H (lR H gn.shut 0 (cS (g f)++args.toList.map g++caps))⟩:=
 (FZ m hg ho hc has hcall.toR hn1 hn2 hnew hids (c:=c)).toS λr' ⟨fin,ret,⟨e1,e2⟩,e⟩=>by subst e1;subst e2;subst e;exact⟨rfl,rfl⟩
theorem Jx(m:dR w0 X H β w)(hg:∀x,R w (Ex X β H) β H (g x) (a.eval x)){f:Operand}{args:Array Operand}{ts:Array TypeId}{dst:Nat}(ho:o.op=.call {callee:=.value f,args:=args,argTypes:=ts})
 {fid:FuncId}{caps:List LV}(hc:eF (g f)=some (fid,caps)){az:List DV}(has:cM ((cS (g f)++args.toList.map g++caps).map (close H 8))=some az){fr:Bool}{Rel:QE->Prop}(hcall:Zq P fid az Rel)
 (hfr:∀r,Rel r->r.fresh=fr)(habs:∀r,Rel r->∀p∈gW dst r.v,H p.1=.absent){c:Prop}:
 Tw P w0 X H β w a o (λres=>∃r,Rel r/\res=⟨Dk dst r.v,c,gW dst r.v++(if fr then []else bI H ((cS (g f)++args.toList.map g++caps).flatMap (bR H 8)))⟩):=by
 obtain⟨vals,hrun,hvl,hvp⟩:=Dz hg ho hc hcall.1;have hcall:=hcall.2
 let lvs:=cS (g f)++args.toList.map g++caps
 obtain⟨hal,hap⟩:=kZ has;have hal':az.length=lvs.length:=hal
 let ids:=lvs.flatMap (bR H 8)
 let H1:=if fr then H else bW H (bI H ids)
 have hH1:dR w0 X H1 β w/\eT X H β w H1 β w:=by
  show dR w0 X (if fr then H else bW H (bI H ids)) β w/\eT X H β w (if fr then H else bW H (bI H ids)) β w;cases fr
  ·exact m.freeze ids
  ·exact⟨m,eT.refl⟩
 obtain⟨m1,g1⟩:=hH1
 let Xc:Nat->Prop:=λk=>fr=false/\Ex X β H1 k
 have hargs:Mm w Xc az vals:=by
  refine⟨aE,λi c v hc hv=>?_⟩;have hi:i<lvs.length:=by have:=(List.getElem?_eq_some_iff.1 hc).1;omega
  have hli:=List.getElem?_eq_getElem hi;have hcl:=hap i _ c hli hc;cases hf:fr with
  |true=>
   refine nV m.obj (λx v h=>h.anti (λk hk=>?_)) 8 _ c v hcl (λid _ b _ he=>?_) (hvp i _ v hli hv)
   ·have:=hk.1;rw[hf]at this;cases this
   ·have:=he.1;rw[hf]at this;cases this
  |false=>
   have hH:H1=bW H (bI H ids):=by show(if fr then H else _)=_;rw[hf];rfl
   refine RD.anti (λk hk=>?_) (gX m (ids:=ids) hcl (λid hid=>List.mem_flatMap.2 ⟨_,List.getElem_mem hi,hid⟩) (hvp i _ v hli hv));have:=hk.2;rw[hH]at this;exact this
 intro K Q hK;unfold Oper.wp;rw[hrun];simp only[Oper.upon];refine(hcall w Xc vals ⟨λk hk=>hk.2.lt m1,m1.glob.anti λk hk=>hk.2⟩ hargs).mono ?_;rintro e w' ⟨v,r,hrel,rfl,hbel,hret⟩;have hfre:=hfr r hrel;have habs:=habs r hrel;rw[hfre]at hret;have hE:∀k,Ex X β H1 k->Xc k\/fr=true/\k<w.heap.size:=λk hk=>by
  cases hf:fr with
  |true=>exact .inr ⟨rfl,hk.lt m1⟩
  |false=>exact .inl ⟨hf,hk⟩
 have habs1:∀p∈gW dst r.v,H1 p.1=.absent:=λp hp=>by
  have:=habs p hp;show(if fr then H else bW H (bI H ids)) p.1=.absent;cases fr
  ·simp only[Bool.false_eq_true,if_false];rw[fF,this];simp[frozen]
  ·exact this
 have hups:bW H (gW dst r.v++(if fr then []else bI H ids))=bW H1 (gW dst r.v):=by
  have key:∀(l:List (Nat×bB)) (l2:List (Nat×bB)),bW H (l++l2)=bW (bW H l2) l:=by
   intro l l2;funext j;induction l with
   |nil=>rfl
   |cons p q ih=>simp only[List.cons_append,bW];rw[ih]
  rw[key];show bW (bW H (if fr then []else bI H ids)) _=bW (if fr then H else bW H (bI H ids)) _;cases fr<;>rfl
 have fin:∀(rs:List RV) (vs:List Value) (B:Nat->Option Nat),gW dst r.v=cO dst rs->(∀i j b,B i=some b->B j=some b->i=j)->vs.length=rs.length->
  (∀(i:Nat) (q:RV) (v:Value),rs[i]? =some q->vs[i]? =some v->AQ w w' (λk=>(Xc k\/fr=true/\k<w.heap.size)\/∃j,B j=some k) (B i) q v)->
  ((∀H' β',(∀(i:Nat) (l:LV) (v:Value),(pM dst rs)[i]? =some l->vs[i]? =some v->R w' (Ex X β' H') β' H' l v)->R w' (Ex X β' H') β' H' (Dk dst r.v) v))->K (a.put o.dst v) w':=by
  intro rs vs B e1 e2 e3 e4 e5;obtain⟨β',m2,g2,hR⟩:=HJ m1 hbel dst rs vs B e2 hE (by rw[<-e1];exact habs1) e4 e3;refine hK _ ⟨r,hrel,rfl⟩ v w' β' ?_ ?_ ?_<;>simp only[]<;>rw[hups,e1]
  ·exact m2
  ·exact g1.trans g2
  ·exact e5 _ _ hR
 unfold Jn at hret;split at hret
 ·rename_i rs hrs;obtain⟨vs,B,rfl,h1,h2,h3⟩:=hret;exact fin rs vs B (by rw[hrs];rfl) h2 h1 h3 (λH' β' hp=>by
   rw[hrs];exact .tup _ vs (by rw[Dy];exact h1) hp)
 ·rename_i hnt;obtain⟨B,hB⟩:=hret;refine fin [r.v] [v] (λi=>if i=0 then B else none) ?_ ?_ rfl ?_ ?_
  ·cases q:r.v<;>simp[gW,cO];exact absurd q (hnt _)
  ·intro i j b h1 h2;split at h1
   ·split at h2
    ·omega
    ·cases h2
   ·cases h1
  ·intro i q v' hq hv';cases i with
   |zero=>
    simp at hq hv';subst hq;subst hv';have hsame:∀k,(∃j:Nat,(if j=0 then B else none)=some k)↔B=some k:=by
     intro k;constructor
     ·rintro⟨j,hj⟩;split at hj
      ·exact hj
      ·cases hj
     ·intro h;exact⟨0,by simpa using h⟩
    simp only[hsame,if_true];exact hB
   |succ i=>simp at hq
  ·intro H' β' hp;have:=hp 0 (Jm dst r.v) v rfl rfl;cases q:r.v<;>rw[q]at this<;>first|exact this|exact absurd q (hnt _)
theorem Xu(m:dR w0 X H β w)(hg:∀x,R w (Ex X β H) β H (g x) (a.eval x)){f:Operand}{args:Array Operand}{ts:Array TypeId}{r:Option kS}{dst:Nat}(ho:o.op=.call {callee:=.value f,args:=args,argTypes:=ts})(hself:wQ r r)
 (hok:∀r',wQ r r'->(cT P H r' dst (g f) (cS (g f)++args.toList.map g)).ok):Tw P w0 X H β w a o (λres=>∃r',wQ r r'/\res=cT P H r' dst (g f) (cS (g f)++args.toList.map g)):=by
 have hok0:=hok r hself;cases hcal:eF (g f)with
 |none=>unfold cT at hok0;rw[hcal]at hok0;cases r<;>exact hok0.elim
 |some p=>
  obtain⟨fid,caps⟩:=p;cases r with
  |none=>unfold cT at hok0;rw[hcal]at hok0;exact hok0.elim
  |some q=>
   cases q with
   |plain r=>
    have he:∀az,cM ((cS (g f)++args.toList.map g++caps).map (close H 8))=some az->cT P H (some (.plain r)) dst (g f) (cS (g f)++args.toList.map g)=⟨Dk dst r.v,Ok P fid az r/\(∀p∈gW dst r.v,H p.1=.absent),gW dst r.v++(if r.fresh then []else bI H ((cS (g f)++args.toList.map g++caps).flatMap (bR H 8)))⟩:=λaz has=>by
     unfold cT;rw[hcal];simp only[has]
    cases has:cM ((cS (g f)++args.toList.map g++caps).map (close H 8))with
    |none=>unfold cT at hok0;rw[hcal]at hok0;simp only[has]at hok0;exact hok0.elim
    |some az=>
     rw[he az has]at hok0;refine(Jx m hg ho hcal has hok0.1.toR (fr:=r.fresh) (λr' h=>by rw[h]) (λr' h=>by rw[h];exact hok0.2) (c:=True)).mono ?_;rintro res ⟨r',rfl,rfl⟩;exact⟨_,⟨_,rfl,rfl⟩,by rw[he az has],by rw[he az has]⟩
   |gen gn=>
    have he:∀az,lQ H gn.σ gn.shut 0 (cS (g f)++args.toList.map g++caps)=some az->(cT P H (some (.gen gn)) dst (g f) (cS (g f)++args.toList.map g)).v=ren (gK gn.σ gn.new) 8 gn.ret/\(cT P H (some (.gen gn)) dst (g f) (cS (g f)++args.toList.map g)).up=((gK gn.σ gn.new).map λp=>(p.2,cQ (gK gn.σ gn.new) (aL gn.fin p.1)))++bI H (lR H gn.shut 0 (cS (g f)++args.toList.map g++caps)):=λaz has=>by
     unfold cT;rw[hcal];simp only[has];exact⟨trivial,trivial⟩
    cases has:lQ H gn.σ gn.shut 0 (cS (g f)++args.toList.map g++caps)with
    |none=>unfold cT at hok0;rw[hcal]at hok0;simp only[has]at hok0;exact hok0.elim
    |some az=>
     unfold cT at hok0;rw[hcal]at hok0;simp only[has]at hok0;obtain⟨h1,h2,h3,h4,h5,h6⟩:=hok0;refine((TO m hg ho hcal has h1 h3 h4 (λp hp=>(h5 p hp).1) h6 (c:=True)).toE (rs:=λres=>res=_) rfl).mono ?_;rintro res rfl;exact⟨_,⟨_,rfl,rfl⟩,(he az has).1,(he az has).2⟩
   |rel Rel fr r=>
    have he:∀az r,cM ((cS (g f)++args.toList.map g++caps).map (close H 8))=some az->cT P H (some (.rel Rel fr r)) dst (g f) (cS (g f)++args.toList.map g)=⟨Dk dst r.v,Zq P fid az Rel/\(∀q,Rel q->q.fresh=fr)/\(∀p∈gW dst r.v,H p.1=.absent),gW dst r.v++(if fr then []else bI H ((cS (g f)++args.toList.map g++caps).flatMap (bR H 8)))⟩:=λaz r has=>by
     unfold cT;rw[hcal];simp only[has]
    cases has:cM ((cS (g f)++args.toList.map g++caps).map (close H 8))with
    |none=>unfold cT at hok0;rw[hcal]at hok0;simp only[has]at hok0;exact hok0.elim
    |some az=>
     rw[he az r has]at hok0;refine(Jx (dst:=dst) m hg ho hcal has hok0.1 (fr:=fr) hok0.2.1 (λr' h=>?_) (c:=True)).mono ?_
     ·have:=hok (some (.rel Rel fr r')) ⟨r',h,hok0.2.1 r' h,rfl⟩;rw[he az r' has]at this;exact this.2.2
     ·rintro res ⟨r',h,rfl⟩;exact⟨_,⟨_,⟨r',h,hok0.2.1 r' h,rfl⟩,rfl⟩,by rw[he az r' has],by rw[he az r' has]⟩
   |genR gn Rel=>
    have he:∀az fin ret,lQ H gn.σ gn.shut 0 (cS (g f)++args.toList.map g++caps)=some az->(cT P H (some (.genR {gn with fin:=fin,ret:=ret} Rel)) dst (g f) (cS (g f)++args.toList.map g)).v=ren (gK gn.σ gn.new) 8 ret/\
     (cT P H (some (.genR {gn with fin:=fin,ret:=ret} Rel)) dst (g f) (cS (g f)++args.toList.map g)).up=((gK gn.σ gn.new).map λp=>(p.2,cQ (gK gn.σ gn.new) (aL fin p.1)))++bI H (lR H gn.shut 0 (cS (g f)++args.toList.map g++caps)):=λaz fin ret has=>by
     unfold cT;rw[hcal];simp only[has];exact⟨trivial,trivial⟩
    cases has:lQ H gn.σ gn.shut 0 (cS (g f)++args.toList.map g++caps)with
    |none=>unfold cT at hok0;rw[hcal]at hok0;simp only[has]at hok0;exact hok0.elim
    |some az=>
     unfold cT at hok0;rw[hcal]at hok0;simp only[has]at hok0;obtain⟨h1,h2,h3,h4,h5,h6⟩:=hok0;refine(FZ m hg ho hcal has h1 h3 h4 (λp hp=>(h5 p hp).1) h6 (c:=True)).mono ?_;rintro res ⟨fin,ret,h,rfl⟩;exact⟨_,⟨_,⟨fin,ret,h,rfl⟩,rfl⟩,(he az fin ret has).1,(he az fin ret has).2⟩
   |_=>unfold cT at hok0;rw[hcal]at hok0;exact hok0.elim
end
end
section
open Go.RowKit
theorem gD.empty:gD #[] 0:=⟨λi e h=>by simp at h,λi j e e' h=>by simp at h⟩
theorem gD.push{arr:Array MapEntry}{clock:Nat}(h:gD arr clock)(k v:Value):gD (arr.push {key:=k,val:=v,born:=clock}) (clock+1):=by
 have key:∀(i:Nat) (e:MapEntry),(arr.push {key:=k,val:=v,born:=clock})[i]? =some e->(i=arr.size/\e.born=clock)\/(arr[i]? =some e/\i<arr.size):=λi e hi=>by
  rw[Array.getElem?_push]at hi;split at hi
  ·injection hi with hi;subst hi;exact .inl ⟨by assumption,rfl⟩
  ·exact .inr ⟨hi,(Array.getElem?_eq_some_iff.1 hi).1⟩
 refine⟨λi e hi=>?_,λi j e e' hi hj he=>?_⟩
 ·rcases key i e hi with⟨_,h1⟩|⟨h1,_⟩
  ·omega
  ·have:=h.1 i e h1;omega
 ·rcases key i e hi with⟨p1,p2⟩|⟨p1,p2⟩<;>rcases key j e' hj with⟨q1,q2⟩|⟨q1,q2⟩
  ·omega
  ·have:=h.1 j e' q1;omega
  ·have:=h.1 i e p1;omega
  ·exact h.2 i j e e' p1 q1 he
theorem gD.modify{arr:Array MapEntry}{clock:Nat}(h:gD arr clock)(i:Nat)(k v:Value):gD (arr.modify i λe=>{e with key:=k,val:=v}) clock:=by
 have key:∀(j:Nat) (e:MapEntry),(arr.modify i λe=>{e with key:=k,val:=v})[j]? =some e->∃e0,arr[j]? =some e0/\e.born=e0.born:=λj e hj=>by
  rw[Array.getElem?_modify]at hj;split at hj
  ·rw[Option.map_eq_some_iff]at hj;obtain⟨e0,h1,rfl⟩:=hj;exact⟨e0,h1,rfl⟩
  ·exact⟨e,hj,rfl⟩
 refine⟨λj e hj=>?_,λj l e e' hj hl he=>?_⟩
 ·obtain⟨e0,h1,h2⟩:=key j e hj;rw[h2];exact h.1 j e0 h1
 ·obtain⟨e0,h1,h2⟩:=key j e hj;obtain⟨f0,g1,g2⟩:=key l e' hl;exact h.2 j l e0 f0 h1 g1 aE
theorem QJ{arr:Array MapEntry}{i j:Nat}:(arr.eraseIdxIfInBounds i)[j]? =if j<i then arr[j]? else arr[j+1]? :=by
 rw[<-Array.getElem?_toList,Array.toList_eraseIdxIfInBounds,List.getElem?_eraseIdx];split<;>simp
theorem gD.erase{arr:Array MapEntry}{clock:Nat}(h:gD arr clock)(i:Nat):gD (arr.eraseIdxIfInBounds i) clock:=by
 have key:∀(j:Nat) (e:MapEntry),(arr.eraseIdxIfInBounds i)[j]? =some e->arr[if j<i then j else j+1]? =some e:=λj e hj=>by
  rw[QJ]at hj;split at hj
  ·rename_i h;rw[if_pos h];exact hj
  ·rename_i h;rw[if_neg h];exact hj
 refine⟨λj e hj=>h.1 _ e (key j e hj),λj l e e' hj hl he=>?_⟩;have:=h.2 _ _ e e' (key j e hj) (key l e' hl) he;split at this<;>split at this<;>omega
theorem Jy{a b:DV}(h:Jk a b=some true):a=b:=by
 unfold Jk at h;split at h
 ·split at h
  ·rename_i e;subst e;simp at h;rw[h]
  ·cases h
 ·simp at h;rw[h]
 ·simp at h;rw[h]
 ·cases h
theorem Ga:∀{a b:List DV},iM a b=some true->a=b
 |[],[],_=>rfl
 |[],_::_,h=>by simp[iM]at h
 |_::_,[],h=>by simp[iM]at h
 |a::x,b::y,h=>by
  simp only[iM]at h;split at h
  ·rename_i p q h1 h2;simp only[Option.some.injEq,Bool.and_eq_true]at h;rw[h.1]at h1;rw[h.2]at h2;rw[Jy h1,Ga h2]
  ·cases h
theorem My{a b:DV}(h:kI a b=some true):a=b:=by
 unfold kI at h;split at h
 ·rw[Ga h]
 ·exact Jy h
theorem uU:∀{k:DV} {ks:List DV} {i j:Nat},iF k ks i=some (some j)->i<=j/\ks[j-i]? =some k
 |k,[],i,j,h=>by simp[iF]at h
 |k,x::r,i,j,h=>by
  simp only[iF]at h;split at h
  ·rename_i e;injection h with h;injection h with h;subst h
   exact⟨Nat.le_refl _,by simp[My e]⟩
  ·obtain⟨h1,h2⟩:=uU h;refine⟨aE,?_⟩;rw[show j-i=(j-(i+1))+1 by omega];simpa using h2
  ·cases h
section
variable{P:Program} {T:TypeId->fE} {w0:cX} {X:Nat->Prop} {H:Nat->bB} {β:Nat->Option Nat} {w:World} {a:Act} {o:Oper} {g:Operand->LV} {E:Nat->Prop}
structure DB(P:Program)(kt:TypeId)(k:DV):Prop where
 check:∀(w:World) (E:Nat->Prop) (em:Bool) (v:Value),RD w E k v->(Instr.checkKey em 10000 kt v).run P w=.ok () w
 find:∀(w:World) (E:Nat->Prop) (v:Value),RD w E k v->∀(ks:List DV) (es:List MapEntry) (i:Nat) (r:Option Nat),ks.length=es.length->(∀(j:Nat) (d:DV) (e:MapEntry),ks[j]? =some d->es[j]? =some e->RD w E d e.key)->
  iF k ks i=some r->(∃d,P.underlying kt=some d/\(Instr.findNow d v es i=some (r.map λj=>(j,(es.getD (j-i) default).val))\/(Instr.findNow d v es i=none/\(Instr.findAsking kt v es i).run P w=.ok (r.map λj=>(j,(es.getD (j-i) default).val)) w)))
 same:∀(w:World) (E:Nat->Prop) (v v':Value),RD w E k v->RD w E k v'->Instr.sameBits 10000 v' v=true
theorem DC(x:ByteArray):(x==x)=true:=by
 show(x.data==x.data)=true;simp
def HK(d:TypeDesc):Prop:=(∃q,d=.int q)\/d=.bool\/d=.string
theorem uV{kt:TypeId}{d:TypeDesc}(hd:P.underlying kt=some d)(hp:HK d)(em:Bool)(n:Nat)(v:Value):(Instr.checkKey em (n+1) kt v).run P w=.ok () w:=by
 unfold Instr.checkKey;rcases hp with⟨q,rfl⟩|rfl|rfl<;>simp[run_underlying hd]
def Mz(v:Value):Prop:=(∃k n,v=.int k n)\/(∃b,v=.bool b)\/∃s,v=.string s
theorem uW{v:Value}(h:Mz v)(n:Nat):Instr.sameBits n v v=true:=by
 rcases h with⟨k,m,rfl⟩|⟨b,rfl⟩|⟨s,rfl⟩
 ·cases n<;>simp[Instr.sameBits]
 ·cases n<;>simp[Instr.sameBits]
 ·cases n<;>simp[Instr.sameBits,DC]
theorem yC{t:TK}{c:DV}(h:gJ t c=true):∃v,Mz v/\∀w E u,RD w E c u->u=v:=by
 cases t<;>cases c<;>simp only[gJ]at h<;>try(cases h;done)
 ·rename_i k n;exact⟨.int k n,.inl ⟨_,_,rfl⟩,λw E u hu=>by cases hu;rfl⟩
 ·rename_i b;exact⟨.bool b,.inr (.inl ⟨_,rfl⟩),λw E u hu=>by cases hu;rfl⟩
 ·rename_i b;exact⟨.string ⟨b.toArray⟩,.inr (.inr ⟨_,rfl⟩),λw E u hu=>by cases hu;rfl⟩
theorem QK(a b:List UInt8):((⟨a.toArray⟩:ByteArray)==⟨b.toArray⟩)=(a==b):=by
 show(a.toArray==b.toArray)=(a==b);simp
theorem BR{t:TK}{d:TypeDesc}(hd:sY d t){k x:DV}(hk:gJ t k=true){c:Bool}(hq:kI k x=some c){v v':Value}(hv:RD w E k v)(hx:RD w E x v'):Instr.sameNow d v v'=some c:=by
 cases t<;>cases k<;>simp only[gJ]at hk<;>try(cases hk;done)
 ·rename_i kk j n;cases x<;>simp only[kI,Jk]at hq<;>try(cases hq;done)
  cases hv;cases hx;cases d<;>simp only[sY]at hd;split at hq
  ·rename_i e;subst e;simp only[Instr.sameNow,if_true];rw[<-hq];rfl
  ·cases hq
 ·cases x<;>simp only[kI,Jk]at hq<;>try(cases hq;done)
  cases hv;cases hx;cases d<;>simp only[sY]at hd;simpa only[Instr.sameNow]using hq
 ·cases x<;>simp only[kI,Jk]at hq<;>try(cases hq;done)
  cases hv;cases hx;cases d<;>simp only[sY]at hd;simp only[Instr.sameNow,QK];exact hq
theorem QL{kt:TypeId}{k:DV}{d:TypeDesc}{t:TK}(hd:P.underlying kt=some d)(htk:sY d t)(hk:gJ t k=true):DB P kt k:=by
 have hp:HK d:=by
  cases t<;>cases k<;>simp only[gJ]at hk<;>try(cases hk;done)
  all_goals cases d<;>simp only[sY]at htk<;>first|exact .inl ⟨_,rfl⟩|exact .inr (.inl rfl)|exact .inr (.inr rfl)
 obtain⟨pv,hpv,huniq⟩:=yC hk;refine⟨λw E em v hv=>uV hd hp em 9999 v,λw E v hv ks es i r hl hp hr=>⟨d,hd,.inl ?_⟩,λw E v v' hv hv'=>by rw[huniq _ _ _ hv,huniq _ _ _ hv'];exact uW hpv 10000⟩;induction ks generalizing es i r with
 |nil=>
  have:es=[]:=List.eq_nil_of_length_eq_zero (by simpa using hl.symm);subst this;simp only[iF,Option.some.injEq]at hr;subst hr;rfl
 |cons x ks ih=>
  cases es with
  |nil=>simp at hl
  |cons e es=>
   have hx:=hp 0 x e rfl rfl;have hp':∀(j:Nat) (d:DV) (e:MapEntry),ks[j]? =some d->es[j]? =some e->RD w E d e.key:=λj d e hj he=>hp (j+1) d e (by simpa using hj) (by simpa using he);simp only[iF]at hr;simp only[Instr.findNow];split at hr
   ·rename_i q;injection hr with hr;subst hr
    rw[BR htk hk q hv hx];simp
   ·rename_i q;rw[BR htk hk q hv hx];simp only;rw[ih es (i+1) r (by simpa using hl) hp' hr];cases r with
    |none=>rfl
    |some j=>
     have:=(uU hr).1;simp only[Option.map_some];rw[show j-i=(j-(i+1))+1 by omega];simp
   ·cases hr
theorem FD{kt:TypeId}{cs:List DV}{tks:List TK}(hne:cs≠[])(hks:bZ tks cs=true)(g2:P.stoodInHeld kt=false){fs:Array Field}(g3:P.underlying kt=some (.struct fs))(g4:fs.toList.length=tks.length)
 (g5:∀(j:Nat) (f:Field) (k:TK),fs.toList[j]? =some f->tks[j]? =some k->f.name≠ "_" /\f.offset=j/\mF P f.type k):DB P kt (.agg cs):=by
 have hfo:P.fieldsOf kt=fs:=by simp[Program.fieldsOf,g3]
 have hlen:∀(tks:List TK) (cs:List DV),bZ tks cs=true->tks.length=cs.length:=by
  intro tks;induction tks with
  |nil=>intro cs h;cases cs<;>simp_all[bZ]
  |cons t r ih=>intro cs h;cases cs with
   |nil=>simp[bZ]at h
   |cons c cs=>simp only[bZ,Bool.and_eq_true]at h;simp[ih cs h.2]
 have hkind:∀(tks:List TK) (cs:List DV),bZ tks cs=true->∀(i:Nat) (t:TK) (c:DV),tks[i]? =some t->cs[i]? =some c->gJ t c=true:=by
  intro tks;induction tks with
  |nil=>intro cs h i t c ht;simp at ht
  |cons t r ih=>intro cs h i t' c ht hc;cases cs with
   |nil=>simp at hc
   |cons c0 cs=>
    simp only[bZ,Bool.and_eq_true]at h;cases i with
    |zero=>simp at ht hc;subst ht;subst hc;exact h.1
    |succ i=>exact ih cs h.2 i t' c (by simpa using ht) (by simpa using hc)
 have heq:∀(w:World) (E:Nat->Prop) (v v':Value) (x:DV) (c:Bool),RD w E (.agg cs) v->RD w E x v'->kI (.agg cs) x=some c->(Op.equal kt v v').run P w=.ok c w:=by
  intro w E v v' x c hv hx hq;cases x with
  |agg ys=>
   simp only[kI]at hq;cases hv with
   |agg _ us hul _ hup=>cases hx with
    |agg _ vs hvl _ hvp=>
     have hrun:=run_equalIn_struct (P:=P) w 9999 kt us.toArray vs.toArray (by rw[hfo];exact g3) g2;rw[hfo,zO 9998 cs ys tks us vs us.toArray vs.toArray fs.toList 0 c E hq hks hul hvl g4 hup hvp (λi v h=>by simpa using h) (λi v h=>by simpa using h) (λi f k h1 h2=>by simpa using g5 i f k h1 h2)]at hrun;exact hrun
  |_=>simp[kI,Jk]at hq
 have hagg:∀(w:World) (E:Nat->Prop) (v:Value),RD w E (.agg cs) v->∃vs:List Value,v=.agg vs.toArray/\vs.length=cs.length/\∀(i:Nat) (c:DV) (v:Value),cs[i]? =some c->vs[i]? =some v->RD w E c v:=λw E v hv=>by
  cases hv with|agg _ us hul _ hup=>exact⟨us,rfl,hul,hup⟩
 refine⟨λw E em v hv=>?_,λw E v hv ks es i r hl hp hr=>⟨_,g3,?_⟩,λw E v v' hv hv'=>?_⟩
 ·obtain⟨vs,rfl,hvl,hvp⟩:=hagg w E v hv;have each:∀f∈fs.toList,f.name≠ "_" /\∃u,(part f.type vs.toArray f.offset).run P w=.ok u w/\(Instr.checkKey em 9999 f.type u).run P w=.ok () w:=by
   intro f hf;obtain⟨j,hj,rfl⟩:=List.getElem_of_mem hf;have hjl:j<tks.length:=aE;have hjc:j<cs.length:=by rw[<-hlen tks cs hks];exact hjl
   obtain⟨n1,n2,n3⟩:=g5 j _ _ (List.getElem?_eq_getElem hj) (List.getElem?_eq_getElem hjl);clear hf;generalize fs.toList[j]=fl at n1 n2 n3|-;refine⟨n1,vs[j]'aE,?_,?_⟩
   ·obtain⟨d,d1,d2⟩:∃d,P.underlying fl.type=some d/\(match d with| .struct _| .array _ _=>true|_=>false)=false:=by
     cases q:tks[j]<;>rw[q]at n3<;>simp only[mF]at n3<;>first|(cases n3;done)|exact⟨_,n3,rfl⟩
    unfold part;have:(isAgg fl.type).run P w=.ok false w:=by
     rw[<-d2];cases d<;>simp[isAgg,run_underlying d1]
    rw[Sem.run_bind,this];simp[n2,show j<vs.length by omega]
   ·have:∃d,P.underlying fl.type=some d/\HK d:=by
     cases q:tks[j]<;>rw[q]at n3<;>simp only[mF]at n3<;>first|(cases n3;done)|exact⟨_,n3,.inl ⟨_,rfl⟩⟩|exact⟨_,n3,.inr (.inl rfl)⟩|exact⟨_,n3,.inr (.inr rfl)⟩
    obtain⟨d,d1,d2⟩:=this;exact uV d1 d2 em 9998 _
  rw[show(10000:Nat)=9999+1 from rfl,Instr.checkKey];simp only[Sem.run_bind,run_underlying g3,Result.andThen_ok];rw[<-Array.forIn_toList];clear g3 g4 g5 hfo heq;generalize fs.toList=L at each;induction L with
  |nil=>simp
  |cons f L ih=>
   obtain⟨hn,u,p1,p2⟩:=each f aM;simp only[List.forIn_cons,Sem.run_bind,hn,ne_eq,not_false_eq_true,if_true,Result.andThen_ok,p1,p2,Sem.run_pure];exact ih (λy hy=>each y (by simp[hy]))
 ·have hvs:=hagg w E v hv;cases es with
  |nil=>
   cases ks with
   |nil=>simp only[iF,Option.some.injEq]at hr;subst hr;exact .inl rfl
   |cons=>simp at hl
  |cons e0 es0=>
   right;refine⟨?_,?_⟩
   ·obtain⟨vs,rfl,_⟩:=hvs;simp[Instr.findNow,Instr.sameNow]
   ·clear hvs;generalize e0::es0=es at*;induction ks generalizing es i r with
    |nil=>
     have:es=[]:=List.eq_nil_of_length_eq_zero (by simpa using hl.symm);subst this;simp only[iF,Option.some.injEq]at hr;subst hr;simp[Instr.findAsking]
    |cons x ks ih=>
     cases es with
     |nil=>simp at hl
     |cons e es=>
      have hx:=hp 0 x e rfl rfl;have hp':∀(j:Nat) (d:DV) (e:MapEntry),ks[j]? =some d->es[j]? =some e->RD w E d e.key:=λj d e hj he=>hp (j+1) d e (by simpa using hj) (by simpa using he);simp only[iF]at hr;simp only[Instr.findAsking,Sem.run_bind];split at hr
      ·rename_i q;injection hr with hr;subst hr
       rw[heq w E v e.key x true hv hx q];simp
      ·rename_i q;rw[heq w E v e.key x false hv hx q];simp only[Result.andThen_ok,Bool.false_eq_true,if_false];rw[ih (i+1) r hr es (by simpa using hl) hp'];cases r with
       |none=>rfl
       |some j=>
        have:=(uU hr).1;simp only[Option.map_some];rw[show j-i=(j-(i+1))+1 by omega];simp
      ·cases hr
 ·obtain⟨vs,rfl,hvl,hvp⟩:=hagg w E v hv;obtain⟨us,rfl,hul,hup⟩:=hagg w E v' hv';have each:∀(i:Nat) (hi:i<cs.length),us[i]'aE=vs[i]'aE/\Mz (vs[i]'aE):=λi hi=>by
   have hit:i<tks.length:=(by rw[hlen tks cs hks];exact hi);obtain⟨pv,h1,h2⟩:=yC (hkind tks cs hks i _ _ (List.getElem?_eq_getElem hit) (List.getElem?_eq_getElem hi));rw[h2 _ _ _ (hvp i _ _ (List.getElem?_eq_getElem hi) (List.getElem?_eq_getElem aE)),h2 _ _ _ (hup i _ _ (List.getElem?_eq_getElem hi) (List.getElem?_eq_getElem aE))];exact⟨rfl,h1⟩
  have hsame:us=vs:=List.ext_getElem aE λi h1 h2=>(each i aE).1;subst hsame;simp only[Instr.sameBits,List.size_toArray,beq_self_eq_true,Bool.true_and,List.all_eq_true];rintro⟨x,y⟩ hxy;obtain⟨i,hi,hxy⟩:=List.getElem_of_mem hxy;simp at hi hxy;obtain⟨rfl,rfl⟩:=hxy;exact uW (each i aE).2 9999
theorem HL(hT:fP P T)(hE:∀t,(T t).eqk≠[]->(T t).k.isNone=false){kt:TypeId}{k:DV}(h:rO (T kt) k=true):DB P kt k:=by
 unfold rO at h;split at h
 ·rename_i cs;simp only[Bool.and_eq_true,Bool.not_eq_true',List.isEmpty_eq_false_iff]at h;have hek:(T kt).eqk≠[]:=λe=>by rw[e]at h;cases cs<;>simp_all[bZ]
  obtain⟨g1,gs|ga⟩:=(hT kt (hE kt hek)).eqk hek
  ·obtain⟨g2,fs,g3,g4,g5⟩:=gs;exact FD h.1.2 h.1.1 g2 g3 g4 g5
  ·exfalso;obtain⟨n,e,inf,kse,hu,_⟩:=ga;have h2:=h.2;cases q:(T kt).k with
   |struct fs=>obtain⟨fa,hf,_⟩:=hT.struct q;rw[hu]at hf;cases hf
   |_=>rw[q]at h2;cases h2
 ·have hn:(T kt).k.isNone=false:=by cases q:(T kt).k<;>rw[q]at h<;>simp_all[gJ,TK.isNone]
  obtain⟨inf,d,z,h1,h2,h3,_⟩:=hT.parts hn;exact QL h2 h3 h
theorem DB.findKey{kt:TypeId}{k:DV}(h:DB P kt k){v:Value}(hv:RD w E k v){ks:List DV}{es:List MapEntry}{r:Option Nat}(hl:ks.length=es.length)(hp:∀(j:Nat) (d:DV) (e:MapEntry),ks[j]? =some d->es[j]? =some e->RD w E d e.key)
 (hr:iF k ks 0=some r):(Instr.findKey kt v es).run P w=.ok (r.map λj=>(j,(es.getD j default).val)) w:=by
 obtain⟨d,hd,h|⟨h,h2⟩⟩:=h.find w E v hv ks es 0 r hl hp hr
 ·simp[Instr.findKey,run_underlying hd,h]
 ·simp[Instr.findKey,run_underlying hd,h,h2]
theorem MA(m:dR w0 X H β w){x:LV}{v:Value}(hx:R w (Ex X β H) β H x v){ks vs:List DV}(hm:rP H x=some (ks,vs)):
 ∃b clock arr,v=.map (some b)/\w.heap[b]? =some (.map arr clock)/\ks.length=arr.size/\vs.length=arr.size/\gD arr clock/\
  (∀(i:Nat) (d:DV) (e:MapEntry),ks[i]? =some d->arr[i]? =some e->RD w (Ex X β H) d e.key)/\∀(i:Nat) (d:DV) (e:MapEntry),vs[i]? =some d->arr[i]? =some e->RD w (Ex X β H) d e.val:=by
 unfold rP at hm;split at hm
 ·rename_i ks' vs';injection hm with hm;injection hm with h1 h2;subst h1;subst h2
  cases hx with
  |d _ _ hx=>cases hx with
   |mp _ _ b clock arr _ _ hblk hk hl hborn h1 h2=>exact⟨b,clock,arr,rfl,hblk,hk,hl,hborn,h1,h2⟩
 ·rename_i id;cases hH:H id with
  |map fz ks' vs'=>
   rw[hH]at hm;injection hm with hm;injection hm with h1 h2;subst h1;subst h2
   have ho:=m.obj id;simp only[dO,hH]at ho;obtain⟨b,arr,clock,hb,hblk,hk,hl,hborn,h1,h2⟩:=ho;cases hx with
   |mp _ b' _ _ _ _ hb'=>
    rw[hb]at hb';injection hb' with hb';subst hb'
    exact⟨b,clock,arr,rfl,hblk,hk,hl,hborn,h1,h2⟩
   |mpdead _ _ hd=>rw[hH]at hd;cases hd
  |_=>rw[hH]at hm;cases hm
 ·cases hm
theorem pR{b clock:Nat}{arr:Array MapEntry}(hb:w.heap[b]? =some (.map arr clock)):(getObj b).run P w=.ok (.map arr clock) w:=by simp[getObj,Sem.run,hb]
theorem DD(u:Value)(h:u.oneCell'=true):RD w E (uM u) u:=by
 unfold uM;split
 ·exact .bool _
 ·exact .int _ _
 ·rename_i s;have:=RD.str (w:=w) (E:=E) s.data.toList;rw[rW]at this;exact this
 ·exact .sl0 none 0 (by unfold maxLen;omega)
 ·exact .val _ h
theorem Xv(hT:fP P T){t:TypeId}(h:(T t).k.isNone=false):∃z,(zeroValue t).run P w=.ok z w/\RD w E (iV (T t)) z:=by
 obtain⟨inf,h1,h2,h3⟩:=(hT t h).zv;have one:=(hT t h).one;refine⟨_,by simp[zeroValue,typeInfo,h1,h2];rfl,?_⟩;unfold iV;cases q:(T t).k.agg with
 |true=>
  simp only[if_true];refine .agg _ _ aM one λi c v hc hv=>?_;rw[List.getElem?_map,hv]at hc;simp at hc;subst hc;exact DD v (one v (List.mem_of_getElem? hv))
 |false=>
  have hl:=h3 q
  match hz:(T t).zero,hl with
  |[u],_=>
   simp only[Bool.false_eq_true,if_false,List.map_cons,List.map_nil,List.getD_cons_zero];exact DD u (one u (by rw[hz];simp))
theorem MB(m:dR w0 X H β w){t:TypeId}(ho:o.op=.makeMap t none)(hok:(lH H (o.dst.getD 0)).ok):mD P w0 X H β w a o (lH H (o.dst.getD 0)):=by
 simp only[lH]at hok|-;obtain⟨m2,g2⟩:=m.newObj (w':=w.alloc (.map #[] 0)) ((zN.refl _ _).alloc (Nat.le_refl _) _) hok (o:=.map false [] []) (some w.heap.size) (λb hb=>by injection hb with hb;subst hb;simp) λ_ _=>by
  unfold dO;rw[aX];exact⟨w.heap.size,#[],0,by rw[aX],heap_alloc_new w _,rfl,rfl,gD.empty,aM,aM⟩
 refine dE (v:=.map (some w.heap.size)) (w':=w.alloc (.map #[] 0)) (β':=cE β (o.dst.getD 0) (some w.heap.size)) ?_ (by simp only[cD];exact m2) (by simp only[cD];exact g2) ?_
 ·simp[execOp,ho,Instr.makeMap]
 ·simp only[cD];exact .mp _ w.heap.size false [] [] (by rw[aX]) (by rw[aX])
theorem QM(hT:fP P T)(hE:∀t,(T t).eqk≠[]->(T t).k.isNone=false)(m:dR w0 X H β w)(hg:∀x,R w (Ex X β H) β H (g x) (a.eval x)){t:TypeId}{x i:Operand}{ck:Bool}(ho:o.op=.lookup t x i ck)
 (hok:(cR T H t (g x) (g i) ck).ok):mD P w0 X H β w a o (cR T H t (g x) (g i) ck):=by
 unfold cR at*;split at hok
 ·rename_i kt et ks vs k hk hm hgi;obtain⟨b,clock,arr,hv,hblk,hkl,hvl,_,hkey,hval⟩:=MA m (hg x) hm;have hi:=hg i;rw[hgi]at hi;have hi:RD w (Ex X β H) k (a.eval i):=by cases hi with|d _ _ h=>exact h
  have hu:=hT.mapd hk;have fin:∀(r:Option Nat) (z:Value),DB P kt k->iF k ks 0=some r->(r=none->(zeroValue et).run P w=.ok z w)->
   (execOp a.eval o).run P w=.ok (.value (if ck then .tuple #[match r with|some j=>(arr.toList.getD j default).val|none=>z,.bool r.isSome]else match r with|some j=>(arr.toList.getD j default).val|none=>z)) w:=by
   intro r z hK hr hz;have h1:=hK.check w _ arr.isEmpty _ hi;have h2:=hK.findKey (es:=arr.toList) hi (by simpa using hkl) (λj d e hd he=>hkey j d e hd (by simpa using he)) hr;cases r with
   |none=>simp[execOp,ho,Instr.lookup,run_underlying hu,hv,pR hblk,h1,h2,hz rfl]
   |some j=>simp[execOp,ho,Instr.lookup,run_underlying hu,hv,pR hblk,h1,h2]
  split at hok
  ·rename_i j hf;simp only[kQ.cond]at hok|-;have hK:=HL hT hE hok;have hj:=uU hf;have hjl:j<ks.length:=by have:=(List.getElem?_eq_some_iff.1 hj.2).1;omega
   have hrv:RD w (Ex X β H) (vs.getD j default) (arr.toList.getD j default).val:=by
    have h1:j<vs.length:=aE;have h2:j<arr.size:=aE;have:=hval j (vs[j]) (arr[j]) (List.getElem?_eq_getElem h1) (Array.getElem?_eq_getElem h2);simpa [List.getD_eq_getElem?_getD,h1,h2]using this
   have hrun:=fin (some j) undef hK hf aM;cases ck with
   |true=>
    simp only[if_true]at hrun|-;refine mD.plain m hrun (.tup _ [_,_] rfl λi l v hl hv=>?_)
    match i,hl,hv with
    |0,hl,hv=>injection hl with hl;injection hv with hv;subst hl;subst hv;exact .d _ _ hrv
    |1,hl,hv=>injection hl with hl;injection hv with hv;subst hl;subst hv;exact cU _
   |false=>exact mD.plain m hrun (.d _ _ hrv)
  ·rename_i hf;simp only[kQ.cond]at hok|-;have hK:=HL hT hE hok.1;obtain⟨z,hz,hrz⟩:=Xv (P:=P) (w:=w) (E:=Ex X β H) hT hok.2;have hrun:=fin none z hK hf (λ_=>hz);cases ck with
   |true=>
    simp only[if_true]at hrun|-;refine mD.plain m hrun (.tup _ [_,_] rfl λi l v hl hv=>?_)
    match i,hl,hv with
    |0,hl,hv=>injection hl with hl;injection hv with hv;subst hl;subst hv;exact .d _ _ hrz
    |1,hl,hv=>injection hl with hl;injection hv with hv;subst hl;subst hv;exact cU _
   |false=>exact mD.plain m hrun (.d _ _ hrz)
  ·exact hok.elim
 ·exact hok.elim
theorem TP(w:World)(b:Nat)(o':Obj)(k:Nat)(h:k≠b):(w.heap.setIfInBounds b o')[k]? =w.heap[k]? :=by simp[Ne.symm h]
theorem dR.rewriteMap(m:dR w0 X H β w){id b clock clock':Nat}{ks vs ks' vs':List DV}{arr arr':Array MapEntry}(hH:H id=.map false ks vs)(hb:β id=some b)(hblk:w.heap[b]? =some (.map arr clock))
 (hk:ks'.length=arr'.size)(hl:vs'.length=arr'.size)(hborn:gD arr' clock')
 (hkey:∀(i:Nat) (d:DV) (e:MapEntry),ks'[i]? =some d->arr'[i]? =some e->RD w (Ex X β H) d e.key)(hval:∀(i:Nat) (d:DV) (e:MapEntry),vs'[i]? =some d->arr'[i]? =some e->RD w (Ex X β H) d e.val):
 dR w0 X (cE H id (.map false ks' vs')) β {w with heap:=w.heap.setIfInBounds b (.map arr' clock')}/\eT X H β w (cE H id (.map false ks' vs')) β {w with heap:=w.heap.setIfInBounds b (.map arr' clock')}:=by
 refine m.rewriteG (by rw[hH];rfl) hb rfl rfl rfl (Nat.le_refl _) aM (λk hk=>TP w b _ k hk) ?_ λhD _=>?_
 ·unfold bQ;rw[hH,aX];exact .inr ⟨⟨false,ks',vs',rfl⟩,rfl⟩
 ·unfold dO;rw[aX];exact⟨b,arr',clock',hb,by simp[(Array.getElem?_eq_some_iff.1 hblk).1],hk,hl,hborn,λi d e hd he=>hD _ _ (hkey i d e hd he),λi d e hd he=>hD _ _ (hval i d e hd he)⟩
theorem DE{b clock:Nat}{arr:Array MapEntry}(o':Obj)(hb:w.heap[b]? =some (.map arr clock)):(setObj b o').run P w=.ok () {w with heap:=w.heap.setIfInBounds b o'}:=by simp[setObj,Sem.run,hb]
theorem zR(hT:fP P T)(hE:∀t,(T t).eqk≠[]->(T t).k.isNone=false)(m:dR w0 X H β w){t:TypeId}{x i y:Operand}{lx li ly:LV}(hx:R w (Ex X β H) β H lx (a.eval x))(hi:R w (Ex X β H) β H li (a.eval i))(hy:R w (Ex X β H) β H ly (a.eval y))(ho:o.op=.mapUpdate t x i y\/o.op=.insert t x i y)
 (hok:(cF T H t lx li ly).ok):mD P w0 X H β w a o (cF T H t lx li ly):=by
 unfold cF at*;split at hok
 ·rename_i kt et id k v hk;split at hok
  ·rename_i ks vs hH;have hi:RD w (Ex X β H) k (a.eval i):=by cases hi with|d _ _ h=>exact h
   have hy:RD w (Ex X β H) v (a.eval y):=by cases hy with|d _ _ h=>exact h
   have hu:=hT.mapd hk;have hob:=m.obj id;simp only[dO,hH]at hob;obtain⟨b,arr,clock,hb,hblk,hkl,hvl,hborn,hkey,hval⟩:=hob;have hxv:a.eval x=.map (some b):=by
    generalize a.eval x=vx at hx;cases hx with
    |mp _ b' _ _ _ _ hb'=>rw[hb]at hb';injection hb' with hb';rw[hb']
    |mpdead _ _ hd=>rw[hH]at hd;cases hd
   split at hok
   ·rename_i j hf;simp only at hok|-;have hK:=HL hT hE hok;have h1:=hK.check w _ false _ hi;have h2:=hK.findKey (es:=arr.toList) hi (by simpa using hkl) (λj d e hd he=>hkey j d e hd (by simpa using he)) hf;have hj:=(uU hf).2;rw[Nat.sub_zero]at hj;have hjl:j<ks.length:=(List.getElem?_eq_some_iff.1 hj).1;have hja:j<arr.size:=aE;have hold:=hkey j k arr[j] hj (Array.getElem?_eq_getElem hja);have hst:(Instr.keyThatStays arr[j].key (a.eval i)).run P w=.ok (a.eval i) w:=by simp[Instr.keyThatStays,hK.same w _ _ _ hi hold]
    obtain⟨m2,g2⟩:=m.rewriteMap hH hb hblk (ks':=ks) (vs':=vs.set j v) (arr':=arr.modify j λe=>{e with key:=a.eval i,val:=a.eval y}) (clock':=clock) (by simpa using hkl) (by simpa using hvl) (hborn.modify j _ _)
     (λl d e hd he=>by
       rw[Array.getElem?_modify]at he;split at he
       ·rename_i q;subst q;rw[hj]at hd;injection hd with hd;subst hd
        rw[Option.map_eq_some_iff]at he;obtain⟨e0,_,rfl⟩:=he;exact hi
       ·exact hkey l d e hd he)
     (λl d e hd he=>by
       rw[Array.getElem?_modify]at he;rw[List.getElem?_set]at hd;split at he
       ·rename_i q;subst q;rw[if_pos rfl,if_pos aE]at hd;injection hd with hd;subst hd
        rw[Option.map_eq_some_iff]at he;obtain⟨e0,_,rfl⟩:=he;exact hy
       ·rename_i q;rw[if_neg q]at hd;exact hval l d e hd he)
    refine qT (w':=_) (β':=β) ?_ (by simp only[cD];exact m2) (by simp only[cD];exact g2) rfl;rcases ho with ho|ho<;>simp[execOp,ho,Instr.mapUpdate,run_underlying hu,hxv,pR hblk,h1,h2,hja,hst,DE _ hblk]
   ·rename_i hf;simp only at hok|-;have hK:=HL hT hE hok;have h1:=hK.check w _ false _ hi;have h2:=hK.findKey (es:=arr.toList) hi (by simpa using hkl) (λj d e hd he=>hkey j d e hd (by simpa using he)) hf;have last:∀(ls:List DV) (z:DV) (u:Value) (f:MapEntry->Value),ls.length=arr.size->f {key:=a.eval i,val:=a.eval y,born:=clock}=u->RD w (Ex X β H) z u->(∀(i:Nat) (d:DV) (e:MapEntry),ls[i]? =some d->arr[i]? =some e->RD w (Ex X β H) d (f e))->
     ∀(l:Nat) (d:DV) (e:MapEntry),(ls++[z])[l]? =some d->(arr.push {key:=a.eval i,val:=a.eval y,born:=clock})[l]? =some e->RD w (Ex X β H) d (f e):=by
     intro ls z u f hl hu hz hp l d e hd he;rw[Array.getElem?_push]at he;split at he
     ·rename_i q;injection he with he;subst he
      rw[List.getElem?_append_right aE]at hd;rw[hu];rw[q,hl]at hd;simp at hd;subst hd;exact hz
     ·have hlt:=(Array.getElem?_eq_some_iff.1 he).1;rw[List.getElem?_append_left aE]at hd;exact hp l d e hd he
    obtain⟨m2,g2⟩:=m.rewriteMap hH hb hblk (ks':=ks++[k]) (vs':=vs++[v]) (arr':=arr.push {key:=a.eval i,val:=a.eval y,born:=clock}) (clock':=clock+1) (by simp[hkl]) (by simp[hvl]) (hborn.push _ _)
     (last ks k _ (·.key) hkl rfl hi hkey) (last vs v _ (·.val) hvl rfl hy hval)
    refine qT (w':=_) (β':=β) ?_ (by simp only[cD];exact m2) (by simp only[cD];exact g2) rfl;rcases ho with ho|ho<;>simp[execOp,ho,Instr.mapUpdate,run_underlying hu,hxv,pR hblk,h1,h2,DE _ hblk]
   ·exact hok.elim
  ·exact hok.elim
 ·exact hok.elim
theorem Gb(hT:fP P T)(hE:∀t,(T t).eqk≠[]->(T t).k.isNone=false)(m:dR w0 X H β w)(hg:∀x,R w (Ex X β H) β H (g x) (a.eval x)){t:TypeId}{x i y:Operand}(ho:o.op=.mapUpdate t x i y\/o.op=.insert t x i y)
 (hok:(gV T H t (g x) (g i) (g y)).ok):mD P w0 X H β w a o (gV T H t (g x) (g i) (g y)):=by
 have hy:=hg y;generalize g y=ly at*;unfold gV at*;split at hok
 ·exact zR hT hE m (hg x) (hg i) hy ho hok
 ·cases q:close H 8 ly with
  |none=>simp only[q]at hok;exact hok.elim
  |some v=>
   simp only[q]at hok|-;obtain⟨m',gg⟩:=m.freeze (bR H 8 ly);have core:=zR hT hE m' (gg.R (hg x)) (gg.R (hg i)) (.d _ _ (gX m q (λ_ h=>h) hy)) ho hok;intro K Q hK;refine core K Q λu w' β' m2 g2 hv=>hK u w' β' ?_ ?_ ?_<;>simp only[]<;>rw[BQ]
   ·exact m2
   ·exact gg.trans g2
   ·exact hv
theorem QN(hT:fP P T)(hE:∀t,(T t).eqk≠[]->(T t).k.isNone=false)(m:dR w0 X H β w)(hg:∀x,R w (Ex X β H) β H (g x) (a.eval x)){t u:TypeId}{x i:Operand}(ho:o.op=.call {callee:=.builtin .delete,args:= #[x,i],argTypes:= #[t,u]})
 (hok:(pL T H t (g x) (g i)).ok):mD P w0 X H β w a o (pL T H t (g x) (g i)):=by
 exact(show False from hok).elim
theorem TQ(hT:fP P T)(m:dR w0 X H β w)(hg:∀x,R w (Ex X β H) β H (g x) (a.eval x)){t kt et:TypeId}{x:Operand}(ho:o.op=.range t x)(hk:(T t).k=.map kt et)
 (hok:(pC H (o.dst.getD 0) (g x)).ok):mD P w0 X H β w a o (pC H (o.dst.getD 0) (g x)):=by
 have hx:=hg x;have hu:=hT.mapd hk;unfold pC at*;split at hok
 ·rename_i ks vs hgx;simp only at hok|-;rw[hgx]at hx;obtain⟨b,clock,arr,hv,hne,hlt,hblk,hkl,hvl,hborn,hkey,hval⟩:∃b clock arr,a.eval x=.map (some b)/\¬Ex X β H b/\b<w.heap.size/\w.heap[b]? =some (.map arr clock)/\ks.length=arr.size/\vs.length=arr.size/\gD arr clock/\
   (∀(i:Nat) (d:DV) (e:MapEntry),ks[i]? =some d->arr[i]? =some e->RD w (Ex X β H) d e.key)/\∀(i:Nat) (d:DV) (e:MapEntry),vs[i]? =some d->arr[i]? =some e->RD w (Ex X β H) d e.val:=by
   generalize a.eval x=vx at hx;cases hx with
   |d _ _ hx=>cases hx with
    |mp _ _ b clock arr h1 h2 h3 h4 h5 h6 h7 h8=>exact⟨b,clock,arr,rfl,h1,h2,h3,h4,h5,h6,h7,h8⟩
  have hfil:(arr.filter λe=> !(#[]:Array Nat).contains e.born)=arr:=aM;have hgrow:=(m.grow (w':=w.alloc (.mapIter (some b) clock #[] clock)) ((zN.refl _ _).alloc (Nat.le_refl _) _)).2;obtain⟨m2,g2⟩:=m.newObj (w':=w.alloc (.mapIter (some b) clock #[] clock)) ((zN.refl _ _).alloc (Nat.le_refl _) _) hok (o:=.iter false ks vs) (some w.heap.size) (λb hb=>by injection hb with hb;subst hb;simp) λhD _=>by
   unfold dO;rw[aX];refine⟨w.heap.size,b,arr,clock,#[],clock,by rw[aX],heap_alloc_new w _,?_,kG,?_,hborn,rfl,by rw[hfil];exact hkl,by rw[hfil];exact hvl,by rw[hfil];exact λi d e hd he=>hD _ _ (hkey i d e hd he),by rw[hfil];exact λi d e hd he=>hD _ _ (hval i d e hd he)⟩
   ·rintro(h|⟨j,h1,h2⟩)
    ·exact hne (.inl h)
    ·by_cases hj:j=o.dst.getD 0
     ·subst hj;rw[aX]at h2;injection h2 with h2;omega
     ·rw[cG _ _ hj]at h1 h2;exact hne (.inr ⟨j,h1,h2⟩)
   ·rw[Below.heap_alloc _ _ _ hlt];exact hblk
  refine dE (v:=.pointer (some ⟨w.heap.size,0,none⟩)) (w':=w.alloc (.mapIter (some b) clock #[] clock)) (β':=cE β (o.dst.getD 0) (some w.heap.size)) ?_ (by simp only[cD];exact m2) (by simp only[cD];exact g2) ?_
  ·simp[execOp,ho,Instr.range,run_underlying hu,hv,pR hblk]
  ·simp only[cD];exact .it _ w.heap.size false ks vs (by rw[aX]) (by rw[aX])
 ·exact hok.elim
end
end
section
open Go.RowKit
section
variable{P:Program} {T:TypeId->fE} {w0:cX} {X:Nat->Prop} {H:Nat->bB} {β:Nat->Option Nat} {w:World} {a:Act} {o:Oper} {g:Operand->LV} {E:Nat->Prop}
theorem QO{s:Nat}{xs ys:List DV}{k:Nat}(hall:∀x∈xs,(aQ x).length=s)(hys:∀y∈ys,(aQ y).length=s)(hk:k+ys.length<=xs.length):bS (dI k xs ys)=dI (k*s) (bS xs) (bS ys):=by
 unfold dI;rw[qS,qS,jS hall,wS hall,flat_len hys,Nat.add_mul]
theorem dR.writeRow(m:dR w0 X H β w){id b s:Nat}{xs:List DV}{cur:Array Value}{e:TypeId}(hH:H id=.row false s xs)(hb:β id=some b)(hblk:w.heap[b]? =some (.cells cur e (0,0))){k:Nat}{ys:List DV}{news:List Value}
 (hys:∀y∈ys,(aQ y).length=s)(hk:k+ys.length<=xs.length)(hnl:news.length=ys.length*s)(h1:∀u∈news,u.oneCell'=true)
 (hp:∀(i:Nat) (d:DV) (u:Value),(bS ys)[i]? =some d->news[i]? =some u->RD w (Ex X β H) d u):
 dR w0 X (cE H id (.row false s (dI k xs ys))) β (w.setRow b (dI (k*s) cur.toList news).toArray)/\eT X H β w (cE H id (.row false s (dI k xs ys))) β (w.setRow b (dI (k*s) cur.toList news).toArray)/\
  k*s+news.length<=cur.size/\(w.setRow b (dI (k*s) cur.toList news).toArray).heap[b]? =some (.cells (dI (k*s) cur.toList news).toArray e (0,0))/\(dI (k*s) cur.toList news).toArray.size=cur.size:=by
 have hob:=m.obj id;simp only[dO,hH]at hob;obtain⟨hpos,hall,hob⟩:=hob;rcases hob with⟨hnone,_⟩|⟨b',e'',cur',hb',hblk',hlen',hpo⟩
 ·rw[hnone]at hb;cases hb
 rw[hb]at hb';injection hb' with hb';subst hb'
 rw[hblk]at hblk';injection hblk' with hblk';injection hblk' with p1 p2;subst p1;subst p2
 have hfit:k*s+ys.length*s<=cur.size:=by
  rw[<-Nat.add_mul];exact Nat.le_trans (Nat.mul_le_mul_right _ hk) hlen'
 have hcs:cur.toList.length=cur.size:=aM;have hpl:(dI (k*s) cur.toList news).toArray.size=cur.size:=by rw[List.size_toArray,fW aE];exact hcs
 have hxl:(dI k xs ys).length=xs.length:=fW hk;have hfl:=flat_len hall;have hfy:=flat_len hys;have:=m.rewrite (id:=id) (b:=b) (o':=.row false s (dI k xs ys)) (cur':=(dI (k*s) cur.toList news).toArray) (by rw[hH];rfl) hb hblk hpl
  (.inr ⟨_,_,_,hH,rfl,by rw[hxl];exact Nat.le_refl _⟩) (λhD _=>by
    unfold dO;rw[aX];refine⟨hpos,Dr hall hys,.inr ⟨b,e,_,hb,setRow_heap w b _ _ e (0,0) hblk,by rw[hpl,hxl];exact hlen',λi d v hd hv=>?_⟩⟩;rw[QO hall hys hk,gL (by rw[hfl,hfy,<-Nat.add_mul];exact Nat.mul_le_mul_right _ hk),hfy]at hd;simp only[List.getElem?_toArray]at hv;rw[gL aE,hnl]at hv;split at hd
    ·rename_i h;rw[if_pos h]at hv;have:=hpo i d v hd (by simpa using hv);exact⟨this.1,hD _ _ this.2⟩
    ·rename_i h;rw[if_neg h]at hv;split at hd
     ·rename_i h';rw[if_pos h']at hv;exact⟨h1 v (List.mem_of_getElem? hv),hD _ _ (hp _ d v hd hv)⟩
     ·rename_i h';rw[if_neg h']at hv;have:=hpo i d v hd (by simpa using hv);exact⟨this.1,hD _ _ this.2⟩)
 exact⟨this.1,this.2,aE,setRow_heap w b _ _ e (0,0) hblk,hpl⟩
theorem DF{id:Nat}{o':bB}(h:H id=o'):cE H id o'=H:=by
 funext j;unfold cE;split
 ·rename_i e;rw[e,h]
 ·rfl
theorem DG{α:Type}{k:Nat}{xs:List α}:dI k xs []=xs:=by simp[dI]
theorem zS(m:dR w0 X H β w){id k n s:Nat}{fz:Bool}{xs:List DV}{v:Value}(hH:H id=.row fz s xs)(hr:R w (Ex X β H) β H (.ow id k n) v):
 (∃b c cur e,v=.slice (some ⟨b,k*s,none⟩) n c/\β id=some b/\k+n<=xs.length/\n<=c/\c<=maxLen/\w.heap[b]? =some (.cells cur e (0,0))/\(k+c)*s=cur.size/\xs.length<=k+c)\/(∃p,v=.slice p 0 0/\n=0/\xs.length<=k):=by
 have hob:=m.obj id;simp only[dO,hH]at hob;obtain⟨hpos,hall,hob⟩:=hob;cases hr with
 |ow _ _ _ b c _ _ _ cur e' hH' hb hkn hn hc hblk hroom=>
  rw[hH]at hH';injection hH' with _ q1 q2;subst q1;subst q2
  refine .inl ⟨b,c,cur,e',rfl,hb,hkn,hn,hc,hblk,hroom,?_⟩;rcases hob with⟨hnone,_⟩|⟨b',e'',cur',hb',hblk',hlen',_⟩
  ·rw[hnone]at hb;cases hb
  ·rw[hb]at hb';injection hb' with hb';subst hb'
   rw[hblk]at hblk';injection hblk' with hblk';injection hblk' with p1 p2;subst p1
   rw[<-hroom]at hlen';exact Nat.le_of_mul_le_mul_right hlen' hpos
 |ow0 _ _ b _ _ _ hH' hk'=>
  rw[hH]at hH';injection hH' with _ q1 q2;subst q1;subst q2
  refine .inr ⟨b,rfl,rfl,?_⟩;rcases hob with⟨hnone,he⟩|⟨b',e'',cur',hb',hblk',hlen',_⟩
  ·rw[he];exact Nat.zero_le _
  ·rcases hk' with⟨h1,_⟩|⟨b2,cur2,e2,h1,h2,h3,_⟩
   ·rw[h1]at hb';cases hb'
   ·rw[h1]at hb';injection hb' with hb';subst hb'
    rw[h2]at hblk';injection hblk' with hblk';injection hblk' with p1 p2;subst p1
    rw[<-h3]at hlen';exact Nat.le_of_mul_le_mul_right hlen' hpos
 |owdead _ _ _ _ hd=>rw[hH]at hd;cases hd
theorem DH(m:dR w0 X H β w){id k n c s:Nat}{fz:Bool}{xs:List DV}{v:Value}(hH:H id=.row fz s xs)(hr:R w (Ex X β H) β H (.oc id k n c) v):
 ∃p,v=.slice p n c/\n<=c/\k+c<=xs.length/\c<=maxLen/\(c=0\/∃b cur e,p=some ⟨b,k*s,none⟩/\β id=some b/\w.heap[b]? =some (.cells cur e (0,0))/\xs.length*s<=cur.size):=by
 have hob:=m.obj id;simp only[dO,hH]at hob;obtain⟨hpos,hall,hob⟩:=hob;cases hr with
 |oc _ _ _ _ p _ _ _ hH' hn hkc hc ha=>
  rw[hH]at hH';injection hH' with _ q1 q2;subst q1;subst q2
  refine⟨p,rfl,hn,hkc,hc,?_⟩;rcases ha with ha|⟨b,hb,hp⟩
  ·exact .inl ha
  ·rcases hob with⟨hnone,_⟩|⟨b',e'',cur',hb',hblk',hlen',_⟩
   ·rw[hnone]at hb;cases hb
   ·rw[hb]at hb';injection hb' with hb';subst hb'
    exact .inr ⟨b,cur',e'',hp,hb,hblk',hlen'⟩
 |ocdead _ _ _ _ _ hd=>rw[hH]at hd;cases hd
theorem Jz(hT:fP P T)(m:dR w0 X H β w)(hg:∀x,R w (Ex X β H) β H (g x) (a.eval x)){t u:TypeId}{s x:Operand}(ho:o.op=.call {callee:=.builtin .append,args:= #[s,x],argTypes:= #[t,u]})
 (hu:t=u\/(T u).k.isStr=true)(ht:∀e,(T t).k=.slice e->(T e).k.isNone=false)(hok:(fV T H t (g s) (g x)).ok):mD P w0 X H β w a o (fV T H t (g s) (g x)):=by
 have hs:=hg s;have hx:=hg x;generalize g s=ls at*;generalize g x=lx at*;unfold fV at*;split at hok
 ·rename_i e ys id k n hk hy;split at hok
  ·rename_i sz xs hH;simp only at hok|-;obtain⟨hsz,hys,hfit⟩:=hok;subst hsz;have hut:=hT.slice hk;obtain⟨inf,d0,z,h1,h2,h3,h4,h5,h6,h7⟩:=hT.parts (ht e hk);have huu:∃d,P.underlying u=some d/\∀k,d≠ .int k:=by
    rcases hu with rfl|hu
    ·exact⟨_,hut,λk=>aM⟩
    ·have:(T u).k=.str:=by cases q:(T u).k<;>simp_all[TK.isStr]
     exact⟨_,hT.str this,λk=>aM⟩
   obtain⟨d,hud,hdk⟩:=huu;obtain⟨news,e1,e2,e3,e4,e5⟩:=wU (P:=P) m hx hy hys;rw[<-h4]at e2;generalize hvs:a.eval s=vs at hs;rcases zS m hH hs with⟨b,c,cur,e',rfl,hb,hkn,hn,hc,hblk,hroom,hcap⟩|⟨p,rfl,rfl,hkx⟩
   ·have hin:n+ys.length<=c:=aE;obtain⟨m2,g2,hf,hblk2,hsz2⟩:=m.writeRow hH hb hblk (k:=k+n) hys aE e3 e4 e5;have hrun:=kJ (P:=P) (w:=w) (ty:=o.type) (base:=some ⟨b,k*(T e).size,none⟩) (sLen:=n) (sCap:=c) hut hud hdk h1 e1 e2 hin;have hst:=run_storeCells_at P b (k*(T e).size+n*(T e).size) e' news 0 cur w hblk (by rw[<-Nat.add_mul];omega) e4;refine dE (v:=.slice (some ⟨b,k*(T e).size,none⟩) (n+ys.length) c) (w':=w.setRow b (dI ((k+n)*(T e).size) cur.toList news).toArray) (β':=β) (lT ho ?_) (by simp only[cD];exact m2) (by simp only[cD];exact g2) ?_
    ·rw[hvs,hrun];simp only[Addr.add_lit,h4];simp only[Nat.add_zero]at hst;rw[hst,Nat.add_mul];rfl
    ·simp only[cD];exact R.ow _ k (n+ys.length) b c false (T e).size (dI (k+n) xs ys) _ e' (by rw[aX]) hb (by rw[fW aE];omega) hin hc hblk2 (by rw[hsz2];exact hroom)
   ·have hy0:ys=[]:=List.eq_nil_of_length_eq_zero aE;subst hy0;have hn0:news=[]:=List.eq_nil_of_length_eq_zero (by simpa using e3);subst hn0;have hrun:=kJ (P:=P) (w:=w) (ty:=o.type) (base:=p) (sLen:=0) (sCap:=0) hut hud hdk h1 e1 e2 (Nat.le_refl _);have hid:bW H [(id,bB.row false (T e).size (dI (k+0) xs []))]=H:=by rw[cD,DG];exact DF hH
    refine dE (v:=.slice p 0 0) (w':=w) (β':=β) (lT ho ?_) (by simp only[hid];exact m) (by simp only[hid];exact eT.refl) (by simp only[hid];exact hs);rw[hvs,hrun];cases p<;>simp[storeCells]
  ·exact hok.elim
 ·exact hok.elim
theorem Xw(hT:fP P T)(m:dR w0 X H β w)(hg:∀x,R w (Ex X β H) β H (g x) (a.eval x)){t u:TypeId}{s x:Operand}(ho:o.op=.call {callee:=.builtin .copy,args:= #[s,x],argTypes:= #[t,u]})
 (ht:∀e,(T t).k=.slice e->(T e).k.isNone=false)(hok:(rR T H t (g s) (g x)).ok):mD P w0 X H β w a o (rR T H t (g s) (g x)):=by
 exact(show False from hok).elim
theorem TR(hT:fP P T)(m:dR w0 X H β w)(hg:∀x,R w (Ex X β H) β H (g x) (a.eval x)){t u:TypeId}{s x:Operand}(ho:o.op=.call {callee:=.builtin .copy,args:= #[s,x],argTypes:= #[t,u]})
 (ht:∀e,(T t).k=.slice e->(T e).k.isNone=false)(hok:(pD T H t (g s) (g x)).ok):mD P w0 X H β w a o (pD T H t (g s) (g x)):=by
 exact(show False from hok).elim
theorem qV{t:fE}(h:t.k.agg=false->t.zero.length=1):aQ (iV t)=t.zero.map uM:=by
 unfold iV;cases q:t.k.agg with
 |true=>rfl
 |false=>
  match hz:t.zero,h q with
  |[u],_=>
   simp only[Bool.false_eq_true,if_false,List.map_cons,List.map_nil,List.getD_cons_zero];unfold uM;split<;>rfl
theorem HM(hT:fP P T){e:TypeId}(h:(T e).k.isNone=false){z:Value}(hz:z.cells.toList=(T e).zero)(n:Nat){cells:Array Value}(hc:∀i,i<n*(T e).size->cells[i]? =some (z.cells[i%z.cells.size]!)):
 ∀(i:Nat) (d:DV) (u:Value),(bS (List.replicate n (iV (T e))))[i]? =some d->cells[i]? =some u->u.oneCell'=true/\RD w E d u:=by
 intro i d u hd hu;obtain⟨inf,h1,h2,h3⟩:=(hT e h).zv;have hl:=(hT e h).len;have one:=(hT e h).one;have hzl:z.cells.size=(T e).size:=by rw[<-hl,<-hz];simp
 have hcd:=qV h3;have hall:∀x∈List.replicate n (iV (T e)),(aQ x).length=(T e).size:=λx hx=>by rw[(List.mem_replicate.1 hx).2,hcd,List.length_map,hl]
 have hi:i<n*(T e).size:=by have:=(List.getElem?_eq_some_iff.1 hd).1;rw[flat_len hall,List.length_replicate]at this;exact this
 have hpos:0<(T e).size:=by rcases Nat.eq_zero_or_pos (T e).size with h|h;rw[h]at hi;omega;exact h
 rw[hc i hi,hzl]at hu;injection hu with hu
 have hj:=Nat.mod_lt i hpos;have hdm:i / (T e).size*(T e).size+i%(T e).size=i:=by rw[Nat.mul_comm];exact Nat.div_add_mod _ _
 rw[<-hdm,Jo hall _ _ hj]at hd;have hq:i / (T e).size<n:=(Nat.div_lt_iff_lt_mul hpos).2 hi;rw[List.getElem?_replicate,if_pos hq]at hd;simp only[Option.bind_some,hcd]at hd;obtain⟨u',hu',rfl⟩:=eG hd;have huu:u=u':=by
  rw[<-hu];have:z.cells[i%(T e).size]? =some u':=by rw[<-hz]at hu';simpa using hu'
  simp[getElem!_def,this]
 subst huu;have:=one u (List.mem_of_getElem? hu');exact⟨this,DD u this⟩
theorem TS(hT:fP P T)(m:dR w0 X H β w)(hg:∀x,R w (Ex X β H) β H (g x) (a.eval x)){t:TypeId}{x:Operand}(ho:o.op=.call {callee:=.builtin .clear,args:= #[x],argTypes:= #[t]})
 (ht:∀e,(T t).k=.slice e->(T e).k.isNone=false)(hok:(lN T H t (g x)).ok):mD P w0 X H β w a o (lN T H t (g x)):=by
 have hs:=hg x;generalize g x=ls at*;unfold lN at*;split at hok
 ·rename_i e id k n hk;split at hok
  ·rename_i sz xs hH;simp only at hok|-;obtain⟨hsz,hfit⟩:=hok;subst hsz;have hut:=hT.slice hk;obtain⟨inf,d0,z,h1,h2,h3,h4,h5,h6,h7⟩:=hT.parts (ht e hk);have h3:=(hT e (ht e hk)).zv.choose_spec.2.2;have hl:=(hT e (ht e hk)).len;have hzl:z.cells.size=(T e).size:=by rw[<-hl,<-h7];simp
   generalize hvs:a.eval x=vs at hs;have hzv:(zeroValue e).run P w=.ok z w:=by simp[zeroValue,typeInfo,h1,h6]
   rcases Nat.eq_zero_or_pos n with hn0|hn0
   ·subst hn0;have hid:bW H [(id,bB.row false (T e).size (dI k xs (List.replicate 0 (iV (T e)))))]=H:=by rw[cD];exact DF (by rw[hH,List.replicate_zero,DG])
    refine dE (v:=.tuple #[]) (w':=w) (β':=β) ?_ (by simp only[hid];exact m) (by simp only[hid];exact eT.refl) (.tup [] [] rfl aM);rcases zS m hH hs with⟨b,c,cur,e',rfl,hb,hkn,hn,hc,hblk,hroom,hcap⟩|⟨p,rfl,_,hkx⟩
    ·simp[execOp,ho,resolve,invoke,builtin,Builtin.clear_,run_underlying hut,hvs]
    ·cases p<;>simp[execOp,ho,resolve,invoke,builtin,Builtin.clear_,run_underlying hut,hvs]
   ·rcases zS m hH hs with⟨b,c,cur,e',rfl,hb,hkn,hn,hc,hblk,hroom,hcap⟩|⟨p,rfl,rfl,hkx⟩
    ·have hcl:∀i,i<n*(T e).size->(Builtin.zeroCells z.cells n)[i]? =some (z.cells[i%z.cells.size]!):=λi hi=>by
      simp[Builtin.zeroCells,hzl,hi]
     have hzr:=HM (P:=P) (w:=w) (E:=Ex X β H) hT (ht e hk) h7 n hcl;have hzc:(Builtin.zeroCells z.cells n).toList.length=(List.replicate n (iV (T e))).length*(T e).size:=by simp[size_zeroCells,hzl]
     have hall:∀y∈List.replicate n (iV (T e)),(aQ y).length=(T e).size:=λy hy=>by rw[(List.mem_replicate.1 hy).2,qV h3,List.length_map,hl]
     have hone:∀u∈(Builtin.zeroCells z.cells n).toList,u.oneCell'=true:=λu hu=>by
      obtain⟨i,hi,rfl⟩:=List.getElem_of_mem hu;rw[hzc]at hi;have hfl:=flat_len hall;exact(hzr i ((bS (List.replicate n (iV (T e))))[i]'aE) _ (List.getElem?_eq_getElem _) aM).1
     obtain⟨m2,g2,hf,hblk2,hsz2⟩:=m.writeRow hH hb hblk (k:=k) hall (by simpa using hfit) hzc hone (λi d u hd hu=>(hzr i d u hd (by simpa using hu)).2);have hst:=run_storeCells_at P b (k*(T e).size) e' (Builtin.zeroCells z.cells n).toList 0 cur w hblk aE hone;simp only[Nat.add_zero]at hst;refine dE (v:=.tuple #[]) (w':=w.setRow b (dI (k*(T e).size) cur.toList (Builtin.zeroCells z.cells n).toList).toArray) (β':=β) ?_ (by simp only[cD];exact m2) (by simp only[cD];exact g2) (.tup [] [] rfl aM);obtain⟨n',rfl⟩:∃n',n=n'+1:=⟨n-1,aE⟩;simp[execOp,ho,resolve,invoke,builtin,Builtin.clear_,run_underlying hut,hvs,hzv,hst,dI]
    ·omega
  ·exact hok.elim
 ·rename_i e id k n c hk;split at hok
  ·rename_i sz xs hH;simp only at hok|-;obtain⟨hsz,hfit⟩:=hok;subst hsz;have hut:=hT.slice hk;obtain⟨inf,d0,z,h1,h2,h3,h4,h5,h6,h7⟩:=hT.parts (ht e hk);have h3:=(hT e (ht e hk)).zv.choose_spec.2.2;have hl:=(hT e (ht e hk)).len;have hzl:z.cells.size=(T e).size:=by rw[<-hl,<-h7];simp
   generalize hvs:a.eval x=vs at hs;have hzv:(zeroValue e).run P w=.ok z w:=by simp[zeroValue,typeInfo,h1,h6]
   rcases Nat.eq_zero_or_pos n with hn0|hn0
   ·subst hn0;have hid:bW H [(id,bB.row false (T e).size (dI k xs (List.replicate 0 (iV (T e)))))]=H:=by rw[cD];exact DF (by rw[hH,List.replicate_zero,DG])
    refine dE (v:=.tuple #[]) (w':=w) (β':=β) ?_ (by simp only[hid];exact m) (by simp only[hid];exact eT.refl) (.tup [] [] rfl aM);obtain⟨p,rfl,hn,hkc,hc,hb⟩:=DH m hH hs;cases p<;>simp[execOp,ho,resolve,invoke,builtin,Builtin.clear_,run_underlying hut,hvs]
   ·obtain⟨p,rfl,hn,hkc,hc,hb⟩:=DH m hH hs;rcases hb with hc0|⟨b,cur,e',rfl,hb,hblk,hcur⟩
    ·omega
    ·have hcl:∀i,i<n*(T e).size->(Builtin.zeroCells z.cells n)[i]? =some (z.cells[i%z.cells.size]!):=λi hi=>by
      simp[Builtin.zeroCells,hzl,hi]
     have hzr:=HM (P:=P) (w:=w) (E:=Ex X β H) hT (ht e hk) h7 n hcl;have hzc:(Builtin.zeroCells z.cells n).toList.length=(List.replicate n (iV (T e))).length*(T e).size:=by simp[size_zeroCells,hzl]
     have hall:∀y∈List.replicate n (iV (T e)),(aQ y).length=(T e).size:=λy hy=>by rw[(List.mem_replicate.1 hy).2,qV h3,List.length_map,hl]
     have hone:∀u∈(Builtin.zeroCells z.cells n).toList,u.oneCell'=true:=λu hu=>by
      obtain⟨i,hi,rfl⟩:=List.getElem_of_mem hu;rw[hzc]at hi;have hfl:=flat_len hall;exact(hzr i ((bS (List.replicate n (iV (T e))))[i]'aE) _ (List.getElem?_eq_getElem _) aM).1
     obtain⟨m2,g2,hf,hblk2,hsz2⟩:=m.writeRow hH hb hblk (k:=k) hall (by simpa using hfit) hzc hone (λi d u hd hu=>(hzr i d u hd (by simpa using hu)).2);have hst:=run_storeCells_at P b (k*(T e).size) e' (Builtin.zeroCells z.cells n).toList 0 cur w hblk aE hone;simp only[Nat.add_zero]at hst;refine dE (v:=.tuple #[]) (w':=w.setRow b (dI (k*(T e).size) cur.toList (Builtin.zeroCells z.cells n).toList).toArray) (β':=β) ?_ (by simp only[cD];exact m2) (by simp only[cD];exact g2) (.tup [] [] rfl aM);obtain⟨n',rfl⟩:∃n',n=n'+1:=⟨n-1,aE⟩;simp[execOp,ho,resolve,invoke,builtin,Builtin.clear_,run_underlying hut,hvs,hzv,hst,dI]
  ·exact hok.elim
 ·exact hok.elim
theorem Xx(hT:fP P T)(m:dR w0 X H β w)(hg:∀x,R w (Ex X β H) β H (g x) (a.eval x)){t:TypeId}{n c:Operand}{dst:Nat}(ho:o.op=.makeSlice t n c)
 (ht:∀e,(T t).k=.slice e->(T e).k.isNone=false)(hok:(nT T H dst t (g n) (g c)).ok):mD P w0 X H β w a o (nT T H dst t (g n) (g c)):=by
 have hn:=hg n;have hc:=hg c;generalize g n=ln at*;generalize g c=lc at*;unfold nT at*;split at hok
 ·rename_i e k n' k' c' hk;simp only at hok|-;obtain⟨ha,h0,hnc,hmx,hpos,hby⟩:=hok;subst hnc;have hn:=hn.int;have hc:=hc.int;have hut:=hT.slice hk;obtain⟨inf,d0,z,h1,h2,h3,h4,h5,h6,h7⟩:=hT.parts (ht e hk);have h3:=(hT e (ht e hk)).zv.choose_spec.2.2;have hl:=(hT e (ht e hk)).len;have hzl:z.cells.size=(T e).size:=by rw[<-hl,<-h7];simp
  obtain⟨N,rfl⟩:=Int.eq_ofNat_of_zero_le h0;have hbb:(inf.bytes:Int)*(N:Int)<=281474976710656:=by rw[h5,Int.mul_comm];omega
  have hrun:=Go.run_make (P:=P) w t e inf z hut h1 h6 k k' (N:Int) (N:Int) h0 (Int.le_refl _) hbb aE;simp only[Int.toNat_natCast]at hrun|-;have hcl:∀i,i<N*(T e).size->(madeCells z.cells (N*inf.size))[i]? =some (z.cells[i%z.cells.size]!):=λi hi=>by
   rw[h4];simp[madeCells,hi]
  have hzr:=HM (P:=P) (w:=w) (E:=Ex X β H) hT (ht e hk) h7 N hcl;have hall:∀y∈List.replicate N (iV (T e)),(aQ y).length=(T e).size:=λy hy=>by rw[(List.mem_replicate.1 hy).2,qV h3,List.length_map,hl]
  have hcs:(madeCells z.cells (N*inf.size)).size=N*(T e).size:=by rw[size_madeCells,h4]
  obtain⟨m2,g2⟩:=HI m ha hpos hall e (cur:=madeCells z.cells (N*inf.size)) (by rw[hcs,List.length_replicate];exact Nat.le_refl _) hzr ((zN.refl _ _).alloc (Nat.le_refl _) _) aM (heap_alloc_new w _);refine dE (v:=.slice (some ⟨w.heap.size,0,none⟩) N N) (w':=w.alloc (.cells (madeCells z.cells (N*inf.size)) e)) (β':=cE β dst (some w.heap.size)) ?_ (by simp only[cD];exact m2) (by simp only[cD];exact g2) ?_
  ·simp[execOp,ho,hn,hc,hrun]
  ·simp only[cD];have hR:=R.ow (w:=w.alloc (.cells (madeCells z.cells (N*inf.size)) e)) (E:=Ex X (cE β dst (some w.heap.size)) (cE H dst (.row false (T e).size (List.replicate N (iV (T e)))))) (β:=cE β dst (some w.heap.size)) (H:=cE H dst (.row false (T e).size (List.replicate N (iV (T e)))))
    dst 0 N w.heap.size N false (T e).size _ _ e (by rw[aX]) (by rw[aX]) aM (Nat.le_refl _) (by unfold maxLen;omega) (heap_alloc_new w _) (by rw[hcs,Nat.zero_add])
   rw[Nat.zero_mul]at hR;exact hR
 ·exact hok.elim
theorem HN(hT:fP P T){t e:TypeId}(hk:(T t).k=.slice e)(he:(T e).k.isNone=false){b:Option Addr}{n c:Nat}{lo hi:Option Operand}{mx:Operand}{l h m:Int}{km:IntKind}
 (hl:(lo=none/\l=0)\/∃x k,lo=some x/\a.eval x=.int k l)(hh:∃x k,hi=some x/\a.eval x=.int k h)(hm:a.eval mx=.int km m)(h0:0<=l)(h1:l<=h)(h2:h<=m)(h3:m<=c):
 (Instr.sliceAt t (.slice b n c) (lo.map a.eval) (hi.map a.eval) ((some mx).map a.eval)).run P w=.ok (.slice (if m.toNat=l.toNat then b else b.map (·.add (l.toNat*(T e).size))) (h.toNat-l.toNat) (m.toNat-l.toNat)) w:=by
 have hu:=hT.slice hk;have hso:=cP (P:=P) (w:=w) hT he;have b0:∀k y,(Instr.sliceBound (.int k m) c y).run P w=.ok m.toNat w:=λk y=>run_sliceBound w k m c y aE h3;have b1:∀k y,(Instr.sliceBound (.int k h) m.toNat y).run P w=.ok h.toNat w:=λk y=>run_sliceBound w k h m.toNat y aE aE;have b2:∀k y,(Instr.sliceBound (.int k l) h.toNat y).run P w=.ok l.toNat w:=λk y=>run_sliceBound w k l h.toNat y h0 aE;obtain⟨x,k,rfl,hx⟩:=hh;rcases hl with⟨rfl,rfl⟩|⟨y,k',rfl,hy⟩
 ·simp[Instr.sliceAt,Instr.slice,Instr.sliceBounds,run_underlying hu,hx,hm,b0,b1,hso]
 ·simp[Instr.sliceAt,Instr.slice,Instr.sliceBounds,run_underlying hu,hx,hm,hy,b0,b1,b2,hso]
theorem RD.sl_any{xs:List DV}{b b':Option Addr}{n c c':Nat}(h:RD w E (.sl xs) (.slice b n c))(h1:xs.length<=c')(h2:c'<=maxLen)(hb:xs≠[]->b'=b):RD w E (.sl xs) (.slice b' n c'):=by
 cases h with
 |sl0 a c hc=>exact .sl0 _ _ h2
 |sl _ b o c size us hx hb' hs hlen hc hul h1' hlt hcell h=>
  rw[hb hx];exact .sl xs b o c' size us hx hb' hs h1 h2 hul h1' hlt hcell h
theorem Zw(hT:fP P T)(m:dR w0 X H β w)(hg:∀x,R w (Ex X β H) β H (g x) (a.eval x)){t:TypeId}{x:Operand}{lo hi mx:Option Operand}(ho:o.op=.slice t x lo hi mx)
 (ht:∀e,(T t).k=.slice e->(T e).k.isNone=false)(hmx:mx.isSome=true)(hhi:mx.isSome=true->hi.isSome=true)(hok:(qQ T H t (g x) (lo.map g) (hi.map g) (mx.map g)).ok):mD P w0 X H β w a o (qQ T H t (g x) (lo.map g) (hi.map g) (mx.map g)):=by
 have hx:=hg x;generalize g x=lx at*;generalize hval:a.eval x=vx at hx;have hmm:∀{k:IntKind} {m:Int},mx.map g=some (.d (.int k m))->∃y,mx=some y/\a.eval y=.int k m:=λ{k m} e=>by
  obtain⟨y,rfl,hy⟩:=Option.map_eq_some_iff.1 e;have:=hg y;rw[hy]at this;exact⟨y,rfl,this.int⟩
 have hhh:∀{n:Nat} {h:Int},jA n (hi.map g)=some h->∃x k,hi=some x/\a.eval x=.int k h:=λ{n h} e=>by
  rcases dX hg e with⟨h1,_⟩|h1
  ·have:=hhi hmx;rw[h1]at this;cases this
  ·exact h1
 unfold qQ at*;split at hok
 ·rename_i e id k n hk;split at hok
  ·rename_i l h kk m' e1 e2 e3;simp only[kQ.cond]at hok|-;obtain⟨h0,h1,h2,h3,hl⟩:=hok;obtain⟨y,rfl,hy⟩:=hmm e3;have hform:∃b c,vx=.slice b n c/\n<=c:=by
    cases hx with
    |ow _ _ _ b c _ _ _ _ _ _ _ _ hn=>exact⟨_,c,rfl,hn⟩
    |ow0 _ _ b=>exact⟨b,0,rfl,Nat.le_refl _⟩
    |owdead _ _ _ _ hd=>rw[hd]at hl;cases hl
   obtain⟨b,c,rfl,hnc⟩:=hform;have hr:=HN (P:=P) (w:=w) (a:=a) (b:=b) (n:=n) (c:=c) hT hk (ht e hk) (dX hg e1) (hhh e2) hy h0 h1 h2 aE;refine mD.plain m (v:=.slice (if m'.toNat=l.toNat then b else b.map (·.add (l.toNat*(T e).size))) (h.toNat-l.toNat) (m'.toNat-l.toNat)) ?_ (.junk _);simp only[execOp,ho,hval,Sem.run_bind,hr,Result.andThen_ok,Sem.run_pure]
  ·exact hok.elim
 ·rename_i e xs hk;split at hok
  ·rename_i l h kk m' e1 e2 e3;simp only[kQ.cond]at hok|-;obtain⟨h0,h1,h2,h3,hall⟩:=hok;obtain⟨y,rfl,hy⟩:=hmm e3;cases hx with
   |d _ _ hx=>
    have hform:∃b c,vx=.slice b xs.length c/\xs.length<=c/\c<=maxLen:=by cases hx with
     |sl0 b c hc=>exact⟨b,c,rfl,Nat.zero_le _,hc⟩
     |sl _ b off c _ _ hx _ _ hlen hc=>exact⟨_,c,rfl,hlen,hc⟩
    obtain⟨b,c,rfl,hlc,hcm⟩:=hform;have hr:=HN (P:=P) (w:=w) (a:=a) (b:=b) (n:=xs.length) (c:=c) hT hk (ht e hk) (dX hg e1) (hhh e2) hy h0 h1 h2 aE;have hcut:=hx.sl_cut hall (l:=l.toNat) (h:=h.toNat) aE aE;have hlen:((xs.take h.toNat).drop l.toNat).length=h.toNat-l.toNat:=kG;refine mD.plain m ?_ (.d _ _ (hcut.sl_any (c':=m'.toNat-l.toNat) (b':=if m'.toNat=l.toNat then b else b.map (·.add (l.toNat*(T e).size))) aE aE λhne=>?_))
    ·simp only[execOp,ho,hval,Sem.run_bind,hr,Result.andThen_ok,Sem.run_pure]
    ·have:h.toNat-l.toNat≠0:=λhz=>hne (List.eq_nil_of_length_eq_zero aE);rw[if_neg aE,if_neg aE]
  ·exact hok.elim
 ·rename_i e id k n c hk;split at hok
  ·rename_i fz s xs hH;split at hok
   ·rename_i l h kk m' e1 e2 e3;simp only[kQ.cond]at hok|-;obtain⟨h0,h1,h2,h3,h4⟩:=hok;obtain⟨y,rfl,hy⟩:=hmm e3;obtain⟨p,rfl,hn,hkc,hc,hb⟩:=DH m hH hx;have hr:=HN (P:=P) (w:=w) (a:=a) (b:=p) (n:=n) (c:=c) hT hk (ht e hk) (dX hg e1) (hhh e2) hy h0 h1 h2 aE;have hR:R w (Ex X β H) β H (.oc id (k+l.toNat) (h-l).toNat (m'-l).toNat) (.slice (if m'.toNat=l.toNat then p else p.map (·.add (l.toNat*(T e).size))) (h-l).toNat (m'-l).toNat):=by
     refine .oc id (k+l.toNat) (h-l).toNat (m'-l).toNat _ fz s xs hH aE aE aE ?_;by_cases hcl:m'.toNat=l.toNat
     ·left;omega
     ·right;rcases hb with hb|⟨b,cur,e',rfl,hb,hblk,hcur⟩
      ·omega
      ·exact⟨b,hb,by rw[if_neg hcl];simp only[Option.map_some,Addr.add_lit];rw[<-h4,<-Nat.add_mul]⟩
    refine mD.plain m ?_ hR;have e4:(h-l).toNat=h.toNat-l.toNat:=aE;have e5:(m'-l).toNat=m'.toNat-l.toNat:=aE;rw[e4,e5];simp only[execOp,ho,hval,Sem.run_bind,hr,Result.andThen_ok,Sem.run_pure]
   ·exact hok.elim
  ·exact hok.elim
 ·exact hok.elim
theorem Xy(m:dR w0 X H β w)(hg:∀x,R w (Ex X β H) β H (g x) (a.eval x)){op:BinOp}{t u:TypeId}{x y:Operand}(ho:o.op=.binOp op t x y u)(hok:(uO op (g x) (g y)).ok):mD P w0 X H β w a o (uO op (g x) (g y)):=by
 have hx:=hg x;have hy:=hg y;generalize g x=lx at*;generalize g y=ly at*;unfold uO at*;split at hok
 ·rename_i k n k' n';have hx:=hx.int;have hy:=hy.int;cases op<;>simp only[kQ.cond]at hok|-<;>first|(exact hok.elim)|skip
  all_goals
   subst hok;exact mD.plain m (by simp[execOp,ho,hx,hy,AR,binOp,Op.intArith]) (dF _ _)
 ·exact hok.elim
theorem Gc(m:dR w0 X H β w){l:LV}{v:Value}(hr:R w (Ex X β H) β H l v){n:Nat}(h:Jl H l=some n):∃b c,v=.slice b n c/\n<=c/\c<=maxLen/\(b=none->n=0):=by
 unfold Jl at h;split at h
 ·injection h with h;subst h
  cases hr with
  |d _ _ hr=>cases hr with
   |sl0 b c hc=>exact⟨b,c,rfl,Nat.zero_le _,hc,λ_=>rfl⟩
   |sl _ b off c _ _ hx _ _ hlen hc=>exact⟨_,c,rfl,hlen,hc,λh=>by cases h⟩
 ·injection h with h;subst h
  cases hr with|nl b=>exact⟨b,0,rfl,Nat.le_refl _,Nat.zero_le _,λ_=>rfl⟩
 ·rename_i id k n';split at h
  ·rename_i hl;injection h with h;subst h
   cases hr with
   |ow _ _ _ b c _ _ _ _ _ _ _ _ hn hc=>exact⟨_,c,rfl,hn,hc,λh=>by cases h⟩
   |ow0 _ _ b=>exact⟨b,0,rfl,Nat.le_refl _,Nat.zero_le _,λ_=>rfl⟩
   |owdead _ _ _ _ hd=>rw[hd]at hl;cases hl
  ·cases h
 ·cases h
theorem Zx(hT:fP P T)(m:dR w0 X H β w)(hg:∀x,R w (Ex X β H) β H (g x) (a.eval x)){op:BinOp}{t u:TypeId}{x y:Operand}(ho:o.op=.binOp op t x y u)(hy:Dj y=true){e b:Bool}(hok:(nM T H t e b op (g x)).ok):
 ∃b',(b'=true->e=true)/\mD P w0 X H β w a o (nM T H t e b' op (g x)):=by
 have hx:=hg x;generalize g x=lx at*;have hyc:y=.const (.slice none 0 0):=by
  unfold Dj at hy;split at hy
  ·rfl
  ·cases hy
 subst hyc;have hev:a.eval (.const (.slice none 0 0))=.slice none 0 0:=rfl;unfold nM at hok;split at hok
 ·rename_i e' n hk hn;obtain⟨p,c,hv,h1,h2,h3⟩:=Gc m hx hn;simp only[kQ.cond]at hok;refine⟨p.isNone,λh=>hok (h3 (by cases p<;>simp_all)),?_⟩;unfold nM;simp only[hk,hn,kQ.cond];refine mD.plain m (v:=.bool p.isNone) ?_ (cU _);have:=Lib.run_eql_slice_nil (P:=P) w t e' p n c 0 0 (hT.slice hk);cases p<;>simp[execOp,ho,hv,hev,eqGuard,this]
 ·rename_i e' n hk hn;obtain⟨p,c,hv,h1,h2,h3⟩:=Gc m hx hn;simp only[kQ.cond]at hok;refine⟨p.isNone,λh=>hok (h3 (by cases p<;>simp_all)),?_⟩;unfold nM;simp only[hk,hn,kQ.cond];refine mD.plain m (v:=.bool (!p.isNone)) ?_ (cU _);have:=run_neq_slice_nil_any (P:=P) w t e' p n c 0 0 (hT.slice hk);cases p<;>simp[execOp,ho,hv,hev,eqGuard,this]
 ·exact hok.elim
theorem Zy(hT:fP P T)(m:dR w0 X H β w)(hg:∀x,R w (Ex X β H) β H (g x) (a.eval x)){t:TypeId}{x:Operand}(ho:o.op=.call {callee:=.builtin .cap,args:= #[x],argTypes:= #[t]}){lo c:Nat}(hok:(wO T H t lo c (g x)).ok):
 ∃c',lo<=c'/\c'<=maxLen/\mD P w0 X H β w a o (wO T H t lo c' (g x)):=by
 exact(show False from hok).elim
theorem Xz(hT:fP P T)(m:dR w0 X H β w)(hg:∀x,R w (Ex X β H) β H (g x) (a.eval x)){t:TypeId}{x:Operand}(ho:o.op=.call {callee:=.builtin .cap,args:= #[x],argTypes:= #[t]})(hok:(rU T H t (g x)).ok):
 mD P w0 X H β w a o (rU T H t (g x)):=by
 exact(show False from hok).elim
theorem MC(hT:fP P T)(m:dR w0 X H β w)(hg:∀x,R w (Ex X β H) β H (g x) (a.eval x)){t u:TypeId}{s x:Operand}{dst:Nat}(ho:o.op=.call {callee:=.builtin .append,args:= #[s,x],argTypes:= #[t,u]})
 (hu:t=u\/(T u).k.isStr=true)(ht:∀e,(T t).k=.slice e->(T e).k.isNone=false)(hok:(lK T H dst t (g s) (g x)).ok):mD P w0 X H β w a o (lK T H dst t (g s) (g x)):=by
 exact(show False from hok).elim
theorem MD(hT:fP P T)(m:dR w0 X H β w)(hg:∀x,R w (Ex X β H) β H (g x) (a.eval x)){t u:TypeId}{s x:Operand}{dst:Nat}(ho:o.op=.call {callee:=.builtin .append,args:= #[s,x],argTypes:= #[t,u]})
 (hu:(T u).k.isInt=true)(ht:∀e,(T t).k=.slice e->(T e).k.isNone=false)(hok:(lM T H dst t (g s) (g x)).ok):mD P w0 X H β w a o (lM T H dst t (g s) (g x)):=by
 exact(show False from hok).elim
theorem ME(hT:fP P T)(m:dR w0 X H β w)(hg:∀x,R w (Ex X β H) β H (g x) (a.eval x)){t u:TypeId}{s x:Operand}{dst lo c:Nat}(ho:o.op=.call {callee:=.builtin .append,args:= #[s,x],argTypes:= #[t,u]})
 (hu:t=u\/(T u).k.isStr=true)(ht:∀e,(T t).k=.slice e->(T e).k.isNone=false)(hok:(lL T H dst t lo c (g s) (g x)).ok):∃c',lo<=c'/\c'<=maxLen/\mD P w0 X H β w a o (lL T H dst t lo c' (g s) (g x)):=by
 exact(show False from hok).elim
theorem MF(hT:fP P T)(m:dR w0 X H β w)(hg:∀x,R w (Ex X β H) β H (g x) (a.eval x)){t u:TypeId}{s x:Operand}{dst lo c:Nat}{v:Value}(ho:o.op=.call {callee:=.builtin .append,args:= #[s,x],argTypes:= #[t,u]})
 (hu:t=u\/(T u).k.isStr=true)(ht:∀e,(T t).k=.slice e->(T e).k.isNone=false)(hok:(nR T H dst t lo c v (g s) (g x)).ok){rs:kQ->Prop}(hrs:∀c v,lo<=c->c<=maxLen->rs (nR T H dst t lo c v (g s) (g x))):Tw P w0 X H β w a o rs:=by
 exact(show False from hok).elim
theorem MG(hT:fP P T)(m:dR w0 X H β w)(hg:∀x,R w (Ex X β H) β H (g x) (a.eval x)){t u:TypeId}{s x:Operand}{dst kid:Nat}(ho:o.op=.call {callee:=.builtin .append,args:= #[s,x],argTypes:= #[t,u]})
 (hu:t=u\/(T u).k.isStr=true)(ht:∀e,(T t).k=.slice e->(T e).k.isNone=false)(hok:(nS T H dst t kid (g s) (g x)).ok):mD P w0 X H β w a o (nS T H dst t kid (g s) (g x)):=by
 exact(show False from hok).elim
theorem TT(hT:fP P T)(m:dR w0 X H β w)(hg:∀x,R w (Ex X β H) β H (g x) (a.eval x)){f:Operand}{args:Array Operand}{ts:Array TypeId}(ho:o.op=.call {callee:=.value f,args:=args,argTypes:=ts})
 (hok:(pE P T H (g f) (args.toList.map g)).ok):mD P w0 X H β w a o (pE P T H (g f) (args.toList.map g)):=by
 exact(show False from hok).elim
end
end
section
open Go.RowKit
structure BS(T:TypeId->fE):Prop where
 eqk:∀t,(T t).eqk≠[]->(T t).k.isNone=false
 slice:∀t e,(T t).k=.slice e->(T e).k.isNone=false
 arr:∀t n e,(T t).k=.arr n e->(T e).k.isNone=false
 struct:∀t fs,(T t).k=.struct fs->∀p∈fs,(T p.2).k.isNone=false
section
variable{P:Program} {T:TypeId->fE} {w0:cX} {X:Nat->Prop} {H:Nat->bB} {β:Nat->Option Nat} {w:World} {a:Act} {o:Oper} {g:Operand->LV} {E:Nat->Prop}
theorem JA(m:dR w0 X H β w)(hg:∀x,R w (Ex X β H) β H (g x) (a.eval x)){x:Operand}(ho:o.op=.nilCheck x){r:Option kS}(hok:(bT P T H g r o).ok):mD P w0 X H β w a o (bT P T H g r o):=by
 have hx:=hg x;simp only[bT,ho]at hok|-;generalize g x=lx at*;generalize hval:a.eval x=vx at hx;have fin:∀p,vx=.pointer (some p)->(execOp a.eval o).run P w=.ok (.value vx) w:=by
  intro p hp;subst hp;simp[execOp,ho,hval]
 have finf:∀f cs,vx=.func (.func f) #[] cs->(execOp a.eval o).run P w=.ok (.value vx) w:=by
  intro f cs hp;subst hp;simp[execOp,ho,hval]
 split at hok
 ·rename_i id off;simp only[kQ.cond]at hok|-;have h0:=hx;cases hx with
  |bx _ _ b=>exact mD.plain m (fin _ rfl) h0
  |bxdead _ _ _ hd=>rw[hd]at hok;cases hok
 ·rename_i id k j;simp only[kQ.cond]at hok|-;have h0:=hx;cases hx with
  |rp _ _ _ b=>exact mD.plain m (fin _ rfl) h0
  |rpdead _ _ _ _ hd=>rw[hd]at hok;cases hok
 ·have h0:=hx;cases hx with
  |d _ _ hx=>
   obtain⟨b,off,hv⟩:=hx.ro_form;exact mD.plain m (fin _ hv) h0
 ·have h0:=hx;cases hx with
  |d _ _ hx=>
   have:∃f cs,vx=.func (.func f) #[] cs:=by cases hx;exact⟨_,_,rfl⟩
   obtain⟨f,cs,hv⟩:=this;exact mD.plain m (finf _ _ hv) h0
 ·have h0:=hx;have:∃f cs,vx=.func (.func f) #[] cs:=by cases hx;exact⟨_,_,rfl⟩
  obtain⟨f,cs,hv⟩:=this;exact mD.plain m (finf _ _ hv) h0
 ·exact hok.elim
theorem TU(hT:fP P T)(m:dR w0 X H β w)(hg:∀x,R w (Ex X β H) β H (g x) (a.eval x)){t:TypeId}{x:Operand}(ho:o.op=.sliceToArrayPointer t x)(hok:(rV T t (g x)).ok):mD P w0 X H β w a o (rV T t (g x)):=by
 have hx:=hg x;unfold rV at*;split at hok
 ·rename_i n e xs hk hgx;rw[hgx]at hx;simp only[kQ.cond]at hok|-;obtain⟨h0,h1,h2⟩:=hok;generalize hval:a.eval x=vx at hx;cases hx with
  |d _ _ hx=>
   cases hx with
   |sl0=>simp at h1;omega
   |sl _ b off c size us hne hb hs hlen hc hul h1c hlt hcell hp=>
    obtain⟨x0,r0,rfl⟩:=List.exists_cons_of_ne_nil hne;have hsz:size=(T e).size:=by rw[<-hs x0 aM];exact h2 x0 aM
    have hfl:=jS hs n;refine mD.plain m (v:=.pointer (some ⟨b,off,none⟩)) ?_ (.d _ _ (.ro _ b off (us.take (n*size)) hb ?_ (λu hu=>h1c u (List.mem_of_mem_take hu)) hlt (λj u hj=>?_) λi d v hd hv=>?_))
    ·have hu:=hT.arr hk;have hlen':¬(r0.length+1<n):=by simpa using h1
     simp[execOp,ho,hval,Instr.arrayAt,run_underlying hu,hlen']
    ·rw[hfl,List.length_take,List.length_take,flat_len hs,hul]
    ·rw[List.getElem?_take]at hj;split at hj
     ·exact hcell j u hj
     ·cases hj
    ·rw[hfl,List.getElem?_take]at hd;rw[List.getElem?_take]at hv;split at hd
     ·rename_i hi;rw[if_pos hi]at hv;exact hp i d v hd hv
     ·cases hd
 ·exact hok.elim
theorem QP(m:dR w0 X H β w)(hg:∀x,R w (Ex X β H) β H (g x) (a.eval x)){x:Operand}(ho:o.op=.assign x){r:Option kS}(hok:(bT P T H g r o).ok):mD P w0 X H β w a o (bT P T H g r o):=by
 simp only[bT,ho]at hok|-;split at hok
 ·rename_i e hgx hk ha;simp only at hok|-;have hpos:=hok;have hx:=hg x;rw[hgx]at hx;obtain⟨m2,g2⟩:=uS m ha hpos;have hform:∃b,a.eval x=.slice b 0 0:=by
   generalize a.eval x=v at hx;cases hx;exact⟨_,rfl⟩
  obtain⟨b,hb⟩:=hform;refine dE (v:=.slice b 0 0) (w':=w) (β':=cE β (o.dst.getD 0) none) (by simp[execOp,ho,hb]) (by simp only[cD];exact m2) (by simp only[cD];exact g2) ?_;simp only[cD];exact .ow0 _ 0 b false _ [] (by rw[aX]) (.inl ⟨by rw[aX],rfl⟩)
 ·exact Pl m hg x (.inr ho)
theorem DI(hT:fP P T)(hW:BS T)(m:dR w0 X H β w)(hg:∀x,R w (Ex X β H) β H (g x) (a.eval x)){r:Option kS}(hself:wQ r r)(hall:∀r',wQ r r'->(bT P T H g r' o).ok):Tw P w0 X H β w a o (λres=>∃r',wQ r r'/\res=bT P T H g r' o):=by
 have hok:=hall r hself;have det:mD P w0 X H β w a o (bT P T H g r o)->Tw P w0 X H β w a o (λres=>∃r',wQ r r'/\res=bT P T H g r' o):=λh=>h.toE ⟨r,hself,rfl⟩;cases ho:o.op with
 |move x=>refine det ?_;simp only[bT,ho]at hok|-;exact Pl m hg x (.inl ho)
 |assign x=>exact det (QP m hg ho hok)
 |pick c x y=>refine det ?_;simp only[bT,ho]at hok|-;exact Xp m hg ho hok
 |alloc t=>refine det ?_;simp only[bT,ho]at hok|-;exact TD hT m ho hok
 |box t x=>refine det ?_;simp only[bT,ho]at hok|-;exact Zt m hg ho hok
 |build t ps=>refine det ?_;simp only[bT,ho]at hok|-;exact TL hT m hg ho (hW.struct t) (hW.arr t) hok
 |buildSlice t n ps=>
  refine det ?_;simp only[bT,ho]at hok|-;by_cases h:BI r=true
  ·rw[if_pos h]at hok|-;exact Dv hT m hg ho (hW.slice t) hok
  ·rw[if_neg h]at hok|-;exact FC hT m hg ho (hW.slice t) hok
 |load t x=>
  refine det ?_;simp only[bT,ho]at hok|-;by_cases h:(T t).k.isNone=true
  ·rw[if_pos h]at hok;exact hok.elim
  ·rw[if_neg h]at hok|-;exact Xq hT m hg ho (by simpa using h) hok
 |store t x y=>
  refine det ?_;simp only[bT,ho]at hok|-;by_cases h:(T t).k.isNone=true
  ·rw[if_pos h]at hok;exact hok.elim
  ·rw[if_neg h]at hok|-;exact TF hT m hg ho (by simpa using h) hok
 |nilCheck x=>exact det (JA m hg ho hok)
 |binOp op t x y u=>
  have std:(if(T t).k.isPtr then qP op (g x) (g y)else fU (T t).eqk (T t).k.isBool op (g x) (g y)).ok->mD P w0 X H β w a o (if(T t).k.isPtr then qP op (g x) (g y)else fU (T t).eqk (T t).k.isBool op (g x) (g y)):=λhok=>by
   by_cases hp:(T t).k.isPtr=true
   ·rw[if_pos hp]at hok|-;exact Zs hT m hg ho hp hok
   ·rw[if_neg hp]at hok|-;exact Zr hT m hg ho hok (hW.eqk t)
  cases r with
  |none=>refine det ?_;simp only[bT,ho]at hok|-;exact std hok
  |some q=>cases q with
   |wrap=>refine det ?_;simp only[bT,ho]at hok|-;exact Xy m hg ho hok
   |nil e b=>
    simp only[bT,ho]at hok;by_cases hy:Dj y=true
    ·rw[if_pos hy]at hok;obtain⟨b',h1,h2⟩:=Zx hT m hg ho hy hok;refine h2.toE ⟨_,⟨b',h1,rfl⟩,?_⟩;simp only[bT,ho,if_pos hy]
    ·rw[if_neg hy]at hok;exact hok.elim
   |_=>refine det ?_;simp only[bT,ho]at hok|-;exact std hok
 |unOp op t x=>refine det ?_;simp only[bT,ho]at hok|-;exact aAB m hg ho hok
 |convert s t x=>refine det ?_;simp only[bT,ho]at hok|-;exact Xt hT m hg ho hok
 |makeFunc fn first cs=>
  cases fn with
  |func f=>refine det ?_;simp only[bT,ho]at hok|-;exact Jw m hg ho hok
  |_=>simp only[bT,ho]at hok;exact hok.elim
 |sliceToArrayPointer t x=>refine det ?_;simp only[bT,ho]at hok|-;exact TU hT m hg ho hok
 |slice t x lo hi mx=>
  refine det ?_;simp only[bT,ho]at hok|-;by_cases h:(mx.isSome&& !hi.isSome)=true
  ·rw[if_pos h]at hok;exact hok.elim
  ·rw[if_neg h]at hok|-;by_cases hi':(BI r&&mx.isSome)=true
   ·rw[if_pos hi']at hok|-;exact Zw hT m hg ho (hW.slice t) (by simp at hi';exact hi'.2) (λhm=>by cases hi<;>simp_all) hok
   rw[if_neg hi']at hok|-;exact TJ hT m hg ho (hW.slice t) (λhm=>by cases hi<;>simp_all) hok
 |fieldAddr s x f=>refine det ?_;simp only[bT,ho]at hok|-;exact TG hT m hg ho (hW.struct s) hok
 |field s x f=>refine det ?_;simp only[bT,ho]at hok|-;exact Xr hT m hg ho (hW.struct s) hok
 |indexAddr t x i=>refine det ?_;simp only[bT,ho]at hok|-;exact HH hT m hg ho (λe he=>he.elim (hW.slice t e) λ⟨n,hn⟩=>hW.arr t n e hn) hok
 |index t x i=>refine det ?_;simp only[bT,ho]at hok|-;exact TH hT m hg ho (λe n=>hW.arr t n e) hok
 |extract x i=>refine det ?_;simp only[bT,ho]at hok|-;exact Mv m hg ho hok
 |makeMap t r=>
  cases r with
  |none=>refine det ?_;simp only[bT,ho]at hok|-;exact MB m ho hok
  |some _=>simp only[bT,ho]at hok;exact hok.elim
 |lookup t x i ck=>refine det ?_;simp only[bT,ho]at hok|-;exact QM hT hW.eqk m hg ho hok
 |mapUpdate t x i y=>refine det ?_;simp only[bT,ho]at hok|-;exact Gb hT hW.eqk m hg (.inl ho) hok
 |insert t x i y=>refine det ?_;simp only[bT,ho]at hok|-;exact Gb hT hW.eqk m hg (.inr ho) hok
 |makeSlice t n c=>refine det ?_;simp only[bT,ho]at hok|-;exact Xx hT m hg ho (hW.slice t) hok
 |range t x=>
  refine det ?_;simp only[bT,ho]at hok|-;split at hok
  ·rename_i kt et hk;exact TQ hT m hg ho hk hok
  ·exact hok.elim
 |call c=>
  obtain⟨callee,args,ts⟩:=c;cases callee with
  |value f=>
   by_cases h:BI r=true
   ·refine det ?_;simp only[bT,ho]at hok|-;rw[if_pos h]at hok|-;exact TT hT m hg ho hok
   ·have hni:∀r',wQ r r'->BI r'=false:=λr' hr=>by
     cases r with
     |none=>rw[show r'=none from hr];rfl
     |some q=>cases q<;>first|(exact absurd rfl h)|(rw[show r'=_ from hr];rfl)|(obtain⟨_,_,_,rfl⟩:=hr;rfl)|(obtain⟨_,_,rfl⟩:=hr;rfl)|(obtain⟨_,_,_,_,rfl⟩:=hr;rfl)
    have e:∀r',wQ r r'->bT P T H g r' o=cT P H r' (o.dst.getD 0) (g f) (cS (g f)++args.toList.map g):=λr' hr=>by
     simp only[bT,ho,hni r' hr,Bool.false_eq_true,if_false]
    refine(Xu m hg ho hself λr' hr=>by rw[<-e r' hr];exact hall r' hr).mono ?_;rintro res ⟨r',hr,rfl⟩;exact⟨_,⟨r',hr,rfl⟩,by rw[e r' hr],by rw[e r' hr]⟩
  |invoke r mth=>simp only[bT,ho]at hok;exact hok.elim
  |builtin b=>
   have one:∀{x:LV} {t:TypeId},args.toList.map g=[x]->ts.toList=[t]->∃p,args= #[p]/\ts= #[t]/\g p=x:=λ{x t} h1 h2=>by
    obtain⟨l⟩:=args;obtain⟨tl⟩:=ts;simp only at h1 h2;subst h2
    match l,h1 with
    |[p],h1=>simp at h1;exact⟨p,rfl,rfl,h1⟩
   have two:∀{s x:LV} {t u:TypeId},args.toList.map g=[s,x]->ts.toList=[t,u]->∃p q,args= #[p,q]/\ts= #[t,u]/\g p=s/\g q=x:=λ{s x t u} h1 h2=>by
    obtain⟨l⟩:=args;obtain⟨tl⟩:=ts;simp only at h1 h2;subst h2
    match l,h1 with
    |[p,q],h1=>simp at h1;exact⟨p,q,rfl,rfl,h1.1,h1.2⟩
   simp only[bT,ho]at hok hall det|-;split at hok
   ·rename_i x t h1 h2;obtain⟨p,rfl,rfl,rfl⟩:=one h1 h2;refine det ?_;simp only[List.map_cons,List.map_nil];exact Zv hT m hg ho hok
   ·rename_i s x t u h1 h2;obtain⟨p,q,rfl,rfl,rfl,rfl⟩:=two h1 h2;by_cases h:t=u\/(T u).k.isStr=true
    ·rw[if_pos h]at hok;split at hok
     ·refine det ?_;simp only[List.map_cons,List.map_nil];rw[if_pos h];exact Jz hT m hg ho h (hW.slice t) hok
     ·obtain⟨c',k1,k2,k3⟩:=ME hT m hg ho h (hW.slice t) hok;refine k3.toE ⟨_,⟨c',k1,k2,rfl⟩,?_⟩;simp only[List.map_cons,List.map_nil];rw[if_pos h]
     ·refine MF hT m hg ho h (hW.slice t) hok λc' v' k1 k2=>⟨_,⟨c',v',k1,k2,rfl⟩,?_⟩;simp only[List.map_cons,List.map_nil];rw[if_pos h]
     ·refine det ?_;simp only[List.map_cons,List.map_nil];rw[if_pos h];exact MG hT m hg ho h (hW.slice t) hok
     ·rename_i n1 n2 n3 n4;refine det ?_;simp only[List.map_cons,List.map_nil];rw[if_pos h];by_cases hi:TB (g p)=true
      ·simp only[if_pos hi]at hok|-;exact MC hT m hg ho h (hW.slice t) hok
      ·simp only[if_neg hi]at hok|-;exact QH hT m hg ho h (hW.slice t) hok
    ·rw[if_neg h]at hok;refine det ?_;simp only[List.map_cons,List.map_nil];rw[if_neg h];by_cases hi:(T u).k.isInt=true
     ·rw[if_pos hi]at hok|-;exact MD hT m hg ho hi (hW.slice t) hok
     ·rw[if_neg hi]at hok;exact hok.elim
   ·rename_i x t h1 h2;obtain⟨p,rfl,rfl,rfl⟩:=one h1 h2;split at hok
    ·rename_i lo c hr;obtain⟨c',k1,k2,k3⟩:=Zy hT m hg ho hok;refine k3.toE ⟨_,⟨c',k1,k2,rfl⟩,?_⟩;simp only[List.map_cons,List.map_nil]
    ·refine det ?_;simp only[List.map_cons,List.map_nil];exact Xz hT m hg ho hok
   ·rename_i x t h1 h2;obtain⟨p,rfl,rfl,rfl⟩:=one h1 h2;refine det ?_;simp only[List.map_cons,List.map_nil];exact TS hT m hg ho (hW.slice t) hok
   ·rename_i s x t u h1 h2;obtain⟨p,q,rfl,rfl,rfl,rfl⟩:=two h1 h2;refine det ?_;simp only[List.map_cons,List.map_nil];by_cases hi:TB (g p)=true
    ·rw[if_pos hi]at hok|-;exact TR hT m hg ho (hW.slice t) hok
    ·rw[if_neg hi]at hok|-;exact Xw hT m hg ho (hW.slice t) hok
   ·refine det ?_;exact TM (mx:=false) m hg ho hok
   ·refine det ?_;exact TM (mx:=true) m hg ho hok
   ·rename_i x k t u h1 h2;obtain⟨p,q,rfl,rfl,rfl,rfl⟩:=two h1 h2;refine det ?_;simp only[List.map_cons,List.map_nil];exact QN hT hW.eqk m hg ho hok
   ·exact hok.elim
 |_=>simp only[bT,ho]at hok;exact hok.elim
theorem tB{g g':Operand->LV}{r:Option kS}(h:∀x∈o.op.operands,g x=g' x):bT P T H g r o=bT P T H g' r o:=by
 have pairs:∀ps:Array (Nat×Operand),(∀p∈ps.toList,g p.2=g' p.2)->(ps.toList.map λp=>(p.1,g p.2))=ps.toList.map λp=>(p.1,g' p.2):=λps hp=>
  List.map_congr_left λp hm=>by rw[hp p hm]
 obtain⟨dst,op,type,pos,after,guard⟩:=o;cases op<;>simp only[Op.operands,Call.operands]at h<;>simp only[bT]
 case move x=>rw[h x aM]
 case assign x=>rw[h x aM]
 case pick c x y=>rw[h c aM,h x aM,h y aM]
 case box t x=>rw[h x aM]
 case build t ps=>rw[pairs ps λp hp=>h p.2 (by simp;exact⟨p.1,by simpa using hp⟩)]
 case buildSlice t n ps=>rw[pairs ps λp hp=>h p.2 (by simp;exact⟨p.1,by simpa using hp⟩)]
 case load t x=>rw[h x aM]
 case store t x y=>rw[h x aM,h y aM]
 case nilCheck x=>rw[h x aM]
 case binOp op t x y u=>rw[h x aM,h y aM]
 case unOp op t x=>rw[h x aM]
 case convert s t x=>rw[h x aM]
 case makeFunc fn first cs=>
  cases fn<;>simp only[];rw[List.map_congr_left λx hx=>h x (by simp;exact .inr (by simpa using hx)),show first.toList.map g=first.toList.map g' from List.map_congr_left λx hx=>h x (by simp;exact .inl (by simpa using hx))]
 case sliceToArrayPointer t x=>rw[h x aM]
 case slice t x lo hi mx=>
  have e:∀y:Option Operand,(∀z∈y,g z=g' z)->y.map g=y.map g':=λy hy=>by cases y with
   |none=>rfl
   |some z=>simp[hy z aM]
  rw[h x aM,e lo (λz hz=>h z (by simp at hz;simp[hz])),e hi (λz hz=>h z (by simp at hz;simp[hz])),e mx (λz hz=>h z (by simp at hz;simp[hz]))]
 case fieldAddr s x f=>rw[h x aM]
 case field s x f=>rw[h x aM]
 case makeSlice t n c=>rw[h n aM,h c aM]
 case indexAddr t x i=>rw[h x aM,h i aM]
 case index t x i=>rw[h x aM,h i aM]
 case extract x i=>rw[h x aM]
 case makeMap t r=>cases r<;>rfl
 case lookup t x i ck=>rw[h x aM,h i aM]
 case mapUpdate t x i y=>rw[h x aM,h i aM,h y aM]
 case insert t x i y=>rw[h x aM,h i aM,h y aM]
 case range t x=>split<;>first|rw[h x aM]|rfl
 case call c=>
  obtain⟨callee,args,ts⟩:=c;have ea:args.toList.map g=args.toList.map g':=List.map_congr_left λx hx=>h x (by simp;exact .inr (by simpa using hx));cases callee with
  |value f=>simp only[ea];rw[h f aM]
  |invoke r m=>rfl
  |builtin b=>simp only[ea]
def strip:LV->LV
 | .when _ x=>x
 |x=>x
def Gd:LV->Bool
 | .when c _=>c
 |_=>true
def AS(want:Bool):LV->Option Bool
 | .d (.bool b)=>some (b==want)
 | .when c (.d (.bool b))=>some (c&&(b==want))
 |_=>none
def kL:Op->List Operand
 | .pick c _ _=>[c]
 |op=>op.operands.toList
def iO(P:Program)(T:TypeId->fE)(H:Nat->bB)(g:Operand->LV)(r:Option kS)(o:Oper):kQ:=
 match o.op with
 | .pick c x y=>nP (strip (g c)) (g x) (g y)
 |_=>bT P T H (λx=>strip (g x)) r o
def iW(P:Program)(T:TypeId->fE)(slots:Nat->Option Nat)(env:Nat->LV)(H:Nat->bB)(r:Option kS)(o:Oper):kQ:=
 match o.guard with
 |none=>bT P T H (kH env) r o
 |some (j,want)=>match(slots j).map λd=>AS want (env d)with
  |some (some ec)=>⟨.when ec (iO P T H (kH env) r o).v,(ec=true->(iO P T H (kH env) r o).ok)/\(ec=true->∀x∈kL o.op,Gd (kH env x)=true),if ec=true then(iO P T H (kH env) r o).up else []⟩
  |_=>.fail
theorem R.strip{x:LV}{v:Value}(h:R w E β H x v)(hc:Gd x=true):R w E β H (Eng.strip x) v:=by
 cases x<;>try exact h
 cases h with|when _ _ _ h _=>exact h hc
def uX(r:Option kS):Prop:=wQ r r/\∀r',wQ r r'->r'=r
theorem JB(hT:fP P T)(hW:BS T)(m:dR w0 X H β w)(hg:∀x,R w (Ex X β H) β H (g x) (a.eval x)){r:Option kS}(hself:wQ r r)(hall:∀r',wQ r r'->(iO P T H g r' o).ok)(hc:∀x∈kL o.op,Gd (g x)=true):
 Tw P w0 X H β w a o (λres=>∃r',wQ r r'/\res=iO P T H g r' o):=by
 classical
 have hother:(∀c x y,o.op≠ .pick c x y)->Tw P w0 X H β w a o (λres=>∃r',wQ r r'/\res=iO P T H g r' o):=by
  intro hnp;have e1:∀r,iO P T H g r o=bT P T H (λx=>strip (g x)) r o:=λr=>by
   unfold iO;split
   ·rename_i h;exact absurd h (hnp _ _ _)
   ·rfl
  have e0:kL o.op=o.op.operands.toList:=by
   unfold kL;split
   ·rename_i h;exact absurd h (hnp _ _ _)
   ·rfl
  rw[e0]at hc
  let g2:Operand->LV:=λx=>if x∈o.op.operands then strip (g x)else .junk
  have e2:∀r,bT P T H (λx=>strip (g x)) r o=bT P T H g2 r o:=λr=>tB λx hx=>by simp[g2,hx]
  have e3:∀r,iO P T H g r o=bT P T H g2 r o:=λr=>(e1 r).trans (e2 r);simp only[e3]at hall|-;refine DI hT hW m (λx=>?_) hself hall;by_cases hx:x∈o.op.operands
  ·simp only[g2,hx,if_true];exact(hg x).strip (hc x (by simpa using hx))
  ·simp only[g2,hx,if_false];exact .junk _
 cases ho:o.op with
 |pick c x y=>
  have hok:=hall r hself;refine mD.toE (r:=iO P T H g r o) ?_ ⟨r,hself,rfl⟩;simp only[iO,ho]at hok|-;exact Dq m ((hg c).strip (hc c (by simp[ho,kL]))) (hg x) (hg y) ho hok
 |_=>exact hother (by intro _ _ _;rw[ho];simp)
def mH(env:Nat->LV)(dst:Option Nat)(l:LV):Nat->LV:=match dst with|some d=>cE env d l|none=>env
def BT(N:Nat)(dst:Option Nat):Prop:=match dst with|some d=>d<N|none=>True
def fC(P:Program)(T:TypeId->fE)(N:Nat)(slots:Nat->Option Nat)(orc:Nat->Option kS)(st:uC)(o:Oper):uC:=
 let r:=iW P T slots st.env st.H (orc (o.dst.getD 0)) o
 {env:=mH st.env o.dst r.v
  H:=bW st.H r.up
  ok:=st.ok/\r.ok/\BT N o.dst}
theorem TV{a:Act}{d:Nat}(hd:d<a.tmps.size)(v:Value)(t:Nat):(a.put (some d) v).tmps.getD t undef=if t=d then v else a.tmps.getD t undef:=by
 simp only[Act.put,Array.getD_eq_getD_getElem?,Array.getElem?_setIfInBounds];by_cases h:t=d
 ·subst h;simp[hd]
 ·rw[if_neg (λe=>h e.symm),if_neg h]
theorem mC.get{N:Nat}{env:Nat->LV}(s:mC N w0 X env H β a w)(x:Operand):R w (Ex X β H) β H (kH env x) (a.eval x):=by
 cases x with
 |tmp t=>exact s.env t
 |const v=>exact .const v
 |global g=>
  cases e:globD g with
  |none=>simp only[kH,e];exact .junk _
  |some cs=>simp only[kH,e];exact .d _ _ (s.mem.glob g cs e).1
 |func f=>exact .fn0 f
theorem mC.put{N:Nat}{env:Nat->LV}(s:mC N w0 X env H β a w){H':Nat->bB}{β':Nat->Option Nat}{w':World}(m:dR w0 X H' β' w')(gg:eT X H β w H' β' w'){dst:Option Nat}{l:LV}{v:Value}
 (hv:R w' (Ex X β' H') β' H' l v)(hd:BT N dst):mC N w0 X (mH env dst l) H' β' (a.put dst v) w':=by
 refine⟨?_,?_,m.ext,m.xold,m.fresh,m.inj,λt=>?_,m.obj,m.pin⟩
 ·cases dst<;>exact gg.marks s.defers
 ·cases dst with
  |none=>exact s.size
  |some d=>simp only[Act.put,Array.size_setIfInBounds];exact s.size
 ·cases dst with
  |none=>exact gg.R (s.env t)
  |some d=>
   simp only[BT,mH]at hd|-;rw[TV (by rw[s.size];exact hd)];unfold cE;split
   ·exact hv
   ·exact gg.R (s.env t)
theorem DJ{N:Nat}{env:Nat->LV}(s:mC N w0 X env H β a w){ops:Array Oper}{j d:Nat}{want ec:Bool}(hs:(ops[j]?).bind (·.dst)=some d)(hd:d<N)(hc:AS want (env d)=some ec)
 (hg:o.guard=some (j,want)):Region.wanted o (yielded ops a.tmps)=ec:=by
 have hv:=s.env d;have hdv:a.tmps[d]? =some (a.tmps.getD d undef):=by
  have:d<a.tmps.size:=by rw[s.size];exact hd
  simp[Array.getD_eq_getD_getElem?,this]
 have hy:∀b,a.tmps.getD d undef=.bool b->yielded ops a.tmps j=some b:=λb hb=>by
  unfold yielded;rw[hs];simp[hdv,hb]
 unfold Region.wanted;rw[hg];simp only;unfold AS at hc;split at hc
 ·rename_i b he;injection hc with hc
  subst hc;rw[he]at hv;rw[hy b hv.bool];cases b<;>cases want<;>rfl
 ·rename_i c b he;injection hc with hc
  subst hc;rw[he]at hv;cases hv with
  |when _ _ _ hv h0=>
   cases c with
   |true=>rw[hy b (hv rfl).bool];cases b<;>cases want<;>rfl
   |false=>
    have hn:yielded ops a.tmps j=none:=by
     unfold yielded;rw[hs];simp only[Option.bind_some,hdv,h0 rfl];rfl
    rw[hn];cases want<;>rfl
 ·cases hc
theorem yJ(hT:fP P T)(hW:BS T){N:Nat}{ops:Array Oper}{slots:Nat->Option Nat}(hsl:∀j d,slots j=some d->(ops[j]?).bind (·.dst)=some d/\d<N){r:Option kS}{st:uC}
 (s:mC N w0 X st.env st.H β a w)(hself:wQ r r)(hok:∀r',wQ r r'->(fC P T N slots (λ_=>r') st o).ok){K:Act->World->Prop}{Q:Exit->Act->World->Prop}
 (hK:∀r',wQ r r'->∀a' w' β',mC N w0 X (fC P T N slots (λ_=>r') st o).env (fC P T N slots (λ_=>r') st o).H β' a' w'->K a' w'):
 if Region.wanted o (yielded ops a.tmps)then o.wp P a w K Q\/(o.asks P a w/\LetsOut Q)else K (a.put o.dst undef) w:=by
 have hok1:=λr' h=>(hok r' h).1;have hok2:=λr' h=>(hok r' h).2.1;have hok3:=(hok r hself).2.2;clear hok;simp only[fC]at hK hok2;cases hg:o.guard with
 |none=>
  have e:∀r,iW P T slots st.env st.H r o=bT P T st.H (kH st.env) r o:=λr=>by unfold iW;rw[hg]
  simp only[e]at hK hok2;rw[if_pos (by simp[Region.wanted,hg])];left;refine DI hT hW s.mem s.get hself hok2 K Q ?_;rintro res ⟨r',h',rfl⟩ v w' β' m gg hv;exact hK r' h' _ _ β' (s.put m gg hv hok3)
 |some p=>
  obtain⟨j,want⟩:=p;unfold iW at hK hok2;simp only[hg]at hK hok2;have hok20:=hok2 r hself;split at hok20
  ·rename_i ec hec;simp only[hec]at hK hok2;obtain⟨q1,q2⟩:=hok20;obtain⟨d,hd1,hd2⟩:=Option.map_eq_some_iff.1 hec;obtain⟨hd3,hd4⟩:=hsl j d hd1;rw[DJ s hd3 hd4 hd2 hg];cases ec with
   |true=>
    simp only[if_true];left;refine JB hT hW s.mem s.get hself (λr' h'=>(hok2 r' h').1 rfl) (q2 rfl) K Q ?_;rintro res ⟨r',h',rfl⟩ v w' β' m gg hv;refine hK r' h' _ _ β' ?_;exact s.put m gg (.when true _ v (λ_=>hv) (λh=>by cases h)) hok3
   |false=>
    simp only[Bool.false_eq_true,if_false];exact hK r hself _ _ β (s.put s.mem eT.refl (.when false _ undef (λh=>by cases h) (λ_=>rfl)) hok3)
  ·exact hok20.elim
theorem CS{N:Nat}{slots:Nat->Option Nat}{orc:Nat->Option kS}:∀(l:List Oper) (st:uC),(l.foldl (fC P T N slots orc) st).ok->st.ok
 |[],_,h=>h
 |o::l,st,h=>(CS l _ h).1
theorem pS(hT:fP P T)(hW:BS T){N:Nat}{ops:Array Oper}{slots:Nat->Option Nat}(hsl:∀j d,slots j=some d->(ops[j]?).bind (·.dst)=some d/\d<N){orc:Nat->Option kS}{Q:Exit->Act->World->Prop}:
 ∀(l:List Oper) (st:uC) (β:Nat->Option Nat) (a:Act) (w:World),(∀o∈l,uX (orc (o.dst.getD 0)))->mC N w0 X st.env st.H β a w->(l.foldl (fC P T N slots orc) st).ok->
  (∀a' w' β',mC N w0 X (l.foldl (fC P T N slots orc) st).env (l.foldl (fC P T N slots orc) st).H β' a' w'->Q .normal a' w')->wpList P ops Q l a w
 |[],st,β,a,w,_,s,_,hQ=>hQ a w β s
 |o::l,st,β,a,w,hd,s,hok,hQ=>by
  obtain⟨d1,d2⟩:=hd o aM;have e:∀r',wQ (orc (o.dst.getD 0)) r'->fC P T N slots (λ_=>r') st o=fC P T N slots orc st o:=λr' h=>by rw[d2 r' h];rfl
  have:=yJ (P:=P) (T:=T) hT hW (o:=o) hsl (r:=orc (o.dst.getD 0)) s d1 (λr' h=>by rw[e r' h];exact CS l _ hok) (K:=wpList P ops Q l) (Q:=Q) λr' h a' w' β' s'=>by
   rw[e r' h]at s';exact pS hT hW hsl l _ β' a' w' (λo ho=>hd o (by simp[ho])) s' hok hQ
  unfold wpList;exact this
structure JC{ι:Type}(orcs:ι->Nat->Option kS)(Φ:ι->Prop)(d0:Nat):Prop where
 base:∀i j,Φ i->Φ j->∀d,d≠d0->orcs i d=orcs j d
 det:∀i,Φ i->∀d,d≠d0->uX (orcs i d)
 self:∀i,Φ i->wQ (orcs i d0) (orcs i d0)
 alt:∀i,Φ i->∀r',wQ (orcs i d0) r'->∃j,Φ j/\orcs j d0=r'
theorem BU{N:Nat}{slots:Nat->Option Nat}{orc orc':Nat->Option kS}{st:uC}(h:orc (o.dst.getD 0)=orc' (o.dst.getD 0)):fC P T N slots orc st o=fC P T N slots orc' st o:=by
 unfold fC;rw[h]
theorem BV(hT:fP P T)(hW:BS T){N:Nat}{ops:Array Oper}{slots:Nat->Option Nat}(hsl:∀j d,slots j=some d->(ops[j]?).bind (·.dst)=some d/\d<N){ι:Type}{orcs:ι->Nat->Option kS}{Φ:ι->Prop}{d0:Nat}(G:JC orcs Φ d0){Q:Exit->Act->World->Prop}(i0:ι)(h0:Φ i0):
 ∀(l:List Oper) (st:uC) (β:Nat->Option Nat) (a:Act) (w:World),(l.filter λo=>o.dst.getD 0==d0).length<=1->mC N w0 X st.env st.H β a w->(∀i,Φ i->(l.foldl (fC P T N slots (orcs i)) st).ok)->
  (∀i,Φ i->∀a' w' β',mC N w0 X (l.foldl (fC P T N slots (orcs i)) st).env (l.foldl (fC P T N slots (orcs i)) st).H β' a' w'->Q .normal a' w')->wpList P ops Q l a w
 |[],st,β,a,w,_,s,_,hQ=>hQ i0 h0 a w β s
 |o::l,st,β,a,w,hc,s,hok,hQ=>by
  by_cases hd:o.dst.getD 0=d0
  ·have hno:∀o'∈l,o'.dst.getD 0≠d0:=λo' ho' e=>by
    rw[List.filter_cons,if_pos (by simp[hd])]at hc;have:o'∈l.filter λo=>o.dst.getD 0==d0:=List.mem_filter.2 ⟨ho',by simp[e]⟩;have:=List.length_pos_of_mem this;simp at hc;exact hc o' ho' e
   have e:∀i r',orcs i d0=r'->fC P T N slots (λ_=>r') st o=fC P T N slots (orcs i) st o:=λi r' h=>BU (by rw[hd,h]);have:=yJ (P:=P) (T:=T) hT hW (o:=o) hsl (r:=orcs i0 d0) s (G.self i0 h0) (λr' h=>by
    obtain⟨j,hj,hr⟩:=G.alt i0 h0 r' h;rw[e j r' hr];exact CS l _ (hok j hj)) (K:=wpList P ops Q l) (Q:=Q) λr' h a' w' β' s'=>by
    obtain⟨j,hj,hr⟩:=G.alt i0 h0 r' h;rw[e j r' hr]at s';exact pS hT hW hsl l _ β' a' w' (λo' ho'=>G.det j hj _ (hno o' ho')) s' (hok j hj) (hQ j hj)
   unfold wpList;exact this
  ·obtain⟨d1,d2⟩:=G.det i0 h0 _ hd;have e:∀i,Φ i->fC P T N slots (orcs i) st o=fC P T N slots (orcs i0) st o:=λi hi=>BU (G.base i i0 hi h0 _ hd);have e2:∀r',wQ (orcs i0 (o.dst.getD 0)) r'->fC P T N slots (λ_=>r') st o=fC P T N slots (orcs i0) st o:=λr' h=>by rw[d2 r' h];rfl
   have:=yJ (P:=P) (T:=T) hT hW (o:=o) hsl (r:=orcs i0 (o.dst.getD 0)) s d1 (λr' h=>by rw[e2 r' h];exact CS l _ (hok i0 h0)) (K:=wpList P ops Q l) (Q:=Q) λr' h a' w' β' s'=>by
    rw[e2 r' h]at s';refine BV hT hW hsl G i0 h0 l _ β' a' w' ?_ s' (λi hi=>?_) λi hi=>?_
    ·rw[List.filter_cons,if_neg (by simpa using hd)]at hc;exact hc
    ·have:=hok i hi;simp only[List.foldl_cons]at this;rw[e i hi]at this;exact this
    ·have:=hQ i hi;simp only[List.foldl_cons]at this;rw[e i hi]at this;exact this
   unfold wpList;exact this
end
end
end Go.Eng
